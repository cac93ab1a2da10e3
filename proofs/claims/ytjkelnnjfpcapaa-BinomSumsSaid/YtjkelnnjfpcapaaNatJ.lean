/- nat: Cmp, Sub: the calls do what numbers do. -/
import Derived.Test.YtjkelnnjfpcapaaNatH
import Derived.Deep.RegionWith
namespace Go.Proofs.Ytjkelnnjfpcapaa.Num
open Go.RowKit Go.Shelf Go.Proofs.Ytjkelnnjfpcapaa.PNat Go.Proofs.YtjkelnnjfpcapaaW Go.Proofs.YtjkelnnjfpcapaaW.PrintWords Go.Proofs.YtjkelnnjfpcapaaW.PrintLast Go.Proofs.YtjkelnnjfpcapaaW.PrintMore

theorem wv_split : ∀ (n : Nat) (l : List Int), wv l = wv (l.take n) + 2 ^ (64 * n) * wv (l.drop n)
  | 0, l => by simp [wv]
  | n + 1, [] => by simp [wv]
  | n + 1, x :: r => by
    rw [List.take_succ_cons, List.drop_succ_cons, wv, wv, wv_split n r, show 64 * (n + 1) = 64 * n + 64 from by omega, Nat.pow_add, Nat.mul_add, Nat.mul_comm (2 ^ (64 * n)) (2 ^ 64), Nat.mul_assoc]
    generalize 2 ^ (64 * n) * wv (r.drop n) = Z
    omega
theorem Wd.take {l : List Int} (h : Wd l) (n : Nat) : Wd (l.take n) := fun x hx => h x (List.mem_of_mem_take hx)
theorem wv_take_lt {l : List Int} (h : Wd l) (n : Nat) : wv (l.take n) < 2 ^ (64 * n) :=
  Nat.lt_of_lt_of_le (wv_lt (h.take n)) (Nat.pow_le_pow_right (by omega) (by have := List.length_take_le n l; omega))
theorem wv_cmp_lt {a b : List Int} (n : Nat) (ha : Wd a) (h : wv (a.drop n) < wv (b.drop n)) : wv a < wv b := by
  have h1 := wv_split n a
  have h2 := wv_split n b
  have h3 := wv_take_lt ha n
  have h4 : 2 ^ (64 * n) * (wv (a.drop n) + 1) ≤ 2 ^ (64 * n) * wv (b.drop n) := Nat.mul_le_mul_left _ h
  rw [Nat.mul_add, Nat.mul_one] at h4
  generalize 2 ^ (64 * n) * wv (a.drop n) = X at *
  generalize 2 ^ (64 * n) * wv (b.drop n) = Y at *
  generalize 2 ^ (64 * n) = Q at *
  omega
theorem cmp_lt {m n : Nat} (h : m < n) : cmp m n = -1 := by rw [cmp, if_pos h]
theorem cmp_gt {m n : Nat} (h : n < m) : cmp m n = 1 := by rw [cmp, if_neg (by omega), if_pos h]
theorem cmp_eq {m n : Nat} (h : m = n) : cmp m n = 0 := by rw [cmp, if_neg (by omega), if_neg (by omega)]
set_option maxHeartbeats 1600000 in
set_option maxRecDepth 100000 in
theorem ncmp_calls (A0 : Option Addr) (c0 : Nat) (l0 : List Int) (A1 : Option Addr) (c1 : Nat) (l1 : List Int) (w : World) (hr0 : Kd.C (Kd.int .u64) w A0 l0.length l0) (hr1 : Kd.C (Kd.int .u64) w A1 l1.length l1) (hw0 : Wd l0) (hw1 : Wd l1) (hl0 : l0.length ≤ 100000) (hl1 : l1.length ≤ 100000) :
    Calls Try.prog 30 #[.slice A0 l0.length c0, .slice A1 l1.length c1] w fun e w' => e = .returned (.int .i64 (cmp (wv l0) (wv l1))) ∧ w = w' := by
  have HR0 := Aside0.mk hr0
  have HR1 := Aside0.mk hr1
  have HW0 := Aside0.mk hw0
  have HW1 := Aside0.mk hw1
  clear hr0 hr1 hw0 hw1
  obtain ⟨n, hn⟩ : ∃ n : Nat, n = if l0.length < l1.length then l1.length else l0.length := ⟨_, rfl⟩
  have hn0 : l0.length ≤ n := by rw [hn]; split <;> omega
  have hn1 : l1.length ≤ n := by rw [hn]; split <;> omega
  have hn2 : n ≤ 100000 := by rw [hn]; split <;> omega
  have hmax := fun ats ty => max_len ats ty l0.length l1.length n hn
  clear hn
  go_enter Try.func30, Try.ntmps30
  go_wp2
  go_loop [5] (fun v5 => ∃ (k : Nat), k ≤ n ∧ v5 = .int .i64 ((k : Int) - 1) ∧ Aside0 (wv (l0.drop k) = wv (l1.drop k)))
    (fun v5 => (intOf v5 + 1).toNat)
  case atStart => exact ⟨n, Nat.le_refl _, rfl, ⟨by rw [List.drop_of_length_le hn0, List.drop_of_length_le hn1]⟩⟩
  case round =>
    obtain ⟨k, hk, rfl, HE⟩ := hrel
    by_cases hlt : 0 < k
    · obtain ⟨k, rfl⟩ : ∃ m, k = m + 1 := ⟨k - 1, by omega⟩
      rw [show ((k + 1 : Nat) : Int) - 1 = (k : Int) from by push_cast; omega]
      have hx := HW0.out.rd (k : Int)
      have hy := HW1.out.rd (k : Int)
      have hd0 := Aside0.mk (wv_drop l0 k)
      have hd1 := Aside0.mk (wv_drop l1 k)
      have HL : Aside0 (rd l0 (k : Int) < rd l1 (k : Int) → cmp (wv l0) (wv l1) = -1) := ⟨fun h => cmp_lt (wv_cmp_lt k HW0.out (by rw [hd0.out, hd1.out, HE.out]; omega))⟩
      have HG : Aside0 (rd l1 (k : Int) < rd l0 (k : Int) → cmp (wv l0) (wv l1) = 1) := ⟨fun h => cmp_gt (wv_cmp_lt k HW1.out (by rw [hd0.out, hd1.out, HE.out]; omega))⟩
      have HN : Aside0 (rd l0 (k : Int) = rd l1 (k : Int) → wv (l0.drop k) = wv (l1.drop k)) := ⟨fun h => by rw [hd0.out, hd1.out, HE.out, h]⟩
      clear hd0 hd1 HE
      have hA0 := Aside0.mk (at_calls A0 c0 l0 k w HR0.out)
      have hA1 := Aside0.mk (at_calls A1 c1 l1 k w HR1.out)
      generalize rd l0 (k : Int) = x at *
      generalize rd l1 (k : Int) = y at *
      go_wp2_with (first
        | (go_at_call 52; (with_reducible refine hA0.out.mono ?_); rintro e w' ⟨rfl, rfl⟩)
        | (go_at_call 52; (with_reducible refine hA1.out.mono ?_); rintro e w' ⟨rfl, rfl⟩)
        | fail)
      · have hc := HL.out (by assumption)
        go_ret
        exact ⟨by rw [hc]; rfl, rfl⟩
      · have hc := HG.out (by assumption)
        go_ret
        exact ⟨by rw [hc]; rfl, rfl⟩
      · go_round
        case rel => exact ⟨k, by omega, rfl, ⟨HN.out (by omega)⟩⟩
        case measure => simp [intOf]
    · obtain rfl : k = 0 := by omega
      go_wp2
      go_ret
      exact ⟨by rw [cmp_eq (by simpa using HE.out)]; rfl, rfl⟩

theorem ncmp_of (A0 : Option Addr) (n0 c0 : Nat) (l0 : List Int) (hn0 : l0.length = n0) (A1 : Option Addr) (n1 c1 : Nat) (l1 : List Int) (hn1 : l1.length = n1) (w : World) (hr0 : Kd.C (Kd.int .u64) w A0 l0.length l0) (hr1 : Kd.C (Kd.int .u64) w A1 l1.length l1) (hw0 : Wd l0) (hw1 : Wd l1) (hl0 : n0 ≤ 100000) (hl1 : n1 ≤ 100000) :
    Calls Try.prog 30 #[.slice A0 n0 c0, .slice A1 n1 c1] w fun e w' => e = .returned (.int .i64 (cmp (wv l0) (wv l1))) ∧ w = w' := by
  subst hn0 hn1
  exact ncmp_calls A0 c0 l0 A1 c1 l1 w hr0 hr1 hw0 hw1 hl0 hl1
theorem nadd_of (A0 : Option Addr) (n0 c0 : Nat) (l0 : List Int) (hn0 : l0.length = n0) (A1 : Option Addr) (n1 c1 : Nat) (l1 : List Int) (hn1 : l1.length = n1) (w : World) (hr0 : Kd.C (Kd.int .u64) w A0 l0.length l0) (hr1 : Kd.C (Kd.int .u64) w A1 l1.length l1) (hw0 : Wd l0) (hw1 : Wd l1) (hl0 : n0 ≤ 100000) (hl1 : n1 ≤ 100000) :
    Calls Try.prog 28 #[.slice A0 n0 c0, .slice A1 n1 c1] w (Res w (wv l0 + wv l1)) := by
  subst hn0 hn1
  exact nadd_calls A0 c0 l0 A1 c1 l1 w hr0 hr1 hw0 hw1 hl0 hl1
/-- A number, and whether there is one. -/
def ResOk (w : World) (n : Nat) (ok : Bool) (e : Ending) (w' : World) : Prop :=
  ∃ A c, e = .returned (.tuple #[.slice A (nw n).length c, .bool ok]) ∧ (nw n).length ≤ c ∧ Kd.C (Kd.int .u64) w' A (nw n).length (nw n) ∧ Below w.heap.size w w'
set_option maxHeartbeats 1600000 in
set_option maxRecDepth 100000 in
theorem nsub_less (A0 : Option Addr) (n0 c0 : Nat) (l0 : List Int) (hn0 : l0.length = n0) (A1 : Option Addr) (n1 c1 : Nat) (l1 : List Int) (hn1 : l1.length = n1) (w : World) (hr0 : Kd.C (Kd.int .u64) w A0 l0.length l0) (hr1 : Kd.C (Kd.int .u64) w A1 l1.length l1) (hw0 : Wd l0) (hw1 : Wd l1) (hl0 : n0 ≤ 100000) (hl1 : n1 ≤ 100000) (hlt : wv l0 < wv l1) :
    Calls Try.prog 25 #[.slice A0 n0 c0, .slice A1 n1 c1] w fun e w' => e = .returned (.tuple #[.slice none 0 0, .bool false]) ∧ w = w' := by
  have h := ncmp_of A0 n0 c0 l0 hn0 A1 n1 c1 l1 hn1 w hr0 hr1 hw0 hw1 hl0 hl1
  rw [cmp_lt hlt] at h
  have HC := Aside0.mk h
  clear hr0 hr1 hw0 hw1 h hn0 hn1 hlt
  go_enter Try.func25, Try.ntmps25
  go_wp2_with (first
    | (go_at_call 30; (with_reducible refine HC.out.mono ?_); rintro e w' ⟨rfl, rfl⟩)
    | fail)
  go_ret2
  exact ⟨rfl, rfl⟩
theorem sub_step {P Q c A B s o x y : Nat} (h1 : A + Q * c = P + B) (h2 : s + y + c = x + 18446744073709551616 * o) : A + Q * x + Q * 18446744073709551616 * o = P + Q * s + (B + Q * y) := by
  have h3 : Q * (s + y + c) = Q * (x + 18446744073709551616 * o) := by rw [h2]
  rw [Nat.mul_add, Nat.mul_add, Nat.mul_add, ← Nat.mul_assoc] at h3
  omega
set_option maxHeartbeats 1600000 in
set_option maxRecDepth 100000 in
theorem nsub_calls (A0 : Option Addr) (c0 : Nat) (l0 : List Int) (A1 : Option Addr) (c1 : Nat) (l1 : List Int) (w : World) (hr0 : Kd.C (Kd.int .u64) w A0 l0.length l0) (hr1 : Kd.C (Kd.int .u64) w A1 l1.length l1) (hw0 : Wd l0) (hw1 : Wd l1) (hl0 : l0.length ≤ 100000) (hl1 : l1.length ≤ 100000) (hle : wv l1 ≤ wv l0) :
    Calls Try.prog 25 #[.slice A0 l0.length c0, .slice A1 l1.length c1] w (ResOk w (wv l0 - wv l1) true) := by
  have h := ncmp_of A0 l0.length c0 l0 rfl A1 l1.length c1 l1 rfl w hr0 hr1 hw0 hw1 hl0 hl1
  have hcm : 0 ≤ cmp (wv l0) (wv l1) := by rw [cmp, if_neg (by omega)]; split <;> decide
  have HC := Aside0.mk h
  clear h
  have HR0 := Aside0.mk hr0
  have HR1 := Aside0.mk hr1
  have HW0 := Aside0.mk hw0
  have HW1 := Aside0.mk hw1
  have HLE := Aside0.mk hle
  clear hr0 hr1 hw0 hw1 hle
  generalize cmp (wv l0) (wv l1) = cm at hcm HC
  have hmk := print_make (P := Try.prog) 23 35 .u64 8 Try.underlying23 info35 (by decide) l0.length (by omega)
  obtain ⟨n, hn⟩ : ∃ n : Nat, n = l0.length := ⟨_, rfl⟩
  rw [← hn] at hmk HC hl0
  rw [show Calls Try.prog 25 #[.slice A0 l0.length c0, .slice A1 l1.length c1] w (ResOk w (wv l0 - wv l1) true) = Calls Try.prog 25 #[.slice A0 n c0, .slice A1 l1.length c1] w (ResOk w (wv l0 - wv l1) true) from by rw [hn]]
  have HN := Aside0.mk hn
  clear hn
  go_enter Try.func25, Try.ntmps25
  go_wp2_with (first
    | (go_at_call 30; (with_reducible refine HC.out.mono ?_); rintro e w' ⟨rfl, rfl⟩)
    | fail)
  go_loopw [7, 18] (fun v7 v18 wr => ∃ (k r : Nat) (c : Int) (p : List Int), k + r = n ∧ p.length = k ∧ v18 = .int .i64 k ∧ v7 = .int .u64 c ∧ 0 ≤ c ∧ c ≤ 1 ∧ w.heap.size < wr.heap.size ∧
      Aside0 (Wd p ∧ wv (l0.take k) + 2 ^ (64 * k) * c.toNat = wv p + wv (l1.take k)) ∧ Aside0 ((Kd.int .u64).R 35 wr w.heap.size (fun _ => True) (.slice (some ⟨w.heap.size, 0, none⟩) n n) (p ++ List.replicate r 0)) ∧ Aside0 (Below w.heap.size w wr))
    (fun _ v18 _ => n - (intOf v18).toNat)
  case atStart => exact ⟨0, n, 0, [], by omega, rfl, rfl, rfl, by omega, by omega, by simp, ⟨(fun _ h => nomatch h), by simp [wv]⟩, ⟨made_R w _ _ (Nat.le_refl _) (by omega)⟩, ⟨below_alloc (Below.refl _ _) _⟩⟩
  case round =>
    obtain ⟨k, r, c, p, hkr, hpk, rfl, rfl, hc0, hc1, hhs, HV, HO, HB⟩ := hrel
    have hC0 := Aside0.mk (Kd.C_below HR0.out HB.out)
    have hC1 := Aside0.mk (Kd.C_below HR1.out HB.out)
    by_cases hlt : k < n
    · obtain ⟨r, rfl⟩ : ∃ m, r = m + 1 := ⟨r - 1, by omega⟩
      have hx := HW0.out.rd (k : Int)
      have hy := HW1.out.rd (k : Int)
      have T0 := Aside0.mk (wv_take_succ l0 k)
      have T1 := Aside0.mk (wv_take_succ l1 k)
      have hAt := Aside0.mk (at_calls A1 c1 l1 k wr.drew (Kd.C_drew hC1.out))
      obtain ⟨ad, e, hcr⟩ := Kd.at_int hC0.out (k : Int) (by omega) (by have := HN.out; omega)
      subst e
      rw [Int.toNat_natCast] at hcr
      obtain ⟨s, o, q1, q2, q3, q4, q5, hrun⟩ := sub64 (rd l0 k) (rd l1 k) c hx hy ⟨hc0, hc1⟩
      have hNew : Aside0 (Wd (p ++ [s]) ∧ wv (l0.take (k + 1)) + 2 ^ (64 * (k + 1)) * o.toNat = wv (p ++ [s]) + wv (l1.take (k + 1))) := ⟨fun v hv => by
          rcases List.mem_append.1 hv with h | h
          · exact HV.out.1 v h
          · simp at h; subst h; exact ⟨q2, q3⟩, by
          have h2 : s.toNat + (rd l1 k).toNat + c.toNat = (rd l0 k).toNat + 18446744073709551616 * o.toNat := by omega
          rw [T0.out, T1.out, wv_append, wv, wv, hpk, show 64 * (k + 1) = 64 * k + 64 from by omega, Nat.pow_add, Nat.mul_zero, Nat.add_zero]
          exact sub_step HV.out.2 h2⟩
      clear T0 T1 q1 HV
      generalize rd l0 (k : Int) = x at *
      generalize rd l1 (k : Int) = y at *
      obtain ⟨hcl, hfz⟩ := Kd.R_celln 0 HO.out (k : Int) (by omega) (by omega)
      rw [Int.toNat_natCast] at hcl hfz
      go_wp2
      go_region_with (go_at_call 52; (with_reducible refine hAt.out.mono ?_); rintro e w' ⟨rfl, rfl⟩)
      all_goals
        (have hHR := (Kd.R_putg HO.out (k : Int) s).1
         rw [Int.toNat_natCast, set_zero_at k r p s hpk] at hHR
         have HR := Aside0.mk hHR
         clear hHR
         go_wp2
         go_roundw
         case rel => exact ⟨k + 1, r, o, p ++ [s], by omega, by simp; omega, by go_num, rfl, q4, q5, by simp [World.setCell, World.drew]; omega, hNew, ⟨by (repeat first | exact HR.out | apply Kd.R_drew)⟩, ⟨below_drew (HB.out.setCell (Nat.le_refl _) _)⟩⟩
         case measure => simp [intOf]; omega)
    · obtain rfl : k = n := by omega
      obtain rfl : r = 0 := by omega
      have HF : Aside0 (Wd p ∧ wv p = wv l0 - wv l1) := ⟨HV.out.1, by
        have h1 := HV.out.2
        have h2 := HLE.out
        have h3 := wv_split k l1
        have h4 := wv_lt HW0.out
        have h5 := wv_lt HV.out.1
        rw [← HN.out] at h4
        rw [hpk] at h5
        rw [HN.out, List.take_length, ← HN.out] at h1
        have h6 : wv (l1.drop k) = 0 := by
          by_cases h : wv (l1.drop k) = 0
          · exact h
          · have := Nat.mul_le_mul_left (2 ^ (64 * k)) (show 1 ≤ wv (l1.drop k) by omega)
            rw [Nat.mul_one] at this
            generalize 2 ^ (64 * k) * wv (l1.drop k) = Z at *
            omega
        rw [h6, Nat.mul_zero, Nat.add_zero] at h3
        have h7 : c = 0 ∨ c = 1 := by omega
        rcases h7 with rfl | rfl
        · rw [Int.toNat_zero, Nat.mul_zero] at h1
          omega
        · rw [Int.toNat_one, Nat.mul_one] at h1
          generalize 2 ^ (64 * k) = Z at *
          omega⟩
      have hHO := HO.out
      rw [List.replicate_zero, List.append_nil] at hHO
      have HCC : Aside0 (Kd.C (Kd.int .u64) wr (some ⟨w.heap.size, 0, none⟩) p.length p) := ⟨(Kd.R_reads' hHO).2.2⟩
      clear hHO
      go_wp2_with (go_at_call 31; (with_reducible refine (trim_of _ _ _ _ hpk _ HCC.out (Nat.le_refl _) (by omega)).mono ?_); rintro e w' ⟨rfl, rfl⟩)
      go_ret2
      have := trim_Res (w := w) HCC.out HF.out.1 HB.out
      rw [HF.out.2] at this
      obtain ⟨A, c2, e2, h1, h2, h3⟩ := this
      injection e2 with e3
      exact ⟨A, c2, congrArg (fun v => Ending.returned (.tuple #[v, .bool true])) e3, h1, h2, h3⟩
end Go.Proofs.Ytjkelnnjfpcapaa.Num
