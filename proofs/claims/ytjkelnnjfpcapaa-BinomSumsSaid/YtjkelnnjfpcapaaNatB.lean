/- nat: Add, Sub, Cmp: the calls do what numbers do. -/
import Derived.Test.YtjkelnnjfpcapaaNatA
namespace Go.Proofs.Ytjkelnnjfpcapaa.Num
open Go.RowKit Go.Shelf Go.Proofs.Ytjkelnnjfpcapaa.PNat Go.Proofs.YtjkelnnjfpcapaaW Go.Proofs.YtjkelnnjfpcapaaW.PrintWords Go.Proofs.YtjkelnnjfpcapaaW.PrintLast Go.Proofs.YtjkelnnjfpcapaaW.PrintMore

theorem max_len (ats : Array TypeId) (ty : TypeId) (x y n : Nat) (h : n = if x < y then y else x) : Builtin.max_ ats ty #[.int .i64 (x : Int), .int .i64 (y : Int)] = pure (.int .i64 (n : Int)) := by
  rw [max_two, max2_int]
  simp only [pure_bind]
  congr 2
  rw [h]
  split <;> split <;> omega

/-- What comes back: a slice that reads as a number's words; nothing that was there has changed. -/
def Res (w : World) (n : Nat) (e : Ending) (w' : World) : Prop :=
  ∃ A c, e = .returned (.slice A (nw n).length c) ∧ (nw n).length ≤ c ∧ Kd.C (Kd.int .u64) w' A (nw n).length (nw n) ∧ Below w.heap.size w w'

theorem made_R (W : World) (base m : Nat) (hb : base ≤ W.heap.size) (hm : m ≤ 9223372036854775807) :
    (Kd.int .u64).R 35 (W.alloc (.cells (madeCells #[.int .u64 0] m) 35)) base (fun _ => True) (.slice (some ⟨W.heap.size, 0, none⟩) m m) (List.replicate m 0) :=
  Kd.R_of_own (by rw [List.length_replicate]; exact own_made W base 35 .u64 m hb hm) (fun _ _ => trivial)
theorem lit_C (W : World) (xs : List Int) (h : xs.length ≤ 1000) : Kd.C (Kd.int .u64) (W.alloc (.cells (nums .u64 xs).toArray 35)) (some ⟨W.heap.size, 0, none⟩) xs.length xs := by
  have h1 := Kd.R_of_own (enc := Value.int .u64) (h1 := fun _ => rfl) (ok := fun _ => True) (own_lit W W.heap.size 35 .u64 xs (Nat.le_refl _) (by omega)) (fun _ _ => trivial)
  exact (Kd.R_reads' h1).2.2
theorem trim_Res {w w1 : World} {A : Option Addr} {l : List Int} (hC : Kd.C (Kd.int .u64) w1 A l.length l) (hw : Wd l) (hb : Below w.heap.size w w1) : Res w (wv l) (.returned (.slice A (tr l).length (tr l).length)) w1 := by
  have ht := tr_take l
  have hl := tr_length l
  have h2 := Kd.C_take (m := (tr l).length) hC hl
  rw [← ht] at h2
  have e := tr_nw l hw
  rw [e] at h2 ⊢
  exact ⟨A, _, rfl, Nat.le_refl _, h2, hb⟩
theorem wv_take_succ (l : List Int) (i : Nat) : wv (l.take (i + 1)) = wv (l.take i) + 2 ^ (64 * i) * (rd l (i : Int)).toNat := by
  by_cases h : i < l.length
  · rw [take_rd l i h, wv_append, wv, wv, show (l.take i).length = i from by simp; omega]; simp
  · rw [rd_out l i (by omega), List.take_of_length_le (by omega), List.take_of_length_le (by omega)]; simp

theorem sum3_calls (x y z : Int) (W : World) (hx : 0 ≤ x ∧ x < 18446744073709551616) (hy : 0 ≤ y ∧ y < 18446744073709551616) (hz : 0 ≤ z ∧ z < 18446744073709551616) :
    Calls Try.prog 53 #[.slice (some ⟨W.heap.size, 0, none⟩) 3 3] (W.alloc (.cells #[.int .u64 x, .int .u64 y, .int .u64 z] 35)) fun e w' => ∃ s o : Int, e = .returned (.tuple #[.int .u64 s, .int .u64 o]) ∧ w' = W.alloc (.cells #[.int .u64 x, .int .u64 y, .int .u64 z] 35) ∧ Aside0 (s + 18446744073709551616 * o = x + y + z ∧ 0 ≤ s ∧ s < 18446744073709551616) ∧ 0 ≤ o ∧ o ≤ 3 := by
  refine (sum_calls (some ⟨W.heap.size, 0, none⟩) 3 [x, y, z] _ (lit_C W [x, y, z] (by simp)) (fun v hv => ?_) (by simp)).mono ?_
  · simp at hv
    rcases hv with rfl | rfl | rfl <;> assumption
  · rintro e w' ⟨s, o, rfl, rfl, h1, h2, h3, h4, h5⟩
    exact ⟨s, o, rfl, rfl, ⟨by simp [sI] at h1; omega, h2, h3⟩, h4, by simpa using h5⟩

set_option maxHeartbeats 800000 in
set_option maxRecDepth 100000 in
theorem at_calls (A0 : Option Addr) (c0 : Nat) (l0 : List Int) (i : Nat) (w : World) (hr0 : Kd.C (Kd.int .u64) w A0 l0.length l0) :
    Calls Try.prog 52 #[.slice A0 l0.length c0, .int .i64 i] w fun e w' => e = .returned (.int .u64 (rd l0 i)) ∧ w = w' := by
  by_cases h : i < l0.length
  · obtain ⟨ad, e, hc⟩ := Kd.at_int hr0 (i : Int) (by omega) (by omega)
    cases e
    rw [Int.toNat_natCast] at hc
    clear hr0
    generalize rd l0 (i : Int) = x at hc ⊢
    go_enter Try.func52, Try.ntmps52
    go_wp2
    go_ret
    exact ⟨rfl, rfl⟩
  · rw [rd_out l0 i (by omega)]
    clear hr0
    go_enter Try.func52, Try.ntmps52
    go_wp2
    go_ret
    exact ⟨rfl, rfl⟩

theorem add_step {P Q c A B s o x y : Nat} (h1 : P + Q * c = A + B) (h2 : s + 18446744073709551616 * o = x + y + c) : P + Q * s + Q * 18446744073709551616 * o = A + Q * x + (B + Q * y) := by
  have h3 : Q * (s + 18446744073709551616 * o) = Q * (x + y + c) := by rw [h2]
  rw [Nat.mul_add, Nat.mul_add, Nat.mul_add, ← Nat.mul_assoc] at h3
  omega
set_option maxHeartbeats 1600000 in
set_option maxRecDepth 100000 in
theorem nadd_calls (A0 : Option Addr) (c0 : Nat) (l0 : List Int) (A1 : Option Addr) (c1 : Nat) (l1 : List Int) (w : World) (hr0 : Kd.C (Kd.int .u64) w A0 l0.length l0) (hr1 : Kd.C (Kd.int .u64) w A1 l1.length l1) (hw0 : Wd l0) (hw1 : Wd l1) (hl0 : l0.length ≤ 100000) (hl1 : l1.length ≤ 100000) :
    Calls Try.prog 28 #[.slice A0 l0.length c0, .slice A1 l1.length c1] w (Res w (wv l0 + wv l1)) := by
  have HR0 := Aside0.mk hr0
  have HR1 := Aside0.mk hr1
  have HW0 := Aside0.mk hw0
  have HW1 := Aside0.mk hw1
  clear hr0 hr1 hw0 hw1
  obtain ⟨n, hn⟩ : ∃ n : Nat, n = if l0.length < l1.length then l1.length else l0.length := ⟨_, rfl⟩
  have hn0 : l0.length ≤ n := by rw [hn]; split <;> omega
  have hn1 : l1.length ≤ n := by rw [hn]; split <;> omega
  have hn2 : n ≤ 100000 := by rw [hn]; split <;> omega
  have hmax := fun ats ty => max_len ats ty l0.length l1.length n hn
  clear hn
  have hmk := print_make (P := Try.prog) 23 35 .u64 8 Try.underlying23 info35 (by decide) (n + 1) (by omega)
  rw [show ((n + 1 : Nat) : Int) = (n : Int) + 1 from by push_cast; rfl] at hmk
  go_enter Try.func28, Try.ntmps28
  go_wp2
  go_loopw [7, 18] (fun v7 v18 wr => ∃ (k r : Nat) (c : Int) (p : List Int), k + r = n ∧ p.length = k ∧ v18 = .int .i64 k ∧ v7 = .int .u64 c ∧ 0 ≤ c ∧ c ≤ 1 ∧ w.heap.size < wr.heap.size ∧
      Aside0 (Wd p ∧ wv p + 2 ^ (64 * k) * c.toNat = wv (l0.take k) + wv (l1.take k)) ∧ Aside0 ((Kd.int .u64).R 35 wr w.heap.size (fun _ => True) (.slice (some ⟨w.heap.size, 0, none⟩) (n + 1) (n + 1)) (p ++ List.replicate (r + 1) 0)) ∧ Aside0 (Below w.heap.size w wr))
    (fun _ v18 _ => n - (intOf v18).toNat)
  case atStart => exact ⟨0, n, 0, [], by omega, rfl, rfl, rfl, by omega, by omega, by simp, ⟨(fun _ h => nomatch h), by simp [wv]⟩, ⟨made_R w _ _ (Nat.le_refl _) (by omega)⟩, ⟨below_alloc (Below.refl _ _) _⟩⟩
  case round =>
    obtain ⟨k, r, c, p, hkr, hpk, rfl, rfl, hc0, hc1, hhs, HV, HO, HB⟩ := hrel
    have hC0 := Aside0.mk (Kd.C_below HR0.out HB.out)
    have hC1 := Aside0.mk (Kd.C_below HR1.out HB.out)
    by_cases hlt : k < n
    · obtain ⟨r, rfl⟩ : ∃ m, r = m + 1 := ⟨r - 1, by omega⟩
      have hx := HW0.out.rd (k : Int)
      have hy := HW1.out.rd (k : Int)
      have T0 := Aside0.mk (wv_take_succ l0 k)
      have T1 := Aside0.mk (wv_take_succ l1 k)
      obtain ⟨hcl, hfz⟩ := Kd.R_celln 0 HO.out (k : Int) (by omega) (by omega)
      rw [Int.toNat_natCast] at hcl hfz
      go_wp2_with (first
        | (go_at_call 52; (with_reducible refine (at_calls A0 c0 l0 k _ hC0.out).mono ?_); rintro e w' ⟨rfl, rfl⟩)
        | (go_at_call 52; (with_reducible refine (at_calls A1 c1 l1 k _ hC1.out).mono ?_); rintro e w' ⟨rfl, rfl⟩)
        | (go_at_call 53; (with_reducible refine (sum3_calls (rd l0 k) (rd l1 k) c wr hx hy (by omega)).mono ?_); rintro e w' ⟨s, o, rfl, rfl, hs, ho0, ho3⟩)
        | fail)
      have HN : Aside0 (Wd (p ++ [s]) ∧ wv (p ++ [s]) + 2 ^ (64 * (k + 1)) * o.toNat = wv (l0.take (k + 1)) + wv (l1.take (k + 1))) := ⟨fun v hv => by
          rcases List.mem_append.1 hv with h | h
          · exact HV.out.1 v h
          · simp at h; subst h; exact hs.out.2, by
          have h2 : s.toNat + 18446744073709551616 * o.toNat = (rd l0 k).toNat + (rd l1 k).toNat + c.toNat := by have := hs.out; omega
          rw [T0.out, T1.out, wv_append, wv, wv, hpk, show 64 * (k + 1) = 64 * k + 64 from by omega, Nat.pow_add, Nat.mul_zero, Nat.add_zero]
          exact add_step HV.out.2 h2⟩
      have ho1 : o ≤ 1 := by have := hs.out; omega
      have hHR := (Kd.R_putg HO.out (k : Int) s).1
      rw [Int.toNat_natCast, set_zero_at k (r + 1) p s hpk] at hHR
      have HR := Aside0.mk hHR
      clear hHR
      go_roundw
      case rel => exact ⟨k + 1, r, o, p ++ [s], by omega, by simp; omega, by go_num, rfl, ho0, ho1, by simp [World.setCell]; omega, HN, ⟨Kd.R_alloc HR.out _⟩, ⟨(HB.out.setCell (Nat.le_refl _) _).alloc (by simp [World.setCell]; omega) _⟩⟩
      case measure => simp [intOf]; omega
    · have hkn : k = n := by omega
      obtain rfl : r = 0 := by omega
      subst hkn
      obtain ⟨hcl, hfz⟩ := Kd.R_celln 0 HO.out (k : Int) (by omega) (by omega)
      rw [Int.toNat_natCast] at hcl hfz
      have hHR := (Kd.R_putg HO.out (k : Int) c).1
      rw [Int.toNat_natCast, set_zero_at k 0 p c hpk, List.replicate_zero, List.append_nil] at hHR
      have HR := Aside0.mk hHR
      clear hHR
      have HV2 : Aside0 (Wd (p ++ [c]) ∧ wv (p ++ [c]) = wv l0 + wv l1) := ⟨fun v hv => by
          simp at hv
          rcases hv with h | h
          · exact HV.out.1 v h
          · subst h; omega, by
          have h1 := HV.out.2
          rw [List.take_of_length_le hn0, List.take_of_length_le hn1] at h1
          rw [← h1]
          simp [wv_append, wv, hpk]⟩
      have hlen : (p ++ [c]).length = k + 1 := by simp [hpk]
      have HCC : Aside0 (Kd.C (Kd.int .u64) (wr.setCell ⟨w.heap.size, k, none⟩ (.int .u64 c)) (some ⟨w.heap.size, 0, none⟩) (p ++ [c]).length (p ++ [c])) := ⟨(Kd.R_reads' HR.out).2.2⟩
      go_wp2_with (go_at_call 31; (with_reducible refine (trim_of _ _ _ _ hlen _ HCC.out (Nat.le_refl _) (by omega)).mono ?_); rintro e w' ⟨rfl, rfl⟩)
      go_ret
      have hB2 := HB.out.setCell (p := ⟨w.heap.size, k, none⟩) (Nat.le_refl _) (.int .u64 c)
      have := trim_Res (w := w) HCC.out HV2.out.1 hB2
      rw [HV2.out.2] at this
      exact this
end Go.Proofs.Ytjkelnnjfpcapaa.Num
