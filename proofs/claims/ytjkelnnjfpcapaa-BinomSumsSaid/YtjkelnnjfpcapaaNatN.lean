/- nat: DivWord, MulWord: the calls do what numbers do. -/
import Derived.Test.YtjkelnnjfpcapaaNatM
import Derived.Test.YtjkelnnjfpcapaaNatK
namespace Go.Proofs.Ytjkelnnjfpcapaa.Num
set_option linter.unusedVariables false
open Go.RowKit Go.Shelf Go.Proofs.Ytjkelnnjfpcapaa.PNat Go.Proofs.YtjkelnnjfpcapaaW Go.Proofs.YtjkelnnjfpcapaaW.PrintWords Go.Proofs.YtjkelnnjfpcapaaW.PrintLast Go.Proofs.YtjkelnnjfpcapaaW.PrintMore

set_option maxHeartbeats 1600000 in
set_option maxRecDepth 100000 in
theorem div64_none (lo y : Int) (hlo : 0 ≤ lo ∧ lo < 18446744073709551616) (h1 : 0 < y) (h2 : y < 18446744073709551616) (W : World) :
    Calls Try.prog 54 #[.int .u64 0, .int .u64 lo, .int .u64 y] W fun e w' => e = .returned (.tuple #[.int .u64 (lo / y), .int .u64 (lo % y)]) ∧ w' = W.drew := by
  have e1 : IntKind.u64.wrap (lo.tdiv y) = lo / y := by
    rw [Int.tdiv_eq_ediv_of_nonneg hlo.1]
    have := Int.ediv_nonneg hlo.1 (show 0 ≤ y by omega)
    have := Int.ediv_le_self y hlo.1
    exact IntWalk.u64_in _ (by omega)
  have e2 : IntKind.u64.wrap (lo.tmod y) = lo % y := by
    rw [Int.tmod_eq_emod_of_nonneg hlo.1]
    have := Int.emod_nonneg lo (show y ≠ 0 by omega)
    have := Int.emod_lt_of_pos lo h1
    exact IntWalk.u64_in _ (by omega)
  have hd : (y == 0) = false := by simp; omega
  go_enter Try.func54, Try.ntmps54
  go_wp2
  go_region
  all_goals (go_wp2; go_ret2; exact ⟨rfl, rfl⟩)
theorem div64_calls (hi lo y : Int) (hlo : 0 ≤ lo ∧ lo < 18446744073709551616) (h0 : 0 ≤ hi) (h1 : hi < y) (h2 : y < 18446744073709551616) (W : World) :
    Calls Try.prog 54 #[.int .u64 hi, .int .u64 lo, .int .u64 y] W fun e w' => e = .returned (.tuple #[.int .u64 ((hi * 18446744073709551616 + lo) / y), .int .u64 ((hi * 18446744073709551616 + lo) % y)]) ∧ ∃ m, W.drewN m = w' := by
  by_cases hz : hi = 0
  · subst hz
    rw [Int.zero_mul, Int.zero_add]
    exact (div64_none lo y hlo h1 h2 W).mono fun e w' h => ⟨h.1, 1, h.2.symm⟩
  · have hb : bl y.toNat ≤ 64 := (bl_le _ _).2 (by omega)
    have hb1 : 1 ≤ bl y.toNat := by rw [bl_pos (by omega)]; omega
    obtain ⟨s, hs⟩ : ∃ s : Nat, s = 64 - bl y.toNat := ⟨_, rfl⟩
    have hlt := (bl_le (bl y.toNat) y.toNat).1 (Nat.le_refl _)
    have hge : 2 ^ (bl y.toNat - 1) ≤ y.toNat := by
      have h := bl_le (bl y.toNat - 1) y.toNat
      omega
    have hy : (y : Int) = ((y.toNat : Nat) : Int) := by omega
    have hn : 9223372036854775808 ≤ y.toNat * 2 ^ s := by
      have := Nat.mul_le_mul_right (2 ^ s) hge
      rw [← Nat.pow_add, show bl y.toNat - 1 + s = 63 from by omega] at this
      exact this
    have hn2 : y.toNat * 2 ^ s < 18446744073709551616 := by
      have := Nat.mul_lt_mul_of_pos_right hlt (Nat.pow_pos (n := s) (show 0 < 2 by omega))
      rw [← Nat.pow_add, show bl y.toNat + s = 64 from by omega] at this
      exact this
    have e : (y : Int) * 2 ^ s = ((y.toNat * 2 ^ s : Nat) : Int) := by push_cast; rw [← hy]
    refine (div64_some hi lo y hlo (by omega) h1 h2 s (by omega) (by rw [e]; omega) (by rw [e]; omega) W fun W => ?_).mono fun e w' h => ⟨h.1, 0, h.2⟩
    refine (Go.Proofs.Try.bits_LeadingZeros64 y W (by omega) (by omega)).mono fun e w' h => ⟨?_, h.2.symm⟩
    rw [h.1, bitLen_bl _ (by omega), show (64 : Int) - (bl y.toNat : Int) = (s : Int) from by omega]
theorem dw_step {a r w q' r' : Int} {V Q : Nat} (hw : 0 < w ∧ w < 18446744073709551616) (ha : 0 ≤ a ∧ a < 18446744073709551616) (hr : 0 ≤ r ∧ r < w) (hq : (r * 18446744073709551616 + a) / w = q') (hr' : (r * 18446744073709551616 + a) % w = r') (hV : V = Q * w.toNat + r.toNat) :
    (0 ≤ q' ∧ q' < 18446744073709551616) ∧ (0 ≤ r' ∧ r' < w) ∧ a.toNat + 18446744073709551616 * V = (q'.toNat + 18446744073709551616 * Q) * w.toNat + r'.toNat := by
  have e1 := Int.mul_ediv_add_emod (r * 18446744073709551616 + a) w
  have e2 := Int.emod_nonneg (r * 18446744073709551616 + a) (show w ≠ 0 by omega)
  have e3 := Int.emod_lt_of_pos (r * 18446744073709551616 + a) hw.1
  have e4 : 0 ≤ (r * 18446744073709551616 + a) / w := Int.ediv_nonneg (by omega) (by omega)
  have e5 : (r * 18446744073709551616 + a) / w < 18446744073709551616 := Int.ediv_lt_of_lt_mul hw.1 (by omega)
  rw [hq] at e1 e4 e5
  rw [hr'] at e1 e2 e3
  refine ⟨⟨e4, e5⟩, ⟨e2, e3⟩, ?_⟩
  obtain ⟨w, rfl⟩ : ∃ n : Nat, w = n := ⟨w.toNat, by omega⟩
  obtain ⟨q', rfl⟩ : ∃ n : Nat, q' = n := ⟨q'.toNat, by omega⟩
  obtain ⟨r', rfl⟩ : ∃ n : Nat, r' = n := ⟨r'.toNat, by omega⟩
  obtain ⟨r, rfl⟩ : ∃ n : Nat, r = n := ⟨r.toNat, by omega⟩
  obtain ⟨a, rfl⟩ : ∃ n : Nat, a = n := ⟨a.toNat, by omega⟩
  rw [Int.toNat_natCast, Int.toNat_natCast] at hV
  rw [Int.toNat_natCast, Int.toNat_natCast, Int.toNat_natCast, Int.toNat_natCast]
  have e6 : w * q' + r' = r * 18446744073709551616 + a := Int.ofNat.inj (by simp only [Int.ofNat_eq_natCast]; rw [Int.natCast_add, Int.natCast_mul, Int.natCast_add, Int.natCast_mul]; exact e1)
  rw [hV, Nat.add_mul]
  have e7 : 18446744073709551616 * Q * w = 18446744073709551616 * (Q * w) := by rw [Nat.mul_assoc]
  rw [e7, Nat.mul_comm q' w]
  generalize Q * w = P at *
  generalize w * q' = P2 at *
  omega
/-- A number's quotient and rest by a word. -/
def Res3 (w : World) (q : Nat) (r : Int) (e : Ending) (w' : World) : Prop :=
  ∃ A c, e = .returned (.tuple #[.slice A (nw q).length c, .int .u64 r, .int .i64 0]) ∧ (nw q).length ≤ c ∧ Kd.C (Kd.int .u64) w' A (nw q).length (nw q) ∧ Below w.heap.size w w'
set_option maxHeartbeats 1600000 in
set_option maxRecDepth 100000 in
theorem ndiv_calls (A0 : Option Addr) (n0 c0 : Nat) (l0 : List Int) (hn0 : l0.length = n0) (y : Int) (hy : 0 < y ∧ y < 18446744073709551616) (w : World) (hr0 : Kd.C (Kd.int .u64) w A0 l0.length l0) (hw0 : Wd l0) (hl0 : n0 ≤ 100000) :
    Calls Try.prog 33 #[.slice A0 n0 c0, .int .u64 y] w (Res3 w (wv l0 / y.toNat) ((wv l0 % y.toNat : Nat) : Int)) := by
  have HR0 := Aside0.mk hr0
  have HW0 := Aside0.mk hw0
  have HY := Aside0.mk hy
  have HN := Aside0.mk hn0
  clear hr0 hw0 hn0
  have hmk := print_make (P := Try.prog) 23 35 .u64 8 Try.underlying23 info35 (by decide) n0 (by omega)
  have hd : (y == 0) = false := by simp; omega
  go_enter Try.func33, Try.ntmps33
  go_wp2
  go_loopw [8, 9] (fun v8 v9 wr => ∃ (k : Nat) (r : Int) (q : List Int), k + q.length = n0 ∧ v9 = .int .i64 ((k : Int) - 1) ∧ v8 = .int .u64 r ∧ 0 ≤ r ∧ r < y ∧ w.heap.size < wr.heap.size ∧
      Aside0 (Wd q ∧ wv (l0.drop k) = wv q * y.toNat + r.toNat) ∧ Aside0 ((Kd.int .u64).R 35 wr w.heap.size (fun _ => True) (.slice (some ⟨w.heap.size, 0, none⟩) n0 n0) (List.replicate k 0 ++ q)) ∧ Aside0 (Below w.heap.size w wr))
    (fun _ v9 _ => (intOf v9 + 1).toNat)
  case atStart => exact ⟨n0, 0, [], by simp, rfl, rfl, by omega, by omega, by simp, ⟨(fun _ h => nomatch h), by rw [List.drop_of_length_le (by have := HN.out; omega)]; simp [wv]⟩, ⟨by rw [List.append_nil]; exact made_R w _ _ (Nat.le_refl _) (by omega)⟩, ⟨below_alloc (Below.refl _ _) _⟩⟩
  case round =>
    obtain ⟨k, r, q, hkq, rfl, rfl, hr0, hr1, hhs, HV, HO, HB⟩ := hrel
    by_cases hlt : 0 < k
    · obtain ⟨k, rfl⟩ : ∃ m, k = m + 1 := ⟨k - 1, by omega⟩
      rw [show ((k + 1 : Nat) : Int) - 1 = (k : Int) from by push_cast; omega]
      obtain ⟨ad, e, hx0⟩ := Kd.at_int (Kd.C_below HR0.out HB.out) (k : Int) (by omega) (by have := HN.out; omega)
      subst e
      rw [Int.toNat_natCast] at hx0
      have hx := HW0.out.rd (k : Int)
      have hdr := wv_drop l0 k
      generalize rd l0 (k : Int) = x at hx0 hx hdr
      obtain ⟨q', hq'⟩ : ∃ q', (r * 18446744073709551616 + x) / y = q' := ⟨_, rfl⟩
      obtain ⟨r', hr'⟩ : ∃ r', (r * 18446744073709551616 + x) % y = r' := ⟨_, rfl⟩
      have hst := dw_step hy hx ⟨hr0, hr1⟩ hq' hr' HV.out.2
      rw [← hdr] at hst
      have hcall := div64_calls r x y hx hr0 hr1 hy.2 wr
      rw [hq', hr'] at hcall
      have HC := Aside0.mk hcall
      have HST : Aside0 (Wd (q' :: q) ∧ wv (l0.drop k) = wv (q' :: q) * y.toNat + r'.toNat) := ⟨fun v hv => by
        rcases List.mem_cons.1 hv with rfl | h
        · exact hst.1
        · exact HV.out.1 v h, hst.2.2⟩
      have hr2 := hst.2.1
      clear hcall hst hq' hr' hdr
      go_wp2_with (go_at_call 54
                   (with_reducible refine HC.out.mono ?_)
                   rintro e w2 ⟨rfl, m, hm⟩
                   have HO2 : Aside0 ((Kd.int .u64).R 35 w2 w.heap.size (fun _ => True) (.slice (some ⟨w.heap.size, 0, none⟩) n0 n0) (List.replicate (k + 1) 0 ++ q)) := ⟨by rw [← hm]; exact Kd.R_drewN HO.out m⟩
                   have HB2 : Aside0 (Below w.heap.size w w2) := ⟨by rw [← hm]; exact pw_below_drewN HB.out m⟩
                   have hhs2 : w.heap.size < w2.heap.size := by rw [← hm]; exact hhs
                   clear hm
                   obtain ⟨hcl, hfz⟩ := Kd.R_celln 0 HO2.out (k : Int) (by omega) (by omega)
                   rw [Int.toNat_natCast] at hcl hfz)
      have hHR := (Kd.R_putg HO2.out (k : Int) q').1
      rw [Int.toNat_natCast, set_back k q q'] at hHR
      have HR := Aside0.mk hHR
      clear hHR
      go_roundw
      case rel => exact ⟨k, r', q' :: q, by simp; omega, rfl, rfl, hr2.1, hr2.2, by simp [World.setCell]; omega, HST, HR, ⟨HB2.out.setCell (Nat.le_refl _) _⟩⟩
      case measure => simp [intOf]
    · obtain rfl : k = 0 := by omega
      have hql : q.length = n0 := by omega
      have hHO := HO.out
      rw [List.replicate_zero, List.nil_append] at hHO
      have HCC : Aside0 (Kd.C (Kd.int .u64) wr (some ⟨w.heap.size, 0, none⟩) q.length q) := ⟨(Kd.R_reads' hHO).2.2⟩
      have HF : Aside0 (Wd q ∧ wv q = wv l0 / y.toNat ∧ r = ((wv l0 % y.toNat : Nat) : Int)) := ⟨HV.out.1, by
        have h1 := HV.out.2
        rw [List.drop_zero] at h1
        have h2 := (Nat.div_mod_unique (show 0 < y.toNat by omega)).2 ⟨show r.toNat + y.toNat * wv q = wv l0 by rw [h1, Nat.mul_comm]; omega, by omega⟩
        rw [h2.1, h2.2]
        exact ⟨rfl, by omega⟩⟩
      clear hHO
      go_wp2_with (go_at_call 31; (with_reducible refine (trim_of _ _ _ _ hql _ HCC.out (Nat.le_refl _) (by omega)).mono ?_); rintro e w' ⟨rfl, rfl⟩)
      go_ret3
      have := trim_Res (w := w) HCC.out HF.out.1 HB.out
      rw [HF.out.2.1] at this
      obtain ⟨A, c2, e2, h1, h2, h3⟩ := this
      injection e2 with e3
      refine ⟨A, c2, ?_, h1, h2, h3⟩
      rw [← HF.out.2.2]
      exact congrArg (fun v => Ending.returned (.tuple #[v, .int .u64 r, .int .i64 0])) e3
set_option maxHeartbeats 1600000 in
set_option maxRecDepth 100000 in
theorem ndiv_zero (A0 : Option Addr) (n0 c0 : Nat) (w : World) :
    Calls Try.prog 33 #[.slice A0 n0 c0, .int .u64 0] w fun e w' => e = .returned (.tuple #[.slice none 0 0, .int .u64 0, .int .i64 4]) ∧ w = w' := by
  go_enter Try.func33, Try.ntmps33
  go_wp2
  go_ret3
  exact ⟨rfl, rfl⟩
set_option maxHeartbeats 1600000 in
set_option maxRecDepth 100000 in
theorem nmulw_calls (A0 : Option Addr) (n0 c0 : Nat) (l0 : List Int) (hn0 : l0.length = n0) (y : Int) (hy : 0 ≤ y ∧ y < 18446744073709551616) (w : World) (hr0 : Kd.C (Kd.int .u64) w A0 l0.length l0) (hw0 : Wd l0) (hl0 : n0 ≤ 100000) :
    Calls Try.prog 38 #[.slice A0 n0 c0, .int .u64 y] w (Res w (wv l0 * y.toNat)) := by
  have hm := nmul_of A0 n0 c0 l0 hn0 (some ⟨w.heap.size, 0, none⟩) 1 1 [y] rfl (w.alloc (.cells #[.int .u64 y] 35)) (Kd.C_alloc hr0 _) (lit1_C w y) hw0 (Wd.one hy) hl0 (by omega)
  rw [show wv [y] = y.toNat from by simp [wv]] at hm
  have HM := Aside0.mk hm
  clear hm hr0 hw0
  go_enter Try.func38, Try.ntmps38
  go_wp2_with (go_at_call 36; (with_reducible refine HM.out.mono ?_); rintro e w2 ⟨A2, c2, rfl, h1, h2, h3⟩)
  go_ret
  exact ⟨A2, c2, rfl, h1, h2, below_step (below_alloc (Below.refl _ _) _) h3⟩
end Go.Proofs.Ytjkelnnjfpcapaa.Num
