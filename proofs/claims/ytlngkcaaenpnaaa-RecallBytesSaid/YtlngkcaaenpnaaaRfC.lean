/- wire: the document's reader: a number of bytes. -/
import Derived.Test.YtlngkcaaenpnaaaRfB
import Derived.StillTailTactics
namespace Go.Proofs.Ytlngkcaaenpnaaa.Wire
set_option linter.unusedVariables false
set_option linter.unusedSimpArgs false
open Go.RowKit Go.Proofs.Ytlngkcaaenpnaaa.Num Go.Proofs.Ytlngkcaaenpnaaa.PWi Go.Proofs.YtlngkcaaenpnaaaW Go.Proofs.YtlngkcaaenpnaaaW.PrintWords Go.Proofs.YtlngkcaaenpnaaaW.PrintLast Go.Proofs.YtlngkcaaenpnaaaW.PrintMore

def QToldB (w0 w : World) (g : Nat) (A : Option Addr) (n c : Nat) (r : List Int × Nat × Int) (e : Ending) (w' : World) : Prop :=
  ∃ B d, e = .returned (.slice B r.1.length d) ∧ r.1.length ≤ d ∧ Kd.C (Kd.int .u8) w' B r.1.length r.1 ∧ IsQ w' g A n c r.2.1 r.2.2 ∧ Below w0.heap.size w0 w' ∧ Kept w w' (fun k => k = g)
theorem QToldB.nil {w0 w w' : World} {g : Nat} {A : Option Addr} {n c at_ : Nat} {bad : Int} (h1 : IsQ w' g A n c at_ bad) (h2 : Below w0.heap.size w0 w') (h3 : Kept w w' (fun k => k = g)) : QToldB w0 w g A n c ([], at_, bad) (.returned (.slice none 0 0)) w' :=
  ⟨none, 0, rfl, Nat.le_refl _, Kd.C_nil _ _, h1, h2, h3⟩
set_option maxHeartbeats 3200000 in
set_option maxRecDepth 100000 in
theorem qbytes_step (g : Nat) (A : Option Addr) (n c at_ : Nat) (bad least most : Int) (hmost : 0 ≤ most ∧ most ≤ 9223372036854775807) (hlm : -9223372036854775808 ≤ least) (hn : n ≤ 10000000) (hc : n ≤ c) (ha : at_ ≤ n) (l : List Int) (hl : l.length = n) (hby : By l) (w0 w : World) (hr : Kd.C (Kd.int .u8) w0 A l.length l) (hB : Below w0.heap.size w0 w) (hg : w0.heap.size ≤ g) (hR : IsQ w g A n c at_ bad) :
    Calls Try.prog 75 #[.pointer (some ⟨g, 0, none⟩), .int .i64 least, .int .i64 most] w (QToldB w0 w g A n c (bstep least most l at_ bad)) := by
  have HC := Aside0.mk (qcount_step g A n c at_ bad most hmost hn hc ha l hl hby w0 w (by exact hr) hB hg hR)
  obtain ⟨v, hv⟩ : ∃ v, (step 4 most l at_ bad).1 = v := ⟨_, rfl⟩
  obtain ⟨at2, hat2⟩ : ∃ v, (step 4 most l at_ bad).2.1 = v := ⟨_, rfl⟩
  obtain ⟨bad2, hbad2⟩ : ∃ v, (step 4 most l at_ bad).2.2 = v := ⟨_, rfl⟩
  have hok := fun h : (step 4 most l at_ bad).2.2 < 0 => step_at' h
  unfold bstep
  rw [hv, hat2, hbad2] at HC hok ⊢
  obtain ⟨h0, h1, h2, h4, h5⟩ := hR
  have HL := Aside0.mk hl
  have HR := Aside0.mk hr
  have HOK := Aside0.mk hok
  clear hv hat2 hbad2 hl hr hby hB hok
  by_cases hb : 0 ≤ bad2
  · rw [if_pos hb]
    have hd : decide (0 ≤ bad2) = true := decide_eq_true hb
    go_enter Try.func75, Try.ntmps75
    go_wp2_with (first | (go_at_call 83; (with_reducible refine HC.out.mono ?_); rintro e w1 ⟨rfl, hI, hB1, hK1⟩; have HI := Aside0.mk hI; have HB1 := Aside0.mk hB1; have HK1 := Aside0.mk hK1; obtain ⟨k0, k1, k2, k4, k5⟩ := hI; clear hB1 hK1) | fail)
    go_ret
    exact QToldB.nil HI.out HB1.out HK1.out
  · rw [if_neg hb]
    have hd : decide (0 ≤ bad2) = false := decide_eq_false hb
    obtain ⟨g1, g2, g3, -, g5, g6⟩ := HOK.out (by omega)
    subst g6
    have hn' := HL.out
    rw [hn'] at g1 ⊢
    have HG2 := Aside0.mk g2
    have g7 : at2 ≤ n := by omega
    clear hn' hb g2
    by_cases hf : v < least ∨ (n : Int) - (at2 : Int) < v
    · rw [if_pos hf]
      by_cases hd1 : v < least
      · have hd1' : decide (v < least) = true := decide_eq_true hd1
        clear hf hd1
        go_enter Try.func75, Try.ntmps75
        go_wp2_with (first | (go_at_call 83; (with_reducible refine HC.out.mono ?_); rintro e w1 ⟨rfl, hI, hB1, hK1⟩; have HI := Aside0.mk hI; have HB1 := Aside0.mk hB1; have HK1 := Aside0.mk hK1; obtain ⟨k0, k1, k2, k4, k5⟩ := hI; clear hB1 hK1) | fail)
        go_quiet (fail)
        go_wp2
        go_ret
        exact QToldB.nil (((HI.out.below (pw_below_drewN (Below.refl _ _) _)).setAt at_).setBad _) (Below.setCell (Below.setCell (pw_below_drewN HB1.out _) hg _) hg _) (((HK1.out.drewN _).setCell (.inl rfl) _).setCell (.inl rfl) _)
      · have hd1' : decide (v < least) = false := decide_eq_false hd1
        have hd2' : decide ((n : Int) - (at2 : Int) < v) = true := decide_eq_true (by omega)
        clear hf hd1
        go_enter Try.func75, Try.ntmps75
        go_wp2_with (first | (go_at_call 83; (with_reducible refine HC.out.mono ?_); rintro e w1 ⟨rfl, hI, hB1, hK1⟩; have HI := Aside0.mk hI; have HB1 := Aside0.mk hB1; have HK1 := Aside0.mk hK1; obtain ⟨k0, k1, k2, k4, k5⟩ := hI; clear hB1 hK1) | fail)
        go_quiet (fail)
        go_wp2
        go_ret
        exact QToldB.nil (((HI.out.below (pw_below_drewN (Below.refl _ _) _)).setAt at_).setBad _) (Below.setCell (Below.setCell (pw_below_drewN HB1.out _) hg _) hg _) (((HK1.out.drewN _).setCell (.inl rfl) _).setCell (.inl rfl) _)
    · rw [if_neg hf]
      have hd1 : decide (v < least) = false := decide_eq_false (by omega)
      have hd2 : decide ((n : Int) - (at2 : Int) < v) = false := decide_eq_false (by omega)
      obtain ⟨m, rfl⟩ : ∃ m : Nat, v = (m : Int) := ⟨v.toNat, by omega⟩
      have hsum : at2 + m ≤ n := by omega
      clear hf
      rw [Int.toNat_natCast]
      have hlm2 : ((l.drop at2).take m).length = m := by have := HL.out; rw [List.length_take, List.length_drop]; omega
      obtain ⟨ad, e, -⟩ := Kd.at_int HR.out 0 (by omega) (by have := HL.out; omega)
      subst e
      have hcl : ¬ c = at2 ∨ c = at2 := by omega
      have HSL : Aside0 (Kd.C (Kd.int .u8) w0 (if c = at2 then some ad else some (ad.add at2)) ((l.drop at2).take m).length ((l.drop at2).take m)) := ⟨by
        split
        · have h0 := C_sub HR.out 0 0 (Nat.zero_le _)
          have hm : m = 0 := by omega
          subst hm
          simpa [Addr.add] using h0
        · exact C_sub HR.out at2 m (by have := HL.out; omega)⟩
      obtain ⟨L, hL⟩ : ∃ L, (l.drop at2).take m = L := ⟨_, rfl⟩
      rw [hL] at HSL hlm2 ⊢
      have HLM := Aside0.mk hlm2
      clear hL hlm2
      have hwm : IntKind.i64.wrap ((at2 : Int) + (m : Int)) = (at2 : Int) + (m : Int) := IntWalk.i64_in _ (by omega)
      have s1 : (0 : Int) ≤ (at2 : Int) + (m : Int) := by omega
      have s2 : (at2 : Int) + (m : Int) ≤ (c : Int) := by omega
      have s3 : (at2 : Int) ≤ (at2 : Int) + (m : Int) := by omega
      have s4 : ((at2 : Int) + (m : Int)).toNat = at2 + m := by omega
      go_enter Try.func75, Try.ntmps75
      go_wp2_with (first | (go_at_call 83; (with_reducible refine HC.out.mono ?_); rintro e w1 ⟨rfl, hI, hB1, hK1⟩; have HI := Aside0.mk hI; have HB1 := Aside0.mk hB1; have HK1 := Aside0.mk hK1; obtain ⟨k0, k1, k2, k4, k5⟩ := hI; clear hB1 hK1) | fail)
      go_quiet (fail)
      go_wp2
      have HI2 := HI.out.below (pw_below_drewN (Below.refl _ _) nq)
      have HBn := pw_below_drewN HB1.out nq
      have HKn := HK1.out.drewN nq
      clear k0 k1 k2 k4 k5
      generalize w1.drewN nq = w2 at HI2 HBn HKn ⊢
      have HIN := Aside0.mk HI2
      have HB2 := Aside0.mk HBn
      have HK2 := Aside0.mk HKn
      obtain ⟨k0, k1, k2, k4, k5⟩ := HI2
      clear HBn HKn
      by_cases hcl2 : c = at2
      · rw [if_pos hcl2] at HSL
        have hm0 : m = 0 := by omega
        subst hm0
        have hca := Aside0.mk hcl2
        have s5 : IntKind.i64.wrap ((at2 : Int) + 0) = (at2 : Int) := by rw [Int.add_zero]; exact IntWalk.i64_in _ (by omega)
        have s6 : IntKind.i64.wrap (at2 : Int) = (at2 : Int) := IntWalk.i64_in _ (by omega)
        have s7 : (at2 : Int) ≤ (c : Int) := by omega
        have s8 : (0 : Int) ≤ (at2 : Int) := by omega
        go_still_tail 16, (by kernel_rfl)
        change wpList _ _ _ _ _ w2.drew
        have HB3 := Aside0.mk HB2.out.drew
        have HI3 := Aside0.mk (HIN.out.below (Below.refl _ _).drew)
        have HK3 := Aside0.mk (HK2.out.drew)
        clear k0 k1 k2 k4 k5
        generalize w2.drew = w3 at HB3 HI3 HK3 ⊢
        have HOL0 : Aside0 (w3.ownsRow w3.heap.size 5 1 (.slice none 0 0) ([] : List Int).length (nums .u8 [])) := ⟨⟨by simp [nums], .inl ⟨rfl, rfl⟩⟩⟩
        have hrd := C_readsB (Kd.C_below HSL.out HB3.out)
        rw [HLM.out] at hrd
        have HRD := Aside0.mk hrd
        clear hrd
        go_wp2_with (first
          | (at_builtin; refine print_append_row (w0 := w3) w3.heap.size rfl _ _ 41 5 .u8 1 rfl Try.underlying41 info5 (by decide) _ [] L (some ad) 0 _ rfl rfl HOL0.out HRD.out (Below.refl _ _) (by simp) (by simp <;> omega) ?_; intro v1 w4 ho1 hb1 hg1 hat1; have HB4 := Aside0.mk hb1; have HI4 := Aside0.mk (HI3.out.below hb1); obtain ⟨j0, j1, j2, j4, j5⟩ := HI4.out; have HR4 := Aside0.mk (Kd.R_of_own (enc := Value.int .u8) (h1 := fun _ => rfl) (ok := fun _ => True) ho1 (fun _ _ => trivial)); clear ho1 hb1 hg1 hat1)
          | fail)
        go_ret
        obtain ⟨B, d, e, p1, p2⟩ := Kd.R_reads HR4.out
        subst e
        exact ⟨B, d, rfl, p1, C_set p2 j1 (fun x => by simp) _, HI4.out.setAt _, (below_then HB3.out HB3.out.size HB4.out).setCell hg _, (HK3.out.below HB4.out).setCell (.inl rfl) _⟩
      · rw [if_neg hcl2] at HSL
        go_still_tail 16, (by kernel_rfl)
        change wpList _ _ _ _ _ w2.drew
        have HB3 := Aside0.mk HB2.out.drew
        have HI3 := Aside0.mk (HIN.out.below (Below.refl _ _).drew)
        have HK3 := Aside0.mk (HK2.out.drew)
        clear k0 k1 k2 k4 k5
        generalize w2.drew = w3 at HB3 HI3 HK3 ⊢
        have HOL0 : Aside0 (w3.ownsRow w3.heap.size 5 1 (.slice none 0 0) ([] : List Int).length (nums .u8 [])) := ⟨⟨by simp [nums], .inl ⟨rfl, rfl⟩⟩⟩
        have hrd := C_readsB (Kd.C_below HSL.out HB3.out)
        rw [HLM.out] at hrd
        have HRD := Aside0.mk hrd
        clear hrd
        go_wp2_with (first
          | (at_builtin; refine print_append_row (w0 := w3) w3.heap.size rfl _ _ 41 5 .u8 1 rfl Try.underlying41 info5 (by decide) _ [] L (some (ad.add at2)) m _ rfl rfl HOL0.out HRD.out (Below.refl _ _) (by simp) (by simp <;> omega) ?_; intro v1 w4 ho1 hb1 hg1 hat1; have HB4 := Aside0.mk hb1; have HI4 := Aside0.mk (HI3.out.below hb1); obtain ⟨j0, j1, j2, j4, j5⟩ := HI4.out; have HR4 := Aside0.mk (Kd.R_of_own (enc := Value.int .u8) (h1 := fun _ => rfl) (ok := fun _ => True) ho1 (fun _ _ => trivial)); clear ho1 hb1 hg1 hat1)
          | fail)
        go_ret
        obtain ⟨B, d, e, p1, p2⟩ := Kd.R_reads HR4.out
        subst e
        exact ⟨B, d, rfl, p1, C_set p2 j1 (fun x => by simp) _, HI4.out.setAt _, (below_then HB3.out HB3.out.size HB4.out).setCell hg _, (HK3.out.below HB4.out).setCell (.inl rfl) _⟩
end Go.Proofs.Ytlngkcaaenpnaaa.Wire
