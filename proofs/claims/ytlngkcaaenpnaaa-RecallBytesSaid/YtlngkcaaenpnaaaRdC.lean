/- wire: a number of bytes that is read. -/
import Derived.Test.YtlngkcaaenpnaaaRdB
import Derived.StillTailTactics
namespace Go.Proofs.Ytlngkcaaenpnaaa.Wire
set_option linter.unusedVariables false
set_option linter.unusedSimpArgs false
open Go.RowKit Go.Proofs.Ytlngkcaaenpnaaa.Num Go.Proofs.Ytlngkcaaenpnaaa.PWi Go.Proofs.YtlngkcaaenpnaaaW Go.Proofs.YtlngkcaaenpnaaaW.PrintWords Go.Proofs.YtlngkcaaenpnaaaW.PrintLast Go.Proofs.YtlngkcaaenpnaaaW.PrintMore
theorem C_move {k : IntKind} {W W' : World} {A : Option Addr} {l : List Int} (h : Kd.C (Kd.int k) W A l.length l) (hm : ∀ a v, W.cell? a = some (.int k v) → W'.cell? a = some (.int k v)) : Kd.C (Kd.int k) W' A l.length l := by
  have h' : ReadsOf (Value.int k) (0 : Int) W A l.length l := Kd.reads_of_C (h1 := fun _ => rfl) h
  refine Kd.C_of_reads (enc := Value.int k) (d := (0 : Int)) (h1 := fun _ => rfl) ⟨h'.1, h'.2.1, fun hp => ?_⟩
  obtain ⟨ad, e, hc⟩ := h'.2.2 hp
  exact ⟨ad, e, fun j hj => hm _ _ (hc j hj)⟩
theorem C_set {k : IntKind} {W : World} {A : Option Addr} {l : List Int} (h : Kd.C (Kd.int k) W A l.length l) {p : Addr} {v : Value} (hp : W.cell? p = some v) (hv : ∀ x, v ≠ .int k x) (u : Value) : Kd.C (Kd.int k) (W.setCell p u) A l.length l := by
  refine C_move h fun a x hx => ?_
  by_cases e : p = a
  · subst e; rw [hp] at hx; exact absurd (Option.some.inj hx) (hv x)
  · rw [World.cell?_setCell_other (h := e)]; exact hx
set_option maxHeartbeats 3200000 in
set_option maxRecDepth 100000 in
theorem rbytes_step (g : Nat) (A : Option Addr) (n c at_ : Nat) (bad least most : Int) (hlm : -9223372036854775808 ≤ least) (hn : n ≤ 10000000) (hc : n ≤ c) (ha : at_ ≤ n) (l : List Int) (hl : l.length = n) (hby : By l) (w0 w : World) (hr : Kd.C (Kd.int .u8) w0 A l.length l) (hB : Below w0.heap.size w0 w) (hg : w0.heap.size ≤ g) (hR : IsR w g A n c at_ bad) :
    Calls Try.prog 42 #[.pointer (some ⟨g, 0, none⟩), .int .i64 least, .int .i64 most] w (ToldB w0 w g A n c (bstep least most l at_ bad)) := by
  have HC := Aside0.mk (count_step g A n c at_ bad most (by omega) hc ha l hl hby w0 w hr hB hg hR)
  obtain ⟨v, hv⟩ : ∃ v, (step 4 most l at_ bad).1 = v := ⟨_, rfl⟩
  obtain ⟨at2, hat2⟩ : ∃ v, (step 4 most l at_ bad).2.1 = v := ⟨_, rfl⟩
  obtain ⟨bad2, hbad2⟩ : ∃ v, (step 4 most l at_ bad).2.2 = v := ⟨_, rfl⟩
  have hok := fun h : (step 4 most l at_ bad).2.2 < 0 => step_at' h
  unfold bstep
  rw [hv, hat2, hbad2] at HC hok ⊢
  obtain ⟨h0, h1, h2, h3, h4, h5⟩ := hR
  have HL := Aside0.mk hl
  have HR := Aside0.mk hr
  have HBY := Aside0.mk hby
  have HOK := Aside0.mk hok
  clear hv hat2 hbad2 hl hr hby hB hok
  by_cases hb : 0 ≤ bad2
  · rw [if_pos hb]
    have hd : decide (0 ≤ bad2) = true := decide_eq_true hb
    go_enter Try.func42, Try.ntmps42
    go_wp2_with (first
      | (go_at_call 43; (with_reducible refine HC.out.mono ?_); rintro e w1 ⟨rfl, hI, hB1, hK1⟩; have HI := Aside0.mk hI; have HB1 := Aside0.mk hB1; have HK1 := Aside0.mk hK1; obtain ⟨k0, k1, k2, k3, k4, k5⟩ := hI; clear hB1 hK1)
      | fail)
    go_ret
    exact ToldB.nil HI.out HB1.out HK1.out
  · rw [if_neg hb]
    have hd : decide (0 ≤ bad2) = false := decide_eq_false hb
    obtain ⟨g1, g2, g3, -, g5, g6⟩ := HOK.out (by omega)
    subst g6
    have hn' := HL.out
    rw [hn'] at g1 ⊢
    have HG2 := Aside0.mk g2
    have g7 : at2 ≤ n := by omega
    clear hn' hb g2
    by_cases hf : v < least ∨ (n : Int) - (at2 : Int) < v
    · rw [if_pos hf]
      by_cases hd1 : v < least
      · have hd1' : decide (v < least) = true := decide_eq_true hd1
        clear hf hd1
        go_enter Try.func42, Try.ntmps42
        go_wp2_with (first | (go_at_call 43; (with_reducible refine HC.out.mono ?_); rintro e w1 ⟨rfl, hI, hB1, hK1⟩; have HI := Aside0.mk hI; have HB1 := Aside0.mk hB1; have HK1 := Aside0.mk hK1; obtain ⟨k0, k1, k2, k3, k4, k5⟩ := hI; clear hB1 hK1) | fail)
        go_quiet (fail)
        go_wp2
        first | go_end0 | refine bodyPost_ret (results_none rfl _ _ _) rfl ?_
        go_wp2
        go_ret
        exact ToldB.nil (((HI.out.below (pw_below_drewN (Below.refl _ _) _)).setAt at_).setBad _) (Below.setCell (Below.setCell (pw_below_drewN HB1.out _) hg _) hg _) (((HK1.out.drewN _).setCell (.inl rfl) _).setCell (.inl rfl) _)
      · have hd1' : decide (v < least) = false := decide_eq_false hd1
        have hd2' : decide ((n : Int) - (at2 : Int) < v) = true := decide_eq_true (by omega)
        clear hf hd1
        go_enter Try.func42, Try.ntmps42
        go_wp2_with (first | (go_at_call 43; (with_reducible refine HC.out.mono ?_); rintro e w1 ⟨rfl, hI, hB1, hK1⟩; have HI := Aside0.mk hI; have HB1 := Aside0.mk hB1; have HK1 := Aside0.mk hK1; obtain ⟨k0, k1, k2, k3, k4, k5⟩ := hI; clear hB1 hK1) | fail)
        go_quiet (fail)
        go_wp2
        first | go_end0 | refine bodyPost_ret (results_none rfl _ _ _) rfl ?_
        go_wp2
        go_ret
        exact ToldB.nil (((HI.out.below (pw_below_drewN (Below.refl _ _) _)).setAt at_).setBad _) (Below.setCell (Below.setCell (pw_below_drewN HB1.out _) hg _) hg _) (((HK1.out.drewN _).setCell (.inl rfl) _).setCell (.inl rfl) _)
    · rw [if_neg hf]
      have hd1 : decide (v < least) = false := decide_eq_false (by omega)
      have hd2 : decide ((n : Int) - (at2 : Int) < v) = false := decide_eq_false (by omega)
      obtain ⟨m, rfl⟩ : ∃ m : Nat, v = (m : Int) := ⟨v.toNat, by omega⟩
      have hsum : at2 + m ≤ n := by omega
      clear hf
      have hwm : IntKind.i64.wrap ((at2 : Int) + (m : Int)) = ((at2 + m : Nat) : Int) := by rw [IntWalk.i64_in _ (by omega)]; omega
      have hlm : ((l.drop at2).take m).length = m := by have := HL.out; rw [List.length_take, List.length_drop]; omega
      have hall := Kd.at_int HR.out 0 (by omega) (by have := HL.out; omega)
      obtain ⟨ad, e, -⟩ := hall
      subst e
      have HSL : Aside0 (∃ A2 : Option Addr, A2 = (if c = at2 then some ad else some (ad.add at2)) ∧ Kd.C (Kd.int .u8) w0 A2 ((l.drop at2).take m).length ((l.drop at2).take m)) := by
        refine ⟨_, rfl, ?_⟩
        split
        · have h0 := C_sub HR.out 0 0 (Nat.zero_le _)
          have hm : m = 0 := by omega
          subst hm
          simpa [Addr.add] using h0
        · exact C_sub HR.out at2 m (by have := HL.out; omega)
      have HLM := Aside0.mk hlm
      clear hlm
      have HCL : Aside0 (∀ W', Below w0.heap.size w0 W' → Calls Try.prog 64 #[.slice (if c = at2 then some ad else some (ad.add at2)) m (c - at2)] W' (Copy W' ((l.drop at2).take m))) := ⟨fun W' hb => by
        obtain ⟨A2, e, h2⟩ := HSL.out
        subst e
        exact clone_calls _ m (c - at2) ((l.drop at2).take m) HLM.out (by omega) W' (Kd.C_below h2 hb)⟩
      rw [Int.toNat_natCast]
      obtain ⟨L, hL⟩ : ∃ L, (l.drop at2).take m = L := ⟨_, rfl⟩
      rw [hL] at HSL HLM HCL ⊢
      have HLL := Aside0.mk hL
      clear hL
      by_cases hcl : c = at2
      · rw [if_pos hcl, show m = 0 from by omega, show c - at2 = 0 from by omega] at HCL
        go_enter Try.func42, Try.ntmps42
        go_wp2_with (first | (go_at_call 43; (with_reducible refine HC.out.mono ?_); rintro e w1 ⟨rfl, hI, hB1, hK1⟩; have HI := Aside0.mk hI; have HB1 := Aside0.mk hB1; have HK1 := Aside0.mk hK1; obtain ⟨k0, k1, k2, k3, k4, k5⟩ := hI; clear hB1 hK1) | fail)
        go_quiet (fail)
        go_wp2
        go_region_with (go_at_call 64; (with_reducible refine (HCL.out _ (pw_below_drewN HB1.out _)).mono ?_); rintro e w2 ⟨B, d, rfl, p1, p2, p3⟩; rw [HLM.out]; have HP1 := Aside0.mk p1; have HP2 := Aside0.mk p2; have HI2 := Aside0.mk ((HI.out.below (pw_below_drewN (Below.refl _ _) _)).below p3); have HB2 := Aside0.mk (below_then (pw_below_drewN HB1.out _) HB1.out.size p3); have HK2 := Aside0.mk ((HK1.out.drewN _).below p3); obtain ⟨l0, l1, l2, l3, l4, l5⟩ := HI2.out; clear p1 p2 p3)
        all_goals
          refine (‹∀ (a : Act) (w_1 : World), Code.wp _ _ _ a w_1 → _› _ _ ?_)
          go_wp2
        all_goals go_ret
        all_goals exact ⟨B, d, congrArg (fun k => Ending.returned (.slice B k d)) HLM.out.symm, HP1.out, C_set HP2.out l1 (fun x => by simp) _, HI2.out.setAt _, HB2.out.setCell hg _, HK2.out.setCell (.inl rfl) _⟩
      · rw [if_neg hcl] at HCL
        go_enter Try.func42, Try.ntmps42
        go_wp2_with (first | (go_at_call 43; (with_reducible refine HC.out.mono ?_); rintro e w1 ⟨rfl, hI, hB1, hK1⟩; have HI := Aside0.mk hI; have HB1 := Aside0.mk hB1; have HK1 := Aside0.mk hK1; obtain ⟨k0, k1, k2, k3, k4, k5⟩ := hI; clear hB1 hK1) | fail)
        go_quiet (fail)
        go_wp2
        go_region_with (go_at_call 64; (with_reducible refine (HCL.out _ (pw_below_drewN HB1.out _)).mono ?_); rintro e w2 ⟨B, d, rfl, p1, p2, p3⟩; rw [HLM.out]; have HP1 := Aside0.mk p1; have HP2 := Aside0.mk p2; have HI2 := Aside0.mk ((HI.out.below (pw_below_drewN (Below.refl _ _) _)).below p3); have HB2 := Aside0.mk (below_then (pw_below_drewN HB1.out _) HB1.out.size p3); have HK2 := Aside0.mk ((HK1.out.drewN _).below p3); obtain ⟨l0, l1, l2, l3, l4, l5⟩ := HI2.out; clear p1 p2 p3)
        all_goals
          refine (‹∀ (a : Act) (w_1 : World), Code.wp _ _ _ a w_1 → _› _ _ ?_)
          go_wp2
        all_goals go_ret
        all_goals exact ⟨B, d, congrArg (fun k => Ending.returned (.slice B k d)) HLM.out.symm, HP1.out, C_set HP2.out l1 (fun x => by simp) _, HI2.out.setAt _, HB2.out.setCell hg _, HK2.out.setCell (.inl rfl) _⟩
end Go.Proofs.Ytlngkcaaenpnaaa.Wire
