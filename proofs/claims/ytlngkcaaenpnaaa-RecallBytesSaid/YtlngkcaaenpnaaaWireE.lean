/- wire: the document's bytes, as calls. -/
import Derived.Test.YtlngkcaaenpnaaaWireC
import Derived.Test.YtlngkcaaenpnaaaNumW
namespace Go.Proofs.Ytlngkcaaenpnaaa.Wire
set_option linter.unusedVariables false
open Go.RowKit Go.Proofs.Ytlngkcaaenpnaaa.Num Go.Proofs.Ytlngkcaaenpnaaa.PWi Go.Proofs.YtlngkcaaenpnaaaW Go.Proofs.YtlngkcaaenpnaaaW.PrintWords Go.Proofs.YtlngkcaaenpnaaaW.PrintLast Go.Proofs.YtlngkcaaenpnaaaW.PrintMore

theorem le_succ : ∀ k v, le (k + 1) v = le k v ++ [((v / 256 ^ k % 256 : Nat) : Int)]
  | 0, v => by simp [le]
  | k + 1, v => by
    rw [le, le_succ k (v / 256), le, Nat.div_div_eq_div_mul, show 256 * 256 ^ k = 256 ^ (k + 1) from by rw [Nat.pow_succ, Nat.mul_comm]]
    rfl
theorem bes_be : ∀ (m n : Nat), bes m (n : Int) = be m n
  | 0, n => rfl
  | m + 1, n => by
    rw [bes, be, le_succ, List.reverse_append, bes_be m n]
    have e : (n : Int) / 256 ^ m % 256 = ((n / 256 ^ m % 256 : Nat) : Int) := by rw [Int.natCast_emod, Int.natCast_ediv, Int.natCast_pow]; rfl
    rw [e]
    rfl
theorem refint_ev (n : Int) (hn : -9223372036854775808 ≤ n ∧ n ≤ 9223372036854775807) : Ev (fun k => cleromancyref22_Int.f k n) (bes 8 (if n < 0 then 0 else n)) := by
  by_cases h : n < 0
  · rw [if_pos h]
    have h1 := int_ev 0 (by omega)
    have h2 := tobig_ev (dg 0) (dg_Dg 0) (by rw [dg_zero]; simp) 8 (by omega)
    rw [vn_dg, ← bes_be] at h2
    refine Ev.congr (fun k => by rw [cleromancyref22_Int.f, if_pos h]) ?_
    exact Ev.bind h1 (Ev.bind h2 (Ev.now _))
  · obtain ⟨n, rfl⟩ : ∃ m : Nat, n = m := ⟨n.toNat, by omega⟩
    rw [if_neg h]
    have h1 := int_ev n (by omega)
    have h2 := tobig_ev (dg n) (dg_Dg n) (Nat.le_trans (dg_len_le n 3 (by omega)) (by omega)) 8 (by omega)
    rw [vn_dg, ← bes_be] at h2
    refine Ev.congr (fun k => by rw [cleromancyref22_Int.f, if_neg h]) ?_
    exact Ev.bind h1 (Ev.bind h2 (Ev.now _))
theorem refcount_ev (n : Int) (hn : -9223372036854775808 ≤ n ∧ n ≤ 9223372036854775807) : Ev (fun k => cleromancyref22_Count.f k n) (bes 4 (cnt n)) := by
  have key : ∀ (x : Int) (bb : Bool) (m : Nat), (bb = true → m = 0) → (bb = false → x = m) → m ≤ 4294967295 → Ev (fun k => cleromancyref22_Count.j0 k x bb) (bes 4 (m : Int)) := fun x bb m h0 h1 hm => by
    have e1 := int_ev m (by omega)
    have e2 := tobig_ev (dg m) (dg_Dg m) (Nat.le_trans (dg_len_le m 3 (by omega)) (by omega)) 4 (by omega)
    rw [vn_dg, ← bes_be] at e2
    cases bb with
    | true =>
      have := h0 rfl
      subst this
      refine Ev.step (fun k => by rw [cleromancyref22_Count.j0, if_pos rfl]) ?_
      exact Ev.bind e1 (Ev.bind e2 (Ev.now _))
    | false =>
      have := h1 rfl
      subst this
      refine Ev.step (fun k => by rw [cleromancyref22_Count.j0, if_neg (by simp)]) ?_
      exact Ev.bind e1 (Ev.bind e2 (Ev.now _))
  by_cases h : n < 0
  · rw [cnt, if_pos (.inl h)]
    refine Ev.congr (fun k => by rw [cleromancyref22_Count.f, if_pos h]) ?_
    exact key n true 0 (fun _ => rfl) (fun h => by cases h) (by omega)
  · by_cases h2 : 4294967295 < n
    · rw [cnt, if_pos (.inr h2)]
      refine Ev.congr (fun k => by rw [cleromancyref22_Count.f, if_neg h, decide_eq_true (show n > 4294967295 from h2)]) ?_
      exact key n true 0 (fun _ => rfl) (fun h => by cases h) (by omega)
    · obtain ⟨m, rfl⟩ : ∃ m : Nat, n = m := ⟨n.toNat, by omega⟩
      rw [cnt, if_neg (by omega)]
      refine Ev.congr (fun k => by rw [cleromancyref22_Count.f, if_neg h, decide_eq_false (show ¬ ((m : Int) > 4294967295) from by omega)]) ?_
      exact key m false m (fun h => by cases h) (fun _ => rfl) (by omega)
theorem bes_len : ∀ (m : Nat) (n : Int), (bes m n).length = m
  | 0, _ => rfl
  | m + 1, n => by rw [bes, List.length_cons, bes_len m n]
theorem refbytes_ev (l : List Int) (hl : l.length ≤ 1000000) : Ev (fun k => cleromancyref22_Bytes.f k l) (bes 4 (l.length : Int) ++ l) := by
  have h := refcount_ev (l.length : Int) (by omega)
  rw [show cnt (l.length : Int) = (l.length : Int) from by rw [cnt, if_neg (by omega)]] at h
  refine Ev.bind h ?_
  refine Ev.congr (fun k => by rw [if_pos (by rw [bes_len]; omega)]) (Ev.now _)
theorem Copy.of {w w' : World} {l : List Int} {e : Ending} (h : ∃ v0_ : Value, e = .returned (v0_) ∧ Kd.R (Kd.int .u8) 5 w' w.heap.size (fun _ => True) v0_ l ∧ Below w.heap.size w w') : Copy w l e w' := by
  obtain ⟨v, rfl, hR, hB⟩ := h
  obtain ⟨A, c, rfl⟩ := Kd.R_slice hR
  have h2 := Kd.R_reads' hR
  exact ⟨A, c, rfl, h2.2.1, h2.2.2, hB⟩
theorem refint_calls (n : Int) (hn : -9223372036854775808 ≤ n ∧ n ≤ 9223372036854775807) (w : World) : Calls Try.prog 59 #[.int .i64 n] w (Copy w (bes 8 (if n < 0 then 0 else n))) := by
  obtain ⟨K, hK⟩ := refint_ev n hn
  exact (cleromancyref22_Int.calls K n _ w (hK K (Nat.le_refl _))).mono fun e w' h => Copy.of h
theorem refcount_calls (n : Int) (hn : -9223372036854775808 ≤ n ∧ n ≤ 9223372036854775807) (w : World) : Calls Try.prog 62 #[.int .i64 n] w (Copy w (bes 4 (cnt n))) := by
  obtain ⟨K, hK⟩ := refcount_ev n hn
  exact (cleromancyref22_Count.calls K n _ w (hK K (Nat.le_refl _))).mono fun e w' h => Copy.of h
theorem refbytes_calls (A : Option Addr) (n c : Nat) (l : List Int) (hn : l.length = n) (hc : n ≤ c) (hl : n ≤ 1000000) (w : World) (hb : Kd.C (Kd.int .u8) w A l.length l) : Calls Try.prog 60 #[.slice A n c] w (Copy w (bes 4 (n : Int) ++ l)) := by
  subst hn
  obtain ⟨K, hK⟩ := refbytes_ev l hl
  exact (cleromancyref22_Bytes.calls K A c l _ w hb hc (hK K (Nat.le_refl _))).mono fun e w' h => Copy.of h
theorem bsame_calls (A0 : Option Addr) (n0 c0 : Nat) (l0 : List Int) (hn0 : l0.length = n0) (A1 : Option Addr) (n1 c1 : Nat) (l1 : List Int) (hn1 : l1.length = n1) (w : World) (hr0 : Kd.C (Kd.int .u8) w A0 l0.length l0) (hc0 : n0 ≤ c0) (hr1 : Kd.C (Kd.int .u8) w A1 l1.length l1) (hc1 : n1 ≤ c1) (hl : n0 ≤ 1000000) :
    Calls Try.prog 37 #[.slice A0 n0 c0, .slice A1 n1 c1] w fun e w' => e = .returned (.bool (decide (l0 = l1))) ∧ Below w.heap.size w w' := by
  subst hn0 hn1
  obtain ⟨K, hK⟩ := same_ev l0 l1 hl
  exact (cleromancyref01_Same.calls K A0 c0 l0 A1 c1 l1 _ w hr0 hc0 hr1 hc1 (hK K (Nat.le_refl _))).mono fun e w' h => ⟨h.1, h.2.below⟩
end Go.Proofs.Ytlngkcaaenpnaaa.Wire
