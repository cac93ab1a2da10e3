/- recall: an event's bytes. -/
import Derived.Test.YtlngkcaaenpnaaaRfC
import Derived.Test.YtlngkcaaenpnaaaWireD
namespace Go.Proofs.Ytlngkcaaenpnaaa.Wire
set_option linter.unusedVariables false
set_option linter.unusedSimpArgs false
open Go.RowKit Go.Proofs.Ytlngkcaaenpnaaa.Num Go.Proofs.Ytlngkcaaenpnaaa.PWi Go.Proofs.YtlngkcaaenpnaaaW Go.Proofs.YtlngkcaaenpnaaaW.PrintWords Go.Proofs.YtlngkcaaenpnaaaW.PrintLast Go.Proofs.YtlngkcaaenpnaaaW.PrintMore

/-- An event's bytes. -/
def putb (k now fr : Int) (l : List Int) : List Int := bes 1 (k % 256) ++ (if k = 1 then bes 8 (if now < 0 then 0 else now) else bes 8 (if fr < 0 then 0 else fr) ++ (bes 4 (l.length : Int) ++ l))
/-- Which events may be. -/
def mayb (k now fr : Int) (l : List Int) : Bool := decide ((k = 1 ∧ 0 ≤ now ∧ now ≤ 1099511627776 ∧ fr = 0 ∧ l.length = 0) ∨ (k = 2 ∧ 0 ≤ fr ∧ fr ≤ 127 ∧ l.length ≤ 1048576 ∧ now = 0))
theorem within_is (n a b : Int) : recall_within.f n a b = some (decide (a ≤ n ∧ n ≤ b)) := by
  unfold recall_within.f
  by_cases h1 : a ≤ n <;> by_cases h2 : n ≤ b <;> simp [h1, h2] <;> omega
theorem may_is (k now fr : Int) (l : List Int) : recall_may.f k now fr l = some (mayb k now fr l) := by
  unfold recall_may.f mayb
  rw [within_is, within_is]
  simp only [Option.bind_some, decide_eq_true_eq]
  by_cases h1 : k = 1
  · rw [if_pos h1]
    by_cases h2 : 0 ≤ now ∧ now ≤ 1099511627776
    · rw [if_pos h2]
      by_cases h3 : fr = 0
      · rw [if_pos h3]
        congr 1
        by_cases h4 : l.length = 0
        · rw [decide_eq_true (.inl ⟨h1, h2.1, h2.2, h3, h4⟩)]; simp [h4]
        · rw [decide_eq_false (by omega)]; simpa using h4
      · rw [if_neg h3, decide_eq_false (by omega)]
    · rw [if_neg h2, decide_eq_false (by omega)]
  · rw [if_neg h1]
    by_cases h2 : k = 2
    · rw [if_pos h2]
      by_cases h3 : 0 ≤ fr ∧ fr ≤ 127
      · rw [if_pos h3]
        by_cases h4 : (l.length : Int) ≤ 1048576
        · rw [if_pos h4]
          congr 1
          by_cases h5 : now = 0
          · rw [decide_eq_true (.inr ⟨h2, h3.1, h3.2, by omega, h5⟩)]; simp [h5]
          · rw [decide_eq_false (by omega)]; simpa using h5
        · rw [if_neg h4, decide_eq_false (by omega)]
      · rw [if_neg h3, decide_eq_false (by omega)]
    · rw [if_neg h2, decide_eq_false (by omega)]
theorem refmay_is (k now fr : Int) (l : List Int) : cleromancyref32_May.f k now fr l = some (mayb k now fr l) := by
  unfold cleromancyref32_May.f mayb
  by_cases h1 : k = 1
  · rw [if_pos h1]
    by_cases h2 : now ≥ 0
    · rw [if_pos h2]
      by_cases h2' : now ≤ 1099511627776
      · rw [if_pos h2']
        by_cases h3 : fr = 0
        · rw [if_pos h3]
          congr 1
          by_cases h4 : l.length = 0
          · rw [decide_eq_true (.inl ⟨h1, h2, h2', h3, h4⟩)]; simp [h4]
          · rw [decide_eq_false (by omega)]; simpa using h4
        · rw [if_neg h3, decide_eq_false (by omega)]
      · rw [if_neg h2', decide_eq_false (by omega)]
    · rw [if_neg h2, decide_eq_false (by omega)]
  · rw [if_neg h1]
    by_cases h2 : k = 2
    · rw [if_pos h2]
      by_cases h3 : fr ≥ 0
      · rw [if_pos h3]
        by_cases h3' : fr ≤ 127
        · rw [if_pos h3']
          by_cases h4 : (l.length : Int) ≤ 1048576
          · rw [if_pos h4]
            congr 1
            by_cases h5 : now = 0
            · rw [decide_eq_true (.inr ⟨h2, h3, h3', by omega, h5⟩)]; simp [h5]
            · rw [decide_eq_false (by omega)]; simpa using h5
          · rw [if_neg h4, decide_eq_false (by omega)]
        · rw [if_neg h3', decide_eq_false (by omega)]
      · rw [if_neg h3, decide_eq_false (by omega)]
    · rw [if_neg h2, decide_eq_false (by omega)]
theorem refput_ev (k now fr : Int) (l : List Int) (hn : -9223372036854775808 ≤ now ∧ now ≤ 9223372036854775807) (hf : -9223372036854775808 ≤ fr ∧ fr ≤ 9223372036854775807) (hl : l.length ≤ 1000000) : Ev (fun j => cleromancyref32_Put.f j k now fr l) (putb k now fr l) := by
  have e1 : bes 1 (k % 256) = [k % 256] := bes1 k
  by_cases h1 : k = 1
  · obtain ⟨K, hK⟩ := refint_ev now hn
    refine ⟨K, fun j hj => ?_⟩
    have h := hK j hj
    have h' : cleromancyref22_Int.f j now = some (bes 8 (if now < 0 then 0 else now)) := h
    show cleromancyref32_Put.f j k now fr l = _
    unfold cleromancyref32_Put.f putb
    rw [if_pos h1, e1]
    simp only [Option.bind_some]
    rw [if_pos h1, h']
    simp only [Option.bind_some]
    rw [if_pos (by rw [bes_len]; simp)]
  · obtain ⟨K, hK⟩ := refint_ev fr hf
    obtain ⟨K2, hK2⟩ := refbytes_ev l hl
    refine ⟨max K K2, fun j hj => ?_⟩
    have h' : cleromancyref22_Int.f j fr = some (bes 8 (if fr < 0 then 0 else fr)) := hK j (by omega)
    have h2' : cleromancyref22_Bytes.f j l = some (bes 4 (l.length : Int) ++ l) := hK2 j (by omega)
    show cleromancyref32_Put.f j k now fr l = _
    unfold cleromancyref32_Put.f putb
    rw [if_neg h1, e1]
    simp only [Option.bind_some]
    rw [if_neg h1, h', h2']
    simp only [Option.bind_some]
    rw [if_pos (by rw [bes_len]; simp), if_pos (by rw [List.length_append, List.length_append, bes_len, bes_len]; simp; omega), List.append_assoc]
end Go.Proofs.Ytlngkcaaenpnaaa.Wire
