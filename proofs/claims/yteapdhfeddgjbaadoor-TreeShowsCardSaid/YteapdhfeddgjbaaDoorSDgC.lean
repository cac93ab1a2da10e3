/- digest: the document's block, as the print of the rest takes it. -/
import Derived.Test.YteapdhfeddgjbaaDoorSDgB
namespace Go.Proofs.YteapdhfeddgjbaaDoor.Dg
set_option linter.unusedVariables false
open Go.RowKit Go.Proofs.YteapdhfeddgjbaaDoor.PDb Go.Proofs.YteapdhfeddgjbaaDoorW Go.Proofs.YteapdhfeddgjbaaDoorW.PrintWords

/-- The block's words, where the words are eight and the bytes sixty-four. -/
def blkO (l0 l1 : List Int) : Option (List Int) := if l0.length = 8 ∧ l1.length = 64 ∧ (∀ x ∈ l1, 0 ≤ x ∧ x < 256) then some (blk l0 l1) else none
theorem blkO_calls (A0 : Option Addr) (c0 : Nat) (l0 : List Int) (A1 : Option Addr) (c1 : Nat) (l1 : List Int) (r : List Int) (w : World) (hr0 : Kd.C (Kd.int .u32) w A0 l0.length l0) (hc0 : l0.length ≤ c0) (hr1 : Kd.C (Kd.int .u8) w A1 l1.length l1) (hc1 : l1.length ≤ c1) (h : blkO l0 l1 = some r) :
    Calls Tryd.prog 93 #[.slice A0 l0.length c0, .slice A1 l1.length c1] w fun e w' => ∃ v0_ : Value, e = .returned (v0_) ∧ Kd.R (Kd.int .u32) 144 w' w.heap.size (fun _ => True) v0_ r ∧ Below w.heap.size w w' := by
  unfold blkO at h
  split at h
  · rename_i hc
    obtain ⟨h1, h2, h3⟩ := hc
    cases h
    rw [h1, h2]
    have hby : ∀ i, 0 ≤ rd l1 i ∧ rd l1 i < 256 := fun i => by
      unfold rd
      rw [List.getD_eq_getElem?_getD]
      by_cases hi : i.toNat < l1.length
      · rw [List.getElem?_eq_getElem hi, Option.getD_some]
        exact h3 _ (List.getElem_mem hi)
      · rw [List.getElem?_eq_none (by omega), Option.getD_none]
        omega
    exact block_calls A0 c0 l0 h1 A1 c1 l1 h2 hby w hr0 hr1 (by omega) (by omega)
  · cases h
end Go.Proofs.YteapdhfeddgjbaaDoor.Dg
