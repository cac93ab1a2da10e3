/-
  No cell of these rows narrows 'for every input' (looked for: loops, veiled, ifaces, maps, wideKeys, modest, calm, conditions, laid).
  DERIVED. THE GIVEN ROWS OF THIS SEAT. 8 by the template 'for every input the law returns true; each argument reads behind the call as it read before'; 0 by the template 'total and deterministic' (their statements: YtjkelnnjfpcapaaTotals.lean).
  GIVEN WITH THE SEED: the statements are not yours to turn. If you find one false, say at which input.
  Laid BY PROGRAM, IN A SANDBOX (cutbox-rows.mjs): the forced cells as the released guide's own fill.sh prints them over the translation 5b1d3ef0922ef501… (all of the seat's roots in one cut). By AI agents, Wed Nov 11 2026. No macro, syntax, notation, axiom, sorry.
-/
import Derived.Test.YtjkelnnjfpcapaaChecked
import GoSem.Claim
import GoSem.ClaimJoined
import GoSem.ClaimMapViews
import Derived.JoinedTies
import Derived.KernelRfl
namespace Go.Proofs.Ytjkelnnjfpcapaa
/- THE CELL 'sum', in the pinned program and in every row, IS THE sha256 OF THE DUMP (.gsa) THAT YtjkelnnjfpcapaaProg.lean LOADS. Nothing in Lean hashes anything: it is a label: what it is worth is what the hold of that sum in a sandbox is worth. -/
noncomputable def Try.pinned : Pinned := { name := "ytjkelnnjfpcapaa", sum := "5b1d3ef0922ef5015f86363553acb54a096c05440423dfe797a267d15f26c09f", checked := Try.checked }
namespace Rows
def none {H : Type} : Left H := { results := [], args := [] }

/-- 'cleromancylaw02.NatBytes': WHATEVER THE INPUT: true; the input reads as it did. -/
def natBytesSpec : ChangeSpec := { name := "natBytes", fn := fun _ => fun
  | [d1, d2] => { results := [.lit (.bool true)], args := [d1, d2] }
  | _ => none }
def natBytesRow : OpenClaim := { program := "ytjkelnnjfpcapaa", sum := "5b1d3ef0922ef5015f86363553acb54a096c05440423dfe797a267d15f26c09f", func := "cleromancy/cleromancylaw02.NatBytes", spec := "natBytes", inPlace := ["math/bits.Add64"], apart := false }
def NatBytesSaid : Prop := natBytesRow.holds Try.pinned (OpenSpec.ofChange natBytesSpec)

/-- ITS FALSE NEIGHBOUR: 'it returns false'. Refute it at one input. -/
def natBytesWrong : ChangeSpec := { name := "natBytes", fn := fun _ => fun
  | [d1, d2] => { results := [.lit (.bool false)], args := [d1, d2] }
  | _ => none }
def NatBytesWrongFalsely : Prop := natBytesRow.holds Try.pinned (OpenSpec.ofChange natBytesWrong)

/-- 'cleromancylaw02.NatPowers': WHATEVER THE INPUT: true; the input reads as it did. -/
def natPowersSpec : ChangeSpec := { name := "natPowers", fn := fun _ => fun
  | [d1, d2, d3] => { results := [.lit (.bool true)], args := [d1, d2, d3] }
  | _ => none }
def natPowersRow : OpenClaim := { program := "ytjkelnnjfpcapaa", sum := "5b1d3ef0922ef5015f86363553acb54a096c05440423dfe797a267d15f26c09f", func := "cleromancy/cleromancylaw02.NatPowers", spec := "natPowers", inPlace := ["math/bits.Add64"], apart := false }
def NatPowersSaid : Prop := natPowersRow.holds Try.pinned (OpenSpec.ofChange natPowersSpec)

/-- ITS FALSE NEIGHBOUR: 'it returns false'. Refute it at one input. -/
def natPowersWrong : ChangeSpec := { name := "natPowers", fn := fun _ => fun
  | [d1, d2, d3] => { results := [.lit (.bool false)], args := [d1, d2, d3] }
  | _ => none }
def NatPowersWrongFalsely : Prop := natPowersRow.holds Try.pinned (OpenSpec.ofChange natPowersWrong)

/-- 'cleromancylaw02.NatSums': WHATEVER THE INPUT: true; the input reads as it did. -/
def natSumsSpec : ChangeSpec := { name := "natSums", fn := fun _ => fun
  | [d1, d2] => { results := [.lit (.bool true)], args := [d1, d2] }
  | _ => none }
def natSumsRow : OpenClaim := { program := "ytjkelnnjfpcapaa", sum := "5b1d3ef0922ef5015f86363553acb54a096c05440423dfe797a267d15f26c09f", func := "cleromancy/cleromancylaw02.NatSums", spec := "natSums", inPlace := ["math/bits.Add64", "math/bits.Sub64"], apart := false }
def NatSumsSaid : Prop := natSumsRow.holds Try.pinned (OpenSpec.ofChange natSumsSpec)

/-- ITS FALSE NEIGHBOUR: 'it returns false'. Refute it at one input. -/
def natSumsWrong : ChangeSpec := { name := "natSums", fn := fun _ => fun
  | [d1, d2] => { results := [.lit (.bool false)], args := [d1, d2] }
  | _ => none }
def NatSumsWrongFalsely : Prop := natSumsRow.holds Try.pinned (OpenSpec.ofChange natSumsWrong)

/-- 'cleromancylaw02.NatProducts': WHATEVER THE INPUT: true; the input reads as it did. -/
def natProductsSpec : ChangeSpec := { name := "natProducts", fn := fun _ => fun
  | [d1, d2, d3] => { results := [.lit (.bool true)], args := [d1, d2, d3] }
  | _ => none }
def natProductsRow : OpenClaim := { program := "ytjkelnnjfpcapaa", sum := "5b1d3ef0922ef5015f86363553acb54a096c05440423dfe797a267d15f26c09f", func := "cleromancy/cleromancylaw02.NatProducts", spec := "natProducts", inPlace := ["math/bits.Add64"], named := ["math/bits.divideError", "math/bits.overflowError"], apart := false }
def NatProductsSaid : Prop := natProductsRow.holds Try.pinned (OpenSpec.ofChange natProductsSpec)

/-- ITS FALSE NEIGHBOUR: 'it returns false'. Refute it at one input. -/
def natProductsWrong : ChangeSpec := { name := "natProducts", fn := fun _ => fun
  | [d1, d2, d3] => { results := [.lit (.bool false)], args := [d1, d2, d3] }
  | _ => none }
def NatProductsWrongFalsely : Prop := natProductsRow.holds Try.pinned (OpenSpec.ofChange natProductsWrong)

/-- 'cleromancylaw02.NatBack': WHATEVER THE INPUT: true; the input reads as it did. -/
def natBackSpec : ChangeSpec := { name := "natBack", fn := fun _ => fun
  | [d1, d2, d3] => { results := [.lit (.bool true)], args := [d1, d2, d3] }
  | _ => none }
def natBackRow : OpenClaim := { program := "ytjkelnnjfpcapaa", sum := "5b1d3ef0922ef5015f86363553acb54a096c05440423dfe797a267d15f26c09f", func := "cleromancy/cleromancylaw02.NatBack", spec := "natBack", inPlace := ["math/bits.Add64", "math/bits.Sub64"], named := ["math/bits.divideError", "math/bits.overflowError"], apart := false }
def NatBackSaid : Prop := natBackRow.holds Try.pinned (OpenSpec.ofChange natBackSpec)

/-- ITS FALSE NEIGHBOUR: 'it returns false'. Refute it at one input. -/
def natBackWrong : ChangeSpec := { name := "natBack", fn := fun _ => fun
  | [d1, d2, d3] => { results := [.lit (.bool false)], args := [d1, d2, d3] }
  | _ => none }
def NatBackWrongFalsely : Prop := natBackRow.holds Try.pinned (OpenSpec.ofChange natBackWrong)

/-- 'cleromancylaw20.BinomDraws': WHATEVER THE INPUT: true; the input reads as it did. -/
def binomDrawsSpec : ChangeSpec := { name := "binomDraws", fn := fun _ => fun
  | [d1, d2, d3] => { results := [.lit (.bool true)], args := [d1, d2, d3] }
  | _ => none }
def binomDrawsRow : OpenClaim := { program := "ytjkelnnjfpcapaa", sum := "5b1d3ef0922ef5015f86363553acb54a096c05440423dfe797a267d15f26c09f", func := "cleromancy/cleromancylaw20.BinomDraws", spec := "binomDraws", inPlace := ["math/bits.Add64"], unfollowed := true, recurses := true, named := ["math/bits.divideError", "math/bits.overflowError"], apart := false }
def BinomDrawsSaid : Prop := binomDrawsRow.holds Try.pinned (OpenSpec.ofChange binomDrawsSpec)

/-- ITS FALSE NEIGHBOUR: 'it returns false'. Refute it at one input. -/
def binomDrawsWrong : ChangeSpec := { name := "binomDraws", fn := fun _ => fun
  | [d1, d2, d3] => { results := [.lit (.bool false)], args := [d1, d2, d3] }
  | _ => none }
def BinomDrawsWrongFalsely : Prop := binomDrawsRow.holds Try.pinned (OpenSpec.ofChange binomDrawsWrong)

/-- 'cleromancylaw20.BinomTerms': WHATEVER THE INPUT: true; the input reads as it did. -/
def binomTermsSpec : ChangeSpec := { name := "binomTerms", fn := fun _ => fun
  | [d1, d2, d3] => { results := [.lit (.bool true)], args := [d1, d2, d3] }
  | _ => none }
def binomTermsRow : OpenClaim := { program := "ytjkelnnjfpcapaa", sum := "5b1d3ef0922ef5015f86363553acb54a096c05440423dfe797a267d15f26c09f", func := "cleromancy/cleromancylaw20.BinomTerms", spec := "binomTerms", inPlace := ["math/bits.Add64"], unfollowed := true, recurses := true, named := ["math/bits.divideError", "math/bits.overflowError"], apart := false }
def BinomTermsSaid : Prop := binomTermsRow.holds Try.pinned (OpenSpec.ofChange binomTermsSpec)

/-- ITS FALSE NEIGHBOUR: 'it returns false'. Refute it at one input. -/
def binomTermsWrong : ChangeSpec := { name := "binomTerms", fn := fun _ => fun
  | [d1, d2, d3] => { results := [.lit (.bool false)], args := [d1, d2, d3] }
  | _ => none }
def BinomTermsWrongFalsely : Prop := binomTermsRow.holds Try.pinned (OpenSpec.ofChange binomTermsWrong)

/-- 'cleromancylaw20.BinomSums': WHATEVER THE INPUT: true; the input reads as it did. -/
def binomSumsSpec : ChangeSpec := { name := "binomSums", fn := fun _ => fun
  | [d1, d2, d3] => { results := [.lit (.bool true)], args := [d1, d2, d3] }
  | _ => none }
def binomSumsRow : OpenClaim := { program := "ytjkelnnjfpcapaa", sum := "5b1d3ef0922ef5015f86363553acb54a096c05440423dfe797a267d15f26c09f", func := "cleromancy/cleromancylaw20.BinomSums", spec := "binomSums", inPlace := ["math/bits.Add64"], unfollowed := true, recurses := true, named := ["math/bits.divideError", "math/bits.overflowError"], apart := false }
def BinomSumsSaid : Prop := binomSumsRow.holds Try.pinned (OpenSpec.ofChange binomSumsSpec)

/-- ITS FALSE NEIGHBOUR: 'it returns false'. Refute it at one input. -/
def binomSumsWrong : ChangeSpec := { name := "binomSums", fn := fun _ => fun
  | [d1, d2, d3] => { results := [.lit (.bool false)], args := [d1, d2, d3] }
  | _ => none }
def BinomSumsWrongFalsely : Prop := binomSumsRow.holds Try.pinned (OpenSpec.ofChange binomSumsWrong)

/- THE SECOND FORM. 'bulk': how many values and letters a reading holds, each counted each time it is reached (what is shared counts as often as it is met; a slice's spare places count too). A statement '..UptoSaid' is the law's where the arguments, and the package variables that the reading takes, are together of bulk at most 1048576: NARROWER than '..Said'. Prove '..Said' where nothing that the law and all that it calls make is longer than what came in: it says more and counts as full. Else prove '..UptoSaid'. A law counts once. -/
mutual
def uptoBulk {H : Type} : DataW H → Nat
  | .lit (.string bytes) => bytes.length + 1
  | .lit _ => 1
  | .nil => 1
  | .ptr d => uptoBulk d + 1
  | .slice elems spare => uptoBulkAll elems + uptoBulkAll spare + 1
  | .agg parts => uptoBulkAll parts + 1
  | .iface _ d => uptoBulk d + 1
  | .map entries => uptoBulkEntries entries + 1
  | .held _ => 1
def uptoBulkAll {H : Type} : List (DataW H) → Nat
  | [] => 0
  | d :: r => uptoBulk d + uptoBulkAll r
def uptoBulkEntries {H : Type} : List (Lit × DataW H) → Nat
  | [] => 0
  | x :: r => uptoBulkEntry x + uptoBulkEntries r
def uptoBulkEntry {H : Type} : Lit × DataW H → Nat
  | (.string bytes, d) => bytes.length + uptoBulk d + 1
  | (_, d) => uptoBulk d + 1
 end
def uptoSmall : (H : Type) → List (DataW H) → Bool := fun _ ds => decide (uptoBulkAll ds ≤ 1048576)
def OpenSpec.upto (s : _root_.Go.ChangeSpec) : _root_.Go.OpenSpec := { _root_.Go.OpenSpec.ofChange s with cond := some uptoSmall }

/-- 'cleromancylaw02.NatBytes', WHERE WHAT IT READS IS OF BULK AT MOST 1048576: true; the input reads as it did. -/
def natBytesUptoRow : OpenClaim := { program := "ytjkelnnjfpcapaa", sum := "5b1d3ef0922ef5015f86363553acb54a096c05440423dfe797a267d15f26c09f", func := "cleromancy/cleromancylaw02.NatBytes", spec := "natBytes", inPlace := ["math/bits.Add64"], apart := false, narrowed := true }
def NatBytesUptoSaid : Prop := natBytesUptoRow.holds Try.pinned (OpenSpec.upto natBytesSpec)

/-- 'cleromancylaw02.NatPowers', WHERE WHAT IT READS IS OF BULK AT MOST 1048576: true; the input reads as it did. -/
def natPowersUptoRow : OpenClaim := { program := "ytjkelnnjfpcapaa", sum := "5b1d3ef0922ef5015f86363553acb54a096c05440423dfe797a267d15f26c09f", func := "cleromancy/cleromancylaw02.NatPowers", spec := "natPowers", inPlace := ["math/bits.Add64"], apart := false, narrowed := true }
def NatPowersUptoSaid : Prop := natPowersUptoRow.holds Try.pinned (OpenSpec.upto natPowersSpec)

/-- 'cleromancylaw02.NatSums', WHERE WHAT IT READS IS OF BULK AT MOST 1048576: true; the input reads as it did. -/
def natSumsUptoRow : OpenClaim := { program := "ytjkelnnjfpcapaa", sum := "5b1d3ef0922ef5015f86363553acb54a096c05440423dfe797a267d15f26c09f", func := "cleromancy/cleromancylaw02.NatSums", spec := "natSums", inPlace := ["math/bits.Add64", "math/bits.Sub64"], apart := false, narrowed := true }
def NatSumsUptoSaid : Prop := natSumsUptoRow.holds Try.pinned (OpenSpec.upto natSumsSpec)

/-- 'cleromancylaw02.NatProducts', WHERE WHAT IT READS IS OF BULK AT MOST 1048576: true; the input reads as it did. -/
def natProductsUptoRow : OpenClaim := { program := "ytjkelnnjfpcapaa", sum := "5b1d3ef0922ef5015f86363553acb54a096c05440423dfe797a267d15f26c09f", func := "cleromancy/cleromancylaw02.NatProducts", spec := "natProducts", inPlace := ["math/bits.Add64"], named := ["math/bits.divideError", "math/bits.overflowError"], apart := false, narrowed := true }
def NatProductsUptoSaid : Prop := natProductsUptoRow.holds Try.pinned (OpenSpec.upto natProductsSpec)

/-- 'cleromancylaw02.NatBack', WHERE WHAT IT READS IS OF BULK AT MOST 1048576: true; the input reads as it did. -/
def natBackUptoRow : OpenClaim := { program := "ytjkelnnjfpcapaa", sum := "5b1d3ef0922ef5015f86363553acb54a096c05440423dfe797a267d15f26c09f", func := "cleromancy/cleromancylaw02.NatBack", spec := "natBack", inPlace := ["math/bits.Add64", "math/bits.Sub64"], named := ["math/bits.divideError", "math/bits.overflowError"], apart := false, narrowed := true }
def NatBackUptoSaid : Prop := natBackUptoRow.holds Try.pinned (OpenSpec.upto natBackSpec)

/-- 'cleromancylaw20.BinomDraws', WHERE WHAT IT READS IS OF BULK AT MOST 1048576: true; the input reads as it did. -/
def binomDrawsUptoRow : OpenClaim := { program := "ytjkelnnjfpcapaa", sum := "5b1d3ef0922ef5015f86363553acb54a096c05440423dfe797a267d15f26c09f", func := "cleromancy/cleromancylaw20.BinomDraws", spec := "binomDraws", inPlace := ["math/bits.Add64"], unfollowed := true, recurses := true, named := ["math/bits.divideError", "math/bits.overflowError"], apart := false, narrowed := true }
def BinomDrawsUptoSaid : Prop := binomDrawsUptoRow.holds Try.pinned (OpenSpec.upto binomDrawsSpec)

/-- 'cleromancylaw20.BinomTerms', WHERE WHAT IT READS IS OF BULK AT MOST 1048576: true; the input reads as it did. -/
def binomTermsUptoRow : OpenClaim := { program := "ytjkelnnjfpcapaa", sum := "5b1d3ef0922ef5015f86363553acb54a096c05440423dfe797a267d15f26c09f", func := "cleromancy/cleromancylaw20.BinomTerms", spec := "binomTerms", inPlace := ["math/bits.Add64"], unfollowed := true, recurses := true, named := ["math/bits.divideError", "math/bits.overflowError"], apart := false, narrowed := true }
def BinomTermsUptoSaid : Prop := binomTermsUptoRow.holds Try.pinned (OpenSpec.upto binomTermsSpec)

/-- 'cleromancylaw20.BinomSums', WHERE WHAT IT READS IS OF BULK AT MOST 1048576: true; the input reads as it did. -/
def binomSumsUptoRow : OpenClaim := { program := "ytjkelnnjfpcapaa", sum := "5b1d3ef0922ef5015f86363553acb54a096c05440423dfe797a267d15f26c09f", func := "cleromancy/cleromancylaw20.BinomSums", spec := "binomSums", inPlace := ["math/bits.Add64"], unfollowed := true, recurses := true, named := ["math/bits.divideError", "math/bits.overflowError"], apart := false, narrowed := true }
def BinomSumsUptoSaid : Prop := binomSumsUptoRow.holds Try.pinned (OpenSpec.upto binomSumsSpec)

end Rows
end Go.Proofs.Ytjkelnnjfpcapaa
