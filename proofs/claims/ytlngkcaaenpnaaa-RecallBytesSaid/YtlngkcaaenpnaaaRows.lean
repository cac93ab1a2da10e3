/-
  No cell of these rows narrows 'for every input' (looked for: loops, veiled, ifaces, maps, wideKeys, modest, calm, conditions, laid).
  DERIVED. THE GIVEN ROWS OF THIS SEAT. 7 by the template 'for every input the law returns true; each argument reads behind the call as it read before'; 0 by the template 'total and deterministic' (their statements: YtlngkcaaenpnaaaTotals.lean).
  GIVEN WITH THE SEED: the statements are not yours to turn. If you find one false, say at which input.
  Laid BY PROGRAM, IN A SANDBOX (cutbox-rows.mjs): the forced cells as the released guide's own fill.sh prints them over the translation 4f06e4dae7256950… (all of the seat's roots in one cut). By AI agents, Wed Nov 11 2026. No macro, syntax, notation, axiom, sorry.
-/
import Derived.Test.YtlngkcaaenpnaaaChecked
import GoSem.Claim
import GoSem.ClaimJoined
import GoSem.ClaimMapViews
import Derived.JoinedTies
import Derived.KernelRfl
namespace Go.Proofs.Ytlngkcaaenpnaaa
/- THE CELL 'sum', in the pinned program and in every row, IS THE sha256 OF THE DUMP (.gsa) THAT YtlngkcaaenpnaaaProg.lean LOADS. Nothing in Lean hashes anything: it is a label: what it is worth is what the hold of that sum in a sandbox is worth. -/
noncomputable def Try.pinned : Pinned := { name := "ytlngkcaaenpnaaa", sum := "4f06e4dae7256950689460fcdfd1e6dfcb0619fa855b69bbbcac574b4e5ce1d1", checked := Try.checked }
namespace Rows
def none {H : Type} : Left H := { results := [], args := [] }

/-- 'cleromancylaw25.StakeSums': WHATEVER THE INPUT: true; the input reads as it did. -/
def stakeSumsSpec : ChangeSpec := { name := "stakeSums", fn := fun _ => fun
  | [d1, d2, d3] => { results := [.lit (.bool true)], args := [d1, d2, d3] }
  | _ => none }
def stakeSumsRow : OpenClaim := { program := "ytlngkcaaenpnaaa", sum := "4f06e4dae7256950689460fcdfd1e6dfcb0619fa855b69bbbcac574b4e5ce1d1", func := "cleromancy/cleromancylaw25.StakeSums", spec := "stakeSums", apart := false }
def StakeSumsSaid : Prop := stakeSumsRow.holds Try.pinned (OpenSpec.ofChange stakeSumsSpec)

/-- ITS FALSE NEIGHBOUR: 'it returns false'. Refute it at one input. -/
def stakeSumsWrong : ChangeSpec := { name := "stakeSums", fn := fun _ => fun
  | [d1, d2, d3] => { results := [.lit (.bool false)], args := [d1, d2, d3] }
  | _ => none }
def StakeSumsWrongFalsely : Prop := stakeSumsRow.holds Try.pinned (OpenSpec.ofChange stakeSumsWrong)

/-- 'cleromancylaw25.StakeMeets': WHATEVER THE INPUT: true; the input reads as it did. -/
def stakeMeetsSpec : ChangeSpec := { name := "stakeMeets", fn := fun _ => fun
  | [d1, d2, d3] => { results := [.lit (.bool true)], args := [d1, d2, d3] }
  | _ => none }
def stakeMeetsRow : OpenClaim := { program := "ytlngkcaaenpnaaa", sum := "4f06e4dae7256950689460fcdfd1e6dfcb0619fa855b69bbbcac574b4e5ce1d1", func := "cleromancy/cleromancylaw25.StakeMeets", spec := "stakeMeets", apart := false }
def StakeMeetsSaid : Prop := stakeMeetsRow.holds Try.pinned (OpenSpec.ofChange stakeMeetsSpec)

/-- ITS FALSE NEIGHBOUR: 'it returns false'. Refute it at one input. -/
def stakeMeetsWrong : ChangeSpec := { name := "stakeMeets", fn := fun _ => fun
  | [d1, d2, d3] => { results := [.lit (.bool false)], args := [d1, d2, d3] }
  | _ => none }
def StakeMeetsWrongFalsely : Prop := stakeMeetsRow.holds Try.pinned (OpenSpec.ofChange stakeMeetsWrong)

/-- 'cleromancylaw34.NetPlays': WHATEVER THE INPUT: true; the input reads as it did. -/
def netPlaysSpec : ChangeSpec := { name := "netPlays", fn := fun _ => fun
  | [d1, d2] => { results := [.lit (.bool true)], args := [d1, d2] }
  | _ => none }
def netPlaysRow : OpenClaim := { program := "ytlngkcaaenpnaaa", sum := "4f06e4dae7256950689460fcdfd1e6dfcb0619fa855b69bbbcac574b4e5ce1d1", func := "cleromancy/cleromancylaw34.NetPlays", spec := "netPlays", apart := false }
def NetPlaysSaid : Prop := netPlaysRow.holds Try.pinned (OpenSpec.ofChange netPlaysSpec)

/-- ITS FALSE NEIGHBOUR: 'it returns false'. Refute it at one input. -/
def netPlaysWrong : ChangeSpec := { name := "netPlays", fn := fun _ => fun
  | [d1, d2] => { results := [.lit (.bool false)], args := [d1, d2] }
  | _ => none }
def NetPlaysWrongFalsely : Prop := netPlaysRow.holds Try.pinned (OpenSpec.ofChange netPlaysWrong)

/-- 'cleromancylaw34.NetKeeps': WHATEVER THE INPUT: true; the input reads as it did. -/
def netKeepsSpec : ChangeSpec := { name := "netKeeps", fn := fun _ => fun
  | [d1, d2, d3] => { results := [.lit (.bool true)], args := [d1, d2, d3] }
  | _ => none }
def netKeepsRow : OpenClaim := { program := "ytlngkcaaenpnaaa", sum := "4f06e4dae7256950689460fcdfd1e6dfcb0619fa855b69bbbcac574b4e5ce1d1", func := "cleromancy/cleromancylaw34.NetKeeps", spec := "netKeeps", apart := false }
def NetKeepsSaid : Prop := netKeepsRow.holds Try.pinned (OpenSpec.ofChange netKeepsSpec)

/-- ITS FALSE NEIGHBOUR: 'it returns false'. Refute it at one input. -/
def netKeepsWrong : ChangeSpec := { name := "netKeeps", fn := fun _ => fun
  | [d1, d2, d3] => { results := [.lit (.bool false)], args := [d1, d2, d3] }
  | _ => none }
def NetKeepsWrongFalsely : Prop := netKeepsRow.holds Try.pinned (OpenSpec.ofChange netKeepsWrong)

/-- 'cleromancylaw22.WireWrites': WHATEVER THE INPUT: true; the input reads as it did. -/
def wireWritesSpec : ChangeSpec := { name := "wireWrites", fn := fun _ => fun
  | [d] => { results := [.lit (.bool true)], args := [d] }
  | _ => none }
def wireWritesRow : OpenClaim := { program := "ytlngkcaaenpnaaa", sum := "4f06e4dae7256950689460fcdfd1e6dfcb0619fa855b69bbbcac574b4e5ce1d1", func := "cleromancy/cleromancylaw22.WireWrites", spec := "wireWrites", unfollowed := true, recurses := true, apart := false }
def WireWritesSaid : Prop := wireWritesRow.holds Try.pinned (OpenSpec.ofChange wireWritesSpec)

/-- ITS FALSE NEIGHBOUR: 'it returns false'. Refute it at one input. -/
def wireWritesWrong : ChangeSpec := { name := "wireWrites", fn := fun _ => fun
  | [d] => { results := [.lit (.bool false)], args := [d] }
  | _ => none }
def WireWritesWrongFalsely : Prop := wireWritesRow.holds Try.pinned (OpenSpec.ofChange wireWritesWrong)

/-- 'cleromancylaw22.WireBack': WHATEVER THE INPUT: true; the input reads as it did. -/
def wireBackSpec : ChangeSpec := { name := "wireBack", fn := fun _ => fun
  | [d] => { results := [.lit (.bool true)], args := [d] }
  | _ => none }
def wireBackRow : OpenClaim := { program := "ytlngkcaaenpnaaa", sum := "4f06e4dae7256950689460fcdfd1e6dfcb0619fa855b69bbbcac574b4e5ce1d1", func := "cleromancy/cleromancylaw22.WireBack", spec := "wireBack", unfollowed := true, recurses := true, apart := false }
def WireBackSaid : Prop := wireBackRow.holds Try.pinned (OpenSpec.ofChange wireBackSpec)

/-- ITS FALSE NEIGHBOUR: 'it returns false'. Refute it at one input. -/
def wireBackWrong : ChangeSpec := { name := "wireBack", fn := fun _ => fun
  | [d] => { results := [.lit (.bool false)], args := [d] }
  | _ => none }
def WireBackWrongFalsely : Prop := wireBackRow.holds Try.pinned (OpenSpec.ofChange wireBackWrong)

/-- 'cleromancylaw32.RecallBytes': WHATEVER THE INPUT: true; the input reads as it did. -/
def recallBytesSpec : ChangeSpec := { name := "recallBytes", fn := fun _ => fun
  | [d1, d2] => { results := [.lit (.bool true)], args := [d1, d2] }
  | _ => none }
def recallBytesRow : OpenClaim := { program := "ytlngkcaaenpnaaa", sum := "4f06e4dae7256950689460fcdfd1e6dfcb0619fa855b69bbbcac574b4e5ce1d1", func := "cleromancy/cleromancylaw32.RecallBytes", spec := "recallBytes", unfollowed := true, recurses := true, apart := false }
def RecallBytesSaid : Prop := recallBytesRow.holds Try.pinned (OpenSpec.ofChange recallBytesSpec)

/-- ITS FALSE NEIGHBOUR: 'it returns false'. Refute it at one input. -/
def recallBytesWrong : ChangeSpec := { name := "recallBytes", fn := fun _ => fun
  | [d1, d2] => { results := [.lit (.bool false)], args := [d1, d2] }
  | _ => none }
def RecallBytesWrongFalsely : Prop := recallBytesRow.holds Try.pinned (OpenSpec.ofChange recallBytesWrong)

/- THE SECOND FORM. 'bulk': how many values and letters a reading holds, each counted each time it is reached (what is shared counts as often as it is met; a slice's spare places count too). A statement '..UptoSaid' is the law's where the arguments, and the package variables that the reading takes, are together of bulk at most 1048576: NARROWER than '..Said'. Prove '..Said' where nothing that the law and all that it calls make is longer than what came in: it says more and counts as full. Else prove '..UptoSaid'. A law counts once. -/
mutual
def uptoBulk {H : Type} : DataW H → Nat
  | .lit (.string bytes) => bytes.length + 1
  | .lit _ => 1
  | .nil => 1
  | .ptr d => uptoBulk d + 1
  | .slice elems spare => uptoBulkAll elems + uptoBulkAll spare + 1
  | .agg parts => uptoBulkAll parts + 1
  | .iface _ d => uptoBulk d + 1
  | .map entries => uptoBulkEntries entries + 1
  | .held _ => 1
def uptoBulkAll {H : Type} : List (DataW H) → Nat
  | [] => 0
  | d :: r => uptoBulk d + uptoBulkAll r
def uptoBulkEntries {H : Type} : List (Lit × DataW H) → Nat
  | [] => 0
  | x :: r => uptoBulkEntry x + uptoBulkEntries r
def uptoBulkEntry {H : Type} : Lit × DataW H → Nat
  | (.string bytes, d) => bytes.length + uptoBulk d + 1
  | (_, d) => uptoBulk d + 1
 end
def uptoSmall : (H : Type) → List (DataW H) → Bool := fun _ ds => decide (uptoBulkAll ds ≤ 1048576)
def OpenSpec.upto (s : _root_.Go.ChangeSpec) : _root_.Go.OpenSpec := { _root_.Go.OpenSpec.ofChange s with cond := some uptoSmall }

/-- 'cleromancylaw25.StakeSums', WHERE WHAT IT READS IS OF BULK AT MOST 1048576: true; the input reads as it did. -/
def stakeSumsUptoRow : OpenClaim := { program := "ytlngkcaaenpnaaa", sum := "4f06e4dae7256950689460fcdfd1e6dfcb0619fa855b69bbbcac574b4e5ce1d1", func := "cleromancy/cleromancylaw25.StakeSums", spec := "stakeSums", apart := false, narrowed := true }
def StakeSumsUptoSaid : Prop := stakeSumsUptoRow.holds Try.pinned (OpenSpec.upto stakeSumsSpec)

/-- 'cleromancylaw25.StakeMeets', WHERE WHAT IT READS IS OF BULK AT MOST 1048576: true; the input reads as it did. -/
def stakeMeetsUptoRow : OpenClaim := { program := "ytlngkcaaenpnaaa", sum := "4f06e4dae7256950689460fcdfd1e6dfcb0619fa855b69bbbcac574b4e5ce1d1", func := "cleromancy/cleromancylaw25.StakeMeets", spec := "stakeMeets", apart := false, narrowed := true }
def StakeMeetsUptoSaid : Prop := stakeMeetsUptoRow.holds Try.pinned (OpenSpec.upto stakeMeetsSpec)

/-- 'cleromancylaw34.NetPlays', WHERE WHAT IT READS IS OF BULK AT MOST 1048576: true; the input reads as it did. -/
def netPlaysUptoRow : OpenClaim := { program := "ytlngkcaaenpnaaa", sum := "4f06e4dae7256950689460fcdfd1e6dfcb0619fa855b69bbbcac574b4e5ce1d1", func := "cleromancy/cleromancylaw34.NetPlays", spec := "netPlays", apart := false, narrowed := true }
def NetPlaysUptoSaid : Prop := netPlaysUptoRow.holds Try.pinned (OpenSpec.upto netPlaysSpec)

/-- 'cleromancylaw34.NetKeeps', WHERE WHAT IT READS IS OF BULK AT MOST 1048576: true; the input reads as it did. -/
def netKeepsUptoRow : OpenClaim := { program := "ytlngkcaaenpnaaa", sum := "4f06e4dae7256950689460fcdfd1e6dfcb0619fa855b69bbbcac574b4e5ce1d1", func := "cleromancy/cleromancylaw34.NetKeeps", spec := "netKeeps", apart := false, narrowed := true }
def NetKeepsUptoSaid : Prop := netKeepsUptoRow.holds Try.pinned (OpenSpec.upto netKeepsSpec)

/-- 'cleromancylaw22.WireWrites', WHERE WHAT IT READS IS OF BULK AT MOST 1048576: true; the input reads as it did. -/
def wireWritesUptoRow : OpenClaim := { program := "ytlngkcaaenpnaaa", sum := "4f06e4dae7256950689460fcdfd1e6dfcb0619fa855b69bbbcac574b4e5ce1d1", func := "cleromancy/cleromancylaw22.WireWrites", spec := "wireWrites", unfollowed := true, recurses := true, apart := false, narrowed := true }
def WireWritesUptoSaid : Prop := wireWritesUptoRow.holds Try.pinned (OpenSpec.upto wireWritesSpec)

/-- 'cleromancylaw22.WireBack', WHERE WHAT IT READS IS OF BULK AT MOST 1048576: true; the input reads as it did. -/
def wireBackUptoRow : OpenClaim := { program := "ytlngkcaaenpnaaa", sum := "4f06e4dae7256950689460fcdfd1e6dfcb0619fa855b69bbbcac574b4e5ce1d1", func := "cleromancy/cleromancylaw22.WireBack", spec := "wireBack", unfollowed := true, recurses := true, apart := false, narrowed := true }
def WireBackUptoSaid : Prop := wireBackUptoRow.holds Try.pinned (OpenSpec.upto wireBackSpec)

/-- 'cleromancylaw32.RecallBytes', WHERE WHAT IT READS IS OF BULK AT MOST 1048576: true; the input reads as it did. -/
def recallBytesUptoRow : OpenClaim := { program := "ytlngkcaaenpnaaa", sum := "4f06e4dae7256950689460fcdfd1e6dfcb0619fa855b69bbbcac574b4e5ce1d1", func := "cleromancy/cleromancylaw32.RecallBytes", spec := "recallBytes", unfollowed := true, recurses := true, apart := false, narrowed := true }
def RecallBytesUptoSaid : Prop := recallBytesUptoRow.holds Try.pinned (OpenSpec.upto recallBytesSpec)

end Rows
end Go.Proofs.Ytlngkcaaenpnaaa
