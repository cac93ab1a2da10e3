/- A part of a proof. -/
-- Laid by a program of this session over the kit's print
import Derived.Test.YteapdhfeddgjbaaDoorProg
import Derived.Below
import Derived.Deep.Draws
import Derived.Deep.AppendLies
import Derived.Maps.AppendAt
import Derived.OwnWalk
import Derived.Laws.BytesArg
import Derived.Laws.MakeOwn
import Derived.Laws.OwnMore
import Derived.Deep.OwnRows
import Derived.Tactics
import Derived.Lib.ConvBytes
import Derived.Laws.Slices
import Derived.WalkKit
import Derived.KernelRfl
import Derived.RowKit3
import Derived.Deep.LoopGhost
import Derived.Deep.QuietTactic
import Derived.BigQuiet
import Derived.WideLaws
import Derived.Deep.DeepCutAuto
import Derived.Deep.CutBlock
import Derived.Deep.RegionHeld3
import Derived.Laws.Rows
import Derived.Lib.AppendStr
import Derived.ArgAppend
import Derived.Laws.IdiomCopy
import Derived.OrdersHeld
import Derived.Laws.BitsLemmas
import Derived.RowKit
import Derived.Maps.OwnSet
import Derived.Maps.OwnOps
import Derived.Test.YteapdhfeddgjbaaDoorTWWords
import Derived.Test.YteapdhfeddgjbaaDoorTWLast
import Derived.Test.YteapdhfeddgjbaaDoorTWTab
import Derived.Test.YteapdhfeddgjbaaDoorTWFour
import Derived.Test.YteapdhfeddgjbaaDoorTWQPut
import Derived.Test.YteapdhfeddgjbaaDoorTWApart
import Derived.Test.YteapdhfeddgjbaaDoorTWArr
import Derived.Test.YteapdhfeddgjbaaDoorTWZeros
import Derived.Test.YteapdhfeddgjbaaDoorTWFoot
import Derived.Test.YteapdhfeddgjbaaDoorTWKept
import Derived.Test.YteapdhfeddgjbaaDoorTWShare
import Derived.Test.YteapdhfeddgjbaaDoorTWN
import Derived.Test.YteapdhfeddgjbaaDoorTWFootNe
import Derived.Test.YteapdhfeddgjbaaDoorTWAt
import Derived.Test.YteapdhfeddgjbaaDoorTWEqStruct
import Derived.Test.YteapdhfeddgjbaaDoorTWRepsOne
import Derived.Test.YteapdhfeddgjbaaDoorTWInv
import Derived.Test.YteapdhfeddgjbaaDoorTWInvWords
import Derived.Test.YteapdhfeddgjbaaDoorTWGuard
import Derived.Test.YteapdhfeddgjbaaDoorTWNEv
import Derived.Test.YteapdhfeddgjbaaDoorTWMore
namespace Go.Proofs.YteapdhfeddgjbaaDoor.PDt
open Go.RowKit Go.Proofs.YteapdhfeddgjbaaDoorW.PrintWords Go.Proofs.YteapdhfeddgjbaaDoorW.PrintLast Go.Proofs.YteapdhfeddgjbaaDoorW.PrintMore
attribute [local go_sem] max2_int min2_int max_two min_two max_three min_three max_four min_four   -- for this text's walks alone
set_option linter.unusedVariables false
set_option linter.unusedSimpArgs false



def errW : Option Int → Value
  | none => .nilIface
  | some c => .iface 0 (.int .i64 c)
theorem errW_none : errW none = .nilIface := rfl
theorem errW_some (c : Int) : errW (some c) = .iface 0 (.int .i64 c) := rfl

theorem info4 : (Tryd.prog.info? 4).map (fun i => (i.zero, i.size, i.bytes)) = some (some (.bool false), 1, 1) := by kernel_rfl
-- the values' own types
def rd_L2 (xs : List (List Int)) (i : Int) : (List Int) := xs.getD i.toNat ([] : List Int)
theorem at_L2 {w : World} {A : Option Addr} {n : Nat} {xs : List (List Int)} (h : Kd.C (Kd.slice 5 (Kd.int .u8)) w A n xs) (i : Int) (h0 : 0 ≤ i) (h1 : i < n) : ∃ ad A0 c0, A = some ad ∧ w.cell? (ad.add i.toNat) = some (.slice A0 (rd_L2 xs i).length c0) ∧ (rd_L2 xs i).length ≤ c0 ∧ (Kd.int .u8).C w A0 (rd_L2 xs i).length (rd_L2 xs i) := by
  obtain ⟨ad, c, e, _, hK, hc0⟩ := Kd.C_get h ([] : List Int) i h0 h1
  have hc : ∀ j u, c[j]? = some u → w.cell? (ad.add (i.toNat * 1 + j)) = some u := hc0
  obtain ⟨A0, c0, rfl, l0, g0⟩ := hK
  exact ⟨ad, A0, c0, e, by have hq := hc 0 _ rfl; rwa [Nat.mul_one, Nat.add_zero] at hq, l0, g0⟩

/-! #### struct type 62 -/
structure S62 where
  f0 : Bool
  f1 : (List Int)
def z62 : S62 := ⟨false, ([] : List Int)⟩
def k62 : Kd S62 := Kd.iso (Kd.pair Kd.bool (Kd.slice 5 (Kd.int .u8))) (fun x : S62 => (x.f0, x.f1))
theorem k62_open {w : World} {x : S62} {cs : List Value} (h : k62.K w x cs) : ∃ A1 c1, cs = [.bool x.f0, .slice A1 x.f1.length c1] ∧ x.f1.length ≤ c1 ∧ (Kd.int .u8).C w A1 x.f1.length x.f1 := by
  obtain ⟨_, _, rfl, rfl, ⟨A1, c1, rfl, l1, g1⟩⟩ := h
  exact ⟨A1, c1, rfl, l1, g1⟩
def rd_T62 (xs : List S62) (i : Int) : S62 := xs.getD i.toNat z62
theorem at_T62 {w : World} {A : Option Addr} {n : Nat} {xs : List S62} (h : Kd.C k62 w A n xs) (i : Int) (h0 : 0 ≤ i) (h1 : i < n) : ∃ ad A1 c1, A = some ad ∧ w.cell? (ad.add (i.toNat * 2)) = some (.bool (rd_T62 xs i).f0) ∧ w.cell? ⟨(ad.add (i.toNat * 2)).block, (ad.add (i.toNat * 2)).off + 1, none⟩ = some (.slice A1 (rd_T62 xs i).f1.length c1) ∧ (rd_T62 xs i).f1.length ≤ c1 ∧ (Kd.int .u8).C w A1 (rd_T62 xs i).f1.length (rd_T62 xs i).f1 := by
  obtain ⟨ad, c, e, _, hK, hc0⟩ := Kd.C_get h z62 i h0 h1
  have hc : ∀ j u, c[j]? = some u → w.cell? (ad.add (i.toNat * 2 + j)) = some u := hc0
  obtain ⟨A1, c1, rfl, l1, g1⟩ := k62_open hK
  exact ⟨ad, A1, c1, e, hc 0 _ rfl, by rw [← add_field _ _ 1 (by omega)]; exact hc 1 _ rfl, l1, g1⟩

/-! #### struct type 53 -/
structure S53 where
  f0 : Int
  f1 : Int
  f2 : Int
  f3 : (List Int)
  f4 : (List Int)
/-! #### struct type 112 -/
structure S112 where
  f0 : Int
  f1 : (List Int)
/-! #### struct type 67 -/
structure S67 where
  f0 : Int
  f1 : Int
  f2 : (List Int)
  f3 : (List S112)
/-! #### struct type 69 -/
structure S69 where
  f0 : S53
  f1 : S67
end Go.Proofs.YteapdhfeddgjbaaDoor.PDt
