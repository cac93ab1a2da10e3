/- digest: what a block does to eight words, in plain Lean. -/
import Derived.Test.YteapdhfeddgjbaaDoorSWWords
import Derived.Test.YteapdhfeddgjbaaDoorSPDbx1
import Derived.Laws.BitsLemmas
import Derived.IntWalk
namespace Go.Proofs.YteapdhfeddgjbaaDoor.Dg
set_option linter.unusedVariables false
open Go.RowKit Go.Proofs.YteapdhfeddgjbaaDoor.PDb Go.Proofs.YteapdhfeddgjbaaDoorW Go.Proofs.YteapdhfeddgjbaaDoorW.PrintWords

def bx (a b : Int) : Int := Go.bits .xor .u32 a b
def ba (a b : Int) : Int := Go.bits .and .u32 a b
def trn (x n : Int) : Int := Go.bits .or .u32 (shr .u32 x n) (shl .u32 x (32 - n))
def sg0 (x : Int) : Int := bx (bx (trn x 7) (trn x 18)) (x / 8)
def sg1 (x : Int) : Int := bx (bx (trn x 17) (trn x 19)) (x / 1024)
/-- The t-th word behind the sixteen. -/
def nw (l : List Int) (t : Nat) : Int := (sg1 (rd l ((t : Int) - 2)) + rd l ((t : Int) - 7) + sg0 (rd l ((t : Int) - 15)) + rd l ((t : Int) - 16)) % 4294967296
def SS0 (x : Int) : Int := bx (bx (trn x 2) (trn x 13)) (trn x 22)
def SS1 (x : Int) : Int := bx (bx (trn x 6) (trn x 11)) (trn x 25)
def ch (e f g : Int) : Int := bx (ba e f) (ba (bx IntKind.u32.max e) g)
def mj (a b c : Int) : Int := bx (bx (ba a b) (ba a c)) (ba b c)
def tt1 (K w v : List Int) (t : Nat) : Int := (rd v 7 + SS1 (rd v 4) + ch (rd v 4) (rd v 5) (rd v 6) + rd K (t : Int) + rd w (t : Int)) % 4294967296
def tt2 (v : List Int) : Int := (SS0 (rd v 0) + mj (rd v 0) (rd v 1) (rd v 2)) % 4294967296
def rnd (K w v : List Int) (t : Nat) : List Int :=
  [(tt1 K w v t + tt2 v) % 4294967296, rd v 0, rd v 1, rd v 2, (rd v 3 + tt1 K w v t) % 4294967296, rd v 4, rd v 5, rd v 6]
def wpart (b : List Int) (i : Nat) : Nat → Int
  | 0 => 0
  | j + 1 => (wpart b i j * 256 + rd b ((4 * i + j : Nat) : Int)) % 4294967296
def wds (b : List Int) : Nat → List Int
  | 0 => []
  | i + 1 => wds b i ++ [wpart b i 4]
def sch (b : List Int) : Nat → List Int
  | 0 => wds b 16
  | j + 1 => sch b j ++ [nw (sch b j) (16 + j)]
def rnds (K w h : List Int) : Nat → List Int
  | 0 => h
  | t + 1 => rnd K w (rnds K w h t) t
def adds (h v : List Int) : Nat → List Int
  | 0 => []
  | i + 1 => adds h v i ++ [(rd h (i : Int) + rd v (i : Int)) % 4294967296]
def KK : List Int := (cleromancyref05_Constants.f).getD []
theorem KK_is : cleromancyref05_Constants.f = some KK := by unfold KK cleromancyref05_Constants.f; rfl
theorem KK_len : KK.length = 64 := by unfold KK cleromancyref05_Constants.f; rfl
/-- The words behind a block. -/
def blk (h b : List Int) : List Int := adds h (rnds KK (sch b 48) h 64) 8
theorem wds_len (b : List Int) : ∀ i, (wds b i).length = i
  | 0 => rfl
  | i + 1 => by rw [wds, List.length_append, wds_len b i]; rfl
theorem sch_len (b : List Int) : ∀ j, (sch b j).length = 16 + j
  | 0 => by rw [sch, wds_len]
  | j + 1 => by rw [sch, List.length_append, sch_len b j]; rfl
theorem rnds_len (K w h : List Int) (hh : h.length = 8) : ∀ t, (rnds K w h t).length = 8
  | 0 => hh
  | t + 1 => rfl
theorem adds_len (h v : List Int) : ∀ i, (adds h v i).length = i
  | 0 => rfl
  | i + 1 => by rw [adds, List.length_append, adds_len h v i]; rfl
theorem blk_len (h b : List Int) : (blk h b).length = 8 := adds_len _ _ _
theorem turn_is (x n : Int) (h0 : 0 ≤ n) (h1 : n ≤ 32) : cleromancyref05_turn.f x n = some (trn x n) := by
  have hw : wrap64 (32 - n) = 32 - n := IntWalk.wrap64_in _ (by omega)
  unfold cleromancyref05_turn.f trn
  rw [if_pos h0, hw, if_pos (by omega)]
end Go.Proofs.YteapdhfeddgjbaaDoor.Dg
