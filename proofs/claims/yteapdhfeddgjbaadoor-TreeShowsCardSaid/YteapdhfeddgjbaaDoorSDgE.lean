/- digest: the sum of bytes, in plain Lean. -/
import Derived.Test.YteapdhfeddgjbaaDoorSDgD
namespace Go.Proofs.YteapdhfeddgjbaaDoor.Dg
set_option linter.unusedVariables false
open Go.RowKit Go.Proofs.YteapdhfeddgjbaaDoor.PDb Go.Proofs.YteapdhfeddgjbaaDoorW Go.Proofs.YteapdhfeddgjbaaDoorW.PrintWords

/-- The words at first. -/
def BB : List Int := [1779033703, 3144134277, 1013904242, 2773480762, 1359893119, 2600822924, 528734635, 1541459225]
/-- The words behind so many blocks. -/
def run (h : List Int) : Nat → List Int → List Int
  | 0, _ => h
  | n + 1, m => run (blk h (m.take 64)) n (m.drop 64)
theorem run_len (h : List Int) (hh : h.length = 8) : ∀ n m, (run h n m).length = 8
  | 0, _ => hh
  | n + 1, m => run_len _ (blk_len _ _) n _
theorem run_next (h : List Int) : ∀ n m, run h (n + 1) m = blk (run h n m) ((m.drop (64 * n)).take 64)
  | 0, m => rfl
  | n + 1, m => by
    rw [run, run_next (blk h (m.take 64)) n (m.drop 64), run, List.drop_drop, show 64 + 64 * n = 64 * (n + 1) from by omega]
theorem run_add (h : List Int) : ∀ a b m, run h (a + b) m = run (run h a m) b (m.drop (64 * a))
  | 0, b, m => by simp [run]
  | a + 1, b, m => by
    rw [show a + 1 + b = (a + b) + 1 from by omega, run, run_add _ a b, run, List.drop_drop, show 64 + 64 * a = 64 * (a + 1) from by omega]
theorem run_take (h : List Int) : ∀ n m x, 64 * n ≤ m.length → run h n (m ++ x) = run h n m
  | 0, _, _, _ => rfl
  | n + 1, m, x, hm => by
    rw [run, run, List.take_append_of_le_length (by omega), List.drop_append_of_le_length (by omega), run_take _ n _ _ (by rw [List.length_drop]; omega)]
/-- Eight bytes of a number, the greatest first. -/
def b8 (n : Nat) : List Int := [(n / 2 ^ 56 % 256 : Nat), (n / 2 ^ 48 % 256 : Nat), (n / 2 ^ 40 % 256 : Nat), (n / 2 ^ 32 % 256 : Nat), (n / 2 ^ 24 % 256 : Nat), (n / 2 ^ 16 % 256 : Nat), (n / 2 ^ 8 % 256 : Nat), (n % 256 : Nat)]
/-- How many noughts are laid behind so many bytes. -/
def zs (n : Nat) : Nat := (64 + 55 - n % 64) % 64
theorem zs_is (n : Nat) : (n + 1 + zs n) % 64 = 56 ∧ zs n < 64 := by unfold zs; omega
/-- What is laid behind the bytes. -/
def tailOf (d : List Int) : List Int := [128] ++ List.replicate (zs d.length) 0 ++ b8 (8 * d.length)
/-- Four bytes of each word. -/
def w4 (x : Int) : List Int := [x / 2 ^ 24 % 256, x / 2 ^ 16 % 256, x / 2 ^ 8 % 256, x % 256]
def outs : List Int → List Int
  | [] => []
  | x :: l => w4 x ++ outs l
def sha (d : List Int) : List Int := outs (run BB ((d ++ tailOf d).length / 64) (d ++ tailOf d))
theorem outs_len : ∀ l, (outs l).length = 4 * l.length
  | [] => rfl
  | x :: l => by rw [outs, List.length_append, outs_len l]; show 4 + 4 * l.length = 4 * (l.length + 1); omega
theorem sha_len (d : List Int) : (sha d).length = 32 := by
  unfold sha
  rw [outs_len, run_len BB rfl]
theorem tail_len (d : List Int) : (d ++ tailOf d).length = 64 * ((d ++ tailOf d).length / 64) ∧ (tailOf d).length = zs d.length + 9 := by
  have h := zs_is d.length
  have e : (tailOf d).length = zs d.length + 9 := by unfold tailOf b8; simp [List.length_append] <;> omega
  rw [List.length_append, e]
  omega
theorem byte_lt (x : Int) : 0 ≤ x % 256 ∧ x % 256 < 256 := by omega
end Go.Proofs.YteapdhfeddgjbaaDoor.Dg
