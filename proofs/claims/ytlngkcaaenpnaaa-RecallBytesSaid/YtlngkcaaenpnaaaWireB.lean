/- wire: Count, Int, Byte, Bytes of a writer. -/
import Derived.Test.YtlngkcaaenpnaaaWireA
namespace Go.Proofs.Ytlngkcaaenpnaaa.Wire
set_option linter.unusedVariables false
open Go.RowKit Go.Proofs.Ytlngkcaaenpnaaa.PWi Go.Proofs.YtlngkcaaenpnaaaW Go.Proofs.YtlngkcaaenpnaaaW.PrintWords Go.Proofs.YtlngkcaaenpnaaaW.PrintLast Go.Proofs.YtlngkcaaenpnaaaW.PrintMore
attribute [local go_sem] max2_int min2_int max_two min_two max_three min_three max_four min_four

/-- Behind a writer's call: what is written now. -/
def Wrote (P : Nat → Prop) (w0 w : World) (g : Nat) (l : List Int) (e : Ending) (w' : World) : Prop :=
  (∃ v, e = .returned v) ∧ IsW (fun k => P k ∨ w.heap.size ≤ k) w' w0.heap.size g l ∧ Below w0.heap.size w0 w' ∧ Kept w w' P
theorem put_of (P : Nat → Prop) (g : Nat) (l : List Int) (n : Int) (m : Nat) (mi : Int) (hmi : (m : Int) = mi) (hn : 0 ≤ n ∧ n < 18446744073709551616) (hm : m ≤ 8) (hl : l.length ≤ 1000000) (w0 w : World) (hB : Below w0.heap.size w0 w) (hW : IsW P w w0.heap.size g l) :
    Calls Try.prog 63 #[.pointer (some ⟨g, 0, none⟩), .int .u64 n, .int .i64 mi] w (Wrote P w0 w g (l ++ bes m n)) := hmi ▸ put_calls P g l n m hn hm hl w0 w hB hW
def cnt (n : Int) : Int := if n < 0 ∨ 4294967295 < n then 0 else n
theorem cnt_le (n : Int) : 0 ≤ cnt n ∧ cnt n ≤ 4294967295 := by unfold cnt; split <;> omega
set_option maxHeartbeats 1600000 in
set_option maxRecDepth 100000 in
theorem count_calls (P : Nat → Prop) (g : Nat) (l : List Int) (n : Int) (hn : -9223372036854775808 ≤ n ∧ n ≤ 9223372036854775807) (hl : l.length ≤ 1000000) (w0 w : World) (hB : Below w0.heap.size w0 w) (hW : IsW P w w0.heap.size g l) :
    Calls Try.prog 61 #[.pointer (some ⟨g, 0, none⟩), .int .i64 n] w (Wrote P w0 w g (l ++ bes 4 (cnt n))) := by
  have HC := Aside0.mk (put_of P g l (cnt n) 4 4 rfl (by have := cnt_le n; omega) (by omega) hl w0 w hB hW)
  clear hB hW
  by_cases h : n < 0 ∨ 4294967295 < n
  · have e : cnt n = 0 := by rw [cnt, if_pos h]
    rw [e] at HC ⊢
    rcases h with h | h
    · go_enter Try.func61, Try.ntmps61
      go_wp2_with (first
        | (go_at_call 63; (with_reducible refine HC.out.mono ?_); rintro e w1 ⟨⟨v, rfl⟩, h1⟩)
        | fail)
      first | go_end0 | go_ret
      exact ⟨⟨_, rfl⟩, h1⟩
    · have h0 : 0 ≤ n := by omega
      go_enter Try.func61, Try.ntmps61
      go_wp2_with (first
        | (go_at_call 63; (with_reducible refine HC.out.mono ?_); rintro e w1 ⟨⟨v, rfl⟩, h1⟩)
        | fail)
      first | go_end0 | go_ret
      exact ⟨⟨_, rfl⟩, h1⟩
  · have e : cnt n = n := by rw [cnt, if_neg h]
    have h0 : 0 ≤ n ∧ n ≤ 4294967295 := by omega
    rw [e] at HC ⊢
    clear h
    go_enter Try.func61, Try.ntmps61
    go_wp2_with (first
      | (go_at_call 63; (with_reducible refine HC.out.mono ?_); rintro e w1 ⟨⟨v, rfl⟩, h1⟩)
      | fail)
    first | go_end0 | go_ret
    exact ⟨⟨_, rfl⟩, h1⟩
set_option maxHeartbeats 1600000 in
set_option maxRecDepth 100000 in
theorem int_calls (P : Nat → Prop) (g : Nat) (l : List Int) (n : Int) (hn : -9223372036854775808 ≤ n ∧ n ≤ 9223372036854775807) (hl : l.length ≤ 1000000) (w0 w : World) (hB : Below w0.heap.size w0 w) (hW : IsW P w w0.heap.size g l) :
    Calls Try.prog 35 #[.pointer (some ⟨g, 0, none⟩), .int .i64 n] w (Wrote P w0 w g (l ++ bes 8 (if n < 0 then 0 else n))) := by
  by_cases h : n < 0
  · rw [if_pos h]
    have HC := Aside0.mk (put_of P g l 0 8 8 rfl (by omega) (by omega) hl w0 w hB hW)
    clear hB hW
    go_enter Try.func35, Try.ntmps35
    go_wp2_with (first
      | (go_at_call 63; (with_reducible refine HC.out.mono ?_); rintro e w1 ⟨⟨v, rfl⟩, h1⟩)
      | fail)
    first | go_end0 | go_ret
    exact ⟨⟨_, rfl⟩, h1⟩
  · rw [if_neg h]
    have HC := Aside0.mk (put_of P g l n 8 8 rfl (by omega) (by omega) hl w0 w hB hW)
    clear hB hW
    go_enter Try.func35, Try.ntmps35
    go_wp2_with (first
      | (go_at_call 63; (with_reducible refine HC.out.mono ?_); rintro e w1 ⟨⟨v, rfl⟩, h1⟩)
      | fail)
    first | go_end0 | go_ret
    exact ⟨⟨_, rfl⟩, h1⟩
set_option maxHeartbeats 1600000 in
set_option maxRecDepth 100000 in
theorem byte_calls (P : Nat → Prop) (g : Nat) (l : List Int) (n : Int) (hn : 0 ≤ n ∧ n < 256) (hl : l.length ≤ 1000000) (w0 w : World) (hB : Below w0.heap.size w0 w) (hW : IsW P w w0.heap.size g l) :
    Calls Try.prog 58 #[.pointer (some ⟨g, 0, none⟩), .int .u8 n] w (Wrote P w0 w g (l ++ bes 1 n)) := by
  have HC := Aside0.mk (put_of P g l n 1 1 rfl (by omega) (by omega) hl w0 w hB hW)
  clear hB hW
  go_enter Try.func58, Try.ntmps58
  go_wp2_with (first
    | (go_at_call 63; (with_reducible refine HC.out.mono ?_); rintro e w1 ⟨⟨v, rfl⟩, h1⟩)
    | fail)
  first | go_end0 | go_ret
  exact ⟨⟨_, rfl⟩, h1⟩
end Go.Proofs.Ytlngkcaaenpnaaa.Wire
