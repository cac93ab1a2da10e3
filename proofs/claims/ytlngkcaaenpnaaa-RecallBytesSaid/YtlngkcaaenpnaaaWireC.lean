/- wire: Bytes and Out of a writer. -/
import Derived.Test.YtlngkcaaenpnaaaWireB
namespace Go.Proofs.Ytlngkcaaenpnaaa.Wire
set_option linter.unusedVariables false
open Go.RowKit Go.Proofs.Ytlngkcaaenpnaaa.PWi Go.Proofs.YtlngkcaaenpnaaaW Go.Proofs.YtlngkcaaenpnaaaW.PrintWords Go.Proofs.YtlngkcaaenpnaaaW.PrintLast Go.Proofs.YtlngkcaaenpnaaaW.PrintMore

set_option maxHeartbeats 1600000 in
set_option maxRecDepth 100000 in
theorem bytes_calls (P : Nat → Prop) (g : Nat) (l : List Int) (A : Option Addr) (n c : Nat) (lb : List Int) (hn : lb.length = n) (hlb : n ≤ 1000000) (hl : l.length ≤ 1000000) (w0 w : World) (hb : Kd.C (Kd.int .u8) w0 A lb.length lb) (hB : Below w0.heap.size w0 w) (hW : IsW P w w0.heap.size g l) :
    Calls Try.prog 36 #[.pointer (some ⟨g, 0, none⟩), .slice A n c] w (Wrote P w0 w g (l ++ bes 4 (n : Int) ++ lb)) := by
  have hc := count_calls P g l (n : Int) (by omega) hl w0 w hB hW
  rw [show cnt (n : Int) = (n : Int) from by rw [cnt, if_neg (by omega)]] at hc
  have HC := Aside0.mk hc
  have HBb := Aside0.mk hb
  have HN := Aside0.mk hn
  have hbl : (l ++ bes 4 (n : Int)).length = l.length + 4 := by simp [bes]
  obtain ⟨l1, hl1⟩ : ∃ l1, l1 = l ++ bes 4 (n : Int) := ⟨_, rfl⟩
  rw [← hl1] at HC hbl ⊢
  clear hc hb hB hW hn hl1
  go_enter Try.func36, Try.ntmps36
  go_wp2_with (first
    | (go_at_call 61
       (with_reducible refine HC.out.mono ?_)
       rintro e w1 ⟨⟨v, rfl⟩, hI, hB1, hK1⟩
       have HB1 := Aside0.mk hB1
       have HK1 := Aside0.mk hK1
       obtain ⟨q1, q2, q3, v0, q4, q5, q6⟩ := hI
       have HQ1 := Aside0.mk q1
       have HR := Aside0.mk q6
       have hws := hK1.1
       have HOL : Aside0 (w1.ownsRow w0.heap.size 5 1 v0 l1.length (nums .u8 l1)) := ⟨Kd.own_of_R q6⟩
       have hrd := C_readsB (Kd.C_below HBb.out hB1)
       rw [HN.out] at hrd
       have HRI := Aside0.mk hrd
       have hsz := hB1.size
       clear hB1 hK1 q1 q6 hrd)
    | (at_builtin; refine print_append_row (w0 := w0) w0.heap.size rfl _ _ 41 5 .u8 1 rfl Try.underlying41 info5 (by decide) _ l1 lb A n c rfl rfl HOL.out HRI.out HB1.out (by omega) (by omega) ?_; intro v1 w2 ho1 hb1 hg1 hat1; have HB2 := Aside0.mk hb1; obtain ⟨hc1, hf1, hI1, hK1⟩ := IsW.put HQ1.out q2 q3 q4 q5 HR.out ho1 hg1 hat1 (fun k hk => .inr (by omega)); have HI1 := Aside0.mk hI1; have HK2 := Aside0.mk hK1; obtain ⟨A1, c1, e1⟩ := Kd.R_slice (Kd.R_of_own (enc := Value.int .u8) (h1 := fun _ => rfl) (ok := fun _ => True) ho1 (fun _ _ => trivial)); subst e1; clear hb1 hI1 hK1 ho1 hg1 hat1)
    | fail)
  first | go_end0 | go_ret
  refine ⟨⟨_, rfl⟩, ?_, HB2.out.setCell q2 _, ?_⟩
  · have := HI1.out
    rw [show (l1 ++ lb).length = l.length + 4 + lb.length from by rw [List.length_append, hbl]] at this
    exact this
  · have := HK1.out.then_ HK2.out (fun _ h => h)
    rw [show (l1 ++ lb).length = l.length + 4 + lb.length from by rw [List.length_append, hbl]] at this
    exact this
theorem eqlSome (ad : Addr) (n c : Nat) (w : World) : (binOp .eql 41 (.slice (some ad) n c) (.slice none 0 0)).run Try.prog w = .ok (.bool false) w := by kernel_rfl
theorem eqlNil (n c : Nat) (w : World) : (binOp .eql 41 (.slice none n c) (.slice none 0 0)).run Try.prog w = .ok (.bool true) w := by kernel_rfl
/-- A copy of a row. -/
def Copy (w : World) (l : List Int) (e : Ending) (w' : World) : Prop :=
  ∃ A c, e = .returned (.slice A l.length c) ∧ l.length ≤ c ∧ Kd.C (Kd.int .u8) w' A l.length l ∧ Below w.heap.size w w'
set_option maxHeartbeats 1600000 in
set_option maxRecDepth 100000 in
theorem clone_calls (A : Option Addr) (n c : Nat) (lb : List Int) (hn : lb.length = n) (hlb : n ≤ 10000000) (w : World) (hb : Kd.C (Kd.int .u8) w A lb.length lb) :
    Calls Try.prog 64 #[.slice A n c] w (Copy w lb) := by
  have hrd := C_readsB (Kd.C_alloc hb (.cells #[] 5))
  rw [hn] at hrd
  have HRI := Aside0.mk hrd
  have HN := Aside0.mk hn
  have HOL : Aside0 ((w.alloc (.cells #[] 5)).ownsRow w.heap.size 5 1 (.slice (some ⟨w.heap.size, 0, none⟩) 0 0) ([] : List Int).length (nums .u8 [])) := ⟨own_lit w w.heap.size 5 .u8 [] (Nat.le_refl _) (by simp)⟩
  have HBa := Aside0.mk (below_alloc (Below.refl w.heap.size w) (.cells #[] 5))
  have hb0 := hb
  clear hb hrd hn
  cases A with
  | none =>
    have hz : n = 0 := by
      by_cases h : n = 0
      · exact h
      · obtain ⟨ad, e, _⟩ := Kd.at_int hb0 0 (by omega) (by have := HN.out; omega)
        cases e
    have hlb0 : lb = [] := List.eq_nil_of_length_eq_zero (by have := HN.out; omega)
    subst hlb0
    clear HRI HOL HBa hb0 HN
    subst hz
    have hq := eqlNil 0 c w
    go_enter Try.func64, Try.ntmps64
    go_wp2
    go_ret
    exact ⟨none, 0, rfl, Nat.le_refl _, Kd.C_nil _ _, Below.refl _ _⟩
  | some ad =>
    have HB0 := Aside0.mk hb0
    clear hb0
    have hq := eqlSome ad n c w
    go_enter Try.func64, Try.ntmps64
    go_wp2_with (first
      | (at_builtin; refine print_append_row (w0 := w) w.heap.size rfl _ _ 41 5 .u8 1 rfl Try.underlying41 info5 (by decide) _ [] lb (some ad) n c rfl rfl HOL.out HRI.out HBa.out (by simp) (by simp; omega) ?_; intro v1 w2 ho1 hb1 hg1 hat1; have HB2 := Aside0.mk hb1; have HR1 := Aside0.mk (Kd.R_of_own (enc := Value.int .u8) (h1 := fun _ => rfl) (ok := fun _ => True) ho1 (fun _ _ => trivial)); obtain ⟨A1, c1, e1⟩ := Kd.R_slice HR1.out; subst e1; clear hb1 ho1 hg1 hat1)
      | fail)
    go_ret
    exact ⟨A1, c1, rfl, (Kd.R_reads' HR1.out).2.1, (Kd.R_reads' HR1.out).2.2, HB2.out⟩
theorem IsW.bound {P : Nat → Prop} {W : World} {base g : Nat} {l : List Int} (h : IsW P W base g l) : IsW (fun k => P k ∧ k < W.heap.size) W base g l := by
  obtain ⟨h1, h2, h3, v, h4, h5, h6⟩ := h
  exact ⟨⟨h1, h3⟩, h2, h3, v, h4, h5, Kd.R_mono (Kd.R_bound h6) (fun k hk => ⟨⟨hk.1.1, hk.2.2.1⟩, hk.1.2⟩)⟩
theorem IsW.keep {P : Nat → Prop} {W W2 : World} {base g : Nat} {l : List Int} (h : IsW P W base g l) (hk : Below W.heap.size W W2) : IsW P W2 base g l := by
  obtain ⟨h1, h2, h3, v, h4, h5, h6⟩ := h
  exact ⟨h1, h2, by have := hk.size; omega, v, (hk.cell h3).trans h4, (hk.frozen h3).trans h5, Kd.R_mono (Kd.R_move (Kd.R_bound h6) (fun k hk2 => hk.block k hk2.2.2.1)) (fun k hk2 => hk2.1)⟩
set_option maxHeartbeats 1600000 in
set_option maxRecDepth 100000 in
theorem out_calls (P : Nat → Prop) (g base : Nat) (l : List Int) (hl : l.length ≤ 10000000) (w : World) (hW : IsW P w base g l) :
    Calls Try.prog 38 #[.pointer (some ⟨g, 0, none⟩)] w (Copy w l) := by
  obtain ⟨q1, q2, q3, v0, q4, q5, q6⟩ := hW
  obtain ⟨A, c, rfl⟩ := Kd.R_slice q6
  have HC := Aside0.mk (clone_calls A l.length c l rfl hl w (Kd.R_reads' q6).2.2)
  clear q6
  go_enter Try.func38, Try.ntmps38
  go_wp2_with (first
    | (go_at_call 64; (with_reducible refine HC.out.mono ?_); rintro e w1 ⟨A1, c1, rfl, h1, h2, h3⟩)
    | fail)
  go_ret
  exact ⟨A1, c1, rfl, h1, h2, h3⟩
set_option maxHeartbeats 1600000 in
set_option maxRecDepth 100000 in
theorem out_nil (w : World) : Calls Try.prog 38 #[.pointer none] w fun e w' => e = .returned (.slice none 0 0) ∧ w = w' := by
  go_enter Try.func38, Try.ntmps38
  go_wp2
  go_ret
  exact ⟨rfl, rfl⟩
set_option maxHeartbeats 1600000 in
set_option maxRecDepth 100000 in
theorem int_nil (n : Int) (w : World) : Calls Try.prog 35 #[.pointer none, .int .i64 n] w fun e w' => (∃ v, e = .returned v) ∧ w = w' := by
  go_enter Try.func35, Try.ntmps35
  go_wp2
  first | go_end0 | go_ret
  exact ⟨⟨_, rfl⟩, rfl⟩
set_option maxHeartbeats 1600000 in
set_option maxRecDepth 100000 in
theorem bytes_nil (v : Value) (w : World) : Calls Try.prog 36 #[.pointer none, v] w fun e w' => (∃ v, e = .returned v) ∧ w = w' := by
  go_enter Try.func36, Try.ntmps36
  go_wp2
  first | go_end0 | go_ret
  exact ⟨⟨_, rfl⟩, rfl⟩
end Go.Proofs.Ytlngkcaaenpnaaa.Wire
