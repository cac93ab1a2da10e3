/- Several texts made one. -/
import Derived.Test.YteapdhfeddgjbaaDoorVPDjx
import Derived.Test.YteapdhfeddgjbaaDoorVWKept
import Derived.Test.YteapdhfeddgjbaaDoorVWMore
import Derived.Test.YteapdhfeddgjbaaDoorVNumD
import Derived.Laws.BitsLemmas
import Derived.Shelf.Small.Bits
import Derived.IntWalk
import Derived.Outline
import Derived.StillTailTactics
import Derived.Deep.RegionHeld3
section
/- wire: the writer's calls. -/
namespace Go.Proofs.YteapdhfeddgjbaaDoor.Wire
set_option linter.unusedVariables false
open Go.RowKit Go.Proofs.YteapdhfeddgjbaaDoor.PDj Go.Proofs.YteapdhfeddgjbaaDoorW Go.Proofs.YteapdhfeddgjbaaDoorW.PrintWords Go.Proofs.YteapdhfeddgjbaaDoorW.PrintLast Go.Proofs.YteapdhfeddgjbaaDoorW.PrintMore

/-- A writer: its block g holds a row of the call's own; its blocks are P's. -/
def IsW (P : Nat → Prop) (W : World) (base g : Nat) (l : List Int) : Prop :=
  P g ∧ base ≤ g ∧ g < W.heap.size ∧ ∃ v, W.cell? ⟨g, 0, none⟩ = some v ∧ W.frozen? ⟨g, 0, none⟩ = false ∧ Kd.R (Kd.int .u8) 5 W base (fun k => P k ∧ k ≠ g) v l
theorem IsW.mono {P Q : Nat → Prop} {W : World} {base g : Nat} {l : List Int} (h : IsW P W base g l) (hq : ∀ k, P k → Q k) : IsW Q W base g l := by
  obtain ⟨h1, h2, h3, v, h4, h5, h6⟩ := h
  exact ⟨hq g h1, h2, h3, v, h4, h5, Kd.R_mono h6 (fun k hk => ⟨hq k hk.1, hk.2⟩)⟩
/-- A row behind an append, stored. -/
theorem IsW.put {Q : Nat → Prop} {W w1 : World} {base g : Nat} {l l2 : List Int} {v v1 : Value} (hg : Q g) (hb : base ≤ g) (hlt : g < W.heap.size) (hc : W.cell? ⟨g, 0, none⟩ = some v) (hf : W.frozen? ⟨g, 0, none⟩ = false)
    (hR : Kd.R (Kd.int .u8) 5 W base (fun k => Q k ∧ k ≠ g) v l) (ho1 : w1.ownsRow base 5 1 v1 l2.length (nums .u8 l2)) (hg1 : W.grownBy w1 v.ownBlock) (hat1 : v1.ownBlock = v.ownBlock ∨ ∃ b, v1.ownBlock = some b ∧ W.heap.size ≤ b) (hnew : ∀ k, W.heap.size ≤ k → Q k) :
    w1.cell? ⟨g, 0, none⟩ = some v ∧ w1.frozen? ⟨g, 0, none⟩ = false ∧ IsW Q (w1.setCell ⟨g, 0, none⟩ v1) base g l2 ∧ Kept W (w1.setCell ⟨g, 0, none⟩ v1) Q := by
  have hne : some g ≠ v.ownBlock := fun e => (hR.1 g e.symm).2 rfl
  have hc1 : w1.cell? ⟨g, 0, none⟩ = some v := cell_grown hg1 hc hne
  have hf1 : w1.frozen? ⟨g, 0, none⟩ = false := (World.grownBy.frozen_far hg1 _ hlt hne).trans hf
  have hK : Kept W w1 Q := Kept.of_grown hg1 (Kept.refl W Q) (fun k e => .inl (hR.1 k e).1)
  have hR1 : Kd.R (Kd.int .u8) 5 w1 base (fun k => Q k ∧ k ≠ g) v1 l2 := Kd.R_of_own (enc := Value.int .u8) (h1 := fun _ => rfl) ho1 (fun k e => by
    rcases hat1 with h | ⟨b, h, hge⟩
    · rw [h] at e; exact hR.1 k e
    · rw [h] at e
      obtain rfl : b = k := by simpa using e
      exact ⟨hnew b hge, by omega⟩)
  have hK2 : Kept w1 (w1.setCell ⟨g, 0, none⟩ v1) (fun k => k = g) := Kept.setCell (S := fun k => k = g) (Kept.refl _ _) (.inl rfl) _
  refine ⟨hc1, hf1, ⟨hg, hb, by have := hg1.size; simp [World.setCell]; omega, v1, World.cell?_setCell_same' _ _ _ (by rw [hc1]; rfl), by rw [World.frozen?_setCell]; exact hf1, Kd.R_kept hR1 hK2 (fun k hk => hk.2)⟩, hK.setCell (.inl hg) _⟩
theorem lit1_own (W : World) (base : Nat) (hb : base ≤ W.heap.size) (x : Int) : Kd.C (Kd.int .u8) (W.alloc (.cells #[.int .u8 x] 5)) (some ⟨W.heap.size, 0, none⟩) [x].length [x] :=
  (Kd.R_reads' (Kd.R_of_own (enc := Value.int .u8) (h1 := fun _ => rfl) (ok := fun _ => True) (own_lit W base 5 .u8 [x] hb (by simp)) (fun _ _ => trivial))).2.2
theorem C_readsB {w : World} {A : Option Addr} {xs : List Int} (h : Kd.C (Kd.int .u8) w A xs.length xs) : ReadsInt w .u8 A xs.length xs :=
  ⟨rfl, h.2.1, fun hp => by
    obtain ⟨ad, e, _⟩ := Kd.at_int h 0 (by omega) (by omega)
    subst e
    refine ⟨ad, rfl, fun j hj => ?_⟩
    obtain ⟨ad', e, hc⟩ := Kd.at_int h (j : Int) (by omega) (by omega)
    cases e
    rw [Int.toNat_natCast] at hc
    rw [hc]
    simp [rd]⟩
/-- The lowest bytes of a number, the highest first. -/
def bes : Nat → Int → List Int
  | 0, _ => []
  | m + 1, n => (n / 256 ^ m % 256) :: bes m n
set_option maxHeartbeats 1600000 in
set_option maxRecDepth 100000 in
theorem put_calls (P : Nat → Prop) (g : Nat) (l : List Int) (n : Int) (m : Nat) (hn : 0 ≤ n ∧ n < 18446744073709551616) (hm : m ≤ 8) (hl : l.length ≤ 1000000) (w0 w : World) (hB : Below w0.heap.size w0 w) (hW : IsW P w w0.heap.size g l) :
    Calls Tryd.prog 107 #[.pointer (some ⟨g, 0, none⟩), .int .u64 n, .int .i64 m] w fun e w' => (∃ v, e = .returned v) ∧ IsW (fun k => P k ∨ w.heap.size ≤ k) w' w0.heap.size g (l ++ bes m n) ∧ Below w0.heap.size w0 w' ∧ Kept w w' P := by
  have HB := Aside0.mk hB
  have HW := Aside0.mk hW
  clear hB hW
  go_enter Tryd.func107, Tryd.ntmps107
  go_wp2
  go_loopw [6] (fun v6 wr => ∃ (k : Nat) (l' : List Int), k ≤ m ∧ v6 = .int .i64 (8 * (k : Int) - 8) ∧ l'.length + k = l.length + m ∧ w.heap.size ≤ wr.heap.size ∧ Aside0 (l' ++ bes k n = l ++ bes m n) ∧ Aside0 (IsW (fun k => P k ∨ w.heap.size ≤ k) wr w0.heap.size g l') ∧ Aside0 (Below w0.heap.size w0 wr) ∧ Aside0 (Kept w wr P))
    (fun v6 _ => (intOf v6 + 8).toNat)
  case atStart => exact ⟨m, l, Nat.le_refl _, by first | rfl | (congr 1; omega), rfl, Nat.le_refl _, ⟨rfl⟩, ⟨HW.out.mono (fun k hk => .inl hk)⟩, HB, ⟨Kept.refl _ _⟩⟩
  case round =>
    obtain ⟨k, l', hk, rfl, hll, hws, HL, HI, HBr, HK⟩ := hrel
    by_cases hlt : 0 < k
    · obtain ⟨j, rfl⟩ : ∃ j, k = j + 1 := ⟨k - 1, by omega⟩
      rw [show 8 * ((j + 1 : Nat) : Int) - 8 = ((8 * j : Nat) : Int) from by omega]
      obtain ⟨s, hs⟩ : ∃ s : Nat, s = 8 * j := ⟨_, rfl⟩
      rw [← hs]
      have hs8 : s ≤ 56 := by omega
      obtain ⟨x, hx⟩ : ∃ x, IntKind.u8.wrap (n / 2 ^ s) = x := ⟨_, rfl⟩
      have hx2 : x = n / 256 ^ j % 256 := by
        rw [← hx, hs]
        have : (256 : Int) ^ j = 2 ^ (8 * j) := by rw [Int.pow_mul]; rfl
        rw [this]
        simp [IntKind.wrap, IntKind.bits, IntKind.signed]
      obtain ⟨q1, q2, q3, v, q4, q5, q6⟩ := HI.out
      have HR := Aside0.mk q6
      have HQ1 := Aside0.mk q1
      have HOL : Aside0 ((wr.alloc (.cells #[.int .u8 x] 5)).ownsRow w0.heap.size 5 1 v l'.length (nums .u8 l')) := ⟨(Kd.own_of_R q6).alloc _⟩
      have HRI := Aside0.mk (C_readsB (lit1_own wr w0.heap.size (by have := HBr.out.size; omega) x))
      have HBa := Aside0.mk (HBr.out.alloc HBr.out.size (.cells #[.int .u8 x] 5))
      have hca : (wr.alloc (.cells #[.int .u8 x] 5)).cell? ⟨g, 0, none⟩ = some v := ((below_alloc (Below.refl _ _) _).cell (World.block_lt_of_cell? _ _ q4)).trans q4
      have hfa : (wr.alloc (.cells #[.int .u8 x] 5)).frozen? ⟨g, 0, none⟩ = false := ((below_alloc (Below.refl _ _) _).frozen (World.block_lt_of_cell? _ _ q4)).trans q5
      have HRa := Aside0.mk (Kd.R_alloc HR.out (.cells #[.int .u8 x] 5))
      have hsz := HBr.out.size
      have HS := Aside0.mk hs
      have HX2 := Aside0.mk hx2
      clear q1 q6 HI hx2 hs
      go_wp2_with (first
        | (at_builtin; refine print_append_row (w0 := w0) w0.heap.size rfl _ _ 24 5 .u8 1 rfl Tryd.underlying24 info5 (by decide) _ l' [x] (some ⟨wr.heap.size, 0, none⟩) 1 1 rfl rfl HOL.out HRI.out HBa.out (by simp; omega) (by simp; omega) ?_; intro v1 w1 ho1 hb1 hg1 hat1; have HB1 := Aside0.mk hb1; obtain ⟨hc1, hf1, hI1, hK1⟩ := IsW.put HQ1.out q2 (by simp; omega) hca hfa HRa.out ho1 hg1 hat1 (fun k hk => .inr (by simp at hk; omega)); have HI1 := Aside0.mk hI1; have HK1 := Aside0.mk hK1; obtain ⟨A1, c1, e1⟩ := Kd.R_slice (Kd.R_of_own (enc := Value.int .u8) (h1 := fun _ => rfl) (ok := fun _ => True) ho1 (fun _ _ => trivial)); subst e1; clear hb1 hI1 hK1 ho1 hg1 hat1)
        | fail)
      have hL2 : l' ++ [x] ++ bes j n = l ++ bes m n := by
        rw [← HL.out, bes, HX2.out, List.append_assoc]; rfl
      have HL2 := Aside0.mk hL2
      have eL : (l' ++ [x]).length = l'.length + 1 := by simp
      rw [eL] at HI1 HK1
      clear hL2
      go_roundw
      case rel => exact ⟨j, l' ++ [x], by omega, by have := HS.out; congr 1; omega, by simp; omega, by have := HK1.out.1; simp [World.setCell] at this ⊢; omega, HL2, HI1, ⟨HB1.out.setCell q2 _⟩, ⟨(HK.out.alloc _).then_ HK1.out (fun _ h => h)⟩⟩
      case measure => have := HS.out; simp [intOf]; omega
    · obtain rfl : k = 0 := by omega
      have hF : l' = l ++ bes m n := by have := HL.out; rwa [bes, List.append_nil] at this
      have HF := Aside0.mk hF
      clear hF
      go_wp2
      first | go_end0 | go_ret
      exact ⟨⟨_, rfl⟩, by rw [← HF.out]; exact HI.out, HBr.out, HK.out⟩
end Go.Proofs.YteapdhfeddgjbaaDoor.Wire
end
section
/- wire: Count, Int, Byte, Bytes of a writer. -/
namespace Go.Proofs.YteapdhfeddgjbaaDoor.Wire
set_option linter.unusedVariables false
open Go.RowKit Go.Proofs.YteapdhfeddgjbaaDoor.PDj Go.Proofs.YteapdhfeddgjbaaDoorW Go.Proofs.YteapdhfeddgjbaaDoorW.PrintWords Go.Proofs.YteapdhfeddgjbaaDoorW.PrintLast Go.Proofs.YteapdhfeddgjbaaDoorW.PrintMore
attribute [local go_sem] max2_int min2_int max_two min_two max_three min_three max_four min_four

/-- Behind a writer's call: what is written now. -/
def Wrote (P : Nat → Prop) (w0 w : World) (g : Nat) (l : List Int) (e : Ending) (w' : World) : Prop :=
  (∃ v, e = .returned v) ∧ IsW (fun k => P k ∨ w.heap.size ≤ k) w' w0.heap.size g l ∧ Below w0.heap.size w0 w' ∧ Kept w w' P
theorem put_of (P : Nat → Prop) (g : Nat) (l : List Int) (n : Int) (m : Nat) (mi : Int) (hmi : (m : Int) = mi) (hn : 0 ≤ n ∧ n < 18446744073709551616) (hm : m ≤ 8) (hl : l.length ≤ 1000000) (w0 w : World) (hB : Below w0.heap.size w0 w) (hW : IsW P w w0.heap.size g l) :
    Calls Tryd.prog 107 #[.pointer (some ⟨g, 0, none⟩), .int .u64 n, .int .i64 mi] w (Wrote P w0 w g (l ++ bes m n)) := hmi ▸ put_calls P g l n m hn hm hl w0 w hB hW
def cnt (n : Int) : Int := if n < 0 ∨ 4294967295 < n then 0 else n
theorem cnt_le (n : Int) : 0 ≤ cnt n ∧ cnt n ≤ 4294967295 := by unfold cnt; split <;> omega
set_option maxHeartbeats 1600000 in
set_option maxRecDepth 100000 in
theorem count_calls (P : Nat → Prop) (g : Nat) (l : List Int) (n : Int) (hn : -9223372036854775808 ≤ n ∧ n ≤ 9223372036854775807) (hl : l.length ≤ 1000000) (w0 w : World) (hB : Below w0.heap.size w0 w) (hW : IsW P w w0.heap.size g l) :
    Calls Tryd.prog 108 #[.pointer (some ⟨g, 0, none⟩), .int .i64 n] w (Wrote P w0 w g (l ++ bes 4 (cnt n))) := by
  have HC := Aside0.mk (put_of P g l (cnt n) 4 4 rfl (by have := cnt_le n; omega) (by omega) hl w0 w hB hW)
  clear hB hW
  by_cases h : n < 0 ∨ 4294967295 < n
  · have e : cnt n = 0 := by rw [cnt, if_pos h]
    rw [e] at HC ⊢
    rcases h with h | h
    · go_enter Tryd.func108, Tryd.ntmps108
      go_wp2_with (first
        | (go_at_call 107; (with_reducible refine HC.out.mono ?_); rintro e w1 ⟨⟨v, rfl⟩, h1⟩)
        | fail)
      first | go_end0 | go_ret
      exact ⟨⟨_, rfl⟩, h1⟩
    · have h0 : 0 ≤ n := by omega
      go_enter Tryd.func108, Tryd.ntmps108
      go_wp2_with (first
        | (go_at_call 107; (with_reducible refine HC.out.mono ?_); rintro e w1 ⟨⟨v, rfl⟩, h1⟩)
        | fail)
      first | go_end0 | go_ret
      exact ⟨⟨_, rfl⟩, h1⟩
  · have e : cnt n = n := by rw [cnt, if_neg h]
    have h0 : 0 ≤ n ∧ n ≤ 4294967295 := by omega
    rw [e] at HC ⊢
    clear h
    go_enter Tryd.func108, Tryd.ntmps108
    go_wp2_with (first
      | (go_at_call 107; (with_reducible refine HC.out.mono ?_); rintro e w1 ⟨⟨v, rfl⟩, h1⟩)
      | fail)
    first | go_end0 | go_ret
    exact ⟨⟨_, rfl⟩, h1⟩
set_option maxHeartbeats 1600000 in
set_option maxRecDepth 100000 in
theorem int_calls (P : Nat → Prop) (g : Nat) (l : List Int) (n : Int) (hn : -9223372036854775808 ≤ n ∧ n ≤ 9223372036854775807) (hl : l.length ≤ 1000000) (w0 w : World) (hB : Below w0.heap.size w0 w) (hW : IsW P w w0.heap.size g l) :
    Calls Tryd.prog 80 #[.pointer (some ⟨g, 0, none⟩), .int .i64 n] w (Wrote P w0 w g (l ++ bes 8 (if n < 0 then 0 else n))) := by
  by_cases h : n < 0
  · rw [if_pos h]
    have HC := Aside0.mk (put_of P g l 0 8 8 rfl (by omega) (by omega) hl w0 w hB hW)
    clear hB hW
    go_enter Tryd.func80, Tryd.ntmps80
    go_wp2_with (first
      | (go_at_call 107; (with_reducible refine HC.out.mono ?_); rintro e w1 ⟨⟨v, rfl⟩, h1⟩)
      | fail)
    first | go_end0 | go_ret
    exact ⟨⟨_, rfl⟩, h1⟩
  · rw [if_neg h]
    have HC := Aside0.mk (put_of P g l n 8 8 rfl (by omega) (by omega) hl w0 w hB hW)
    clear hB hW
    go_enter Tryd.func80, Tryd.ntmps80
    go_wp2_with (first
      | (go_at_call 107; (with_reducible refine HC.out.mono ?_); rintro e w1 ⟨⟨v, rfl⟩, h1⟩)
      | fail)
    first | go_end0 | go_ret
    exact ⟨⟨_, rfl⟩, h1⟩
set_option maxHeartbeats 1600000 in
set_option maxRecDepth 100000 in
theorem byte_calls (P : Nat → Prop) (g : Nat) (l : List Int) (n : Int) (hn : 0 ≤ n ∧ n < 256) (hl : l.length ≤ 1000000) (w0 w : World) (hB : Below w0.heap.size w0 w) (hW : IsW P w w0.heap.size g l) :
    Calls Tryd.prog 79 #[.pointer (some ⟨g, 0, none⟩), .int .u8 n] w (Wrote P w0 w g (l ++ bes 1 n)) := by
  have HC := Aside0.mk (put_of P g l n 1 1 rfl (by omega) (by omega) hl w0 w hB hW)
  clear hB hW
  go_enter Tryd.func79, Tryd.ntmps79
  go_wp2_with (first
    | (go_at_call 107; (with_reducible refine HC.out.mono ?_); rintro e w1 ⟨⟨v, rfl⟩, h1⟩)
    | fail)
  first | go_end0 | go_ret
  exact ⟨⟨_, rfl⟩, h1⟩
end Go.Proofs.YteapdhfeddgjbaaDoor.Wire
end
section
/- wire: Bytes and Out of a writer. -/
namespace Go.Proofs.YteapdhfeddgjbaaDoor.Wire
set_option linter.unusedVariables false
open Go.RowKit Go.Proofs.YteapdhfeddgjbaaDoor.PDj Go.Proofs.YteapdhfeddgjbaaDoorW Go.Proofs.YteapdhfeddgjbaaDoorW.PrintWords Go.Proofs.YteapdhfeddgjbaaDoorW.PrintLast Go.Proofs.YteapdhfeddgjbaaDoorW.PrintMore

set_option maxHeartbeats 1600000 in
set_option maxRecDepth 100000 in
theorem bytes_calls (P : Nat → Prop) (g : Nat) (l : List Int) (A : Option Addr) (n c : Nat) (lb : List Int) (hn : lb.length = n) (hlb : n ≤ 1000000) (hl : l.length ≤ 1000000) (w0 w : World) (hb : Kd.C (Kd.int .u8) w0 A lb.length lb) (hB : Below w0.heap.size w0 w) (hW : IsW P w w0.heap.size g l) :
    Calls Tryd.prog 81 #[.pointer (some ⟨g, 0, none⟩), .slice A n c] w (Wrote P w0 w g (l ++ bes 4 (n : Int) ++ lb)) := by
  have hc := count_calls P g l (n : Int) (by omega) hl w0 w hB hW
  rw [show cnt (n : Int) = (n : Int) from by rw [cnt, if_neg (by omega)]] at hc
  have HC := Aside0.mk hc
  have HBb := Aside0.mk hb
  have HN := Aside0.mk hn
  have hbl : (l ++ bes 4 (n : Int)).length = l.length + 4 := by simp [bes]
  obtain ⟨l1, hl1⟩ : ∃ l1, l1 = l ++ bes 4 (n : Int) := ⟨_, rfl⟩
  rw [← hl1] at HC hbl ⊢
  clear hc hb hB hW hn hl1
  go_enter Tryd.func81, Tryd.ntmps81
  go_wp2_with (first
    | (go_at_call 108
       (with_reducible refine HC.out.mono ?_)
       rintro e w1 ⟨⟨v, rfl⟩, hI, hB1, hK1⟩
       have HB1 := Aside0.mk hB1
       have HK1 := Aside0.mk hK1
       obtain ⟨q1, q2, q3, v0, q4, q5, q6⟩ := hI
       have HQ1 := Aside0.mk q1
       have HR := Aside0.mk q6
       have hws := hK1.1
       have HOL : Aside0 (w1.ownsRow w0.heap.size 5 1 v0 l1.length (nums .u8 l1)) := ⟨Kd.own_of_R q6⟩
       have hrd := C_readsB (Kd.C_below HBb.out hB1)
       rw [HN.out] at hrd
       have HRI := Aside0.mk hrd
       have hsz := hB1.size
       clear hB1 hK1 q1 q6 hrd)
    | (at_builtin; refine print_append_row (w0 := w0) w0.heap.size rfl _ _ 24 5 .u8 1 rfl Tryd.underlying24 info5 (by decide) _ l1 lb A n c rfl rfl HOL.out HRI.out HB1.out (by omega) (by omega) ?_; intro v1 w2 ho1 hb1 hg1 hat1; have HB2 := Aside0.mk hb1; obtain ⟨hc1, hf1, hI1, hK1⟩ := IsW.put HQ1.out q2 q3 q4 q5 HR.out ho1 hg1 hat1 (fun k hk => .inr (by omega)); have HI1 := Aside0.mk hI1; have HK2 := Aside0.mk hK1; obtain ⟨A1, c1, e1⟩ := Kd.R_slice (Kd.R_of_own (enc := Value.int .u8) (h1 := fun _ => rfl) (ok := fun _ => True) ho1 (fun _ _ => trivial)); subst e1; clear hb1 hI1 hK1 ho1 hg1 hat1)
    | fail)
  first | go_end0 | go_ret
  refine ⟨⟨_, rfl⟩, ?_, HB2.out.setCell q2 _, ?_⟩
  · have := HI1.out
    rw [show (l1 ++ lb).length = l.length + 4 + lb.length from by rw [List.length_append, hbl]] at this
    exact this
  · have := HK1.out.then_ HK2.out (fun _ h => h)
    rw [show (l1 ++ lb).length = l.length + 4 + lb.length from by rw [List.length_append, hbl]] at this
    exact this
theorem eqlSome (ad : Addr) (n c : Nat) (w : World) : (binOp .eql 24 (.slice (some ad) n c) (.slice none 0 0)).run Tryd.prog w = .ok (.bool false) w := by kernel_rfl
theorem eqlNil (n c : Nat) (w : World) : (binOp .eql 24 (.slice none n c) (.slice none 0 0)).run Tryd.prog w = .ok (.bool true) w := by kernel_rfl
/-- A copy of a row. -/
def NewB (n : Nat) (A : Option Addr) : Prop := ∀ ad, A = some ad → n ≤ ad.block
def Copy2 (w : World) (l : List Int) (e : Ending) (w' : World) : Prop :=
  ∃ A c, e = .returned (.slice A l.length c) ∧ (l.length ≤ c ∧ NewB w.heap.size A) ∧ Kd.C (Kd.int .u8) w' A l.length l ∧ Below w.heap.size w w'
def Copy (w : World) (l : List Int) (e : Ending) (w' : World) : Prop :=
  ∃ A c, e = .returned (.slice A l.length c) ∧ l.length ≤ c ∧ Kd.C (Kd.int .u8) w' A l.length l ∧ Below w.heap.size w w'
theorem newB_R {e base n c : Nat} {w : World} {ok : Nat → Prop} {A : Option Addr} {l : List Int} (h : Kd.R (Kd.int .u8) e w base ok (.slice A n c) l) : NewB base A := fun ad e2 => by
  subst e2
  obtain ⟨g, hg⟩ := Kd.R_head h
  subst hg
  exact Kd.R_base h g rfl
set_option maxHeartbeats 1600000 in
set_option maxRecDepth 100000 in
theorem clone_calls2 (A : Option Addr) (n c : Nat) (lb : List Int) (hn : lb.length = n) (hlb : n ≤ 10000000) (w : World) (hb : Kd.C (Kd.int .u8) w A lb.length lb) :
    Calls Tryd.prog 49 #[.slice A n c] w (Copy2 w lb) := by
  have hrd := C_readsB (Kd.C_alloc hb (.cells #[] 5))
  rw [hn] at hrd
  have HRI := Aside0.mk hrd
  have HN := Aside0.mk hn
  have HOL : Aside0 ((w.alloc (.cells #[] 5)).ownsRow w.heap.size 5 1 (.slice (some ⟨w.heap.size, 0, none⟩) 0 0) ([] : List Int).length (nums .u8 [])) := ⟨own_lit w w.heap.size 5 .u8 [] (Nat.le_refl _) (by simp)⟩
  have HBa := Aside0.mk (below_alloc (Below.refl w.heap.size w) (.cells #[] 5))
  have hb0 := hb
  clear hb hrd hn
  cases A with
  | none =>
    have hz : n = 0 := by
      by_cases h : n = 0
      · exact h
      · obtain ⟨ad, e, _⟩ := Kd.at_int hb0 0 (by omega) (by have := HN.out; omega)
        cases e
    have hlb0 : lb = [] := List.eq_nil_of_length_eq_zero (by have := HN.out; omega)
    subst hlb0
    clear HRI HOL HBa hb0 HN
    subst hz
    have hq := eqlNil 0 c w
    go_enter Tryd.func49, Tryd.ntmps49
    go_wp2
    go_ret
    exact ⟨none, 0, rfl, ⟨Nat.le_refl _, fun _ h => by cases h⟩, Kd.C_nil _ _, Below.refl _ _⟩
  | some ad =>
    have HB0 := Aside0.mk hb0
    clear hb0
    have hq := eqlSome ad n c w
    go_enter Tryd.func49, Tryd.ntmps49
    go_wp2_with (first
      | (at_builtin; refine print_append_row (w0 := w) w.heap.size rfl _ _ 24 5 .u8 1 rfl Tryd.underlying24 info5 (by decide) _ [] lb (some ad) n c rfl rfl HOL.out HRI.out HBa.out (by simp) (by simp; omega) ?_; intro v1 w2 ho1 hb1 hg1 hat1; have HB2 := Aside0.mk hb1; have HR1 := Aside0.mk (Kd.R_of_own (enc := Value.int .u8) (h1 := fun _ => rfl) (ok := fun _ => True) ho1 (fun _ _ => trivial)); obtain ⟨A1, c1, e1⟩ := Kd.R_slice HR1.out; subst e1; clear hb1 ho1 hg1 hat1)
      | fail)
    go_ret
    exact ⟨A1, c1, rfl, ⟨(Kd.R_reads' HR1.out).2.1, newB_R HR1.out⟩, (Kd.R_reads' HR1.out).2.2, HB2.out⟩
theorem clone_calls (A : Option Addr) (n c : Nat) (lb : List Int) (hn : lb.length = n) (hlb : n ≤ 10000000) (w : World) (hb : Kd.C (Kd.int .u8) w A lb.length lb) :
    Calls Tryd.prog 49 #[.slice A n c] w (Copy w lb) :=
  (clone_calls2 A n c lb hn hlb w hb).mono fun e w' ⟨A, c, h1, h2, h3, h4⟩ => ⟨A, c, h1, h2.1, h3, h4⟩
theorem IsW.bound {P : Nat → Prop} {W : World} {base g : Nat} {l : List Int} (h : IsW P W base g l) : IsW (fun k => P k ∧ k < W.heap.size) W base g l := by
  obtain ⟨h1, h2, h3, v, h4, h5, h6⟩ := h
  exact ⟨⟨h1, h3⟩, h2, h3, v, h4, h5, Kd.R_mono (Kd.R_bound h6) (fun k hk => ⟨⟨hk.1.1, hk.2.2.1⟩, hk.1.2⟩)⟩
set_option maxHeartbeats 1600000 in
set_option maxRecDepth 100000 in
theorem out_calls (P : Nat → Prop) (g base : Nat) (l : List Int) (hl : l.length ≤ 10000000) (w : World) (hW : IsW P w base g l) :
    Calls Tryd.prog 82 #[.pointer (some ⟨g, 0, none⟩)] w (Copy w l) := by
  obtain ⟨q1, q2, q3, v0, q4, q5, q6⟩ := hW
  obtain ⟨A, c, rfl⟩ := Kd.R_slice q6
  have HC := Aside0.mk (clone_calls A l.length c l rfl hl w (Kd.R_reads' q6).2.2)
  clear q6
  go_enter Tryd.func82, Tryd.ntmps82
  go_wp2_with (first
    | (go_at_call 49; (with_reducible refine HC.out.mono ?_); rintro e w1 ⟨A1, c1, rfl, h1, h2, h3⟩)
    | fail)
  go_ret
  exact ⟨A1, c1, rfl, h1, h2, h3⟩
end Go.Proofs.YteapdhfeddgjbaaDoor.Wire
end
section
/- wire: the document's bytes, as calls. -/
namespace Go.Proofs.YteapdhfeddgjbaaDoor.Wire
set_option linter.unusedVariables false
open Go.RowKit Go.Proofs.YteapdhfeddgjbaaDoor.Num Go.Proofs.YteapdhfeddgjbaaDoor.PDj Go.Proofs.YteapdhfeddgjbaaDoorW Go.Proofs.YteapdhfeddgjbaaDoorW.PrintWords Go.Proofs.YteapdhfeddgjbaaDoorW.PrintLast Go.Proofs.YteapdhfeddgjbaaDoorW.PrintMore

theorem le_succ : ∀ k v, le (k + 1) v = le k v ++ [((v / 256 ^ k % 256 : Nat) : Int)]
  | 0, v => by simp [le]
  | k + 1, v => by
    rw [le, le_succ k (v / 256), le, Nat.div_div_eq_div_mul, show 256 * 256 ^ k = 256 ^ (k + 1) from by rw [Nat.pow_succ, Nat.mul_comm]]
    rfl
theorem bes_be : ∀ (m n : Nat), bes m (n : Int) = be m n
  | 0, n => rfl
  | m + 1, n => by
    rw [bes, be, le_succ, List.reverse_append, bes_be m n]
    have e : (n : Int) / 256 ^ m % 256 = ((n / 256 ^ m % 256 : Nat) : Int) := by rw [Int.natCast_emod, Int.natCast_ediv, Int.natCast_pow]; rfl
    rw [e]
    rfl
theorem bes_len : ∀ (m : Nat) (n : Int), (bes m n).length = m
  | 0, _ => rfl
  | m + 1, n => by rw [bes, List.length_cons, bes_len m n]
theorem Copy.of {w w' : World} {l : List Int} {e : Ending} (h : ∃ v0_ : Value, e = .returned (v0_) ∧ Kd.R (Kd.int .u8) 5 w' w.heap.size (fun _ => True) v0_ l ∧ Below w.heap.size w w') : Copy w l e w' := by
  obtain ⟨v, rfl, hR, hB⟩ := h
  obtain ⟨A, c, rfl⟩ := Kd.R_slice hR
  have h2 := Kd.R_reads' hR
  exact ⟨A, c, rfl, h2.2.1, h2.2.2, hB⟩
end Go.Proofs.YteapdhfeddgjbaaDoor.Wire
end
section
/- wire: the reader's calls. -/
namespace Go.Proofs.YteapdhfeddgjbaaDoor.Wire
set_option linter.unusedVariables false
set_option linter.unusedSimpArgs false
open Go.RowKit Go.Proofs.YteapdhfeddgjbaaDoor.Num Go.Proofs.YteapdhfeddgjbaaDoor.PDj Go.Proofs.YteapdhfeddgjbaaDoorW Go.Proofs.YteapdhfeddgjbaaDoorW.PrintWords Go.Proofs.YteapdhfeddgjbaaDoorW.PrintLast Go.Proofs.YteapdhfeddgjbaaDoorW.PrintMore

theorem or_small (z x : Int) (hz : 0 ≤ z ∧ z < 72057594037927936) (hx : 0 ≤ x ∧ x < 256) : bits .or .u64 (z * 256) x = z * 256 + x := by
  obtain ⟨z, rfl⟩ : ∃ n : Nat, z = n := ⟨z.toNat, by omega⟩
  obtain ⟨x, rfl⟩ : ∃ n : Nat, x = n := ⟨x.toNat, by omega⟩
  have h2 : z * 256 ||| x = z * 256 + x := by
    rw [show z * 256 = 2 ^ 8 * z from by omega]
    exact (Nat.two_pow_add_eq_or_of_lt (show x < 2 ^ 8 by omega) z).symm
  rw [show (z : Int) * 256 = ((z * 256 : Nat) : Int) from by omega, bits_or_u64_nat (z * 256) x (by omega) (by omega), h2]
  omega
theorem bv_lt' (l : List Int) (h : By l) : bv l < 256 ^ l.length := by
  have := bv_lt l h l.length (Nat.le_refl _)
  rw [List.take_length, show (2 : Nat) ^ (8 * l.length) = 256 ^ l.length from by rw [Nat.pow_mul]] at this
  exact this
set_option maxHeartbeats 1600000 in
set_option maxRecDepth 100000 in
theorem number_calls (A : Option Addr) (n c : Nat) (l : List Int) (hn : l.length = n) (h8 : n ≤ 8) (w : World) (hr : Kd.C (Kd.int .u8) w A l.length l) (hb : By l) :
    Calls Tryd.prog 112 #[.slice A n c] w fun e w' => e = .returned (.int .u64 (bv l : Int)) ∧ w = w' := by
  subst hn
  have HR := Aside0.mk hr
  have HB := Aside0.mk hb
  clear hr hb
  go_enter Tryd.func112, Tryd.ntmps112
  go_wp2
  go_loop [3, 8] (fun v3 v8 => ∃ k : Nat, k ≤ l.length ∧ v8 = .int .i64 k ∧ v3 = .int .u64 (bv (l.take k) : Int))
    (fun _ v8 => l.length - (intOf v8).toNat)
  case atStart => exact ⟨0, Nat.zero_le _, rfl, rfl⟩
  case round =>
    obtain ⟨k, hk, rfl, rfl⟩ := hrel
    by_cases hlt : k < l.length
    · obtain ⟨ad, e, hc⟩ := Kd.at_int HR.out (k : Int) (by omega) (by omega)
      subst e
      rw [Int.toNat_natCast] at hc
      have hx := HB.out.rd (k : Int)
      have hs := bv_take l k hlt
      obtain ⟨x, ex⟩ : ∃ x, rd l (k : Int) = x := ⟨_, rfl⟩
      rw [ex] at hc hx hs
      have hz : bv (l.take k) < 256 ^ 7 := by
        have h1 := bv_lt' (l.take k) (fun y hy => HB.out y (List.mem_of_mem_take hy))
        exact Nat.lt_of_lt_of_le h1 (Nat.pow_le_pow_right (by omega) (by rw [List.length_take]; omega))
      rw [show (256 : Nat) ^ 7 = 72057594037927936 from rfl] at hz
      have HS := Aside0.mk hs
      obtain ⟨z, hzz⟩ : ∃ z, z = (bv (l.take k) : Int) := ⟨_, rfl⟩
      rw [← hzz]
      have hor := or_small z x (by omega) hx
      have HZ := Aside0.mk hzz
      have hz2 : 0 ≤ z ∧ z < 72057594037927936 := by omega
      clear hs ex hzz hz
      go_wp2
      go_round
      case rel => exact ⟨k + 1, by omega, by go_num, by
        rw [HS.out]
        have := HZ.out
        congr 1
        omega⟩
      case measure => simp [intOf] <;> omega
    · obtain rfl : k = l.length := by omega
      rw [List.take_length]
      go_wp2
      go_ret
      exact ⟨rfl, rfl⟩
/-- A reader: its block g holds the bytes' slice, the place, where there was a fault. -/
def IsR (W : World) (g : Nat) (A : Option Addr) (n c : Nat) (at_ : Nat) (bad : Int) : Prop :=
  W.cell? ⟨g, 0, none⟩ = some (.slice A n c) ∧ W.cell? ⟨g, 1, none⟩ = some (.int .i64 (at_ : Int)) ∧ W.cell? ⟨g, 2, none⟩ = some (.int .i64 bad) ∧ W.cell? ⟨g, 3, none⟩ = some (.bool true) ∧
  W.frozen? ⟨g, 1, none⟩ = false ∧ W.frozen? ⟨g, 2, none⟩ = false
theorem IsR.below {W W2 : World} {g : Nat} {A : Option Addr} {n c at_ : Nat} {bad : Int} (h : IsR W g A n c at_ bad) (hb : Below W.heap.size W W2) : IsR W2 g A n c at_ bad := by
  obtain ⟨h0, h1, h2, h3, h4, h5⟩ := h
  have hl := World.block_lt_of_cell? _ _ h1
  exact ⟨pw_cell_below hb h0, pw_cell_below hb h1, pw_cell_below hb h2, pw_cell_below hb h3, (hb.frozen (p := ⟨g, 1, none⟩) hl).trans h4, (hb.frozen (p := ⟨g, 2, none⟩) hl).trans h5⟩
/-- Behind a reader's call: what is told, and how it stands. -/
def Told (w0 w : World) (g : Nat) (A : Option Addr) (n c : Nat) (v : Value) (at_ : Nat) (bad : Int) (e : Ending) (w' : World) : Prop :=
  e = .returned v ∧ IsR w' g A n c at_ bad ∧ Below w0.heap.size w0 w' ∧ Kept w w' (fun k => k = g)
theorem kept_g (w : World) (g i : Nat) (u : Value) : Kept w (w.setCell ⟨g, i, none⟩ u) (fun k => k = g) := (Kept.refl w (fun k => k = g)).setCell (p := ⟨g, i, none⟩) (.inl rfl) u
theorem below_alloc' {B : Nat} {w W : World} (h : Below B w W) (hB : B ≤ W.heap.size) (o : Obj) : Below B w (W.alloc o) := h.alloc hB o
theorem IsR.setBad {W : World} {g : Nat} {A : Option Addr} {n c at_ : Nat} {bad : Int} (h : IsR W g A n c at_ bad) (x : Int) : IsR (W.setCell ⟨g, 2, none⟩ (.int .i64 x)) g A n c at_ x := by
  obtain ⟨h0, h1, h2, h3, h4, h5⟩ := h
  refine ⟨?_, ?_, World.cell?_setCell_same' _ _ _ (by simp [h2]), ?_, by rw [World.frozen?_setCell]; exact h4, by rw [World.frozen?_setCell]; exact h5⟩
  · rw [World.cell?_setCell_other (h := by simp)]; exact h0
  · rw [World.cell?_setCell_other (h := by simp)]; exact h1
  · rw [World.cell?_setCell_other (h := by simp)]; exact h3
theorem IsR.setAt {W : World} {g : Nat} {A : Option Addr} {n c at_ : Nat} {bad : Int} (h : IsR W g A n c at_ bad) (x : Nat) : IsR (W.setCell ⟨g, 1, none⟩ (.int .i64 (x : Int))) g A n c x bad := by
  obtain ⟨h0, h1, h2, h3, h4, h5⟩ := h
  refine ⟨?_, World.cell?_setCell_same' _ _ _ (by simp [h1]), ?_, ?_, by rw [World.frozen?_setCell]; exact h4, by rw [World.frozen?_setCell]; exact h5⟩
  · rw [World.cell?_setCell_other (h := by simp)]; exact h0
  · rw [World.cell?_setCell_other (h := by simp)]; exact h2
  · rw [World.cell?_setCell_other (h := by simp)]; exact h3
set_option maxHeartbeats 1600000 in
set_option maxRecDepth 100000 in
theorem byte_bad (g : Nat) (A : Option Addr) (n c at_ : Nat) (bad : Int) (hbad : 0 ≤ bad) (w0 w : World) (hB : Below w0.heap.size w0 w) (hg : w0.heap.size ≤ g) (hR : IsR w g A n c at_ bad) :
    Calls Tryd.prog 84 #[.pointer (some ⟨g, 0, none⟩)] w (Told w0 w g A n c (.int .u8 0) at_ bad) := by
  have HB := Aside0.mk hB
  have HR := Aside0.mk hR
  obtain ⟨h0, h1, h2, h3, h4, h5⟩ := hR
  have hl := World.block_lt_of_cell? _ _ h1
  have hsz := hB.size
  clear hB
  go_enter Tryd.func84, Tryd.ntmps84
  go_wp2
  refine bodyPost_ret (results_none rfl _ _ _) rfl ?_
  go_wp2
  exact bodyPost_ret (v := .int .u8 0) (by simp [results, Tryd.results84, go_sem]) rfl ⟨rfl, HR.out.below (below_alloc (Below.refl _ _) _), below_alloc HB.out _, (Kept.refl _ _).alloc _⟩
set_option maxHeartbeats 1600000 in
set_option maxRecDepth 100000 in
theorem byte_short (g : Nat) (A : Option Addr) (n c at_ : Nat) (bad : Int) (hbad : bad < 0) (hs : n < at_ + 1) (hn : n ≤ 1000000000) (ha : at_ ≤ n) (w0 w : World) (hB : Below w0.heap.size w0 w) (hg : w0.heap.size ≤ g) (hR : IsR w g A n c at_ bad) :
    Calls Tryd.prog 84 #[.pointer (some ⟨g, 0, none⟩)] w (Told w0 w g A n c (.int .u8 0) at_ at_) := by
  have HB := Aside0.mk hB
  have HR := Aside0.mk hR
  obtain ⟨h0, h1, h2, h3, h4, h5⟩ := hR
  have hl := World.block_lt_of_cell? _ _ h1
  have hsz := hB.size
  clear hB
  have hd : decide ((n : Int) - (at_ : Int) < 1) = true := decide_eq_true (by omega)
  go_enter Tryd.func84, Tryd.ntmps84
  go_wp2
  first | go_end0 | refine bodyPost_ret (results_none rfl _ _ _) rfl ?_
  go_wp2
  first | go_end0 | refine bodyPost_ret (results_none rfl _ _ _) rfl ?_
  go_wp2
  exact bodyPost_ret (v := .int .u8 0) (by simp [results, Tryd.results84, go_sem]) rfl ⟨rfl, (HR.out.setBad _).below (below_alloc (Below.refl _ _) _), below_alloc' (HB.out.setCell hg _) (by simp [World.setCell]; omega) _, (kept_g w g 2 _).alloc _⟩
set_option maxHeartbeats 1600000 in
set_option maxRecDepth 100000 in
theorem byte_ok (g : Nat) (A : Option Addr) (n c at_ : Nat) (bad : Int) (hbad : bad < 0) (hs : at_ + 1 ≤ n) (hn : n ≤ 1000000000) (hc : n ≤ c) (l : List Int) (hl : l.length = n) (w0 w : World) (hr : Kd.C (Kd.int .u8) w0 A l.length l) (hB : Below w0.heap.size w0 w) (hg : w0.heap.size ≤ g) (hR : IsR w g A n c at_ bad) :
    Calls Tryd.prog 84 #[.pointer (some ⟨g, 0, none⟩)] w (Told w0 w g A n c (.int .u8 (rd l (at_ : Int))) (at_ + 1) bad) := by
  have HB := Aside0.mk hB
  have HR := Aside0.mk hR
  obtain ⟨h0, h1, h2, h3, h4, h5⟩ := hR
  have hlg := World.block_lt_of_cell? _ _ h1
  have hsz := hB.size
  clear hB
  have hd : decide ((n : Int) - (at_ : Int) < 1) = false := decide_eq_false (by omega)
  have hr1 := Kd.C_below hr HB.out
  obtain ⟨ad, e, hcl⟩ := Kd.at_int hr1 (at_ : Int) (by omega) (by omega)
  subst e
  rw [Int.toNat_natCast] at hcl
  have hcl2 : (w.alloc (.cells #[.int .u8 0] 5)).cell? (ad.add at_) = some (.int .u8 (rd l (at_ : Int))) := pw_cell_below (below_alloc (Below.refl _ _) _) hcl
  clear hr hr1 hcl
  go_enter Tryd.func84, Tryd.ntmps84
  go_wp2
  first | go_end0 | refine bodyPost_ret (results_none rfl _ _ _) rfl ?_
  go_wp2
  exact bodyPost_ret (v := .int .u8 (rd l (at_ : Int))) (by simp [results, Tryd.results84, go_sem]) rfl ⟨rfl, (HR.out.setAt (at_ + 1)).below (below_alloc (Below.refl _ _) _), below_alloc' (HB.out.setCell hg _) (by simp [World.setCell]; omega) _, (kept_g w g 1 _).alloc _⟩
theorem C_move8 {k : IntKind} {W W' : World} {A B : Option Addr} {l m : List Int} (h : Kd.C (Kd.int k) W A l.length l) (hm : m.length ≤ 9223372036854775807) (he : 0 < m.length → ∃ ad bd, A = some ad ∧ B = some bd ∧ ∀ j, j < m.length → W'.cell? (bd.add j) = some (.int k (m.getD j 0))) : Kd.C (Kd.int k) W' B m.length m := by
  refine Kd.C_of_reads (enc := Value.int k) (d := (0 : Int)) (h1 := fun _ => rfl) ⟨rfl, hm, fun hp => ?_⟩
  obtain ⟨ad, bd, _, e2, h3⟩ := he hp
  exact ⟨bd, e2, h3⟩
/-- A part of a row that is read. -/
theorem C_sub {k : IntKind} {W : World} {ad : Addr} {l : List Int} (h : Kd.C (Kd.int k) W (some ad) l.length l) (i m : Nat) (him : i + m ≤ l.length) : Kd.C (Kd.int k) W (some (ad.add i)) ((l.drop i).take m).length ((l.drop i).take m) := by
  have hl : l.length ≤ 9223372036854775807 := h.2.1
  have hlen : ((l.drop i).take m).length = m := by rw [List.length_take, List.length_drop]; omega
  refine C_move8 h (by omega) fun hp => ⟨ad, ad.add i, rfl, rfl, fun j hj => ?_⟩
  have h' : ReadsOf (Value.int k) (0 : Int) W (some ad) l.length l := Kd.reads_of_C (h1 := fun _ => rfl) h
  obtain ⟨ad', e, hc⟩ := h'.2.2 (by omega)
  cases e
  have := hc (i + j) (by omega)
  rw [Addr.add_add, this]
  congr 2
  simp only [List.getD_eq_getElem?_getD]
  rw [List.getElem?_take_of_lt (by omega), List.getElem?_drop]
set_option maxHeartbeats 1600000 in
set_option maxRecDepth 100000 in
theorem int_bad (g : Nat) (A : Option Addr) (n c at_ : Nat) (bad : Int) (hbad : 0 ≤ bad) (w0 w : World) (hB : Below w0.heap.size w0 w) (hg : w0.heap.size ≤ g) (hR : IsR w g A n c at_ bad) :
    Calls Tryd.prog 85 #[.pointer (some ⟨g, 0, none⟩)] w (Told w0 w g A n c (.int .i64 0) at_ bad) := by
  have HB := Aside0.mk hB
  have HR := Aside0.mk hR
  obtain ⟨h0, h1, h2, h3, h4, h5⟩ := hR
  have hlg := World.block_lt_of_cell? _ _ h1
  have hsz := hB.size
  clear hB
  go_enter Tryd.func85, Tryd.ntmps85
  go_wp2
  first | go_end0 | refine bodyPost_ret (results_none rfl _ _ _) rfl ?_
  go_wp2
  exact bodyPost_ret (v := .int .i64 0) (by simp [results, Tryd.results85, go_sem]) rfl ⟨rfl, HR.out.below (below_alloc (Below.refl _ _) _), (below_alloc HB.out _), ((Kept.refl _ _).alloc _)⟩
set_option maxHeartbeats 1600000 in
set_option maxRecDepth 100000 in
theorem int_short (g : Nat) (A : Option Addr) (n c at_ : Nat) (bad : Int) (hbad : bad < 0) (hs : n < at_ + 8) (hn : n ≤ 1000000000) (ha : at_ ≤ n) (w0 w : World) (hB : Below w0.heap.size w0 w) (hg : w0.heap.size ≤ g) (hR : IsR w g A n c at_ bad) :
    Calls Tryd.prog 85 #[.pointer (some ⟨g, 0, none⟩)] w (Told w0 w g A n c (.int .i64 0) at_ at_) := by
  have HB := Aside0.mk hB
  have HR := Aside0.mk hR
  obtain ⟨h0, h1, h2, h3, h4, h5⟩ := hR
  have hlg := World.block_lt_of_cell? _ _ h1
  have hsz := hB.size
  clear hB
  have hd : decide ((n : Int) - (at_ : Int) < 8) = true := decide_eq_true (by omega)
  go_enter Tryd.func85, Tryd.ntmps85
  go_wp2
  first | go_end0 | refine bodyPost_ret (results_none rfl _ _ _) rfl ?_
  go_wp2
  first | go_end0 | refine bodyPost_ret (results_none rfl _ _ _) rfl ?_
  go_wp2
  exact bodyPost_ret (v := .int .i64 0) (by simp [results, Tryd.results85, go_sem]) rfl ⟨rfl, (HR.out.setBad _).below (below_alloc (Below.refl _ _) _), (below_alloc' (HB.out.setCell hg _) (by simp [World.setCell]; omega) _), ((kept_g w g 2 _).alloc _)⟩
set_option maxHeartbeats 1600000 in
set_option maxRecDepth 100000 in
theorem int_big (g : Nat) (A : Option Addr) (n c at_ : Nat) (bad : Int) (hbad : bad < 0) (hs : at_ + 8 ≤ n) (hn : n ≤ 1000000000) (hc : n ≤ c) (l : List Int) (hl : l.length = n) (hby : By l) (hbig : 9223372036854775807 < bv ((l.drop at_).take 8)) (w0 w : World) (hr : Kd.C (Kd.int .u8) w0 A l.length l) (hB : Below w0.heap.size w0 w) (hg : w0.heap.size ≤ g) (hR : IsR w g A n c at_ bad) :
    Calls Tryd.prog 85 #[.pointer (some ⟨g, 0, none⟩)] w (Told w0 w g A n c (.int .i64 0) at_ at_) := by
  have HB := Aside0.mk hB
  have HR := Aside0.mk hR
  obtain ⟨h0, h1, h2, h3, h4, h5⟩ := hR
  have hlg := World.block_lt_of_cell? _ _ h1
  have hsz := hB.size
  clear hB
  have hd : decide ((n : Int) - (at_ : Int) < 8) = false := decide_eq_false (by omega)
  have hne : 0 < n := by omega
  have hr1 := Kd.C_below hr HB.out
  obtain ⟨ad, e, _⟩ := Kd.at_int hr1 (at_ : Int) (by omega) (by omega)
  subst e
  have hr2 := C_sub hr1 at_ 8 (by omega)
  have hln : ((l.drop at_).take 8).length = 8 := by rw [List.length_take, List.length_drop]; omega
  have HLN := Aside0.mk hln
  have HR2 := Aside0.mk (fun W' (hb : Below w.heap.size w W') => Kd.C_below hr2 hb)
  have HBY := Aside0.mk (show By ((l.drop at_).take 8) from fun y hy => hby y (List.mem_of_mem_drop (List.mem_of_mem_take hy)))
  have hnb : bv ((l.drop at_).take 8) < 256 ^ 8 := by have := bv_lt' _ HBY.out; rwa [hln] at this
  clear hr hr1 hr2 hln hby
  obtain ⟨N, hN⟩ : ∃ N : Nat, bv ((l.drop at_).take 8) = N := ⟨_, rfl⟩
  rw [hN] at hnb hbig
  have HN := Aside0.mk hN
  clear hN
  have hdd : decide ((9223372036854775807 : Int) < (N : Int)) = true := decide_eq_true (by omega)
  go_enter Tryd.func85, Tryd.ntmps85
  go_wp2_with (first
    | (go_at_call 112; (with_reducible refine (number_calls (some (ad.add at_)) 8 (c - at_) ((l.drop at_).take 8) HLN.out (by omega) _ (HR2.out _ (below_alloc (Below.refl _ _) _)) HBY.out).mono ?_); rw [HN.out]; rintro e w1 ⟨rfl, rfl⟩)
    | (go_at_call 109; go_in)
    | (go_at_call 111; go_in)
    | (go_at_call 114; go_in)
    | fail)
  first | go_end0 | refine bodyPost_ret (results_none rfl _ _ _) rfl ?_
  go_wp2
  first | go_end0 | refine bodyPost_ret (results_none rfl _ _ _) rfl ?_
  go_wp2
  exact bodyPost_ret (v := .int .i64 0) (by simp [results, Tryd.results85, go_sem]) rfl ⟨rfl, (HR.out.setBad _).below (below_alloc (Below.refl _ _) _), (below_alloc' (HB.out.setCell hg _) (by simp [World.setCell]; omega) _), ((kept_g w g 2 _).alloc _)⟩
set_option maxHeartbeats 1600000 in
set_option maxRecDepth 100000 in
theorem int_ok (g : Nat) (A : Option Addr) (n c at_ : Nat) (bad : Int) (hbad : bad < 0) (hs : at_ + 8 ≤ n) (hn : n ≤ 1000000000) (hc : n ≤ c) (l : List Int) (hl : l.length = n) (hby : By l) (hbig : bv ((l.drop at_).take 8) ≤ 9223372036854775807) (w0 w : World) (hr : Kd.C (Kd.int .u8) w0 A l.length l) (hB : Below w0.heap.size w0 w) (hg : w0.heap.size ≤ g) (hR : IsR w g A n c at_ bad) :
    Calls Tryd.prog 85 #[.pointer (some ⟨g, 0, none⟩)] w (Told w0 w g A n c (.int .i64 (bv ((l.drop at_).take 8) : Int)) (at_ + 8) bad) := by
  have HB := Aside0.mk hB
  have HR := Aside0.mk hR
  obtain ⟨h0, h1, h2, h3, h4, h5⟩ := hR
  have hlg := World.block_lt_of_cell? _ _ h1
  have hsz := hB.size
  clear hB
  have hd : decide ((n : Int) - (at_ : Int) < 8) = false := decide_eq_false (by omega)
  have hne : 0 < n := by omega
  have hr1 := Kd.C_below hr HB.out
  obtain ⟨ad, e, _⟩ := Kd.at_int hr1 (at_ : Int) (by omega) (by omega)
  subst e
  have hr2 := C_sub hr1 at_ 8 (by omega)
  have hln : ((l.drop at_).take 8).length = 8 := by rw [List.length_take, List.length_drop]; omega
  have HLN := Aside0.mk hln
  have HR2 := Aside0.mk (fun W' (hb : Below w.heap.size w W') => Kd.C_below hr2 hb)
  have HBY := Aside0.mk (show By ((l.drop at_).take 8) from fun y hy => hby y (List.mem_of_mem_drop (List.mem_of_mem_take hy)))
  have hnb : bv ((l.drop at_).take 8) < 256 ^ 8 := by have := bv_lt' _ HBY.out; rwa [hln] at this
  clear hr hr1 hr2 hln hby
  obtain ⟨N, hN⟩ : ∃ N : Nat, bv ((l.drop at_).take 8) = N := ⟨_, rfl⟩
  rw [hN] at hnb hbig ⊢
  have HN := Aside0.mk hN
  clear hN
  have hdd : decide ((9223372036854775807 : Int) < (N : Int)) = false := decide_eq_false (by omega)
  go_enter Tryd.func85, Tryd.ntmps85
  go_wp2_with (first
    | (go_at_call 112; (with_reducible refine (number_calls (some (ad.add at_)) 8 (c - at_) ((l.drop at_).take 8) HLN.out (by omega) _ (HR2.out _ (below_alloc (Below.refl _ _) _)) HBY.out).mono ?_); rw [HN.out]; rintro e w1 ⟨rfl, rfl⟩)
    | (go_at_call 109; go_in)
    | (go_at_call 111; go_in)
    | (go_at_call 114; go_in)
    | fail)
  first | go_end0 | refine bodyPost_ret (results_none rfl _ _ _) rfl ?_
  go_wp2
  exact bodyPost_ret (v := .int .i64 (N : Int)) (by simp [results, Tryd.results85, go_sem]) rfl ⟨rfl, (HR.out.setAt (at_ + 8)).below (below_alloc (Below.refl _ _) _), (below_alloc' (HB.out.setCell hg _) (by simp [World.setCell]; omega) _), ((kept_g w g 1 _).alloc _)⟩
set_option maxHeartbeats 1600000 in
set_option maxRecDepth 100000 in
theorem rcount_bad (g : Nat) (A : Option Addr) (n c at_ : Nat) (bad : Int) (most : Int) (hbad : 0 ≤ bad) (w0 w : World) (hB : Below w0.heap.size w0 w) (hg : w0.heap.size ≤ g) (hR : IsR w g A n c at_ bad) :
    Calls Tryd.prog 113 #[.pointer (some ⟨g, 0, none⟩), .int .i64 most] w (Told w0 w g A n c (.int .i64 0) at_ bad) := by
  have HB := Aside0.mk hB
  have HR := Aside0.mk hR
  obtain ⟨h0, h1, h2, h3, h4, h5⟩ := hR
  have hlg := World.block_lt_of_cell? _ _ h1
  have hsz := hB.size
  clear hB
  go_enter Tryd.func113, Tryd.ntmps113
  go_wp2
  first | go_end0 | refine bodyPost_ret (results_none rfl _ _ _) rfl ?_
  go_wp2
  exact bodyPost_ret (v := .int .i64 0) (by simp [results, Tryd.results113, go_sem]) rfl ⟨rfl, HR.out.below (below_alloc (below_alloc (Below.refl _ _) _) _), (below_alloc (below_alloc HB.out _) _), (((Kept.refl _ _).alloc _).alloc _)⟩
set_option maxHeartbeats 1600000 in
set_option maxRecDepth 100000 in
theorem rcount_short (g : Nat) (A : Option Addr) (n c at_ : Nat) (bad : Int) (most : Int) (hbad : bad < 0) (hs : n < at_ + 4) (hn : n ≤ 1000000000) (ha : at_ ≤ n) (w0 w : World) (hB : Below w0.heap.size w0 w) (hg : w0.heap.size ≤ g) (hR : IsR w g A n c at_ bad) :
    Calls Tryd.prog 113 #[.pointer (some ⟨g, 0, none⟩), .int .i64 most] w (Told w0 w g A n c (.int .i64 0) at_ at_) := by
  have HB := Aside0.mk hB
  have HR := Aside0.mk hR
  obtain ⟨h0, h1, h2, h3, h4, h5⟩ := hR
  have hlg := World.block_lt_of_cell? _ _ h1
  have hsz := hB.size
  clear hB
  have hd : decide ((n : Int) - (at_ : Int) < 4) = true := decide_eq_true (by omega)
  go_enter Tryd.func113, Tryd.ntmps113
  go_wp2
  first | go_end0 | refine bodyPost_ret (results_none rfl _ _ _) rfl ?_
  go_wp2
  first | go_end0 | refine bodyPost_ret (results_none rfl _ _ _) rfl ?_
  go_wp2
  exact bodyPost_ret (v := .int .i64 0) (by simp [results, Tryd.results113, go_sem]) rfl ⟨rfl, (HR.out.setBad _).below (below_alloc (below_alloc (Below.refl _ _) _) _), (below_alloc' (below_alloc' (HB.out.setCell hg _) (by simp [World.setCell]; omega) _) (by simp [World.setCell]; omega) _), (((kept_g w g 2 _).alloc _).alloc _)⟩
set_option maxHeartbeats 1600000 in
set_option maxRecDepth 100000 in
theorem rcount_big (g : Nat) (A : Option Addr) (n c at_ : Nat) (bad : Int) (most : Int) (hbad : bad < 0) (hs : at_ + 4 ≤ n) (hn : n ≤ 1000000000) (hc : n ≤ c) (l : List Int) (hl : l.length = n) (hby : By l) (hbig : most < (bv ((l.drop at_).take 4) : Int)) (w0 w : World) (hr : Kd.C (Kd.int .u8) w0 A l.length l) (hB : Below w0.heap.size w0 w) (hg : w0.heap.size ≤ g) (hR : IsR w g A n c at_ bad) :
    Calls Tryd.prog 113 #[.pointer (some ⟨g, 0, none⟩), .int .i64 most] w (Told w0 w g A n c (.int .i64 0) at_ at_) := by
  have HB := Aside0.mk hB
  have HR := Aside0.mk hR
  obtain ⟨h0, h1, h2, h3, h4, h5⟩ := hR
  have hlg := World.block_lt_of_cell? _ _ h1
  have hsz := hB.size
  clear hB
  have hd : decide ((n : Int) - (at_ : Int) < 4) = false := decide_eq_false (by omega)
  have hne : 0 < n := by omega
  have hr1 := Kd.C_below hr HB.out
  obtain ⟨ad, e, _⟩ := Kd.at_int hr1 (at_ : Int) (by omega) (by omega)
  subst e
  have hr2 := C_sub hr1 at_ 4 (by omega)
  have hln : ((l.drop at_).take 4).length = 4 := by rw [List.length_take, List.length_drop]; omega
  have HLN := Aside0.mk hln
  have HR2 := Aside0.mk (fun W' (hb : Below w.heap.size w W') => Kd.C_below hr2 hb)
  have HBY := Aside0.mk (show By ((l.drop at_).take 4) from fun y hy => hby y (List.mem_of_mem_drop (List.mem_of_mem_take hy)))
  have hnb : bv ((l.drop at_).take 4) < 256 ^ 4 := by have := bv_lt' _ HBY.out; rwa [hln] at this
  clear hr hr1 hr2 hln hby
  obtain ⟨N, hN⟩ : ∃ N : Nat, bv ((l.drop at_).take 4) = N := ⟨_, rfl⟩
  rw [hN] at hnb hbig
  have HN := Aside0.mk hN
  clear hN
  have hdd : decide (most < (N : Int)) = true := decide_eq_true (by omega)
  go_enter Tryd.func113, Tryd.ntmps113
  go_wp2_with (first
    | (go_at_call 112; (with_reducible refine (number_calls (some (ad.add at_)) 4 (c - at_) ((l.drop at_).take 4) HLN.out (by omega) _ (HR2.out _ (below_alloc (below_alloc (Below.refl _ _) _) _)) HBY.out).mono ?_); rw [HN.out]; rintro e w1 ⟨rfl, rfl⟩)
    | (go_at_call 109; go_in)
    | (go_at_call 125; go_in)
    | (go_at_call 114; go_in)
    | fail)
  first | go_end0 | refine bodyPost_ret (results_none rfl _ _ _) rfl ?_
  go_wp2
  first | go_end0 | refine bodyPost_ret (results_none rfl _ _ _) rfl ?_
  go_wp2
  exact bodyPost_ret (v := .int .i64 0) (by simp [results, Tryd.results113, go_sem]) rfl ⟨rfl, (HR.out.setBad _).below (below_alloc (below_alloc (Below.refl _ _) _) _), (below_alloc' (below_alloc' (HB.out.setCell hg _) (by simp [World.setCell]; omega) _) (by simp [World.setCell]; omega) _), (((kept_g w g 2 _).alloc _).alloc _)⟩
set_option maxHeartbeats 1600000 in
set_option maxRecDepth 100000 in
theorem rcount_ok (g : Nat) (A : Option Addr) (n c at_ : Nat) (bad : Int) (most : Int) (hbad : bad < 0) (hs : at_ + 4 ≤ n) (hn : n ≤ 1000000000) (hc : n ≤ c) (l : List Int) (hl : l.length = n) (hby : By l) (hbig : (bv ((l.drop at_).take 4) : Int) ≤ most) (w0 w : World) (hr : Kd.C (Kd.int .u8) w0 A l.length l) (hB : Below w0.heap.size w0 w) (hg : w0.heap.size ≤ g) (hR : IsR w g A n c at_ bad) :
    Calls Tryd.prog 113 #[.pointer (some ⟨g, 0, none⟩), .int .i64 most] w (Told w0 w g A n c (.int .i64 (bv ((l.drop at_).take 4) : Int)) (at_ + 4) bad) := by
  have HB := Aside0.mk hB
  have HR := Aside0.mk hR
  obtain ⟨h0, h1, h2, h3, h4, h5⟩ := hR
  have hlg := World.block_lt_of_cell? _ _ h1
  have hsz := hB.size
  clear hB
  have hd : decide ((n : Int) - (at_ : Int) < 4) = false := decide_eq_false (by omega)
  have hne : 0 < n := by omega
  have hr1 := Kd.C_below hr HB.out
  obtain ⟨ad, e, _⟩ := Kd.at_int hr1 (at_ : Int) (by omega) (by omega)
  subst e
  have hr2 := C_sub hr1 at_ 4 (by omega)
  have hln : ((l.drop at_).take 4).length = 4 := by rw [List.length_take, List.length_drop]; omega
  have HLN := Aside0.mk hln
  have HR2 := Aside0.mk (fun W' (hb : Below w.heap.size w W') => Kd.C_below hr2 hb)
  have HBY := Aside0.mk (show By ((l.drop at_).take 4) from fun y hy => hby y (List.mem_of_mem_drop (List.mem_of_mem_take hy)))
  have hnb : bv ((l.drop at_).take 4) < 256 ^ 4 := by have := bv_lt' _ HBY.out; rwa [hln] at this
  clear hr hr1 hr2 hln hby
  obtain ⟨N, hN⟩ : ∃ N : Nat, bv ((l.drop at_).take 4) = N := ⟨_, rfl⟩
  rw [hN] at hnb hbig ⊢
  have HN := Aside0.mk hN
  clear hN
  have hdd : decide (most < (N : Int)) = false := decide_eq_false (by omega)
  go_enter Tryd.func113, Tryd.ntmps113
  go_wp2_with (first
    | (go_at_call 112; (with_reducible refine (number_calls (some (ad.add at_)) 4 (c - at_) ((l.drop at_).take 4) HLN.out (by omega) _ (HR2.out _ (below_alloc (below_alloc (Below.refl _ _) _) _)) HBY.out).mono ?_); rw [HN.out]; rintro e w1 ⟨rfl, rfl⟩)
    | (go_at_call 109; go_in)
    | (go_at_call 125; go_in)
    | (go_at_call 114; go_in)
    | fail)
  first | go_end0 | refine bodyPost_ret (results_none rfl _ _ _) rfl ?_
  go_wp2
  exact bodyPost_ret (v := .int .i64 (N : Int)) (by simp [results, Tryd.results113, go_sem]) rfl ⟨rfl, (HR.out.setAt (at_ + 4)).below (below_alloc (below_alloc (Below.refl _ _) _) _), (below_alloc' (below_alloc' (HB.out.setCell hg _) (by simp [World.setCell]; omega) _) (by simp [World.setCell]; omega) _), (((kept_g w g 1 _).alloc _).alloc _)⟩
end Go.Proofs.YteapdhfeddgjbaaDoor.Wire
end
section
/- wire: the reader, step by step; its bytes; its end. -/
namespace Go.Proofs.YteapdhfeddgjbaaDoor.Wire
set_option linter.unusedVariables false
set_option linter.unusedSimpArgs false
open Go.RowKit Go.Proofs.YteapdhfeddgjbaaDoor.Num Go.Proofs.YteapdhfeddgjbaaDoor.PDj Go.Proofs.YteapdhfeddgjbaaDoorW Go.Proofs.YteapdhfeddgjbaaDoorW.PrintWords Go.Proofs.YteapdhfeddgjbaaDoorW.PrintLast Go.Proofs.YteapdhfeddgjbaaDoorW.PrintMore

/-- One number of so many bytes, up to a limit: what is told, the place, the fault. -/
def step (N : Nat) (lim : Int) (l : List Int) (at_ : Nat) (bad : Int) : Int × Nat × Int :=
  if 0 ≤ bad then (0, at_, bad) else if l.length < at_ + N then (0, at_, (at_ : Int)) else if lim < (bv ((l.drop at_).take N) : Int) then (0, at_, (at_ : Int)) else ((bv ((l.drop at_).take N) : Int), at_ + N, bad)
theorem step_bad {N : Nat} {lim : Int} {l : List Int} {at_ : Nat} {bad : Int} (h : 0 ≤ bad) : step N lim l at_ bad = (0, at_, bad) := by rw [step, if_pos h]
theorem step_short {N : Nat} {lim : Int} {l : List Int} {at_ : Nat} {bad : Int} (h : bad < 0) (hs : l.length < at_ + N) : step N lim l at_ bad = (0, at_, (at_ : Int)) := by rw [step, if_neg (by omega), if_pos hs]
theorem step_big {N : Nat} {lim : Int} {l : List Int} {at_ : Nat} {bad : Int} (h : bad < 0) (hs : at_ + N ≤ l.length) (hl : lim < (bv ((l.drop at_).take N) : Int)) : step N lim l at_ bad = (0, at_, (at_ : Int)) := by
  rw [step, if_neg (by omega), if_neg (by omega), if_pos hl]
theorem step_ok {N : Nat} {lim : Int} {l : List Int} {at_ : Nat} {bad : Int} (h : bad < 0) (hs : at_ + N ≤ l.length) (hl : (bv ((l.drop at_).take N) : Int) ≤ lim) : step N lim l at_ bad = ((bv ((l.drop at_).take N) : Int), at_ + N, bad) := by
  rw [step, if_neg (by omega), if_neg (by omega), if_neg (by omega)]
theorem step_at {N : Nat} {lim : Int} {l : List Int} {at_ : Nat} {bad : Int} (h : at_ ≤ l.length) : (step N lim l at_ bad).2.1 ≤ l.length := by
  unfold step
  split
  · exact h
  · split
    · exact h
    · split
      · exact h
      · show at_ + N ≤ l.length
        omega
theorem bv_one (l : List Int) (i : Nat) (h : i < l.length) (hb : By l) : (bv ((l.drop i).take 1) : Int) = rd l (i : Int) := by
  rw [drop_rd l i h, List.take_succ_cons, List.take_zero]
  have := hb.rd (i : Int)
  show ((256 * 0 + (rd l (i : Int)).toNat : Nat) : Int) = _
  omega
theorem byte_step (g : Nat) (A : Option Addr) (n c at_ : Nat) (bad : Int) (hn : n ≤ 1000000000) (hc : n ≤ c) (ha : at_ ≤ n) (l : List Int) (hl : l.length = n) (hby : By l) (w0 w : World) (hr : Kd.C (Kd.int .u8) w0 A l.length l) (hB : Below w0.heap.size w0 w) (hg : w0.heap.size ≤ g) (hR : IsR w g A n c at_ bad) :
    Calls Tryd.prog 84 #[.pointer (some ⟨g, 0, none⟩)] w (Told w0 w g A n c (.int .u8 (step 1 255 l at_ bad).1) (step 1 255 l at_ bad).2.1 (step 1 255 l at_ bad).2.2) := by
  by_cases hb : 0 ≤ bad
  · rw [step_bad hb]; exact byte_bad g A n c at_ bad hb w0 w hB hg hR
  · by_cases hs : n < at_ + 1
    · rw [step_short (by omega) (by omega)]; exact byte_short g A n c at_ bad (by omega) hs hn ha w0 w hB hg hR
    · have h1 := bv_one l at_ (by omega) hby
      have h2 := hby.rd (at_ : Int)
      rw [step_ok (by omega) (by omega) (by omega), h1]
      exact byte_ok g A n c at_ bad (by omega) (by omega) hn hc l hl w0 w hr hB hg hR
theorem int_step (g : Nat) (A : Option Addr) (n c at_ : Nat) (bad : Int) (hn : n ≤ 1000000000) (hc : n ≤ c) (ha : at_ ≤ n) (l : List Int) (hl : l.length = n) (hby : By l) (w0 w : World) (hr : Kd.C (Kd.int .u8) w0 A l.length l) (hB : Below w0.heap.size w0 w) (hg : w0.heap.size ≤ g) (hR : IsR w g A n c at_ bad) :
    Calls Tryd.prog 85 #[.pointer (some ⟨g, 0, none⟩)] w (Told w0 w g A n c (.int .i64 (step 8 9223372036854775807 l at_ bad).1) (step 8 9223372036854775807 l at_ bad).2.1 (step 8 9223372036854775807 l at_ bad).2.2) := by
  by_cases hb : 0 ≤ bad
  · rw [step_bad hb]; exact int_bad g A n c at_ bad hb w0 w hB hg hR
  · by_cases hs : n < at_ + 8
    · rw [step_short (by omega) (by omega)]; exact int_short g A n c at_ bad (by omega) hs hn ha w0 w hB hg hR
    · by_cases hv : 9223372036854775807 < bv ((l.drop at_).take 8)
      · rw [step_big (by omega) (by omega) (by omega)]; exact int_big g A n c at_ bad (by omega) (by omega) hn hc l hl hby hv w0 w hr hB hg hR
      · rw [step_ok (by omega) (by omega) (by omega)]; exact int_ok g A n c at_ bad (by omega) (by omega) hn hc l hl hby (by omega) w0 w hr hB hg hR
theorem count_step (g : Nat) (A : Option Addr) (n c at_ : Nat) (bad most : Int) (hn : n ≤ 1000000000) (hc : n ≤ c) (ha : at_ ≤ n) (l : List Int) (hl : l.length = n) (hby : By l) (w0 w : World) (hr : Kd.C (Kd.int .u8) w0 A l.length l) (hB : Below w0.heap.size w0 w) (hg : w0.heap.size ≤ g) (hR : IsR w g A n c at_ bad) :
    Calls Tryd.prog 113 #[.pointer (some ⟨g, 0, none⟩), .int .i64 most] w (Told w0 w g A n c (.int .i64 (step 4 most l at_ bad).1) (step 4 most l at_ bad).2.1 (step 4 most l at_ bad).2.2) := by
  by_cases hb : 0 ≤ bad
  · rw [step_bad hb]; exact rcount_bad g A n c at_ bad most hb w0 w hB hg hR
  · by_cases hs : n < at_ + 4
    · rw [step_short (by omega) (by omega)]; exact rcount_short g A n c at_ bad most (by omega) hs hn ha w0 w hB hg hR
    · by_cases hv : most < (bv ((l.drop at_).take 4) : Int)
      · rw [step_big (by omega) (by omega) hv]; exact rcount_big g A n c at_ bad most (by omega) (by omega) hn hc l hl hby hv w0 w hr hB hg hR
      · rw [step_ok (by omega) (by omega) (by omega)]; exact rcount_ok g A n c at_ bad most (by omega) (by omega) hn hc l hl hby (by omega) w0 w hr hB hg hR
set_option maxHeartbeats 1600000 in
set_option maxRecDepth 100000 in
theorem read_calls (v : Value) (A : Option Addr) (n c : Nat) (w0 w : World) (hB : Below w0.heap.size w0 w) :
    Calls Tryd.prog 83 #[.slice A n c] w fun e w' => e = .returned (.pointer (some ⟨w.heap.size, 0, none⟩)) ∧ IsR w' w.heap.size A n c 0 (-1) ∧ Below w0.heap.size w0 w' ∧ Below w.heap.size w w' := by
  have HB := Aside0.mk hB
  clear hB
  go_enter Tryd.func83, Tryd.ntmps83
  go_wp2
  go_ret
  exact ⟨rfl, ⟨by go_simp, by go_simp, by go_simp, by go_simp, by go_simp, by go_simp⟩, below_alloc HB.out _, below_alloc (Below.refl _ _) _⟩
/-- How a reader ends. -/
def fin (n at_ : Nat) (bad : Int) : Int × Int := if 0 ≤ bad then (bad, 20) else if at_ < n then ((at_ : Int), 20) else (0, 0)
set_option maxHeartbeats 1600000 in
set_option maxRecDepth 100000 in
theorem done_calls (g : Nat) (A : Option Addr) (n c at_ : Nat) (bad : Int) (w : World) (hR : IsR w g A n c at_ bad) :
    Calls Tryd.prog 87 #[.pointer (some ⟨g, 0, none⟩)] w fun e w' => e = .returned (.tuple #[.int .i64 (fin n at_ bad).1, .int .i64 (fin n at_ bad).2]) ∧ Drawn0 w w' := by
  obtain ⟨h0, h1, h2, h3, h4, h5⟩ := hR
  by_cases hb : 0 ≤ bad
  · rw [fin, if_pos hb]
    have hd : decide (0 ≤ bad) = true := decide_eq_true hb
    go_enter Tryd.func87, Tryd.ntmps87
    go_wp2
    go_ret2
    exact ⟨rfl, Drawn0.refl _⟩
  · have hd : decide (0 ≤ bad) = false := decide_eq_false hb
    by_cases ha : at_ < n
    · rw [fin, if_neg hb, if_pos ha]
      have hd2 : decide ((at_ : Int) < (n : Int)) = true := decide_eq_true (by omega)
      clear hb
      go_enter Tryd.func87, Tryd.ntmps87
      go_wp2
      go_quiet (fail)
      go_wp2
      go_ret2
      exact ⟨rfl, ⟨⟨_, rfl⟩⟩⟩
    · rw [fin, if_neg hb, if_neg ha]
      have hd2 : decide ((at_ : Int) < (n : Int)) = false := decide_eq_false (by omega)
      clear hb
      go_enter Tryd.func87, Tryd.ntmps87
      go_wp2
      go_quiet (fail)
      go_wp2
      go_ret2
      exact ⟨rfl, ⟨⟨_, rfl⟩⟩⟩
/-- A number of bytes, and they. -/
def bstep (least most : Int) (l : List Int) (at_ : Nat) (bad : Int) : List Int × Nat × Int :=
  if 0 ≤ (step 4 most l at_ bad).2.2 then ([], (step 4 most l at_ bad).2.1, (step 4 most l at_ bad).2.2)
  else if (step 4 most l at_ bad).1 < least ∨ (l.length : Int) - ((step 4 most l at_ bad).2.1 : Int) < (step 4 most l at_ bad).1 then ([], at_, (at_ : Int))
  else ((l.drop (step 4 most l at_ bad).2.1).take (step 4 most l at_ bad).1.toNat, (step 4 most l at_ bad).2.1 + (step 4 most l at_ bad).1.toNat, (step 4 most l at_ bad).2.2)
/-- Behind a reader's call that tells bytes. -/
def ToldB (w0 w : World) (g : Nat) (A : Option Addr) (n c : Nat) (r : List Int × Nat × Int) (e : Ending) (w' : World) : Prop :=
  ∃ B d, e = .returned (.slice B r.1.length d) ∧ (r.1.length ≤ d ∧ NewB w0.heap.size B) ∧ Kd.C (Kd.int .u8) w' B r.1.length r.1 ∧ IsR w' g A n c r.2.1 r.2.2 ∧ Below w0.heap.size w0 w' ∧ Kept w w' (fun k => k = g)
theorem ToldB.nil {w0 w w' : World} {g : Nat} {A : Option Addr} {n c at_ : Nat} {bad : Int} (h1 : IsR w' g A n c at_ bad) (h2 : Below w0.heap.size w0 w') (h3 : Kept w w' (fun k => k = g)) : ToldB w0 w g A n c ([], at_, bad) (.returned (.slice none 0 0)) w' :=
  ⟨none, 0, rfl, ⟨Nat.le_refl _, fun _ h => by cases h⟩, Kd.C_nil _ _, h1, h2, h3⟩
theorem step_at' {N : Nat} {lim : Int} {l : List Int} {at_ : Nat} {bad : Int} (h : (step N lim l at_ bad).2.2 < 0) : at_ + N ≤ l.length ∧ (step N lim l at_ bad).2.1 = at_ + N ∧ 0 ≤ (step N lim l at_ bad).1 ∧ (step N lim l at_ bad).1 = (bv ((l.drop at_).take N) : Int) ∧ bad < 0 ∧ (step N lim l at_ bad).2.2 = bad := by
  unfold step at h ⊢
  split at h
  · simp at h; omega
  · split at h
    · simp at h; omega
    · split at h
      · simp at h; omega
      · rename_i h1 h2 h3
        rw [if_neg h1, if_neg h2, if_neg h3]
        simp
        omega
end Go.Proofs.YteapdhfeddgjbaaDoor.Wire
end
section
/- wire: a number of bytes that is read. -/
namespace Go.Proofs.YteapdhfeddgjbaaDoor.Wire
set_option linter.unusedVariables false
set_option linter.unusedSimpArgs false
open Go.RowKit Go.Proofs.YteapdhfeddgjbaaDoor.Num Go.Proofs.YteapdhfeddgjbaaDoor.PDj Go.Proofs.YteapdhfeddgjbaaDoorW Go.Proofs.YteapdhfeddgjbaaDoorW.PrintWords Go.Proofs.YteapdhfeddgjbaaDoorW.PrintLast Go.Proofs.YteapdhfeddgjbaaDoorW.PrintMore
theorem C_move {k : IntKind} {W W' : World} {A : Option Addr} {l : List Int} (h : Kd.C (Kd.int k) W A l.length l) (hm : ∀ a v, W.cell? a = some (.int k v) → W'.cell? a = some (.int k v)) : Kd.C (Kd.int k) W' A l.length l := by
  have h' : ReadsOf (Value.int k) (0 : Int) W A l.length l := Kd.reads_of_C (h1 := fun _ => rfl) h
  refine Kd.C_of_reads (enc := Value.int k) (d := (0 : Int)) (h1 := fun _ => rfl) ⟨h'.1, h'.2.1, fun hp => ?_⟩
  obtain ⟨ad, e, hc⟩ := h'.2.2 hp
  exact ⟨ad, e, fun j hj => hm _ _ (hc j hj)⟩
theorem C_set {k : IntKind} {W : World} {A : Option Addr} {l : List Int} (h : Kd.C (Kd.int k) W A l.length l) {p : Addr} {v : Value} (hp : W.cell? p = some v) (hv : ∀ x, v ≠ .int k x) (u : Value) : Kd.C (Kd.int k) (W.setCell p u) A l.length l := by
  refine C_move h fun a x hx => ?_
  by_cases e : p = a
  · subst e; rw [hp] at hx; exact absurd (Option.some.inj hx) (hv x)
  · rw [World.cell?_setCell_other (h := e)]; exact hx
set_option maxHeartbeats 3200000 in
set_option maxRecDepth 100000 in
theorem rbytes_step (g : Nat) (A : Option Addr) (n c at_ : Nat) (bad least most : Int) (hlm : -9223372036854775808 ≤ least) (hn : n ≤ 10000000) (hc : n ≤ c) (ha : at_ ≤ n) (l : List Int) (hl : l.length = n) (hby : By l) (w0 w : World) (hr : Kd.C (Kd.int .u8) w0 A l.length l) (hB : Below w0.heap.size w0 w) (hg : w0.heap.size ≤ g) (hR : IsR w g A n c at_ bad) :
    Calls Tryd.prog 86 #[.pointer (some ⟨g, 0, none⟩), .int .i64 least, .int .i64 most] w (ToldB w0 w g A n c (bstep least most l at_ bad)) := by
  have HC := Aside0.mk (count_step g A n c at_ bad most (by omega) hc ha l hl hby w0 w hr hB hg hR)
  obtain ⟨v, hv⟩ : ∃ v, (step 4 most l at_ bad).1 = v := ⟨_, rfl⟩
  obtain ⟨at2, hat2⟩ : ∃ v, (step 4 most l at_ bad).2.1 = v := ⟨_, rfl⟩
  obtain ⟨bad2, hbad2⟩ : ∃ v, (step 4 most l at_ bad).2.2 = v := ⟨_, rfl⟩
  have hok := fun h : (step 4 most l at_ bad).2.2 < 0 => step_at' h
  unfold bstep
  rw [hv, hat2, hbad2] at HC hok ⊢
  obtain ⟨h0, h1, h2, h3, h4, h5⟩ := hR
  have HL := Aside0.mk hl
  have HR := Aside0.mk hr
  have HBY := Aside0.mk hby
  have HOK := Aside0.mk hok
  clear hv hat2 hbad2 hl hr hby hB hok
  by_cases hb : 0 ≤ bad2
  · rw [if_pos hb]
    have hd : decide (0 ≤ bad2) = true := decide_eq_true hb
    go_enter Tryd.func86, Tryd.ntmps86
    go_wp2_with (first
      | (go_at_call 113; (with_reducible refine HC.out.mono ?_); rintro e w1 ⟨rfl, hI, hB1, hK1⟩; have HI := Aside0.mk hI; have HB1 := Aside0.mk hB1; have HK1 := Aside0.mk hK1; obtain ⟨k0, k1, k2, k3, k4, k5⟩ := hI; clear hB1 hK1)
      | fail)
    go_ret
    exact ToldB.nil HI.out HB1.out HK1.out
  · rw [if_neg hb]
    have hd : decide (0 ≤ bad2) = false := decide_eq_false hb
    obtain ⟨g1, g2, g3, -, g5, g6⟩ := HOK.out (by omega)
    subst g6
    have hn' := HL.out
    rw [hn'] at g1 ⊢
    have HG2 := Aside0.mk g2
    have g7 : at2 ≤ n := by omega
    clear hn' hb g2
    by_cases hf : v < least ∨ (n : Int) - (at2 : Int) < v
    · rw [if_pos hf]
      by_cases hd1 : v < least
      · have hd1' : decide (v < least) = true := decide_eq_true hd1
        clear hf hd1
        go_enter Tryd.func86, Tryd.ntmps86
        go_wp2_with (first | (go_at_call 113; (with_reducible refine HC.out.mono ?_); rintro e w1 ⟨rfl, hI, hB1, hK1⟩; have HI := Aside0.mk hI; have HB1 := Aside0.mk hB1; have HK1 := Aside0.mk hK1; obtain ⟨k0, k1, k2, k3, k4, k5⟩ := hI; clear hB1 hK1) | fail)
        go_quiet (fail)
        go_wp2
        first | go_end0 | refine bodyPost_ret (results_none rfl _ _ _) rfl ?_
        go_wp2
        go_ret
        exact ToldB.nil (((HI.out.below (pw_below_drewN (Below.refl _ _) _)).setAt at_).setBad _) (Below.setCell (Below.setCell (pw_below_drewN HB1.out _) hg _) hg _) (((HK1.out.drewN _).setCell (.inl rfl) _).setCell (.inl rfl) _)
      · have hd1' : decide (v < least) = false := decide_eq_false hd1
        have hd2' : decide ((n : Int) - (at2 : Int) < v) = true := decide_eq_true (by omega)
        clear hf hd1
        go_enter Tryd.func86, Tryd.ntmps86
        go_wp2_with (first | (go_at_call 113; (with_reducible refine HC.out.mono ?_); rintro e w1 ⟨rfl, hI, hB1, hK1⟩; have HI := Aside0.mk hI; have HB1 := Aside0.mk hB1; have HK1 := Aside0.mk hK1; obtain ⟨k0, k1, k2, k3, k4, k5⟩ := hI; clear hB1 hK1) | fail)
        go_quiet (fail)
        go_wp2
        first | go_end0 | refine bodyPost_ret (results_none rfl _ _ _) rfl ?_
        go_wp2
        go_ret
        exact ToldB.nil (((HI.out.below (pw_below_drewN (Below.refl _ _) _)).setAt at_).setBad _) (Below.setCell (Below.setCell (pw_below_drewN HB1.out _) hg _) hg _) (((HK1.out.drewN _).setCell (.inl rfl) _).setCell (.inl rfl) _)
    · rw [if_neg hf]
      have hd1 : decide (v < least) = false := decide_eq_false (by omega)
      have hd2 : decide ((n : Int) - (at2 : Int) < v) = false := decide_eq_false (by omega)
      obtain ⟨m, rfl⟩ : ∃ m : Nat, v = (m : Int) := ⟨v.toNat, by omega⟩
      have hsum : at2 + m ≤ n := by omega
      clear hf
      have hwm : IntKind.i64.wrap ((at2 : Int) + (m : Int)) = ((at2 + m : Nat) : Int) := by rw [IntWalk.i64_in _ (by omega)]; omega
      have hlm : ((l.drop at2).take m).length = m := by have := HL.out; rw [List.length_take, List.length_drop]; omega
      have hall := Kd.at_int HR.out 0 (by omega) (by have := HL.out; omega)
      obtain ⟨ad, e, -⟩ := hall
      subst e
      have HSL : Aside0 (∃ A2 : Option Addr, A2 = (if c = at2 then some ad else some (ad.add at2)) ∧ Kd.C (Kd.int .u8) w0 A2 ((l.drop at2).take m).length ((l.drop at2).take m)) := by
        refine ⟨_, rfl, ?_⟩
        split
        · have h0 := C_sub HR.out 0 0 (Nat.zero_le _)
          have hm : m = 0 := by omega
          subst hm
          simpa [Addr.add] using h0
        · exact C_sub HR.out at2 m (by have := HL.out; omega)
      have HLM := Aside0.mk hlm
      clear hlm
      have HCL : Aside0 (∀ W', Below w0.heap.size w0 W' → Calls Tryd.prog 49 #[.slice (if c = at2 then some ad else some (ad.add at2)) m (c - at2)] W' (Copy2 W' ((l.drop at2).take m))) := ⟨fun W' hb => by
        obtain ⟨A2, e, h2⟩ := HSL.out
        subst e
        exact clone_calls2 _ m (c - at2) ((l.drop at2).take m) HLM.out (by omega) W' (Kd.C_below h2 hb)⟩
      rw [Int.toNat_natCast]
      obtain ⟨L, hL⟩ : ∃ L, (l.drop at2).take m = L := ⟨_, rfl⟩
      rw [hL] at HSL HLM HCL ⊢
      have HLL := Aside0.mk hL
      clear hL
      by_cases hcl : c = at2
      · rw [if_pos hcl, show m = 0 from by omega, show c - at2 = 0 from by omega] at HCL
        go_enter Tryd.func86, Tryd.ntmps86
        go_wp2_with (first | (go_at_call 113; (with_reducible refine HC.out.mono ?_); rintro e w1 ⟨rfl, hI, hB1, hK1⟩; have HI := Aside0.mk hI; have HB1 := Aside0.mk hB1; have HK1 := Aside0.mk hK1; obtain ⟨k0, k1, k2, k3, k4, k5⟩ := hI; clear hB1 hK1) | fail)
        go_quiet (fail)
        go_wp2
        go_region_with (go_at_call 49; (with_reducible refine (HCL.out _ (pw_below_drewN HB1.out _)).mono ?_); rintro e w2 ⟨B, d, rfl, p1, p2, p3⟩; rw [HLM.out]; have HP1 := Aside0.mk (⟨p1.1, fun ad e => Nat.le_trans HB1.out.size (p1.2 ad e)⟩ : _ ∧ NewB w0.heap.size B); have HP2 := Aside0.mk p2; have HI2 := Aside0.mk ((HI.out.below (pw_below_drewN (Below.refl _ _) _)).below p3); have HB2 := Aside0.mk (below_then (pw_below_drewN HB1.out _) HB1.out.size p3); have HK2 := Aside0.mk ((HK1.out.drewN _).below p3); obtain ⟨l0, l1, l2, l3, l4, l5⟩ := HI2.out; clear p1 p2 p3)
        all_goals
          refine (‹∀ (a : Act) (w_1 : World), Code.wp _ _ _ a w_1 → _› _ _ ?_)
          go_wp2
        all_goals go_ret
        all_goals exact ⟨B, d, congrArg (fun k => Ending.returned (.slice B k d)) HLM.out.symm, HP1.out, C_set HP2.out l1 (fun x => by simp) _, HI2.out.setAt _, HB2.out.setCell hg _, HK2.out.setCell (.inl rfl) _⟩
      · rw [if_neg hcl] at HCL
        go_enter Tryd.func86, Tryd.ntmps86
        go_wp2_with (first | (go_at_call 113; (with_reducible refine HC.out.mono ?_); rintro e w1 ⟨rfl, hI, hB1, hK1⟩; have HI := Aside0.mk hI; have HB1 := Aside0.mk hB1; have HK1 := Aside0.mk hK1; obtain ⟨k0, k1, k2, k3, k4, k5⟩ := hI; clear hB1 hK1) | fail)
        go_quiet (fail)
        go_wp2
        go_region_with (go_at_call 49; (with_reducible refine (HCL.out _ (pw_below_drewN HB1.out _)).mono ?_); rintro e w2 ⟨B, d, rfl, p1, p2, p3⟩; rw [HLM.out]; have HP1 := Aside0.mk (⟨p1.1, fun ad e => Nat.le_trans HB1.out.size (p1.2 ad e)⟩ : _ ∧ NewB w0.heap.size B); have HP2 := Aside0.mk p2; have HI2 := Aside0.mk ((HI.out.below (pw_below_drewN (Below.refl _ _) _)).below p3); have HB2 := Aside0.mk (below_then (pw_below_drewN HB1.out _) HB1.out.size p3); have HK2 := Aside0.mk ((HK1.out.drewN _).below p3); obtain ⟨l0, l1, l2, l3, l4, l5⟩ := HI2.out; clear p1 p2 p3)
        all_goals
          refine (‹∀ (a : Act) (w_1 : World), Code.wp _ _ _ a w_1 → _› _ _ ?_)
          go_wp2
        all_goals go_ret
        all_goals exact ⟨B, d, congrArg (fun k => Ending.returned (.slice B k d)) HLM.out.symm, HP1.out, C_set HP2.out l1 (fun x => by simp) _, HI2.out.setAt _, HB2.out.setCell hg _, HK2.out.setCell (.inl rfl) _⟩
end Go.Proofs.YteapdhfeddgjbaaDoor.Wire
end
section
/- wire: the document's reader, step by step. -/
namespace Go.Proofs.YteapdhfeddgjbaaDoor.Wire
set_option linter.unusedVariables false
set_option linter.unusedSimpArgs false
open Go.RowKit Go.Proofs.YteapdhfeddgjbaaDoor.Num Go.Proofs.YteapdhfeddgjbaaDoor.PDj Go.Proofs.YteapdhfeddgjbaaDoorW Go.Proofs.YteapdhfeddgjbaaDoorW.PrintWords Go.Proofs.YteapdhfeddgjbaaDoorW.PrintLast Go.Proofs.YteapdhfeddgjbaaDoorW.PrintMore

/-- The document's reader: its block g holds the bytes, the place, where there was a fault. -/
def IsQ (W : World) (g : Nat) (A : Option Addr) (n c : Nat) (at_ : Nat) (bad : Int) : Prop :=
  W.cell? ⟨g, 0, none⟩ = some (.slice A n c) ∧ W.cell? ⟨g, 1, none⟩ = some (.int .i64 (at_ : Int)) ∧ W.cell? ⟨g, 2, none⟩ = some (.int .i64 bad) ∧
  W.frozen? ⟨g, 1, none⟩ = false ∧ W.frozen? ⟨g, 2, none⟩ = false
theorem IsQ.below {W W2 : World} {g : Nat} {A : Option Addr} {n c at_ : Nat} {bad : Int} (h : IsQ W g A n c at_ bad) (hb : Below W.heap.size W W2) : IsQ W2 g A n c at_ bad := by
  obtain ⟨h0, h1, h2, h4, h5⟩ := h
  have hl := World.block_lt_of_cell? _ _ h1
  exact ⟨pw_cell_below hb h0, pw_cell_below hb h1, pw_cell_below hb h2, (hb.frozen (p := ⟨g, 1, none⟩) hl).trans h4, (hb.frozen (p := ⟨g, 2, none⟩) hl).trans h5⟩
theorem IsQ.setBad {W : World} {g : Nat} {A : Option Addr} {n c at_ : Nat} {bad : Int} (h : IsQ W g A n c at_ bad) (x : Int) : IsQ (W.setCell ⟨g, 2, none⟩ (.int .i64 x)) g A n c at_ x := by
  obtain ⟨h0, h1, h2, h4, h5⟩ := h
  exact ⟨by go_simp, by go_simp, by go_simp, by go_simp, by go_simp⟩
theorem IsQ.setAt {W : World} {g : Nat} {A : Option Addr} {n c at_ : Nat} {bad : Int} (h : IsQ W g A n c at_ bad) (x : Nat) : IsQ (W.setCell ⟨g, 1, none⟩ (.int .i64 (x : Int))) g A n c x bad := by
  obtain ⟨h0, h1, h2, h4, h5⟩ := h
  exact ⟨by go_simp, by go_simp, by go_simp, by go_simp, by go_simp⟩
def QTold (w0 w : World) (g : Nat) (A : Option Addr) (n c : Nat) (v : Value) (at_ : Nat) (bad : Int) (e : Ending) (w' : World) : Prop :=
  e = .returned v ∧ IsQ w' g A n c at_ bad ∧ Below w0.heap.size w0 w' ∧ Kept w w' (fun k => k = g)
theorem qbig_calls (A : Option Addr) (n c : Nat) (l : List Int) (hn : l.length = n) (hc : n ≤ c) (hb : By l) (hl : n ≤ 100000) (w : World) (hr : Kd.C (Kd.int .u8) w A l.length l) :
    Calls Tryd.prog 124 #[.slice A n c] w fun e w' => ∃ B d, e = .returned (.slice B (dg (bv l)).length d) ∧ (dg (bv l)).length ≤ d ∧ Kd.C (Kd.int .i64) w' B (dg (bv l)).length (dg (bv l)) ∧ Below w.heap.size w w' := by
  subst hn
  obtain ⟨K, hK⟩ := big_ev l hb hl
  refine (cleromancyref01_Big.calls K A c l _ w hr hc (hK K (Nat.le_refl _))).mono ?_
  rintro e w' ⟨v, rfl, h1, h2⟩
  obtain ⟨B, d, e2, h3, h4⟩ := Kd.R_reads h1
  exact ⟨B, d, by rw [e2], h3, h4, h2⟩
theorem qcmp_calls (A : Option Addr) (c : Nat) (m : Nat) (hc : (dg m).length ≤ c) (B : Option Addr) (d : Nat) (k : Nat) (hd : (dg k).length ≤ d) (hm : (dg m).length ≤ 1000000) (w : World) (hr : Kd.C (Kd.int .i64) w A (dg m).length (dg m)) (hs : Kd.C (Kd.int .i64) w B (dg k).length (dg k)) :
    Calls Tryd.prog 123 #[.slice A (dg m).length c, .slice B (dg k).length d] w fun e w' => e = .returned (.int .i64 (cmp m k)) ∧ Drawn0 w w' := by
  obtain ⟨K, hK⟩ := cmp_ev m k hm
  exact cleromancyref01_Cmp.calls K A c (dg m) B d (dg k) _ w hr hc hs hd (hK K (Nat.le_refl _))
set_option maxHeartbeats 1600000 in
set_option maxRecDepth 100000 in
theorem qnum_bad (g : Nat) (A : Option Addr) (n c at_ : Nat) (bad : Int) (N : Int) (S : Value) (hbad : 0 ≤ bad) (w0 w : World) (hB : Below w0.heap.size w0 w) (hR : IsQ w g A n c at_ bad) :
    Calls Tryd.prog 102 #[.pointer (some ⟨g, 0, none⟩), .int .i64 N, S] w (QTold w0 w g A n c (.int .i64 (-1)) at_ bad) := by
  have HB := Aside0.mk hB
  have HR := Aside0.mk hR
  obtain ⟨h0, h1, h2, h4, h5⟩ := hR
  clear hB
  have hd : decide (0 ≤ bad) = true := decide_eq_true hbad
  go_enter Tryd.func102, Tryd.ntmps102
  go_wp2
  go_ret
  exact ⟨rfl, HR.out, HB.out, Kept.refl _ _⟩
set_option maxHeartbeats 1600000 in
set_option maxRecDepth 100000 in
theorem qnum_short (g : Nat) (A : Option Addr) (n c at_ : Nat) (bad : Int) (N : Nat) (S : Value) (hN : N ≤ 8) (hbad : bad < 0) (hs : n < at_ + N) (hn : n ≤ 10000000) (ha : at_ ≤ n) (w0 w : World) (hB : Below w0.heap.size w0 w) (hg : w0.heap.size ≤ g) (hR : IsQ w g A n c at_ bad) :
    Calls Tryd.prog 102 #[.pointer (some ⟨g, 0, none⟩), .int .i64 N, S] w (QTold w0 w g A n c (.int .i64 (-1)) at_ at_) := by
  have HB := Aside0.mk hB
  have HR := Aside0.mk hR
  obtain ⟨h0, h1, h2, h4, h5⟩ := hR
  clear hB
  have hd : decide (0 ≤ bad) = false := decide_eq_false (by omega)
  have hd2 : decide ((n : Int) - (at_ : Int) < (N : Int)) = true := decide_eq_true (by omega)
  go_enter Tryd.func102, Tryd.ntmps102
  go_wp2
  go_quiet (fail)
  go_wp2
  go_ret
  exact ⟨rfl, (HR.out.below (pw_below_drewN (Below.refl _ _) _)).setBad _, Below.setCell (pw_below_drewN HB.out _) hg _, (((Kept.refl w (fun k => k = g)).drewN _).setCell (p := ⟨g, 2, none⟩) (.inl rfl) _)⟩
theorem bv_mono (l : List Int) : ∀ r i, i + r ≤ l.length → bv (l.take i) ≤ bv (l.take (i + r))
  | 0, i, h => Nat.le_refl _
  | r + 1, i, h => by
    have ih := bv_mono l r i (by omega)
    have := bv_take l (i + r) (by omega)
    rw [show i + (r + 1) = i + r + 1 from by omega, this]
    omega
theorem rd_drop (l : List Int) (a i : Nat) : rd (l.drop a) (i : Int) = rd l ((a + i : Nat) : Int) := by
  unfold rd
  rw [Int.toNat_natCast, Int.toNat_natCast, List.getD_eq_getElem?_getD, List.getD_eq_getElem?_getD, List.getElem?_drop]
theorem bv64 (l : List Int) (a N : Nat) (hN : N ≤ 8) (h : By l) (hl : a + N ≤ l.length) : bv ((l.drop a).take N) < 18446744073709551616 := by
  have h2 := bv_lt' ((l.drop a).take N) (fun x hx => h x (List.mem_of_mem_drop (List.mem_of_mem_take hx)))
  have hlen : ((l.drop a).take N).length = N := by rw [List.length_take, List.length_drop]; omega
  rw [hlen] at h2
  have : (256 : Nat) ^ N ≤ 256 ^ 8 := Nat.pow_le_pow_right (by omega) hN
  omega
theorem cmp_gt (m k : Nat) : decide (0 < cmp m k) = decide (k < m) := by
  unfold cmp
  split
  · rw [decide_eq_false (by omega), decide_eq_false (by omega)]
  · split
    · rw [decide_eq_true (by omega), decide_eq_true (by omega)]
    · rw [decide_eq_false (by omega), decide_eq_false (by omega)]
set_option maxHeartbeats 6400000 in
set_option maxRecDepth 100000 in
theorem qnum_big (g : Nat) (A : Option Addr) (n c at_ : Nat) (bad : Int) (N : Nat) (B : Option Addr) (d m : Nat) (hN : N ≤ 8) (hN1 : 1 ≤ N) (hbad : bad < 0) (hs : at_ + N ≤ n) (hn : n ≤ 10000000) (hc : n ≤ c) (l : List Int) (hl : l.length = n) (hby : By l) (hbig : m < bv ((l.drop at_).take N))
    (hd : (dg m).length ≤ d) (w0 w : World) (hr : Kd.C (Kd.int .u8) w A l.length l) (hm : Kd.C (Kd.int .i64) w B (dg m).length (dg m)) (hB : Below w0.heap.size w0 w) (hg : w0.heap.size ≤ g) (hR : IsQ w g A n c at_ bad) :
    Calls Tryd.prog 102 #[.pointer (some ⟨g, 0, none⟩), .int .i64 N, .slice B (dg m).length d] w (QTold w0 w g A n c (.int .i64 (-1)) at_ at_) := by
  obtain ⟨ad, e, -⟩ := Kd.at_int hr 0 (by omega) (by omega)
  subst e
  have hsub := C_sub hr at_ N (by omega)
  have hlen : ((l.drop at_).take N).length = N := by rw [List.length_take, List.length_drop]; omega
  have HBG := Aside0.mk (fun W' (hb : Below w.heap.size w W') => qbig_calls (some (ad.add at_)) N (c - at_) ((l.drop at_).take N) hlen (by omega) (fun x hx => hby x (List.mem_of_mem_drop (List.mem_of_mem_take hx))) (by omega) W' (Kd.C_below hsub hb))
  have hb64 := bv64 l at_ N hN hby (by omega)
  obtain ⟨b, hbv⟩ : ∃ b, bv ((l.drop at_).take N) = b := ⟨_, rfl⟩
  rw [hbv] at HBG hbig hb64
  have hcm : decide (0 < cmp b m) = true := by rw [cmp_gt]; exact decide_eq_true hbig
  have HLB : Aside0 ((dg b).length ≤ 1000000) := ⟨by have := dg_len_le b 3 (by omega); omega⟩
  obtain ⟨cm, hcme⟩ : ∃ x, cmp b m = x := ⟨_, rfl⟩
  have HCM := Aside0.mk (fun (C : Option Addr) (q : Nat) (hq : (dg b).length ≤ q) (W' : World) (hb : Below w.heap.size w W') (hC : Kd.C (Kd.int .i64) W' C (dg b).length (dg b)) => qcmp_calls C q b hq B d m hd HLB.out W' hC (Kd.C_below hm hb))
  rw [hcme] at HCM hcm
  have HB := Aside0.mk hB
  have HR := Aside0.mk hR
  have HM := Aside0.mk hm
  obtain ⟨h0, h1, h2, h4, h5⟩ := hR
  obtain ⟨Lm, hLm⟩ : ∃ x, (dg m).length = x := ⟨_, rfl⟩
  obtain ⟨Lb, hLb⟩ : ∃ x, (dg b).length = x := ⟨_, rfl⟩
  rw [hLm] at HCM hd ⊢
  rw [hLb] at HCM HBG
  have hwm : IntKind.i64.wrap ((at_ : Int) + (N : Int)) = ((at_ + N : Nat) : Int) := by rw [IntWalk.i64_in _ (by omega)]; omega
  have hwq : IntKind.i64.wrap ((n : Int) - (at_ : Int)) = (n : Int) - (at_ : Int) := IntWalk.i64_in _ (by omega)
  have hcl : ¬ c = at_ := by omega
  have hsl1 : (0 : Int) ≤ (at_ : Int) + (N : Int) := by omega
  have hsl2 : (at_ : Int) + (N : Int) ≤ (c : Int) := by omega
  have hsl3 : ((at_ : Int) + (N : Int)).toNat = at_ + N := by omega
  have hsl4 : at_ ≤ at_ + N := by omega
  have hsl5 : at_ + N - at_ = N := by omega
  clear hB hm hbv hbig hcme hLm hLb hr hl hby hsub hlen
  have hd1 : decide (0 ≤ bad) = false := decide_eq_false (by omega)
  have hd2 : decide ((n : Int) - (at_ : Int) < (N : Int)) = false := decide_eq_false (by omega)
  go_enter Tryd.func102, Tryd.ntmps102
  go_wp2
  go_region_held3 (fun w' => w'.cell? ⟨g, 0, none⟩ = some (.slice (some ad) n c) ∧ w'.cell? ⟨g, 1, none⟩ = some (.int .i64 (at_ : Int))) (first | exact ⟨h0, h1⟩ | exact ⟨j0, j1⟩ | exact ⟨k0, k1⟩) (first
    | (go_at_call 124; (first | (with_reducible refine (HBG.out _ ((Below.refl _ _).drew)).mono ?_) | (with_reducible refine (HBG.out _ (pw_below_drewN (Below.refl _ _) _)).mono ?_)); rintro e w1 ⟨C, q, rfl, hq, hC, hb⟩; have HQ := Aside0.mk hq; have HC := Aside0.mk hC; have HB1 := Aside0.mk (below_then ((Below.refl w.heap.size w).drew) (Nat.le_refl _) hb); have k0 := pw_cell_below HB1.out h0; have k1 := pw_cell_below HB1.out h1; have k2 := pw_cell_below HB1.out h2; clear hq hC hb)
    | (go_at_call 123; (with_reducible refine (HCM.out _ _ HQ.out _ HB1.out HC.out).mono ?_); rintro e w2 ⟨rfl, hdr⟩; have HD := Aside0.mk hdr; have HB2 := Aside0.mk (below_then HB1.out HB1.out.size hdr.below); have HR2 := Aside0.mk (HR.out.below HB2.out); obtain ⟨j0, j1, j2, j4, j5⟩ := HR2.out; clear hdr))
  refine (‹∀ (a : Act) (w_1 : World), Code.wp _ _ _ a w_1 → _› _ _ ?_)
  go_wp2
  go_ret
  exact ⟨rfl, HR2.out.setBad _, (below_then HB.out HB.out.size HB2.out).setCell hg _, (Kept.of_below HB2.out (fun k => k = g)).setCell (p := ⟨g, 2, none⟩) (.inl rfl) _⟩
set_option maxHeartbeats 6400000 in
set_option maxRecDepth 100000 in
theorem qnum_ok (g : Nat) (A : Option Addr) (n c at_ : Nat) (bad : Int) (N : Nat) (B : Option Addr) (d m : Nat) (hN : N ≤ 8) (hN1 : 1 ≤ N) (hbad : bad < 0) (hs : at_ + N ≤ n) (hn : n ≤ 10000000) (hc : n ≤ c) (l : List Int) (hl : l.length = n) (hby : By l) (hbig : bv ((l.drop at_).take N) ≤ m) (hmx : m ≤ 9223372036854775807)
    (hd : (dg m).length ≤ d) (w0 w : World) (hr : Kd.C (Kd.int .u8) w A l.length l) (hm : Kd.C (Kd.int .i64) w B (dg m).length (dg m)) (hB : Below w0.heap.size w0 w) (hg : w0.heap.size ≤ g) (hR : IsQ w g A n c at_ bad) :
    Calls Tryd.prog 102 #[.pointer (some ⟨g, 0, none⟩), .int .i64 N, .slice B (dg m).length d] w (QTold w0 w g A n c (.int .i64 (bv ((l.drop at_).take N) : Int)) (at_ + N) bad) := by
  obtain ⟨ad, e, -⟩ := Kd.at_int hr 0 (by omega) (by omega)
  subst e
  have hsub := C_sub hr at_ N (by omega)
  have hlen : ((l.drop at_).take N).length = N := by rw [List.length_take, List.length_drop]; omega
  have HBG := Aside0.mk (fun W' (hb : Below w.heap.size w W') => qbig_calls (some (ad.add at_)) N (c - at_) ((l.drop at_).take N) hlen (by omega) (fun x hx => hby x (List.mem_of_mem_drop (List.mem_of_mem_take hx))) (by omega) W' (Kd.C_below hsub hb))
  have hb64 := bv64 l at_ N hN hby (by omega)
  obtain ⟨b, hbv⟩ : ∃ b, bv ((l.drop at_).take N) = b := ⟨_, rfl⟩
  rw [hbv] at HBG hbig hb64 ⊢
  have HBV := Aside0.mk hbv
  have HBY := Aside0.mk hby
  have HL := Aside0.mk hl
  have HRL := Aside0.mk hr
  have hbm : b ≤ 9223372036854775807 := by omega
  have hcm : decide (0 < cmp b m) = false := by rw [cmp_gt]; exact decide_eq_false (by omega)
  have HLB : Aside0 ((dg b).length ≤ 1000000) := ⟨by have := dg_len_le b 3 (by omega); omega⟩
  obtain ⟨cm, hcme⟩ : ∃ x, cmp b m = x := ⟨_, rfl⟩
  have HCM := Aside0.mk (fun (C : Option Addr) (q : Nat) (hq : (dg b).length ≤ q) (W' : World) (hb : Below w.heap.size w W') (hC : Kd.C (Kd.int .i64) W' C (dg b).length (dg b)) => qcmp_calls C q b hq B d m hd HLB.out W' hC (Kd.C_below hm hb))
  rw [hcme] at HCM hcm
  have HB := Aside0.mk hB
  have HR := Aside0.mk hR
  have HM := Aside0.mk hm
  obtain ⟨h0, h1, h2, h4, h5⟩ := hR
  obtain ⟨Lm, hLm⟩ : ∃ x, (dg m).length = x := ⟨_, rfl⟩
  obtain ⟨Lb, hLb⟩ : ∃ x, (dg b).length = x := ⟨_, rfl⟩
  rw [hLm] at HCM hd ⊢
  rw [hLb] at HCM HBG
  have hwm : IntKind.i64.wrap ((at_ : Int) + (N : Int)) = ((at_ + N : Nat) : Int) := by rw [IntWalk.i64_in _ (by omega)]; omega
  have hwq : IntKind.i64.wrap ((n : Int) - (at_ : Int)) = (n : Int) - (at_ : Int) := IntWalk.i64_in _ (by omega)
  have hcl : ¬ c = at_ := by omega
  have hsl1 : (0 : Int) ≤ (at_ : Int) + (N : Int) := by omega
  have hsl2 : (at_ : Int) + (N : Int) ≤ (c : Int) := by omega
  have hsl3 : ((at_ : Int) + (N : Int)).toNat = at_ + N := by omega
  have hsl4 : at_ ≤ at_ + N := by omega
  have hsl5 : at_ + N - at_ = N := by omega
  clear hB hm hbv hbig hcme hLm hLb hr hl hby hsub hlen
  have hd1 : decide (0 ≤ bad) = false := decide_eq_false (by omega)
  have hd2 : decide ((n : Int) - (at_ : Int) < (N : Int)) = false := decide_eq_false (by omega)
  go_enter Tryd.func102, Tryd.ntmps102
  go_wp2
  go_region_held3 (fun w' => w'.cell? ⟨g, 0, none⟩ = some (.slice (some ad) n c) ∧ w'.cell? ⟨g, 1, none⟩ = some (.int .i64 (at_ : Int))) (first | exact ⟨h0, h1⟩ | exact ⟨j0, j1⟩ | exact ⟨k0, k1⟩) (first
    | (go_at_call 124; (first | (with_reducible refine (HBG.out _ ((Below.refl _ _).drew)).mono ?_) | (with_reducible refine (HBG.out _ (pw_below_drewN (Below.refl _ _) _)).mono ?_)); rintro e w1 ⟨C, q, rfl, hq, hC, hb⟩; have HQ := Aside0.mk hq; have HC := Aside0.mk hC; have HB1 := Aside0.mk (below_then ((Below.refl w.heap.size w).drew) (Nat.le_refl _) hb); have k0 := pw_cell_below HB1.out h0; have k1 := pw_cell_below HB1.out h1; have k2 := pw_cell_below HB1.out h2; clear hq hC hb)
    | (go_at_call 123; (with_reducible refine (HCM.out _ _ HQ.out _ HB1.out HC.out).mono ?_); rintro e w2 ⟨rfl, hdr⟩; have HD := Aside0.mk hdr; have HB2 := Aside0.mk (below_then HB1.out HB1.out.size hdr.below); have HR2 := Aside0.mk (HR.out.below HB2.out); obtain ⟨j0, j1, j2, j4, j5⟩ := HR2.out; clear hdr))
  refine (‹∀ (a : Act) (w_1 : World), Code.wp _ _ _ a w_1 → _› _ _ ?_)
  go_wp2
  have HCl := Aside0.mk (Kd.C_below HRL.out HB2.out)
  have hsz2 := HB2.out.size
  go_loopw [7, 8] (fun v7 v8 wx => ∃ i : Nat, v8 = .int .i64 i ∧ i ≤ N ∧ v7 = .int .i64 (bv ((l.drop at_).take i) : Int) ∧ Aside0 (Drawn0 w2 wx))
    (fun _ v8 _ => N - (intOf v8).toNat)
  case atStart => exact ⟨0, rfl, Nat.zero_le _, rfl, ⟨Drawn0.refl _⟩⟩
  case round =>
    obtain ⟨i, rfl, hi, rfl, HD⟩ := hrel
    obtain ⟨r0, r1, r2, r4, r5⟩ := HR2.out.below HD.out.below
    by_cases hlt : i < N
    · have HNX := Aside0.mk (bv_take (l.drop at_) i (by rw [List.length_drop, HL.out]; omega))
      have HMO := Aside0.mk (bv_mono (l.drop at_) (N - (i + 1)) (i + 1) (by rw [List.length_drop, HL.out]; omega))
      rw [show i + 1 + (N - (i + 1)) = N from by omega, HBV.out, HNX.out, rd_drop] at HMO
      rw [rd_drop] at HNX
      have hx := HBY.out.rd ((at_ + i : Nat) : Int)
      obtain ⟨ad', e, q⟩ := Kd.at_int HCl.out ((at_ + i : Nat) : Int) (by omega) (by have := HL.out; omega)
      cases e
      rw [Int.toNat_natCast] at q
      replace q := pw_cell_below HD.out.below q
      obtain ⟨x, hxe⟩ : ∃ x, rd l ((at_ + i : Nat) : Int) = x := ⟨_, rfl⟩
      rw [hxe] at HNX HMO hx q
      obtain ⟨bi, hbi⟩ : ∃ x, bv ((l.drop at_).take i) = x := ⟨_, rfl⟩
      rw [hbi] at HNX HMO ⊢
      have hm2 := HMO.out
      have w1' : IntKind.i64.wrap ((bi : Int) * 256) = (bi : Int) * 256 := IntWalk.i64_in _ (by omega)
      have w2' : IntKind.i64.wrap ((bi : Int) * 256 + x) = (bi : Int) * 256 + x := IntWalk.i64_in _ (by omega)
      have w3' : IntKind.i64.wrap ((at_ : Int) + (i : Int)) = ((at_ + i : Nat) : Int) := by rw [IntWalk.i64_in _ (by omega)]; omega
      have HVX : Aside0 ((bi : Int) * 256 + x = ((bv ((l.drop at_).take (i + 1)) : Nat) : Int)) := ⟨by rw [HNX.out]; omega⟩
      have HW1 : Aside0 (wrap64 x = x) := ⟨w64 x (by omega) (by omega)⟩
      have HW2 : Aside0 (wrap64 ((bi : Int) * 256 + x) = (bi : Int) * 256 + x) := ⟨w64 _ (by omega) (by omega)⟩
      clear hm2 hxe hbi hx hb64
      go_wp2
      go_quiet (fail)
      go_wp2
      go_roundw
      case rel => exact ⟨i + 1, by go_num, by omega, congrArg (Value.int .i64) (by rw [HW1.out, HW2.out]; exact HVX.out), ⟨HD.out.step _⟩⟩
      case measure => simp [intOf]; omega
    · have hie : i = N := by omega
      subst hie
      rw [HBV.out]
      clear hlt hb64
      go_wp2
      go_ret
      exact ⟨rfl, (HR2.out.below HD.out.below).setAt _, (below_then (below_then HB.out HB.out.size HB2.out) (Nat.le_trans HB.out.size hsz2) HD.out.below).setCell hg _, (Kept.below (Kept.of_below HB2.out (fun k => k = g)) HD.out.below).setCell (p := ⟨g, 1, none⟩) (.inl rfl) _⟩
end Go.Proofs.YteapdhfeddgjbaaDoor.Wire
end
section
/- wire: the document's reader: its calls. -/
namespace Go.Proofs.YteapdhfeddgjbaaDoor.Wire
set_option linter.unusedVariables false
set_option linter.unusedSimpArgs false
open Go.RowKit Go.Proofs.YteapdhfeddgjbaaDoor.Num Go.Proofs.YteapdhfeddgjbaaDoor.PDj Go.Proofs.YteapdhfeddgjbaaDoorW Go.Proofs.YteapdhfeddgjbaaDoorW.PrintWords Go.Proofs.YteapdhfeddgjbaaDoorW.PrintLast Go.Proofs.YteapdhfeddgjbaaDoorW.PrintMore

/-- What `number` tells: -1 for a fault. -/
def nres (r : Int × Nat × Int) : Int := if 0 ≤ r.2.2 then -1 else r.1
theorem qnum_step (g : Nat) (A : Option Addr) (n c at_ : Nat) (bad : Int) (N : Nat) (Ni : Int) (hNi : (N : Int) = Ni) (B : Option Addr) (k d m : Nat) (hk : (dg m).length = k) (hN : N ≤ 8) (hN1 : 1 ≤ N) (hn : n ≤ 10000000) (hc : n ≤ c) (ha : at_ ≤ n) (l : List Int) (hl : l.length = n) (hby : By l) (hmx : m ≤ 9223372036854775807)
    (hd : k ≤ d) (w0 w : World) (hr : Kd.C (Kd.int .u8) w A l.length l) (hm : Kd.C (Kd.int .i64) w B (dg m).length (dg m)) (hB : Below w0.heap.size w0 w) (hg : w0.heap.size ≤ g) (hR : IsQ w g A n c at_ bad) :
    Calls Tryd.prog 102 #[.pointer (some ⟨g, 0, none⟩), .int .i64 Ni, .slice B k d] w (QTold w0 w g A n c (.int .i64 (nres (step N m l at_ bad))) (step N m l at_ bad).2.1 (step N m l at_ bad).2.2) := by
  subst hk hNi
  by_cases hb : 0 ≤ bad
  · rw [step_bad hb, nres, if_pos hb]; exact qnum_bad g A n c at_ bad _ _ hb w0 w hB hR
  · by_cases hs : n < at_ + N
    · rw [step_short (by omega) (by omega), nres, if_pos (by show (0 : Int) ≤ (at_ : Int); omega)]; exact qnum_short g A n c at_ bad N _ hN (by omega) hs hn ha w0 w hB hg hR
    · by_cases hv : m < bv ((l.drop at_).take N)
      · rw [step_big (by omega) (by omega) (by omega), nres, if_pos (by show (0 : Int) ≤ (at_ : Int); omega)]; exact qnum_big g A n c at_ bad N B d m hN hN1 (by omega) (by omega) hn hc l hl hby hv hd w0 w hr hm hB hg hR
      · rw [step_ok (by omega) (by omega) (by omega), nres, if_neg (by show ¬ ((0 : Int) ≤ bad); omega)]; exact qnum_ok g A n c at_ bad N B d m hN hN1 (by omega) (by omega) hn hc l hl hby (by omega) hmx hd w0 w hr hm hB hg hR
theorem nres_neg {N : Nat} {lim : Int} {l : List Int} {at_ : Nat} {bad : Int} (h : nres (step N lim l at_ bad) < 0) : (step N lim l at_ bad).1 = 0 := by
  unfold nres at h
  split at h
  · rename_i h2
    unfold step at h2 ⊢
    split
    · rfl
    · split
      · rfl
      · split
        · rfl
        · rename_i g1 g2 g3
          rw [if_neg g1, if_neg g2, if_neg g3] at h2
          have : (0 : Int) ≤ bad := h2
          omega
  · rename_i h2
    have := (step_at' (N := N) (lim := lim) (l := l) (at_ := at_) (bad := bad) (by omega)).2.2.1
    omega
theorem nres_pos {N : Nat} {lim : Int} {l : List Int} {at_ : Nat} {bad : Int} (h : ¬ nres (step N lim l at_ bad) < 0) : nres (step N lim l at_ bad) = (step N lim l at_ bad).1 := by
  unfold nres at h ⊢
  split at h
  · omega
  · rename_i h2; rw [if_neg h2]
theorem step_le {N : Nat} {lim : Int} {l : List Int} {at_ : Nat} {bad : Int} (hl : 0 ≤ lim) : 0 ≤ (step N lim l at_ bad).1 ∧ (step N lim l at_ bad).1 ≤ lim := by
  unfold step
  split
  · exact ⟨Int.le_refl _, hl⟩
  · split
    · exact ⟨Int.le_refl _, hl⟩
    · split
      · exact ⟨Int.le_refl _, hl⟩
      · constructor
        · show (0 : Int) ≤ ((bv _ : Nat) : Int); omega
        · show ((bv _ : Nat) : Int) ≤ lim; omega
theorem dg_one (x : Nat) (h : 0 < x ∧ x < 16777216) : dg x = [(x : Int)] := by
  rw [dg_pos (by omega), show x / 16777216 = 0 from by omega, dg_zero, show x % 16777216 = x from by omega]
theorem lit_i64 (W : World) (x : Int) : Kd.C (Kd.int .i64) (W.alloc (.cells #[.int .i64 x] 3)) (some ⟨W.heap.size, 0, none⟩) [x].length [x] :=
  (Kd.R_reads' (Kd.R_of_own (enc := Value.int .i64) (h1 := fun _ => rfl) (ok := fun _ => True) (own_lit W W.heap.size 3 .i64 [x] (Nat.le_refl _) (by simp)) (fun _ _ => trivial))).2.2
theorem lit_dg (W : World) (x : Nat) (h : 0 < x ∧ x < 16777216) : Kd.C (Kd.int .i64) (W.alloc (.cells #[.int .i64 (x : Int)] 3)) (some ⟨W.heap.size, 0, none⟩) (dg x).length (dg x) := by
  rw [dg_one x h]; exact lit_i64 W x
set_option maxHeartbeats 1600000 in
set_option maxRecDepth 100000 in
theorem qread_calls (A : Option Addr) (n c : Nat) (w0 w : World) (hB : Below w0.heap.size w0 w) :
    Calls Tryd.prog 73 #[.slice A n c] w fun e w' => e = .returned (.pointer (some ⟨w.heap.size, 0, none⟩)) ∧ IsQ w' w.heap.size A n c 0 (-1) ∧ Below w0.heap.size w0 w' ∧ Below w.heap.size w w' := by
  have HB := Aside0.mk hB
  clear hB
  go_enter Tryd.func73, Tryd.ntmps73
  go_wp2
  go_ret
  exact ⟨rfl, ⟨by go_simp, by go_simp, by go_simp, by go_simp, by go_simp⟩, below_alloc HB.out _, below_alloc (Below.refl _ _) _⟩
/-- Where the document's reader ends. -/
def qfin (n at_ : Nat) (bad : Int) : Int := if 0 ≤ bad then bad else if at_ < n then (at_ : Int) else -1
set_option maxHeartbeats 1600000 in
set_option maxRecDepth 100000 in
theorem qdone_calls (g : Nat) (A : Option Addr) (n c at_ : Nat) (bad : Int) (w : World) (hR : IsQ w g A n c at_ bad) :
    Calls Tryd.prog 77 #[.pointer (some ⟨g, 0, none⟩)] w fun e w' => e = .returned (.int .i64 (qfin n at_ bad)) ∧ Drawn0 w w' := by
  obtain ⟨h0, h1, h2, h4, h5⟩ := hR
  by_cases hb : 0 ≤ bad
  · rw [qfin, if_pos hb]
    have hd : decide (0 ≤ bad) = true := decide_eq_true hb
    go_enter Tryd.func77, Tryd.ntmps77
    go_wp2
    go_ret
    exact ⟨rfl, Drawn0.refl _⟩
  · have hd : decide (0 ≤ bad) = false := decide_eq_false hb
    by_cases ha : at_ < n
    · rw [qfin, if_neg hb, if_pos ha]
      have hd2 : decide ((at_ : Int) < (n : Int)) = true := decide_eq_true (by omega)
      clear hb
      go_enter Tryd.func77, Tryd.ntmps77
      go_wp2
      go_quiet (fail)
      go_wp2
      go_ret
      exact ⟨rfl, ⟨⟨_, rfl⟩⟩⟩
    · rw [qfin, if_neg hb, if_neg ha]
      have hd2 : decide ((at_ : Int) < (n : Int)) = false := decide_eq_false (by omega)
      clear hb
      go_enter Tryd.func77, Tryd.ntmps77
      go_wp2
      go_quiet (fail)
      go_wp2
      go_ret
      exact ⟨rfl, ⟨⟨_, rfl⟩⟩⟩
set_option maxHeartbeats 1600000 in
set_option maxRecDepth 100000 in
theorem qbyte_step (g : Nat) (A : Option Addr) (n c at_ : Nat) (bad : Int) (hn : n ≤ 10000000) (hc : n ≤ c) (ha : at_ ≤ n) (l : List Int) (hl : l.length = n) (hby : By l) (w0 w : World) (hr : Kd.C (Kd.int .u8) w0 A l.length l) (hB : Below w0.heap.size w0 w) (hg : w0.heap.size ≤ g) (hR : IsQ w g A n c at_ bad) :
    Calls Tryd.prog 74 #[.pointer (some ⟨g, 0, none⟩)] w (QTold w0 w g A n c (.int .u8 (step 1 255 l at_ bad).1) (step 1 255 l at_ bad).2.1 (step 1 255 l at_ bad).2.2) := by
  have hle := step_le (N := 1) (lim := 255) (l := l) (at_ := at_) (bad := bad) (by omega)
  have HBa := Aside0.mk (below_alloc hB (.cells #[.int .i64 255] 3))
  have HN := Aside0.mk (qnum_step g A n c at_ bad 1 1 rfl (some ⟨w.heap.size, 0, none⟩) 1 1 255 (by rw [dg_one 255 (by omega)]; rfl) (by omega) (by omega) hn hc ha l hl hby (by omega) (Nat.le_refl _) w0 _ (Kd.C_below hr HBa.out) (lit_dg w 255 (by omega)) HBa.out hg (hR.below (below_alloc (Below.refl _ _) _)))
  have hneg := fun h => nres_neg (N := 1) (lim := 255) (l := l) (at_ := at_) (bad := bad) h
  have hpos := fun h => nres_pos (N := 1) (lim := 255) (l := l) (at_ := at_) (bad := bad) h
  rw [show ((255 : Nat) : Int) = 255 from rfl] at HN
  obtain ⟨r, hr2⟩ : ∃ r, step 1 255 l at_ bad = r := ⟨_, rfl⟩
  rw [hr2] at HN hneg hpos hle ⊢
  obtain ⟨q, hq⟩ : ∃ q, nres r = q := ⟨_, rfl⟩
  rw [hq] at HN hneg hpos
  have HNEG := Aside0.mk hneg
  have HPOS := Aside0.mk hpos
  clear hneg hpos hq hr2 hB hR hr hby
  by_cases h : q < 0
  · have hd : decide (q < 0) = true := decide_eq_true h
    have h0 := HNEG.out h
    clear h
    go_enter Tryd.func74, Tryd.ntmps74
    go_wp2_with (first
      | (go_at_call 102; (with_reducible refine HN.out.mono ?_); rintro e w1 ⟨rfl, h1, h2, h3⟩; have H1 := Aside0.mk h1; have H2 := Aside0.mk h2; have H3 := Aside0.mk h3; clear h1 h2 h3)
      | fail)
    go_ret
    exact ⟨congrArg (fun x => Ending.returned (.int .u8 x)) h0.symm, H1.out, H2.out, Kept.then_ (Kept.of_below (below_alloc (Below.refl _ _) _) (fun k => k = g)) H3.out (fun _ h => .inl h)⟩
  · have hd : decide (q < 0) = false := decide_eq_false h
    have h0 := HPOS.out h
    subst h0
    have hw : r.1 % 256 = r.1 := by omega
    clear h
    go_enter Tryd.func74, Tryd.ntmps74
    go_wp2_with (first
      | (go_at_call 102; (with_reducible refine HN.out.mono ?_); rintro e w1 ⟨rfl, h1, h2, h3⟩; have H1 := Aside0.mk h1; have H2 := Aside0.mk h2; have H3 := Aside0.mk h3; clear h1 h2 h3)
      | fail)
    go_ret
    exact ⟨rfl, H1.out, H2.out, Kept.then_ (Kept.of_below (below_alloc (Below.refl _ _) _) (fun k => k = g)) H3.out (fun _ h => .inl h)⟩
theorem C_of_len {W : World} {B : Option Addr} {l : List Int} {k : Nat} (hk : l.length = k) (h : Kd.C (Kd.int .i64) W B k l) : Kd.C (Kd.int .i64) W B l.length l := hk ▸ h
theorem qint_calls (n : Nat) (hn : n ≤ 9223372036854775807) (w : World) : Calls Tryd.prog 52 #[.int .i64 (n : Int)] w fun e w' => ∃ B d, e = .returned (.slice B (dg n).length d) ∧ (dg n).length ≤ d ∧ Kd.C (Kd.int .i64) w' B (dg n).length (dg n) ∧ Below w.heap.size w w' := by
  obtain ⟨K, hK⟩ := int_ev n hn
  refine (cleromancyref01_Int.calls K n _ w (hK K (Nat.le_refl _))).mono ?_
  rintro e w' ⟨v, rfl, h1, h2⟩
  obtain ⟨B, d, e2, h3, h4⟩ := Kd.R_reads h1
  exact ⟨B, d, by rw [e2], h3, h4, h2⟩
set_option maxHeartbeats 1600000 in
set_option maxRecDepth 100000 in
theorem qcount_step (g : Nat) (A : Option Addr) (n c at_ : Nat) (bad most : Int) (hmost : 0 ≤ most ∧ most ≤ 9223372036854775807) (hn : n ≤ 10000000) (hc : n ≤ c) (ha : at_ ≤ n) (l : List Int) (hl : l.length = n) (hby : By l) (w0 w : World) (hr : Kd.C (Kd.int .u8) w0 A l.length l) (hB : Below w0.heap.size w0 w) (hg : w0.heap.size ≤ g) (hR : IsQ w g A n c at_ bad) :
    Calls Tryd.prog 105 #[.pointer (some ⟨g, 0, none⟩), .int .i64 most] w (QTold w0 w g A n c (.int .i64 (step 4 most l at_ bad).1) (step 4 most l at_ bad).2.1 (step 4 most l at_ bad).2.2) := by
  obtain ⟨m, rfl⟩ : ∃ m : Nat, most = (m : Int) := ⟨most.toNat, by omega⟩
  have HQ := Aside0.mk (qint_calls m (by omega) w)
  obtain ⟨k, hk⟩ : ∃ k, (dg m).length = k := ⟨_, rfl⟩
  have HN := Aside0.mk (fun (B : Option Addr) (d : Nat) (hd : k ≤ d) (W : World) (hb : Below w.heap.size w W) (hC : Kd.C (Kd.int .i64) W B (dg m).length (dg m)) => qnum_step g A n c at_ bad 4 4 rfl B k d m hk (by omega) (by omega) hn hc ha l hl hby (by omega) hd w0 W (Kd.C_below hr (below_then hB hB.size hb)) hC (below_then hB hB.size hb) hg (hR.below hb))
  rw [hk] at HQ
  have hneg := fun h => nres_neg (N := 4) (lim := (m : Int)) (l := l) (at_ := at_) (bad := bad) h
  have hpos := fun h => nres_pos (N := 4) (lim := (m : Int)) (l := l) (at_ := at_) (bad := bad) h
  obtain ⟨r, hr2⟩ : ∃ r, step 4 (m : Int) l at_ bad = r := ⟨_, rfl⟩
  rw [hr2] at HN hneg hpos ⊢
  obtain ⟨q, hq⟩ : ∃ q, nres r = q := ⟨_, rfl⟩
  rw [hq] at HN hneg hpos
  have HNEG := Aside0.mk hneg
  have HPOS := Aside0.mk hpos
  have HK := Aside0.mk hk
  have hd0 : decide ((m : Int) < 0) = false := decide_eq_false (by omega)
  clear hneg hpos hq hr2 hB hR hr hby hk
  by_cases h : q < 0
  · have hd : decide (q < 0) = true := decide_eq_true h
    have h0 := Aside0.mk (HNEG.out h)
    clear h
    go_enter Tryd.func105, Tryd.ntmps105
    go_wp2_with (first
      | (go_at_call 52; (with_reducible refine HQ.out.mono ?_); rintro e w1 ⟨B, d, rfl, p1, p2, p3⟩; have P1 := Aside0.mk p1; have P2 := Aside0.mk p2; have P3 := Aside0.mk p3; clear p1 p2 p3)
      | (go_at_call 102; (with_reducible refine (HN.out B d P1.out _ P3.out (C_of_len HK.out P2.out)).mono ?_); rintro e w2 ⟨rfl, h1, h2, h3⟩; have H1 := Aside0.mk h1; have H2 := Aside0.mk h2; have H3 := Aside0.mk h3; clear h1 h2 h3)
      | fail)
    go_ret
    exact ⟨congrArg (fun x => Ending.returned (.int .i64 x)) h0.out.symm, H1.out, H2.out, Kept.then_ (Kept.of_below P3.out (fun k => k = g)) H3.out (fun _ h => .inl h)⟩
  · have hd : decide (q < 0) = false := decide_eq_false h
    have h0 := Aside0.mk (HPOS.out h)
    clear h
    go_enter Tryd.func105, Tryd.ntmps105
    go_wp2_with (first
      | (go_at_call 52; (with_reducible refine HQ.out.mono ?_); rintro e w1 ⟨B, d, rfl, p1, p2, p3⟩; have P1 := Aside0.mk p1; have P2 := Aside0.mk p2; have P3 := Aside0.mk p3; clear p1 p2 p3)
      | (go_at_call 102; (with_reducible refine (HN.out B d P1.out _ P3.out (C_of_len HK.out P2.out)).mono ?_); rintro e w2 ⟨rfl, h1, h2, h3⟩; have H1 := Aside0.mk h1; have H2 := Aside0.mk h2; have H3 := Aside0.mk h3; clear h1 h2 h3)
      | fail)
    go_ret
    exact ⟨congrArg (fun x => Ending.returned (.int .i64 x)) h0.out, H1.out, H2.out, Kept.then_ (Kept.of_below P3.out (fun k => k = g)) H3.out (fun _ h => .inl h)⟩
theorem qpower_calls (w : World) : Calls Tryd.prog 104 #[.int .i64 63] w fun e w' => ∃ B d, e = .returned (.slice B (dg 9223372036854775808).length d) ∧ (dg 9223372036854775808).length ≤ d ∧ Kd.C (Kd.int .i64) w' B (dg 9223372036854775808).length (dg 9223372036854775808) ∧ Below w.heap.size w w' := by
  obtain ⟨K, hK⟩ := shift_ev [1] (fun x hx => by rw [List.mem_singleton.1 hx]; omega) 63 (by omega) (by simp)
  have hv : vn [1] * 2 ^ 63 = 9223372036854775808 := by decide
  rw [hv] at hK
  have hP : cleromancyref01_Power.f K 63 = some (dg 9223372036854775808) := by
    have h1 : cleromancyref01_Shift.f K [1] 63 = some (dg 9223372036854775808) := hK K (Nat.le_refl _)
    rw [cleromancyref01_Power.f, h1]
    rfl
  refine (cleromancyref01_Power.calls K 63 _ w hP).mono ?_
  rintro e w' ⟨v, rfl, h1, h2⟩
  obtain ⟨B, d, e2, h3, h4⟩ := Kd.R_reads h1
  exact ⟨B, d, by rw [e2], h3, h4, h2⟩
theorem lit_one (W : World) : Kd.C (Kd.int .i64) (W.alloc (.cells #[.int .i64 1] 3)) (some ⟨W.heap.size, 0, none⟩) (dg 1).length (dg 1) := lit_dg W 1 (by omega)
theorem qsub_calls (A B : Option Addr) (c d k : Nat) (hk : (dg 9223372036854775808).length = k) (hc : k ≤ c) (hd : 1 ≤ d) (w : World) (ha : Kd.C (Kd.int .i64) w A (dg 9223372036854775808).length (dg 9223372036854775808)) (hb : Kd.C (Kd.int .i64) w B (dg 1).length (dg 1)) :
    Calls Tryd.prog 103 #[.slice A k c, .slice B 1 d] w fun e w' => ∃ C q, e = .returned (.slice C (dg 9223372036854775807).length q) ∧ (dg 9223372036854775807).length ≤ q ∧ Kd.C (Kd.int .i64) w' C (dg 9223372036854775807).length (dg 9223372036854775807) ∧ Below w.heap.size w w' := by
  have h1 : (dg 1).length = 1 := by rw [dg_one 1 (by omega)]; rfl
  have hl : (dg 9223372036854775808).length ≤ 1000000 := by have := dg_len_le 9223372036854775808 3 (by omega); omega
  obtain ⟨K, hK⟩ := sub_ev 9223372036854775808 1 (by omega) hl
  have hS : cleromancyref01_Sub.f K (dg 9223372036854775808) (dg 1) = some (dg 9223372036854775807) := hK K (Nat.le_refl _)
  subst hk
  have := cleromancyref01_Sub.calls K A c (dg 9223372036854775808) B d (dg 1) _ w ha hc hb (by omega) hS
  rw [h1] at this
  refine this.mono ?_
  rintro e w' ⟨v, rfl, h1, h2⟩
  obtain ⟨C, q, e2, h3, h4⟩ := Kd.R_reads h1
  exact ⟨C, q, by rw [e2], h3, h4, h2⟩
set_option maxHeartbeats 1600000 in
set_option maxRecDepth 100000 in
theorem qint_step (g : Nat) (A : Option Addr) (n c at_ : Nat) (bad : Int) (hn : n ≤ 10000000) (hc : n ≤ c) (ha : at_ ≤ n) (l : List Int) (hl : l.length = n) (hby : By l) (w0 w : World) (hr : Kd.C (Kd.int .u8) w0 A l.length l) (hB : Below w0.heap.size w0 w) (hg : w0.heap.size ≤ g) (hR : IsQ w g A n c at_ bad) :
    Calls Tryd.prog 75 #[.pointer (some ⟨g, 0, none⟩)] w (QTold w0 w g A n c (.int .i64 (step 8 9223372036854775807 l at_ bad).1) (step 8 9223372036854775807 l at_ bad).2.1 (step 8 9223372036854775807 l at_ bad).2.2) := by
  have HP := Aside0.mk (qpower_calls w)
  obtain ⟨kp, hkp⟩ : ∃ k, (dg 9223372036854775808).length = k := ⟨_, rfl⟩
  rw [hkp] at HP
  have HKP := Aside0.mk hkp
  have HN := Aside0.mk (fun (B : Option Addr) (k d : Nat) (hk : (dg 9223372036854775807).length = k) (hd : k ≤ d) (W : World) (hb : Below w.heap.size w W) (hC : Kd.C (Kd.int .i64) W B (dg 9223372036854775807).length (dg 9223372036854775807)) => qnum_step g A n c at_ bad 8 8 rfl B k d 9223372036854775807 hk (by omega) (by omega) hn hc ha l hl hby (by omega) hd w0 W (Kd.C_below hr (below_then hB hB.size hb)) hC (below_then hB hB.size hb) hg (hR.below hb))
  rw [show ((9223372036854775807 : Nat) : Int) = 9223372036854775807 from rfl] at HN
  have hneg := fun h => nres_neg (N := 8) (lim := 9223372036854775807) (l := l) (at_ := at_) (bad := bad) h
  have hpos := fun h => nres_pos (N := 8) (lim := 9223372036854775807) (l := l) (at_ := at_) (bad := bad) h
  obtain ⟨r, hr2⟩ : ∃ r, step 8 9223372036854775807 l at_ bad = r := ⟨_, rfl⟩
  rw [hr2] at HN hneg hpos ⊢
  obtain ⟨q, hq⟩ : ∃ q, nres r = q := ⟨_, rfl⟩
  rw [hq] at HN hneg hpos
  have HNEG := Aside0.mk hneg
  have HPOS := Aside0.mk hpos
  clear hneg hpos hq hr2 hB hR hr hby hkp
  by_cases h : q < 0
  · have hd : decide (q < 0) = true := decide_eq_true h
    have h0 := Aside0.mk (HNEG.out h)
    clear h
    go_enter Tryd.func75, Tryd.ntmps75
    go_wp2_with (first
      | (go_at_call 104; (with_reducible refine HP.out.mono ?_); rintro e w1 ⟨B, d, rfl, p1, p2, p3⟩; have P1 := Aside0.mk p1; have P3 := Aside0.mk p3; have P2 := Aside0.mk (Kd.C_below (C_of_len HKP.out p2) (below_alloc (Below.refl w1.heap.size w1) (.cells #[.int .i64 1] 3))); clear p1 p2 p3)
      | (go_at_call 103; (with_reducible refine (qsub_calls B (some ⟨w1.heap.size, 0, none⟩) d 1 kp HKP.out P1.out (Nat.le_refl _) _ P2.out (lit_one w1)).mono ?_); rintro e w2 ⟨C, s, rfl, p1, p2, p3⟩; have S1 := Aside0.mk p1; have S2 := Aside0.mk p2; have S3 := Aside0.mk (below_then (below_alloc P3.out (.cells #[.int .i64 1] 3)) (Nat.le_trans P3.out.size (below_alloc (Below.refl w1.heap.size w1) (.cells #[.int .i64 1] 3)).size) p3); clear p1 p2 p3)
      | (go_at_call 102; (with_reducible refine (HN.out C _ s rfl S1.out _ S3.out S2.out).mono ?_); rintro e w3 ⟨rfl, h1, h2, h3⟩; have H1 := Aside0.mk h1; have H2 := Aside0.mk h2; have H3 := Aside0.mk h3; clear h1 h2 h3)
      | fail)
    go_ret
    exact ⟨congrArg (fun x => Ending.returned (.int .i64 x)) h0.out.symm, H1.out, H2.out, Kept.then_ (Kept.of_below S3.out (fun k => k = g)) H3.out (fun _ h => .inl h)⟩
  · have hd : decide (q < 0) = false := decide_eq_false h
    have h0 := Aside0.mk (HPOS.out h)
    clear h
    go_enter Tryd.func75, Tryd.ntmps75
    go_wp2_with (first
      | (go_at_call 104; (with_reducible refine HP.out.mono ?_); rintro e w1 ⟨B, d, rfl, p1, p2, p3⟩; have P1 := Aside0.mk p1; have P3 := Aside0.mk p3; have P2 := Aside0.mk (Kd.C_below (C_of_len HKP.out p2) (below_alloc (Below.refl w1.heap.size w1) (.cells #[.int .i64 1] 3))); clear p1 p2 p3)
      | (go_at_call 103; (with_reducible refine (qsub_calls B (some ⟨w1.heap.size, 0, none⟩) d 1 kp HKP.out P1.out (Nat.le_refl _) _ P2.out (lit_one w1)).mono ?_); rintro e w2 ⟨C, s, rfl, p1, p2, p3⟩; have S1 := Aside0.mk p1; have S2 := Aside0.mk p2; have S3 := Aside0.mk (below_then (below_alloc P3.out (.cells #[.int .i64 1] 3)) (Nat.le_trans P3.out.size (below_alloc (Below.refl w1.heap.size w1) (.cells #[.int .i64 1] 3)).size) p3); clear p1 p2 p3)
      | (go_at_call 102; (with_reducible refine (HN.out C _ s rfl S1.out _ S3.out S2.out).mono ?_); rintro e w3 ⟨rfl, h1, h2, h3⟩; have H1 := Aside0.mk h1; have H2 := Aside0.mk h2; have H3 := Aside0.mk h3; clear h1 h2 h3)
      | fail)
    go_ret
    exact ⟨congrArg (fun x => Ending.returned (.int .i64 x)) h0.out, H1.out, H2.out, Kept.then_ (Kept.of_below S3.out (fun k => k = g)) H3.out (fun _ h => .inl h)⟩
end Go.Proofs.YteapdhfeddgjbaaDoor.Wire
end
section
/- wire: the document's reader: a number of bytes. -/
namespace Go.Proofs.YteapdhfeddgjbaaDoor.Wire
set_option linter.unusedVariables false
set_option linter.unusedSimpArgs false
open Go.RowKit Go.Proofs.YteapdhfeddgjbaaDoor.Num Go.Proofs.YteapdhfeddgjbaaDoor.PDj Go.Proofs.YteapdhfeddgjbaaDoorW Go.Proofs.YteapdhfeddgjbaaDoorW.PrintWords Go.Proofs.YteapdhfeddgjbaaDoorW.PrintLast Go.Proofs.YteapdhfeddgjbaaDoorW.PrintMore

def QToldB (w0 w : World) (g : Nat) (A : Option Addr) (n c : Nat) (r : List Int × Nat × Int) (e : Ending) (w' : World) : Prop :=
  ∃ B d, e = .returned (.slice B r.1.length d) ∧ r.1.length ≤ d ∧ Kd.C (Kd.int .u8) w' B r.1.length r.1 ∧ IsQ w' g A n c r.2.1 r.2.2 ∧ Below w0.heap.size w0 w' ∧ Kept w w' (fun k => k = g)
theorem QToldB.nil {w0 w w' : World} {g : Nat} {A : Option Addr} {n c at_ : Nat} {bad : Int} (h1 : IsQ w' g A n c at_ bad) (h2 : Below w0.heap.size w0 w') (h3 : Kept w w' (fun k => k = g)) : QToldB w0 w g A n c ([], at_, bad) (.returned (.slice none 0 0)) w' :=
  ⟨none, 0, rfl, Nat.le_refl _, Kd.C_nil _ _, h1, h2, h3⟩
set_option maxHeartbeats 3200000 in
set_option maxRecDepth 100000 in
theorem qbytes_step (g : Nat) (A : Option Addr) (n c at_ : Nat) (bad least most : Int) (hmost : 0 ≤ most ∧ most ≤ 9223372036854775807) (hlm : -9223372036854775808 ≤ least) (hn : n ≤ 10000000) (hc : n ≤ c) (ha : at_ ≤ n) (l : List Int) (hl : l.length = n) (hby : By l) (w0 w : World) (hr : Kd.C (Kd.int .u8) w0 A l.length l) (hB : Below w0.heap.size w0 w) (hg : w0.heap.size ≤ g) (hR : IsQ w g A n c at_ bad) :
    Calls Tryd.prog 76 #[.pointer (some ⟨g, 0, none⟩), .int .i64 least, .int .i64 most] w (QToldB w0 w g A n c (bstep least most l at_ bad)) := by
  have HC := Aside0.mk (qcount_step g A n c at_ bad most hmost hn hc ha l hl hby w0 w (by exact hr) hB hg hR)
  obtain ⟨v, hv⟩ : ∃ v, (step 4 most l at_ bad).1 = v := ⟨_, rfl⟩
  obtain ⟨at2, hat2⟩ : ∃ v, (step 4 most l at_ bad).2.1 = v := ⟨_, rfl⟩
  obtain ⟨bad2, hbad2⟩ : ∃ v, (step 4 most l at_ bad).2.2 = v := ⟨_, rfl⟩
  have hok := fun h : (step 4 most l at_ bad).2.2 < 0 => step_at' h
  unfold bstep
  rw [hv, hat2, hbad2] at HC hok ⊢
  obtain ⟨h0, h1, h2, h4, h5⟩ := hR
  have HL := Aside0.mk hl
  have HR := Aside0.mk hr
  have HOK := Aside0.mk hok
  clear hv hat2 hbad2 hl hr hby hB hok
  by_cases hb : 0 ≤ bad2
  · rw [if_pos hb]
    have hd : decide (0 ≤ bad2) = true := decide_eq_true hb
    go_enter Tryd.func76, Tryd.ntmps76
    go_wp2_with (first | (go_at_call 105; (with_reducible refine HC.out.mono ?_); rintro e w1 ⟨rfl, hI, hB1, hK1⟩; have HI := Aside0.mk hI; have HB1 := Aside0.mk hB1; have HK1 := Aside0.mk hK1; obtain ⟨k0, k1, k2, k4, k5⟩ := hI; clear hB1 hK1) | fail)
    go_ret
    exact QToldB.nil HI.out HB1.out HK1.out
  · rw [if_neg hb]
    have hd : decide (0 ≤ bad2) = false := decide_eq_false hb
    obtain ⟨g1, g2, g3, -, g5, g6⟩ := HOK.out (by omega)
    subst g6
    have hn' := HL.out
    rw [hn'] at g1 ⊢
    have HG2 := Aside0.mk g2
    have g7 : at2 ≤ n := by omega
    clear hn' hb g2
    by_cases hf : v < least ∨ (n : Int) - (at2 : Int) < v
    · rw [if_pos hf]
      by_cases hd1 : v < least
      · have hd1' : decide (v < least) = true := decide_eq_true hd1
        clear hf hd1
        go_enter Tryd.func76, Tryd.ntmps76
        go_wp2_with (first | (go_at_call 105; (with_reducible refine HC.out.mono ?_); rintro e w1 ⟨rfl, hI, hB1, hK1⟩; have HI := Aside0.mk hI; have HB1 := Aside0.mk hB1; have HK1 := Aside0.mk hK1; obtain ⟨k0, k1, k2, k4, k5⟩ := hI; clear hB1 hK1) | fail)
        go_quiet (fail)
        go_wp2
        go_ret
        exact QToldB.nil (((HI.out.below (pw_below_drewN (Below.refl _ _) _)).setAt at_).setBad _) (Below.setCell (Below.setCell (pw_below_drewN HB1.out _) hg _) hg _) (((HK1.out.drewN _).setCell (.inl rfl) _).setCell (.inl rfl) _)
      · have hd1' : decide (v < least) = false := decide_eq_false hd1
        have hd2' : decide ((n : Int) - (at2 : Int) < v) = true := decide_eq_true (by omega)
        clear hf hd1
        go_enter Tryd.func76, Tryd.ntmps76
        go_wp2_with (first | (go_at_call 105; (with_reducible refine HC.out.mono ?_); rintro e w1 ⟨rfl, hI, hB1, hK1⟩; have HI := Aside0.mk hI; have HB1 := Aside0.mk hB1; have HK1 := Aside0.mk hK1; obtain ⟨k0, k1, k2, k4, k5⟩ := hI; clear hB1 hK1) | fail)
        go_quiet (fail)
        go_wp2
        go_ret
        exact QToldB.nil (((HI.out.below (pw_below_drewN (Below.refl _ _) _)).setAt at_).setBad _) (Below.setCell (Below.setCell (pw_below_drewN HB1.out _) hg _) hg _) (((HK1.out.drewN _).setCell (.inl rfl) _).setCell (.inl rfl) _)
    · rw [if_neg hf]
      have hd1 : decide (v < least) = false := decide_eq_false (by omega)
      have hd2 : decide ((n : Int) - (at2 : Int) < v) = false := decide_eq_false (by omega)
      obtain ⟨m, rfl⟩ : ∃ m : Nat, v = (m : Int) := ⟨v.toNat, by omega⟩
      have hsum : at2 + m ≤ n := by omega
      clear hf
      rw [Int.toNat_natCast]
      have hlm2 : ((l.drop at2).take m).length = m := by have := HL.out; rw [List.length_take, List.length_drop]; omega
      obtain ⟨ad, e, -⟩ := Kd.at_int HR.out 0 (by omega) (by have := HL.out; omega)
      subst e
      have hcl : ¬ c = at2 ∨ c = at2 := by omega
      have HSL : Aside0 (Kd.C (Kd.int .u8) w0 (if c = at2 then some ad else some (ad.add at2)) ((l.drop at2).take m).length ((l.drop at2).take m)) := ⟨by
        split
        · have h0 := C_sub HR.out 0 0 (Nat.zero_le _)
          have hm : m = 0 := by omega
          subst hm
          simpa [Addr.add] using h0
        · exact C_sub HR.out at2 m (by have := HL.out; omega)⟩
      obtain ⟨L, hL⟩ : ∃ L, (l.drop at2).take m = L := ⟨_, rfl⟩
      rw [hL] at HSL hlm2 ⊢
      have HLM := Aside0.mk hlm2
      clear hL hlm2
      have hwm : IntKind.i64.wrap ((at2 : Int) + (m : Int)) = (at2 : Int) + (m : Int) := IntWalk.i64_in _ (by omega)
      have s1 : (0 : Int) ≤ (at2 : Int) + (m : Int) := by omega
      have s2 : (at2 : Int) + (m : Int) ≤ (c : Int) := by omega
      have s3 : (at2 : Int) ≤ (at2 : Int) + (m : Int) := by omega
      have s4 : ((at2 : Int) + (m : Int)).toNat = at2 + m := by omega
      go_enter Tryd.func76, Tryd.ntmps76
      go_wp2_with (first | (go_at_call 105; (with_reducible refine HC.out.mono ?_); rintro e w1 ⟨rfl, hI, hB1, hK1⟩; have HI := Aside0.mk hI; have HB1 := Aside0.mk hB1; have HK1 := Aside0.mk hK1; obtain ⟨k0, k1, k2, k4, k5⟩ := hI; clear hB1 hK1) | fail)
      go_quiet (fail)
      go_wp2
      have HI2 := HI.out.below (pw_below_drewN (Below.refl _ _) nq)
      have HBn := pw_below_drewN HB1.out nq
      have HKn := HK1.out.drewN nq
      clear k0 k1 k2 k4 k5
      generalize w1.drewN nq = w2 at HI2 HBn HKn ⊢
      have HIN := Aside0.mk HI2
      have HB2 := Aside0.mk HBn
      have HK2 := Aside0.mk HKn
      obtain ⟨k0, k1, k2, k4, k5⟩ := HI2
      clear HBn HKn
      by_cases hcl2 : c = at2
      · rw [if_pos hcl2] at HSL
        have hm0 : m = 0 := by omega
        subst hm0
        have hca := Aside0.mk hcl2
        have s5 : IntKind.i64.wrap ((at2 : Int) + 0) = (at2 : Int) := by rw [Int.add_zero]; exact IntWalk.i64_in _ (by omega)
        have s6 : IntKind.i64.wrap (at2 : Int) = (at2 : Int) := IntWalk.i64_in _ (by omega)
        have s7 : (at2 : Int) ≤ (c : Int) := by omega
        have s8 : (0 : Int) ≤ (at2 : Int) := by omega
        go_still_tail 16, (by kernel_rfl)
        change wpList _ _ _ _ _ w2.drew
        have HB3 := Aside0.mk HB2.out.drew
        have HI3 := Aside0.mk (HIN.out.below (Below.refl _ _).drew)
        have HK3 := Aside0.mk (HK2.out.drew)
        clear k0 k1 k2 k4 k5
        generalize w2.drew = w3 at HB3 HI3 HK3 ⊢
        have HOL0 : Aside0 (w3.ownsRow w3.heap.size 5 1 (.slice none 0 0) ([] : List Int).length (nums .u8 [])) := ⟨⟨by simp [nums], .inl ⟨rfl, rfl⟩⟩⟩
        have hrd := C_readsB (Kd.C_below HSL.out HB3.out)
        rw [HLM.out] at hrd
        have HRD := Aside0.mk hrd
        clear hrd
        go_wp2_with (first
          | (at_builtin; refine print_append_row (w0 := w3) w3.heap.size rfl _ _ 24 5 .u8 1 rfl Tryd.underlying24 info5 (by decide) _ [] L (some ad) 0 _ rfl rfl HOL0.out HRD.out (Below.refl _ _) (by simp) (by simp <;> omega) ?_; intro v1 w4 ho1 hb1 hg1 hat1; have HB4 := Aside0.mk hb1; have HI4 := Aside0.mk (HI3.out.below hb1); obtain ⟨j0, j1, j2, j4, j5⟩ := HI4.out; have HR4 := Aside0.mk (Kd.R_of_own (enc := Value.int .u8) (h1 := fun _ => rfl) (ok := fun _ => True) ho1 (fun _ _ => trivial)); clear ho1 hb1 hg1 hat1)
          | fail)
        go_ret
        obtain ⟨B, d, e, p1, p2⟩ := Kd.R_reads HR4.out
        subst e
        exact ⟨B, d, rfl, p1, C_set p2 j1 (fun x => by simp) _, HI4.out.setAt _, (below_then HB3.out HB3.out.size HB4.out).setCell hg _, (HK3.out.below HB4.out).setCell (.inl rfl) _⟩
      · rw [if_neg hcl2] at HSL
        go_still_tail 16, (by kernel_rfl)
        change wpList _ _ _ _ _ w2.drew
        have HB3 := Aside0.mk HB2.out.drew
        have HI3 := Aside0.mk (HIN.out.below (Below.refl _ _).drew)
        have HK3 := Aside0.mk (HK2.out.drew)
        clear k0 k1 k2 k4 k5
        generalize w2.drew = w3 at HB3 HI3 HK3 ⊢
        have HOL0 : Aside0 (w3.ownsRow w3.heap.size 5 1 (.slice none 0 0) ([] : List Int).length (nums .u8 [])) := ⟨⟨by simp [nums], .inl ⟨rfl, rfl⟩⟩⟩
        have hrd := C_readsB (Kd.C_below HSL.out HB3.out)
        rw [HLM.out] at hrd
        have HRD := Aside0.mk hrd
        clear hrd
        go_wp2_with (first
          | (at_builtin; refine print_append_row (w0 := w3) w3.heap.size rfl _ _ 24 5 .u8 1 rfl Tryd.underlying24 info5 (by decide) _ [] L (some (ad.add at2)) m _ rfl rfl HOL0.out HRD.out (Below.refl _ _) (by simp) (by simp <;> omega) ?_; intro v1 w4 ho1 hb1 hg1 hat1; have HB4 := Aside0.mk hb1; have HI4 := Aside0.mk (HI3.out.below hb1); obtain ⟨j0, j1, j2, j4, j5⟩ := HI4.out; have HR4 := Aside0.mk (Kd.R_of_own (enc := Value.int .u8) (h1 := fun _ => rfl) (ok := fun _ => True) ho1 (fun _ _ => trivial)); clear ho1 hb1 hg1 hat1)
          | fail)
        go_ret
        obtain ⟨B, d, e, p1, p2⟩ := Kd.R_reads HR4.out
        subst e
        exact ⟨B, d, rfl, p1, C_set p2 j1 (fun x => by simp) _, HI4.out.setAt _, (below_then HB3.out HB3.out.size HB4.out).setCell hg _, (HK3.out.below HB4.out).setCell (.inl rfl) _⟩
end Go.Proofs.YteapdhfeddgjbaaDoor.Wire
end
section
/- wire: the fields are written. -/
namespace Go.Proofs.YteapdhfeddgjbaaDoor.Wire
set_option linter.unusedVariables false
open Go.RowKit Go.Proofs.YteapdhfeddgjbaaDoor.PDj Go.Proofs.YteapdhfeddgjbaaDoorW Go.Proofs.YteapdhfeddgjbaaDoorW.PrintWords Go.Proofs.YteapdhfeddgjbaaDoorW.PrintLast Go.Proofs.YteapdhfeddgjbaaDoorW.PrintMore

theorem new_IsW (W w0 : World) (hs : w0.heap.size ≤ W.heap.size) : IsW (fun k => k = W.heap.size) (W.alloc (.cells #[.slice none 0 0] 133)) w0.heap.size W.heap.size [] :=
  ⟨rfl, hs, by simp, .slice none 0 0, by go_simp, by go_simp, Kd.R_nil _ _ _ _ _⟩
theorem IsW.grown {P : Nat → Prop} {W W2 : World} {base g : Nat} {l : List Int} {row : Option Nat} (h : IsW P W base g l) (hg : W.grownBy W2 row) (hr : ∀ k, row = some k → ¬ P k) : IsW P W2 base g l := by
  obtain ⟨h1, h2, h3, v, h4, h5, h6⟩ := h
  have hK : Kept W W2 (fun k => row = some k) := Kept.of_grown hg (Kept.refl W _) (fun k e => .inl e)
  have hne : some g ≠ row := fun e => hr g e.symm h1
  exact ⟨h1, h2, by have := hg.size; omega, v, cell_grown hg h4 hne, (World.grownBy.frozen_far hg _ h3 hne).trans h5, Kd.R_kept h6 hK (fun k hk e => hr k e hk.1)⟩
end Go.Proofs.YteapdhfeddgjbaaDoor.Wire
end
section
/- recall: an event's bytes. -/
namespace Go.Proofs.YteapdhfeddgjbaaDoor.Wire
set_option linter.unusedVariables false
set_option linter.unusedSimpArgs false
open Go.RowKit Go.Proofs.YteapdhfeddgjbaaDoor.Num Go.Proofs.YteapdhfeddgjbaaDoor.PDj Go.Proofs.YteapdhfeddgjbaaDoorW Go.Proofs.YteapdhfeddgjbaaDoorW.PrintWords Go.Proofs.YteapdhfeddgjbaaDoorW.PrintLast Go.Proofs.YteapdhfeddgjbaaDoorW.PrintMore

/-- An event's bytes. -/
def putb (k now fr : Int) (l : List Int) : List Int := bes 1 (k % 256) ++ (if k = 1 then bes 8 (if now < 0 then 0 else now) else bes 8 (if fr < 0 then 0 else fr) ++ (bes 4 (l.length : Int) ++ l))
/-- Which events may be. -/
def mayb (k now fr : Int) (l : List Int) : Bool := decide ((k = 1 ∧ 0 ≤ now ∧ now ≤ 1099511627776 ∧ fr = 0 ∧ l.length = 0) ∨ (k = 2 ∧ 0 ≤ fr ∧ fr ≤ 127 ∧ l.length ≤ 1048576 ∧ now = 0))
theorem within_is (n a b : Int) : recall_within.f n a b = some (decide (a ≤ n ∧ n ≤ b)) := by
  unfold recall_within.f
  by_cases h1 : a ≤ n <;> by_cases h2 : n ≤ b <;> simp [h1, h2] <;> omega
theorem may_is (k now fr : Int) (l : List Int) : recall_may.f k now fr l = some (mayb k now fr l) := by
  unfold recall_may.f mayb
  rw [within_is, within_is]
  simp only [Option.bind_some, decide_eq_true_eq]
  by_cases h1 : k = 1
  · rw [if_pos h1]
    by_cases h2 : 0 ≤ now ∧ now ≤ 1099511627776
    · rw [if_pos h2]
      by_cases h3 : fr = 0
      · rw [if_pos h3]
        congr 1
        by_cases h4 : l.length = 0
        · rw [decide_eq_true (.inl ⟨h1, h2.1, h2.2, h3, h4⟩)]; simp [h4]
        · rw [decide_eq_false (by omega)]; simpa using h4
      · rw [if_neg h3, decide_eq_false (by omega)]
    · rw [if_neg h2, decide_eq_false (by omega)]
  · rw [if_neg h1]
    by_cases h2 : k = 2
    · rw [if_pos h2]
      by_cases h3 : 0 ≤ fr ∧ fr ≤ 127
      · rw [if_pos h3]
        by_cases h4 : (l.length : Int) ≤ 1048576
        · rw [if_pos h4]
          congr 1
          by_cases h5 : now = 0
          · rw [decide_eq_true (.inr ⟨h2, h3.1, h3.2, by omega, h5⟩)]; simp [h5]
          · rw [decide_eq_false (by omega)]; simpa using h5
        · rw [if_neg h4, decide_eq_false (by omega)]
      · rw [if_neg h3, decide_eq_false (by omega)]
    · rw [if_neg h2, decide_eq_false (by omega)]
theorem refmay_is (k now fr : Int) (l : List Int) : cleromancyref32_May.f k now fr l = some (mayb k now fr l) := by
  unfold cleromancyref32_May.f mayb
  by_cases h1 : k = 1
  · rw [if_pos h1]
    by_cases h2 : now ≥ 0
    · rw [if_pos h2]
      by_cases h2' : now ≤ 1099511627776
      · rw [if_pos h2']
        by_cases h3 : fr = 0
        · rw [if_pos h3]
          congr 1
          by_cases h4 : l.length = 0
          · rw [decide_eq_true (.inl ⟨h1, h2, h2', h3, h4⟩)]; simp [h4]
          · rw [decide_eq_false (by omega)]; simpa using h4
        · rw [if_neg h3, decide_eq_false (by omega)]
      · rw [if_neg h2', decide_eq_false (by omega)]
    · rw [if_neg h2, decide_eq_false (by omega)]
  · rw [if_neg h1]
    by_cases h2 : k = 2
    · rw [if_pos h2]
      by_cases h3 : fr ≥ 0
      · rw [if_pos h3]
        by_cases h3' : fr ≤ 127
        · rw [if_pos h3']
          by_cases h4 : (l.length : Int) ≤ 1048576
          · rw [if_pos h4]
            congr 1
            by_cases h5 : now = 0
            · rw [decide_eq_true (.inr ⟨h2, h3, h3', by omega, h5⟩)]; simp [h5]
            · rw [decide_eq_false (by omega)]; simpa using h5
          · rw [if_neg h4, decide_eq_false (by omega)]
        · rw [if_neg h3', decide_eq_false (by omega)]
      · rw [if_neg h3, decide_eq_false (by omega)]
    · rw [if_neg h2, decide_eq_false (by omega)]
end Go.Proofs.YteapdhfeddgjbaaDoor.Wire
end
section
/- recall: an event's bytes, by the program. -/
namespace Go.Proofs.YteapdhfeddgjbaaDoor.Wire
set_option linter.unusedVariables false
set_option linter.unusedSimpArgs false
open Go.RowKit Go.Proofs.YteapdhfeddgjbaaDoor.Num Go.Proofs.YteapdhfeddgjbaaDoor.PDj Go.Proofs.YteapdhfeddgjbaaDoorW Go.Proofs.YteapdhfeddgjbaaDoorW.PrintWords Go.Proofs.YteapdhfeddgjbaaDoorW.PrintLast Go.Proofs.YteapdhfeddgjbaaDoorW.PrintMore

theorem far_new {w w2 : World} (o : Obj) (h : w.heap.size < w2.heap.size) : ¬ (w.heap.size = w2.heap.size ∨ (w2.alloc o).heap.size ≤ w.heap.size) := by
  have := (below_alloc (Below.refl w2.heap.size w2) o).size
  omega
theorem b02 : (0 : Int) ≤ 2 ∧ (2 : Int) < 256 := by omega
theorem b01 : (0 : Int) ≤ 1 ∧ (1 : Int) < 256 := by omega
/-- Behind Put: bytes, and whether the event may be. -/
def PutTold (w : World) (l : List Int) (err : Int) (e : Ending) (w' : World) : Prop :=
  ∃ A c, e = .returned (.tuple #[.slice A l.length c, .int .i64 err]) ∧ l.length ≤ c ∧ Kd.C (Kd.int .u8) w' A l.length l ∧ Below w.heap.size w w'
set_option maxHeartbeats 1600000 in
set_option maxRecDepth 100000 in
theorem put_no (k now fr : Int) (A : Option Addr) (n c : Nat) (l : List Int) (hn : l.length = n) (hc : n ≤ c) (w : World) (hr : Kd.C (Kd.int .u8) w A l.length l) (hm : mayb k now fr l = false) :
    Calls Tryd.prog 44 #[.agg #[.int .i64 k, .int .i64 now, .int .i64 fr, .slice A n c]] w (PutTold w [] 2) := by
  subst hn
  have HM := Aside0.mk (recall_may.calls k now fr A c l false (w.alloc (.cells #[.int .i64 k, .int .i64 now, .int .i64 fr, .slice A l.length c] 85)) (Kd.C_alloc hr _) hc (by rw [may_is, hm]))
  have hu79 := Tryd.underlying85
  clear hm hr
  go_enter Tryd.func44, Tryd.ntmps44
  go_wp2_with (first
    | (go_at_call 78; (with_reducible refine HM.out.mono ?_); rintro e w2 ⟨rfl, hb⟩; have HB2 := Aside0.mk hb; clear hb)
    | fail)
  go_ret2
  exact ⟨none, 0, rfl, Nat.le_refl _, Kd.C_nil _ _, below_then (below_alloc (Below.refl _ _) _) (below_alloc (Below.refl _ _) _).size HB2.out⟩
set_option maxHeartbeats 1600000 in
set_option maxRecDepth 100000 in
theorem put_time (now fr : Int) (A : Option Addr) (n c : Nat) (l : List Int) (hn : l.length = n) (hc : n ≤ c) (w : World) (hr : Kd.C (Kd.int .u8) w A l.length l) (hm : mayb 1 now fr l = true) (hb : -9223372036854775808 ≤ now ∧ now ≤ 9223372036854775807) :
    Calls Tryd.prog 44 #[.agg #[.int .i64 1, .int .i64 now, .int .i64 fr, .slice A n c]] w (PutTold w (putb 1 now fr l) 0) := by
  subst hn
  obtain ⟨W0, hW0⟩ : ∃ W, W = w.alloc (.cells #[.int .i64 1, .int .i64 now, .int .i64 fr, .slice A l.length c] 85) := ⟨_, rfl⟩
  have HM := Aside0.mk (recall_may.calls 1 now fr A c l true W0 (by rw [hW0]; exact Kd.C_alloc hr _) hc (by rw [may_is, hm]))
  have HB0 : Aside0 (Below w.heap.size w W0) := ⟨by rw [hW0]; exact below_alloc (Below.refl _ _) _⟩
  have HX0 : Aside0 (W0.cell? ⟨w.heap.size, 0, none⟩ = some (.int .i64 1)) := ⟨by rw [hW0]; go_simp⟩
  have HX1 : Aside0 (W0.cell? ⟨w.heap.size, 1, none⟩ = some (.int .i64 now)) := ⟨by rw [hW0]; go_simp⟩
  have hs0 : W0.heap.size = w.heap.size + 1 := by rw [hW0]; simp
  have HBND := Aside0.mk hb
  have HQ : Aside0 ([] ++ bes 1 1 ++ bes 8 (if now < 0 then 0 else now) = putb 1 now fr l) := ⟨by unfold putb; rw [if_pos rfl, List.nil_append]; rfl⟩
  have HQL : Aside0 ((putb 1 now fr l).length ≤ 10000000) := ⟨by rw [← HQ.out, List.length_append, List.length_append, bes_len, bes_len]; simp⟩
  obtain ⟨Q, hQ⟩ : ∃ Q, putb 1 now fr l = Q := ⟨_, rfl⟩
  rw [hQ] at HQ HQL ⊢
  clear hQ
  rw [hW0] at HM
  have hu79 := Tryd.underlying85
  clear hm hr hb
  go_enter Tryd.func44, Tryd.ntmps44
  go_wp2_with (first
    | (go_at_call 78; (with_reducible refine HM.out.mono ?_); rintro e w2 ⟨rfl, hb⟩; rw [← hW0] at hb; have x0 := pw_cell_below hb HX0.out; have x1 := pw_cell_below hb HX1.out; have HB2 := Aside0.mk (below_then HB0.out HB0.out.size hb); have hsz := hb.size; have hlt : w.heap.size < w2.heap.size := Nat.lt_of_lt_of_le (Nat.lt_of_lt_of_eq (Nat.lt_succ_self _) hs0.symm) hsz; have y0 := pw_cell_below (below_alloc (Below.refl w2.heap.size w2) (.cells #[.slice none 0 0] 133)) x0; have y1 := pw_cell_below (below_alloc (Below.refl w2.heap.size w2) (.cells #[.slice none 0 0] 133)) x1; clear hb)
    | (go_at_call 79; (with_reducible refine (byte_calls (fun k => k = w2.heap.size) w2.heap.size [] 1 b01 (Nat.zero_le _) w _ (below_alloc HB2.out _) (new_IsW w2 w HB2.out.size)).mono ?_); rintro e w3 ⟨⟨v, rfl⟩, hI, hb, hK⟩; have z1 := cell_kept y1 hK (fun h => Nat.ne_of_lt hlt h); have z0 := cell_kept y0 hK (fun h => Nat.ne_of_lt hlt h); have HI3 := Aside0.mk hI; have HB3 := Aside0.mk hb; clear hI hb hK)
    | (go_at_call 80; (with_reducible refine (int_calls _ w2.heap.size _ now HBND.out (Nat.le_of_ble_eq_true rfl) w w3 HB3.out HI3.out).mono ?_); rintro e w4 ⟨⟨v4, rfl⟩, hI, hb, -⟩; have HI4 := Aside0.mk (HQ.out ▸ hI); have HB4 := Aside0.mk hb; clear hI hb)
    | (go_at_call 82; (with_reducible refine (out_calls _ w2.heap.size w.heap.size Q HQL.out _ HI4.out).mono ?_); rintro e w5 ⟨B, d, rfl, p1, p2, p3⟩; have P1 := Aside0.mk p1; have P2 := Aside0.mk p2; have HB5 := Aside0.mk (below_then HB4.out HB4.out.size p3); clear p1 p2 p3)
    | fail)
  go_ret2
  exact ⟨B, d, rfl, P1.out, P2.out, HB5.out⟩
set_option maxHeartbeats 1600000 in
set_option maxRecDepth 100000 in
theorem put_letter (k now fr : Int) (hk : k = 2) (A : Option Addr) (n c : Nat) (l : List Int) (hn : l.length = n) (hc : n ≤ c) (hl : n ≤ 1000000) (w : World) (hr : Kd.C (Kd.int .u8) w A l.length l) (hm : mayb k now fr l = true) (hb : -9223372036854775808 ≤ fr ∧ fr ≤ 9223372036854775807) :
    Calls Tryd.prog 44 #[.agg #[.int .i64 k, .int .i64 now, .int .i64 fr, .slice A n c]] w (PutTold w (putb k now fr l) 0) := by
  subst hn hk
  obtain ⟨W0, hW0⟩ : ∃ W, W = w.alloc (.cells #[.int .i64 2, .int .i64 now, .int .i64 fr, .slice A l.length c] 85) := ⟨_, rfl⟩
  have HM := Aside0.mk (recall_may.calls 2 now fr A c l true W0 (by rw [hW0]; exact Kd.C_alloc hr _) hc (by rw [may_is, hm]))
  have HB0 : Aside0 (Below w.heap.size w W0) := ⟨by rw [hW0]; exact below_alloc (Below.refl _ _) _⟩
  have HX0 : Aside0 (W0.cell? ⟨w.heap.size, 0, none⟩ = some (.int .i64 2)) := ⟨by rw [hW0]; go_simp⟩
  have HX2 : Aside0 (W0.cell? ⟨w.heap.size, 2, none⟩ = some (.int .i64 fr)) := ⟨by rw [hW0]; go_simp⟩
  have HX3 : Aside0 (W0.cell? ⟨w.heap.size, 3, none⟩ = some (.slice A l.length c)) := ⟨by rw [hW0]; go_simp⟩
  have hs0 : W0.heap.size = w.heap.size + 1 := by rw [hW0]; simp
  have HBND := Aside0.mk hb
  have HR := Aside0.mk hr
  have HL := Aside0.mk hl
  have HQ : Aside0 ([] ++ bes 1 2 ++ bes 8 (if fr < 0 then 0 else fr) ++ bes 4 (l.length : Int) ++ l = putb 2 now fr l) := ⟨by rw [List.nil_append, List.append_assoc, List.append_assoc]; rfl⟩
  have HQL : Aside0 ((putb 2 now fr l).length ≤ 10000000) := ⟨by rw [← HQ.out, List.length_append, List.length_append, List.length_append, List.length_append, bes_len, bes_len, bes_len]; simp; omega⟩
  have HQ2 : Aside0 (([] ++ bes 1 2 ++ bes 8 (if fr < 0 then 0 else fr) : List Int).length ≤ 1000000) := ⟨by rw [List.length_append, List.length_append, bes_len, bes_len]; simp⟩
  obtain ⟨Q, hQ⟩ : ∃ Q, putb 2 now fr l = Q := ⟨_, rfl⟩
  rw [hQ] at HQ HQL ⊢
  clear hQ
  rw [hW0] at HM
  have hu79 := Tryd.underlying85
  clear hm hr hb hl
  go_enter Tryd.func44, Tryd.ntmps44
  go_wp2_with (first
    | (go_at_call 78; (with_reducible refine HM.out.mono ?_); rintro e w2 ⟨rfl, hb⟩; rw [← hW0] at hb; have x0 := pw_cell_below hb HX0.out; have x2 := pw_cell_below hb HX2.out; have x3 := pw_cell_below hb HX3.out; have HB2 := Aside0.mk (below_then HB0.out HB0.out.size hb); have hsz := hb.size; have hlt : w.heap.size < w2.heap.size := Nat.lt_of_lt_of_le (Nat.lt_of_lt_of_eq (Nat.lt_succ_self _) hs0.symm) hsz; have y0 := pw_cell_below (below_alloc (Below.refl w2.heap.size w2) (.cells #[.slice none 0 0] 133)) x0; have y2 := pw_cell_below (below_alloc (Below.refl w2.heap.size w2) (.cells #[.slice none 0 0] 133)) x2; have y3 := pw_cell_below (below_alloc (Below.refl w2.heap.size w2) (.cells #[.slice none 0 0] 133)) x3; clear hb)
    | (go_at_call 79; (with_reducible refine (byte_calls (fun k => k = w2.heap.size) w2.heap.size [] 2 b02 (Nat.zero_le _) w _ (below_alloc HB2.out _) (new_IsW w2 w HB2.out.size)).mono ?_); rintro e w3 ⟨⟨v, rfl⟩, hI, hb, hK⟩; have z2 := cell_kept y2 hK (fun h => Nat.ne_of_lt hlt h); have z3 := cell_kept y3 hK (fun h => Nat.ne_of_lt hlt h); have z0 := cell_kept y0 hK (fun h => Nat.ne_of_lt hlt h); have HI3 := Aside0.mk hI; have HB3 := Aside0.mk hb; clear hI hb hK)
    | (go_at_call 80; (with_reducible refine (int_calls _ w2.heap.size _ fr HBND.out (Nat.le_of_ble_eq_true rfl) w w3 HB3.out HI3.out).mono ?_); rintro e w4 ⟨⟨v4, rfl⟩, hI, hb, hK⟩; have t3 := cell_kept z3 hK (far_new _ hlt); have HI4 := Aside0.mk hI; have HB4 := Aside0.mk hb; clear hI hb hK)
    | (go_at_call 81; (with_reducible refine (bytes_calls _ w2.heap.size _ A l.length c l rfl HL.out HQ2.out w w4 HR.out HB4.out HI4.out).mono ?_); rintro e w5 ⟨⟨v5, rfl⟩, hI, hb, -⟩; have HI5 := Aside0.mk (HQ.out ▸ hI); have HB5 := Aside0.mk hb; clear hI hb)
    | (go_at_call 82; (with_reducible refine (out_calls _ w2.heap.size w.heap.size Q HQL.out _ HI5.out).mono ?_); rintro e w6 ⟨B, d, rfl, p1, p2, p3⟩; have P1 := Aside0.mk p1; have P2 := Aside0.mk p2; have HB6 := Aside0.mk (below_then HB5.out HB5.out.size p3); clear p1 p2 p3)
    | fail)
  go_ret2
  exact ⟨B, d, rfl, P1.out, P2.out, HB6.out⟩
/-- Put, whole. -/
theorem rput_calls (k now fr : Int) (A : Option Addr) (n c : Nat) (l : List Int) (hn : l.length = n) (hc : n ≤ c) (hl : n ≤ 1000000) (w : World) (hr : Kd.C (Kd.int .u8) w A l.length l) (hbn : -9223372036854775808 ≤ now ∧ now ≤ 9223372036854775807) (hbf : -9223372036854775808 ≤ fr ∧ fr ≤ 9223372036854775807) :
    Calls Tryd.prog 44 #[.agg #[.int .i64 k, .int .i64 now, .int .i64 fr, .slice A n c]] w (PutTold w (if mayb k now fr l = true then putb k now fr l else []) (if mayb k now fr l = true then 0 else 2)) := by
  by_cases hm : mayb k now fr l = true
  · rw [if_pos hm, if_pos hm]
    have hk : k = 1 ∨ k = 2 := by
      have := of_decide_eq_true hm
      omega
    rcases hk with hk | hk
    · subst hk; exact put_time now fr A n c l hn hc w hr hm hbn
    · exact put_letter k now fr hk A n c l hn hc hl w hr hm hbf
  · rw [if_neg hm, if_neg hm]
    exact put_no k now fr A n c l hn hc w hr (by simpa using hm)
end Go.Proofs.YteapdhfeddgjbaaDoor.Wire
end
