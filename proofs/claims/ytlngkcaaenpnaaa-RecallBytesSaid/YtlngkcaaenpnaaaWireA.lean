/- wire: the writer's calls. -/
import Derived.Test.YtlngkcaaenpnaaaPWix2
import Derived.Test.YtlngkcaaenpnaaaWKept
import Derived.Test.YtlngkcaaenpnaaaWMore
namespace Go.Proofs.Ytlngkcaaenpnaaa.Wire
set_option linter.unusedVariables false
open Go.RowKit Go.Proofs.Ytlngkcaaenpnaaa.PWi Go.Proofs.YtlngkcaaenpnaaaW Go.Proofs.YtlngkcaaenpnaaaW.PrintWords Go.Proofs.YtlngkcaaenpnaaaW.PrintLast Go.Proofs.YtlngkcaaenpnaaaW.PrintMore

/-- A writer: its block g holds a row of the call's own; its blocks are P's. -/
def IsW (P : Nat → Prop) (W : World) (base g : Nat) (l : List Int) : Prop :=
  P g ∧ base ≤ g ∧ g < W.heap.size ∧ ∃ v, W.cell? ⟨g, 0, none⟩ = some v ∧ W.frozen? ⟨g, 0, none⟩ = false ∧ Kd.R (Kd.int .u8) 5 W base (fun k => P k ∧ k ≠ g) v l
theorem IsW.mono {P Q : Nat → Prop} {W : World} {base g : Nat} {l : List Int} (h : IsW P W base g l) (hq : ∀ k, P k → Q k) : IsW Q W base g l := by
  obtain ⟨h1, h2, h3, v, h4, h5, h6⟩ := h
  exact ⟨hq g h1, h2, h3, v, h4, h5, Kd.R_mono h6 (fun k hk => ⟨hq k hk.1, hk.2⟩)⟩
/-- A row behind an append, stored. -/
theorem IsW.put {Q : Nat → Prop} {W w1 : World} {base g : Nat} {l l2 : List Int} {v v1 : Value} (hg : Q g) (hb : base ≤ g) (hlt : g < W.heap.size) (hc : W.cell? ⟨g, 0, none⟩ = some v) (hf : W.frozen? ⟨g, 0, none⟩ = false)
    (hR : Kd.R (Kd.int .u8) 5 W base (fun k => Q k ∧ k ≠ g) v l) (ho1 : w1.ownsRow base 5 1 v1 l2.length (nums .u8 l2)) (hg1 : W.grownBy w1 v.ownBlock) (hat1 : v1.ownBlock = v.ownBlock ∨ ∃ b, v1.ownBlock = some b ∧ W.heap.size ≤ b) (hnew : ∀ k, W.heap.size ≤ k → Q k) :
    w1.cell? ⟨g, 0, none⟩ = some v ∧ w1.frozen? ⟨g, 0, none⟩ = false ∧ IsW Q (w1.setCell ⟨g, 0, none⟩ v1) base g l2 ∧ Kept W (w1.setCell ⟨g, 0, none⟩ v1) Q := by
  have hne : some g ≠ v.ownBlock := fun e => (hR.1 g e.symm).2 rfl
  have hc1 : w1.cell? ⟨g, 0, none⟩ = some v := cell_grown hg1 hc hne
  have hf1 : w1.frozen? ⟨g, 0, none⟩ = false := (World.grownBy.frozen_far hg1 _ hlt hne).trans hf
  have hK : Kept W w1 Q := Kept.of_grown hg1 (Kept.refl W Q) (fun k e => .inl (hR.1 k e).1)
  have hR1 : Kd.R (Kd.int .u8) 5 w1 base (fun k => Q k ∧ k ≠ g) v1 l2 := Kd.R_of_own (enc := Value.int .u8) (h1 := fun _ => rfl) ho1 (fun k e => by
    rcases hat1 with h | ⟨b, h, hge⟩
    · rw [h] at e; exact hR.1 k e
    · rw [h] at e
      obtain rfl : b = k := by simpa using e
      exact ⟨hnew b hge, by omega⟩)
  have hK2 : Kept w1 (w1.setCell ⟨g, 0, none⟩ v1) (fun k => k = g) := Kept.setCell (S := fun k => k = g) (Kept.refl _ _) (.inl rfl) _
  refine ⟨hc1, hf1, ⟨hg, hb, by have := hg1.size; simp [World.setCell]; omega, v1, World.cell?_setCell_same' _ _ _ (by rw [hc1]; rfl), by rw [World.frozen?_setCell]; exact hf1, Kd.R_kept hR1 hK2 (fun k hk => hk.2)⟩, hK.setCell (.inl hg) _⟩
theorem lit1_own (W : World) (base : Nat) (hb : base ≤ W.heap.size) (x : Int) : Kd.C (Kd.int .u8) (W.alloc (.cells #[.int .u8 x] 5)) (some ⟨W.heap.size, 0, none⟩) [x].length [x] :=
  (Kd.R_reads' (Kd.R_of_own (enc := Value.int .u8) (h1 := fun _ => rfl) (ok := fun _ => True) (own_lit W base 5 .u8 [x] hb (by simp)) (fun _ _ => trivial))).2.2
theorem C_readsB {w : World} {A : Option Addr} {xs : List Int} (h : Kd.C (Kd.int .u8) w A xs.length xs) : ReadsInt w .u8 A xs.length xs :=
  ⟨rfl, h.2.1, fun hp => by
    obtain ⟨ad, e, _⟩ := Kd.at_int h 0 (by omega) (by omega)
    subst e
    refine ⟨ad, rfl, fun j hj => ?_⟩
    obtain ⟨ad', e, hc⟩ := Kd.at_int h (j : Int) (by omega) (by omega)
    cases e
    rw [Int.toNat_natCast] at hc
    rw [hc]
    simp [rd]⟩
/-- The lowest bytes of a number, the highest first. -/
def bes : Nat → Int → List Int
  | 0, _ => []
  | m + 1, n => (n / 256 ^ m % 256) :: bes m n
set_option maxHeartbeats 1600000 in
set_option maxRecDepth 100000 in
theorem put_calls (P : Nat → Prop) (g : Nat) (l : List Int) (n : Int) (m : Nat) (hn : 0 ≤ n ∧ n < 18446744073709551616) (hm : m ≤ 8) (hl : l.length ≤ 1000000) (w0 w : World) (hB : Below w0.heap.size w0 w) (hW : IsW P w w0.heap.size g l) :
    Calls Try.prog 63 #[.pointer (some ⟨g, 0, none⟩), .int .u64 n, .int .i64 m] w fun e w' => (∃ v, e = .returned v) ∧ IsW (fun k => P k ∨ w.heap.size ≤ k) w' w0.heap.size g (l ++ bes m n) ∧ Below w0.heap.size w0 w' ∧ Kept w w' P := by
  have HB := Aside0.mk hB
  have HW := Aside0.mk hW
  clear hB hW
  go_enter Try.func63, Try.ntmps63
  go_wp2
  go_loopw [6] (fun v6 wr => ∃ (k : Nat) (l' : List Int), k ≤ m ∧ v6 = .int .i64 (8 * (k : Int) - 8) ∧ l'.length + k = l.length + m ∧ w.heap.size ≤ wr.heap.size ∧ Aside0 (l' ++ bes k n = l ++ bes m n) ∧ Aside0 (IsW (fun k => P k ∨ w.heap.size ≤ k) wr w0.heap.size g l') ∧ Aside0 (Below w0.heap.size w0 wr) ∧ Aside0 (Kept w wr P))
    (fun v6 _ => (intOf v6 + 8).toNat)
  case atStart => exact ⟨m, l, Nat.le_refl _, by first | rfl | (congr 1; omega), rfl, Nat.le_refl _, ⟨rfl⟩, ⟨HW.out.mono (fun k hk => .inl hk)⟩, HB, ⟨Kept.refl _ _⟩⟩
  case round =>
    obtain ⟨k, l', hk, rfl, hll, hws, HL, HI, HBr, HK⟩ := hrel
    by_cases hlt : 0 < k
    · obtain ⟨j, rfl⟩ : ∃ j, k = j + 1 := ⟨k - 1, by omega⟩
      rw [show 8 * ((j + 1 : Nat) : Int) - 8 = ((8 * j : Nat) : Int) from by omega]
      obtain ⟨s, hs⟩ : ∃ s : Nat, s = 8 * j := ⟨_, rfl⟩
      rw [← hs]
      have hs8 : s ≤ 56 := by omega
      obtain ⟨x, hx⟩ : ∃ x, IntKind.u8.wrap (n / 2 ^ s) = x := ⟨_, rfl⟩
      have hx2 : x = n / 256 ^ j % 256 := by
        rw [← hx, hs]
        have : (256 : Int) ^ j = 2 ^ (8 * j) := by rw [Int.pow_mul]; rfl
        rw [this]
        simp [IntKind.wrap, IntKind.bits, IntKind.signed]
      obtain ⟨q1, q2, q3, v, q4, q5, q6⟩ := HI.out
      have HR := Aside0.mk q6
      have HQ1 := Aside0.mk q1
      have HOL : Aside0 ((wr.alloc (.cells #[.int .u8 x] 5)).ownsRow w0.heap.size 5 1 v l'.length (nums .u8 l')) := ⟨(Kd.own_of_R q6).alloc _⟩
      have HRI := Aside0.mk (C_readsB (lit1_own wr w0.heap.size (by have := HBr.out.size; omega) x))
      have HBa := Aside0.mk (HBr.out.alloc HBr.out.size (.cells #[.int .u8 x] 5))
      have hca : (wr.alloc (.cells #[.int .u8 x] 5)).cell? ⟨g, 0, none⟩ = some v := ((below_alloc (Below.refl _ _) _).cell (World.block_lt_of_cell? _ _ q4)).trans q4
      have hfa : (wr.alloc (.cells #[.int .u8 x] 5)).frozen? ⟨g, 0, none⟩ = false := ((below_alloc (Below.refl _ _) _).frozen (World.block_lt_of_cell? _ _ q4)).trans q5
      have HRa := Aside0.mk (Kd.R_alloc HR.out (.cells #[.int .u8 x] 5))
      have hsz := HBr.out.size
      have HS := Aside0.mk hs
      have HX2 := Aside0.mk hx2
      clear q1 q6 HI hx2 hs
      go_wp2_with (first
        | (at_builtin; refine print_append_row (w0 := w0) w0.heap.size rfl _ _ 41 5 .u8 1 rfl Try.underlying41 info5 (by decide) _ l' [x] (some ⟨wr.heap.size, 0, none⟩) 1 1 rfl rfl HOL.out HRI.out HBa.out (by simp; omega) (by simp; omega) ?_; intro v1 w1 ho1 hb1 hg1 hat1; have HB1 := Aside0.mk hb1; obtain ⟨hc1, hf1, hI1, hK1⟩ := IsW.put HQ1.out q2 (by simp; omega) hca hfa HRa.out ho1 hg1 hat1 (fun k hk => .inr (by simp at hk; omega)); have HI1 := Aside0.mk hI1; have HK1 := Aside0.mk hK1; obtain ⟨A1, c1, e1⟩ := Kd.R_slice (Kd.R_of_own (enc := Value.int .u8) (h1 := fun _ => rfl) (ok := fun _ => True) ho1 (fun _ _ => trivial)); subst e1; clear hb1 hI1 hK1 ho1 hg1 hat1)
        | fail)
      have hL2 : l' ++ [x] ++ bes j n = l ++ bes m n := by
        rw [← HL.out, bes, HX2.out, List.append_assoc]; rfl
      have HL2 := Aside0.mk hL2
      have eL : (l' ++ [x]).length = l'.length + 1 := by simp
      rw [eL] at HI1 HK1
      clear hL2
      go_roundw
      case rel => exact ⟨j, l' ++ [x], by omega, by have := HS.out; congr 1; omega, by simp; omega, by have := HK1.out.1; simp [World.setCell] at this ⊢; omega, HL2, HI1, ⟨HB1.out.setCell q2 _⟩, ⟨(HK.out.alloc _).then_ HK1.out (fun _ h => h)⟩⟩
      case measure => have := HS.out; simp [intOf]; omega
    · obtain rfl : k = 0 := by omega
      have hF : l' = l ++ bes m n := by have := HL.out; rwa [bes, List.append_nil] at this
      have HF := Aside0.mk hF
      clear hF
      go_wp2
      first | go_end0 | go_ret
      exact ⟨⟨_, rfl⟩, by rw [← HF.out]; exact HI.out, HBr.out, HK.out⟩
end Go.Proofs.Ytlngkcaaenpnaaa.Wire
