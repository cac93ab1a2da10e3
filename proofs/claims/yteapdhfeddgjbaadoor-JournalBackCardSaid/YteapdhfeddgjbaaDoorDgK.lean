/- journal: Frame; slices.Clone, by the program's text. -/
import Derived.Test.YteapdhfeddgjbaaDoorDgJ
namespace Go.Proofs.YteapdhfeddgjbaaDoor.Dg
set_option linter.unusedVariables false
set_option linter.unusedSimpArgs false
open Go.RowKit Go.Proofs.YteapdhfeddgjbaaDoor.PDb Go.Proofs.YteapdhfeddgjbaaDoorW Go.Proofs.YteapdhfeddgjbaaDoorW.PrintWords Go.Proofs.YteapdhfeddgjbaaDoorW.PrintLast Go.Proofs.YteapdhfeddgjbaaDoorW.PrintMore

theorem eqlSome (ad : Addr) (n c : Nat) (w : World) : (binOp .eql 24 (.slice (some ad) n c) (.slice none 0 0)).run Tryd.prog w = .ok (.bool false) w := by kernel_rfl
theorem eqlNil (n c : Nat) (w : World) : (binOp .eql 24 (.slice none n c) (.slice none 0 0)).run Tryd.prog w = .ok (.bool true) w := by kernel_rfl
/-- A row of bytes that is the call's own. -/
def Own (w : World) (l : List Int) (e : Ending) (w' : World) : Prop := ∃ v, e = .returned v ∧ Kd.R (Kd.int .u8) 5 w' w.heap.size (fun _ => True) v l ∧ Below w.heap.size w w'
set_option maxHeartbeats 1600000 in
set_option maxRecDepth 100000 in
theorem clone_calls (A : Option Addr) (n c : Nat) (lb : List Int) (hn : lb.length = n) (hlb : n ≤ 10000000) (w : World) (hb : Kd.C (Kd.int .u8) w A lb.length lb) :
    Calls Tryd.prog 49 #[.slice A n c] w (Own w lb) := by
  have hrd := C_readsK (Kd.C_alloc hb (.cells #[] 5))
  rw [hn] at hrd
  have HRI := Aside0.mk hrd
  have HN := Aside0.mk hn
  have HOL : Aside0 ((w.alloc (.cells #[] 5)).ownsRow w.heap.size 5 1 (.slice (some ⟨w.heap.size, 0, none⟩) 0 0) ([] : List Int).length (nums .u8 [])) := ⟨own_lit w w.heap.size 5 .u8 [] (Nat.le_refl _) (by simp)⟩
  have HBa := Aside0.mk (below_alloc (Below.refl w.heap.size w) (.cells #[] 5))
  have hb0 := hb
  clear hb hrd hn
  cases A with
  | none =>
    have hz : n = 0 := by
      by_cases h : n = 0
      · exact h
      · obtain ⟨ad, e⟩ := C_some hb0 (by have := HN.out; omega)
        cases e
    have hlb0 : lb = [] := List.eq_nil_of_length_eq_zero (by have := HN.out; omega)
    subst hlb0
    clear HRI HOL HBa hb0 HN
    subst hz
    have hq := eqlNil 0 c w
    go_enter Tryd.func49, Tryd.ntmps49
    go_wp2
    go_ret
    exact ⟨_, rfl, Kd.R_nil _ _ _ _ _, Below.refl _ _⟩
  | some ad =>
    have HB0 := Aside0.mk hb0
    clear hb0
    have hq := eqlSome ad n c w
    go_enter Tryd.func49, Tryd.ntmps49
    go_wp2_with (first
      | (at_builtin; refine print_append_row (w0 := w) w.heap.size rfl _ _ 24 5 .u8 1 rfl Tryd.underlying24 info5 (by decide) _ [] lb (some ad) n c rfl rfl HOL.out HRI.out HBa.out (by simp) (by simp; omega) ?_; intro v1 w2 ho1 hb1 hg1 hat1; have HB2 := Aside0.mk hb1; have HR1 := Aside0.mk (Kd.R_of_own (enc := Value.int .u8) (h1 := fun _ => rfl) (ok := fun _ => True) ho1 (fun _ _ => trivial)); clear hb1 ho1 hg1 hat1)
      | fail)
    go_ret
    exact ⟨_, rfl, HR1.out, HB2.out⟩

theorem u8_shr (n k : Nat) : IntKind.u8.wrap ((n : Int) / 2 ^ k) = (n : Int) / 2 ^ k % 256 := by rw [IntKind.wrap_u8]
theorem parts3 (w : World) (A0 A1 A2 : Option Addr) (c0 c1 c2 : Nat) (l0 l1 l2 : List Int) (t : TypeId) (h0 : Kd.C (Kd.int .u8) w A0 l0.length l0) (h1 : Kd.C (Kd.int .u8) w A1 l1.length l1) (h2 : Kd.C (Kd.int .u8) w A2 l2.length l2) (k0 : l0.length ≤ c0) (k1 : l1.length ≤ c1) (k2 : l2.length ≤ c2) :
    Parts (w.alloc (.cells #[.slice A0 l0.length c0, .slice A1 l1.length c1, .slice A2 l2.length c2] t)) w.heap.size [⟨A0, c0, l0⟩, ⟨A1, c1, l1⟩, ⟨A2, c2, l2⟩] := fun i hi => by
  match i, hi with
  | 0, _ => exact ⟨by rw [World.cell?_alloc_new]; rfl, Kd.C_alloc h0 _, k0⟩
  | 1, _ => exact ⟨by rw [World.cell?_alloc_new]; rfl, Kd.C_alloc h1 _, k1⟩
  | 2, _ => exact ⟨by rw [World.cell?_alloc_new]; rfl, Kd.C_alloc h2 _, k2⟩
theorem w4_small (n : Nat) (h : n ≤ 900000) : w4 (n : Int) = [(n : Int) / 16777216, (n : Int) / 65536, (n : Int) / 256 % 256, (n : Int) % 256] := by
  unfold w4
  congr 1
  · omega
  · congr 1; omega
set_option maxHeartbeats 4000000 in
set_option maxRecDepth 100000 in
theorem frame_calls (A : Option Addr) (n c : Nat) (r : List Int) (hr : r.length = n) (h1 : n ≤ 900000) (hc : n ≤ c) (hbr : Bt r) (w : World) (hR : Kd.C (Kd.int .u8) w A r.length r) (hK : Tab w 2 KK) :
    Calls Tryd.prog 12 #[.slice A n c] w (Own w (frm r)) := by
  obtain ⟨s, hs⟩ : ∃ s, w4 (n : Int) = s := ⟨_, rfl⟩
  have hbs : Bt s := by rw [← hs]; exact w4_Bt _
  have hsl : s.length = 4 := by rw [← hs]; rfl
  have hfr : frm r = s ++ (chk s r ++ r) := by unfold frm; rw [hr, hs]
  have hB0 := below_alloc (Below.refl w.heap.size w) (.cells (nums .u8 s).toArray 5)
  have hnum : nums .u8 s = [.int .u8 ((n : Int) / 16777216), .int .u8 ((n : Int) / 65536), .int .u8 ((n : Int) / 256 % 256), .int .u8 ((n : Int) % 256)] := by rw [← hs, w4_small n h1]; rfl
  have hS := litK_own w w.heap.size 5 .u8 s (Nat.le_refl _) (by omega)
  have HCK : Aside0 (Calls Tryd.prog 47 #[.slice (some ⟨w.heap.size, 0, none⟩) 4 4, .slice A n c] (w.alloc (.cells (nums .u8 s).toArray 5)) fun e w' => ∃ A c, e = .returned (.slice A 8 c) ∧ 8 ≤ c ∧ Kd.C (Kd.int .u8) w' A (chk s r).length (chk s r) ∧ Below (w.alloc (.cells (nums .u8 s).toArray 5)).heap.size (w.alloc (.cells (nums .u8 s).toArray 5)) w') :=
    ⟨check_calls (some ⟨w.heap.size, 0, none⟩) 4 4 s A n c r hsl hr (by omega) h1 (by omega) hc hbs hbr _ hS (Kd.C_alloc hR _) (hK.below (below_alloc (Below.refl _ _) _))⟩
  have HS := Aside0.mk hS
  have HR := Aside0.mk (Kd.C_alloc hR (.cells (nums .u8 s).toArray 5))
  have HB0 := Aside0.mk hB0
  have HF := Aside0.mk hfr
  have HRL := Aside0.mk hr
  have HSL := Aside0.mk hsl
  rw [hnum] at HCK HS HR HB0
  clear hs hbs hsl hfr hB0 hnum hS hR hK hr hbr
  go_enter Tryd.func12, Tryd.ntmps12
  go_wp2_with (first
    | (go_at_call 47; (with_reducible refine HCK.out.mono ?_); rintro e w1 ⟨A1, c1, rfl, hc1, h1, hb⟩; have H1 := Aside0.mk h1; have HB := Aside0.mk hb; clear h1 hb)
    | (go_at_call 46; have hP := parts3 w1 _ A1 A 4 c1 c _ (chk s r) r 24 (Kd.C_below HS.out HB.out) H1.out (Kd.C_below HR.out HB.out) (Nat.le_of_eq HSL.out) (by rw [chk_len]; exact hc1) (by rw [HRL.out]; exact hc); rw [HSL.out, chk_len, HRL.out] at hP; (with_reducible refine (concat_calls w1.heap.size 3 _ 3 rfl (Nat.le_refl _) (by omega) (by simp only [tot, List.length_append, HSL.out]; omega) (by simp only [tot, List.length_append, HSL.out, chk_len, HRL.out, List.length_nil]; omega) _ hP).mono ?_); rintro e w2 ⟨v, rfl, ho, hb⟩; have HO := Aside0.mk ho; have HB2 := Aside0.mk hb; clear ho hb hP)
    | fail)
  go_ret
  refine ⟨_, rfl, ?_, ?_⟩
  · rw [HF.out]
    have h := HO.out
    simp only [tot, List.append_nil] at h
    exact Kd.R_lower h (by have h1 := HB0.out.size; have h2 := HB.out.size; have h3 := (below_alloc (Below.refl w1.heap.size w1) (.cells #[.slice (some ⟨w.heap.size, 0, none⟩) 4 4, .slice A1 8 c1, .slice A n c] 24)).size; omega)
  · exact below_then HB0.out HB0.out.size (below_then HB.out HB.out.size (below_then (below_alloc (Below.refl _ _) _) (by simp) HB2.out))
end Go.Proofs.YteapdhfeddgjbaaDoor.Dg
