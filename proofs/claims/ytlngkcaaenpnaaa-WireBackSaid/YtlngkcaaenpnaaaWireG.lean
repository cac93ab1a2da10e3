/- wire: what is written is read, in plain Lean. -/
import Derived.Test.YtlngkcaaenpnaaaWireF
namespace Go.Proofs.Ytlngkcaaenpnaaa.Wire
set_option linter.unusedVariables false
set_option linter.unusedSimpArgs false
open Go.RowKit Go.Proofs.Ytlngkcaaenpnaaa.Num Go.Proofs.Ytlngkcaaenpnaaa.PWi Go.Proofs.YtlngkcaaenpnaaaW Go.Proofs.YtlngkcaaenpnaaaW.PrintWords Go.Proofs.YtlngkcaaenpnaaaW.PrintLast Go.Proofs.YtlngkcaaenpnaaaW.PrintMore

theorem step_fact (N : Nat) (lim : Int) (L : List Int) (at_ : Nat) (bad : Int) (ha : at_ ≤ L.length) (hb1 : -1 ≤ bad) (hb : bad ≤ L.length) :
    (step N lim L at_ bad).2.1 ≤ L.length ∧ -1 ≤ (step N lim L at_ bad).2.2 ∧ (step N lim L at_ bad).2.2 ≤ L.length ∧ ((step N lim L at_ bad).2.2 < 0 → bad < 0 ∧ (step N lim L at_ bad).2.1 = at_ + N) := by
  refine ⟨step_at ha, ?_, ?_, fun h => ?_⟩
  · unfold step; split
    · exact hb1
    · split
      · show (-1 : Int) ≤ (at_ : Int); omega
      · split
        · show (-1 : Int) ≤ (at_ : Int); omega
        · exact hb1
  · unfold step; split
    · exact hb
    · split
      · show (at_ : Int) ≤ _; omega
      · split
        · show (at_ : Int) ≤ _; omega
        · exact hb
  · obtain ⟨h1, h2, h3, h4, h5, h6⟩ := step_at' h
    exact ⟨h5, h2⟩
theorem step_good (N v : Nat) (lim : Int) (L R : List Int) (at_ : Nat) (bad : Int) (hN : 1 ≤ N) (hb : bad < 0) (hv : v < 256 ^ N) (hl : (v : Int) ≤ lim) (hd : L.drop at_ = be N v ++ R) :
    step N lim L at_ bad = ((v : Int), at_ + N, bad) := by
  have hlen := congrArg List.length hd
  rw [List.length_drop, List.length_append, be_len] at hlen
  have ht : (L.drop at_).take N = be N v := by rw [hd, List.take_left' (be_len N v)]
  have hbv : bv ((L.drop at_).take N) = v := by rw [ht, bv_be N v hv]
  rw [step_ok hb (by omega) (by rw [hbv]; exact hl), hbv]
/-- A field is read: whether it is the field's, and how the reader stands. -/
def rdf (x : S69) (L : List Int) (at_ : Nat) (bad : Int) : Bool × Nat × Int :=
  if x.f0 = 1 then (decide ((step 1 255 L at_ bad).1 = x.f1 % 256), (step 1 255 L at_ bad).2)
  else if x.f0 = 2 then (decide ((step 8 9223372036854775807 L at_ bad).1 = x.f1), (step 8 9223372036854775807 L at_ bad).2)
  else if x.f0 = 3 then (decide ((bstep (x.f2.length : Int) (x.f2.length : Int) L at_ bad).1 = x.f2), (bstep (x.f2.length : Int) (x.f2.length : Int) L at_ bad).2)
  else (decide ((step 4 x.f1 L at_ bad).1 = x.f1), (step 4 x.f1 L at_ bad).2)
theorem rdf_1 {x : S69} {L : List Int} {at_ : Nat} {bad : Int} (h : x.f0 = 1) : rdf x L at_ bad = (decide ((step 1 255 L at_ bad).1 = x.f1 % 256), (step 1 255 L at_ bad).2) := by rw [rdf, if_pos h]
theorem rdf_2 {x : S69} {L : List Int} {at_ : Nat} {bad : Int} (h : x.f0 = 2) : rdf x L at_ bad = (decide ((step 8 9223372036854775807 L at_ bad).1 = x.f1), (step 8 9223372036854775807 L at_ bad).2) := by rw [rdf, if_neg (by omega), if_pos h]
theorem rdf_3 {x : S69} {L : List Int} {at_ : Nat} {bad : Int} (h : x.f0 = 3) : rdf x L at_ bad = (decide ((bstep (x.f2.length : Int) (x.f2.length : Int) L at_ bad).1 = x.f2), (bstep (x.f2.length : Int) (x.f2.length : Int) L at_ bad).2) := by rw [rdf, if_neg (by omega), if_neg (by omega), if_pos h]
theorem rdf_4 {x : S69} {L : List Int} {at_ : Nat} {bad : Int} (h : x.f0 = 4) : rdf x L at_ bad = (decide ((step 4 x.f1 L at_ bad).1 = x.f1), (step 4 x.f1 L at_ bad).2) := by rw [rdf, if_neg (by omega), if_neg (by omega), if_neg (by omega)]
/-- A field of which the statement speaks. -/
def Good (x : S69) : Prop := 1 ≤ x.f0 ∧ x.f0 ≤ 4 ∧ 0 ≤ x.f1 ∧ x.f1 ≤ 9223372036854775807 ∧ (x.f0 = 4 → x.f1 ≤ 4294967295) ∧ x.f2.length ≤ 500
theorem bstep_fact (m : Nat) (L : List Int) (at_ : Nat) (bad : Int) (ha : at_ ≤ L.length) (hb1 : -1 ≤ bad) (hb : bad ≤ L.length) :
    (bstep (m : Int) (m : Int) L at_ bad).2.1 ≤ L.length ∧ -1 ≤ (bstep (m : Int) (m : Int) L at_ bad).2.2 ∧ (bstep (m : Int) (m : Int) L at_ bad).2.2 ≤ L.length ∧ ((bstep (m : Int) (m : Int) L at_ bad).2.2 < 0 → bad < 0 ∧ (bstep (m : Int) (m : Int) L at_ bad).2.1 = at_ + (4 + m)) := by
  obtain ⟨f1, f2, f3, f4⟩ := step_fact 4 (m : Int) L at_ bad ha hb1 hb
  have hs := fun h => step_at' (N := 4) (lim := (m : Int)) (l := L) (at_ := at_) (bad := bad) h
  have hle : (step 4 (m : Int) L at_ bad).2.2 < 0 → (step 4 (m : Int) L at_ bad).1 ≤ m := fun h => by
    unfold step at h ⊢
    split at h
    · simp at h; omega
    · split at h
      · simp at h; omega
      · split at h
        · simp at h; omega
        · rename_i g1 g2 g3
          rw [if_neg g1, if_neg g2, if_neg g3]
          show (bv ((L.drop at_).take 4) : Int) ≤ m
          omega
  unfold bstep
  by_cases h1 : 0 ≤ (step 4 (m : Int) L at_ bad).2.2
  · rw [if_pos h1]
    exact ⟨f1, f2, f3, fun h => by have h' : (step 4 (m : Int) L at_ bad).2.2 < 0 := h; omega⟩
  · rw [if_neg h1]
    obtain ⟨g1, g2, g3, g4, g5, g6⟩ := hs (by omega)
    by_cases h2 : (step 4 (m : Int) L at_ bad).1 < (m : Int) ∨ (L.length : Int) - ((step 4 (m : Int) L at_ bad).2.1 : Int) < (step 4 (m : Int) L at_ bad).1
    · rw [if_pos h2]
      exact ⟨ha, by show (-1 : Int) ≤ (at_ : Int); omega, by show (at_ : Int) ≤ _; omega, fun h => by have h' : (at_ : Int) < 0 := h; omega⟩
    · rw [if_neg h2]
      have := hle (by omega)
      have hm : (step 4 (m : Int) L at_ bad).1.toNat = m := by omega
      rw [hm]
      refine ⟨?_, f2, f3, fun _ => ⟨g5, ?_⟩⟩
      · show (step 4 (m : Int) L at_ bad).2.1 + m ≤ L.length
        omega
      · show (step 4 (m : Int) L at_ bad).2.1 + m = at_ + (4 + m)
        omega
theorem bstep_good (x : List Int) (L R : List Int) (at_ : Nat) (bad : Int) (hx : x.length ≤ 4294967295) (hb : bad < 0) (hd : L.drop at_ = be 4 x.length ++ x ++ R) :
    bstep (x.length : Int) (x.length : Int) L at_ bad = (x, at_ + (4 + x.length), bad) := by
  have hs : step 4 (x.length : Int) L at_ bad = ((x.length : Int), at_ + 4, bad) := step_good 4 x.length _ L (x ++ R) at_ bad (by omega) hb (by omega) (by omega) (by rw [hd, List.append_assoc])
  have hlen := congrArg List.length hd
  rw [List.length_drop, List.length_append, List.length_append, be_len] at hlen
  unfold bstep
  rw [hs, if_neg (by show ¬ (0 ≤ bad); omega), if_neg]
  · show ((L.drop (at_ + 4)).take (x.length : Int).toNat, at_ + 4 + (x.length : Int).toNat, bad) = _
    rw [Int.toNat_natCast, ← List.drop_drop, hd, List.append_assoc, List.drop_left' (be_len 4 _), List.take_left' rfl, Nat.add_assoc]
  · show ¬ ((x.length : Int) < (x.length : Int) ∨ (L.length : Int) - ((at_ + 4 : Nat) : Int) < (x.length : Int))
    omega
theorem rdf_fact (x : S69) (hg : Good x) (L : List Int) (at_ : Nat) (bad : Int) (ha : at_ ≤ L.length) (hb1 : -1 ≤ bad) (hb : bad ≤ L.length) :
    (rdf x L at_ bad).2.1 ≤ L.length ∧ -1 ≤ (rdf x L at_ bad).2.2 ∧ (rdf x L at_ bad).2.2 ≤ L.length ∧ ((rdf x L at_ bad).2.2 < 0 → bad < 0 ∧ (rdf x L at_ bad).2.1 = at_ + (fld x).length) := by
  obtain ⟨g1, g2, g3, g4, g5, g6⟩ := hg
  by_cases h1 : x.f0 = 1
  · rw [rdf_1 h1, fld, if_pos h1, bes_len]; exact step_fact _ _ _ _ _ ha hb1 hb
  · by_cases h2 : x.f0 = 2
    · rw [rdf_2 h2, fld, if_neg h1, if_pos h2, bes_len]; exact step_fact _ _ _ _ _ ha hb1 hb
    · by_cases h3 : x.f0 = 3
      · rw [rdf_3 h3, fld, if_neg h1, if_neg h2, if_pos h3, List.length_append, bes_len]; exact bstep_fact _ _ _ _ ha hb1 hb
      · have h4 : x.f0 = 4 := by omega
        rw [rdf_4 h4, fld, if_neg h1, if_neg h2, if_neg h3, if_pos h4, bes_len]; exact step_fact _ _ _ _ _ ha hb1 hb
theorem rdf_good (x : S69) (hg : Good x) (L R : List Int) (at_ : Nat) (bad : Int) (hb : bad < 0) (hd : L.drop at_ = fld x ++ R) : rdf x L at_ bad = (true, at_ + (fld x).length, bad) := by
  obtain ⟨g1, g2, g3, g4, g5, g6⟩ := hg
  obtain ⟨v, hv⟩ : ∃ v : Nat, x.f1 = (v : Int) := ⟨x.f1.toNat, by omega⟩
  by_cases h1 : x.f0 = 1
  · have hF : fld x = be 1 (v % 256) := by rw [fld, if_pos h1, hv, show (v : Int) % 256 = ((v % 256 : Nat) : Int) from by omega, bes_be]
    rw [hF] at hd ⊢
    rw [rdf_1 h1, step_good 1 (v % 256) 255 L R at_ bad (by omega) hb (by omega) (by omega) hd, be_len, hv]
    show (decide (((v % 256 : Nat) : Int) = (v : Int) % 256), _) = _
    rw [decide_eq_true (by omega)]
  · by_cases h2 : x.f0 = 2
    · have hF : fld x = be 8 v := by rw [fld, if_neg h1, if_pos h2, if_neg (by omega), hv, bes_be]
      rw [hF] at hd ⊢
      rw [rdf_2 h2, step_good 8 v 9223372036854775807 L R at_ bad (by omega) hb (by omega) (by omega) hd, be_len, hv]
      show (decide ((v : Int) = (v : Int)), _) = _
      rw [decide_eq_true rfl]
    · by_cases h3 : x.f0 = 3
      · have hF : fld x = be 4 x.f2.length ++ x.f2 := by rw [fld, if_neg h1, if_neg h2, if_pos h3, bes_be]
        rw [hF] at hd ⊢
        rw [rdf_3 h3, bstep_good x.f2 L R at_ bad (by omega) hb hd, List.length_append, be_len]
        show (decide (x.f2 = x.f2), _) = _
        rw [decide_eq_true rfl]
      · have h4 : x.f0 = 4 := by omega
        have hF : fld x = be 4 v := by rw [fld, if_neg h1, if_neg h2, if_neg h3, if_pos h4, cnt, if_neg (by have := g5 h4; omega), hv, bes_be]
        rw [hF] at hd ⊢
        rw [rdf_4 h4, hv, step_good 4 v (v : Int) L R at_ bad (by omega) hb (by have := g5 h4; omega) (by omega) hd, be_len]
        show (decide ((v : Int) = (v : Int)), _) = _
        rw [decide_eq_true rfl]
theorem flds_append (a b : List S69) : flds (a ++ b) = flds a ++ flds b := by unfold flds; rw [List.map_append, List.flatten_append]
/-- So far so many fields are read. -/
structure Inv (L : List Int) (l0 : List S69) (i : Nat) (at_ : Nat) (bad : Int) (same : Bool) : Prop where
  a : at_ ≤ L.length
  b : -1 ≤ bad
  c : bad ≤ L.length
  d : bad < 0 → at_ = (flds (l0.take i)).length
  e : ∀ s, L = flds l0 ++ s → bad < 0 ∧ same = true
theorem Inv.start (L : List Int) (l0 : List S69) : Inv L l0 0 0 (-1) true := ⟨Nat.zero_le _, by omega, by omega, fun _ => by simp [flds], fun s _ => ⟨by omega, rfl⟩⟩
theorem Inv.step {L : List Int} {l0 : List S69} {i at_ : Nat} {bad : Int} {same : Bool} (h : Inv L l0 i at_ bad same) (hi : i < l0.length) (x : S69) (hx : x = l0[i]) (hg : Good x) :
    Inv L l0 (i + 1) (rdf x L at_ bad).2.1 (rdf x L at_ bad).2.2 ((rdf x L at_ bad).1 && same) := by
  obtain ⟨f1, f2, f3, f4⟩ := rdf_fact x hg L at_ bad h.a h.b h.c
  have ht : l0.take (i + 1) = l0.take i ++ [x] := by rw [List.take_add_one, List.getElem?_eq_getElem hi, Option.toList_some, hx]
  have hF : flds (l0.take (i + 1)) = flds (l0.take i) ++ fld x := by rw [ht, flds_append]; simp [flds]
  refine ⟨f1, f2, f3, fun hb => ?_, fun s hs => ?_⟩
  · obtain ⟨k1, k2⟩ := f4 hb
    rw [k2, hF, List.length_append, h.d k1]
  · obtain ⟨k1, k2⟩ := h.e s hs
    have hd : L.drop at_ = fld x ++ (flds (l0.drop (i + 1)) ++ s) := by
      rw [hs, h.d k1]
      have e0 : flds l0 = flds (l0.take i) ++ (fld x ++ flds (l0.drop (i + 1))) := by
        rw [← List.append_assoc, ← hF, ← flds_append, List.take_append_drop]
      rw [e0, List.append_assoc, List.append_assoc, List.drop_left]
    rw [rdf_good x hg L _ at_ bad k1 hd]
    exact ⟨k1, by rw [k2]; rfl⟩
theorem Inv.end0 {l0 : List S69} {L : List Int} {at_ : Nat} {bad : Int} {same : Bool} (h : Inv L l0 l0.length at_ bad same) (hL : L = flds l0) : same = true ∧ fin L.length at_ bad = (0, 0) := by
  obtain ⟨k1, k2⟩ := h.e [] (by rw [hL, List.append_nil])
  have := h.d k1
  rw [List.take_length] at this
  refine ⟨k2, ?_⟩
  rw [fin, if_neg (by omega), if_neg (by rw [hL]; omega)]
theorem Inv.end2 {l0 : List S69} {L : List Int} {at_ : Nat} {bad : Int} {same : Bool} (h : Inv L l0 l0.length at_ bad same) (hL : L = flds l0 ++ [7]) : same = true ∧ fin L.length at_ bad = (((flds l0).length : Int), 20) := by
  obtain ⟨k1, k2⟩ := h.e [7] hL
  have := h.d k1
  rw [List.take_length] at this
  refine ⟨k2, ?_⟩
  rw [fin, if_neg (by omega), if_pos (by rw [hL, List.length_append, List.length_singleton]; omega), this]
theorem Inv.end1 {l0 : List S69} {L : List Int} {at_ : Nat} {bad : Int} {same : Bool} (h : Inv L l0 l0.length at_ bad same) (h1 : 1 ≤ (flds l0).length) (hL : L.length = (flds l0).length - 1) : ∃ p : Int, fin L.length at_ bad = (p, 20) ∧ p < ((flds l0).length : Int) := by
  have ha := h.a
  have hc := h.c
  have hd := h.d
  rw [List.take_length] at hd
  rw [fin]
  by_cases hb : 0 ≤ bad
  · rw [if_pos hb]; exact ⟨bad, rfl, by omega⟩
  · have := hd (by omega)
    omega
end Go.Proofs.Ytlngkcaaenpnaaa.Wire
