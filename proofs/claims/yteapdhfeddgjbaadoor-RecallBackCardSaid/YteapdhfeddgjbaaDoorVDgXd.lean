/- Several texts made one. -/
import Derived.Test.YteapdhfeddgjbaaDoorVDgXb
import Derived.Handy
section
/- recall: the event of bytes, by the program. -/
namespace Go.Proofs.YteapdhfeddgjbaaDoor.Wire
set_option linter.unusedVariables false
set_option linter.unusedSimpArgs false
open Go.RowKit Go.Proofs.YteapdhfeddgjbaaDoor.Num Go.Proofs.YteapdhfeddgjbaaDoor.PDj Go.Proofs.YteapdhfeddgjbaaDoorW Go.Proofs.YteapdhfeddgjbaaDoorW.PrintWords Go.Proofs.YteapdhfeddgjbaaDoorW.PrintLast Go.Proofs.YteapdhfeddgjbaaDoorW.PrintMore

/-- An event that lies in a block. -/
def EvAt (W : World) (b : Nat) (k now fr : Int) (v : Value) : Prop :=
  b < W.heap.size ∧ W.cell? ⟨b, 0, none⟩ = some (.int .i64 k) ∧ W.cell? ⟨b, 1, none⟩ = some (.int .i64 now) ∧ W.cell? ⟨b, 2, none⟩ = some (.int .i64 fr) ∧ W.cell? ⟨b, 3, none⟩ = some v ∧
  W.frozen? ⟨b, 0, none⟩ = false ∧ W.frozen? ⟨b, 1, none⟩ = false ∧ W.frozen? ⟨b, 2, none⟩ = false ∧ W.frozen? ⟨b, 3, none⟩ = false
theorem EvAt.kept {W W2 : World} {b : Nat} {k now fr : Int} {v : Value} {S : Nat → Prop} (h : EvAt W b k now fr v) (hk : Kept W W2 S) (hn : ¬ S b) : EvAt W2 b k now fr v := by
  obtain ⟨h0, c0, c1, c2, c3, f0, f1, f2, f3⟩ := h
  have hf : ∀ i, W2.frozen? ⟨b, i, none⟩ = W.frozen? ⟨b, i, none⟩ := fun i => World.frozen?_of_block (w := W) (a := ⟨b, i, none⟩) (hk.2 b h0 hn)
  exact ⟨Nat.lt_of_lt_of_le h0 hk.1, cell_kept c0 hk hn, cell_kept c1 hk hn, cell_kept c2 hk hn, cell_kept c3 hk hn, (hf 0).trans f0, (hf 1).trans f1, (hf 2).trans f2, (hf 3).trans f3⟩
theorem EvAt.below {W W2 : World} {b : Nat} {k now fr : Int} {v : Value} (h : EvAt W b k now fr v) (hb : Below W.heap.size W W2) : EvAt W2 b k now fr v := h.kept (Kept.of_below hb (fun _ => False)) (fun h => h)
theorem EvAt.new (w : World) (k now fr : Int) (v : Value) : EvAt (w.alloc (.cells #[.int .i64 k, .int .i64 now, .int .i64 fr, v] 85)) w.heap.size k now fr v :=
  ⟨by simp, by go_simp, by go_simp, by go_simp, by go_simp, by go_simp, by go_simp, by go_simp, by go_simp⟩
theorem EvAt.far {W : World} {b : Nat} {k now fr : Int} {v : Value} (h : EvAt W b k now fr v) {p : Addr} (hp : p.block ≠ b) (u : Value) : EvAt (W.setCell p u) b k now fr v :=
  h.kept ((Kept.refl W (fun k => k = p.block)).setCell (.inl rfl) u) (fun e => hp e.symm)
theorem set_same {W : World} {p : Addr} {v u : Value} (h : W.cell? p = some v) : (W.setCell p u).cell? p = some u := World.cell?_setCell_same' _ _ _ (by simp [h])
theorem set_far {W : World} {b i j : Nat} {v u : Value} (hij : i ≠ j) (h : W.cell? ⟨b, j, none⟩ = some v) : (W.setCell ⟨b, i, none⟩ u).cell? ⟨b, j, none⟩ = some v := by
  rw [World.cell?_setCell_other (h := by simp [hij])]; exact h
theorem EvAt.set1 {W : World} {b : Nat} {k now fr : Int} {v : Value} (h : EvAt W b k now fr v) (x : Int) : EvAt (W.setCell ⟨b, 1, none⟩ (.int .i64 x)) b k x fr v := by
  obtain ⟨h0, c0, c1, c2, c3, f0, f1, f2, f3⟩ := h
  exact ⟨by simpa using h0, set_far (by omega) c0, set_same c1, set_far (by omega) c2, set_far (by omega) c3, by rw [World.frozen?_setCell]; exact f0, by rw [World.frozen?_setCell]; exact f1, by rw [World.frozen?_setCell]; exact f2, by rw [World.frozen?_setCell]; exact f3⟩
theorem EvAt.set2 {W : World} {b : Nat} {k now fr : Int} {v : Value} (h : EvAt W b k now fr v) (x : Int) : EvAt (W.setCell ⟨b, 2, none⟩ (.int .i64 x)) b k now x v := by
  obtain ⟨h0, c0, c1, c2, c3, f0, f1, f2, f3⟩ := h
  exact ⟨by simpa using h0, set_far (by omega) c0, set_far (by omega) c1, set_same c2, set_far (by omega) c3, by rw [World.frozen?_setCell]; exact f0, by rw [World.frozen?_setCell]; exact f1, by rw [World.frozen?_setCell]; exact f2, by rw [World.frozen?_setCell]; exact f3⟩
theorem EvAt.set3 {W : World} {b : Nat} {k now fr : Int} {v : Value} (h : EvAt W b k now fr v) (u : Value) : EvAt (W.setCell ⟨b, 3, none⟩ u) b k now fr u := by
  obtain ⟨h0, c0, c1, c2, c3, f0, f1, f2, f3⟩ := h
  exact ⟨by simpa using h0, set_far (by omega) c0, set_far (by omega) c1, set_far (by omega) c2, set_same c3, by rw [World.frozen?_setCell]; exact f0, by rw [World.frozen?_setCell]; exact f1, by rw [World.frozen?_setCell]; exact f2, by rw [World.frozen?_setCell]; exact f3⟩
theorem EvAt.set0 {W : World} {b : Nat} {k now fr : Int} {v : Value} (h : EvAt W b k now fr v) (x : Int) : EvAt (W.setCell ⟨b, 0, none⟩ (.int .i64 x)) b x now fr v := by
  obtain ⟨h0, c0, c1, c2, c3, f0, f1, f2, f3⟩ := h
  exact ⟨by simpa using h0, set_same c0, set_far (by omega) c1, set_far (by omega) c2, set_far (by omega) c3, by rw [World.frozen?_setCell]; exact f0, by rw [World.frozen?_setCell]; exact f1, by rw [World.frozen?_setCell]; exact f2, by rw [World.frozen?_setCell]; exact f3⟩
/-- The event's cells written one after the other. -/
def fill4 (W : World) (b : Nat) (k now fr : Int) (v : Value) : World := (((W.setCell ⟨b, 0, none⟩ (.int .i64 k)).setCell ⟨b, 1, none⟩ (.int .i64 now)).setCell ⟨b, 2, none⟩ (.int .i64 fr)).setCell ⟨b, 3, none⟩ v
theorem EvAt.fill {W : World} {b : Nat} {k now fr : Int} {v : Value} (h : EvAt W b k now fr v) (k' now' fr' : Int) (v' : Value) : EvAt (fill4 W b k' now' fr' v') b k' now' fr' v' := (((h.set0 k').set1 now').set2 fr').set3 v'
theorem bel_fill {B : Nat} {w W : World} (h : Below B w W) {b : Nat} (hb : B ≤ b) (k now fr : Int) (v : Value) : Below B w (fill4 W b k now fr v) :=
  (((h.setCell (p := ⟨b, 0, none⟩) hb _).setCell (p := ⟨b, 1, none⟩) hb _).setCell (p := ⟨b, 2, none⟩) hb _).setCell (p := ⟨b, 3, none⟩) hb _
theorem IsR.other {W : World} {g : Nat} {A : Option Addr} {n c at_ : Nat} {bad : Int} (h : IsR W g A n c at_ bad) {p : Addr} (hp : p.block ≠ g) (u : Value) : IsR (W.setCell p u) g A n c at_ bad := by
  obtain ⟨h0, h1, h2, h3, h4, h5⟩ := h
  have hn : ∀ i, p ≠ ⟨g, i, none⟩ := fun i e => hp (by rw [e])
  refine ⟨?_, ?_, ?_, ?_, by rw [World.frozen?_setCell]; exact h4, by rw [World.frozen?_setCell]; exact h5⟩
  · rw [World.cell?_setCell_other (h := hn 0)]; exact h0
  · rw [World.cell?_setCell_other (h := hn 1)]; exact h1
  · rw [World.cell?_setCell_other (h := hn 2)]; exact h2
  · rw [World.cell?_setCell_other (h := hn 3)]; exact h3
theorem C_set_other {W : World} {B : Option Addr} {n : Nat} {l : List Int} (h : Kd.C (Kd.int .u8) W B n l) {p : Addr} {v : Value} (hv : W.cell? p = some v) (hne : ∀ x, v ≠ .int .u8 x) (u : Value) : Kd.C (Kd.int .u8) (W.setCell p u) B n l := by
  refine ⟨h.1, h.2.1, fun hn => ?_⟩
  obtain ⟨ad, e, hc⟩ := h.2.2 hn
  refine ⟨ad, e, fun j q hq => ?_⟩
  obtain ⟨c, hl, hr, hcell⟩ := hc j q hq
  have hr' : c = [Value.int .u8 q] := hr
  refine ⟨c, hl, hr, fun i u' hu => ?_⟩
  have h1 := hcell i u' hu
  rw [World.cell?_setCell_other (h := fun e2 => ?_)]
  · exact h1
  · rw [← e2, hv] at h1
    cases h1
    rw [hr'] at hu
    have hm := List.mem_of_getElem? hu
    exact hne q (List.mem_singleton.1 hm)
theorem C_fill {W : World} {B : Option Addr} {n : Nat} {l : List Int} (h : Kd.C (Kd.int .u8) W B n l) {b : Nat} {k now fr : Int} {v : Value} (he : EvAt W b k now fr v) (hv : ∀ x, v ≠ .int .u8 x) (k' now' fr' : Int) (v' : Value) : Kd.C (Kd.int .u8) (fill4 W b k' now' fr' v') B n l :=
  C_set_other (C_set_other (C_set_other (C_set_other h he.2.1 (fun x e => by cases e) _) (set_far (by omega) he.2.2.1) (fun x e => by cases e) _) (set_far (by omega) (set_far (by omega) he.2.2.2.1)) (fun x e => by cases e) _) (set_far (by omega) (set_far (by omega) (set_far (by omega) he.2.2.2.2.1))) hv _
/-- The event that bytes are read as, whether it may be or not; how the reader stands. -/
def rdev (l : List Int) : (Int × Int × Int × List Int) × Nat × Int :=
  if (step 1 255 l 0 (-1)).1 = 1 then ((1, (step 8 9223372036854775807 l (step 1 255 l 0 (-1)).2.1 (step 1 255 l 0 (-1)).2.2).1, 0, []), (step 8 9223372036854775807 l (step 1 255 l 0 (-1)).2.1 (step 1 255 l 0 (-1)).2.2).2)
  else if (step 1 255 l 0 (-1)).1 = 2 then
    ((2, 0, (step 8 9223372036854775807 l (step 1 255 l 0 (-1)).2.1 (step 1 255 l 0 (-1)).2.2).1, (bstep 0 1048576 l (step 8 9223372036854775807 l (step 1 255 l 0 (-1)).2.1 (step 1 255 l 0 (-1)).2.2).2.1 (step 8 9223372036854775807 l (step 1 255 l 0 (-1)).2.1 (step 1 255 l 0 (-1)).2.2).2.2).1), (bstep 0 1048576 l (step 8 9223372036854775807 l (step 1 255 l 0 (-1)).2.1 (step 1 255 l 0 (-1)).2.2).2.1 (step 8 9223372036854775807 l (step 1 255 l 0 (-1)).2.1 (step 1 255 l 0 (-1)).2.2).2.2).2)
  else (((step 1 255 l 0 (-1)).1, 0, 0, []), (step 1 255 l 0 (-1)).2)
/-- Behind Take: an event, where, a fault. -/
def TakeTold (w : World) (k now fr : Int) (l : List Int) (at_ err : Int) (e : Ending) (w' : World) : Prop :=
  ∃ B d, e = .returned (.tuple #[.agg #[.int .i64 k, .int .i64 now, .int .i64 fr, .slice B l.length d], .int .i64 at_, .int .i64 err]) ∧ (l.length ≤ d ∧ NewB w.heap.size B) ∧ Kd.C (Kd.int .u8) w' B l.length l ∧ Below w.heap.size w w'
set_option maxHeartbeats 6400000 in
set_option maxRecDepth 100000 in
theorem take_1_bad (A : Option Addr) (n c : Nat) (hn : n ≤ 1000000) (hc : n ≤ c) (l : List Int) (hl : l.length = n) (hby : By l) (w : World) (hr : Kd.C (Kd.int .u8) w A l.length l) (x3 : Int) (at2 at3 : Nat) (bad2 bad3 : Int) (p : Int)
    (hs1 : step 1 255 l 0 (-1) = (1, at2, bad2)) (hs2 : step 8 9223372036854775807 l at2 bad2 = (x3, at3, bad3)) (hf : fin l.length at3 bad3 = (p, 20)) :
    Calls Tryd.prog 45 #[.slice A n c] w (TakeTold w 0 0 0 [] p 20) := by
  obtain ⟨W0, hW0⟩ : ∃ W, W = w.alloc (.cells #[.int .i64 0, .int .i64 0, .int .i64 0, .slice none 0 0] 85) := ⟨_, rfl⟩
  have HB0 : Aside0 (Below w.heap.size w W0) := ⟨by rw [hW0]; exact below_alloc (Below.refl _ _) _⟩
  have HZ0 : Aside0 (EvAt W0 w.heap.size 0 0 0 (.slice none 0 0)) := ⟨by rw [hW0]; exact EvAt.new _ _ _ _ _⟩
  have hs0 : W0.heap.size = w.heap.size + 1 := by rw [hW0]; simp
  have hrd := (read_calls (.int .i64 0) A n c w W0 HB0.out).mono (fun e w' h => (⟨h.1, h.2.1, h.2.2.1, HZ0.out.below h.2.2.2⟩ : e = _ ∧ IsR w' _ A n c 0 (-1) ∧ Below w.heap.size w w' ∧ EvAt w' w.heap.size 0 0 0 (.slice none 0 0)))
  rw [hs0] at hrd
  rw [hW0] at hrd
  have HRD := Aside0.mk hrd
  have hle2 : at2 ≤ n := by have h := step_at (N := 1) (lim := 255) (l := l) (at_ := 0) (bad := -1) (Nat.zero_le _); rw [hs1, hl] at h; exact h
  have HBY := Aside0.mk (fun w1 (hb : Below w.heap.size w w1) hR => byte_step (w.heap.size + 1) A n c 0 (-1) (by omega) hc (by omega) l hl hby w w1 hr hb (Nat.le_succ _) hR)
  rw [hs1] at HBY
  have hle3 : at3 ≤ n := by have h := step_at (N := 8) (lim := 9223372036854775807) (l := l) (at_ := at2) (bad := bad2) (by omega); rw [hs2, hl] at h; exact h
  have HIN := Aside0.mk (fun w1 (hb : Below w.heap.size w w1) hR => int_step (w.heap.size + 1) A n c at2 bad2 (by omega) hc hle2 l hl hby w w1 hr hb (Nat.le_succ _) hR)
  rw [hs2] at HIN
  have HDN := Aside0.mk (fun w1 hR => done_calls (w.heap.size + 1) A n c at3 bad3 w1 hR)
  rw [hl] at hf
  rw [hf] at HDN
  have hu79 := Tryd.underlying85
  have hg1 : w.heap.size < w.heap.size + 1 := Nat.lt_succ_self _
  clear hr hby hl hs1 hrd hW0 hs0 hf hs2
  go_enter Tryd.func45, Tryd.ntmps45
  go_wp2_with (first
    | (go_at_call 83; (with_reducible refine HRD.out.mono ?_); rintro e w1 ⟨rfl, hR, hb1, hz⟩; have HR1 := Aside0.mk hR; have HZ1 := Aside0.mk hz; have HB1 := Aside0.mk hb1; clear hR hb1 hz)
    | (go_at_call 84; (with_reducible refine (HBY.out _ HB1.out HR1.out).mono ?_); rintro e w2 ⟨rfl, hR, hb, hk⟩; have he2 := EvAt.new w2 1 0 0 (.slice none 0 0); have HE2 := Aside0.mk he2; have hlt2 := World.block_lt_of_cell? _ _ hR.1; have HR2 := Aside0.mk (hR.below (below_alloc (Below.refl _ _) (.cells #[.int .i64 1, .int .i64 0, .int .i64 0, .slice none 0 0] 85))); have hz := HZ1.out.kept hk (fun h => Nat.ne_of_lt hg1 h); have HZ2 := Aside0.mk (hz.below (below_alloc (Below.refl _ _) (.cells #[.int .i64 1, .int .i64 0, .int .i64 0, .slice none 0 0] 85))); have HB2 := Aside0.mk (below_alloc hb (.cells #[.int .i64 1, .int .i64 0, .int .i64 0, .slice none 0 0] 85)); obtain ⟨y0, y1, y2, y3, y4, y5, y6, y7, y8⟩ := he2; clear hR hb hk hz)
    | (go_at_call 85; (with_reducible refine (HIN.out _ HB2.out HR2.out).mono ?_); rintro e w3 ⟨rfl, hR, hb, hk⟩; have he3 := HE2.out.kept hk (fun h => Nat.ne_of_gt hlt2 h); have HE3 := Aside0.mk (he3.set1 x3); have HZ3 := Aside0.mk ((HZ2.out.kept hk (fun h => Nat.ne_of_lt hg1 h)).far (p := ⟨w2.heap.size, 1, none⟩) (Nat.ne_of_gt (Nat.lt_trans hg1 hlt2)) (.int .i64 x3)); have HR3 := Aside0.mk (hR.other (p := ⟨w2.heap.size, 1, none⟩) (Nat.ne_of_gt hlt2) (.int .i64 x3)); have HB3 := Aside0.mk (hb.setCell (p := ⟨w2.heap.size, 1, none⟩) (Nat.le_of_lt (Nat.lt_trans hg1 hlt2)) (.int .i64 x3)); obtain ⟨z0, z1, z2, z3, z4, z5, z6, z7, z8⟩ := he3; clear hR hb hk)
    | (go_at_call 87; (with_reducible refine (HDN.out _ HR3.out).mono ?_); rintro e w5 ⟨rfl, hd9⟩; have HE5 := Aside0.mk (HE3.out.below hd9.below); have HZ5 := Aside0.mk (HZ3.out.below hd9.below); have HB5 := Aside0.mk (below_then HB3.out HB3.out.size hd9.below); obtain ⟨p0, p1, p2, p3, p4, p5, p6, p7, p8⟩ := HZ5.out; obtain ⟨q0, q1, q2, q3, q4, q5, q6, q7, q8⟩ := HE5.out; clear hd9)
    | fail)
  have HF := Aside0.mk (HZ5.out.fill 0 0 0 (.slice none 0 0))
  have HBF := Aside0.mk (bel_fill HB5.out (Nat.le_refl _) 0 0 0 (.slice none 0 0))
  change bodyPost _ _ _ _ _ (fill4 w5 w.heap.size 0 0 0 (.slice none 0 0))
  generalize fill4 w5 w.heap.size 0 0 0 (.slice none 0 0) = WF at *
  obtain ⟨-, e0, e1, e2, e3, -⟩ := HF.out
  refine bodyPost_ret (by simp [results, Tryd.results45, go_sem, e0, e1, e2, e3]; try rfl) rfl ?_
  exact ⟨none, 0, rfl, ⟨Nat.zero_le _, fun _ h => by cases h⟩, Kd.C_nil _ _, HBF.out⟩
set_option maxHeartbeats 6400000 in
set_option maxRecDepth 100000 in
theorem take_1_no (A : Option Addr) (n c : Nat) (hn : n ≤ 1000000) (hc : n ≤ c) (l : List Int) (hl : l.length = n) (hby : By l) (w : World) (hr : Kd.C (Kd.int .u8) w A l.length l) (x3 : Int) (at2 at3 : Nat) (bad2 bad3 : Int)
    (hs1 : step 1 255 l 0 (-1) = (1, at2, bad2)) (hs2 : step 8 9223372036854775807 l at2 bad2 = (x3, at3, bad3)) (hf : fin l.length at3 bad3 = (0, 0)) (hm : mayb 1 x3 0 [] = false) :
    Calls Tryd.prog 45 #[.slice A n c] w (TakeTold w 0 0 0 [] 0 2) := by
  obtain ⟨W0, hW0⟩ : ∃ W, W = w.alloc (.cells #[.int .i64 0, .int .i64 0, .int .i64 0, .slice none 0 0] 85) := ⟨_, rfl⟩
  have HB0 : Aside0 (Below w.heap.size w W0) := ⟨by rw [hW0]; exact below_alloc (Below.refl _ _) _⟩
  have HZ0 : Aside0 (EvAt W0 w.heap.size 0 0 0 (.slice none 0 0)) := ⟨by rw [hW0]; exact EvAt.new _ _ _ _ _⟩
  have hs0 : W0.heap.size = w.heap.size + 1 := by rw [hW0]; simp
  have hrd := (read_calls (.int .i64 0) A n c w W0 HB0.out).mono (fun e w' h => (⟨h.1, h.2.1, h.2.2.1, HZ0.out.below h.2.2.2⟩ : e = _ ∧ IsR w' _ A n c 0 (-1) ∧ Below w.heap.size w w' ∧ EvAt w' w.heap.size 0 0 0 (.slice none 0 0)))
  rw [hs0] at hrd
  rw [hW0] at hrd
  have HRD := Aside0.mk hrd
  have hle2 : at2 ≤ n := by have h := step_at (N := 1) (lim := 255) (l := l) (at_ := 0) (bad := -1) (Nat.zero_le _); rw [hs1, hl] at h; exact h
  have HBY := Aside0.mk (fun w1 (hb : Below w.heap.size w w1) hR => byte_step (w.heap.size + 1) A n c 0 (-1) (by omega) hc (by omega) l hl hby w w1 hr hb (Nat.le_succ _) hR)
  rw [hs1] at HBY
  have hle3 : at3 ≤ n := by have h := step_at (N := 8) (lim := 9223372036854775807) (l := l) (at_ := at2) (bad := bad2) (by omega); rw [hs2, hl] at h; exact h
  have HIN := Aside0.mk (fun w1 (hb : Below w.heap.size w w1) hR => int_step (w.heap.size + 1) A n c at2 bad2 (by omega) hc hle2 l hl hby w w1 hr hb (Nat.le_succ _) hR)
  rw [hs2] at HIN
  have HDN := Aside0.mk (fun w1 hR => done_calls (w.heap.size + 1) A n c at3 bad3 w1 hR)
  rw [hl] at hf
  rw [hf] at HDN
  have hM : ∀ w1 : World, Calls Tryd.prog 78 #[.agg #[.int .i64 1, .int .i64 x3, .int .i64 0, .slice none 0 0]] w1 (fun e w' => e = .returned (.bool false) ∧ Below w1.heap.size w1 w') := fun w1 => recall_may.calls 1 x3 0 none 0 [] false w1 (Kd.C_nil _ _) (Nat.zero_le _) (by rw [may_is, hm])
  have HM := Aside0.mk hM
  clear hM
  have hu79 := Tryd.underlying85
  have hg1 : w.heap.size < w.heap.size + 1 := Nat.lt_succ_self _
  clear hr hby hl hs1 hrd hW0 hs0 hf hs2 hm
  go_enter Tryd.func45, Tryd.ntmps45
  go_wp2_with (first
    | (go_at_call 83; (with_reducible refine HRD.out.mono ?_); rintro e w1 ⟨rfl, hR, hb1, hz⟩; have HR1 := Aside0.mk hR; have HZ1 := Aside0.mk hz; have HB1 := Aside0.mk hb1; clear hR hb1 hz)
    | (go_at_call 84; (with_reducible refine (HBY.out _ HB1.out HR1.out).mono ?_); rintro e w2 ⟨rfl, hR, hb, hk⟩; have he2 := EvAt.new w2 1 0 0 (.slice none 0 0); have HE2 := Aside0.mk he2; have hlt2 := World.block_lt_of_cell? _ _ hR.1; have HR2 := Aside0.mk (hR.below (below_alloc (Below.refl _ _) (.cells #[.int .i64 1, .int .i64 0, .int .i64 0, .slice none 0 0] 85))); have hz := HZ1.out.kept hk (fun h => Nat.ne_of_lt hg1 h); have HZ2 := Aside0.mk (hz.below (below_alloc (Below.refl _ _) (.cells #[.int .i64 1, .int .i64 0, .int .i64 0, .slice none 0 0] 85))); have HB2 := Aside0.mk (below_alloc hb (.cells #[.int .i64 1, .int .i64 0, .int .i64 0, .slice none 0 0] 85)); obtain ⟨y0, y1, y2, y3, y4, y5, y6, y7, y8⟩ := he2; clear hR hb hk hz)
    | (go_at_call 85; (with_reducible refine (HIN.out _ HB2.out HR2.out).mono ?_); rintro e w3 ⟨rfl, hR, hb, hk⟩; have he3 := HE2.out.kept hk (fun h => Nat.ne_of_gt hlt2 h); have HE3 := Aside0.mk (he3.set1 x3); have HZ3 := Aside0.mk ((HZ2.out.kept hk (fun h => Nat.ne_of_lt hg1 h)).far (p := ⟨w2.heap.size, 1, none⟩) (Nat.ne_of_gt (Nat.lt_trans hg1 hlt2)) (.int .i64 x3)); have HR3 := Aside0.mk (hR.other (p := ⟨w2.heap.size, 1, none⟩) (Nat.ne_of_gt hlt2) (.int .i64 x3)); have HB3 := Aside0.mk (hb.setCell (p := ⟨w2.heap.size, 1, none⟩) (Nat.le_of_lt (Nat.lt_trans hg1 hlt2)) (.int .i64 x3)); obtain ⟨z0, z1, z2, z3, z4, z5, z6, z7, z8⟩ := he3; clear hR hb hk)
    | (go_at_call 87; (with_reducible refine (HDN.out _ HR3.out).mono ?_); rintro e w5 ⟨rfl, hd9⟩; have HE5 := Aside0.mk (HE3.out.below hd9.below); have HZ5 := Aside0.mk (HZ3.out.below hd9.below); have HB5 := Aside0.mk (below_then HB3.out HB3.out.size hd9.below); obtain ⟨p0, p1, p2, p3, p4, p5, p6, p7, p8⟩ := HZ5.out; obtain ⟨q0, q1, q2, q3, q4, q5, q6, q7, q8⟩ := HE5.out; clear hd9)
    | (go_at_call 78; (with_reducible refine (HM.out w5).mono ?_); rintro e w6 ⟨rfl, hb⟩; have HE6 := Aside0.mk (HE5.out.below hb); have HZ6 := Aside0.mk (HZ5.out.below hb); have HB6 := Aside0.mk (below_then HB5.out HB5.out.size hb); obtain ⟨a0, a1, a2, a3, a4, a5, a6, a7, a8⟩ := HZ6.out; obtain ⟨b0, b1, b2, b3, b4, b5, b6, b7, b8⟩ := HE6.out; clear hb)
    | fail)
  have HF := Aside0.mk (HZ6.out.fill 0 0 0 (.slice none 0 0))
  have HBF := Aside0.mk (bel_fill HB6.out (Nat.le_refl _) 0 0 0 (.slice none 0 0))
  change bodyPost _ _ _ _ _ (fill4 w6 w.heap.size 0 0 0 (.slice none 0 0))
  generalize fill4 w6 w.heap.size 0 0 0 (.slice none 0 0) = WF at *
  obtain ⟨-, e0, e1, e2, e3, -⟩ := HF.out
  refine bodyPost_ret (by simp [results, Tryd.results45, go_sem, e0, e1, e2, e3]; try rfl) rfl ?_
  exact ⟨none, 0, rfl, ⟨Nat.zero_le _, fun _ h => by cases h⟩, Kd.C_nil _ _, HBF.out⟩
set_option maxHeartbeats 6400000 in
set_option maxRecDepth 100000 in
theorem take_1_ok (A : Option Addr) (n c : Nat) (hn : n ≤ 1000000) (hc : n ≤ c) (l : List Int) (hl : l.length = n) (hby : By l) (w : World) (hr : Kd.C (Kd.int .u8) w A l.length l) (x3 : Int) (at2 at3 : Nat) (bad2 bad3 : Int)
    (hs1 : step 1 255 l 0 (-1) = (1, at2, bad2)) (hs2 : step 8 9223372036854775807 l at2 bad2 = (x3, at3, bad3)) (hf : fin l.length at3 bad3 = (0, 0)) (hm : mayb 1 x3 0 [] = true) :
    Calls Tryd.prog 45 #[.slice A n c] w (TakeTold w 1 x3 0 [] 0 0) := by
  obtain ⟨W0, hW0⟩ : ∃ W, W = w.alloc (.cells #[.int .i64 0, .int .i64 0, .int .i64 0, .slice none 0 0] 85) := ⟨_, rfl⟩
  have HB0 : Aside0 (Below w.heap.size w W0) := ⟨by rw [hW0]; exact below_alloc (Below.refl _ _) _⟩
  have HZ0 : Aside0 (EvAt W0 w.heap.size 0 0 0 (.slice none 0 0)) := ⟨by rw [hW0]; exact EvAt.new _ _ _ _ _⟩
  have hs0 : W0.heap.size = w.heap.size + 1 := by rw [hW0]; simp
  have hrd := (read_calls (.int .i64 0) A n c w W0 HB0.out).mono (fun e w' h => (⟨h.1, h.2.1, h.2.2.1, HZ0.out.below h.2.2.2⟩ : e = _ ∧ IsR w' _ A n c 0 (-1) ∧ Below w.heap.size w w' ∧ EvAt w' w.heap.size 0 0 0 (.slice none 0 0)))
  rw [hs0] at hrd
  rw [hW0] at hrd
  have HRD := Aside0.mk hrd
  have hle2 : at2 ≤ n := by have h := step_at (N := 1) (lim := 255) (l := l) (at_ := 0) (bad := -1) (Nat.zero_le _); rw [hs1, hl] at h; exact h
  have HBY := Aside0.mk (fun w1 (hb : Below w.heap.size w w1) hR => byte_step (w.heap.size + 1) A n c 0 (-1) (by omega) hc (by omega) l hl hby w w1 hr hb (Nat.le_succ _) hR)
  rw [hs1] at HBY
  have hle3 : at3 ≤ n := by have h := step_at (N := 8) (lim := 9223372036854775807) (l := l) (at_ := at2) (bad := bad2) (by omega); rw [hs2, hl] at h; exact h
  have HIN := Aside0.mk (fun w1 (hb : Below w.heap.size w w1) hR => int_step (w.heap.size + 1) A n c at2 bad2 (by omega) hc hle2 l hl hby w w1 hr hb (Nat.le_succ _) hR)
  rw [hs2] at HIN
  have HDN := Aside0.mk (fun w1 hR => done_calls (w.heap.size + 1) A n c at3 bad3 w1 hR)
  rw [hl] at hf
  rw [hf] at HDN
  have hM : ∀ w1 : World, Calls Tryd.prog 78 #[.agg #[.int .i64 1, .int .i64 x3, .int .i64 0, .slice none 0 0]] w1 (fun e w' => e = .returned (.bool true) ∧ Below w1.heap.size w1 w') := fun w1 => recall_may.calls 1 x3 0 none 0 [] true w1 (Kd.C_nil _ _) (Nat.zero_le _) (by rw [may_is, hm])
  have HM := Aside0.mk hM
  clear hM
  have hu79 := Tryd.underlying85
  have hg1 : w.heap.size < w.heap.size + 1 := Nat.lt_succ_self _
  clear hr hby hl hs1 hrd hW0 hs0 hf hs2 hm
  go_enter Tryd.func45, Tryd.ntmps45
  go_wp2_with (first
    | (go_at_call 83; (with_reducible refine HRD.out.mono ?_); rintro e w1 ⟨rfl, hR, hb1, hz⟩; have HR1 := Aside0.mk hR; have HZ1 := Aside0.mk hz; have HB1 := Aside0.mk hb1; clear hR hb1 hz)
    | (go_at_call 84; (with_reducible refine (HBY.out _ HB1.out HR1.out).mono ?_); rintro e w2 ⟨rfl, hR, hb, hk⟩; have he2 := EvAt.new w2 1 0 0 (.slice none 0 0); have HE2 := Aside0.mk he2; have hlt2 := World.block_lt_of_cell? _ _ hR.1; have HR2 := Aside0.mk (hR.below (below_alloc (Below.refl _ _) (.cells #[.int .i64 1, .int .i64 0, .int .i64 0, .slice none 0 0] 85))); have hz := HZ1.out.kept hk (fun h => Nat.ne_of_lt hg1 h); have HZ2 := Aside0.mk (hz.below (below_alloc (Below.refl _ _) (.cells #[.int .i64 1, .int .i64 0, .int .i64 0, .slice none 0 0] 85))); have HB2 := Aside0.mk (below_alloc hb (.cells #[.int .i64 1, .int .i64 0, .int .i64 0, .slice none 0 0] 85)); obtain ⟨y0, y1, y2, y3, y4, y5, y6, y7, y8⟩ := he2; clear hR hb hk hz)
    | (go_at_call 85; (with_reducible refine (HIN.out _ HB2.out HR2.out).mono ?_); rintro e w3 ⟨rfl, hR, hb, hk⟩; have he3 := HE2.out.kept hk (fun h => Nat.ne_of_gt hlt2 h); have HE3 := Aside0.mk (he3.set1 x3); have HZ3 := Aside0.mk ((HZ2.out.kept hk (fun h => Nat.ne_of_lt hg1 h)).far (p := ⟨w2.heap.size, 1, none⟩) (Nat.ne_of_gt (Nat.lt_trans hg1 hlt2)) (.int .i64 x3)); have HR3 := Aside0.mk (hR.other (p := ⟨w2.heap.size, 1, none⟩) (Nat.ne_of_gt hlt2) (.int .i64 x3)); have HB3 := Aside0.mk (hb.setCell (p := ⟨w2.heap.size, 1, none⟩) (Nat.le_of_lt (Nat.lt_trans hg1 hlt2)) (.int .i64 x3)); obtain ⟨z0, z1, z2, z3, z4, z5, z6, z7, z8⟩ := he3; clear hR hb hk)
    | (go_at_call 87; (with_reducible refine (HDN.out _ HR3.out).mono ?_); rintro e w5 ⟨rfl, hd9⟩; have HE5 := Aside0.mk (HE3.out.below hd9.below); have HZ5 := Aside0.mk (HZ3.out.below hd9.below); have HB5 := Aside0.mk (below_then HB3.out HB3.out.size hd9.below); obtain ⟨p0, p1, p2, p3, p4, p5, p6, p7, p8⟩ := HZ5.out; obtain ⟨q0, q1, q2, q3, q4, q5, q6, q7, q8⟩ := HE5.out; clear hd9)
    | (go_at_call 78; (with_reducible refine (HM.out w5).mono ?_); rintro e w6 ⟨rfl, hb⟩; have HE6 := Aside0.mk (HE5.out.below hb); have HZ6 := Aside0.mk (HZ5.out.below hb); have HB6 := Aside0.mk (below_then HB5.out HB5.out.size hb); obtain ⟨a0, a1, a2, a3, a4, a5, a6, a7, a8⟩ := HZ6.out; obtain ⟨b0, b1, b2, b3, b4, b5, b6, b7, b8⟩ := HE6.out; clear hb)
    | fail)
  have HF := Aside0.mk (HZ6.out.fill 1 x3 0 (.slice none 0 0))
  have HBF := Aside0.mk (bel_fill HB6.out (Nat.le_refl _) 1 x3 0 (.slice none 0 0))
  change bodyPost _ _ _ _ _ (fill4 w6 w.heap.size 1 x3 0 (.slice none 0 0))
  generalize fill4 w6 w.heap.size 1 x3 0 (.slice none 0 0) = WF at *
  obtain ⟨-, e0, e1, e2, e3, -⟩ := HF.out
  refine bodyPost_ret (by simp [results, Tryd.results45, go_sem, e0, e1, e2, e3]; try rfl) rfl ?_
  exact ⟨none, 0, rfl, ⟨Nat.zero_le _, fun _ h => by cases h⟩, Kd.C_nil _ _, HBF.out⟩
set_option maxHeartbeats 6400000 in
set_option maxRecDepth 100000 in
theorem take_0_bad (A : Option Addr) (n c : Nat) (hn : n ≤ 1000000) (hc : n ≤ c) (l : List Int) (hl : l.length = n) (hby : By l) (w : World) (hr : Kd.C (Kd.int .u8) w A l.length l) (k : Int) (at2 : Nat) (bad2 : Int) (p : Int)
    (hs1 : step 1 255 l 0 (-1) = (k, at2, bad2)) (hk1 : k ≠ 1) (hk2 : k ≠ 2) (hkb : 0 ≤ k ∧ k ≤ 255) (hf : fin l.length at2 bad2 = (p, 20)) :
    Calls Tryd.prog 45 #[.slice A n c] w (TakeTold w 0 0 0 [] p 20) := by
  obtain ⟨W0, hW0⟩ : ∃ W, W = w.alloc (.cells #[.int .i64 0, .int .i64 0, .int .i64 0, .slice none 0 0] 85) := ⟨_, rfl⟩
  have HB0 : Aside0 (Below w.heap.size w W0) := ⟨by rw [hW0]; exact below_alloc (Below.refl _ _) _⟩
  have HZ0 : Aside0 (EvAt W0 w.heap.size 0 0 0 (.slice none 0 0)) := ⟨by rw [hW0]; exact EvAt.new _ _ _ _ _⟩
  have hs0 : W0.heap.size = w.heap.size + 1 := by rw [hW0]; simp
  have hrd := (read_calls (.int .i64 0) A n c w W0 HB0.out).mono (fun e w' h => (⟨h.1, h.2.1, h.2.2.1, HZ0.out.below h.2.2.2⟩ : e = _ ∧ IsR w' _ A n c 0 (-1) ∧ Below w.heap.size w w' ∧ EvAt w' w.heap.size 0 0 0 (.slice none 0 0)))
  rw [hs0] at hrd
  rw [hW0] at hrd
  have HRD := Aside0.mk hrd
  have hle2 : at2 ≤ n := by have h := step_at (N := 1) (lim := 255) (l := l) (at_ := 0) (bad := -1) (Nat.zero_le _); rw [hs1, hl] at h; exact h
  have HBY := Aside0.mk (fun w1 (hb : Below w.heap.size w w1) hR => byte_step (w.heap.size + 1) A n c 0 (-1) (by omega) hc (by omega) l hl hby w w1 hr hb (Nat.le_succ _) hR)
  rw [hs1] at HBY
  have HDN := Aside0.mk (fun w1 hR => done_calls (w.heap.size + 1) A n c at2 bad2 w1 hR)
  rw [hl] at hf
  rw [hf] at HDN
  have hk1' : (k == (1 : Int)) = false := by simpa using hk1
  have hk2' : (k == (2 : Int)) = false := by simpa using hk2
  have hkw : wrap64 k = k := w64 k (by omega) (by omega)
  have hkw' : IntKind.i64.wrap k = k := IntWalk.i64_in _ (by omega)
  have hu79 := Tryd.underlying85
  have hg1 : w.heap.size < w.heap.size + 1 := Nat.lt_succ_self _
  clear hr hby hl hs1 hrd hW0 hs0 hf
  go_enter Tryd.func45, Tryd.ntmps45
  go_wp2_with (first
    | (go_at_call 83; (with_reducible refine HRD.out.mono ?_); rintro e w1 ⟨rfl, hR, hb1, hz⟩; have HR1 := Aside0.mk hR; have HZ1 := Aside0.mk hz; have HB1 := Aside0.mk hb1; clear hR hb1 hz)
    | (go_at_call 84; (with_reducible refine (HBY.out _ HB1.out HR1.out).mono ?_); rintro e w2 ⟨rfl, hR, hb, hk⟩; have he2 := EvAt.new w2 k 0 0 (.slice none 0 0); have HE2 := Aside0.mk he2; have hlt2 := World.block_lt_of_cell? _ _ hR.1; have HR2 := Aside0.mk (hR.below (below_alloc (Below.refl _ _) (.cells #[.int .i64 k, .int .i64 0, .int .i64 0, .slice none 0 0] 85))); have hz := HZ1.out.kept hk (fun h => Nat.ne_of_lt hg1 h); have HZ2 := Aside0.mk (hz.below (below_alloc (Below.refl _ _) (.cells #[.int .i64 k, .int .i64 0, .int .i64 0, .slice none 0 0] 85))); have HB2 := Aside0.mk (below_alloc hb (.cells #[.int .i64 k, .int .i64 0, .int .i64 0, .slice none 0 0] 85)); obtain ⟨y0, y1, y2, y3, y4, y5, y6, y7, y8⟩ := he2; clear hR hb hk hz)
    | (go_at_call 87; (with_reducible refine (HDN.out _ HR2.out).mono ?_); rintro e w5 ⟨rfl, hd9⟩; have HE5 := Aside0.mk (HE2.out.below hd9.below); have HZ5 := Aside0.mk (HZ2.out.below hd9.below); have HB5 := Aside0.mk (below_then HB2.out HB2.out.size hd9.below); obtain ⟨p0, p1, p2, p3, p4, p5, p6, p7, p8⟩ := HZ5.out; obtain ⟨q0, q1, q2, q3, q4, q5, q6, q7, q8⟩ := HE5.out; clear hd9)
    | fail)
  have HF := Aside0.mk (HZ5.out.fill 0 0 0 (.slice none 0 0))
  have HBF := Aside0.mk (bel_fill HB5.out (Nat.le_refl _) 0 0 0 (.slice none 0 0))
  change bodyPost _ _ _ _ _ (fill4 w5 w.heap.size 0 0 0 (.slice none 0 0))
  generalize fill4 w5 w.heap.size 0 0 0 (.slice none 0 0) = WF at *
  obtain ⟨-, e0, e1, e2, e3, -⟩ := HF.out
  refine bodyPost_ret (by simp [results, Tryd.results45, go_sem, e0, e1, e2, e3]; try rfl) rfl ?_
  exact ⟨none, 0, rfl, ⟨Nat.zero_le _, fun _ h => by cases h⟩, Kd.C_nil _ _, HBF.out⟩
set_option maxHeartbeats 6400000 in
set_option maxRecDepth 100000 in
theorem take_0_no (A : Option Addr) (n c : Nat) (hn : n ≤ 1000000) (hc : n ≤ c) (l : List Int) (hl : l.length = n) (hby : By l) (w : World) (hr : Kd.C (Kd.int .u8) w A l.length l) (k : Int) (at2 : Nat) (bad2 : Int)
    (hs1 : step 1 255 l 0 (-1) = (k, at2, bad2)) (hk1 : k ≠ 1) (hk2 : k ≠ 2) (hkb : 0 ≤ k ∧ k ≤ 255) (hf : fin l.length at2 bad2 = (0, 0)) (hm : mayb k 0 0 [] = false) :
    Calls Tryd.prog 45 #[.slice A n c] w (TakeTold w 0 0 0 [] 0 2) := by
  obtain ⟨W0, hW0⟩ : ∃ W, W = w.alloc (.cells #[.int .i64 0, .int .i64 0, .int .i64 0, .slice none 0 0] 85) := ⟨_, rfl⟩
  have HB0 : Aside0 (Below w.heap.size w W0) := ⟨by rw [hW0]; exact below_alloc (Below.refl _ _) _⟩
  have HZ0 : Aside0 (EvAt W0 w.heap.size 0 0 0 (.slice none 0 0)) := ⟨by rw [hW0]; exact EvAt.new _ _ _ _ _⟩
  have hs0 : W0.heap.size = w.heap.size + 1 := by rw [hW0]; simp
  have hrd := (read_calls (.int .i64 0) A n c w W0 HB0.out).mono (fun e w' h => (⟨h.1, h.2.1, h.2.2.1, HZ0.out.below h.2.2.2⟩ : e = _ ∧ IsR w' _ A n c 0 (-1) ∧ Below w.heap.size w w' ∧ EvAt w' w.heap.size 0 0 0 (.slice none 0 0)))
  rw [hs0] at hrd
  rw [hW0] at hrd
  have HRD := Aside0.mk hrd
  have hle2 : at2 ≤ n := by have h := step_at (N := 1) (lim := 255) (l := l) (at_ := 0) (bad := -1) (Nat.zero_le _); rw [hs1, hl] at h; exact h
  have HBY := Aside0.mk (fun w1 (hb : Below w.heap.size w w1) hR => byte_step (w.heap.size + 1) A n c 0 (-1) (by omega) hc (by omega) l hl hby w w1 hr hb (Nat.le_succ _) hR)
  rw [hs1] at HBY
  have HDN := Aside0.mk (fun w1 hR => done_calls (w.heap.size + 1) A n c at2 bad2 w1 hR)
  rw [hl] at hf
  rw [hf] at HDN
  have hM : ∀ w1 : World, Calls Tryd.prog 78 #[.agg #[.int .i64 k, .int .i64 0, .int .i64 0, .slice none 0 0]] w1 (fun e w' => e = .returned (.bool false) ∧ Below w1.heap.size w1 w') := fun w1 => recall_may.calls k 0 0 none 0 [] false w1 (Kd.C_nil _ _) (Nat.zero_le _) (by rw [may_is, hm])
  have HM := Aside0.mk hM
  clear hM
  have hk1' : (k == (1 : Int)) = false := by simpa using hk1
  have hk2' : (k == (2 : Int)) = false := by simpa using hk2
  have hkw : wrap64 k = k := w64 k (by omega) (by omega)
  have hkw' : IntKind.i64.wrap k = k := IntWalk.i64_in _ (by omega)
  have hu79 := Tryd.underlying85
  have hg1 : w.heap.size < w.heap.size + 1 := Nat.lt_succ_self _
  clear hr hby hl hs1 hrd hW0 hs0 hf hm
  go_enter Tryd.func45, Tryd.ntmps45
  go_wp2_with (first
    | (go_at_call 83; (with_reducible refine HRD.out.mono ?_); rintro e w1 ⟨rfl, hR, hb1, hz⟩; have HR1 := Aside0.mk hR; have HZ1 := Aside0.mk hz; have HB1 := Aside0.mk hb1; clear hR hb1 hz)
    | (go_at_call 84; (with_reducible refine (HBY.out _ HB1.out HR1.out).mono ?_); rintro e w2 ⟨rfl, hR, hb, hk⟩; have he2 := EvAt.new w2 k 0 0 (.slice none 0 0); have HE2 := Aside0.mk he2; have hlt2 := World.block_lt_of_cell? _ _ hR.1; have HR2 := Aside0.mk (hR.below (below_alloc (Below.refl _ _) (.cells #[.int .i64 k, .int .i64 0, .int .i64 0, .slice none 0 0] 85))); have hz := HZ1.out.kept hk (fun h => Nat.ne_of_lt hg1 h); have HZ2 := Aside0.mk (hz.below (below_alloc (Below.refl _ _) (.cells #[.int .i64 k, .int .i64 0, .int .i64 0, .slice none 0 0] 85))); have HB2 := Aside0.mk (below_alloc hb (.cells #[.int .i64 k, .int .i64 0, .int .i64 0, .slice none 0 0] 85)); obtain ⟨y0, y1, y2, y3, y4, y5, y6, y7, y8⟩ := he2; clear hR hb hk hz)
    | (go_at_call 87; (with_reducible refine (HDN.out _ HR2.out).mono ?_); rintro e w5 ⟨rfl, hd9⟩; have HE5 := Aside0.mk (HE2.out.below hd9.below); have HZ5 := Aside0.mk (HZ2.out.below hd9.below); have HB5 := Aside0.mk (below_then HB2.out HB2.out.size hd9.below); obtain ⟨p0, p1, p2, p3, p4, p5, p6, p7, p8⟩ := HZ5.out; obtain ⟨q0, q1, q2, q3, q4, q5, q6, q7, q8⟩ := HE5.out; clear hd9)
    | (go_at_call 78; (with_reducible refine (HM.out w5).mono ?_); rintro e w6 ⟨rfl, hb⟩; have HE6 := Aside0.mk (HE5.out.below hb); have HZ6 := Aside0.mk (HZ5.out.below hb); have HB6 := Aside0.mk (below_then HB5.out HB5.out.size hb); obtain ⟨a0, a1, a2, a3, a4, a5, a6, a7, a8⟩ := HZ6.out; obtain ⟨b0, b1, b2, b3, b4, b5, b6, b7, b8⟩ := HE6.out; clear hb)
    | fail)
  have HF := Aside0.mk (HZ6.out.fill 0 0 0 (.slice none 0 0))
  have HBF := Aside0.mk (bel_fill HB6.out (Nat.le_refl _) 0 0 0 (.slice none 0 0))
  change bodyPost _ _ _ _ _ (fill4 w6 w.heap.size 0 0 0 (.slice none 0 0))
  generalize fill4 w6 w.heap.size 0 0 0 (.slice none 0 0) = WF at *
  obtain ⟨-, e0, e1, e2, e3, -⟩ := HF.out
  refine bodyPost_ret (by simp [results, Tryd.results45, go_sem, e0, e1, e2, e3]; try rfl) rfl ?_
  exact ⟨none, 0, rfl, ⟨Nat.zero_le _, fun _ h => by cases h⟩, Kd.C_nil _ _, HBF.out⟩
set_option maxHeartbeats 6400000 in
set_option maxRecDepth 100000 in
theorem take_0_ok (A : Option Addr) (n c : Nat) (hn : n ≤ 1000000) (hc : n ≤ c) (l : List Int) (hl : l.length = n) (hby : By l) (w : World) (hr : Kd.C (Kd.int .u8) w A l.length l) (k : Int) (at2 : Nat) (bad2 : Int)
    (hs1 : step 1 255 l 0 (-1) = (k, at2, bad2)) (hk1 : k ≠ 1) (hk2 : k ≠ 2) (hkb : 0 ≤ k ∧ k ≤ 255) (hf : fin l.length at2 bad2 = (0, 0)) (hm : mayb k 0 0 [] = true) :
    Calls Tryd.prog 45 #[.slice A n c] w (TakeTold w k 0 0 [] 0 0) := by
  obtain ⟨W0, hW0⟩ : ∃ W, W = w.alloc (.cells #[.int .i64 0, .int .i64 0, .int .i64 0, .slice none 0 0] 85) := ⟨_, rfl⟩
  have HB0 : Aside0 (Below w.heap.size w W0) := ⟨by rw [hW0]; exact below_alloc (Below.refl _ _) _⟩
  have HZ0 : Aside0 (EvAt W0 w.heap.size 0 0 0 (.slice none 0 0)) := ⟨by rw [hW0]; exact EvAt.new _ _ _ _ _⟩
  have hs0 : W0.heap.size = w.heap.size + 1 := by rw [hW0]; simp
  have hrd := (read_calls (.int .i64 0) A n c w W0 HB0.out).mono (fun e w' h => (⟨h.1, h.2.1, h.2.2.1, HZ0.out.below h.2.2.2⟩ : e = _ ∧ IsR w' _ A n c 0 (-1) ∧ Below w.heap.size w w' ∧ EvAt w' w.heap.size 0 0 0 (.slice none 0 0)))
  rw [hs0] at hrd
  rw [hW0] at hrd
  have HRD := Aside0.mk hrd
  have hle2 : at2 ≤ n := by have h := step_at (N := 1) (lim := 255) (l := l) (at_ := 0) (bad := -1) (Nat.zero_le _); rw [hs1, hl] at h; exact h
  have HBY := Aside0.mk (fun w1 (hb : Below w.heap.size w w1) hR => byte_step (w.heap.size + 1) A n c 0 (-1) (by omega) hc (by omega) l hl hby w w1 hr hb (Nat.le_succ _) hR)
  rw [hs1] at HBY
  have HDN := Aside0.mk (fun w1 hR => done_calls (w.heap.size + 1) A n c at2 bad2 w1 hR)
  rw [hl] at hf
  rw [hf] at HDN
  have hM : ∀ w1 : World, Calls Tryd.prog 78 #[.agg #[.int .i64 k, .int .i64 0, .int .i64 0, .slice none 0 0]] w1 (fun e w' => e = .returned (.bool true) ∧ Below w1.heap.size w1 w') := fun w1 => recall_may.calls k 0 0 none 0 [] true w1 (Kd.C_nil _ _) (Nat.zero_le _) (by rw [may_is, hm])
  have HM := Aside0.mk hM
  clear hM
  have hk1' : (k == (1 : Int)) = false := by simpa using hk1
  have hk2' : (k == (2 : Int)) = false := by simpa using hk2
  have hkw : wrap64 k = k := w64 k (by omega) (by omega)
  have hkw' : IntKind.i64.wrap k = k := IntWalk.i64_in _ (by omega)
  have hu79 := Tryd.underlying85
  have hg1 : w.heap.size < w.heap.size + 1 := Nat.lt_succ_self _
  clear hr hby hl hs1 hrd hW0 hs0 hf hm
  go_enter Tryd.func45, Tryd.ntmps45
  go_wp2_with (first
    | (go_at_call 83; (with_reducible refine HRD.out.mono ?_); rintro e w1 ⟨rfl, hR, hb1, hz⟩; have HR1 := Aside0.mk hR; have HZ1 := Aside0.mk hz; have HB1 := Aside0.mk hb1; clear hR hb1 hz)
    | (go_at_call 84; (with_reducible refine (HBY.out _ HB1.out HR1.out).mono ?_); rintro e w2 ⟨rfl, hR, hb, hk⟩; have he2 := EvAt.new w2 k 0 0 (.slice none 0 0); have HE2 := Aside0.mk he2; have hlt2 := World.block_lt_of_cell? _ _ hR.1; have HR2 := Aside0.mk (hR.below (below_alloc (Below.refl _ _) (.cells #[.int .i64 k, .int .i64 0, .int .i64 0, .slice none 0 0] 85))); have hz := HZ1.out.kept hk (fun h => Nat.ne_of_lt hg1 h); have HZ2 := Aside0.mk (hz.below (below_alloc (Below.refl _ _) (.cells #[.int .i64 k, .int .i64 0, .int .i64 0, .slice none 0 0] 85))); have HB2 := Aside0.mk (below_alloc hb (.cells #[.int .i64 k, .int .i64 0, .int .i64 0, .slice none 0 0] 85)); obtain ⟨y0, y1, y2, y3, y4, y5, y6, y7, y8⟩ := he2; clear hR hb hk hz)
    | (go_at_call 87; (with_reducible refine (HDN.out _ HR2.out).mono ?_); rintro e w5 ⟨rfl, hd9⟩; have HE5 := Aside0.mk (HE2.out.below hd9.below); have HZ5 := Aside0.mk (HZ2.out.below hd9.below); have HB5 := Aside0.mk (below_then HB2.out HB2.out.size hd9.below); obtain ⟨p0, p1, p2, p3, p4, p5, p6, p7, p8⟩ := HZ5.out; obtain ⟨q0, q1, q2, q3, q4, q5, q6, q7, q8⟩ := HE5.out; clear hd9)
    | (go_at_call 78; (with_reducible refine (HM.out w5).mono ?_); rintro e w6 ⟨rfl, hb⟩; have HE6 := Aside0.mk (HE5.out.below hb); have HZ6 := Aside0.mk (HZ5.out.below hb); have HB6 := Aside0.mk (below_then HB5.out HB5.out.size hb); obtain ⟨a0, a1, a2, a3, a4, a5, a6, a7, a8⟩ := HZ6.out; obtain ⟨b0, b1, b2, b3, b4, b5, b6, b7, b8⟩ := HE6.out; clear hb)
    | fail)
  have HF := Aside0.mk (HZ6.out.fill k 0 0 (.slice none 0 0))
  have HBF := Aside0.mk (bel_fill HB6.out (Nat.le_refl _) k 0 0 (.slice none 0 0))
  change bodyPost _ _ _ _ _ (fill4 w6 w.heap.size k 0 0 (.slice none 0 0))
  generalize fill4 w6 w.heap.size k 0 0 (.slice none 0 0) = WF at *
  obtain ⟨-, e0, e1, e2, e3, -⟩ := HF.out
  refine bodyPost_ret (by simp [results, Tryd.results45, go_sem, e0, e1, e2, e3]; try rfl) rfl ?_
  exact ⟨none, 0, rfl, ⟨Nat.zero_le _, fun _ h => by cases h⟩, Kd.C_nil _ _, HBF.out⟩
set_option maxHeartbeats 6400000 in
set_option maxRecDepth 100000 in
theorem take_2_bad (A : Option Addr) (n c : Nat) (hn : n ≤ 1000000) (hc : n ≤ c) (l : List Int) (hl : l.length = n) (hby : By l) (w : World) (hr : Kd.C (Kd.int .u8) w A l.length l) (x3 : Int) (bs : List Int) (at2 at3 at4 : Nat) (bad2 bad3 bad4 : Int) (p : Int)
    (hs1 : step 1 255 l 0 (-1) = (2, at2, bad2)) (hs2 : step 8 9223372036854775807 l at2 bad2 = (x3, at3, bad3)) (hs3 : bstep 0 1048576 l at3 bad3 = (bs, at4, bad4)) (hf : fin l.length at4 bad4 = (p, 20)) :
    Calls Tryd.prog 45 #[.slice A n c] w (TakeTold w 0 0 0 [] p 20) := by
  obtain ⟨W0, hW0⟩ : ∃ W, W = w.alloc (.cells #[.int .i64 0, .int .i64 0, .int .i64 0, .slice none 0 0] 85) := ⟨_, rfl⟩
  have HB0 : Aside0 (Below w.heap.size w W0) := ⟨by rw [hW0]; exact below_alloc (Below.refl _ _) _⟩
  have HZ0 : Aside0 (EvAt W0 w.heap.size 0 0 0 (.slice none 0 0)) := ⟨by rw [hW0]; exact EvAt.new _ _ _ _ _⟩
  have hs0 : W0.heap.size = w.heap.size + 1 := by rw [hW0]; simp
  have hrd := (read_calls (.int .i64 0) A n c w W0 HB0.out).mono (fun e w' h => (⟨h.1, h.2.1, h.2.2.1, HZ0.out.below h.2.2.2⟩ : e = _ ∧ IsR w' _ A n c 0 (-1) ∧ Below w.heap.size w w' ∧ EvAt w' w.heap.size 0 0 0 (.slice none 0 0)))
  rw [hs0] at hrd
  rw [hW0] at hrd
  have HRD := Aside0.mk hrd
  have hle2 : at2 ≤ n := by have h := step_at (N := 1) (lim := 255) (l := l) (at_ := 0) (bad := -1) (Nat.zero_le _); rw [hs1, hl] at h; exact h
  have HBY := Aside0.mk (fun w1 (hb : Below w.heap.size w w1) hR => byte_step (w.heap.size + 1) A n c 0 (-1) (by omega) hc (by omega) l hl hby w w1 hr hb (Nat.le_succ _) hR)
  rw [hs1] at HBY
  have hle3 : at3 ≤ n := by have h := step_at (N := 8) (lim := 9223372036854775807) (l := l) (at_ := at2) (bad := bad2) (by omega); rw [hs2, hl] at h; exact h
  have HIN := Aside0.mk (fun w1 (hb : Below w.heap.size w w1) hR => int_step (w.heap.size + 1) A n c at2 bad2 (by omega) hc hle2 l hl hby w w1 hr hb (Nat.le_succ _) hR)
  rw [hs2] at HIN
  have HBS := Aside0.mk (fun w1 (hb : Below w.heap.size w w1) hR => rbytes_step (w.heap.size + 1) A n c at3 bad3 0 1048576 (by omega) (by omega) hc hle3 l hl hby w w1 hr hb (Nat.le_succ _) hR)
  rw [hs3] at HBS
  have HDN := Aside0.mk (fun w1 hR => done_calls (w.heap.size + 1) A n c at4 bad4 w1 hR)
  rw [hl] at hf
  rw [hf] at HDN
  have HBL := Aside0.mk (rfl : bs.length = bs.length)
  have hu79 := Tryd.underlying85
  have hg1 : w.heap.size < w.heap.size + 1 := Nat.lt_succ_self _
  clear hr hby hl hs1 hrd hW0 hs0 hf hs2 hs3
  go_enter Tryd.func45, Tryd.ntmps45
  go_wp2_with (first
    | (go_at_call 83; (with_reducible refine HRD.out.mono ?_); rintro e w1 ⟨rfl, hR, hb1, hz⟩; have HR1 := Aside0.mk hR; have HZ1 := Aside0.mk hz; have HB1 := Aside0.mk hb1; clear hR hb1 hz)
    | (go_at_call 84; (with_reducible refine (HBY.out _ HB1.out HR1.out).mono ?_); rintro e w2 ⟨rfl, hR, hb, hk⟩; have he2 := EvAt.new w2 2 0 0 (.slice none 0 0); have HE2 := Aside0.mk he2; have hlt2 := World.block_lt_of_cell? _ _ hR.1; have HR2 := Aside0.mk (hR.below (below_alloc (Below.refl _ _) (.cells #[.int .i64 2, .int .i64 0, .int .i64 0, .slice none 0 0] 85))); have hz := HZ1.out.kept hk (fun h => Nat.ne_of_lt hg1 h); have HZ2 := Aside0.mk (hz.below (below_alloc (Below.refl _ _) (.cells #[.int .i64 2, .int .i64 0, .int .i64 0, .slice none 0 0] 85))); have HB2 := Aside0.mk (below_alloc hb (.cells #[.int .i64 2, .int .i64 0, .int .i64 0, .slice none 0 0] 85)); obtain ⟨y0, y1, y2, y3, y4, y5, y6, y7, y8⟩ := he2; clear hR hb hk hz)
    | (go_at_call 85; (with_reducible refine (HIN.out _ HB2.out HR2.out).mono ?_); rintro e w3 ⟨rfl, hR, hb, hk⟩; have he3 := HE2.out.kept hk (fun h => Nat.ne_of_gt hlt2 h); have HE3 := Aside0.mk (he3.set2 x3); have HZ3 := Aside0.mk ((HZ2.out.kept hk (fun h => Nat.ne_of_lt hg1 h)).far (p := ⟨w2.heap.size, 2, none⟩) (Nat.ne_of_gt (Nat.lt_trans hg1 hlt2)) (.int .i64 x3)); have HR3 := Aside0.mk (hR.other (p := ⟨w2.heap.size, 2, none⟩) (Nat.ne_of_gt hlt2) (.int .i64 x3)); have HB3 := Aside0.mk (hb.setCell (p := ⟨w2.heap.size, 2, none⟩) (Nat.le_of_lt (Nat.lt_trans hg1 hlt2)) (.int .i64 x3)); obtain ⟨z0, z1, z2, z3, z4, z5, z6, z7, z8⟩ := he3; clear hR hb hk)
    | (go_at_call 86; (with_reducible refine (HBS.out _ HB3.out HR3.out).mono ?_); rintro e w4 ⟨B, d, rfl, hd, hC, hR, hb, hk⟩; have HD := Aside0.mk hd; have he4 := HE3.out.kept hk (fun h => Nat.ne_of_gt hlt2 h); have HC4 := Aside0.mk (C_set_other hC he4.2.2.2.2.1 (fun x e => by cases e) (.slice B bs.length d)); have HE4 := Aside0.mk (he4.set3 (.slice B bs.length d)); have HZ4 := Aside0.mk ((HZ3.out.kept hk (fun h => Nat.ne_of_lt hg1 h)).far (p := ⟨w2.heap.size, 3, none⟩) (Nat.ne_of_gt (Nat.lt_trans hg1 hlt2)) (.slice B bs.length d)); have HR4 := Aside0.mk (hR.other (p := ⟨w2.heap.size, 3, none⟩) (Nat.ne_of_gt hlt2) (.slice B bs.length d)); have HB4 := Aside0.mk (hb.setCell (p := ⟨w2.heap.size, 3, none⟩) (Nat.le_of_lt (Nat.lt_trans hg1 hlt2)) (.slice B bs.length d)); obtain ⟨u0, u1, u2, u3, u4, u5, u6, u7, u8⟩ := he4; clear hd hC hR hb hk)
    | (go_at_call 87; (with_reducible refine (HDN.out _ HR4.out).mono ?_); rintro e w5 ⟨rfl, hd9⟩; have HE5 := Aside0.mk (HE4.out.below hd9.below); have HZ5 := Aside0.mk (HZ4.out.below hd9.below); have HB5 := Aside0.mk (below_then HB4.out HB4.out.size hd9.below); have HC5 := Aside0.mk (Kd.C_below HC4.out hd9.below); obtain ⟨p0, p1, p2, p3, p4, p5, p6, p7, p8⟩ := HZ5.out; obtain ⟨q0, q1, q2, q3, q4, q5, q6, q7, q8⟩ := HE5.out; clear hd9)
    | fail)
  have HF := Aside0.mk (HZ5.out.fill 0 0 0 (.slice none 0 0))
  have HBF := Aside0.mk (bel_fill HB5.out (Nat.le_refl _) 0 0 0 (.slice none 0 0))
  change bodyPost _ _ _ _ _ (fill4 w5 w.heap.size 0 0 0 (.slice none 0 0))
  generalize fill4 w5 w.heap.size 0 0 0 (.slice none 0 0) = WF at *
  obtain ⟨-, e0, e1, e2, e3, -⟩ := HF.out
  refine bodyPost_ret (by simp [results, Tryd.results45, go_sem, e0, e1, e2, e3]; try rfl) rfl ?_
  exact ⟨none, 0, rfl, ⟨Nat.zero_le _, fun _ h => by cases h⟩, Kd.C_nil _ _, HBF.out⟩
set_option maxHeartbeats 6400000 in
set_option maxRecDepth 100000 in
theorem take_2_no (A : Option Addr) (n c : Nat) (hn : n ≤ 1000000) (hc : n ≤ c) (l : List Int) (hl : l.length = n) (hby : By l) (w : World) (hr : Kd.C (Kd.int .u8) w A l.length l) (x3 : Int) (bs : List Int) (at2 at3 at4 : Nat) (bad2 bad3 bad4 : Int)
    (hs1 : step 1 255 l 0 (-1) = (2, at2, bad2)) (hs2 : step 8 9223372036854775807 l at2 bad2 = (x3, at3, bad3)) (hs3 : bstep 0 1048576 l at3 bad3 = (bs, at4, bad4)) (hf : fin l.length at4 bad4 = (0, 0)) (hm : mayb 2 0 x3 bs = false) :
    Calls Tryd.prog 45 #[.slice A n c] w (TakeTold w 0 0 0 [] 0 2) := by
  obtain ⟨W0, hW0⟩ : ∃ W, W = w.alloc (.cells #[.int .i64 0, .int .i64 0, .int .i64 0, .slice none 0 0] 85) := ⟨_, rfl⟩
  have HB0 : Aside0 (Below w.heap.size w W0) := ⟨by rw [hW0]; exact below_alloc (Below.refl _ _) _⟩
  have HZ0 : Aside0 (EvAt W0 w.heap.size 0 0 0 (.slice none 0 0)) := ⟨by rw [hW0]; exact EvAt.new _ _ _ _ _⟩
  have hs0 : W0.heap.size = w.heap.size + 1 := by rw [hW0]; simp
  have hrd := (read_calls (.int .i64 0) A n c w W0 HB0.out).mono (fun e w' h => (⟨h.1, h.2.1, h.2.2.1, HZ0.out.below h.2.2.2⟩ : e = _ ∧ IsR w' _ A n c 0 (-1) ∧ Below w.heap.size w w' ∧ EvAt w' w.heap.size 0 0 0 (.slice none 0 0)))
  rw [hs0] at hrd
  rw [hW0] at hrd
  have HRD := Aside0.mk hrd
  have hle2 : at2 ≤ n := by have h := step_at (N := 1) (lim := 255) (l := l) (at_ := 0) (bad := -1) (Nat.zero_le _); rw [hs1, hl] at h; exact h
  have HBY := Aside0.mk (fun w1 (hb : Below w.heap.size w w1) hR => byte_step (w.heap.size + 1) A n c 0 (-1) (by omega) hc (by omega) l hl hby w w1 hr hb (Nat.le_succ _) hR)
  rw [hs1] at HBY
  have hle3 : at3 ≤ n := by have h := step_at (N := 8) (lim := 9223372036854775807) (l := l) (at_ := at2) (bad := bad2) (by omega); rw [hs2, hl] at h; exact h
  have HIN := Aside0.mk (fun w1 (hb : Below w.heap.size w w1) hR => int_step (w.heap.size + 1) A n c at2 bad2 (by omega) hc hle2 l hl hby w w1 hr hb (Nat.le_succ _) hR)
  rw [hs2] at HIN
  have HBS := Aside0.mk (fun w1 (hb : Below w.heap.size w w1) hR => rbytes_step (w.heap.size + 1) A n c at3 bad3 0 1048576 (by omega) (by omega) hc hle3 l hl hby w w1 hr hb (Nat.le_succ _) hR)
  rw [hs3] at HBS
  have HDN := Aside0.mk (fun w1 hR => done_calls (w.heap.size + 1) A n c at4 bad4 w1 hR)
  rw [hl] at hf
  rw [hf] at HDN
  have HM := Aside0.mk (fun (B : Option Addr) (d : Nat) (w1 : World) (hC : Kd.C (Kd.int .u8) w1 B (bs : List Int).length bs) (hd : (bs : List Int).length ≤ d) => recall_may.calls 2 0 x3 B d bs false w1 hC hd (by rw [may_is, hm]))
  have HBL := Aside0.mk (rfl : bs.length = bs.length)
  have hu79 := Tryd.underlying85
  have hg1 : w.heap.size < w.heap.size + 1 := Nat.lt_succ_self _
  clear hr hby hl hs1 hrd hW0 hs0 hf hs2 hs3 hm
  go_enter Tryd.func45, Tryd.ntmps45
  go_wp2_with (first
    | (go_at_call 83; (with_reducible refine HRD.out.mono ?_); rintro e w1 ⟨rfl, hR, hb1, hz⟩; have HR1 := Aside0.mk hR; have HZ1 := Aside0.mk hz; have HB1 := Aside0.mk hb1; clear hR hb1 hz)
    | (go_at_call 84; (with_reducible refine (HBY.out _ HB1.out HR1.out).mono ?_); rintro e w2 ⟨rfl, hR, hb, hk⟩; have he2 := EvAt.new w2 2 0 0 (.slice none 0 0); have HE2 := Aside0.mk he2; have hlt2 := World.block_lt_of_cell? _ _ hR.1; have HR2 := Aside0.mk (hR.below (below_alloc (Below.refl _ _) (.cells #[.int .i64 2, .int .i64 0, .int .i64 0, .slice none 0 0] 85))); have hz := HZ1.out.kept hk (fun h => Nat.ne_of_lt hg1 h); have HZ2 := Aside0.mk (hz.below (below_alloc (Below.refl _ _) (.cells #[.int .i64 2, .int .i64 0, .int .i64 0, .slice none 0 0] 85))); have HB2 := Aside0.mk (below_alloc hb (.cells #[.int .i64 2, .int .i64 0, .int .i64 0, .slice none 0 0] 85)); obtain ⟨y0, y1, y2, y3, y4, y5, y6, y7, y8⟩ := he2; clear hR hb hk hz)
    | (go_at_call 85; (with_reducible refine (HIN.out _ HB2.out HR2.out).mono ?_); rintro e w3 ⟨rfl, hR, hb, hk⟩; have he3 := HE2.out.kept hk (fun h => Nat.ne_of_gt hlt2 h); have HE3 := Aside0.mk (he3.set2 x3); have HZ3 := Aside0.mk ((HZ2.out.kept hk (fun h => Nat.ne_of_lt hg1 h)).far (p := ⟨w2.heap.size, 2, none⟩) (Nat.ne_of_gt (Nat.lt_trans hg1 hlt2)) (.int .i64 x3)); have HR3 := Aside0.mk (hR.other (p := ⟨w2.heap.size, 2, none⟩) (Nat.ne_of_gt hlt2) (.int .i64 x3)); have HB3 := Aside0.mk (hb.setCell (p := ⟨w2.heap.size, 2, none⟩) (Nat.le_of_lt (Nat.lt_trans hg1 hlt2)) (.int .i64 x3)); obtain ⟨z0, z1, z2, z3, z4, z5, z6, z7, z8⟩ := he3; clear hR hb hk)
    | (go_at_call 86; (with_reducible refine (HBS.out _ HB3.out HR3.out).mono ?_); rintro e w4 ⟨B, d, rfl, hd, hC, hR, hb, hk⟩; have HD := Aside0.mk hd; have he4 := HE3.out.kept hk (fun h => Nat.ne_of_gt hlt2 h); have HC4 := Aside0.mk (C_set_other hC he4.2.2.2.2.1 (fun x e => by cases e) (.slice B bs.length d)); have HE4 := Aside0.mk (he4.set3 (.slice B bs.length d)); have HZ4 := Aside0.mk ((HZ3.out.kept hk (fun h => Nat.ne_of_lt hg1 h)).far (p := ⟨w2.heap.size, 3, none⟩) (Nat.ne_of_gt (Nat.lt_trans hg1 hlt2)) (.slice B bs.length d)); have HR4 := Aside0.mk (hR.other (p := ⟨w2.heap.size, 3, none⟩) (Nat.ne_of_gt hlt2) (.slice B bs.length d)); have HB4 := Aside0.mk (hb.setCell (p := ⟨w2.heap.size, 3, none⟩) (Nat.le_of_lt (Nat.lt_trans hg1 hlt2)) (.slice B bs.length d)); obtain ⟨u0, u1, u2, u3, u4, u5, u6, u7, u8⟩ := he4; clear hd hC hR hb hk)
    | (go_at_call 87; (with_reducible refine (HDN.out _ HR4.out).mono ?_); rintro e w5 ⟨rfl, hd9⟩; have HE5 := Aside0.mk (HE4.out.below hd9.below); have HZ5 := Aside0.mk (HZ4.out.below hd9.below); have HB5 := Aside0.mk (below_then HB4.out HB4.out.size hd9.below); have HC5 := Aside0.mk (Kd.C_below HC4.out hd9.below); obtain ⟨p0, p1, p2, p3, p4, p5, p6, p7, p8⟩ := HZ5.out; obtain ⟨q0, q1, q2, q3, q4, q5, q6, q7, q8⟩ := HE5.out; clear hd9)
    | (go_at_call 78; (with_reducible refine (HM.out _ _ w5 HC5.out HD.out.1).mono ?_); rintro e w6 ⟨rfl, hb⟩; have HE6 := Aside0.mk (HE5.out.below hb); have HZ6 := Aside0.mk (HZ5.out.below hb); have HB6 := Aside0.mk (below_then HB5.out HB5.out.size hb); have HC6 := Aside0.mk (Kd.C_below HC5.out hb); obtain ⟨a0, a1, a2, a3, a4, a5, a6, a7, a8⟩ := HZ6.out; obtain ⟨b0, b1, b2, b3, b4, b5, b6, b7, b8⟩ := HE6.out; clear hb)
    | fail)
  have HF := Aside0.mk (HZ6.out.fill 0 0 0 (.slice none 0 0))
  have HBF := Aside0.mk (bel_fill HB6.out (Nat.le_refl _) 0 0 0 (.slice none 0 0))
  change bodyPost _ _ _ _ _ (fill4 w6 w.heap.size 0 0 0 (.slice none 0 0))
  generalize fill4 w6 w.heap.size 0 0 0 (.slice none 0 0) = WF at *
  obtain ⟨-, e0, e1, e2, e3, -⟩ := HF.out
  refine bodyPost_ret (by simp [results, Tryd.results45, go_sem, e0, e1, e2, e3]; try rfl) rfl ?_
  exact ⟨none, 0, rfl, ⟨Nat.zero_le _, fun _ h => by cases h⟩, Kd.C_nil _ _, HBF.out⟩
set_option maxHeartbeats 6400000 in
set_option maxRecDepth 100000 in
theorem take_2_ok (A : Option Addr) (n c : Nat) (hn : n ≤ 1000000) (hc : n ≤ c) (l : List Int) (hl : l.length = n) (hby : By l) (w : World) (hr : Kd.C (Kd.int .u8) w A l.length l) (x3 : Int) (bs : List Int) (at2 at3 at4 : Nat) (bad2 bad3 bad4 : Int)
    (hs1 : step 1 255 l 0 (-1) = (2, at2, bad2)) (hs2 : step 8 9223372036854775807 l at2 bad2 = (x3, at3, bad3)) (hs3 : bstep 0 1048576 l at3 bad3 = (bs, at4, bad4)) (hf : fin l.length at4 bad4 = (0, 0)) (hm : mayb 2 0 x3 bs = true) :
    Calls Tryd.prog 45 #[.slice A n c] w (TakeTold w 2 0 x3 bs 0 0) := by
  obtain ⟨W0, hW0⟩ : ∃ W, W = w.alloc (.cells #[.int .i64 0, .int .i64 0, .int .i64 0, .slice none 0 0] 85) := ⟨_, rfl⟩
  have HB0 : Aside0 (Below w.heap.size w W0) := ⟨by rw [hW0]; exact below_alloc (Below.refl _ _) _⟩
  have HZ0 : Aside0 (EvAt W0 w.heap.size 0 0 0 (.slice none 0 0)) := ⟨by rw [hW0]; exact EvAt.new _ _ _ _ _⟩
  have hs0 : W0.heap.size = w.heap.size + 1 := by rw [hW0]; simp
  have hrd := (read_calls (.int .i64 0) A n c w W0 HB0.out).mono (fun e w' h => (⟨h.1, h.2.1, h.2.2.1, HZ0.out.below h.2.2.2⟩ : e = _ ∧ IsR w' _ A n c 0 (-1) ∧ Below w.heap.size w w' ∧ EvAt w' w.heap.size 0 0 0 (.slice none 0 0)))
  rw [hs0] at hrd
  rw [hW0] at hrd
  have HRD := Aside0.mk hrd
  have hle2 : at2 ≤ n := by have h := step_at (N := 1) (lim := 255) (l := l) (at_ := 0) (bad := -1) (Nat.zero_le _); rw [hs1, hl] at h; exact h
  have HBY := Aside0.mk (fun w1 (hb : Below w.heap.size w w1) hR => byte_step (w.heap.size + 1) A n c 0 (-1) (by omega) hc (by omega) l hl hby w w1 hr hb (Nat.le_succ _) hR)
  rw [hs1] at HBY
  have hle3 : at3 ≤ n := by have h := step_at (N := 8) (lim := 9223372036854775807) (l := l) (at_ := at2) (bad := bad2) (by omega); rw [hs2, hl] at h; exact h
  have HIN := Aside0.mk (fun w1 (hb : Below w.heap.size w w1) hR => int_step (w.heap.size + 1) A n c at2 bad2 (by omega) hc hle2 l hl hby w w1 hr hb (Nat.le_succ _) hR)
  rw [hs2] at HIN
  have HBS := Aside0.mk (fun w1 (hb : Below w.heap.size w w1) hR => rbytes_step (w.heap.size + 1) A n c at3 bad3 0 1048576 (by omega) (by omega) hc hle3 l hl hby w w1 hr hb (Nat.le_succ _) hR)
  rw [hs3] at HBS
  have HDN := Aside0.mk (fun w1 hR => done_calls (w.heap.size + 1) A n c at4 bad4 w1 hR)
  rw [hl] at hf
  rw [hf] at HDN
  have HM := Aside0.mk (fun (B : Option Addr) (d : Nat) (w1 : World) (hC : Kd.C (Kd.int .u8) w1 B (bs : List Int).length bs) (hd : (bs : List Int).length ≤ d) => recall_may.calls 2 0 x3 B d bs true w1 hC hd (by rw [may_is, hm]))
  have HBL := Aside0.mk (rfl : bs.length = bs.length)
  have hu79 := Tryd.underlying85
  have hg1 : w.heap.size < w.heap.size + 1 := Nat.lt_succ_self _
  clear hr hby hl hs1 hrd hW0 hs0 hf hs2 hs3 hm
  go_enter Tryd.func45, Tryd.ntmps45
  go_wp2_with (first
    | (go_at_call 83; (with_reducible refine HRD.out.mono ?_); rintro e w1 ⟨rfl, hR, hb1, hz⟩; have HR1 := Aside0.mk hR; have HZ1 := Aside0.mk hz; have HB1 := Aside0.mk hb1; clear hR hb1 hz)
    | (go_at_call 84; (with_reducible refine (HBY.out _ HB1.out HR1.out).mono ?_); rintro e w2 ⟨rfl, hR, hb, hk⟩; have he2 := EvAt.new w2 2 0 0 (.slice none 0 0); have HE2 := Aside0.mk he2; have hlt2 := World.block_lt_of_cell? _ _ hR.1; have HR2 := Aside0.mk (hR.below (below_alloc (Below.refl _ _) (.cells #[.int .i64 2, .int .i64 0, .int .i64 0, .slice none 0 0] 85))); have hz := HZ1.out.kept hk (fun h => Nat.ne_of_lt hg1 h); have HZ2 := Aside0.mk (hz.below (below_alloc (Below.refl _ _) (.cells #[.int .i64 2, .int .i64 0, .int .i64 0, .slice none 0 0] 85))); have HB2 := Aside0.mk (below_alloc hb (.cells #[.int .i64 2, .int .i64 0, .int .i64 0, .slice none 0 0] 85)); obtain ⟨y0, y1, y2, y3, y4, y5, y6, y7, y8⟩ := he2; clear hR hb hk hz)
    | (go_at_call 85; (with_reducible refine (HIN.out _ HB2.out HR2.out).mono ?_); rintro e w3 ⟨rfl, hR, hb, hk⟩; have he3 := HE2.out.kept hk (fun h => Nat.ne_of_gt hlt2 h); have HE3 := Aside0.mk (he3.set2 x3); have HZ3 := Aside0.mk ((HZ2.out.kept hk (fun h => Nat.ne_of_lt hg1 h)).far (p := ⟨w2.heap.size, 2, none⟩) (Nat.ne_of_gt (Nat.lt_trans hg1 hlt2)) (.int .i64 x3)); have HR3 := Aside0.mk (hR.other (p := ⟨w2.heap.size, 2, none⟩) (Nat.ne_of_gt hlt2) (.int .i64 x3)); have HB3 := Aside0.mk (hb.setCell (p := ⟨w2.heap.size, 2, none⟩) (Nat.le_of_lt (Nat.lt_trans hg1 hlt2)) (.int .i64 x3)); obtain ⟨z0, z1, z2, z3, z4, z5, z6, z7, z8⟩ := he3; clear hR hb hk)
    | (go_at_call 86; (with_reducible refine (HBS.out _ HB3.out HR3.out).mono ?_); rintro e w4 ⟨B, d, rfl, hd, hC, hR, hb, hk⟩; have HD := Aside0.mk hd; have he4 := HE3.out.kept hk (fun h => Nat.ne_of_gt hlt2 h); have HC4 := Aside0.mk (C_set_other hC he4.2.2.2.2.1 (fun x e => by cases e) (.slice B bs.length d)); have HE4 := Aside0.mk (he4.set3 (.slice B bs.length d)); have HZ4 := Aside0.mk ((HZ3.out.kept hk (fun h => Nat.ne_of_lt hg1 h)).far (p := ⟨w2.heap.size, 3, none⟩) (Nat.ne_of_gt (Nat.lt_trans hg1 hlt2)) (.slice B bs.length d)); have HR4 := Aside0.mk (hR.other (p := ⟨w2.heap.size, 3, none⟩) (Nat.ne_of_gt hlt2) (.slice B bs.length d)); have HB4 := Aside0.mk (hb.setCell (p := ⟨w2.heap.size, 3, none⟩) (Nat.le_of_lt (Nat.lt_trans hg1 hlt2)) (.slice B bs.length d)); obtain ⟨u0, u1, u2, u3, u4, u5, u6, u7, u8⟩ := he4; clear hd hC hR hb hk)
    | (go_at_call 87; (with_reducible refine (HDN.out _ HR4.out).mono ?_); rintro e w5 ⟨rfl, hd9⟩; have HE5 := Aside0.mk (HE4.out.below hd9.below); have HZ5 := Aside0.mk (HZ4.out.below hd9.below); have HB5 := Aside0.mk (below_then HB4.out HB4.out.size hd9.below); have HC5 := Aside0.mk (Kd.C_below HC4.out hd9.below); obtain ⟨p0, p1, p2, p3, p4, p5, p6, p7, p8⟩ := HZ5.out; obtain ⟨q0, q1, q2, q3, q4, q5, q6, q7, q8⟩ := HE5.out; clear hd9)
    | (go_at_call 78; (with_reducible refine (HM.out _ _ w5 HC5.out HD.out.1).mono ?_); rintro e w6 ⟨rfl, hb⟩; have HE6 := Aside0.mk (HE5.out.below hb); have HZ6 := Aside0.mk (HZ5.out.below hb); have HB6 := Aside0.mk (below_then HB5.out HB5.out.size hb); have HC6 := Aside0.mk (Kd.C_below HC5.out hb); obtain ⟨a0, a1, a2, a3, a4, a5, a6, a7, a8⟩ := HZ6.out; obtain ⟨b0, b1, b2, b3, b4, b5, b6, b7, b8⟩ := HE6.out; clear hb)
    | fail)
  have HF := Aside0.mk (HZ6.out.fill 2 0 x3 (.slice B bs.length d))
  have HBF := Aside0.mk (bel_fill HB6.out (Nat.le_refl _) 2 0 x3 (.slice B bs.length d))
  have HCF := Aside0.mk (C_fill HC6.out HZ6.out (fun x e => by cases e) 2 0 x3 (.slice B bs.length d))
  change bodyPost _ _ _ _ _ (fill4 w6 w.heap.size 2 0 x3 (.slice B bs.length d))
  generalize fill4 w6 w.heap.size 2 0 x3 (.slice B bs.length d) = WF at *
  obtain ⟨-, e0, e1, e2, e3, -⟩ := HF.out
  refine bodyPost_ret (by simp [results, Tryd.results45, go_sem, e0, e1, e2, e3]; try rfl) rfl ?_
  exact ⟨B, d, rfl, HD.out, HCF.out, HBF.out⟩
end Go.Proofs.YteapdhfeddgjbaaDoor.Wire
end
section
/- recall: the event of bytes, by the document. -/
namespace Go.Proofs.YteapdhfeddgjbaaDoor.Wire
set_option linter.unusedVariables false
set_option linter.unusedSimpArgs false
open Go.RowKit Go.Proofs.YteapdhfeddgjbaaDoor.Num Go.Proofs.YteapdhfeddgjbaaDoor.PDj Go.Proofs.YteapdhfeddgjbaaDoorW Go.Proofs.YteapdhfeddgjbaaDoorW.PrintWords Go.Proofs.YteapdhfeddgjbaaDoorW.PrintLast Go.Proofs.YteapdhfeddgjbaaDoorW.PrintMore

theorem IsQ.other {W : World} {g : Nat} {A : Option Addr} {n c at_ : Nat} {bad : Int} (h : IsQ W g A n c at_ bad) {p : Addr} (hp : p.block ≠ g) (u : Value) : IsQ (W.setCell p u) g A n c at_ bad := by
  obtain ⟨h0, h1, h2, h4, h5⟩ := h
  have hn : ∀ i, p ≠ ⟨g, i, none⟩ := fun i e => hp (by rw [e])
  refine ⟨?_, ?_, ?_, by rw [World.frozen?_setCell]; exact h4, by rw [World.frozen?_setCell]; exact h5⟩
  · rw [World.cell?_setCell_other (h := hn 0)]; exact h0
  · rw [World.cell?_setCell_other (h := hn 1)]; exact h1
  · rw [World.cell?_setCell_other (h := hn 2)]; exact h2
/-- Behind the document's Read. -/
def ReadTold (w : World) (k now fr : Int) (l : List Int) (at_ : Int) (e : Ending) (w' : World) : Prop :=
  ∃ B d, e = .returned (.tuple #[.agg #[.int .i64 k, .int .i64 now, .int .i64 fr, .slice B l.length d], .int .i64 at_]) ∧ l.length ≤ d ∧ Kd.C (Kd.int .u8) w' B l.length l ∧ Below w.heap.size w w'
set_option maxHeartbeats 6400000 in
set_option maxRecDepth 100000 in
theorem qtake_1 (A : Option Addr) (n c : Nat) (hn : n ≤ 1000000) (hc : n ≤ c) (l : List Int) (hl : l.length = n) (hby : By l) (w : World) (hr : Kd.C (Kd.int .u8) w A l.length l) (x3 : Int) (at2 at3 : Nat) (bad2 bad3 : Int) (p : Int)
    (hs1 : step 1 255 l 0 (-1) = (1, at2, bad2)) (hs2 : step 8 9223372036854775807 l at2 bad2 = (x3, at3, bad3)) (hf : qfin l.length at3 bad3 = p) :
    Calls Tryd.prog 41 #[.slice A n c] w (ReadTold w 1 x3 0 [] p) := by
  obtain ⟨W0, hW0⟩ : ∃ W, W = w.alloc (.cells #[.int .i64 0, .int .i64 0, .int .i64 0, .slice none 0 0] 85) := ⟨_, rfl⟩
  have HB0 : Aside0 (Below w.heap.size w W0) := ⟨by rw [hW0]; exact below_alloc (Below.refl _ _) _⟩
  have HZ0 : Aside0 (EvAt W0 w.heap.size 0 0 0 (.slice none 0 0)) := ⟨by rw [hW0]; exact EvAt.new _ _ _ _ _⟩
  have hs0 : W0.heap.size = w.heap.size + 1 := by rw [hW0]; simp
  have hrd := (qread_calls A n c w W0 HB0.out).mono (fun e w' h => (⟨h.1, h.2.1, h.2.2.1, HZ0.out.below h.2.2.2⟩ : e = _ ∧ IsQ w' _ A n c 0 (-1) ∧ Below w.heap.size w w' ∧ EvAt w' w.heap.size 0 0 0 (.slice none 0 0)))
  rw [hs0] at hrd
  rw [hW0] at hrd
  have HRD := Aside0.mk hrd
  have hle2 : at2 ≤ n := by have h := step_at (N := 1) (lim := 255) (l := l) (at_ := 0) (bad := -1) (Nat.zero_le _); rw [hs1, hl] at h; exact h
  have HBY := Aside0.mk (fun w1 (hb : Below w.heap.size w w1) hR => qbyte_step (w.heap.size + 1) A n c 0 (-1) (by omega) hc (by omega) l hl hby w w1 hr hb (Nat.le_succ _) hR)
  rw [hs1] at HBY
  have hle3 : at3 ≤ n := by have h := step_at (N := 8) (lim := 9223372036854775807) (l := l) (at_ := at2) (bad := bad2) (by omega); rw [hs2, hl] at h; exact h
  have HIN := Aside0.mk (fun w1 (hb : Below w.heap.size w w1) hR => qint_step (w.heap.size + 1) A n c at2 bad2 (by omega) hc hle2 l hl hby w w1 hr hb (Nat.le_succ _) hR)
  rw [hs2] at HIN
  have HDN := Aside0.mk (fun w1 hR => qdone_calls (w.heap.size + 1) A n c at3 bad3 w1 hR)
  rw [hl] at hf
  rw [hf] at HDN
  have hu79 := Tryd.underlying85
  have hg1 : w.heap.size < w.heap.size + 1 := Nat.lt_succ_self _
  clear hr hby hl hs1 hrd hW0 hs0 hf hs2
  go_enter Tryd.func41, Tryd.ntmps41
  go_wp2_with (first
    | (go_at_call 73; (with_reducible refine HRD.out.mono ?_); rintro e w1 ⟨rfl, hR, hb1, hz⟩; have HR1 := Aside0.mk hR; have HZ1 := Aside0.mk hz; have HB1 := Aside0.mk hb1; clear hR hb1 hz)
    | (go_at_call 74; (with_reducible refine (HBY.out _ HB1.out HR1.out).mono ?_); rintro e w2 ⟨rfl, hR, hb, hk⟩; have he2 := EvAt.new w2 1 0 0 (.slice none 0 0); have HE2 := Aside0.mk he2; have hlt2 := World.block_lt_of_cell? _ _ hR.1; have HR2 := Aside0.mk (hR.below (below_alloc (Below.refl _ _) (.cells #[.int .i64 1, .int .i64 0, .int .i64 0, .slice none 0 0] 85))); have hz := HZ1.out.kept hk (fun h => Nat.ne_of_lt hg1 h); have HZ2 := Aside0.mk (hz.below (below_alloc (Below.refl _ _) (.cells #[.int .i64 1, .int .i64 0, .int .i64 0, .slice none 0 0] 85))); have HB2 := Aside0.mk (below_alloc hb (.cells #[.int .i64 1, .int .i64 0, .int .i64 0, .slice none 0 0] 85)); obtain ⟨y0, y1, y2, y3, y4, y5, y6, y7, y8⟩ := he2; clear hR hb hk hz)
    | (go_at_call 75; (with_reducible refine (HIN.out _ HB2.out HR2.out).mono ?_); rintro e w3 ⟨rfl, hR, hb, hk⟩; have he3 := HE2.out.kept hk (fun h => Nat.ne_of_gt hlt2 h); have HE3 := Aside0.mk (he3.set1 x3); have HZ3 := Aside0.mk ((HZ2.out.kept hk (fun h => Nat.ne_of_lt hg1 h)).far (p := ⟨w2.heap.size, 1, none⟩) (Nat.ne_of_gt (Nat.lt_trans hg1 hlt2)) (.int .i64 x3)); have HR3 := Aside0.mk (hR.other (p := ⟨w2.heap.size, 1, none⟩) (Nat.ne_of_gt hlt2) (.int .i64 x3)); have HB3 := Aside0.mk (hb.setCell (p := ⟨w2.heap.size, 1, none⟩) (Nat.le_of_lt (Nat.lt_trans hg1 hlt2)) (.int .i64 x3)); obtain ⟨z0, z1, z2, z3, z4, z5, z6, z7, z8⟩ := he3; clear hR hb hk)
    | fail)
  clear y0 y1 y2 y3 y4 y5 y6 y7 y8 z0 z1 z2 z3 z4 z5 z6 z7 z8
  generalize (w3.setCell ⟨w2.heap.size, 1, none⟩ (.int .i64 x3)) = W at *
  obtain ⟨p0, p1, p2, p3, p4, p5, p6, p7, p8⟩ := HZ3.out
  obtain ⟨q0, q1, q2, q3, q4, q5, q6, q7, q8⟩ := HE3.out
  have HX := HB3
  first | (go_region_with (first
      | (go_at_call 77; (with_reducible refine (HDN.out _ (HR3.out.below ((Below.refl W.heap.size W).drew))).mono ?_); rintro e w5 ⟨rfl, hd9⟩; have HE5 := Aside0.mk ((HE3.out.below ((Below.refl W.heap.size W).drew)).below hd9.below); have HZ5 := Aside0.mk ((HZ3.out.below ((Below.refl W.heap.size W).drew)).below hd9.below); have HB5 := Aside0.mk (below_then HX.out HX.out.size (below_then ((Below.refl W.heap.size W).drew) ((Below.refl W.heap.size W).drew).size hd9.below)); obtain ⟨a0, a1, a2, a3, a4, a5, a6, a7, a8⟩ := HZ5.out; obtain ⟨b0, b1, b2, b3, b4, b5, b6, b7, b8⟩ := HE5.out; clear hd9)
      | (go_at_call 77; (with_reducible refine (HDN.out _ (((((HR3.out.below ((Below.refl W.heap.size W).drew)).other (p := ⟨w.heap.size, 0, none⟩) (Nat.ne_of_lt hg1) _).other (p := ⟨w.heap.size, 1, none⟩) (Nat.ne_of_lt hg1) _).other (p := ⟨w.heap.size, 2, none⟩) (Nat.ne_of_lt hg1) _).other (p := ⟨w.heap.size, 3, none⟩) (Nat.ne_of_lt hg1) _)).mono ?_); rintro e w5 ⟨rfl, hd9⟩; have HF := Aside0.mk (((HZ3.out.below ((Below.refl W.heap.size W).drew)).fill 1 x3 0 (.slice none 0 0)).below hd9.below); have HBF := Aside0.mk (below_then (bel_fill (below_then HX.out HX.out.size ((Below.refl W.heap.size W).drew)) (Nat.le_refl _) 1 x3 0 (.slice none 0 0)) (bel_fill (below_then HX.out HX.out.size ((Below.refl W.heap.size W).drew)) (Nat.le_refl _) 1 x3 0 (.slice none 0 0)).size hd9.below); clear hd9)
      | fail)) | fail
  all_goals
    refine (‹∀ (a : Act) (w_1 : World), Code.wp _ _ _ a w_1 → _› _ _ ?_)
    go_wp2
    first
      | (have HF := Aside0.mk (HZ5.out.fill 1 x3 0 (.slice none 0 0)); have HBF := Aside0.mk (bel_fill HB5.out (Nat.le_refl _) 1 x3 0 (.slice none 0 0)); change bodyPost _ _ _ _ _ (fill4 w5 w.heap.size 1 x3 0 (.slice none 0 0)); generalize fill4 w5 w.heap.size 1 x3 0 (.slice none 0 0) = WF at *; obtain ⟨-, e0, e1, e2, e3, -⟩ := HF.out; refine bodyPost_ret (by simp [results, Tryd.results41, go_sem, e0, e1, e2, e3]; try rfl) rfl ?_; exact ⟨none, 0, rfl, Nat.zero_le _, Kd.C_nil _ _, HBF.out⟩)
      | (obtain ⟨-, e0, e1, e2, e3, -⟩ := HF.out; refine bodyPost_ret (by simp [results, Tryd.results41, go_sem, e0, e1, e2, e3]; try rfl) rfl ?_; exact ⟨none, 0, rfl, Nat.zero_le _, Kd.C_nil _ _, HBF.out⟩)
set_option maxHeartbeats 6400000 in
set_option maxRecDepth 100000 in
theorem qtake_0 (A : Option Addr) (n c : Nat) (hn : n ≤ 1000000) (hc : n ≤ c) (l : List Int) (hl : l.length = n) (hby : By l) (w : World) (hr : Kd.C (Kd.int .u8) w A l.length l) (k : Int) (at2 : Nat) (bad2 : Int) (p : Int)
    (hs1 : step 1 255 l 0 (-1) = (k, at2, bad2)) (hk1 : k ≠ 1) (hk2 : k ≠ 2) (hkb : 0 ≤ k ∧ k ≤ 255) (hf : qfin l.length at2 bad2 = p) :
    Calls Tryd.prog 41 #[.slice A n c] w (ReadTold w k 0 0 [] p) := by
  obtain ⟨W0, hW0⟩ : ∃ W, W = w.alloc (.cells #[.int .i64 0, .int .i64 0, .int .i64 0, .slice none 0 0] 85) := ⟨_, rfl⟩
  have HB0 : Aside0 (Below w.heap.size w W0) := ⟨by rw [hW0]; exact below_alloc (Below.refl _ _) _⟩
  have HZ0 : Aside0 (EvAt W0 w.heap.size 0 0 0 (.slice none 0 0)) := ⟨by rw [hW0]; exact EvAt.new _ _ _ _ _⟩
  have hs0 : W0.heap.size = w.heap.size + 1 := by rw [hW0]; simp
  have hrd := (qread_calls A n c w W0 HB0.out).mono (fun e w' h => (⟨h.1, h.2.1, h.2.2.1, HZ0.out.below h.2.2.2⟩ : e = _ ∧ IsQ w' _ A n c 0 (-1) ∧ Below w.heap.size w w' ∧ EvAt w' w.heap.size 0 0 0 (.slice none 0 0)))
  rw [hs0] at hrd
  rw [hW0] at hrd
  have HRD := Aside0.mk hrd
  have hle2 : at2 ≤ n := by have h := step_at (N := 1) (lim := 255) (l := l) (at_ := 0) (bad := -1) (Nat.zero_le _); rw [hs1, hl] at h; exact h
  have HBY := Aside0.mk (fun w1 (hb : Below w.heap.size w w1) hR => qbyte_step (w.heap.size + 1) A n c 0 (-1) (by omega) hc (by omega) l hl hby w w1 hr hb (Nat.le_succ _) hR)
  rw [hs1] at HBY
  have HDN := Aside0.mk (fun w1 hR => qdone_calls (w.heap.size + 1) A n c at2 bad2 w1 hR)
  rw [hl] at hf
  rw [hf] at HDN
  have hk1' : (k == (1 : Int)) = false := by simpa using hk1
  have hk2' : (k == (2 : Int)) = false := by simpa using hk2
  have hkw : wrap64 k = k := w64 k (by omega) (by omega)
  have hkw' : IntKind.i64.wrap k = k := IntWalk.i64_in _ (by omega)
  have hu79 := Tryd.underlying85
  have hg1 : w.heap.size < w.heap.size + 1 := Nat.lt_succ_self _
  clear hr hby hl hs1 hrd hW0 hs0 hf
  go_enter Tryd.func41, Tryd.ntmps41
  go_wp2_with (first
    | (go_at_call 73; (with_reducible refine HRD.out.mono ?_); rintro e w1 ⟨rfl, hR, hb1, hz⟩; have HR1 := Aside0.mk hR; have HZ1 := Aside0.mk hz; have HB1 := Aside0.mk hb1; clear hR hb1 hz)
    | (go_at_call 74; (with_reducible refine (HBY.out _ HB1.out HR1.out).mono ?_); rintro e w2 ⟨rfl, hR, hb, hk⟩; have he2 := EvAt.new w2 k 0 0 (.slice none 0 0); have HE2 := Aside0.mk he2; have hlt2 := World.block_lt_of_cell? _ _ hR.1; have HR2 := Aside0.mk (hR.below (below_alloc (Below.refl _ _) (.cells #[.int .i64 k, .int .i64 0, .int .i64 0, .slice none 0 0] 85))); have hz := HZ1.out.kept hk (fun h => Nat.ne_of_lt hg1 h); have HZ2 := Aside0.mk (hz.below (below_alloc (Below.refl _ _) (.cells #[.int .i64 k, .int .i64 0, .int .i64 0, .slice none 0 0] 85))); have HB2 := Aside0.mk (below_alloc hb (.cells #[.int .i64 k, .int .i64 0, .int .i64 0, .slice none 0 0] 85)); obtain ⟨y0, y1, y2, y3, y4, y5, y6, y7, y8⟩ := he2; clear hR hb hk hz)
    | fail)
  clear y0 y1 y2 y3 y4 y5 y6 y7 y8
  generalize (w2.alloc (.cells #[.int .i64 k, .int .i64 0, .int .i64 0, .slice none 0 0] 85)) = W at *
  obtain ⟨p0, p1, p2, p3, p4, p5, p6, p7, p8⟩ := HZ2.out
  obtain ⟨q0, q1, q2, q3, q4, q5, q6, q7, q8⟩ := HE2.out
  have HX := HB2
  first | (go_region_with (first
      | (go_at_call 77; (with_reducible refine (HDN.out _ (HR2.out.below ((Below.refl W.heap.size W).drew))).mono ?_); rintro e w5 ⟨rfl, hd9⟩; have HE5 := Aside0.mk ((HE2.out.below ((Below.refl W.heap.size W).drew)).below hd9.below); have HZ5 := Aside0.mk ((HZ2.out.below ((Below.refl W.heap.size W).drew)).below hd9.below); have HB5 := Aside0.mk (below_then HX.out HX.out.size (below_then ((Below.refl W.heap.size W).drew) ((Below.refl W.heap.size W).drew).size hd9.below)); obtain ⟨a0, a1, a2, a3, a4, a5, a6, a7, a8⟩ := HZ5.out; obtain ⟨b0, b1, b2, b3, b4, b5, b6, b7, b8⟩ := HE5.out; clear hd9)
      | (go_at_call 77; (with_reducible refine (HDN.out _ (((((HR2.out.below ((Below.refl W.heap.size W).drew)).other (p := ⟨w.heap.size, 0, none⟩) (Nat.ne_of_lt hg1) _).other (p := ⟨w.heap.size, 1, none⟩) (Nat.ne_of_lt hg1) _).other (p := ⟨w.heap.size, 2, none⟩) (Nat.ne_of_lt hg1) _).other (p := ⟨w.heap.size, 3, none⟩) (Nat.ne_of_lt hg1) _)).mono ?_); rintro e w5 ⟨rfl, hd9⟩; have HF := Aside0.mk (((HZ2.out.below ((Below.refl W.heap.size W).drew)).fill k 0 0 (.slice none 0 0)).below hd9.below); have HBF := Aside0.mk (below_then (bel_fill (below_then HX.out HX.out.size ((Below.refl W.heap.size W).drew)) (Nat.le_refl _) k 0 0 (.slice none 0 0)) (bel_fill (below_then HX.out HX.out.size ((Below.refl W.heap.size W).drew)) (Nat.le_refl _) k 0 0 (.slice none 0 0)).size hd9.below); clear hd9)
      | fail)) | fail
  all_goals
    refine (‹∀ (a : Act) (w_1 : World), Code.wp _ _ _ a w_1 → _› _ _ ?_)
    go_wp2
    first
      | (have HF := Aside0.mk (HZ5.out.fill k 0 0 (.slice none 0 0)); have HBF := Aside0.mk (bel_fill HB5.out (Nat.le_refl _) k 0 0 (.slice none 0 0)); change bodyPost _ _ _ _ _ (fill4 w5 w.heap.size k 0 0 (.slice none 0 0)); generalize fill4 w5 w.heap.size k 0 0 (.slice none 0 0) = WF at *; obtain ⟨-, e0, e1, e2, e3, -⟩ := HF.out; refine bodyPost_ret (by simp [results, Tryd.results41, go_sem, e0, e1, e2, e3]; try rfl) rfl ?_; exact ⟨none, 0, rfl, Nat.zero_le _, Kd.C_nil _ _, HBF.out⟩)
      | (obtain ⟨-, e0, e1, e2, e3, -⟩ := HF.out; refine bodyPost_ret (by simp [results, Tryd.results41, go_sem, e0, e1, e2, e3]; try rfl) rfl ?_; exact ⟨none, 0, rfl, Nat.zero_le _, Kd.C_nil _ _, HBF.out⟩)
set_option maxHeartbeats 6400000 in
set_option maxRecDepth 100000 in
theorem qtake_2 (A : Option Addr) (n c : Nat) (hn : n ≤ 1000000) (hc : n ≤ c) (l : List Int) (hl : l.length = n) (hby : By l) (w : World) (hr : Kd.C (Kd.int .u8) w A l.length l) (x3 : Int) (bs : List Int) (at2 at3 at4 : Nat) (bad2 bad3 bad4 : Int) (p : Int)
    (hs1 : step 1 255 l 0 (-1) = (2, at2, bad2)) (hs2 : step 8 9223372036854775807 l at2 bad2 = (x3, at3, bad3)) (hs3 : bstep 0 1048576 l at3 bad3 = (bs, at4, bad4)) (hf : qfin l.length at4 bad4 = p) :
    Calls Tryd.prog 41 #[.slice A n c] w (ReadTold w 2 0 x3 bs p) := by
  obtain ⟨W0, hW0⟩ : ∃ W, W = w.alloc (.cells #[.int .i64 0, .int .i64 0, .int .i64 0, .slice none 0 0] 85) := ⟨_, rfl⟩
  have HB0 : Aside0 (Below w.heap.size w W0) := ⟨by rw [hW0]; exact below_alloc (Below.refl _ _) _⟩
  have HZ0 : Aside0 (EvAt W0 w.heap.size 0 0 0 (.slice none 0 0)) := ⟨by rw [hW0]; exact EvAt.new _ _ _ _ _⟩
  have hs0 : W0.heap.size = w.heap.size + 1 := by rw [hW0]; simp
  have hrd := (qread_calls A n c w W0 HB0.out).mono (fun e w' h => (⟨h.1, h.2.1, h.2.2.1, HZ0.out.below h.2.2.2⟩ : e = _ ∧ IsQ w' _ A n c 0 (-1) ∧ Below w.heap.size w w' ∧ EvAt w' w.heap.size 0 0 0 (.slice none 0 0)))
  rw [hs0] at hrd
  rw [hW0] at hrd
  have HRD := Aside0.mk hrd
  have hle2 : at2 ≤ n := by have h := step_at (N := 1) (lim := 255) (l := l) (at_ := 0) (bad := -1) (Nat.zero_le _); rw [hs1, hl] at h; exact h
  have HBY := Aside0.mk (fun w1 (hb : Below w.heap.size w w1) hR => qbyte_step (w.heap.size + 1) A n c 0 (-1) (by omega) hc (by omega) l hl hby w w1 hr hb (Nat.le_succ _) hR)
  rw [hs1] at HBY
  have hle3 : at3 ≤ n := by have h := step_at (N := 8) (lim := 9223372036854775807) (l := l) (at_ := at2) (bad := bad2) (by omega); rw [hs2, hl] at h; exact h
  have HIN := Aside0.mk (fun w1 (hb : Below w.heap.size w w1) hR => qint_step (w.heap.size + 1) A n c at2 bad2 (by omega) hc hle2 l hl hby w w1 hr hb (Nat.le_succ _) hR)
  rw [hs2] at HIN
  have HBS := Aside0.mk (fun w1 (hb : Below w.heap.size w w1) hR => qbytes_step (w.heap.size + 1) A n c at3 bad3 0 1048576 (by omega) (by omega) (by omega) hc hle3 l hl hby w w1 hr hb (Nat.le_succ _) hR)
  rw [hs3] at HBS
  have HDN := Aside0.mk (fun w1 hR => qdone_calls (w.heap.size + 1) A n c at4 bad4 w1 hR)
  rw [hl] at hf
  rw [hf] at HDN
  have hu79 := Tryd.underlying85
  have hg1 : w.heap.size < w.heap.size + 1 := Nat.lt_succ_self _
  clear hr hby hl hs1 hrd hW0 hs0 hf hs2 hs3
  go_enter Tryd.func41, Tryd.ntmps41
  go_wp2_with (first
    | (go_at_call 73; (with_reducible refine HRD.out.mono ?_); rintro e w1 ⟨rfl, hR, hb1, hz⟩; have HR1 := Aside0.mk hR; have HZ1 := Aside0.mk hz; have HB1 := Aside0.mk hb1; clear hR hb1 hz)
    | (go_at_call 74; (with_reducible refine (HBY.out _ HB1.out HR1.out).mono ?_); rintro e w2 ⟨rfl, hR, hb, hk⟩; have he2 := EvAt.new w2 2 0 0 (.slice none 0 0); have HE2 := Aside0.mk he2; have hlt2 := World.block_lt_of_cell? _ _ hR.1; have HR2 := Aside0.mk (hR.below (below_alloc (Below.refl _ _) (.cells #[.int .i64 2, .int .i64 0, .int .i64 0, .slice none 0 0] 85))); have hz := HZ1.out.kept hk (fun h => Nat.ne_of_lt hg1 h); have HZ2 := Aside0.mk (hz.below (below_alloc (Below.refl _ _) (.cells #[.int .i64 2, .int .i64 0, .int .i64 0, .slice none 0 0] 85))); have HB2 := Aside0.mk (below_alloc hb (.cells #[.int .i64 2, .int .i64 0, .int .i64 0, .slice none 0 0] 85)); obtain ⟨y0, y1, y2, y3, y4, y5, y6, y7, y8⟩ := he2; clear hR hb hk hz)
    | (go_at_call 75; (with_reducible refine (HIN.out _ HB2.out HR2.out).mono ?_); rintro e w3 ⟨rfl, hR, hb, hk⟩; have he3 := HE2.out.kept hk (fun h => Nat.ne_of_gt hlt2 h); have HE3 := Aside0.mk (he3.set2 x3); have HZ3 := Aside0.mk ((HZ2.out.kept hk (fun h => Nat.ne_of_lt hg1 h)).far (p := ⟨w2.heap.size, 2, none⟩) (Nat.ne_of_gt (Nat.lt_trans hg1 hlt2)) (.int .i64 x3)); have HR3 := Aside0.mk (hR.other (p := ⟨w2.heap.size, 2, none⟩) (Nat.ne_of_gt hlt2) (.int .i64 x3)); have HB3 := Aside0.mk (hb.setCell (p := ⟨w2.heap.size, 2, none⟩) (Nat.le_of_lt (Nat.lt_trans hg1 hlt2)) (.int .i64 x3)); obtain ⟨z0, z1, z2, z3, z4, z5, z6, z7, z8⟩ := he3; clear hR hb hk)
    | (go_at_call 76; (with_reducible refine (HBS.out _ HB3.out HR3.out).mono ?_); rintro e w4 ⟨B, d, rfl, hd, hC, hR, hb, hk⟩; have HD := Aside0.mk hd; have he4 := HE3.out.kept hk (fun h => Nat.ne_of_gt hlt2 h); have HC4 := Aside0.mk (C_set_other hC he4.2.2.2.2.1 (fun x e => by cases e) (.slice B bs.length d)); have HE4 := Aside0.mk (he4.set3 (.slice B bs.length d)); have HZ4 := Aside0.mk ((HZ3.out.kept hk (fun h => Nat.ne_of_lt hg1 h)).far (p := ⟨w2.heap.size, 3, none⟩) (Nat.ne_of_gt (Nat.lt_trans hg1 hlt2)) (.slice B bs.length d)); have HR4 := Aside0.mk (hR.other (p := ⟨w2.heap.size, 3, none⟩) (Nat.ne_of_gt hlt2) (.slice B bs.length d)); have HB4 := Aside0.mk (hb.setCell (p := ⟨w2.heap.size, 3, none⟩) (Nat.le_of_lt (Nat.lt_trans hg1 hlt2)) (.slice B bs.length d)); obtain ⟨u0, u1, u2, u3, u4, u5, u6, u7, u8⟩ := he4; clear hd hC hR hb hk)
    | fail)
  clear y0 y1 y2 y3 y4 y5 y6 y7 y8 z0 z1 z2 z3 z4 z5 z6 z7 z8 u0 u1 u2 u3 u4 u5 u6 u7 u8
  generalize (w4.setCell ⟨w2.heap.size, 3, none⟩ (.slice B bs.length d)) = W at *
  obtain ⟨p0, p1, p2, p3, p4, p5, p6, p7, p8⟩ := HZ4.out
  obtain ⟨q0, q1, q2, q3, q4, q5, q6, q7, q8⟩ := HE4.out
  have HX := HB4
  first | (go_region_with (first
      | (go_at_call 77; (with_reducible refine (HDN.out _ (HR4.out.below ((Below.refl W.heap.size W).drew))).mono ?_); rintro e w5 ⟨rfl, hd9⟩; have HE5 := Aside0.mk ((HE4.out.below ((Below.refl W.heap.size W).drew)).below hd9.below); have HZ5 := Aside0.mk ((HZ4.out.below ((Below.refl W.heap.size W).drew)).below hd9.below); have HB5 := Aside0.mk (below_then HX.out HX.out.size (below_then ((Below.refl W.heap.size W).drew) ((Below.refl W.heap.size W).drew).size hd9.below)); have HC5 := Aside0.mk (Kd.C_below (Kd.C_below HC4.out ((Below.refl W.heap.size W).drew)) hd9.below); obtain ⟨a0, a1, a2, a3, a4, a5, a6, a7, a8⟩ := HZ5.out; obtain ⟨b0, b1, b2, b3, b4, b5, b6, b7, b8⟩ := HE5.out; clear hd9)
      | (go_at_call 77; (with_reducible refine (HDN.out _ (((((HR4.out.below ((Below.refl W.heap.size W).drew)).other (p := ⟨w.heap.size, 0, none⟩) (Nat.ne_of_lt hg1) _).other (p := ⟨w.heap.size, 1, none⟩) (Nat.ne_of_lt hg1) _).other (p := ⟨w.heap.size, 2, none⟩) (Nat.ne_of_lt hg1) _).other (p := ⟨w.heap.size, 3, none⟩) (Nat.ne_of_lt hg1) _)).mono ?_); rintro e w5 ⟨rfl, hd9⟩; have HF := Aside0.mk (((HZ4.out.below ((Below.refl W.heap.size W).drew)).fill 2 0 x3 (.slice B bs.length d)).below hd9.below); have HBF := Aside0.mk (below_then (bel_fill (below_then HX.out HX.out.size ((Below.refl W.heap.size W).drew)) (Nat.le_refl _) 2 0 x3 (.slice B bs.length d)) (bel_fill (below_then HX.out HX.out.size ((Below.refl W.heap.size W).drew)) (Nat.le_refl _) 2 0 x3 (.slice B bs.length d)).size hd9.below); have HC5 := Aside0.mk (Kd.C_below (C_fill (Kd.C_below HC4.out ((Below.refl W.heap.size W).drew)) (HZ4.out.below ((Below.refl W.heap.size W).drew)) (fun x e => by cases e) 2 0 x3 (.slice B bs.length d)) hd9.below); clear hd9)
      | fail)) | fail
  all_goals
    refine (‹∀ (a : Act) (w_1 : World), Code.wp _ _ _ a w_1 → _› _ _ ?_)
    go_wp2
    first
      | (have HF := Aside0.mk (HZ5.out.fill 2 0 x3 (.slice B bs.length d)); have HBF := Aside0.mk (bel_fill HB5.out (Nat.le_refl _) 2 0 x3 (.slice B bs.length d)); replace HC5 := Aside0.mk (C_fill HC5.out HZ5.out (fun x e => by cases e) 2 0 x3 (.slice B bs.length d)); change bodyPost _ _ _ _ _ (fill4 w5 w.heap.size 2 0 x3 (.slice B bs.length d)); generalize fill4 w5 w.heap.size 2 0 x3 (.slice B bs.length d) = WF at *; obtain ⟨-, e0, e1, e2, e3, -⟩ := HF.out; refine bodyPost_ret (by simp [results, Tryd.results41, go_sem, e0, e1, e2, e3]; try rfl) rfl ?_; exact ⟨B, d, rfl, HD.out, HC5.out, HBF.out⟩)
      | (obtain ⟨-, e0, e1, e2, e3, -⟩ := HF.out; refine bodyPost_ret (by simp [results, Tryd.results41, go_sem, e0, e1, e2, e3]; try rfl) rfl ?_; exact ⟨B, d, rfl, HD.out, HC5.out, HBF.out⟩)
end Go.Proofs.YteapdhfeddgjbaaDoor.Wire
end
section
/- recall: Take and the document's Read, whole; what is the same; the chapter's example. -/
namespace Go.Proofs.YteapdhfeddgjbaaDoor.Wire
set_option linter.unusedVariables false
set_option linter.unusedSimpArgs false
open Go.RowKit Go.Proofs.YteapdhfeddgjbaaDoor.Num Go.Proofs.YteapdhfeddgjbaaDoor.PDj Go.Proofs.YteapdhfeddgjbaaDoorW Go.Proofs.YteapdhfeddgjbaaDoorW.PrintWords Go.Proofs.YteapdhfeddgjbaaDoorW.PrintLast Go.Proofs.YteapdhfeddgjbaaDoorW.PrintMore

/-- Where the bytes of an event are wrong, or -1. -/
def rdq (l : List Int) : Int := qfin l.length (rdev l).2.1 (rdev l).2.2
theorem fin_q (n a : Nat) (b : Int) : (0 ≤ qfin n a b → fin n a b = (qfin n a b, 20)) ∧ (qfin n a b < 0 → fin n a b = (0, 0)) := by
  unfold fin qfin
  constructor
  · intro h
    by_cases h1 : 0 ≤ b
    · rw [if_pos h1, if_pos h1]
    · rw [if_neg h1] at h
      rw [if_neg h1, if_neg h1]
      by_cases h2 : a < n
      · rw [if_pos h2, if_pos h2]
      · rw [if_neg h2] at h; omega
  · intro h
    by_cases h1 : 0 ≤ b
    · rw [if_pos h1] at h; omega
    · rw [if_neg h1] at h
      rw [if_neg h1]
      by_cases h2 : a < n
      · rw [if_pos h2] at h; omega
      · rw [if_neg h2]
theorem step_byte (l : List Int) (hby : By l) (at_ : Nat) (bad : Int) : 0 ≤ (step 1 255 l at_ bad).1 ∧ (step 1 255 l at_ bad).1 ≤ 255 := by
  unfold step
  split
  · omega
  · split
    · omega
    · split
      · omega
      · show 0 ≤ ((bv _ : Nat) : Int) ∧ ((bv _ : Nat) : Int) ≤ 255
        omega
theorem qtake_calls (A : Option Addr) (n c : Nat) (hn : n ≤ 1000000) (hc : n ≤ c) (l : List Int) (hl : l.length = n) (hby : By l) (w : World) (hr : Kd.C (Kd.int .u8) w A l.length l) :
    Calls Tryd.prog 41 #[.slice A n c] w (ReadTold w (rdev l).1.1 (rdev l).1.2.1 (rdev l).1.2.2.1 (rdev l).1.2.2.2 (rdq l)) := by
  have hkb := step_byte l hby 0 (-1)
  unfold rdq rdev
  obtain ⟨⟨k, at2, bad2⟩, hs1⟩ : ∃ r, step 1 255 l 0 (-1) = r := ⟨_, rfl⟩
  rw [hs1] at hkb ⊢
  by_cases h1 : k = 1
  · subst h1
    rw [if_pos rfl]
    obtain ⟨⟨x3, at3, bad3⟩, hs2⟩ : ∃ r, step 8 9223372036854775807 l at2 bad2 = r := ⟨_, rfl⟩
    rw [hs2]
    exact qtake_1 A n c hn hc l hl hby w hr x3 at2 at3 bad2 bad3 _ hs1 hs2 rfl
  · rw [if_neg h1]
    by_cases h2 : k = 2
    · subst h2
      rw [if_pos rfl]
      obtain ⟨⟨x3, at3, bad3⟩, hs2⟩ : ∃ r, step 8 9223372036854775807 l at2 bad2 = r := ⟨_, rfl⟩
      rw [hs2]
      obtain ⟨⟨bs, at4, bad4⟩, hs3⟩ : ∃ r, bstep 0 1048576 l at3 bad3 = r := ⟨_, rfl⟩
      show Calls _ _ _ _ (ReadTold w 2 0 x3 (bstep 0 1048576 l at3 bad3).1 (qfin l.length (bstep 0 1048576 l at3 bad3).2.1 (bstep 0 1048576 l at3 bad3).2.2))
      rw [hs3]
      exact qtake_2 A n c hn hc l hl hby w hr x3 bs at2 at3 at4 bad2 bad3 bad4 _ hs1 hs2 hs3 rfl
    · rw [if_neg h2]
      exact qtake_0 A n c hn hc l hl hby w hr k at2 bad2 _ hs1 h1 h2 hkb rfl
theorem rtake_bad (A : Option Addr) (n c : Nat) (hn : n ≤ 1000000) (hc : n ≤ c) (l : List Int) (hl : l.length = n) (hby : By l) (w : World) (hr : Kd.C (Kd.int .u8) w A l.length l) (hq : 0 ≤ rdq l) :
    Calls Tryd.prog 45 #[.slice A n c] w (TakeTold w 0 0 0 [] (rdq l) 20) := by
  have hkb := step_byte l hby 0 (-1)
  revert hq
  unfold rdq rdev
  obtain ⟨⟨k, at2, bad2⟩, hs1⟩ : ∃ r, step 1 255 l 0 (-1) = r := ⟨_, rfl⟩
  rw [hs1] at hkb ⊢
  by_cases h1 : k = 1
  · subst h1
    rw [if_pos rfl]
    obtain ⟨⟨x3, at3, bad3⟩, hs2⟩ : ∃ r, step 8 9223372036854775807 l at2 bad2 = r := ⟨_, rfl⟩
    rw [hs2]
    intro hq
    exact take_1_bad A n c hn hc l hl hby w hr x3 at2 at3 bad2 bad3 _ hs1 hs2 ((fin_q _ _ _).1 hq)
  · rw [if_neg h1]
    by_cases h2 : k = 2
    · subst h2
      rw [if_pos rfl]
      obtain ⟨⟨x3, at3, bad3⟩, hs2⟩ : ∃ r, step 8 9223372036854775807 l at2 bad2 = r := ⟨_, rfl⟩
      rw [hs2]
      obtain ⟨⟨bs, at4, bad4⟩, hs3⟩ : ∃ r, bstep 0 1048576 l at3 bad3 = r := ⟨_, rfl⟩
      dsimp only
      rw [hs3]
      intro hq
      exact take_2_bad A n c hn hc l hl hby w hr x3 bs at2 at3 at4 bad2 bad3 bad4 _ hs1 hs2 hs3 ((fin_q _ _ _).1 hq)
    · rw [if_neg h2]
      intro hq
      exact take_0_bad A n c hn hc l hl hby w hr k at2 bad2 _ hs1 h1 h2 hkb ((fin_q _ _ _).1 hq)
theorem rtake_no (A : Option Addr) (n c : Nat) (hn : n ≤ 1000000) (hc : n ≤ c) (l : List Int) (hl : l.length = n) (hby : By l) (w : World) (hr : Kd.C (Kd.int .u8) w A l.length l) (hq : rdq l < 0) (hm : mayb (rdev l).1.1 (rdev l).1.2.1 (rdev l).1.2.2.1 (rdev l).1.2.2.2 = false) :
    Calls Tryd.prog 45 #[.slice A n c] w (TakeTold w 0 0 0 [] 0 2) := by
  have hkb := step_byte l hby 0 (-1)
  revert hq hm
  unfold rdq rdev
  obtain ⟨⟨k, at2, bad2⟩, hs1⟩ : ∃ r, step 1 255 l 0 (-1) = r := ⟨_, rfl⟩
  rw [hs1] at hkb ⊢
  by_cases h1 : k = 1
  · subst h1
    rw [if_pos rfl]
    obtain ⟨⟨x3, at3, bad3⟩, hs2⟩ : ∃ r, step 8 9223372036854775807 l at2 bad2 = r := ⟨_, rfl⟩
    rw [hs2]
    intro hq hm
    exact take_1_no A n c hn hc l hl hby w hr x3 at2 at3 bad2 bad3 hs1 hs2 ((fin_q _ _ _).2 hq) hm
  · rw [if_neg h1]
    by_cases h2 : k = 2
    · subst h2
      rw [if_pos rfl]
      obtain ⟨⟨x3, at3, bad3⟩, hs2⟩ : ∃ r, step 8 9223372036854775807 l at2 bad2 = r := ⟨_, rfl⟩
      rw [hs2]
      obtain ⟨⟨bs, at4, bad4⟩, hs3⟩ : ∃ r, bstep 0 1048576 l at3 bad3 = r := ⟨_, rfl⟩
      dsimp only
      rw [hs3]
      intro hq hm
      exact take_2_no A n c hn hc l hl hby w hr x3 bs at2 at3 at4 bad2 bad3 bad4 hs1 hs2 hs3 ((fin_q _ _ _).2 hq) hm
    · rw [if_neg h2]
      intro hq hm
      exact take_0_no A n c hn hc l hl hby w hr k at2 bad2 hs1 h1 h2 hkb ((fin_q _ _ _).2 hq) hm
theorem rtake_ok (A : Option Addr) (n c : Nat) (hn : n ≤ 1000000) (hc : n ≤ c) (l : List Int) (hl : l.length = n) (hby : By l) (w : World) (hr : Kd.C (Kd.int .u8) w A l.length l) (hq : rdq l < 0) (hm : mayb (rdev l).1.1 (rdev l).1.2.1 (rdev l).1.2.2.1 (rdev l).1.2.2.2 = true) :
    Calls Tryd.prog 45 #[.slice A n c] w (TakeTold w (rdev l).1.1 (rdev l).1.2.1 (rdev l).1.2.2.1 (rdev l).1.2.2.2 0 0) := by
  have hkb := step_byte l hby 0 (-1)
  revert hq hm
  unfold rdq rdev
  obtain ⟨⟨k, at2, bad2⟩, hs1⟩ : ∃ r, step 1 255 l 0 (-1) = r := ⟨_, rfl⟩
  rw [hs1] at hkb ⊢
  by_cases h1 : k = 1
  · subst h1
    rw [if_pos rfl]
    obtain ⟨⟨x3, at3, bad3⟩, hs2⟩ : ∃ r, step 8 9223372036854775807 l at2 bad2 = r := ⟨_, rfl⟩
    rw [hs2]
    intro hq hm
    exact take_1_ok A n c hn hc l hl hby w hr x3 at2 at3 bad2 bad3 hs1 hs2 ((fin_q _ _ _).2 hq) hm
  · rw [if_neg h1]
    by_cases h2 : k = 2
    · subst h2
      rw [if_pos rfl]
      obtain ⟨⟨x3, at3, bad3⟩, hs2⟩ : ∃ r, step 8 9223372036854775807 l at2 bad2 = r := ⟨_, rfl⟩
      rw [hs2]
      obtain ⟨⟨bs, at4, bad4⟩, hs3⟩ : ∃ r, bstep 0 1048576 l at3 bad3 = r := ⟨_, rfl⟩
      dsimp only
      rw [hs3]
      intro hq hm
      exact take_2_ok A n c hn hc l hl hby w hr x3 bs at2 at3 at4 bad2 bad3 bad4 hs1 hs2 hs3 ((fin_q _ _ _).2 hq) hm
    · rw [if_neg h2]
      intro hq hm
      exact take_0_ok A n c hn hc l hl hby w hr k at2 bad2 hs1 h1 h2 hkb ((fin_q _ _ _).2 hq) hm
theorem esame_ev (k n f : Int) (l : List Int) (k' n' f' : Int) (l' : List Int) (hl : l.length ≤ 1000000) : Ev (fun j => cleromancyref32_Same.f j k n f l k' n' f' l') (decide (k = k' ∧ n = n' ∧ f = f' ∧ l = l')) := by
  obtain ⟨K, hK⟩ := same_ev l l' hl
  refine ⟨K, fun j hj => ?_⟩
  show cleromancyref32_Same.f j k n f l k' n' f' l' = _
  have h := hK j hj
  have h' : cleromancyref01_Same.f j l l' = some (decide (l = l')) := h
  unfold cleromancyref32_Same.f
  by_cases h1 : k = k'
  · rw [if_pos h1]
    by_cases h2 : n = n'
    · rw [if_pos h2]
      by_cases h3 : f = f'
      · rw [if_pos h3, h']
        simp only [Option.bind_some]
        congr 1
        exact decide_eq_decide.2 ⟨fun h => ⟨h1, h2, h3, h⟩, fun h => h.2.2.2⟩
      · rw [if_neg h3, decide_eq_false (fun h => h3 h.2.2.1)]
    · rw [if_neg h2, decide_eq_false (fun h => h2 h.2.1)]
  · rw [if_neg h1, decide_eq_false (fun h => h1 h.1)]
theorem esame_calls (k n f : Int) (A : Option Addr) (m c : Nat) (l : List Int) (hl : l.length = m) (k' n' f' : Int) (A' : Option Addr) (m' c' : Nat) (l' : List Int) (hl' : l'.length = m') (hb : m ≤ 1000000) (w : World)
    (hr : Kd.C (Kd.int .u8) w A l.length l) (hc : m ≤ c) (hr' : Kd.C (Kd.int .u8) w A' l'.length l') (hc' : m' ≤ c') :
    Calls Tryd.prog 43 #[.agg #[.int .i64 k, .int .i64 n, .int .i64 f, .slice A m c], .agg #[.int .i64 k', .int .i64 n', .int .i64 f', .slice A' m' c']] w fun e w' => e = .returned (.bool (decide (k = k' ∧ n = n' ∧ f = f' ∧ l = l'))) ∧ Below w.heap.size w w' := by
  subst hl hl'
  obtain ⟨K, hK⟩ := esame_ev k n f l k' n' f' l' hb
  exact cleromancyref32_Same.calls K k n f A c l k' n' f' A' c' l' _ w hr hc hr' hc' (hK K (Nat.le_refl _))
def ex9 : List Int := [1, 0, 0, 0, 0, 0, 0, 0, 1]
theorem ex9_put : putb 1 1 0 [] = ex9 := by decide
theorem ex9_may : mayb 1 1 0 [] = true := by decide
set_option maxHeartbeats 1600000 in
set_option maxRecDepth 100000 in
theorem recall_awake_calls (w : World) : Calls Tryd.prog 39 #[] w fun e w' => e = .returned (.bool true) ∧ Below w.heap.size w w' := by
  have hp : Calls Tryd.prog 44 #[.agg #[.int .i64 1, .int .i64 1, .int .i64 0, .slice none 0 0]] w (fun e w' => ∃ ad c, e = .returned (.tuple #[.slice (some ad) 9 c, .int .i64 0]) ∧ 9 ≤ c ∧ w'.cell? ad = some (.int .u8 1) ∧ w'.cell? ⟨ad.block, ad.off + 8, none⟩ = some (.int .u8 1) ∧ Below w.heap.size w w') := by
    refine (rput_calls 1 1 0 none 0 0 [] rfl (Nat.le_refl _) (by omega) w (Kd.C_nil _ _) (by omega) (by omega)).mono ?_
    rw [if_pos ex9_may, if_pos ex9_may, ex9_put]
    rintro e w' ⟨B, d, rfl, h1, h2, h3⟩
    obtain ⟨ad, e, c0⟩ := Kd.at_int h2 0 (by omega) (by decide)
    obtain ⟨ad8, e8, c8⟩ := Kd.at_int h2 8 (by omega) (by decide)
    subst e; cases e8
    rw [show rd ex9 0 = 1 from by decide] at c0
    exact ⟨ad, d, rfl, h1, by simpa [Addr.add] using c0, c8, h3⟩
  have HP := Aside0.mk hp
  clear hp
  have hu79 := Tryd.underlying85
  go_enter Tryd.func39, Tryd.ntmps39
  go_wp2_with (first
    | (go_at_call 44; (with_reducible refine HP.out.mono ?_); rintro e w1 ⟨ad, c, rfl, h9, c0, c8, hb⟩; have HB1 := Aside0.mk hb; clear hb)
    | fail)
  go_ret
  exact ⟨rfl, HB1.out⟩
end Go.Proofs.YteapdhfeddgjbaaDoor.Wire
end
