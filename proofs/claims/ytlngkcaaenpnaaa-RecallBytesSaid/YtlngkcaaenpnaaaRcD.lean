/- recall: the event of bytes, by the document. -/
import Derived.Test.YtlngkcaaenpnaaaRcC
namespace Go.Proofs.Ytlngkcaaenpnaaa.Wire
set_option linter.unusedVariables false
set_option linter.unusedSimpArgs false
open Go.RowKit Go.Proofs.Ytlngkcaaenpnaaa.Num Go.Proofs.Ytlngkcaaenpnaaa.PWi Go.Proofs.YtlngkcaaenpnaaaW Go.Proofs.YtlngkcaaenpnaaaW.PrintWords Go.Proofs.YtlngkcaaenpnaaaW.PrintLast Go.Proofs.YtlngkcaaenpnaaaW.PrintMore

theorem IsQ.other {W : World} {g : Nat} {A : Option Addr} {n c at_ : Nat} {bad : Int} (h : IsQ W g A n c at_ bad) {p : Addr} (hp : p.block ≠ g) (u : Value) : IsQ (W.setCell p u) g A n c at_ bad := by
  obtain ⟨h0, h1, h2, h4, h5⟩ := h
  have hn : ∀ i, p ≠ ⟨g, i, none⟩ := fun i e => hp (by rw [e])
  refine ⟨?_, ?_, ?_, by rw [World.frozen?_setCell]; exact h4, by rw [World.frozen?_setCell]; exact h5⟩
  · rw [World.cell?_setCell_other (h := hn 0)]; exact h0
  · rw [World.cell?_setCell_other (h := hn 1)]; exact h1
  · rw [World.cell?_setCell_other (h := hn 2)]; exact h2
/-- Behind the document's Read. -/
def ReadTold (w : World) (k now fr : Int) (l : List Int) (at_ : Int) (e : Ending) (w' : World) : Prop :=
  ∃ B d, e = .returned (.tuple #[.agg #[.int .i64 k, .int .i64 now, .int .i64 fr, .slice B l.length d], .int .i64 at_]) ∧ l.length ≤ d ∧ Kd.C (Kd.int .u8) w' B l.length l ∧ Below w.heap.size w w'
set_option maxHeartbeats 6400000 in
set_option maxRecDepth 100000 in
theorem qtake_1 (A : Option Addr) (n c : Nat) (hn : n ≤ 1000000) (hc : n ≤ c) (l : List Int) (hl : l.length = n) (hby : By l) (w : World) (hr : Kd.C (Kd.int .u8) w A l.length l) (x3 : Int) (at2 at3 : Nat) (bad2 bad3 : Int) (p : Int)
    (hs1 : step 1 255 l 0 (-1) = (1, at2, bad2)) (hs2 : step 8 9223372036854775807 l at2 bad2 = (x3, at3, bad3)) (hf : qfin l.length at3 bad3 = p) :
    Calls Try.prog 50 #[.slice A n c] w (ReadTold w 1 x3 0 [] p) := by
  obtain ⟨W0, hW0⟩ : ∃ W, W = w.alloc (.cells #[.int .i64 0, .int .i64 0, .int .i64 0, .slice none 0 0] 79) := ⟨_, rfl⟩
  have HB0 : Aside0 (Below w.heap.size w W0) := ⟨by rw [hW0]; exact below_alloc (Below.refl _ _) _⟩
  have HZ0 : Aside0 (EvAt W0 w.heap.size 0 0 0 (.slice none 0 0)) := ⟨by rw [hW0]; exact EvAt.new _ _ _ _ _⟩
  have hs0 : W0.heap.size = w.heap.size + 1 := by rw [hW0]; simp
  have hrd := (qread_calls A n c w W0 HB0.out).mono (fun e w' h => (⟨h.1, h.2.1, h.2.2.1, HZ0.out.below h.2.2.2⟩ : e = _ ∧ IsQ w' _ A n c 0 (-1) ∧ Below w.heap.size w w' ∧ EvAt w' w.heap.size 0 0 0 (.slice none 0 0)))
  rw [hs0] at hrd
  rw [hW0] at hrd
  have HRD := Aside0.mk hrd
  have hle2 : at2 ≤ n := by have h := step_at (N := 1) (lim := 255) (l := l) (at_ := 0) (bad := -1) (Nat.zero_le _); rw [hs1, hl] at h; exact h
  have HBY := Aside0.mk (fun w1 (hb : Below w.heap.size w w1) hR => qbyte_step (w.heap.size + 1) A n c 0 (-1) (by omega) hc (by omega) l hl hby w w1 hr hb (Nat.le_succ _) hR)
  rw [hs1] at HBY
  have hle3 : at3 ≤ n := by have h := step_at (N := 8) (lim := 9223372036854775807) (l := l) (at_ := at2) (bad := bad2) (by omega); rw [hs2, hl] at h; exact h
  have HIN := Aside0.mk (fun w1 (hb : Below w.heap.size w w1) hR => qint_step (w.heap.size + 1) A n c at2 bad2 (by omega) hc hle2 l hl hby w w1 hr hb (Nat.le_succ _) hR)
  rw [hs2] at HIN
  have HDN := Aside0.mk (fun w1 hR => qdone_calls (w.heap.size + 1) A n c at3 bad3 w1 hR)
  rw [hl] at hf
  rw [hf] at HDN
  have hu79 := Try.underlying79
  have hg1 : w.heap.size < w.heap.size + 1 := Nat.lt_succ_self _
  clear hr hby hl hs1 hrd hW0 hs0 hf hs2
  go_enter Try.func50, Try.ntmps50
  go_wp2_with (first
    | (go_at_call 72; (with_reducible refine HRD.out.mono ?_); rintro e w1 ⟨rfl, hR, hb1, hz⟩; have HR1 := Aside0.mk hR; have HZ1 := Aside0.mk hz; have HB1 := Aside0.mk hb1; clear hR hb1 hz)
    | (go_at_call 73; (with_reducible refine (HBY.out _ HB1.out HR1.out).mono ?_); rintro e w2 ⟨rfl, hR, hb, hk⟩; have he2 := EvAt.new w2 1 0 0 (.slice none 0 0); have HE2 := Aside0.mk he2; have hlt2 := World.block_lt_of_cell? _ _ hR.1; have HR2 := Aside0.mk (hR.below (below_alloc (Below.refl _ _) (.cells #[.int .i64 1, .int .i64 0, .int .i64 0, .slice none 0 0] 79))); have hz := HZ1.out.kept hk (fun h => Nat.ne_of_lt hg1 h); have HZ2 := Aside0.mk (hz.below (below_alloc (Below.refl _ _) (.cells #[.int .i64 1, .int .i64 0, .int .i64 0, .slice none 0 0] 79))); have HB2 := Aside0.mk (below_alloc hb (.cells #[.int .i64 1, .int .i64 0, .int .i64 0, .slice none 0 0] 79)); obtain ⟨y0, y1, y2, y3, y4, y5, y6, y7, y8⟩ := he2; clear hR hb hk hz)
    | (go_at_call 74; (with_reducible refine (HIN.out _ HB2.out HR2.out).mono ?_); rintro e w3 ⟨rfl, hR, hb, hk⟩; have he3 := HE2.out.kept hk (fun h => Nat.ne_of_gt hlt2 h); have HE3 := Aside0.mk (he3.set1 x3); have HZ3 := Aside0.mk ((HZ2.out.kept hk (fun h => Nat.ne_of_lt hg1 h)).far (p := ⟨w2.heap.size, 1, none⟩) (Nat.ne_of_gt (Nat.lt_trans hg1 hlt2)) (.int .i64 x3)); have HR3 := Aside0.mk (hR.other (p := ⟨w2.heap.size, 1, none⟩) (Nat.ne_of_gt hlt2) (.int .i64 x3)); have HB3 := Aside0.mk (hb.setCell (p := ⟨w2.heap.size, 1, none⟩) (Nat.le_of_lt (Nat.lt_trans hg1 hlt2)) (.int .i64 x3)); obtain ⟨z0, z1, z2, z3, z4, z5, z6, z7, z8⟩ := he3; clear hR hb hk)
    | fail)
  clear y0 y1 y2 y3 y4 y5 y6 y7 y8 z0 z1 z2 z3 z4 z5 z6 z7 z8
  generalize (w3.setCell ⟨w2.heap.size, 1, none⟩ (.int .i64 x3)) = W at *
  obtain ⟨p0, p1, p2, p3, p4, p5, p6, p7, p8⟩ := HZ3.out
  obtain ⟨q0, q1, q2, q3, q4, q5, q6, q7, q8⟩ := HE3.out
  have HX := HB3
  first | (go_region_with (first
      | (go_at_call 76; (with_reducible refine (HDN.out _ (HR3.out.below ((Below.refl W.heap.size W).drew))).mono ?_); rintro e w5 ⟨rfl, hd9⟩; have HE5 := Aside0.mk ((HE3.out.below ((Below.refl W.heap.size W).drew)).below hd9.below); have HZ5 := Aside0.mk ((HZ3.out.below ((Below.refl W.heap.size W).drew)).below hd9.below); have HB5 := Aside0.mk (below_then HX.out HX.out.size (below_then ((Below.refl W.heap.size W).drew) ((Below.refl W.heap.size W).drew).size hd9.below)); obtain ⟨a0, a1, a2, a3, a4, a5, a6, a7, a8⟩ := HZ5.out; obtain ⟨b0, b1, b2, b3, b4, b5, b6, b7, b8⟩ := HE5.out; clear hd9)
      | (go_at_call 76; (with_reducible refine (HDN.out _ (((((HR3.out.below ((Below.refl W.heap.size W).drew)).other (p := ⟨w.heap.size, 0, none⟩) (Nat.ne_of_lt hg1) _).other (p := ⟨w.heap.size, 1, none⟩) (Nat.ne_of_lt hg1) _).other (p := ⟨w.heap.size, 2, none⟩) (Nat.ne_of_lt hg1) _).other (p := ⟨w.heap.size, 3, none⟩) (Nat.ne_of_lt hg1) _)).mono ?_); rintro e w5 ⟨rfl, hd9⟩; have HF := Aside0.mk (((HZ3.out.below ((Below.refl W.heap.size W).drew)).fill 1 x3 0 (.slice none 0 0)).below hd9.below); have HBF := Aside0.mk (below_then (bel_fill (below_then HX.out HX.out.size ((Below.refl W.heap.size W).drew)) (Nat.le_refl _) 1 x3 0 (.slice none 0 0)) (bel_fill (below_then HX.out HX.out.size ((Below.refl W.heap.size W).drew)) (Nat.le_refl _) 1 x3 0 (.slice none 0 0)).size hd9.below); clear hd9)
      | fail)) | fail
  all_goals
    refine (‹∀ (a : Act) (w_1 : World), Code.wp _ _ _ a w_1 → _› _ _ ?_)
    go_wp2
    first
      | (have HF := Aside0.mk (HZ5.out.fill 1 x3 0 (.slice none 0 0)); have HBF := Aside0.mk (bel_fill HB5.out (Nat.le_refl _) 1 x3 0 (.slice none 0 0)); change bodyPost _ _ _ _ _ (fill4 w5 w.heap.size 1 x3 0 (.slice none 0 0)); generalize fill4 w5 w.heap.size 1 x3 0 (.slice none 0 0) = WF at *; obtain ⟨-, e0, e1, e2, e3, -⟩ := HF.out; refine bodyPost_ret (by simp [results, Try.results50, go_sem, e0, e1, e2, e3]; try rfl) rfl ?_; exact ⟨none, 0, rfl, Nat.zero_le _, Kd.C_nil _ _, HBF.out⟩)
      | (obtain ⟨-, e0, e1, e2, e3, -⟩ := HF.out; refine bodyPost_ret (by simp [results, Try.results50, go_sem, e0, e1, e2, e3]; try rfl) rfl ?_; exact ⟨none, 0, rfl, Nat.zero_le _, Kd.C_nil _ _, HBF.out⟩)
set_option maxHeartbeats 6400000 in
set_option maxRecDepth 100000 in
theorem qtake_0 (A : Option Addr) (n c : Nat) (hn : n ≤ 1000000) (hc : n ≤ c) (l : List Int) (hl : l.length = n) (hby : By l) (w : World) (hr : Kd.C (Kd.int .u8) w A l.length l) (k : Int) (at2 : Nat) (bad2 : Int) (p : Int)
    (hs1 : step 1 255 l 0 (-1) = (k, at2, bad2)) (hk1 : k ≠ 1) (hk2 : k ≠ 2) (hkb : 0 ≤ k ∧ k ≤ 255) (hf : qfin l.length at2 bad2 = p) :
    Calls Try.prog 50 #[.slice A n c] w (ReadTold w k 0 0 [] p) := by
  obtain ⟨W0, hW0⟩ : ∃ W, W = w.alloc (.cells #[.int .i64 0, .int .i64 0, .int .i64 0, .slice none 0 0] 79) := ⟨_, rfl⟩
  have HB0 : Aside0 (Below w.heap.size w W0) := ⟨by rw [hW0]; exact below_alloc (Below.refl _ _) _⟩
  have HZ0 : Aside0 (EvAt W0 w.heap.size 0 0 0 (.slice none 0 0)) := ⟨by rw [hW0]; exact EvAt.new _ _ _ _ _⟩
  have hs0 : W0.heap.size = w.heap.size + 1 := by rw [hW0]; simp
  have hrd := (qread_calls A n c w W0 HB0.out).mono (fun e w' h => (⟨h.1, h.2.1, h.2.2.1, HZ0.out.below h.2.2.2⟩ : e = _ ∧ IsQ w' _ A n c 0 (-1) ∧ Below w.heap.size w w' ∧ EvAt w' w.heap.size 0 0 0 (.slice none 0 0)))
  rw [hs0] at hrd
  rw [hW0] at hrd
  have HRD := Aside0.mk hrd
  have hle2 : at2 ≤ n := by have h := step_at (N := 1) (lim := 255) (l := l) (at_ := 0) (bad := -1) (Nat.zero_le _); rw [hs1, hl] at h; exact h
  have HBY := Aside0.mk (fun w1 (hb : Below w.heap.size w w1) hR => qbyte_step (w.heap.size + 1) A n c 0 (-1) (by omega) hc (by omega) l hl hby w w1 hr hb (Nat.le_succ _) hR)
  rw [hs1] at HBY
  have HDN := Aside0.mk (fun w1 hR => qdone_calls (w.heap.size + 1) A n c at2 bad2 w1 hR)
  rw [hl] at hf
  rw [hf] at HDN
  have hk1' : (k == (1 : Int)) = false := by simpa using hk1
  have hk2' : (k == (2 : Int)) = false := by simpa using hk2
  have hkw : wrap64 k = k := w64 k (by omega) (by omega)
  have hkw' : IntKind.i64.wrap k = k := IntWalk.i64_in _ (by omega)
  have hu79 := Try.underlying79
  have hg1 : w.heap.size < w.heap.size + 1 := Nat.lt_succ_self _
  clear hr hby hl hs1 hrd hW0 hs0 hf
  go_enter Try.func50, Try.ntmps50
  go_wp2_with (first
    | (go_at_call 72; (with_reducible refine HRD.out.mono ?_); rintro e w1 ⟨rfl, hR, hb1, hz⟩; have HR1 := Aside0.mk hR; have HZ1 := Aside0.mk hz; have HB1 := Aside0.mk hb1; clear hR hb1 hz)
    | (go_at_call 73; (with_reducible refine (HBY.out _ HB1.out HR1.out).mono ?_); rintro e w2 ⟨rfl, hR, hb, hk⟩; have he2 := EvAt.new w2 k 0 0 (.slice none 0 0); have HE2 := Aside0.mk he2; have hlt2 := World.block_lt_of_cell? _ _ hR.1; have HR2 := Aside0.mk (hR.below (below_alloc (Below.refl _ _) (.cells #[.int .i64 k, .int .i64 0, .int .i64 0, .slice none 0 0] 79))); have hz := HZ1.out.kept hk (fun h => Nat.ne_of_lt hg1 h); have HZ2 := Aside0.mk (hz.below (below_alloc (Below.refl _ _) (.cells #[.int .i64 k, .int .i64 0, .int .i64 0, .slice none 0 0] 79))); have HB2 := Aside0.mk (below_alloc hb (.cells #[.int .i64 k, .int .i64 0, .int .i64 0, .slice none 0 0] 79)); obtain ⟨y0, y1, y2, y3, y4, y5, y6, y7, y8⟩ := he2; clear hR hb hk hz)
    | fail)
  clear y0 y1 y2 y3 y4 y5 y6 y7 y8
  generalize (w2.alloc (.cells #[.int .i64 k, .int .i64 0, .int .i64 0, .slice none 0 0] 79)) = W at *
  obtain ⟨p0, p1, p2, p3, p4, p5, p6, p7, p8⟩ := HZ2.out
  obtain ⟨q0, q1, q2, q3, q4, q5, q6, q7, q8⟩ := HE2.out
  have HX := HB2
  first | (go_region_with (first
      | (go_at_call 76; (with_reducible refine (HDN.out _ (HR2.out.below ((Below.refl W.heap.size W).drew))).mono ?_); rintro e w5 ⟨rfl, hd9⟩; have HE5 := Aside0.mk ((HE2.out.below ((Below.refl W.heap.size W).drew)).below hd9.below); have HZ5 := Aside0.mk ((HZ2.out.below ((Below.refl W.heap.size W).drew)).below hd9.below); have HB5 := Aside0.mk (below_then HX.out HX.out.size (below_then ((Below.refl W.heap.size W).drew) ((Below.refl W.heap.size W).drew).size hd9.below)); obtain ⟨a0, a1, a2, a3, a4, a5, a6, a7, a8⟩ := HZ5.out; obtain ⟨b0, b1, b2, b3, b4, b5, b6, b7, b8⟩ := HE5.out; clear hd9)
      | (go_at_call 76; (with_reducible refine (HDN.out _ (((((HR2.out.below ((Below.refl W.heap.size W).drew)).other (p := ⟨w.heap.size, 0, none⟩) (Nat.ne_of_lt hg1) _).other (p := ⟨w.heap.size, 1, none⟩) (Nat.ne_of_lt hg1) _).other (p := ⟨w.heap.size, 2, none⟩) (Nat.ne_of_lt hg1) _).other (p := ⟨w.heap.size, 3, none⟩) (Nat.ne_of_lt hg1) _)).mono ?_); rintro e w5 ⟨rfl, hd9⟩; have HF := Aside0.mk (((HZ2.out.below ((Below.refl W.heap.size W).drew)).fill k 0 0 (.slice none 0 0)).below hd9.below); have HBF := Aside0.mk (below_then (bel_fill (below_then HX.out HX.out.size ((Below.refl W.heap.size W).drew)) (Nat.le_refl _) k 0 0 (.slice none 0 0)) (bel_fill (below_then HX.out HX.out.size ((Below.refl W.heap.size W).drew)) (Nat.le_refl _) k 0 0 (.slice none 0 0)).size hd9.below); clear hd9)
      | fail)) | fail
  all_goals
    refine (‹∀ (a : Act) (w_1 : World), Code.wp _ _ _ a w_1 → _› _ _ ?_)
    go_wp2
    first
      | (have HF := Aside0.mk (HZ5.out.fill k 0 0 (.slice none 0 0)); have HBF := Aside0.mk (bel_fill HB5.out (Nat.le_refl _) k 0 0 (.slice none 0 0)); change bodyPost _ _ _ _ _ (fill4 w5 w.heap.size k 0 0 (.slice none 0 0)); generalize fill4 w5 w.heap.size k 0 0 (.slice none 0 0) = WF at *; obtain ⟨-, e0, e1, e2, e3, -⟩ := HF.out; refine bodyPost_ret (by simp [results, Try.results50, go_sem, e0, e1, e2, e3]; try rfl) rfl ?_; exact ⟨none, 0, rfl, Nat.zero_le _, Kd.C_nil _ _, HBF.out⟩)
      | (obtain ⟨-, e0, e1, e2, e3, -⟩ := HF.out; refine bodyPost_ret (by simp [results, Try.results50, go_sem, e0, e1, e2, e3]; try rfl) rfl ?_; exact ⟨none, 0, rfl, Nat.zero_le _, Kd.C_nil _ _, HBF.out⟩)
set_option maxHeartbeats 6400000 in
set_option maxRecDepth 100000 in
theorem qtake_2 (A : Option Addr) (n c : Nat) (hn : n ≤ 1000000) (hc : n ≤ c) (l : List Int) (hl : l.length = n) (hby : By l) (w : World) (hr : Kd.C (Kd.int .u8) w A l.length l) (x3 : Int) (bs : List Int) (at2 at3 at4 : Nat) (bad2 bad3 bad4 : Int) (p : Int)
    (hs1 : step 1 255 l 0 (-1) = (2, at2, bad2)) (hs2 : step 8 9223372036854775807 l at2 bad2 = (x3, at3, bad3)) (hs3 : bstep 0 1048576 l at3 bad3 = (bs, at4, bad4)) (hf : qfin l.length at4 bad4 = p) :
    Calls Try.prog 50 #[.slice A n c] w (ReadTold w 2 0 x3 bs p) := by
  obtain ⟨W0, hW0⟩ : ∃ W, W = w.alloc (.cells #[.int .i64 0, .int .i64 0, .int .i64 0, .slice none 0 0] 79) := ⟨_, rfl⟩
  have HB0 : Aside0 (Below w.heap.size w W0) := ⟨by rw [hW0]; exact below_alloc (Below.refl _ _) _⟩
  have HZ0 : Aside0 (EvAt W0 w.heap.size 0 0 0 (.slice none 0 0)) := ⟨by rw [hW0]; exact EvAt.new _ _ _ _ _⟩
  have hs0 : W0.heap.size = w.heap.size + 1 := by rw [hW0]; simp
  have hrd := (qread_calls A n c w W0 HB0.out).mono (fun e w' h => (⟨h.1, h.2.1, h.2.2.1, HZ0.out.below h.2.2.2⟩ : e = _ ∧ IsQ w' _ A n c 0 (-1) ∧ Below w.heap.size w w' ∧ EvAt w' w.heap.size 0 0 0 (.slice none 0 0)))
  rw [hs0] at hrd
  rw [hW0] at hrd
  have HRD := Aside0.mk hrd
  have hle2 : at2 ≤ n := by have h := step_at (N := 1) (lim := 255) (l := l) (at_ := 0) (bad := -1) (Nat.zero_le _); rw [hs1, hl] at h; exact h
  have HBY := Aside0.mk (fun w1 (hb : Below w.heap.size w w1) hR => qbyte_step (w.heap.size + 1) A n c 0 (-1) (by omega) hc (by omega) l hl hby w w1 hr hb (Nat.le_succ _) hR)
  rw [hs1] at HBY
  have hle3 : at3 ≤ n := by have h := step_at (N := 8) (lim := 9223372036854775807) (l := l) (at_ := at2) (bad := bad2) (by omega); rw [hs2, hl] at h; exact h
  have HIN := Aside0.mk (fun w1 (hb : Below w.heap.size w w1) hR => qint_step (w.heap.size + 1) A n c at2 bad2 (by omega) hc hle2 l hl hby w w1 hr hb (Nat.le_succ _) hR)
  rw [hs2] at HIN
  have HBS := Aside0.mk (fun w1 (hb : Below w.heap.size w w1) hR => qbytes_step (w.heap.size + 1) A n c at3 bad3 0 1048576 (by omega) (by omega) (by omega) hc hle3 l hl hby w w1 hr hb (Nat.le_succ _) hR)
  rw [hs3] at HBS
  have HDN := Aside0.mk (fun w1 hR => qdone_calls (w.heap.size + 1) A n c at4 bad4 w1 hR)
  rw [hl] at hf
  rw [hf] at HDN
  have hu79 := Try.underlying79
  have hg1 : w.heap.size < w.heap.size + 1 := Nat.lt_succ_self _
  clear hr hby hl hs1 hrd hW0 hs0 hf hs2 hs3
  go_enter Try.func50, Try.ntmps50
  go_wp2_with (first
    | (go_at_call 72; (with_reducible refine HRD.out.mono ?_); rintro e w1 ⟨rfl, hR, hb1, hz⟩; have HR1 := Aside0.mk hR; have HZ1 := Aside0.mk hz; have HB1 := Aside0.mk hb1; clear hR hb1 hz)
    | (go_at_call 73; (with_reducible refine (HBY.out _ HB1.out HR1.out).mono ?_); rintro e w2 ⟨rfl, hR, hb, hk⟩; have he2 := EvAt.new w2 2 0 0 (.slice none 0 0); have HE2 := Aside0.mk he2; have hlt2 := World.block_lt_of_cell? _ _ hR.1; have HR2 := Aside0.mk (hR.below (below_alloc (Below.refl _ _) (.cells #[.int .i64 2, .int .i64 0, .int .i64 0, .slice none 0 0] 79))); have hz := HZ1.out.kept hk (fun h => Nat.ne_of_lt hg1 h); have HZ2 := Aside0.mk (hz.below (below_alloc (Below.refl _ _) (.cells #[.int .i64 2, .int .i64 0, .int .i64 0, .slice none 0 0] 79))); have HB2 := Aside0.mk (below_alloc hb (.cells #[.int .i64 2, .int .i64 0, .int .i64 0, .slice none 0 0] 79)); obtain ⟨y0, y1, y2, y3, y4, y5, y6, y7, y8⟩ := he2; clear hR hb hk hz)
    | (go_at_call 74; (with_reducible refine (HIN.out _ HB2.out HR2.out).mono ?_); rintro e w3 ⟨rfl, hR, hb, hk⟩; have he3 := HE2.out.kept hk (fun h => Nat.ne_of_gt hlt2 h); have HE3 := Aside0.mk (he3.set2 x3); have HZ3 := Aside0.mk ((HZ2.out.kept hk (fun h => Nat.ne_of_lt hg1 h)).far (p := ⟨w2.heap.size, 2, none⟩) (Nat.ne_of_gt (Nat.lt_trans hg1 hlt2)) (.int .i64 x3)); have HR3 := Aside0.mk (hR.other (p := ⟨w2.heap.size, 2, none⟩) (Nat.ne_of_gt hlt2) (.int .i64 x3)); have HB3 := Aside0.mk (hb.setCell (p := ⟨w2.heap.size, 2, none⟩) (Nat.le_of_lt (Nat.lt_trans hg1 hlt2)) (.int .i64 x3)); obtain ⟨z0, z1, z2, z3, z4, z5, z6, z7, z8⟩ := he3; clear hR hb hk)
    | (go_at_call 75; (with_reducible refine (HBS.out _ HB3.out HR3.out).mono ?_); rintro e w4 ⟨B, d, rfl, hd, hC, hR, hb, hk⟩; have HD := Aside0.mk hd; have he4 := HE3.out.kept hk (fun h => Nat.ne_of_gt hlt2 h); have HC4 := Aside0.mk (C_set_other hC he4.2.2.2.2.1 (fun x e => by cases e) (.slice B bs.length d)); have HE4 := Aside0.mk (he4.set3 (.slice B bs.length d)); have HZ4 := Aside0.mk ((HZ3.out.kept hk (fun h => Nat.ne_of_lt hg1 h)).far (p := ⟨w2.heap.size, 3, none⟩) (Nat.ne_of_gt (Nat.lt_trans hg1 hlt2)) (.slice B bs.length d)); have HR4 := Aside0.mk (hR.other (p := ⟨w2.heap.size, 3, none⟩) (Nat.ne_of_gt hlt2) (.slice B bs.length d)); have HB4 := Aside0.mk (hb.setCell (p := ⟨w2.heap.size, 3, none⟩) (Nat.le_of_lt (Nat.lt_trans hg1 hlt2)) (.slice B bs.length d)); obtain ⟨u0, u1, u2, u3, u4, u5, u6, u7, u8⟩ := he4; clear hd hC hR hb hk)
    | fail)
  clear y0 y1 y2 y3 y4 y5 y6 y7 y8 z0 z1 z2 z3 z4 z5 z6 z7 z8 u0 u1 u2 u3 u4 u5 u6 u7 u8
  generalize (w4.setCell ⟨w2.heap.size, 3, none⟩ (.slice B bs.length d)) = W at *
  obtain ⟨p0, p1, p2, p3, p4, p5, p6, p7, p8⟩ := HZ4.out
  obtain ⟨q0, q1, q2, q3, q4, q5, q6, q7, q8⟩ := HE4.out
  have HX := HB4
  first | (go_region_with (first
      | (go_at_call 76; (with_reducible refine (HDN.out _ (HR4.out.below ((Below.refl W.heap.size W).drew))).mono ?_); rintro e w5 ⟨rfl, hd9⟩; have HE5 := Aside0.mk ((HE4.out.below ((Below.refl W.heap.size W).drew)).below hd9.below); have HZ5 := Aside0.mk ((HZ4.out.below ((Below.refl W.heap.size W).drew)).below hd9.below); have HB5 := Aside0.mk (below_then HX.out HX.out.size (below_then ((Below.refl W.heap.size W).drew) ((Below.refl W.heap.size W).drew).size hd9.below)); have HC5 := Aside0.mk (Kd.C_below (Kd.C_below HC4.out ((Below.refl W.heap.size W).drew)) hd9.below); obtain ⟨a0, a1, a2, a3, a4, a5, a6, a7, a8⟩ := HZ5.out; obtain ⟨b0, b1, b2, b3, b4, b5, b6, b7, b8⟩ := HE5.out; clear hd9)
      | (go_at_call 76; (with_reducible refine (HDN.out _ (((((HR4.out.below ((Below.refl W.heap.size W).drew)).other (p := ⟨w.heap.size, 0, none⟩) (Nat.ne_of_lt hg1) _).other (p := ⟨w.heap.size, 1, none⟩) (Nat.ne_of_lt hg1) _).other (p := ⟨w.heap.size, 2, none⟩) (Nat.ne_of_lt hg1) _).other (p := ⟨w.heap.size, 3, none⟩) (Nat.ne_of_lt hg1) _)).mono ?_); rintro e w5 ⟨rfl, hd9⟩; have HF := Aside0.mk (((HZ4.out.below ((Below.refl W.heap.size W).drew)).fill 2 0 x3 (.slice B bs.length d)).below hd9.below); have HBF := Aside0.mk (below_then (bel_fill (below_then HX.out HX.out.size ((Below.refl W.heap.size W).drew)) (Nat.le_refl _) 2 0 x3 (.slice B bs.length d)) (bel_fill (below_then HX.out HX.out.size ((Below.refl W.heap.size W).drew)) (Nat.le_refl _) 2 0 x3 (.slice B bs.length d)).size hd9.below); have HC5 := Aside0.mk (Kd.C_below (C_fill (Kd.C_below HC4.out ((Below.refl W.heap.size W).drew)) (HZ4.out.below ((Below.refl W.heap.size W).drew)) (fun x e => by cases e) 2 0 x3 (.slice B bs.length d)) hd9.below); clear hd9)
      | fail)) | fail
  all_goals
    refine (‹∀ (a : Act) (w_1 : World), Code.wp _ _ _ a w_1 → _› _ _ ?_)
    go_wp2
    first
      | (have HF := Aside0.mk (HZ5.out.fill 2 0 x3 (.slice B bs.length d)); have HBF := Aside0.mk (bel_fill HB5.out (Nat.le_refl _) 2 0 x3 (.slice B bs.length d)); replace HC5 := Aside0.mk (C_fill HC5.out HZ5.out (fun x e => by cases e) 2 0 x3 (.slice B bs.length d)); change bodyPost _ _ _ _ _ (fill4 w5 w.heap.size 2 0 x3 (.slice B bs.length d)); generalize fill4 w5 w.heap.size 2 0 x3 (.slice B bs.length d) = WF at *; obtain ⟨-, e0, e1, e2, e3, -⟩ := HF.out; refine bodyPost_ret (by simp [results, Try.results50, go_sem, e0, e1, e2, e3]; try rfl) rfl ?_; exact ⟨B, d, rfl, HD.out, HC5.out, HBF.out⟩)
      | (obtain ⟨-, e0, e1, e2, e3, -⟩ := HF.out; refine bodyPost_ret (by simp [results, Try.results50, go_sem, e0, e1, e2, e3]; try rfl) rfl ?_; exact ⟨B, d, rfl, HD.out, HC5.out, HBF.out⟩)
end Go.Proofs.Ytlngkcaaenpnaaa.Wire
