/- Several texts made one. -/
import Derived.Test.YteapdhfeddgjbaaDoorSDgXa
import Derived.Test.YteapdhfeddgjbaaDoorSRng
import Derived.OrdersIn
import Derived.OwnWalkIn
import Derived.Laws.DeepNot64
section
/- tree: leaf and joint. -/
namespace Go.Proofs.YteapdhfeddgjbaaDoor.Dg
set_option linter.unusedVariables false
set_option linter.unusedSimpArgs false
open Go.RowKit Go.Proofs.YteapdhfeddgjbaaDoor.PDb Go.Proofs.YteapdhfeddgjbaaDoorW Go.Proofs.YteapdhfeddgjbaaDoorW.PrintWords Go.Proofs.YteapdhfeddgjbaaDoorW.PrintLast Go.Proofs.YteapdhfeddgjbaaDoorW.PrintMore

/-- A row just laid, a number beside it stored. -/
theorem lit_at (w1 : World) (x : Int) (g : Nat) (hg : g < w1.heap.size) (u : Value) : Kd.C (Kd.int .u8) ((w1.alloc (.cells #[.int .u8 x] 5)).setCell ⟨g, 9, none⟩ u) (some ⟨w1.heap.size, 0, none⟩) [x].length [x] := by
  refine ⟨rfl, by simp, fun _ => ⟨_, rfl, fun j q hq => ⟨[.int .u8 q], rfl, rfl, fun i v hv => ?_⟩⟩⟩
  have hj : j = 0 := by
    by_cases h : j = 0
    · exact h
    · rw [List.getElem?_eq_none (by simp; omega)] at hq; cases hq
  subst hj
  cases hq
  have hi : i = 0 := by
    by_cases h : i = 0
    · exact h
    · rw [List.getElem?_eq_none (by simp; omega)] at hv; cases hv
  subst hi
  cases hv
  show ((w1.alloc (.cells #[.int .u8 x] 5)).setCell ⟨g, 9, none⟩ u).cell? ⟨w1.heap.size, 0, none⟩ = some (.int .u8 x)
  rw [World.cell?_setCell_far _ _ _ _ (by show g ≠ w1.heap.size; omega), World.cell?_alloc_new]
  rfl
/-- What is summed for a thing, and for two. -/
def leafT (t : List Int) : List Int := 0 :: t
def jointT (a b : List Int) : List Int := 1 :: (a ++ b)
set_option maxHeartbeats 4000000 in
set_option maxRecDepth 100000 in
theorem leaf_calls (A1 : Option Addr) (n1 c1 : Nat) (r : List Int) (hr : r.length = n1) (h1 : n1 ≤ 900000) (hc1 : n1 ≤ c1) (hbr : Bt r) (w : World) (hR : Kd.C (Kd.int .u8) w A1 r.length r) (hK : Tab w 2 KK) :
    Calls Tryd.prog 55 #[.slice A1 n1 c1] w (fun e w' => ∃ v, e = .returned v ∧ Kd.R (Kd.int .u8) 5 w' w.heap.size (fun _ => True) v (sha (leafT r)) ∧ Below w.heap.size w w') := by
  have hb0 : Bt [(0 : Int)] := fun x hx => by rw [List.mem_singleton.1 hx]; omega
  have HW1 : Aside0 (∀ g w1, Below w.heap.size w w1 → IsHs w1 w.heap.size g [] → Calls Tryd.prog 71 #[.pointer (some ⟨g, 0, none⟩), .slice (some ⟨w1.heap.size, 0, none⟩) 1 1] (w1.alloc (.cells #[.int .u8 0] 5)) fun e w' => ∃ v, e = .returned v ∧ IsHb w' w.heap.size g [0] ∧ ([(0 : Int)].length < 64 → IsHs w' w.heap.size g [0]) ∧ Below w.heap.size w w') := ⟨fun g w1 hb hh => by
    obtain ⟨-, -, -, v, h4, -⟩ := id hh
    exact write_calls_at g [] (some ⟨w1.heap.size, 0, none⟩) 1 1 [0] rfl (Nat.le_refl _) (by omega) (fun i => by rw [List.nil_append]; exact hb0.rd i) w _ (below_alloc hb _) (lit_at w1 0 g (World.block_lt_of_cell? _ _ h4.1)) hK (hh.below (below_alloc (Below.refl _ _) _))⟩
  have HW2 : Aside0 (∀ g w1, Below w.heap.size w w1 → IsHs w1 w.heap.size g [0] → Calls Tryd.prog 71 #[.pointer (some ⟨g, 0, none⟩), .slice A1 n1 c1] w1 fun e w' => ∃ v, e = .returned v ∧ IsHb w' w.heap.size g (leafT r) ∧ ((leafT r).length < 64 → IsHs w' w.heap.size g (leafT r)) ∧ Below w.heap.size w w') := ⟨fun g w1 hb hh => write_calls g [0] A1 n1 c1 r hr hc1 (by omega) (fun i => (hb0.append hbr).rd i) w w1 hb hR hK hh⟩
  have HSU : Aside0 (∀ g w1, Below w.heap.size w w1 → IsHb w1 w.heap.size g (leafT r) → Calls Tryd.prog 72 #[.pointer (some ⟨g, 0, none⟩)] w1 fun e w' => ∃ v, e = .returned v ∧ Kd.R (Kd.int .u8) 5 w' w1.heap.size (fun _ => True) v (sha (leafT r)) ∧ Below w1.heap.size w1 w') := ⟨fun g w1 hb hh => sum_calls w.heap.size g (leafT r) (by show ([0] ++ r : List Int).length ≤ _; rw [List.length_append]; simp; omega) w1 hh (hK.below hb) (hb0.append hbr)⟩
  clear hr h1 hc1 hbr hR hK hb0
  go_enter Tryd.func55, Tryd.ntmps55
  go_wp2_with (first
    | (go_at_call 70; (with_reducible refine (new_calls _).mono ?_); rintro e w1 ⟨g, rfl, hh, hb⟩; have HH := Aside0.mk hh; have HB := Aside0.mk hb; clear hh hb)
    | (go_at_call 71; (with_reducible refine (HW1.out g w1 HB.out HH.out).mono ?_); rintro e w2 ⟨v2, rfl, -, hh, hb⟩; have HH2 := Aside0.mk (hh (by decide)); have HB2 := Aside0.mk hb; clear hh hb)
    | (go_at_call 71; (with_reducible refine (HW2.out g w2 HB2.out HH2.out).mono ?_); rintro e w3 ⟨v3, rfl, hh, -, hb⟩; have HH3 := Aside0.mk hh; have HB3 := Aside0.mk hb; clear hh hb)
    | (go_at_call 72; (with_reducible refine (HSU.out g w3 HB3.out HH3.out).mono ?_); rintro e w4 ⟨v4, rfl, ho, hb⟩; have HO := Aside0.mk ho; have HB4 := Aside0.mk hb; clear ho hb)
    | fail)
  go_ret
  exact ⟨_, rfl, Kd.R_lower HO.out HB3.out.size, below_then HB3.out HB3.out.size HB4.out⟩
set_option maxHeartbeats 4000000 in
set_option maxRecDepth 100000 in
theorem joint_calls (A0 : Option Addr) (n0 c0 : Nat) (s : List Int) (A1 : Option Addr) (n1 c1 : Nat) (r : List Int) (hs : s.length = n0) (hr : r.length = n1) (h0 : n0 < 60) (h1 : n1 ≤ 900000) (hc0 : n0 ≤ c0) (hc1 : n1 ≤ c1) (hbs : Bt s) (hbr : Bt r) (w : World)
    (hS : Kd.C (Kd.int .u8) w A0 s.length s) (hR : Kd.C (Kd.int .u8) w A1 r.length r) (hK : Tab w 2 KK) :
    Calls Tryd.prog 56 #[.slice A0 n0 c0, .slice A1 n1 c1] w (fun e w' => ∃ v, e = .returned v ∧ Kd.R (Kd.int .u8) 5 w' w.heap.size (fun _ => True) v (sha (jointT s r)) ∧ Below w.heap.size w w') := by
  have hb0 : Bt [(1 : Int)] := fun x hx => by rw [List.mem_singleton.1 hx]; omega
  have HW1 : Aside0 (∀ g w1, Below w.heap.size w w1 → IsHs w1 w.heap.size g [] → Calls Tryd.prog 71 #[.pointer (some ⟨g, 0, none⟩), .slice (some ⟨w1.heap.size, 0, none⟩) 1 1] (w1.alloc (.cells #[.int .u8 1] 5)) fun e w' => ∃ v, e = .returned v ∧ IsHb w' w.heap.size g [1] ∧ ([(1 : Int)].length < 64 → IsHs w' w.heap.size g [1]) ∧ Below w.heap.size w w') := ⟨fun g w1 hb hh => by
    obtain ⟨-, -, -, v, h4, -⟩ := id hh
    exact write_calls_at g [] (some ⟨w1.heap.size, 0, none⟩) 1 1 [1] rfl (Nat.le_refl _) (by omega) (fun i => by rw [List.nil_append]; exact hb0.rd i) w _ (below_alloc hb _) (lit_at w1 1 g (World.block_lt_of_cell? _ _ h4.1)) hK (hh.below (below_alloc (Below.refl _ _) _))⟩
  have HW2 : Aside0 (∀ g w1, Below w.heap.size w w1 → IsHs w1 w.heap.size g [1] → Calls Tryd.prog 71 #[.pointer (some ⟨g, 0, none⟩), .slice A0 n0 c0] w1 fun e w' => ∃ v, e = .returned v ∧ IsHb w' w.heap.size g (1 :: s) ∧ ((1 :: s).length < 64 → IsHs w' w.heap.size g (1 :: s)) ∧ Below w.heap.size w w') := ⟨fun g w1 hb hh => write_calls g [1] A0 n0 c0 s hs hc0 (by omega) (fun i => (hb0.append hbs).rd i) w w1 hb hS hK hh⟩
  have HW3 : Aside0 (∀ g w1, Below w.heap.size w w1 → IsHs w1 w.heap.size g (1 :: s) → Calls Tryd.prog 71 #[.pointer (some ⟨g, 0, none⟩), .slice A1 n1 c1] w1 fun e w' => ∃ v, e = .returned v ∧ IsHb w' w.heap.size g (jointT s r) ∧ ((jointT s r).length < 64 → IsHs w' w.heap.size g (jointT s r)) ∧ Below w.heap.size w w') := ⟨fun g w1 hb hh => write_calls g (1 :: s) A1 n1 c1 r hr hc1 (by omega) (fun i => ((hb0.append hbs).append hbr).rd i) w w1 hb hR hK hh⟩
  have HSU : Aside0 (∀ g w1, Below w.heap.size w w1 → IsHb w1 w.heap.size g (jointT s r) → Calls Tryd.prog 72 #[.pointer (some ⟨g, 0, none⟩)] w1 fun e w' => ∃ v, e = .returned v ∧ Kd.R (Kd.int .u8) 5 w' w1.heap.size (fun _ => True) v (sha (jointT s r)) ∧ Below w1.heap.size w1 w') := ⟨fun g w1 hb hh => sum_calls w.heap.size g (jointT s r) (by unfold jointT; rw [List.length_cons, List.length_append]; omega) w1 hh (hK.below hb) ((hb0.append hbs).append hbr)⟩
  have HSL : Aside0 ((1 :: s : List Int).length < 64) := ⟨by rw [List.length_cons]; omega⟩
  clear hs hr h0 h1 hc0 hc1 hbs hbr hS hR hK hb0
  go_enter Tryd.func56, Tryd.ntmps56
  go_wp2_with (first
    | (go_at_call 70; (with_reducible refine (new_calls _).mono ?_); rintro e w1 ⟨g, rfl, hh, hb⟩; have HH := Aside0.mk hh; have HB := Aside0.mk hb; clear hh hb)
    | (go_at_call 71; (with_reducible refine (HW1.out g w1 HB.out HH.out).mono ?_); rintro e w2 ⟨v2, rfl, -, hh, hb⟩; have HH2 := Aside0.mk (hh (by decide)); have HB2 := Aside0.mk hb; clear hh hb)
    | (go_at_call 71; (with_reducible refine (HW2.out g w2 HB2.out HH2.out).mono ?_); rintro e w3 ⟨v3, rfl, -, hh, hb⟩; have HH3 := Aside0.mk (hh HSL.out); have HB3 := Aside0.mk hb; clear hh hb)
    | (go_at_call 71; (with_reducible refine (HW3.out g w3 HB3.out HH3.out).mono ?_); rintro e w4 ⟨v4, rfl, hh, -, hb⟩; have HH4 := Aside0.mk hh; have HB4 := Aside0.mk hb; clear hh hb)
    | (go_at_call 72; (with_reducible refine (HSU.out g w4 HB4.out HH4.out).mono ?_); rintro e w5 ⟨v5, rfl, ho, hb⟩; have HO := Aside0.mk ho; have HB5 := Aside0.mk hb; clear ho hb)
    | fail)
  go_ret
  exact ⟨_, rfl, Kd.R_lower HO.out HB4.out.size, below_then HB4.out HB4.out.size HB5.out⟩
end Go.Proofs.YteapdhfeddgjbaaDoor.Dg
end
section
/- A range over a function whose iterator writes rows of its own between its rounds (blocks of one type): one law. -/
namespace Go.Proofs.YteapdhfeddgjbaaDoor.Rny
open Go.RowKit

/-- What an iterator may turn: a walk's object, or a block of cells of its type e. -/
def RowC (e : TypeId) (o : Obj) : Prop := o.isWalk = true ∨ ∃ cs, o = .cells cs e (0, 0)
/-- The same, and whatever is no cells. -/
def RowD (e : TypeId) (o : Obj) : Prop := o.isCells = false ∨ ∃ cs, o = .cells cs e (0, 0)
theorem RowC.d {e : TypeId} {o : Obj} (h : RowC e o) : RowD e o := h.elim (fun h => .inl (Obj.not_cells_of_walk h)) .inr
def AbidesC {β : Type} (e : TypeId) (B : Nat) (J : β → World → Prop) : Prop :=
  ∀ s W W' row, J s W → W.grownBy W' row → (∀ r, row = some r → B ≤ r ∧ ∃ o : Obj, W.heap[r]? = some o ∧ RowC e o) → J s W'
def OwnC {β : Type} (e : TypeId) (B : Nat) (I : β → World → Prop) : Prop :=
  ∀ s W W' row, I s W → W.grownBy W' row → (∀ r, row = some r → B ≤ r ∧ ∃ o : Obj, W.heap[r]? = some o ∧ RowD e o) → I s W'
theorem OwnC.putObj {β : Type} {e : TypeId} {B : Nat} {I : β → World → Prop} (h : OwnC e B I) {s : β} {W : World} {l : Nat} {o : Obj} (o' : Obj) (hs : I s W) (hB : B ≤ l) (hl : W.heap[l]? = some o) (ho : o.isCells = false) : I s (W.putObj l o') :=
  h s W _ (some l) hs (grownBy_putObj' W l o') (fun r e => by cases e; exact ⟨hB, o, hl, .inl ho⟩)
theorem OwnC.alloc {β : Type} {e : TypeId} {B : Nat} {I : β → World → Prop} (h : OwnC e B I) {s : β} {W : World} (o : Obj) (hs : I s W) : I s (W.alloc o) :=
  h s W _ none hs (World.grownBy_alloc W o none) (fun r e => by cases e)
theorem keepsC {e : TypeId} {W W' : World} {row : Option Nat} (hg : W.grownBy W' row) (hrow : ∀ r, row = some r → ∃ o : Obj, W.heap[r]? = some o ∧ RowC e o)
    {k : Nat} {o : Obj} (hk : W.heap[k]? = some o) (hw : o.isWalk = false) (hc : o.isCells = false) : W'.heap[k]? = W.heap[k]? := by
  refine hg.block k (Array.getElem?_eq_some_iff.1 hk).1 ?_
  intro e
  obtain ⟨o', ho', hw'⟩ := hrow k e.symm
  rw [hk] at ho'; cases ho'
  rcases hw' with h | ⟨cs, h⟩
  · rw [hw] at h; cases h
  · subst h; cases hc
/-- The contract of an iterator that says Z of what it hands to a round, and writes blocks of type e of its own. -/
def SeqY {α : Type} (e : TypeId) (F : Fence) (n : Nat) (P : Program) (g : Nat) (lb : Array Value) (encs : α → Array Value) (Kp : World → World → Prop) (Z : List α → α → World → Prop) (S Sp : List α → Prop) (w : World) : Prop :=
  ∀ (l : Nat) (J Jx : List α → World → Prop) (W : World), Below w.heap.size w W → AbidesC e W.heap.size J → AbidesC e W.heap.size Jx →
    (∀ pre x W1, J pre W1 → Z pre x W1 → YieldAt F (n - 1) P l (encs x) W1 fun e W' =>
      (e = .returned (.bool true) ∧ J (pre ++ [x]) W' ∧ Kp W1 W') ∨ (e = .returned (.bool false) ∧ Jx (pre ++ [x]) W')) →
    J [] W →
    CallsIn F n P g (#[.func (.yield l) #[] #[]] ++ lb) W fun e W' => (∃ v, e = .returned v) ∧ ((∃ xs, S xs ∧ J xs W') ∨ (∃ pre, Sp pre ∧ Jx pre W'))

variable {F : Fence} {n : Nat} {P : Program}

/-- The same, where a round's first act is told with the round. -/
theorem range_law3 {α : Type} {e : TypeId} {g : Operand} {ps : Array Tmp} {assign body : Code} {Q : Exit → Act → World → Prop} {a : Act} {w : World}
    (hro : F.round = none) (h1 : 1 ≤ n) {gf : Nat} {lb : Array Value} (hg : a.eval g = .func (.func gf) #[] lb) (hFg : F.fn gf) (eg : ∀ args w, (callFunc gf args).run P w = .ok (.enter gf args) w)
    {encs : α → Array Value} {Kp : World → World → Prop} {Z : List α → α → World → Prop} {S Sp : List α → Prop} {w0 : World} (hseq : SeqY e F (n - 1) P gf lb encs Kp Z S Sp w0)
    (hKt : ∀ {A B C : World}, Kp A B → Kp B C → Kp A C) (hKb : ∀ (W : World) (l : Nat) (o o' : Obj), w.heap.size ≤ l → W.heap[l]? = some o → o.isCells = false → o.isWalk = false → Kp W (W.putObj l o'))
    (hZb : ∀ (pre : List α) (x : α) (W : World) (l : Nat) (o o' : Obj), W.heap[l]? = some o → o.isCells = false → Z pre x W → Z pre x (W.putObj l o'))
    (hb0 : Below w0.heap.size w0 w) (hps : ∀ x, (encs x).size = ps.size)
    (I : List α → World → Prop) (Ix : Code → List α → World → Prop) (hI : OwnC e w.heap.size I) (hIx : ∀ c, OwnC e w.heap.size (Ix c)) (h0 : I [] w)
    (hround : ∀ (l : Nat) (pre : List α) (x : α), ∃ a₁ : Act,
      (∀ (W : World) (K : Act → World → Prop), K a₁ W → assign.wpIn (F.inRound l) (n - 1 - 1) P (Exit.then K (fun _ _ _ => False)) { tmps := (ps.zip (encs x)).foldl (fun t (p, v) => t.setIfInBounds p v) a.tmps, defers := [] } W) ∧
      (∀ W : World, I pre W → Z pre x W → body.wpIn (F.inRound l) (n - 1 - 1) P (ownPostG w.heap.size Kp I Ix (pre ++ [x]) W) a₁ W))
    (hdone : ∀ (D : Nat) (xs : List α) (W : World), w.heap.size ≤ D → S xs → I xs W → W.heap[D]? = some (.deferred (some [])) → Q .normal { a with defers := { target := .collected D, args := #[] } :: a.defers } W)
    (hstop : ∀ (D : Nat) (c : Code) (pre : List α) (W : World), w.heap.size ≤ D → Sp pre → Ix c pre W → W.heap[D]? = some (.deferred (some [])) → c.wpIn F n P Q { a with defers := { target := .collected D, args := #[] } :: a.defers } W) :
    (Code.rangeFunc g ps assign body).wpIn F n P Q a w := by
  refine wpIn_rangeFunc fun fn hfn => ?_
  rw [hro]
  -- the loop's record, as it stands through the rounds
  let rec_ : LoopState → Option Code → Loop := fun st pe => { state := st, pending := pe, fn, tmps := a.tmps, params := ps, assign, body, defers := w.heap.size }
  obtain ⟨rc, hrc⟩ : ∃ rc : LoopState → Option Code → Loop, rc = rec_ := ⟨_, rfl⟩
  obtain ⟨V, hV⟩ : ∃ V, (w.alloc (.deferred (some []))).alloc (.loop (rc .ready none)) = V := ⟨_, rfl⟩
  have hVl : V.heap[w.heap.size + 1]? = some (.loop (rc .ready none)) := by
    have := World.alloc_heap_new (w.alloc (.deferred (some []))) (.loop (rc .ready none))
    rw [World.size_alloc] at this
    rw [← hV]; exact this
  have hVd : V.heap[w.heap.size]? = some (.deferred (some [])) := by
    rw [← hV]; exact (Below.heap_alloc _ _ _ (by simp)).trans (World.alloc_heap_new w _)
  have hVI : I [] V := by rw [← hV]; exact hI.alloc _ (hI.alloc _ h0)
  have hVb : Below w0.heap.size w0 V := by
    rw [← hV]; exact hb0.trans ((((Below.refl _ w).alloc (Nat.le_refl _) _).alloc (by simp) _).mono hb0.size)
  have hVs : w.heap.size ≤ V.heap.size := by rw [← hV]; simp; omega
  refine ⟨w.heap.size + 1, [{ target := .collected w.heap.size, args := #[] }], V, { target := .fn (.func gf) lb, args := #[.func (.yield (w.heap.size + 1)) #[] #[]] }, V, gf,
    #[.func (.yield (w.heap.size + 1)) #[] #[]] ++ lb, V, ?_, ?_, ?_, ?_, fun _ => h1, ?_⟩
  · rw [← hV, hrc]; exact run_enterLoop_outer _ _ _ _ _
  · simp only [resolve, hg]
    simp [go_sem]
  · intro f' hf'; simp [Target.leads] at hf'; subst hf'; exact hFg
  · simp [invoke, go_sem, eg]
  have hwk : ∀ {A : World} {row : Option Nat}, (∀ r, row = some r → V.heap.size ≤ r ∧ ∃ o : Obj, A.heap[r]? = some o ∧ RowC e o) → (∀ r, row = some r → w.heap.size ≤ r ∧ ∃ o : Obj, A.heap[r]? = some o ∧ RowD e o) :=
    fun hr r he => by obtain ⟨hB, o, ho, hw⟩ := hr r he; exact ⟨by omega, o, ho, hw.d⟩
  refine (hseq (w.heap.size + 1)
    (fun pre W => I pre W ∧ W.heap[w.heap.size + 1]? = some (.loop (rc .ready none)) ∧ W.heap[w.heap.size]? = some (.deferred (some [])))
    (fun pre W => ∃ c, Ix c pre W ∧ W.heap[w.heap.size + 1]? = some (.loop (rc .done (some c))) ∧ W.heap[w.heap.size]? = some (.deferred (some [])))
    V hVb
    (fun s A B row hs hg' hr => ⟨hI s A B row hs.1 hg' (hwk hr), (keepsC hg' (fun r e => (hr r e).2) hs.2.1 rfl rfl).trans hs.2.1, (keepsC hg' (fun r e => (hr r e).2) hs.2.2 rfl rfl).trans hs.2.2⟩)
    (fun s A B row hs hg' hr => by
      obtain ⟨c, hc, hl, hk⟩ := hs
      exact ⟨c, hIx c s A B row hc hg' (hwk hr), (keepsC hg' (fun r e => (hr r e).2) hl rfl rfl).trans hl, (keepsC hg' (fun r e => (hr r e).2) hk rfl rfl).trans hk⟩)
    ?_ ⟨hVI, hVl, hVd⟩).mono ?_
  · -- one round
    rintro pre x W ⟨hi, hl, hk⟩ hz
    have hlt : w.heap.size + 1 < W.heap.size := (Array.getElem?_eq_some_iff.1 hl).1
    have hy := run_yield (P := P) (args := encs x) hl (by rw [hrc]; exact hps x)
    rw [hrc] at hy
    obtain ⟨a₁, hassign, hbody⟩ := hround (w.heap.size + 1) pre x
    refine ⟨fn, _, assign, body, hy, roundIn_of_wpIn hfn (hassign W _ ⟨_, run_beginRound hl (by rw [hrc]), ?_⟩)⟩
    obtain ⟨B, hB⟩ : ∃ B, W.putObj (w.heap.size + 1) (.loop { rc .ready none with state := .busy }) = B := ⟨_, rfl⟩
    have hl2 : B.heap[w.heap.size + 1]? = some (.loop { rc .ready none with state := .busy }) := by rw [← hB]; exact World.putObj_heap_same hlt
    have hk2 : B.heap[w.heap.size]? = some (.deferred (some [])) := by rw [← hB]; exact (World.putObj_heap_other (by omega)).trans hk
    have hw2 : Kp W B := by rw [← hB]; exact hKb _ _ _ _ (by omega) hl rfl rfl
    have hi2 : I pre B := by rw [← hB]; exact hI.putObj _ hi (by omega) hl rfl
    have hz2 : Z pre x B := by rw [← hB]; exact hZb _ _ _ _ _ _ hl rfl hz
    rw [show W.putObj (w.heap.size + 1) (.loop { rc .ready none with state := .busy }) = B from hB]
    refine wpIn_mono (hbody B hi2 hz2) ?_
    have fin : ∀ (jump : Option Code) (Y : World), KeepsFrom w.heap.size B Y →
        (Instr.endRound (w.heap.size + 1) jump).run P Y = .ok (.bool jump.isNone) (Y.putObj (w.heap.size + 1) (.loop (rc (if jump.isNone then .ready else .done) jump))) ∧
        Y.heap[w.heap.size + 1]? = some (.loop { rc .ready none with state := .busy }) ∧
        (Y.putObj (w.heap.size + 1) (.loop (rc (if jump.isNone then .ready else .done) jump))).heap[w.heap.size + 1]? = some (.loop (rc (if jump.isNone then .ready else .done) jump)) ∧
        (Y.putObj (w.heap.size + 1) (.loop (rc (if jump.isNone then .ready else .done) jump))).heap[w.heap.size]? = some (.deferred (some [])) := fun jump Y hk3 => by
      have hl3 := hk3.same _ _ (by omega) hl2 rfl
      have he := run_endRound (P := P) jump hl3
      rw [hrc] at he ⊢
      exact ⟨he, by rw [hrc] at hl3; exact hl3, World.putObj_heap_same (Array.getElem?_eq_some_iff.1 hl3).1, (World.putObj_heap_other (by omega)).trans (hk3.same _ _ (Nat.le_refl _) hk2 rfl)⟩
    rintro ex a3 Y hp
    cases ex with
    | normal =>
      obtain ⟨hk3, hkp3, hi3⟩ := hp
      obtain ⟨hr, hl3, hl4, hk4⟩ := fin none Y hk3
      exact ⟨_, _, hr, .inl ⟨rfl, ⟨hI.putObj _ hi3 (by omega) hl3 rfl, hl4, hk4⟩, hKt (hKt hw2 hkp3) (hKb _ _ _ _ (by omega) hl3 rfl rfl)⟩⟩
    | ret =>
      obtain ⟨hk3, hi3⟩ := hp
      obtain ⟨hr, hl3, hl4, hk4⟩ := fin (some .ret) Y hk3
      exact ⟨_, _, hr, .inr ⟨rfl, .ret, (hIx _).putObj _ hi3 (by omega) hl3 rfl, hl4, hk4⟩⟩
    | exit id =>
      obtain ⟨hk3, hi3⟩ := hp
      obtain ⟨hr, hl3, hl4, hk4⟩ := fin (some (.exit id)) Y hk3
      exact ⟨_, _, hr, .inr ⟨rfl, .exit id, (hIx _).putObj _ hi3 (by omega) hl3 rfl, hl4, hk4⟩⟩
    | goto t =>
      obtain ⟨hk3, hi3⟩ := hp
      obtain ⟨hr, hl3, hl4, hk4⟩ := fin (some (.goto t)) Y hk3
      exact ⟨_, _, hr, .inr ⟨rfl, .goto t, (hIx _).putObj _ hi3 (by omega) hl3 rfl, hl4, hk4⟩⟩
    | panic ch => exact hp.elim
    | outgrown => exact hp.elim
  · -- behind the iterator
    rintro ey Y ⟨⟨v, rfl⟩, (⟨xs, hS, hi, hl, hk⟩ | ⟨pre, hSp, c, hi, hl, hk⟩)⟩
    · exact ⟨none, _, by have he := run_endLoop (P := P) hl (by rw [hrc]; simp [rec_]); rw [hrc] at he; exact he, hdone _ xs _ (Nat.le_refl _) hS (hI.putObj _ hi (by omega) hl rfl) ((World.putObj_heap_other (by omega)).trans hk)⟩
    · exact ⟨some c, _, by have he := run_endLoop (P := P) hl (by rw [hrc]; simp [rec_]); rw [hrc] at he; exact he, hstop _ c pre _ (Nat.le_refl _) hSp ((hIx c).putObj _ hi (by omega) hl rfl) ((World.putObj_heap_other (by omega)).trans hk)⟩
end Go.Proofs.YteapdhfeddgjbaaDoor.Rny
end
section
/- tree: the rows above things: plain, and what is kept. -/
namespace Go.Proofs.YteapdhfeddgjbaaDoor.Dg
set_option linter.unusedVariables false
set_option linter.unusedSimpArgs false
open Go.RowKit Go.Shelf Go.Proofs.YteapdhfeddgjbaaDoor.Rny Go.Proofs.YteapdhfeddgjbaaDoor.PDb Go.Proofs.YteapdhfeddgjbaaDoorW Go.Proofs.YteapdhfeddgjbaaDoorW.PrintWords Go.Proofs.YteapdhfeddgjbaaDoorW.PrintLast Go.Proofs.YteapdhfeddgjbaaDoorW.PrintMore

theorem take_gd (rs : List (List Int)) (i : Nat) (h : i < rs.length) : rs.take (i + 1) = rs.take i ++ [rs.getD i []] := by
  rw [List.take_succ_eq_append_getElem h, List.getD_eq_getElem?_getD, List.getElem?_eq_getElem h]; rfl
theorem mem_gd (rs : List (List Int)) (i : Nat) (h : i < rs.length) : rs.getD i [] ∈ rs := by
  rw [List.getD_eq_getElem?_getD, List.getElem?_eq_getElem h]; exact List.getElem_mem h
/-- The row above a row. -/
def up : List (List Int) → List (List Int)
  | [] => []
  | [a] => [a]
  | a :: b :: l => sha (jointT a b) :: up l
def rowsF : Nat → List (List Int) → List (List (List Int))
  | 0, _ => []
  | k + 1, r => r :: (if 1 < r.length then rowsF k (up r) else [])
def leavesOf (ts : List (List Int)) : List (List Int) := ts.map (fun t => sha (leafT t))
/-- All rows, from below. -/
def rowsOf (ts : List (List Int)) : List (List (List Int)) := rowsF (ts.length + 1) (leavesOf ts)
theorem up_len : ∀ r : List (List Int), (up r).length = (r.length + 1) / 2
  | [] => rfl
  | [a] => by simp [up]
  | a :: b :: l => by rw [up, List.length_cons, up_len l, List.length_cons, List.length_cons]; omega
theorem rowsF_succ (k : Nat) (r : List (List Int)) : rowsF (k + 1) r = r :: (if 1 < r.length then rowsF k (up r) else []) := rfl
/-- A sum: 32 bytes. -/
def Sm (r : List Int) : Prop := Bt r ∧ r.length = 32
theorem sha_Sm (d : List Int) : Sm (sha d) := ⟨sha_Bt d, sha_len d⟩
theorem up_Sm : ∀ r : List (List Int), (∀ x ∈ r, Sm x) → ∀ x ∈ up r, Sm x
  | [], _ => fun x h => by simp [up] at h
  | [a], h => h
  | a :: b :: l, h => fun x hx => by
    rw [up] at hx
    rcases List.mem_cons.1 hx with e | e
    · rw [e]; exact sha_Sm _
    · exact up_Sm l (fun y hy => h y (by simp [hy])) x e
theorem leaves_Sm (ts : List (List Int)) : ∀ x ∈ leavesOf ts, Sm x := fun x hx => by
  obtain ⟨t, _, rfl⟩ := List.mem_map.1 hx
  exact sha_Sm _
/-- What stands above the first places of a row. -/
theorem up_take : ∀ (r : List (List Int)) (i : Nat), 2 * i + 1 < r.length → up (r.take (2 * (i + 1))) = up (r.take (2 * i)) ++ [sha (jointT (r.getD (2 * i) []) (r.getD (2 * i + 1) []))]
  | [], i, h => by simp at h
  | [a], i, h => by simp at h
  | a :: b :: l, 0, h => by simp [up]
  | a :: b :: l, i + 1, h => by
    have e1 : 2 * (i + 1 + 1) = (2 * (i + 1)) + 1 + 1 := by omega
    have e2 : 2 * (i + 1) = 2 * i + 1 + 1 := by omega
    have e3 : 2 * (i + 1) + 1 = (2 * i + 1) + 1 + 1 := by omega
    rw [e1, List.take_succ_cons, List.take_succ_cons, up, e3, e2, List.take_succ_cons, List.take_succ_cons, up, List.cons_append]
    have h2 := up_take l i (by simp at h; omega)
    rw [e2] at h2
    rw [h2]
    simp [List.getD_cons_succ]
theorem up_take_last : ∀ (r : List (List Int)) (i : Nat), r.length = 2 * i + 1 → up r = up (r.take (2 * i)) ++ [r.getD (2 * i) []]
  | [], i, h => by simp at h
  | [a], i, h => by
    have : i = 0 := by simp at h; omega
    subst this
    simp [up]
  | a :: b :: l, 0, h => by simp at h
  | a :: b :: l, i + 1, h => by
    have e2 : 2 * (i + 1) = 2 * i + 1 + 1 := by omega
    rw [e2, List.take_succ_cons, List.take_succ_cons, up, up, List.cons_append]
    rw [up_take_last l i (by simp at h; omega)]
    simp [List.getD_cons_succ]

abbrev rowK : Kd (List Int) := Kd.slice 5 (Kd.int .u8)
/-- What a round is handed: a row. -/
abbrev Rw := Option Addr × List (List Int) × Nat
def rencs (x : Rw) : Array Value := #[.slice x.1 x.2.1.length x.2.2]
def rkey (x : Rw) : List (List Int) := x.2.1
/-- A row of sums of the iterator's own, from S on. -/
def RZ (ts : List (List Int)) (S : Nat) (pre : List Rw) (x : Rw) (W : World) : Prop :=
  (∃ rest, rowsOf ts = pre.map rkey ++ rkey x :: rest) ∧ rowK.R 24 W S (fun _ => True) (.slice x.1 x.2.1.length x.2.2) x.2.1 ∧ (∀ r ∈ x.2.1, Sm r)
/-- What a round keeps: what lay below; rows of sums, and sums, from S on. -/
def RK (base S : Nat) (W W' : World) : Prop :=
  Below base W W' ∧ (∀ k cs t, S ≤ k → (t = 24 ∨ t = 5) → W.heap[k]? = some (.cells cs t (0, 0)) → W'.heap[k]? = some (.cells cs t (0, 0)))
theorem RK.trans {base S : Nat} {X Y Z : World} (h : RK base S X Y) (k : RK base S Y Z) : RK base S X Z :=
  ⟨h.1.trans k.1, fun i cs t h1 h2 h3 => k.2 i cs t h1 h2 (h.2 i cs t h1 h2 h3)⟩
theorem RK.putObj {base S : Nat} (W : World) (l : Nat) (o o' : Obj) (hbl : base ≤ l) (hl : W.heap[l]? = some o) (ho : o.isCells = false) : RK base S W (W.putObj l o') := by
  refine ⟨(Below.refl base W).grown (grownBy_putObj' W l o') (Nat.le_trans hbl (Nat.le_of_lt (Array.getElem?_eq_some_iff.1 hl).1)) (fun k e => by cases e; exact hbl), fun k cs t h1 h2 h3 => ?_⟩
  rw [World.putObj_heap_other]
  · exact h3
  · rintro rfl
    rw [hl] at h3
    cases h3
    cases ho
theorem RZ.putObj {ts : List (List Int)} {S : Nat} (pre : List Rw) (x : Rw) (W : World) (l : Nat) (o o' : Obj) (hl : W.heap[l]? = some o) (ho : o.isCells = false) (h : RZ ts S pre x W) : RZ ts S pre x (W.putObj l o') :=
  ⟨h.1, R_putObj h.2.1 hl ho o', h.2.2⟩
/-- A row of sums, or a sum, is kept by a round. -/
theorem RK.row {base S B : Nat} {W W' : World} (h : RK base S W W') (hS : S ≤ B) {ok : Nat → Prop} {v : Value} {xs : List (List Int)} (hr : rowK.R 24 W B ok v xs) : rowK.R 24 W' B ok v xs :=
  Kd.R_mono (Kd.R_move (Kd.R_bound hr) (fun k hk => by
    obtain ⟨_, h1, _, q, hq, cs, hc⟩ := hk
    have hq2 : q = 24 ∨ q = 5 := by
      rcases List.mem_cons.1 hq with e | e
      · exact .inl e
      · rcases List.mem_cons.1 e with e | e
        · exact .inr e
        · cases e
    rw [hc]
    exact h.2 k cs q (Nat.le_trans hS h1) hq2 hc)) (fun _ hk => hk.1)
/-- An element of a row of one's own, as it was made. -/
theorem R_elem {α : Type} {d : Kd α} {e : Nat} {w : World} {base : Nat} {ok : Nat → Prop} {A : Option Addr} {n c : Nat} {xs : List α} (h : d.R e w base ok (.slice A n c) xs) (z : α) (i : Nat) (hi : i < n) :
    ∃ ad cs, A = some ad ∧ d.M w base (fun k => ok k ∧ some k ≠ (Value.slice A n c).ownBlock) (xs.getD i z) cs ∧ ∀ j u, cs[j]? = some u → w.cell? (ad.add (i * d.sz + j)) = some u := by
  obtain ⟨A', c', he, hl, hr⟩ := OwnRow.reads h.2
  obtain ⟨rfl, rfl, rfl⟩ : A = A' ∧ n = xs.length ∧ c = c' := by injection he with h1 h2 h3; exact ⟨h1, h2, h3⟩
  obtain ⟨ad, cs, e1, _, hM, hcell⟩ := ReadsRow.get_ hr z (i : Int) (by omega) (by omega)
  rw [Int.toNat_natCast] at hM hcell
  exact ⟨ad, cs, e1, hM, hcell⟩
/-- append(v, x) inside a fence. -/
theorem append_in {F : Fence} {n : Nat} {P : Program} {ops : Array Oper} {rest : List Oper} {o : Oper} {a : Act} {Q : Exit → Act → World → Prop} {w w1 : World} {v1 : Value} (s x : Operand) (t : TypeId)
    (ho : o.op = .call { callee := .builtin .append, args := #[s, x], argTypes := #[t, t] }) (hgd : o.guard = none) (hrun : (Builtin.append_ #[t, t] o.type #[a.eval s, a.eval x]).run P w = .ok v1 w1) (h : wpListIn F n P ops Q rest (a.put o.dst v1) w1) :
    wpListIn F n P ops Q (o :: rest) a w := by
  refine wpListIn_plain hgd fun K hK' => ?_
  unfold Oper.wpIn
  refine ⟨?_, ?_⟩
  · simp [Oper.about, ho, resolve, Target.leads, Sem.run_pure]
  · rw [Oper.semAt_plain F _ _ (by rw [ho]; intro c hc'; cases hc')]
    simp [execOp, ho, resolve, invoke, builtin, hrun, Result.andThen]
    exact hK' _ _ h
/-- The block of a row of sums, as an iterator's own. -/
theorem row_own {w : World} {B : Nat} {ok : Nat → Prop} {v : Value} {xs : List (List Int)} (h : rowK.R 24 w B ok v xs) : ∀ r, v.ownBlock = some r → B ≤ r ∧ ∃ o : Obj, w.heap[r]? = some o ∧ RowC 24 o := fun r hr => by
  obtain ⟨inner, ho⟩ := Kd.R_own h
  obtain ⟨cs, hc⟩ := own_typed ho r hr
  exact ⟨own_base ho r hr, _, hc, .inr ⟨cs, rfl⟩⟩
theorem row_own_lt {w : World} {B : Nat} {ok : Nat → Prop} {v : Value} {xs : List (List Int)} (h : rowK.R 24 w B ok v xs) : ∀ r, v.ownBlock = some r → r < w.heap.size := fun r hr => by
  obtain ⟨inner, ho⟩ := Kd.R_own h
  exact own_lt ho r hr
/-- A sum's block is no row's. -/
theorem sum_apart {w : World} {B : Nat} {ok ok' : Nat → Prop} {u v : Value} {p : List Int} {xs : List (List Int)} (hu : (Kd.int .u8).R 5 w B ok' u p) (h : rowK.R 24 w B ok v xs) : (Kd.int .u8).R 5 w B (fun k => some k ≠ v.ownBlock) u p :=
  Kd.R_mono (Kd.R_bound hu) fun k hk he => by
    obtain ⟨_, _, _, q, hq, cs, hc⟩ := hk
    obtain ⟨inner, ho⟩ := Kd.R_own h
    obtain ⟨cs', hc'⟩ := own_typed ho k he.symm
    rw [hc] at hc'
    have hq5 : q = 5 := by
      rcases List.mem_cons.1 hq with e | e
      · exact e
      · cases e
    subst hq5
    cases hc'
/-- append(row, sum). -/
theorem row_push {w1 : World} (B : Nat) (v : Value) (xs : List (List Int)) (hR : rowK.R 24 w1 B (fun _ => True) v xs) (u : Value) (p : List Int) {ok' : Nat → Prop} (hu : (Kd.int .u8).R 5 w1 B ok' u p) (hB : B ≤ w1.heap.size) (hl : xs.length ≤ 200000) :
    ∃ v5 w5, (Builtin.append_ #[22, 22] 22 #[v, .slice (some ⟨w1.heap.size, 0, none⟩) 1 1]).run Tryd.prog (w1.alloc (.cells #[u] 24)) = .ok v5 w5 ∧ rowK.R 24 w5 B (fun _ => True) v5 (xs ++ [p]) ∧ w1.grownBy w5 v.ownBlock ∧ (v5.ownBlock = v.ownBlock ∨ ∃ b, v5.ownBlock = some b ∧ w1.heap.size ≤ b) :=
  R_append_run (P := Tryd.prog) rowK (W := w1) B 22 22 24 (.slice none 0 0) 24 Tryd.underlying22 info24 rfl (by decide) (by decide) v xs p [u] (fun _ => True) _ ⟨u, rfl, sum_apart hu hR⟩ (fun k hk => ⟨trivial, hk⟩) (fun _ _ => trivial) hR hB (by omega)
/-- A sum in a row of one's own. -/
theorem row_elem {w : World} {B : Nat} {ok : Nat → Prop} {A : Option Addr} {n c : Nat} {xs : List (List Int)} (h : rowK.R 24 w B ok (.slice A n c) xs) (i : Nat) (hi : i < n) :
    ∃ ad A' c', A = some ad ∧ w.cell? (ad.add i) = some (.slice A' (xs.getD i []).length c') ∧ (Kd.int .u8).R 5 w B ok (.slice A' (xs.getD i []).length c') (xs.getD i []) := by
  obtain ⟨ad, cs, e, ⟨v, rfl, hM⟩, hcell⟩ := R_elem h [] i hi
  obtain ⟨A', c', e'⟩ := Kd.R_slice hM
  subst e'
  refine ⟨ad, A', c', e, ?_, Kd.R_mono hM (fun k hk => hk.1)⟩
  have := hcell 0 _ rfl
  simpa [Kd.slice] using this
end Go.Proofs.YteapdhfeddgjbaaDoor.Dg
end
section
/- tree: the iterator of rows. -/
namespace Go.Proofs.YteapdhfeddgjbaaDoor.Dg
set_option linter.unusedVariables false
set_option linter.unusedSimpArgs false
open Go.RowKit Go.Shelf Go.Proofs.YteapdhfeddgjbaaDoor.Rny Go.Proofs.YteapdhfeddgjbaaDoor.PDb Go.Proofs.YteapdhfeddgjbaaDoorW Go.Proofs.YteapdhfeddgjbaaDoorW.PrintWords Go.Proofs.YteapdhfeddgjbaaDoorW.PrintLast Go.Proofs.YteapdhfeddgjbaaDoorW.PrintMore
attribute [local go_sem] Oper.semAt_some

def lenOf : Value → Nat
  | .slice _ n _ => n
  | _ => 0
set_option maxHeartbeats 6400000 in
set_option maxRecDepth 100000 in
theorem rows_seq (n : Nat) (hn : 2 ≤ n) (wb w0 : World) (g N c : Nat) (A : Option Addr) (ts : List (List Int)) (hN : ts.length = N) (hb : ∀ t ∈ ts, Bt t ∧ t.length ≤ 900000) (hN1 : N ≤ 100000) (hC : rowK.C wb A N ts) (hK : Tab wb 2 KK) (hB : Below wb.heap.size wb w0) (hg : w0.cell? ⟨g, 0, none⟩ = some (.slice A N c)) :
    SeqY 24 Fence.wide n Tryd.prog 95 #[.pointer (some ⟨g, 0, none⟩)] rencs (RK wb.heap.size w0.heap.size) (RZ ts w0.heap.size) (fun xs => xs.map rkey = rowsOf ts) (fun _ => True) w0 := by
  intro l J Jx W hW hJ hJx hY h0
  have HN1 : Aside0 (1 ≤ n) := ⟨Nat.le_of_succ_le hn⟩
  have hgW : W.cell? ⟨g, 0, none⟩ = some (.slice A N c) := pw_cell_below hW hg
  have HBW : Aside0 (Below wb.heap.size wb W) := ⟨below_then hB hB.size hW⟩
  have HSW : Aside0 (w0.heap.size ≤ W.heap.size) := ⟨hW.size⟩
  have HJ := Aside0.mk hJ
  have HJx := Aside0.mk hJx
  have HY := Aside0.mk hY
  have H0 := Aside0.mk h0
  have HC := Aside0.mk hC
  have HK := Aside0.mk hK
  have HN := Aside0.mk hN
  have HBT := Aside0.mk hb
  clear hJ hJx hY h0 hC hK hB hW hg hN hb
  refine callsIn_of_wp Tryd.func95 rfl trivial ?_ rfl
  simp only [Tryd.ntmps95, List.size_toArray, List.length_cons, List.length_nil, Nat.reduceAdd, Nat.reduceSub, Array.replicate_succ, Array.replicate_zero, List.push_toArray, List.append_toArray, List.nil_append, List.cons_append]
  gi_wp2_with fail
  gi_loopw [3, 10] (fun v3 v10 wr => ∃ i : Nat, v10 = .int .i64 (i : Int) ∧ i ≤ N ∧ Aside0 (rowK.R 24 wr W.heap.size (fun _ => True) v3 ((leavesOf ts).take i)) ∧ Aside0 (J [] wr) ∧ Aside0 (Below W.heap.size W wr))
    (fun _ v10 _ => N - (intOf v10).toNat)
  case atStart => exact ⟨0, rfl, Nat.zero_le _, ⟨Kd.R_nil _ _ _ _ _⟩, H0, ⟨Below.refl _ _⟩⟩
  case round =>
    obtain ⟨i, rfl, hi, HR, HJr, HBr⟩ := hrel
    have HBB := Aside0.mk (below_then HBW.out HBW.out.size HBr.out)
    obtain ⟨A5, c5, e5⟩ := Kd.R_slice HR.out
    obtain ⟨N5, hN5⟩ : ∃ N5, ((leavesOf ts).take i).length = N5 := ⟨_, rfl⟩
    rw [hN5] at e5
    subst e5
    by_cases hlt : i < N
    · obtain ⟨ad0, A2, c2, rfl, hc2, hl2, hC2⟩ := at_row (Kd.C_below HC.out HBB.out) i hlt
      have hbt := HBT.out _ (mem_gd ts i (by rw [HN.out]; exact hlt))
      have htk : (leavesOf ts).take (i + 1) = (leavesOf ts).take i ++ [sha (leafT (ts.getD i []))] := by
        have hll : i < (leavesOf ts).length := by unfold leavesOf; rw [List.length_map, HN.out]; exact hlt
        rw [take_gd _ i hll, List.getD_eq_getElem?_getD, List.getD_eq_getElem?_getD]
        unfold leavesOf
        rw [List.getElem?_map, List.getElem?_eq_getElem (by rw [HN.out]; exact hlt)]
        rfl
      obtain ⟨t, ht⟩ : ∃ t, ts.getD i [] = t := ⟨_, rfl⟩
      rw [ht] at hc2 hl2 hC2 hbt htk
      obtain ⟨m, hm⟩ : ∃ m, t.length = m := ⟨_, rfl⟩
      rw [hm] at hc2 hl2
      have HLF := Aside0.mk (leaf_calls A2 m c2 t hm (by have := hbt.2; omega) hl2 hbt.1 wr hC2 (HK.out.below HBB.out))
      have HTK := Aside0.mk htk
      have HTL : Aside0 (((leavesOf ts).take i).length ≤ 200000) := ⟨by rw [List.length_take]; omega⟩
      clear ht hm hbt htk hC2 hl2
      gi_wp2_with (first
        | (refine ⟨trivial, fun _ => HN1.out, ?_⟩; gi_at_call 55; (with_reducible refine (callsIn_wide.2 HLF.out).mono ?_); rintro e w1 ⟨v1, rfl, ho, hb⟩; obtain ⟨A1, c1, e1⟩ := Kd.R_slice ho; subst e1; rw [sha_len] at ho ⊢; have HO := Aside0.mk (Kd.R_lower ho HBr.out.size); have HB1 := Aside0.mk (below_then HBr.out HBr.out.size hb); have HR1 := Aside0.mk (Kd.R_below HR.out hb); have HJ1 := Aside0.mk (HJ.out [] wr w1 none HJr.out (grown_of_below hb none) (fun r e => by cases e)); clear ho hb)
        | (gi_at_builtin; obtain ⟨v5, w5, hrun, hR5, hg5, hat5⟩ := row_push W.heap.size _ _ HR1.out _ _ HO.out HB1.out.size HTL.out; refine append_in (.tmp 14) (.tmp 17) 22 rfl rfl hrun ?_)
        | fail)
      exact ⟨⟨i + 1, rfl, hlt, ⟨by rw [HTK.out]; exact hR5⟩, ⟨HJ.out [] w1 w5 _ HJ1.out hg5 (row_own HR1.out)⟩, ⟨HB1.out.grown hg5 HB1.out.size (fun k hk => (row_own HR1.out k hk).1)⟩⟩, meas_nat hlt⟩
    · obtain rfl : i = N := by omega
      have htk : (leavesOf ts).take i = leavesOf ts := List.take_of_length_le (by unfold leavesOf; rw [List.length_map, HN.out]; exact Nat.le_refl _)
      rw [htk] at HR hN5
      have HL5 : Aside0 ((leavesOf ts).length = i) := ⟨by unfold leavesOf; rw [List.length_map, HN.out]⟩
      have hNi : N5 = i := by rw [← hN5]; exact HL5.out
      subst hNi
      clear htk hlt hi hN5 hgW
      gi_wp2_with fail
      gi_loopw [3] (fun v3 wr2 => ∃ (k : Nat) (pre : List Rw) (xs : List (List Int)), Aside0 (rowsOf ts = pre.map rkey ++ rowsF k xs) ∧ xs.length < k ∧ xs.length ≤ 100000 ∧ Aside0 (∀ x ∈ xs, Sm x) ∧ Aside0 (rowK.R 24 wr2 W.heap.size (fun _ => True) v3 xs) ∧ Aside0 (J pre wr2) ∧ Aside0 (Below wb.heap.size wb wr2) ∧ Aside0 (W.heap.size ≤ wr2.heap.size))
        (fun v3 _ => lenOf v3)
      case atStart => exact ⟨ts.length + 1, [], leavesOf ts, ⟨rfl⟩, by rw [HL5.out, HN.out]; omega, by rw [HL5.out]; exact hN1, ⟨leaves_Sm ts⟩, HR, HJr, HBB, ⟨HBr.out.size⟩⟩
      case round =>
        clear HR HJr HBr HBB HL5
        obtain ⟨k, pre, xs, HF, hk, hx, HSM, HR, HJr, HBB, HSZ⟩ := hrel
        obtain ⟨A3, c3, e3⟩ := Kd.R_slice HR.out
        subst e3
        obtain ⟨m, hm⟩ : ∃ m, xs.length = m := ⟨_, rfl⟩
        obtain ⟨k, rfl⟩ : ∃ k', k = k' + 1 := ⟨k - 1, by omega⟩
        rw [rowsF_succ] at HF
        obtain ⟨fn, tmps, assign, body, hy, hRo⟩ := HY.out pre (A3, xs, c3) wr HJr.out ⟨⟨_, HF.out⟩, Kd.R_lower HR.out HSW.out, HSM.out⟩
        dsimp only [rencs] at hy
        rw [hm] at hy
        have HRR := Aside0.mk hRo
        have HM := Aside0.mk hm
        have HRm : Aside0 (rowK.R 24 wr W.heap.size (fun _ => True) (.slice A3 m c3) xs) := ⟨by rw [← hm]; exact HR.out⟩
        rw [hm] at hk hx ⊢
        clear hRo hm HR
        gi_wp2_with fail
        refine ⟨fun _ => HN1.out, HRR.out.mono ?_⟩
        clear HRR hy
        rintro e w4 (⟨rfl, hJ2, hk2⟩ | ⟨rfl, hJx2⟩)
        · have HJ4 := Aside0.mk hJ2
          have HB4 := Aside0.mk (HBB.out.trans hk2.1)
          have HS4 : Aside0 (W.heap.size ≤ w4.heap.size) := ⟨Nat.le_trans HSZ.out hk2.1.size⟩
          have HR4 := Aside0.mk (RK.row hk2 HSW.out HRm.out)
          clear hJ2 hk2 HRm HJr HBB HSZ
          by_cases h1 : 1 < m
          · have h1' : (1 : Int) < (m : Int) := by omega
            rw [HM.out, if_pos h1] at HF
            gi_wp2_with fail
            gi_loopw [6, 7] (fun v6 v7 wr3 => ∃ i : Nat, v7 = .int .i64 ((2 * i : Nat) : Int) ∧ 2 * i ≤ m + 1 ∧ Aside0 (rowK.R 24 wr3 W.heap.size (fun _ => True) v6 (up (xs.take (2 * i)))) ∧ Aside0 (∀ r, v6.ownBlock = some r → w4.heap.size ≤ r) ∧ Aside0 (rowK.R 24 wr3 W.heap.size (fun k => k < w4.heap.size) (.slice A3 m c3) xs) ∧ Aside0 (J (pre ++ [(A3, xs, c3)]) wr3) ∧ Aside0 (Below wb.heap.size wb wr3) ∧ Aside0 (w4.heap.size ≤ wr3.heap.size))
              (fun _ v7 _ => m + 1 - (intOf v7).toNat)
            case atStart => exact ⟨0, rfl, Nat.zero_le _, ⟨Kd.R_nil _ _ _ _ _⟩, ⟨fun r h => by simp [Value.ownBlock] at h⟩, ⟨Kd.R_mono (Kd.R_bound HR4.out) (fun k hk => hk.2.2.1)⟩, HJ4, HB4, ⟨Nat.le_refl _⟩⟩
            case round =>
              clear HR4 HJ4 HB4
              obtain ⟨i, rfl, hi, HR6, HO6, HR4, HJ4, HB4, HZ4⟩ := hrel
              obtain ⟨j, hj⟩ : ∃ j, 2 * i = j := ⟨_, rfl⟩
              rw [hj] at hi HR6 ⊢
              have HJJ := Aside0.mk hj
              by_cases hlt : j < m
              · by_cases hl2 : j + 1 < m
                · obtain ⟨ad, B1, d1, e1, hc1, hR1⟩ := row_elem HR4.out j hlt
                  subst e1
                  obtain ⟨ad', B2, d2, e2, hc2, hR2⟩ := row_elem HR4.out (j + 1) hl2
                  cases e2
                  have hs1 := HSM.out _ (mem_gd xs j (by rw [HM.out]; exact hlt))
                  have hs2 := HSM.out _ (mem_gd xs (j + 1) (by rw [HM.out]; exact hl2))
                  have HUP : Aside0 (up (xs.take (2 * (i + 1))) = up (xs.take j) ++ [sha (jointT (xs.getD j []) (xs.getD (j + 1) []))]) := ⟨by rw [← hj]; exact up_take xs i (by rw [hj, HM.out]; exact hl2)⟩
                  obtain ⟨s, hs⟩ : ∃ s, xs.getD j [] = s := ⟨_, rfl⟩
                  obtain ⟨r, hr⟩ : ∃ r, xs.getD (j + 1) [] = r := ⟨_, rfl⟩
                  rw [hs] at hs1 hc1 hR1 HUP
                  rw [hr] at hs2 hc2 hR2 HUP
                  rw [hs1.2] at hc1 hR1
                  rw [hs2.2] at hc2 hR2
                  have HJT : Aside0 (∀ W', Below wr.heap.size wr W' → Calls Tryd.prog 56 #[.slice B1 32 d1, .slice B2 32 d2] W' (fun e w' => ∃ v, e = .returned v ∧ Kd.R (Kd.int .u8) 5 w' W'.heap.size (fun _ => True) v (sha (jointT s r)) ∧ Below W'.heap.size W' w')) := ⟨fun W' h => by
                    have g1 := (Kd.R_reads' hR1).2
                    have g2 := (Kd.R_reads' hR2).2
                    exact joint_calls B1 32 d1 s B2 32 d2 r hs1.2 hs2.2 (by omega) (by omega) g1.1 g2.1 hs1.1 hs2.1 W' (Kd.C_below g1.2 h) (Kd.C_below g2.2 h) (HK.out.below (below_then HB4.out HB4.out.size h))⟩
                  obtain ⟨A6, c6, e6⟩ := Kd.R_slice HR6.out
                  obtain ⟨m6, hm6⟩ : ∃ m6, (up (xs.take j)).length = m6 := ⟨_, rfl⟩
                  rw [hm6] at e6
                  subst e6
                  have hm6b : (up (xs.take j)).length ≤ 200000 := by rw [up_len, List.length_take]; omega
                  have HML := Aside0.mk hm6b
                  obtain ⟨j1, hj1⟩ : ∃ j1, j + 1 = j1 := ⟨_, rfl⟩
                  rw [hj1] at hc2
                  have hd1 : (j : Int) + 1 < (m : Int) := by omega
                  have hd2 : (j : Int) < (m : Int) := by omega
                  have hd3 : (j1 : Int) < (m : Int) := by omega
                  have hw1 : IntKind.i64.wrap ((j : Int) + 1) = (j1 : Int) := by
                    have h := IntWalk.wrap64_in ((j : Int) + 1) (by omega)
                    rw [i64_w, h]; omega
                  clear hs hr hs1 hs2 hR1 hR2 hm6b hm6 hj hj1 hl2
                  gi_wp2_with fail
                  refine wpIn_region_any (by kernel_rfl) ?_
                  (try change wpAnyIn _ _ _ _ _ _ _ _ _ (World.drew _))
                  -- BEGIN region
                  refine wpAnyIn_take (i := 0) (v := ?_) rfl rfl (by kernel_rfl) (by kernel_rfl) (by kernel_rfl) (fun _ _ _ h => h) ⟨Or.inl ⟨by rfl, ?_⟩, fun _ => rfl⟩ ?_
                  rotate_left
                  · first | (intro w; go_simp; done) | (intro w; go_simp; with_reducible rfl)
                  refine wpAnyIn_take (i := 1) (v := ?_) rfl rfl (by kernel_rfl) (by kernel_rfl) (by kernel_rfl) (fun _ _ _ h => h) ⟨Or.inl ⟨by rfl, ?_⟩, fun _ => rfl⟩ ?_
                  rotate_left
                  · first | (intro w; go_simp; done) | (intro w; go_simp; with_reducible rfl)
                  refine wpAnyIn_take (i := 2) (v := ?_) rfl rfl (by kernel_rfl) (by kernel_rfl) (by kernel_rfl) (fun _ _ _ h => h) ⟨Or.inl ⟨by rfl, ?_⟩, fun _ => rfl⟩ ?_
                  rotate_left
                  · first | (intro w; go_simp; done) | (intro w; go_simp; with_reducible rfl)
                  refine wpAnyIn_take (i := 3) (v := ?_) rfl rfl (by kernel_rfl) (by kernel_rfl) (by kernel_rfl) (fun _ _ _ h => h) ⟨Or.inl ⟨by rfl, ?_⟩, fun _ => rfl⟩ ?_
                  rotate_left
                  · first | (intro w; go_simp; done) | (intro w; go_simp; with_reducible rfl)
                  refine wpAnyIn_take (i := 5) (v := ?_) rfl rfl (by kernel_rfl) (by kernel_rfl) (by kernel_rfl) (fun _ _ _ h => h) ⟨Or.inl ⟨by rfl, ?_⟩, fun _ => rfl⟩ ?_
                  rotate_left
                  · first | (intro w; go_simp; done) | (intro w; go_simp; with_reducible rfl)
                  refine wpAnyIn_take (i := 6) (v := ?_) rfl rfl (by kernel_rfl) (by kernel_rfl) (by kernel_rfl) (fun _ _ _ h => h) ⟨Or.inl ⟨by rfl, ?_⟩, fun _ => rfl⟩ ?_
                  rotate_left
                  · first | (intro w; go_simp; done) | (intro w; go_simp; with_reducible rfl)
                  refine wpAnyIn_take (i := 7) (v := ?_) rfl rfl (by kernel_rfl) (by kernel_rfl) (by kernel_rfl) (fun _ _ _ h => h) ⟨Or.inl ⟨by rfl, ?_⟩, fun _ => rfl⟩ ?_
                  rotate_left
                  · first | (intro w; go_simp; done) | (intro w; go_simp; with_reducible rfl)
                  refine wpAnyIn_take (i := 8) (v := ?_) rfl rfl (by kernel_rfl) (by kernel_rfl) (by kernel_rfl) (fun _ _ _ h => h) ⟨Or.inl ⟨by rfl, ?_⟩, fun _ => rfl⟩ ?_
                  rotate_left
                  · first | (intro w; go_simp; done) | (intro w; go_simp; with_reducible rfl)
                  refine wpAnyIn_ready (rs := [4, 9]) (by decide +kernel) (by simp) ?_
                  refine AllReadyIn.cons rfl (fun K hK => ?_) ?_
                  · go_simp
                    refine hK _ _ ?_
                    clear hK K
                    refine wpAnyIn_ready (rs := [9]) (by decide +kernel) (by simp) ?_
                    refine AllReadyIn.cons rfl (fun K hK => ?_) AllReadyIn.nil
                    go_simp
                    refine hK _ _ ?_
                    clear hK K
                    refine wpAnyIn_ready (rs := [10]) (by decide +kernel) (by simp) ?_
                    refine AllReadyIn.cons rfl (fun K hK => ?_) AllReadyIn.nil
                    go_simp
                    refine ⟨trivial, fun _ => HN1.out, ?_⟩; gi_at_call 56; (with_reducible refine (callsIn_wide.2 (HJT.out _ (below_drew (Below.refl _ _)))).mono ?_); rintro e w5 ⟨v5, rfl, ho, hb⟩; obtain ⟨A7, c7, e7⟩ := Kd.R_slice ho; subst e7; rw [sha_len] at ho ⊢; have HB5 := Aside0.mk (below_then (below_drew (Below.refl wr.heap.size wr)) (below_drew (Below.refl wr.heap.size wr)).size hb); have HR65 := Aside0.mk (Kd.R_below HR6.out HB5.out); have HZ5 := Aside0.mk (Nat.le_trans HZ4.out HB5.out.size); obtain ⟨v1, w6, hrun, hR7, hg7, hat7⟩ := row_push W.heap.size _ _ HR65.out _ _ (Kd.R_lower ho (Nat.le_trans HS4.out HZ4.out)) (Nat.le_trans HS4.out HZ5.out) HML.out; obtain ⟨A8, c8, e8⟩ := Kd.R_slice hR7; rw [List.length_append, List.length_singleton] at e8; subst e8; clear ho hb
                    refine hK _ _ ?_
                    clear hK K
                    refine wpAnyIn_ready (rs := [11]) (by decide +kernel) (by simp) ?_
                    refine AllReadyIn.cons rfl (fun K hK => ?_) AllReadyIn.nil
                    go_simp
                    refine hK _ _ ?_
                    clear hK K
                    refine wpAnyIn_ready (rs := [12]) (by decide +kernel) (by simp) ?_
                    refine AllReadyIn.cons rfl (fun K hK => ?_) AllReadyIn.nil
                    refine step_run_in (.tmp 39) (.tmp 50) 22 rfl rfl hrun ?_
                    refine hK _ _ ?_
                    clear hK K
                    refine wpAnyIn_ready (rs := [13]) (by decide +kernel) (by simp) ?_
                    refine AllReadyIn.cons rfl (fun K hK => ?_) AllReadyIn.nil
                    go_simp
                    refine hK _ _ ?_
                    clear hK K
                    refine wpAnyIn_done (by decide +kernel) ?_ _
                    gi_wp2_with fail
                    refine ⟨⟨i + 1, by rw [show ((2 * (i + 1) : Nat) : Int) = (j : Int) + 2 from by have := HJJ.out; omega], by have := HJJ.out; omega, ⟨by rw [HUP.out]; exact hR7⟩, ⟨fun r hr => ?_⟩, ⟨Kd.R_grown (Kd.R_below HR4.out HB5.out) hg7 (fun k hk e => by have := HO6.out k e.symm; omega)⟩, ⟨HJ.out _ w5 w6 _ (HJ.out _ wr w5 none HJ4.out (grown_of_below HB5.out none) (fun r e => by cases e)) hg7 (row_own HR65.out)⟩, ⟨(below_then HB4.out HB4.out.size HB5.out).grown hg7 (Nat.le_trans HBW.out.size (Nat.le_trans HS4.out HZ5.out)) (fun k hk => Nat.le_trans HBW.out.size (row_own HR65.out k hk).1)⟩, ⟨Nat.le_trans HZ5.out hg7.size⟩⟩, by simp [intOf]; omega⟩
                    rcases hat7 with e | ⟨b, e, hb⟩
                    · rw [e] at hr; exact HO6.out r hr
                    · rw [e] at hr; cases hr; exact Nat.le_trans HZ5.out hb
                  refine AllReadyIn.cons rfl (fun K hK => ?_) ?_
                  · go_simp
                    refine hK _ _ ?_
                    clear hK K
                    refine wpAnyIn_ready (rs := [4]) (by decide +kernel) (by simp) ?_
                    refine AllReadyIn.cons rfl (fun K hK => ?_) AllReadyIn.nil
                    go_simp
                    refine hK _ _ ?_
                    clear hK K
                    refine wpAnyIn_ready (rs := [10]) (by decide +kernel) (by simp) ?_
                    refine AllReadyIn.cons rfl (fun K hK => ?_) AllReadyIn.nil
                    go_simp
                    refine ⟨trivial, fun _ => HN1.out, ?_⟩; gi_at_call 56; (with_reducible refine (callsIn_wide.2 (HJT.out _ (below_drew (Below.refl _ _)))).mono ?_); rintro e w5 ⟨v5, rfl, ho, hb⟩; obtain ⟨A7, c7, e7⟩ := Kd.R_slice ho; subst e7; rw [sha_len] at ho ⊢; have HB5 := Aside0.mk (below_then (below_drew (Below.refl wr.heap.size wr)) (below_drew (Below.refl wr.heap.size wr)).size hb); have HR65 := Aside0.mk (Kd.R_below HR6.out HB5.out); have HZ5 := Aside0.mk (Nat.le_trans HZ4.out HB5.out.size); obtain ⟨v1, w6, hrun, hR7, hg7, hat7⟩ := row_push W.heap.size _ _ HR65.out _ _ (Kd.R_lower ho (Nat.le_trans HS4.out HZ4.out)) (Nat.le_trans HS4.out HZ5.out) HML.out; obtain ⟨A8, c8, e8⟩ := Kd.R_slice hR7; rw [List.length_append, List.length_singleton] at e8; subst e8; clear ho hb
                    refine hK _ _ ?_
                    clear hK K
                    refine wpAnyIn_ready (rs := [11]) (by decide +kernel) (by simp) ?_
                    refine AllReadyIn.cons rfl (fun K hK => ?_) AllReadyIn.nil
                    go_simp
                    refine hK _ _ ?_
                    clear hK K
                    refine wpAnyIn_ready (rs := [12]) (by decide +kernel) (by simp) ?_
                    refine AllReadyIn.cons rfl (fun K hK => ?_) AllReadyIn.nil
                    refine step_run_in (.tmp 39) (.tmp 50) 22 rfl rfl hrun ?_
                    refine hK _ _ ?_
                    clear hK K
                    refine wpAnyIn_ready (rs := [13]) (by decide +kernel) (by simp) ?_
                    refine AllReadyIn.cons rfl (fun K hK => ?_) AllReadyIn.nil
                    go_simp
                    refine hK _ _ ?_
                    clear hK K
                    refine wpAnyIn_done (by decide +kernel) ?_ _
                    gi_wp2_with fail
                    refine ⟨⟨i + 1, by rw [show ((2 * (i + 1) : Nat) : Int) = (j : Int) + 2 from by have := HJJ.out; omega], by have := HJJ.out; omega, ⟨by rw [HUP.out]; exact hR7⟩, ⟨fun r hr => ?_⟩, ⟨Kd.R_grown (Kd.R_below HR4.out HB5.out) hg7 (fun k hk e => by have := HO6.out k e.symm; omega)⟩, ⟨HJ.out _ w5 w6 _ (HJ.out _ wr w5 none HJ4.out (grown_of_below HB5.out none) (fun r e => by cases e)) hg7 (row_own HR65.out)⟩, ⟨(below_then HB4.out HB4.out.size HB5.out).grown hg7 (Nat.le_trans HBW.out.size (Nat.le_trans HS4.out HZ5.out)) (fun k hk => Nat.le_trans HBW.out.size (row_own HR65.out k hk).1)⟩, ⟨Nat.le_trans HZ5.out hg7.size⟩⟩, by simp [intOf]; omega⟩
                    rcases hat7 with e | ⟨b, e, hb⟩
                    · rw [e] at hr; exact HO6.out r hr
                    · rw [e] at hr; cases hr; exact Nat.le_trans HZ5.out hb
                  exact AllReadyIn.nil
                  -- END region
                · obtain ⟨ad, B1, d1, e1, hc1, hR1⟩ := row_elem HR4.out j hlt
                  subst e1
                  have hs1 := HSM.out _ (mem_gd xs j (by rw [HM.out]; exact hlt))
                  have HUP : Aside0 (up (xs.take (2 * (i + 1))) = up (xs.take j) ++ [xs.getD j []]) := ⟨by
                    rw [List.take_of_length_le (by rw [HM.out]; omega), ← hj]
                    exact up_take_last xs i (by rw [HM.out]; omega)⟩
                  obtain ⟨s, hs⟩ : ∃ s, xs.getD j [] = s := ⟨_, rfl⟩
                  rw [hs] at hs1 hc1 hR1 HUP
                  rw [hs1.2] at hc1 hR1
                  obtain ⟨A6, c6, e6⟩ := Kd.R_slice HR6.out
                  obtain ⟨m6, hm6⟩ : ∃ m6, (up (xs.take j)).length = m6 := ⟨_, rfl⟩
                  rw [hm6] at e6
                  subst e6
                  have hm6b : (up (xs.take j)).length ≤ 200000 := by rw [up_len, List.length_take]; omega
                  have HML := Aside0.mk hm6b
                  have HE1 := Aside0.mk hR1
                  have hd1 : ¬ (j : Int) + 1 < (m : Int) := by omega
                  have hd2 : (j : Int) < (m : Int) := by omega
                  clear hs hs1 hR1 hm6b hm6 hj hl2
                  gi_wp2_with (first
                    | (gi_at_builtin; obtain ⟨v1, w6, hrun, hR7, hg7, hat7⟩ := row_push W.heap.size _ _ HR6.out _ _ HE1.out (Nat.le_trans HS4.out HZ4.out) HML.out; obtain ⟨A8, c8, e8⟩ := Kd.R_slice hR7; rw [List.length_append, List.length_singleton] at e8; subst e8; refine append_in (.tmp 52) (.tmp 57) 22 rfl rfl hrun ?_)
                    | fail)
                  refine ⟨⟨i + 1, by rw [show ((2 * (i + 1) : Nat) : Int) = (j : Int) + 2 from by have := HJJ.out; omega], by have := HJJ.out; omega, ⟨by rw [HUP.out]; exact hR7⟩, ⟨fun r hr => ?_⟩, ⟨Kd.R_grown HR4.out hg7 (fun k hk e => by have := HO6.out k e.symm; omega)⟩, ⟨HJ.out _ wr w6 _ HJ4.out hg7 (row_own HR6.out)⟩, ⟨HB4.out.grown hg7 (Nat.le_trans HBW.out.size (Nat.le_trans HS4.out HZ4.out)) (fun k hk => Nat.le_trans HBW.out.size (row_own HR6.out k hk).1)⟩, ⟨Nat.le_trans HZ4.out hg7.size⟩⟩, by simp [intOf]; omega⟩
                  rcases hat7 with e | ⟨b, e, hb⟩
                  · rw [e] at hr; exact HO6.out r hr
                  · rw [e] at hr; cases hr; exact Nat.le_trans HZ4.out hb
              · have hd2 : ¬ (j : Int) < (m : Int) := by omega
                have HUP : Aside0 (up (xs.take j) = up xs) := ⟨by rw [List.take_of_length_le (by rw [HM.out]; omega)]⟩
                have HUL : Aside0 ((up xs).length = (m + 1) / 2) := ⟨by rw [up_len, HM.out]⟩
                rw [HUP.out] at HR6
                obtain ⟨A6, c6, e6⟩ := Kd.R_slice HR6.out
                subst e6
                clear hj hlt
                gi_wp2_with fail
                refine ⟨⟨k, pre ++ [(A3, xs, c3)], up xs, ⟨by rw [HF.out, List.map_append, List.append_assoc]; rfl⟩, by rw [HUL.out]; omega, by rw [HUL.out]; omega, ⟨up_Sm xs HSM.out⟩, HR6, HJ4, HB4, ⟨Nat.le_trans HS4.out HZ4.out⟩⟩, ?_⟩
                show lenOf (.slice A6 (up xs).length c6) < lenOf (.slice A3 m c3)
                show (up xs).length < m
                rw [HUL.out]; omega
          · have h1' : ¬ (1 : Int) < (m : Int) := by omega
            rw [HM.out, if_neg h1] at HF
            gi_wp2_with fail
            go_end0
            exact ⟨⟨_, rfl⟩, .inl ⟨pre ++ [(A3, xs, c3)], by rw [HF.out, List.map_append]; rfl, HJ4.out⟩⟩
        · gi_wp2_with fail
          go_end0
          exact ⟨⟨_, rfl⟩, .inr ⟨_, trivial, hJx2⟩⟩
end Go.Proofs.YteapdhfeddgjbaaDoor.Dg
end
section
/- tree: a range over rows; Root. -/
namespace Go.Proofs.YteapdhfeddgjbaaDoor.Dg
set_option linter.unusedVariables false
set_option linter.unusedSimpArgs false
open Go.RowKit Go.Shelf Go.Proofs.YteapdhfeddgjbaaDoor.Rny Go.Proofs.YteapdhfeddgjbaaDoor.PDb Go.Proofs.YteapdhfeddgjbaaDoorW Go.Proofs.YteapdhfeddgjbaaDoorW.PrintWords Go.Proofs.YteapdhfeddgjbaaDoorW.PrintLast Go.Proofs.YteapdhfeddgjbaaDoorW.PrintMore
attribute [local go_sem] Oper.semAt_some

theorem rows_calls (A : Option Addr) (N c : Nat) (W : World) : Calls Tryd.prog 60 #[.slice A N c] W fun e w' => e = .returned (.func (.func 95) #[] #[.pointer (some ⟨W.heap.size, 0, none⟩)]) ∧ W.alloc (.cells #[.slice A N c] 22) = w' := by
  go_enter Tryd.func60, Tryd.ntmps60
  go_wp2
  go_ret
  exact ⟨rfl, rfl⟩
/-- A range over the rows of things. -/
theorem range_rows {n : Nat} {g : Operand} {ps : Array Tmp} {assign body : Code} {Q : Exit → Act → World → Prop} {a : Act} {w : World} (hn : 3 ≤ n)
    (wb : World) (gb N c : Nat) (A : Option Addr) (ts : List (List Int)) (hN : ts.length = N) (hb : ∀ t ∈ ts, Bt t ∧ t.length ≤ 900000) (hN1 : N ≤ 100000) (hC : rowK.C wb A N ts) (hK : Tab wb 2 KK) (hB : Below wb.heap.size wb w) (hcell : w.cell? ⟨gb, 0, none⟩ = some (.slice A N c))
    (hg : a.eval g = .func (.func 95) #[] #[.pointer (some ⟨gb, 0, none⟩)]) (hps : ps.size = 1)
    (I : List Rw → World → Prop) (Ix : Code → List Rw → World → Prop) (hI : OwnC 24 w.heap.size I) (hIx : ∀ c, OwnC 24 w.heap.size (Ix c)) (h0 : I [] w)
    (hround : ∀ (l : Nat) (pre : List Rw) (x : Rw), ∃ a₁ : Act,
      (∀ (W : World) (K : Act → World → Prop), K a₁ W → assign.wpIn (Fence.wide.inRound l) (n - 1 - 1) Tryd.prog (Exit.then K (fun _ _ _ => False)) { tmps := (ps.zip (rencs x)).foldl (fun t (p, v) => t.setIfInBounds p v) a.tmps, defers := [] } W) ∧
      (∀ W : World, I pre W → RZ ts w.heap.size pre x W → body.wpIn (Fence.wide.inRound l) (n - 1 - 1) Tryd.prog (ownPostG w.heap.size (RK wb.heap.size w.heap.size) I Ix (pre ++ [x]) W) a₁ W))
    (hdone : ∀ (D : Nat) (xs : List Rw) (W : World), w.heap.size ≤ D → xs.map rkey = rowsOf ts → I xs W → W.heap[D]? = some (.deferred (some [])) → Q .normal { a with defers := { target := .collected D, args := #[] } :: a.defers } W)
    (hstop : ∀ (D : Nat) (c : Code) (pre : List Rw) (W : World), w.heap.size ≤ D → Ix c pre W → W.heap[D]? = some (.deferred (some [])) → c.wpIn Fence.wide n Tryd.prog Q { a with defers := { target := .collected D, args := #[] } :: a.defers } W) :
    (Code.rangeFunc g ps assign body).wpIn Fence.wide n Tryd.prog Q a w :=
  range_law3 rfl (by omega) hg trivial (enters_of Tryd.func95 (by kernel_rfl) rfl) (rows_seq (n - 1) (by omega) wb w gb N c A ts hN hb hN1 hC hK hB hcell)
    RK.trans (fun W l o o' hl1 hl ho _ => RK.putObj W l o o' (Nat.le_trans hB.size hl1) hl ho) RZ.putObj (Below.refl _ _) (fun x => by rw [hps]; rfl) I Ix hI hIx h0 hround hdone (fun D c pre W hD _ hi hk => hstop D c pre W hD hi hk)

def z32 : List Int := List.replicate 32 0
/-- What Root keeps of rows. -/
def rootF (l : List (List (List Int))) : List Int := l.foldl (fun o r => if r.length = 1 then r.getD 0 [] else o) z32
def rootOf (ts : List (List Int)) : List Int := rootF (rowsOf ts)
theorem rootF_snoc (l : List (List (List Int))) (r : List (List Int)) : rootF (l ++ [r]) = if r.length = 1 then r.getD 0 [] else rootF l := by unfold rootF; rw [List.foldl_append]; rfl
theorem z32_R (w : World) : (Kd.int .u8).R 5 (w.alloc (.cells (madeCells #[.int .u8 0] 32) 5)) w.heap.size (fun _ => True) (.slice (some ⟨w.heap.size, 0, none⟩) 32 32) z32 :=
  Kd.R_of_own (enc := Value.int .u8) (h1 := fun _ => rfl) (own_made w w.heap.size 5 .u8 32 (Nat.le_refl _) (by decide)) (fun _ _ => trivial)
theorem mk32 : ∀ W : World, (Instr.makeSlice 24 (.int .i64 32) (.int .i64 32)).run Tryd.prog W = .ok (.slice (some ⟨W.heap.size, 0, none⟩) 32 32) (W.alloc (.cells (madeCells #[.int .u8 0] 32) 5)) := print_make 24 5 .u8 1 Tryd.underlying24 info5 (by decide) 32 (by decide)
/-- A sum is kept by an iterator of rows. -/
theorem sum_grown {X Y : World} {B : Nat} {ok : Nat → Prop} {v : Value} {p : List Int} {row : Option Nat} (h : (Kd.int .u8).R 5 X B ok v p) (hg : X.grownBy Y row) (hr : ∀ r, row = some r → ∃ o : Obj, X.heap[r]? = some o ∧ RowD 24 o) : (Kd.int .u8).R 5 Y B ok v p :=
  Kd.R_mono (Kd.R_grown (Kd.R_bound h) hg (fun k hk e => by
    obtain ⟨_, _, _, q, hq, cs, hc⟩ := hk
    obtain ⟨o, ho, hd⟩ := hr k e.symm
    rw [hc] at ho
    cases ho
    have hq5 : q = 5 := by
      rcases List.mem_cons.1 hq with e | e
      · exact e
      · cases e
    subst hq5
    rcases hd with h | ⟨cs', h⟩
    · cases h
    · cases h)) (fun _ hk => hk.1)
theorem sum_far {X : World} {B : Nat} {ok : Nat → Prop} {v : Value} {p : List Int} (h : (Kd.int .u8).R 5 X B ok v p) {a : Addr} (ha : a.block < B) (u : Value) : (Kd.int .u8).R 5 (X.setCell a u) B ok v p :=
  Kd.R_mono (Kd.R_far (Kd.R_bound h) (fun k hk e => by have := hk.2.1; omega) u) (fun _ hk => hk.1)
theorem RK.setCell {base S : Nat} {X : World} {a : Addr} (h1 : base ≤ a.block) (h2 : a.block < S) (u : Value) : RK base S X (X.setCell a u) :=
  ⟨(Below.refl base X).setCell h1 u, fun k cs t hk _ hc => by rw [Below.heap_setCell X a u k (by omega)]; exact hc⟩
set_option maxHeartbeats 6400000 in
set_option maxRecDepth 100000 in
theorem root_calls (A : Option Addr) (N c : Nat) (ts : List (List Int)) (hN : ts.length = N) (hb : ∀ t ∈ ts, Bt t ∧ t.length ≤ 900000) (hN1 : N ≤ 100000) (W : World) (hC : rowK.C W A N ts) (hK : Tab W 2 KK) :
    Calls Tryd.prog 24 #[.slice A N c] W (Own W (rootOf ts)) := by
  have HN := Aside0.mk hN
  have HBT := Aside0.mk hb
  have HN1 := Aside0.mk hN1
  have HC := Aside0.mk hC
  have HK := Aside0.mk hK
  clear hN hb hN1 hC hK
  have hmk := mk32
  refine (callsIn_wide (n := 9)).1 ?_
  refine callsIn_of_wp_marks Tryd.func24 rfl trivial ?_ rfl
  simp only [Tryd.ntmps24, List.size_toArray, List.length_cons, List.length_nil, Nat.reduceAdd, Nat.reduceSub, Array.replicate_succ, Array.replicate_zero, List.push_toArray, List.append_toArray, List.nil_append, List.cons_append]
  gi_wp2_with (first
    | (refine ⟨trivial, ?_⟩; gi_at_call 60; (with_reducible refine (callsIn_wide.2 (rows_calls _ _ _ _)).mono ?_); rintro e w2 ⟨rfl, hw2⟩; have HW2 := Aside0.mk hw2; clear hw2)
    | fail)
  have HB2 : Aside0 (Below W.heap.size W w2) := ⟨by rw [← HW2.out]; exact below_alloc (below_alloc (below_alloc (Below.refl _ _) _) _) _⟩
  have q3 : w2.cell? ⟨W.heap.size + 1, 0, none⟩ = some (.slice (some ⟨W.heap.size, 0, none⟩) 32 32) := by rw [← HW2.out]; go_simp
  have q7 : w2.cell? ⟨W.heap.size + 1 + 1, 0, none⟩ = some (.slice A N c) := by rw [← HW2.out]; go_simp
  have f3 : w2.frozen? ⟨W.heap.size + 1, 0, none⟩ = false := by rw [← HW2.out]; go_simp
  have HR2 : Aside0 ((Kd.int .u8).R 5 w2 W.heap.size (fun _ => True) (.slice (some ⟨W.heap.size, 0, none⟩) 32 32) z32) := ⟨by
    rw [← HW2.out]
    exact Kd.R_below (z32_R W) (below_alloc (below_alloc (Below.refl _ _) _) _)⟩
  have hs2 : W.heap.size + 3 ≤ w2.heap.size := by rw [← HW2.out]; simp
  have HS2 := Aside0.mk hs2
  clear HW2 hs2
  refine range_rows (by omega) W (W.heap.size + 1 + 1) N c A ts HN.out HBT.out HN1.out HC.out HK.out HB2.out q7 rfl rfl
    (fun pre X => ∃ v, X.cell? ⟨W.heap.size + 1, 0, none⟩ = some v ∧ X.frozen? ⟨W.heap.size + 1, 0, none⟩ = false ∧ (Kd.int .u8).R 5 X W.heap.size (fun _ => True) v (rootF (pre.map rkey)) ∧ Below W.heap.size W X)
    (fun _ _ _ => False) ?hI (fun _ _ _ _ _ h => h.elim) ⟨_, q3, f3, HR2.out, HB2.out⟩ ?round ?done (fun _ _ _ _ _ h => h.elim)
  case hI =>
    rintro s X Y row ⟨v, h1, h2, h3, h4⟩ hg hr
    have hb : Y.heap[W.heap.size + 1]? = X.heap[W.heap.size + 1]? := hg.block _ (World.block_lt_of_cell? _ _ h1) (fun e => by have := (hr _ e.symm).1; have := HS2.out; omega)
    exact ⟨v, by unfold World.cell? at h1 ⊢; rw [hb]; exact h1, (World.frozen?_of_block (w := X) (a := ⟨W.heap.size + 1, 0, none⟩) hb).trans h2, sum_grown h3 hg (fun r e => (hr r e).2), h4.grown hg h4.size (fun k e => by have := (hr k e).1; have := HS2.out; omega)⟩
  case round =>
    rintro l pre ⟨Ax, xs, cx⟩
    clear q3 q7 f3 HR2
    apply Exists.intro
    constructor
    · intro X K hK
      dsimp only [rencs]
      gi_wp2
      exact hK
    · rintro X ⟨v, h1, h2, h3, h4⟩ ⟨-, hr, hs⟩
      dsimp only at hr hs
      have H3 := Aside0.mk h3
      have H4 := Aside0.mk h4
      obtain ⟨m, hm⟩ : ∃ m, xs.length = m := ⟨_, rfl⟩
      have HM := Aside0.mk hm
      rw [hm] at hr ⊢
      have HR := Aside0.mk hr
      clear h3 h4 hr hm
      by_cases h : m = 1
      · subst h
        obtain ⟨ad, B, d, rfl, hc, he⟩ := row_elem HR.out 0 (by omega)
        rw [ad_add0] at hc
        obtain ⟨x, hx⟩ : ∃ x, xs.getD 0 [] = x := ⟨_, rfl⟩
        rw [hx] at hc he
        have HE := Aside0.mk he
        have HX := Aside0.mk hx
        clear he hs hx
        gi_wp2
        refine ⟨(KeepsOthers.setCell _ _ _).from _, RK.setCell (by show W.heap.size ≤ W.heap.size + 1; omega) (by show W.heap.size + 1 < w2.heap.size; have := HS2.out; omega) _, _, set_same h1, by rw [World.frozen?_setCell]; exact h2, ?_, H4.out.setCell (p := ⟨W.heap.size + 1, 0, none⟩) (Nat.le_succ _) _⟩
        rw [List.map_append, List.map_cons, List.map_nil, rootF_snoc, if_pos (show (rkey (some ad, xs, cx)).length = 1 from HM.out), show (rkey (some ad, xs, cx)).getD 0 [] = x from HX.out]
        exact Kd.R_lower (sum_far HE.out (a := ⟨W.heap.size + 1, 0, none⟩) (by show W.heap.size + 1 < w2.heap.size; have := HS2.out; omega) _) (by have := HS2.out; omega)
      · have hd : ((m : Int) == 1) = false := by simp; omega
        gi_wp2
        refine ⟨(KeepsOthers.refl _).from _, ⟨Below.refl _ _, fun _ _ _ _ _ h => h⟩, v, h1, h2, ?_, H4.out⟩
        rw [List.map_append, List.map_cons, List.map_nil, rootF_snoc, if_neg (show ¬ (rkey (Ax, xs, cx)).length = 1 from fun e => h (by rw [← HM.out]; exact e))]
        exact H3.out
  case done =>
    rintro D ys X hD hys ⟨v, h1, h2, h3, h4⟩ hK
    have H3 := Aside0.mk h3
    have H4 := Aside0.mk h4
    have HKD := Aside0.mk hK
    clear q3 q7 f3 HR2 h3 h4 hK
    refine (‹∀ (a : Act) (w_1 : World), Code.wpIn _ _ _ _ _ a w_1 → _› _ _ ?_)
    gi_wp2_with fail
    refine ⟨by simp, .inl ⟨_, _, rfl, run_takeDeferred HKD.out, ?_⟩⟩
    refine ⟨v, by simp [results, Tryd.results24, go_sem], v, rfl, ?_, putObj_below H4.out (by have := HS2.out; omega) H4.out.size _⟩
    unfold rootOf
    rw [← hys]
    exact R_putObj H3.out HKD.out rfl _
end Go.Proofs.YteapdhfeddgjbaaDoor.Dg
end
section
/- A region that draws its order, inside a round: what yields in any world may be taken first (the kit's rule for activations, turned to a round: no operation of the region is a defer statement). -/
namespace Go.Proofs.YteapdhfeddgjbaaDoor.Rtk
open Go

variable {F : Fence} {n : Nat} {P : Program} {ops : Array Oper} {Q : Exit → Act → World → Prop} {md : Region.Mode}

/-- No operation defers. -/
def NoDefer (ops : Array Oper) : Prop := ∀ (j : Nat) (o : Oper) c, ops[j]? = some o → o.op ≠ .defer c
theorem noDefer_of (h : ops.all (fun o => match o.op with | .defer _ => false | _ => true) = true) : NoDefer ops := fun j o c hj hc => by
  have h1 := Array.all_eq_true.1 h
  obtain ⟨hl, e⟩ := Array.getElem?_eq_some_iff.1 hj
  have h2 := h1 j hl
  rw [e, hc] at h2
  cases h2
theorem yields_step {i : Nat} {o : Oper} {v : Value} {a : Act} (hnd : NoDefer ops) (hi : ops[i]? = some o) (hy : YieldsFenced P ops o v a)
    {K : Act → World → Prop} {w : World} (h : K (a.put o.dst v) w) : wpOpIn F n P ops Q i K a w := by
  have hab : ∀ f, o.about P w a.eval = some f → F.fn f := fun f hf => by rw [hy.2 w] at hf; cases hf
  unfold wpOpIn
  simp only [hi]
  rcases hy.1 with ⟨hw, hv⟩ | ⟨hw, rfl⟩
  · rw [if_pos hw]
    unfold Oper.wpIn
    rw [Oper.semAt_plain F _ _ (fun c => hnd i o c hi), hv w]
    exact ⟨hab, h⟩
  · rw [if_neg (by rw [hw]; decide)]
    exact ⟨hab, h⟩
/-- Another operation's step, where one is put ahead. -/
theorem other_step {j : Nat} {oi oj : Oper} {v : Value} (hnd : NoDefer ops) (hj : ops[j]? = some oj) (hap : oi.apart ops oj = true)
    (hsi : ∀ cs b, oi.op ≠ .select cs b) (hsj : ∀ cs b, oj.op ≠ .select cs b)
    (hQ : ∀ c a w, Q (.panic c) (a.put oi.dst v) w → Q (.panic c) a w) {K : Act → World → Prop} {a : Act} {w : World}
    (hy : YieldsFenced P ops oi v a) (h : wpOpIn F n P ops Q j K (a.put oi.dst v) w) :
    wpOpIn F n P ops Q j (fun a' w' => YieldsFenced P ops oi v a' ∧ K (a'.put oi.dst v) w') a w := by
  obtain ⟨p1, p2, p3⟩ := Oper.apart_spec hap
  have stays : ∀ u, YieldsFenced P ops oi v (a.put oj.dst u) := fun u =>
    hy.of_same (execOp_put oi hsi a oj.dst u p3) (wanted_put oi a oj.dst u p3) (fun w => about_put oi w a oj.dst u p3)
  have swap : ∀ u w', K ((a.put oi.dst v).put oj.dst u) w' → YieldsFenced P ops oi v (a.put oj.dst u) ∧ K ((a.put oj.dst u).put oi.dst v) w' :=
    fun u w' hk => ⟨stays u, by rw [← Act.put_comm a v u p2]; exact hk⟩
  unfold wpOpIn at h ⊢
  simp only [hj] at h ⊢
  rw [wanted_put oj a oi.dst v p1, about_put oj w a oi.dst v p1] at h
  by_cases hw : Region.wanted oj (yielded ops a.tmps) = true
  · rw [if_pos hw] at h ⊢
    unfold Oper.wpIn at h ⊢
    rw [about_put oj w a oi.dst v p1, Oper.semAt_plain F _ _ (fun c => hnd j oj c hj), execOp_put oj hsj a oi.dst v p1] at h
    rw [Oper.semAt_plain F _ _ (fun c => hnd j oj c hj)]
    refine ⟨h.1, ?_⟩
    replace h := h.2
    generalize (execOp a.eval oj).run P w = r at h ⊢
    rcases r with ⟨x, w'⟩ | ⟨x, w'⟩
    · cases x with
      | value u => exact swap u w' h
      | skip => exact swap undef w' h
      | defer d =>
        refine ⟨(hy.of_same rfl rfl (fun _ => rfl) : YieldsFenced P ops oi v { a with defers := d :: a.defers }).of_same (execOp_put oi hsi _ oj.dst undef p3) (wanted_put oi _ oj.dst undef p3) (fun w => about_put oi w _ oj.dst undef p3), ?_⟩
        rw [← Act.put_comm _ v undef p2, ← Act.put_defers]
        exact h
      | enter f args =>
        refine ⟨h.1, h.2.mono fun e w'' he => ?_⟩
        cases e with
        | returned u => exact swap u w'' he
        | panicked c => exact hQ _ _ _ he
        | outgrown => exact he
      | row rw_ args => exact ⟨h.1, h.2.mono fun u w'' he => swap u w'' he⟩
      | round l f tmps assign body =>
        refine ⟨h.1, h.2.mono fun e w'' he => ?_⟩
        cases e with
        | returned u => exact swap u w'' he
        | panicked c => exact hQ _ _ _ he
        | outgrown => exact he
      | _ => first | exact h | exact h.elim
    · cases x with
      | panic u => exact hQ _ _ _ h
      | _ => exact h
  · rw [if_neg hw] at h ⊢
    exact ⟨h.1, swap undef w h.2⟩
theorem first_step {i : Nat} {oi : Oper} {v : Value} (hnd : NoDefer ops) (hi : ops[i]? = some oi) (hsel : ∀ (j : Nat) (o : Oper) cs b, ops[j]? = some o → o.op ≠ .select cs b)
    (hQ : ∀ c a w, Q (.panic c) (a.put oi.dst v) w → Q (.panic c) a w) (fuel : Nat) :
    ∀ (listed : Array Bool) (a : Act) (w : World),
      (∀ j oj, ops[j]? = some oj → j ≠ i → listed.getD j true = false → (∀ e ∈ oj.after, Region.binds md e = true → e.on ≠ i) → oi.apart ops oj = true) →
      i ∈ Region.ready md ops listed → YieldsFenced P ops oi v a →
      wpAnyIn F n P md ops Q fuel (listed.setIfInBounds i true) (a.put oi.dst v) w → wpAnyIn F n P md ops Q (fuel + 1) listed a w := by
  induction fuel with
  | zero =>
    intro listed a w _ hr hy H
    refine ⟨fun h => (by rw [h] at hr; cases hr), fun j hj => ?_⟩
    by_cases hji : j = i
    · rw [hji]; exact yields_step hnd hi hy H
    · have h0 := ready_mono hj hji
      rw [H.1] at h0
      cases h0
  | succ fuel ih =>
    intro listed a w hfree hr hy H
    refine ⟨fun h => (by rw [h] at hr; cases hr), fun j hj => ?_⟩
    by_cases hji : j = i
    · rw [hji]; exact yields_step hnd hi hy H
    obtain ⟨hjun, oj, hoj, hall⟩ := mem_ready.1 hj
    have hiun := (mem_ready.1 hr).1
    have hnot : ∀ e ∈ oj.after, Region.binds md e = true → e.on ≠ i := fun e he hb heq => by
      have h1 := hall e he hb
      rw [heq] at h1
      rcases Nat.lt_or_ge i listed.size with hl | hl
      · simp [hl] at hiun h1; rw [hiun] at h1; cases h1
      · simp [Array.getElem?_eq_none hl] at h1
    refine wpOpIn_mono (fun a' w' h3 => ih (listed.setIfInBounds j true) a' w' (fun k ok hk hki hun hno => hfree k ok hk hki ?_ hno) (ready_mono hr (Ne.symm hji)) h3.1 ?_)
      (other_step hnd hoj (hfree j oj hoj hji hjun hnot) (fun cs b => hsel i oi cs b hi) (fun cs b => hsel j oj cs b hoj) hQ hy (H.2 j (ready_mono hj hji)))
    · by_cases hjk : j = k
      · rw [← hjk]; exact hjun
      · rw [getD_set_ne true hjk] at hun; exact hun
    · rw [Array.setIfInBounds_comm _ _ hji]
      exact h3.2
/-- Taken first. -/
theorem take {i : Nat} {oi : Oper} {v : Value} {fuel : Nat} {listed : Array Bool} {a : Act} {w : World} (hnd : NoDefer ops) (hi : ops[i]? = some oi)
    (hs : Region.noSelect ops = true) (hf : Region.free md ops listed i = true) (hr : (Region.ready md ops listed).contains i = true)
    (hQ : ∀ c a w, Q (.panic c) (a.put oi.dst v) w → Q (.panic c) a w) (hy : YieldsFenced P ops oi v a)
    (h : wpAnyIn F n P md ops Q fuel (listed.setIfInBounds i true) (a.put oi.dst v) w) : wpAnyIn F n P md ops Q (fuel + 1) listed a w :=
  first_step hnd hi (Region.noSelect_spec hs) hQ fuel listed a w (Region.free_spec hi hf) (by simpa using hr) hy h
end Go.Proofs.YteapdhfeddgjbaaDoor.Rtk
end
section
/- tree: Path. -/
namespace Go.Proofs.YteapdhfeddgjbaaDoor.Dg
set_option linter.unusedVariables false
set_option linter.unusedSimpArgs false
open Go.RowKit Go.Shelf Go.Proofs.YteapdhfeddgjbaaDoor.Rny Go.Proofs.YteapdhfeddgjbaaDoor Go.Proofs.YteapdhfeddgjbaaDoor.PDb Go.Proofs.YteapdhfeddgjbaaDoorW Go.Proofs.YteapdhfeddgjbaaDoorW.PrintWords Go.Proofs.YteapdhfeddgjbaaDoorW.PrintLast Go.Proofs.YteapdhfeddgjbaaDoorW.PrintMore
attribute [local go_sem] Oper.semAt_some

abbrev Sd := Bool × List Int
abbrev sideK : Kd Sd := Kd.pair Kd.bool (Kd.slice 5 (Kd.int .u8))
/-- The place beside a place. -/
def oth (i : Nat) : Nat := if i % 2 = 0 then i + 1 else i - 1
/-- What Path does at a row. -/
def pathStep (s : Nat × List Sd) (r : List (List Int)) : Nat × List Sd :=
  (s.1 / 2, if oth s.1 < r.length ∧ 1 < r.length then s.2 ++ [(decide (s.1 < oth s.1), r.getD (oth s.1) [])] else s.2)
def pathF (i : Nat) (l : List (List (List Int))) : Nat × List Sd := l.foldl pathStep (i, [])
def pathOf (ts : List (List Int)) (i : Nat) : List Sd := (pathF i (rowsOf ts)).2
theorem pathF_snoc (i : Nat) (l : List (List (List Int))) (r : List (List Int)) : pathF i (l ++ [r]) = pathStep (pathF i l) r := by unfold pathF; rw [List.foldl_append]; rfl
theorem pathF_le (i : Nat) (l : List (List (List Int))) : (pathF i l).1 ≤ i ∧ (pathF i l).2.length ≤ l.length := by
  have key : ∀ (l : List (List (List Int))) (s : Nat × List Sd), (l.foldl pathStep s).1 ≤ s.1 ∧ (l.foldl pathStep s).2.length ≤ s.2.length + l.length := by
    intro l
    induction l with
    | nil => exact fun s => ⟨Nat.le_refl _, Nat.le_refl _⟩
    | cons r l ih =>
      intro s
      have h := ih (pathStep s r)
      have h1 : (pathStep s r).1 ≤ s.1 := Nat.div_le_self _ _
      have h2 : (pathStep s r).2.length ≤ s.2.length + 1 := by
        unfold pathStep
        dsimp only
        split
        · rw [List.length_append]; exact Nat.le_refl _
        · omega
      rw [List.foldl_cons, List.length_cons]
      omega
  have h := key l (i, [])
  exact ⟨h.1, by have := h.2; simp only [List.length_nil] at this; unfold pathF; omega⟩
theorem xor_oth (k : Nat) : k ^^^ 1 = oth k := by
  have h1 : (k ^^^ 1) % 2 = 1 ↔ ¬ (k % 2 = 1 ↔ 1 % 2 = 1) := Nat.xor_mod_two_eq_one
  have h2 : (k ^^^ 1) / 2 = k / 2 := by rw [Nat.xor_div_two]; simp
  have h3 : (k ^^^ 1) % 2 = 1 - k % 2 := by
    by_cases h : k % 2 = 1
    · have : ¬ (k ^^^ 1) % 2 = 1 := fun e => (h1.1 e) ⟨fun _ => rfl, fun _ => h⟩
      omega
    · have : (k ^^^ 1) % 2 = 1 := h1.2 (fun e => h (e.2 rfl))
      omega
  clear h1
  unfold oth
  split <;> omega
theorem bits_oth (k : Nat) (h : k < 9223372036854775808) : bits .xor .i64 (k : Int) 1 = (oth k : Int) := by
  show IntKind.i64.wrap ((BitVec.ofInt 64 (k : Int) ^^^ BitVec.ofInt 64 1).toNat : Int) = _
  rw [BitVec.toNat_xor, ofInt_u64 k (by omega), show (BitVec.ofInt 64 1).toNat = 1 from by decide, xor_oth]
  have hb : oth k < 9223372036854775808 := by unfold oth; split <;> omega
  rw [i64_w, IntWalk.wrap64_in _ (by omega)]
theorem rowsF_len : ∀ (k : Nat) (r : List (List Int)), (rowsF k r).length ≤ k
  | 0, _ => Nat.le_refl _
  | k + 1, r => by
    rw [rowsF_succ, List.length_cons]
    split
    · have := rowsF_len k (up r); omega
    · simp
/-- A row of a kind whose blocks are none of type 24 is kept by an iterator of rows. -/
theorem R_grownD {α : Type} {d : Kd α} {e : Nat} (hne : ∀ q, q ∈ e :: d.E → q ≠ 24) {X Y : World} {B : Nat} {ok : Nat → Prop} {v : Value} {xs : List α} {row : Option Nat} (h : d.R e X B ok v xs) (hg : X.grownBy Y row) (hr : ∀ r, row = some r → ∃ o : Obj, X.heap[r]? = some o ∧ RowD 24 o) : d.R e Y B ok v xs :=
  Kd.R_mono (Kd.R_grown (Kd.R_bound h) hg (fun k hk e => by
    obtain ⟨_, _, _, q, hq, cs, hc⟩ := hk
    obtain ⟨o, ho, hd⟩ := hr k e.symm
    rw [hc] at ho
    cases ho
    rcases hd with h | ⟨cs', h⟩
    · cases h
    · cases h; exact hne 24 hq rfl)) (fun _ hk => hk.1)
theorem R_farB {α : Type} {d : Kd α} {e : Nat} {X : World} {B : Nat} {ok : Nat → Prop} {v : Value} {xs : List α} (h : d.R e X B ok v xs) {a : Addr} (ha : a.block < B) (u : Value) : d.R e (X.setCell a u) B ok v xs :=
  Kd.R_mono (Kd.R_far (Kd.R_bound h) (fun k hk e => by have := hk.2.1; omega) u) (fun _ hk => hk.1)
theorem info62 : (Tryd.prog.info? 62).map (fun i => (i.zero, i.size, i.bytes)) = some (some (.agg #[.bool false, .slice none 0 0]), 2, 32) := by kernel_rfl
/-- append(out, side). -/
theorem side_push {w1 : World} (B : Nat) (v : Value) (xs : List Sd) (hR : sideK.R 62 w1 B (fun _ => True) v xs) (b : Bool) (u : Value) (p : List Int) {ok' : Nat → Prop} (hu : (Kd.int .u8).R 5 w1 B ok' u p) (hB : B ≤ w1.heap.size) (hl : xs.length ≤ 200000) :
    ∃ v5 w5, (Builtin.append_ #[35, 35] 35 #[v, .slice (some ⟨w1.heap.size, 0, none⟩) 1 1]).run Tryd.prog (w1.alloc (.cells #[.bool b, u] 62)) = .ok v5 w5 ∧ sideK.R 62 w5 B (fun _ => True) v5 (xs ++ [(b, p)]) ∧ w1.grownBy w5 v.ownBlock ∧ (v5.ownBlock = v.ownBlock ∨ ∃ b, v5.ownBlock = some b ∧ w1.heap.size ≤ b) := by
  have hu2 : (Kd.int .u8).R 5 w1 B (fun k => some k ≠ v.ownBlock) u p := Kd.R_mono (Kd.R_bound hu) fun k hk he => by
    obtain ⟨_, _, _, q, hq, cs, hc⟩ := hk
    obtain ⟨inner, ho⟩ := Kd.R_own hR
    obtain ⟨cs', hc'⟩ := own_typed ho k he.symm
    rw [hc] at hc'
    have hq5 : q = 5 := by
      rcases List.mem_cons.1 hq with e | e
      · exact e
      · cases e
    subst hq5
    cases hc'
  exact R_append_run (P := Tryd.prog) sideK (W := w1) B 35 35 62 (.agg #[.bool false, .slice none 0 0]) 32 Tryd.underlying35 info62 rfl (by decide) (by decide) v xs (b, p) [.bool b, u] (fun _ => True) _ ⟨[_], [_], rfl, rfl, u, rfl, hu2⟩ (fun k hk => ⟨trivial, hk⟩) (fun _ _ => trivial) hR hB (by omega)
theorem side_own {w : World} {B : Nat} {ok : Nat → Prop} {v : Value} {xs : List Sd} (h : sideK.R 62 w B ok v xs) : ∀ r, v.ownBlock = some r → B ≤ r ∧ ∃ cs, w.heap[r]? = some (.cells cs 62 (0, 0)) := fun r hr => by
  obtain ⟨inner, ho⟩ := Kd.R_own h
  exact ⟨own_base ho r hr, own_typed ho r hr⟩
theorem RK.grown {base S : Nat} {X Y : World} {row : Option Nat} (hB : base ≤ X.heap.size) (hg : X.grownBy Y row) (hr : ∀ r, row = some r → base ≤ r ∧ ∃ cs, X.heap[r]? = some (.cells cs 62 (0, 0))) : RK base S X Y :=
  ⟨(Below.refl base X).grown hg hB (fun k e => (hr k e).1), fun k cs t hk ht hc => by
    rw [hg.block k (Array.getElem?_eq_some_iff.1 hc).1 (fun e => by
      obtain ⟨_, cs', hc'⟩ := hr k e.symm
      rw [hc] at hc'
      rcases ht with rfl | rfl
      · cases hc'
      · cases hc')]
    exact hc⟩
set_option maxHeartbeats 6400000 in
set_option maxRecDepth 100000 in
theorem path_calls (A : Option Addr) (N c : Nat) (ts : List (List Int)) (i : Nat) (hi : i < N) (hN : ts.length = N) (hb : ∀ t ∈ ts, Bt t ∧ t.length ≤ 900000) (hN1 : N ≤ 100000) (W : World) (hC : rowK.C W A N ts) (hK : Tab W 2 KK) :
    Calls Tryd.prog 25 #[.slice A N c, .int .i64 (i : Int)] W (fun e w' => ∃ v, e = .returned (.tuple #[v, .int .i64 0]) ∧ sideK.R 62 w' W.heap.size (fun _ => True) v (pathOf ts i) ∧ Below W.heap.size W w') := by
  have HN := Aside0.mk hN
  have HBT := Aside0.mk hb
  have HN1 := Aside0.mk hN1
  have HC := Aside0.mk hC
  have HK := Aside0.mk hK
  have HI := Aside0.mk hi
  have hi0 : ¬ (i : Int) < 0 := by omega
  have hi1 : ¬ (N : Int) ≤ (i : Int) := by omega
  clear hN hb hN1 hC hK hi
  refine (callsIn_wide (n := 9)).1 ?_
  refine callsIn_of_wp_marks Tryd.func25 rfl trivial ?_ rfl
  simp only [Tryd.ntmps25, List.size_toArray, List.length_cons, List.length_nil, Nat.reduceAdd, Nat.reduceSub, Array.replicate_succ, Array.replicate_zero, List.push_toArray, List.append_toArray, List.nil_append, List.cons_append]
  gi_wp2_with (first
    | (refine ⟨trivial, ?_⟩; gi_at_call 60; (with_reducible refine (callsIn_wide.2 (rows_calls _ _ _ _)).mono ?_); rintro e w2 ⟨rfl, hw2⟩; have HW2 := Aside0.mk hw2; clear hw2)
    | fail)
  have HB2 : Aside0 (Below W.heap.size W w2) := ⟨by rw [← HW2.out]; exact below_alloc (below_alloc (below_alloc (Below.refl _ _) _) _) _⟩
  have q3 : w2.cell? ⟨W.heap.size, 0, none⟩ = some (.int .i64 (i : Int)) := by rw [← HW2.out]; go_simp
  have q6 : w2.cell? ⟨W.heap.size + 1, 0, none⟩ = some (.slice none 0 0) := by rw [← HW2.out]; go_simp
  have q7 : w2.cell? ⟨W.heap.size + 1 + 1, 0, none⟩ = some (.slice A N c) := by rw [← HW2.out]; go_simp
  have f3 : w2.frozen? ⟨W.heap.size, 0, none⟩ = false := by rw [← HW2.out]; go_simp
  have f6 : w2.frozen? ⟨W.heap.size + 1, 0, none⟩ = false := by rw [← HW2.out]; go_simp
  have hs2 : W.heap.size + 3 ≤ w2.heap.size := by rw [← HW2.out]; simp
  have HS2 := Aside0.mk hs2
  clear HW2 hs2
  refine range_rows (by omega) W (W.heap.size + 1 + 1) N c A ts HN.out HBT.out HN1.out HC.out HK.out HB2.out q7 rfl rfl
    (fun pre X => ∃ v, X.cell? ⟨W.heap.size, 0, none⟩ = some (.int .i64 (((pathF i (pre.map rkey)).1 : Nat) : Int)) ∧ X.cell? ⟨W.heap.size + 1, 0, none⟩ = some v ∧ X.frozen? ⟨W.heap.size, 0, none⟩ = false ∧ X.frozen? ⟨W.heap.size + 1, 0, none⟩ = false ∧ sideK.R 62 X w2.heap.size (fun _ => True) v (pathF i (pre.map rkey)).2 ∧ Below W.heap.size W X ∧ w2.heap.size ≤ X.heap.size)
    (fun _ _ _ => False) ?hI (fun _ _ _ _ _ h => h.elim) ⟨_, q3, q6, f3, f6, Kd.R_nil _ _ _ _ _, HB2.out, Nat.le_refl _⟩ ?round ?done (fun _ _ _ _ _ h => h.elim)
  case hI =>
    rintro s X Y row ⟨v, h1, h2, h3, h4, h5, h6, h7⟩ hg hr
    have hb : ∀ k, k < w2.heap.size → k < X.heap.size → Y.heap[k]? = X.heap[k]? := fun k hk hx => hg.block _ hx (fun e => by have := (hr _ e.symm).1; omega)
    have hs := HS2.out
    have hb1 := hb (W.heap.size) (by omega) (World.block_lt_of_cell? _ _ h1)
    have hb2 := hb (W.heap.size + 1) (by omega) (World.block_lt_of_cell? _ _ h2)
    exact ⟨v, by unfold World.cell? at h1 ⊢; rw [hb1]; exact h1, by unfold World.cell? at h2 ⊢; rw [hb2]; exact h2, (World.frozen?_of_block (w := X) (a := ⟨W.heap.size, 0, none⟩) hb1).trans h3, (World.frozen?_of_block (w := X) (a := ⟨W.heap.size + 1, 0, none⟩) hb2).trans h4, R_grownD (by decide) h5 hg (fun r e => (hr r e).2), h6.grown hg h6.size (fun k e => by have := (hr k e).1; omega), Nat.le_trans h7 hg.size⟩
  case round =>
    rintro l pre ⟨Ax, xs, cx⟩
    clear q3 q6 q7 f3 f6
    apply Exists.intro
    constructor
    · intro X K hK
      dsimp only [rencs]
      gi_wp2
      exact hK
    · rintro X ⟨v, h1, h2, h3, h4, h5, h6, h7⟩ ⟨⟨rest, hz⟩, hr, hs⟩
      have HPL : Aside0 ((pre.map rkey).length ≤ 100001) := ⟨by
        have h := congrArg List.length hz
        have h2 := rowsF_len (ts.length + 1) (leavesOf ts)
        have h3 : (rowsOf ts).length ≤ ts.length + 1 := h2
        rw [h, List.length_append, HN.out] at h3
        have := HN1.out
        omega⟩
      clear hz
      dsimp only at hr hs
      have H5 := Aside0.mk h5
      have H6 := Aside0.mk h6
      have H7 := Aside0.mk h7
      obtain ⟨m, hm⟩ : ∃ m, xs.length = m := ⟨_, rfl⟩
      have HM := Aside0.mk hm
      rw [hm] at hr ⊢
      have HR := Aside0.mk hr
      have hle := (pathF_le i (pre.map rkey)).1
      obtain ⟨⟨k, os⟩, hp⟩ : ∃ p, pathF i (pre.map rkey) = p := ⟨_, rfl⟩
      rw [hp] at h1 hle H5
      dsimp only at h1 hle H5
      have HP := Aside0.mk hp
      have hx := bits_oth k (by have := HI.out; have := HN1.out; omega)
      have hw : wrap64 ((k : Int) / 2) = ((k / 2 : Nat) : Int) := by rw [IntWalk.wrap64_in _ (by have := HI.out; have := HN1.out; omega)]; omega
      have HST := pathF_snoc i (pre.map rkey) xs
      rw [hp] at HST
      have HST := Aside0.mk HST
      obtain ⟨q, hq⟩ : ∃ q, oth k = q := ⟨_, rfl⟩
      rw [hq] at hx
      have HQ := Aside0.mk hq
      have hs' := HS2.out
      clear h5 h6 h7 hr hm hp hq
      by_cases hA : q < m ∧ 1 < m
      · obtain ⟨hA1, hA2⟩ := hA
        have HST2 : Aside0 (pathF i (pre.map rkey ++ [xs]) = (k / 2, os ++ [(decide (k < q), xs.getD q [])])) := ⟨by
          rw [HST.out]; unfold pathStep; dsimp only; rw [HQ.out, if_pos ⟨by rw [HM.out]; exact hA1, by rw [HM.out]; exact hA2⟩]⟩
        have hd1 : (q : Int) < (m : Int) := by omega
        have hd2 : (1 : Int) < (m : Int) := by omega
        obtain ⟨ad, B1, d1, rfl, hc1, he⟩ := row_elem HR.out q hA1
        obtain ⟨x, hx2⟩ : ∃ x, xs.getD q [] = x := ⟨_, rfl⟩
        rw [hx2] at hc1 he HST2
        obtain ⟨x3, hx3⟩ : ∃ n, x.length = n := ⟨_, rfl⟩
        rw [hx3] at hc1 he
        have hdb : decide ((k : Int) < (q : Int)) = decide (k < q) := by rw [decide_eq_decide]; omega
        obtain ⟨v5, w5, hrun, hR5, hg5, hat5⟩ := side_push w2.heap.size v os (Kd.R_drew H5.out) (decide (k < q)) _ x (Kd.R_drew he) H7.out (by
          have h1 := (pathF_le i (pre.map rkey)).2
          rw [HP.out] at h1
          dsimp only at h1
          have := HPL.out
          omega)
        obtain ⟨A5, c5, e5⟩ := Kd.R_slice hR5
        rw [List.length_append, List.length_singleton] at e5
        subst e5
        have hg5' : X.drew.grownBy w5 v.ownBlock := hg5
        have hnb : ∀ k, k < w2.heap.size → k < X.heap.size → w5.heap[k]? = X.heap[k]? := fun k hk hx => hg5.block k hx (fun e => by have := (side_own H5.out _ e.symm).1; omega)
        have hb1 := hnb (W.heap.size) (by omega) (World.block_lt_of_cell? _ _ h1)
        have hb2 := hnb (W.heap.size + 1) (by omega) (World.block_lt_of_cell? _ _ h2)
        have c3w : w5.cell? ⟨W.heap.size, 0, none⟩ = some (.int .i64 (k : Int)) := by unfold World.cell? at h1 ⊢; rw [hb1]; exact h1
        have c6w : w5.cell? ⟨W.heap.size + 1, 0, none⟩ = some v := by unfold World.cell? at h2 ⊢; rw [hb2]; exact h2
        have f3w : w5.frozen? ⟨W.heap.size, 0, none⟩ = false := (World.frozen?_of_block (w := X) (a := ⟨W.heap.size, 0, none⟩) hb1).trans h3
        have f6w : w5.frozen? ⟨W.heap.size + 1, 0, none⟩ = false := (World.frozen?_of_block (w := X) (a := ⟨W.heap.size + 1, 0, none⟩) hb2).trans h4
        have c6a : (X.alloc (.cells #[.bool (decide (k < q)), .slice B1 x3 d1] 62)).cell? ⟨W.heap.size + 1, 0, none⟩ = some v := pw_cell_below (below_alloc (Below.refl _ _) _) h2
        have hso := side_own H5.out
        have hdiv : (((k / 2 : Nat) : Nat) : Int) = (k : Int) / 2 := by omega
        have hgX : X.grownBy w5 v.ownBlock := World.grownBy.trans (grown_of_below (below_drew (Below.refl _ _)) _) hg5
        have HEND : Aside0 (KeepsFrom w2.heap.size X ((w5.setCell ⟨W.heap.size + 1, 0, none⟩ (.slice A5 (os.length + 1) c5)).setCell ⟨W.heap.size, 0, none⟩ (.int .i64 ((k : Int) / 2))) ∧ RK W.heap.size w2.heap.size X ((w5.setCell ⟨W.heap.size + 1, 0, none⟩ (.slice A5 (os.length + 1) c5)).setCell ⟨W.heap.size, 0, none⟩ (.int .i64 ((k : Int) / 2))) ∧
            ∃ v, ((w5.setCell ⟨W.heap.size + 1, 0, none⟩ (.slice A5 (os.length + 1) c5)).setCell ⟨W.heap.size, 0, none⟩ (.int .i64 ((k : Int) / 2))).cell? ⟨W.heap.size, 0, none⟩ = some (.int .i64 (((pathF i ((pre ++ [(some ad, xs, cx)]).map rkey)).1 : Nat) : Int)) ∧ ((w5.setCell ⟨W.heap.size + 1, 0, none⟩ (.slice A5 (os.length + 1) c5)).setCell ⟨W.heap.size, 0, none⟩ (.int .i64 ((k : Int) / 2))).cell? ⟨W.heap.size + 1, 0, none⟩ = some v ∧ ((w5.setCell ⟨W.heap.size + 1, 0, none⟩ (.slice A5 (os.length + 1) c5)).setCell ⟨W.heap.size, 0, none⟩ (.int .i64 ((k : Int) / 2))).frozen? ⟨W.heap.size, 0, none⟩ = false ∧ ((w5.setCell ⟨W.heap.size + 1, 0, none⟩ (.slice A5 (os.length + 1) c5)).setCell ⟨W.heap.size, 0, none⟩ (.int .i64 ((k : Int) / 2))).frozen? ⟨W.heap.size + 1, 0, none⟩ = false ∧ sideK.R 62 ((w5.setCell ⟨W.heap.size + 1, 0, none⟩ (.slice A5 (os.length + 1) c5)).setCell ⟨W.heap.size, 0, none⟩ (.int .i64 ((k : Int) / 2))) w2.heap.size (fun _ => True) v (pathF i ((pre ++ [(some ad, xs, cx)]).map rkey)).2 ∧ Below W.heap.size W ((w5.setCell ⟨W.heap.size + 1, 0, none⟩ (.slice A5 (os.length + 1) c5)).setCell ⟨W.heap.size, 0, none⟩ (.int .i64 ((k : Int) / 2))) ∧ w2.heap.size ≤ ((w5.setCell ⟨W.heap.size + 1, 0, none⟩ (.slice A5 (os.length + 1) c5)).setCell ⟨W.heap.size, 0, none⟩ (.int .i64 ((k : Int) / 2))).heap.size) := ⟨by
          have hpm : (pre ++ [(some ad, xs, cx)]).map rkey = pre.map rkey ++ [xs] := by rw [List.map_append]; rfl
          rw [hpm, HST2.out]
          refine ⟨((keeps_own H5.out hgX).trans ((KeepsOthers.setCell _ _ _).trans (KeepsOthers.setCell _ _ _))).from _, ((RK.grown H6.out.size hgX (fun r e => ⟨by have := (hso r e).1; omega, (hso r e).2⟩)).trans (RK.setCell (a := ⟨W.heap.size + 1, 0, none⟩) (Nat.le_succ _) (by show W.heap.size + 1 < w2.heap.size; omega) _)).trans (RK.setCell (a := ⟨W.heap.size, 0, none⟩) (Nat.le_refl _) (by show W.heap.size < w2.heap.size; omega) _), .slice A5 (os.length + 1) c5, ?_, ?_, ?_, ?_, ?_, ?_, ?_⟩
          · dsimp only; rw [hdiv]; exact set_same (set_far c3w (by simp))
          · exact set_far (set_same c6w) (by simp)
          · rw [World.frozen?_setCell, World.frozen?_setCell]; exact f3w
          · rw [World.frozen?_setCell, World.frozen?_setCell]; exact f6w
          · exact R_farB (R_farB hR5 (a := ⟨W.heap.size + 1, 0, none⟩) (by show W.heap.size + 1 < w2.heap.size; omega) _) (a := ⟨W.heap.size, 0, none⟩) (by show W.heap.size < w2.heap.size; omega) _
          · exact ((H6.out.grown hgX H6.out.size (fun r e => by have := (hso r e).1; omega)).setCell (p := ⟨W.heap.size + 1, 0, none⟩) (Nat.le_succ _) _).setCell (p := ⟨W.heap.size, 0, none⟩) (Nat.le_refl _) _
          · have h9 := hgX.size
            have h10 := H7.out
            simp only [World.size_setCell]
            omega⟩
        clear he hA1 hA2 hs hb1 hb2 hnb hx2 hx3 hso hdiv hgX
        gi_wp2
        refine wpIn_region_any (by kernel_rfl) ?_
        (try change wpAnyIn _ _ _ _ _ _ _ _ _ (World.drew _))
        -- BEGIN region
        refine Rtk.take (i := 1) (v := ?_) (Rtk.noDefer_of (by kernel_rfl)) rfl (by kernel_rfl) (by kernel_rfl) (by kernel_rfl) (fun _ _ _ h => h) ⟨Or.inl ⟨by rfl, ?_⟩, fun _ => rfl⟩ ?_
        rotate_left
        · first | (intro w; go_simp; done) | (intro w; go_simp; with_reducible rfl)
        refine Rtk.take (i := 4) (v := ?_) (Rtk.noDefer_of (by kernel_rfl)) rfl (by kernel_rfl) (by kernel_rfl) (by kernel_rfl) (fun _ _ _ h => h) ⟨Or.inl ⟨by rfl, ?_⟩, fun _ => rfl⟩ ?_
        rotate_left
        · first | (intro w; go_simp; done) | (intro w; go_simp; with_reducible rfl)
        refine Rtk.take (i := 5) (v := ?_) (Rtk.noDefer_of (by kernel_rfl)) rfl (by kernel_rfl) (by kernel_rfl) (by kernel_rfl) (fun _ _ _ h => h) ⟨Or.inl ⟨by rfl, ?_⟩, fun _ => rfl⟩ ?_
        rotate_left
        · first | (intro w; go_simp; done) | (intro w; go_simp; with_reducible rfl)
        refine Rtk.take (i := 6) (v := ?_) (Rtk.noDefer_of (by kernel_rfl)) rfl (by kernel_rfl) (by kernel_rfl) (by kernel_rfl) (fun _ _ _ h => h) ⟨Or.inl ⟨by rfl, ?_⟩, fun _ => rfl⟩ ?_
        rotate_left
        · first | (intro w; go_simp; done) | (intro w; go_simp; with_reducible rfl)
        refine wpAnyIn_ready (rs := [0, 2, 7]) (by decide +kernel) (by simp) ?_
        refine AllReadyIn.cons rfl (fun K hK => ?_) ?_
        · go_simp
          refine hK _ _ ?_
          clear hK K
          refine wpAnyIn_ready (rs := [2, 7]) (by decide +kernel) (by simp) ?_
          refine AllReadyIn.cons rfl (fun K hK => ?_) ?_
          · go_simp
            refine hK _ _ ?_
            clear hK K
            refine Rtk.take (i := 3) (v := ?_) (Rtk.noDefer_of (by kernel_rfl)) rfl (by kernel_rfl) (by kernel_rfl) (by kernel_rfl) (fun _ _ _ h => h) ⟨Or.inl ⟨by rfl, ?_⟩, fun _ => rfl⟩ ?_
            rotate_left
            · first | (intro w; go_simp; done) | (intro w; go_simp; with_reducible rfl)
            refine wpAnyIn_ready (rs := [7]) (by decide +kernel) (by simp) ?_
            refine AllReadyIn.cons rfl (fun K hK => ?_) AllReadyIn.nil
            go_simp
            refine hK _ _ ?_
            clear hK K
            refine Rtk.take (i := 8) (v := ?_) (Rtk.noDefer_of (by kernel_rfl)) rfl (by kernel_rfl) (by kernel_rfl) (by kernel_rfl) (fun _ _ _ h => h) ⟨Or.inl ⟨by rfl, ?_⟩, fun _ => rfl⟩ ?_
            rotate_left
            · first | (intro w; go_simp; done) | (intro w; go_simp; with_reducible rfl)
            refine wpAnyIn_ready (rs := [9]) (by decide +kernel) (by simp) ?_
            refine AllReadyIn.cons rfl (fun K hK => ?_) AllReadyIn.nil
            go_simp
            refine hK _ _ ?_
            clear hK K
            refine wpAnyIn_ready (rs := [10]) (by decide +kernel) (by simp) ?_
            refine AllReadyIn.cons rfl (fun K hK => ?_) AllReadyIn.nil
            refine step_run_in (.tmp 31) (.tmp 40) 35 rfl rfl hrun ?_
            refine hK _ _ ?_
            clear hK K
            refine wpAnyIn_ready (rs := [11]) (by decide +kernel) (by simp) ?_
            refine AllReadyIn.cons rfl (fun K hK => ?_) AllReadyIn.nil
            go_simp
            refine hK _ _ ?_
            clear hK K
            refine wpAnyIn_done (by decide +kernel) ?_ _
            gi_wp2_with fail
            exact HEND.out
          refine AllReadyIn.cons rfl (fun K hK => ?_) ?_
          · go_simp
            refine hK _ _ ?_
            clear hK K
            refine wpAnyIn_ready (rs := [2]) (by decide +kernel) (by simp) ?_
            refine AllReadyIn.cons rfl (fun K hK => ?_) AllReadyIn.nil
            go_simp
            refine hK _ _ ?_
            clear hK K
            refine Rtk.take (i := 3) (v := ?_) (Rtk.noDefer_of (by kernel_rfl)) rfl (by kernel_rfl) (by kernel_rfl) (by kernel_rfl) (fun _ _ _ h => h) ⟨Or.inl ⟨by rfl, ?_⟩, fun _ => rfl⟩ ?_
            rotate_left
            · first | (intro w; go_simp; done) | (intro w; go_simp; with_reducible rfl)
            refine Rtk.take (i := 8) (v := ?_) (Rtk.noDefer_of (by kernel_rfl)) rfl (by kernel_rfl) (by kernel_rfl) (by kernel_rfl) (fun _ _ _ h => h) ⟨Or.inl ⟨by rfl, ?_⟩, fun _ => rfl⟩ ?_
            rotate_left
            · first | (intro w; go_simp; done) | (intro w; go_simp; with_reducible rfl)
            refine wpAnyIn_ready (rs := [9]) (by decide +kernel) (by simp) ?_
            refine AllReadyIn.cons rfl (fun K hK => ?_) AllReadyIn.nil
            go_simp
            refine hK _ _ ?_
            clear hK K
            refine wpAnyIn_ready (rs := [10]) (by decide +kernel) (by simp) ?_
            refine AllReadyIn.cons rfl (fun K hK => ?_) AllReadyIn.nil
            refine step_run_in (.tmp 31) (.tmp 40) 35 rfl rfl hrun ?_
            refine hK _ _ ?_
            clear hK K
            refine wpAnyIn_ready (rs := [11]) (by decide +kernel) (by simp) ?_
            refine AllReadyIn.cons rfl (fun K hK => ?_) AllReadyIn.nil
            go_simp
            refine hK _ _ ?_
            clear hK K
            refine wpAnyIn_done (by decide +kernel) ?_ _
            gi_wp2_with fail
            exact HEND.out
          exact AllReadyIn.nil
        refine AllReadyIn.cons rfl (fun K hK => ?_) ?_
        · go_simp
          refine hK _ _ ?_
          clear hK K
          refine Rtk.take (i := 3) (v := ?_) (Rtk.noDefer_of (by kernel_rfl)) rfl (by kernel_rfl) (by kernel_rfl) (by kernel_rfl) (fun _ _ _ h => h) ⟨Or.inl ⟨by rfl, ?_⟩, fun _ => rfl⟩ ?_
          rotate_left
          · first | (intro w; go_simp; done) | (intro w; go_simp; with_reducible rfl)
          refine wpAnyIn_ready (rs := [0, 7]) (by decide +kernel) (by simp) ?_
          refine AllReadyIn.cons rfl (fun K hK => ?_) ?_
          · go_simp
            refine hK _ _ ?_
            clear hK K
            refine wpAnyIn_ready (rs := [7]) (by decide +kernel) (by simp) ?_
            refine AllReadyIn.cons rfl (fun K hK => ?_) AllReadyIn.nil
            go_simp
            refine hK _ _ ?_
            clear hK K
            refine Rtk.take (i := 8) (v := ?_) (Rtk.noDefer_of (by kernel_rfl)) rfl (by kernel_rfl) (by kernel_rfl) (by kernel_rfl) (fun _ _ _ h => h) ⟨Or.inl ⟨by rfl, ?_⟩, fun _ => rfl⟩ ?_
            rotate_left
            · first | (intro w; go_simp; done) | (intro w; go_simp; with_reducible rfl)
            refine wpAnyIn_ready (rs := [9]) (by decide +kernel) (by simp) ?_
            refine AllReadyIn.cons rfl (fun K hK => ?_) AllReadyIn.nil
            go_simp
            refine hK _ _ ?_
            clear hK K
            refine wpAnyIn_ready (rs := [10]) (by decide +kernel) (by simp) ?_
            refine AllReadyIn.cons rfl (fun K hK => ?_) AllReadyIn.nil
            refine step_run_in (.tmp 31) (.tmp 40) 35 rfl rfl hrun ?_
            refine hK _ _ ?_
            clear hK K
            refine wpAnyIn_ready (rs := [11]) (by decide +kernel) (by simp) ?_
            refine AllReadyIn.cons rfl (fun K hK => ?_) AllReadyIn.nil
            go_simp
            refine hK _ _ ?_
            clear hK K
            refine wpAnyIn_done (by decide +kernel) ?_ _
            gi_wp2_with fail
            exact HEND.out
          refine AllReadyIn.cons rfl (fun K hK => ?_) ?_
          · go_simp
            refine hK _ _ ?_
            clear hK K
            refine Rtk.take (i := 8) (v := ?_) (Rtk.noDefer_of (by kernel_rfl)) rfl (by kernel_rfl) (by kernel_rfl) (by kernel_rfl) (fun _ _ _ h => h) ⟨Or.inl ⟨by rfl, ?_⟩, fun _ => rfl⟩ ?_
            rotate_left
            · first | (intro w; go_simp; done) | (intro w; go_simp; with_reducible rfl)
            refine wpAnyIn_ready (rs := [0, 9]) (by decide +kernel) (by simp) ?_
            refine AllReadyIn.cons rfl (fun K hK => ?_) ?_
            · go_simp
              refine hK _ _ ?_
              clear hK K
              refine wpAnyIn_ready (rs := [9]) (by decide +kernel) (by simp) ?_
              refine AllReadyIn.cons rfl (fun K hK => ?_) AllReadyIn.nil
              go_simp
              refine hK _ _ ?_
              clear hK K
              refine wpAnyIn_ready (rs := [10]) (by decide +kernel) (by simp) ?_
              refine AllReadyIn.cons rfl (fun K hK => ?_) AllReadyIn.nil
              refine step_run_in (.tmp 31) (.tmp 40) 35 rfl rfl hrun ?_
              refine hK _ _ ?_
              clear hK K
              refine wpAnyIn_ready (rs := [11]) (by decide +kernel) (by simp) ?_
              refine AllReadyIn.cons rfl (fun K hK => ?_) AllReadyIn.nil
              go_simp
              refine hK _ _ ?_
              clear hK K
              refine wpAnyIn_done (by decide +kernel) ?_ _
              gi_wp2_with fail
              exact HEND.out
            refine AllReadyIn.cons rfl (fun K hK => ?_) ?_
            · go_simp
              refine hK _ _ ?_
              clear hK K
              refine wpAnyIn_ready (rs := [0]) (by decide +kernel) (by simp) ?_
              refine AllReadyIn.cons rfl (fun K hK => ?_) AllReadyIn.nil
              go_simp
              refine hK _ _ ?_
              clear hK K
              refine wpAnyIn_ready (rs := [10]) (by decide +kernel) (by simp) ?_
              refine AllReadyIn.cons rfl (fun K hK => ?_) AllReadyIn.nil
              refine step_run_in (.tmp 31) (.tmp 40) 35 rfl rfl hrun ?_
              refine hK _ _ ?_
              clear hK K
              refine wpAnyIn_ready (rs := [11]) (by decide +kernel) (by simp) ?_
              refine AllReadyIn.cons rfl (fun K hK => ?_) AllReadyIn.nil
              go_simp
              refine hK _ _ ?_
              clear hK K
              refine wpAnyIn_done (by decide +kernel) ?_ _
              gi_wp2_with fail
              exact HEND.out
            exact AllReadyIn.nil
          exact AllReadyIn.nil
        refine AllReadyIn.cons rfl (fun K hK => ?_) ?_
        · go_simp
          refine hK _ _ ?_
          clear hK K
          refine wpAnyIn_ready (rs := [0, 2]) (by decide +kernel) (by simp) ?_
          refine AllReadyIn.cons rfl (fun K hK => ?_) ?_
          · go_simp
            refine hK _ _ ?_
            clear hK K
            refine wpAnyIn_ready (rs := [2]) (by decide +kernel) (by simp) ?_
            refine AllReadyIn.cons rfl (fun K hK => ?_) AllReadyIn.nil
            go_simp
            refine hK _ _ ?_
            clear hK K
            refine Rtk.take (i := 3) (v := ?_) (Rtk.noDefer_of (by kernel_rfl)) rfl (by kernel_rfl) (by kernel_rfl) (by kernel_rfl) (fun _ _ _ h => h) ⟨Or.inl ⟨by rfl, ?_⟩, fun _ => rfl⟩ ?_
            rotate_left
            · first | (intro w; go_simp; done) | (intro w; go_simp; with_reducible rfl)
            refine Rtk.take (i := 8) (v := ?_) (Rtk.noDefer_of (by kernel_rfl)) rfl (by kernel_rfl) (by kernel_rfl) (by kernel_rfl) (fun _ _ _ h => h) ⟨Or.inl ⟨by rfl, ?_⟩, fun _ => rfl⟩ ?_
            rotate_left
            · first | (intro w; go_simp; done) | (intro w; go_simp; with_reducible rfl)
            refine wpAnyIn_ready (rs := [9]) (by decide +kernel) (by simp) ?_
            refine AllReadyIn.cons rfl (fun K hK => ?_) AllReadyIn.nil
            go_simp
            refine hK _ _ ?_
            clear hK K
            refine wpAnyIn_ready (rs := [10]) (by decide +kernel) (by simp) ?_
            refine AllReadyIn.cons rfl (fun K hK => ?_) AllReadyIn.nil
            refine step_run_in (.tmp 31) (.tmp 40) 35 rfl rfl hrun ?_
            refine hK _ _ ?_
            clear hK K
            refine wpAnyIn_ready (rs := [11]) (by decide +kernel) (by simp) ?_
            refine AllReadyIn.cons rfl (fun K hK => ?_) AllReadyIn.nil
            go_simp
            refine hK _ _ ?_
            clear hK K
            refine wpAnyIn_done (by decide +kernel) ?_ _
            gi_wp2_with fail
            exact HEND.out
          refine AllReadyIn.cons rfl (fun K hK => ?_) ?_
          · go_simp
            refine hK _ _ ?_
            clear hK K
            refine Rtk.take (i := 3) (v := ?_) (Rtk.noDefer_of (by kernel_rfl)) rfl (by kernel_rfl) (by kernel_rfl) (by kernel_rfl) (fun _ _ _ h => h) ⟨Or.inl ⟨by rfl, ?_⟩, fun _ => rfl⟩ ?_
            rotate_left
            · first | (intro w; go_simp; done) | (intro w; go_simp; with_reducible rfl)
            refine Rtk.take (i := 8) (v := ?_) (Rtk.noDefer_of (by kernel_rfl)) rfl (by kernel_rfl) (by kernel_rfl) (by kernel_rfl) (fun _ _ _ h => h) ⟨Or.inl ⟨by rfl, ?_⟩, fun _ => rfl⟩ ?_
            rotate_left
            · first | (intro w; go_simp; done) | (intro w; go_simp; with_reducible rfl)
            refine wpAnyIn_ready (rs := [0, 9]) (by decide +kernel) (by simp) ?_
            refine AllReadyIn.cons rfl (fun K hK => ?_) ?_
            · go_simp
              refine hK _ _ ?_
              clear hK K
              refine wpAnyIn_ready (rs := [9]) (by decide +kernel) (by simp) ?_
              refine AllReadyIn.cons rfl (fun K hK => ?_) AllReadyIn.nil
              go_simp
              refine hK _ _ ?_
              clear hK K
              refine wpAnyIn_ready (rs := [10]) (by decide +kernel) (by simp) ?_
              refine AllReadyIn.cons rfl (fun K hK => ?_) AllReadyIn.nil
              refine step_run_in (.tmp 31) (.tmp 40) 35 rfl rfl hrun ?_
              refine hK _ _ ?_
              clear hK K
              refine wpAnyIn_ready (rs := [11]) (by decide +kernel) (by simp) ?_
              refine AllReadyIn.cons rfl (fun K hK => ?_) AllReadyIn.nil
              go_simp
              refine hK _ _ ?_
              clear hK K
              refine wpAnyIn_done (by decide +kernel) ?_ _
              gi_wp2_with fail
              exact HEND.out
            refine AllReadyIn.cons rfl (fun K hK => ?_) ?_
            · go_simp
              refine hK _ _ ?_
              clear hK K
              refine wpAnyIn_ready (rs := [0]) (by decide +kernel) (by simp) ?_
              refine AllReadyIn.cons rfl (fun K hK => ?_) AllReadyIn.nil
              go_simp
              refine hK _ _ ?_
              clear hK K
              refine wpAnyIn_ready (rs := [10]) (by decide +kernel) (by simp) ?_
              refine AllReadyIn.cons rfl (fun K hK => ?_) AllReadyIn.nil
              refine step_run_in (.tmp 31) (.tmp 40) 35 rfl rfl hrun ?_
              refine hK _ _ ?_
              clear hK K
              refine wpAnyIn_ready (rs := [11]) (by decide +kernel) (by simp) ?_
              refine AllReadyIn.cons rfl (fun K hK => ?_) AllReadyIn.nil
              go_simp
              refine hK _ _ ?_
              clear hK K
              refine wpAnyIn_done (by decide +kernel) ?_ _
              gi_wp2_with fail
              exact HEND.out
            exact AllReadyIn.nil
          exact AllReadyIn.nil
        exact AllReadyIn.nil
        -- END region
      · have HST2 : Aside0 (pathF i (pre.map rkey ++ [xs]) = (k / 2, os)) := ⟨by
          rw [HST.out]; unfold pathStep; dsimp only; rw [HQ.out, if_neg (by rw [HM.out]; exact hA)]⟩
        have hpm : (pre ++ [(Ax, xs, cx)]).map rkey = pre.map rkey ++ [xs] := by rw [List.map_append]; rfl
        have hdiv : (((k / 2 : Nat) : Nat) : Int) = (k : Int) / 2 := by omega
        by_cases hA1 : q < m
        · have hd1 : (q : Int) < (m : Int) := by omega
          have hd2 : ¬ (1 : Int) < (m : Int) := by omega
          clear hA
          gi_wp2
          refine ⟨(KeepsOthers.setCell _ _ _).from _, RK.setCell (a := ⟨W.heap.size, 0, none⟩) (Nat.le_refl _) (by show W.heap.size < w2.heap.size; omega) _, ?_, v, set_far h2 (by simp), by rw [World.frozen?_setCell]; exact h3, by rw [World.frozen?_setCell]; exact h4, ?_, H6.out.setCell (p := ⟨W.heap.size, 0, none⟩) (Nat.le_refl _) _, by simp only [World.size_setCell]; exact H7.out⟩
          · rw [hpm, HST2.out]; dsimp only; rw [hdiv]; exact set_same h1
          · rw [hpm, HST2.out]; exact R_farB H5.out (a := ⟨W.heap.size, 0, none⟩) (by show W.heap.size < w2.heap.size; omega) _
        · have hd1 : ¬ (q : Int) < (m : Int) := by omega
          clear hA
          gi_wp2
          refine ⟨(KeepsOthers.setCell _ _ _).from _, RK.setCell (a := ⟨W.heap.size, 0, none⟩) (Nat.le_refl _) (by show W.heap.size < w2.heap.size; omega) _, ?_, v, set_far h2 (by simp), by rw [World.frozen?_setCell]; exact h3, by rw [World.frozen?_setCell]; exact h4, ?_, H6.out.setCell (p := ⟨W.heap.size, 0, none⟩) (Nat.le_refl _) _, by simp only [World.size_setCell]; exact H7.out⟩
          · rw [hpm, HST2.out]; dsimp only; rw [hdiv]; exact set_same h1
          · rw [hpm, HST2.out]; exact R_farB H5.out (a := ⟨W.heap.size, 0, none⟩) (by show W.heap.size < w2.heap.size; omega) _
  case done =>
    rintro D ys X hD hys ⟨v, h1, h2, h3, h4, h5, h6, h7⟩ hK
    have H5 := Aside0.mk h5
    have H6 := Aside0.mk h6
    have HKD := Aside0.mk hK
    clear q3 q6 q7 f3 f6 h5 h6 hK
    refine (‹∀ (a : Act) (w_1 : World), Code.wpIn _ _ _ _ _ a w_1 → _› _ _ ?_)
    gi_wp2_with fail
    refine ⟨by simp, .inl ⟨_, _, rfl, run_takeDeferred HKD.out, ?_⟩⟩
    refine ⟨.tuple #[v, .int .i64 0], by simp [results, Tryd.results25, go_sem], v, rfl, ?_, putObj_below H6.out (by have := HS2.out; omega) H6.out.size _⟩
    unfold pathOf
    rw [← hys]
    exact Kd.R_lower (R_putObj H5.out HKD.out rfl _) (by have := HS2.out; omega)
end Go.Proofs.YteapdhfeddgjbaaDoor.Dg
end
