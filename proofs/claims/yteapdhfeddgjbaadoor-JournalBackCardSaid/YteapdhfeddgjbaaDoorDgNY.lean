/- Several texts made one. -/
import Derived.Test.YteapdhfeddgjbaaDoorDgM
import Derived.Test.YteapdhfeddgjbaaDoorDgH
import Derived.Test.YteapdhfeddgjbaaDoorPDjx4
import Derived.Deep.RegionHeld3
import Derived.Test.YteapdhfeddgjbaaDoorRows
import Derived.Test.YteapdhfeddgjbaaDoorOpen
import Derived.LaidMore
import Derived.Lay
import Derived.LaidOnce
section
/- journal: a range over whole frames; what is kept in cells; Torn. -/
namespace Go.Proofs.YteapdhfeddgjbaaDoor.Dg
set_option linter.unusedVariables false
set_option linter.unusedSimpArgs false
open Go.RowKit Go.Shelf Go.Proofs.YteapdhfeddgjbaaDoor.Rng Go.Proofs.YteapdhfeddgjbaaDoor.PDb Go.Proofs.YteapdhfeddgjbaaDoorW Go.Proofs.YteapdhfeddgjbaaDoorW.PrintWords Go.Proofs.YteapdhfeddgjbaaDoorW.PrintLast Go.Proofs.YteapdhfeddgjbaaDoorW.PrintMore
attribute [local go_sem] Oper.semAt_some

theorem C_move {k : IntKind} {W W' : World} {A : Option Addr} {l : List Int} (h : Kd.C (Kd.int k) W A l.length l) (hm : ∀ a v, W.cell? a = some (.int k v) → W'.cell? a = some (.int k v)) : Kd.C (Kd.int k) W' A l.length l := by
  have h' : ReadsOf (Value.int k) (0 : Int) W A l.length l := Kd.reads_of_C (h1 := fun _ => rfl) h
  refine Kd.C_of_reads (enc := Value.int k) (d := (0 : Int)) (h1 := fun _ => rfl) ⟨h'.1, h'.2.1, fun hp => ?_⟩
  obtain ⟨ad, e, hc⟩ := h'.2.2 hp
  exact ⟨ad, e, fun j hj => hm _ _ (hc j hj)⟩
theorem C_row {k : IntKind} {W W' : World} {row : Option Nat} {A : Option Addr} {l : List Int} (h : Kd.C (Kd.int k) W A l.length l) (hg : W.grownBy W' row) (hr : ∀ r, row = some r → ∃ o : Obj, W.heap[r]? = some o ∧ o.isCells = false) : Kd.C (Kd.int k) W' A l.length l :=
  C_move h fun a x hx => cell_kept hx hg hr
theorem set_far {X : World} {p a : Addr} {v u : Value} (hc : X.cell? a = some v) (hne : p.block ≠ a.block) : (X.setCell p u).cell? a = some v := by
  rw [World.cell?_setCell_far _ _ _ _ hne]; exact hc
theorem set_same {X : World} {p : Addr} {v u : Value} (hc : X.cell? p = some v) : (X.setCell p u).cell? p = some u := World.cell?_setCell_same' _ _ _ (by simp [hc])
theorem keeps_below {X X' : World} (hb : Below X.heap.size X X') : KeepsOthers X X' := ⟨hb.size, fun k o hk _ => (hb.block k (Array.getElem?_eq_some_iff.1 hk).1).trans hk⟩
theorem scope_in {P : Program} {n : Nat} {c : Code} {Q : Exit → Act → World → Prop} {a : Act} {w : World} (h : c.wpIn Fence.wide n P (Exit.noGoto Q) a w) : (Code.scope c).wpIn Fence.wide n P Q a w :=
  wpIn_wide.2 (wp_scope_straight (wpIn_wide.1 h))
theorem FKp.trans {base g : Nat} {X Y Z : World} (h : FKp base g X Y) (k : FKp base g Y Z) : FKp base g X Z := ⟨h.1.trans k.1, fun v c => k.2 v (h.2 v c)⟩
theorem FKp.putObj {base g : Nat} (W : World) (l : Nat) (o o' : Obj) (hbl : base ≤ l) (hl : W.heap[l]? = some o) (ho : o.isCells = false) : FKp base g W (W.putObj l o') := by
  have hr : ∀ r, some l = some r → ∃ o : Obj, W.heap[r]? = some o ∧ o.isCells = false := fun r e => by cases e; exact ⟨o, hl, ho⟩
  exact ⟨(Below.refl base W).grown (grownBy_putObj' W l o') (Nat.le_trans hbl (Nat.le_of_lt (Array.getElem?_eq_some_iff.1 hl).1)) (fun k e => by cases e; exact hbl), fun v c => cell_kept c (grownBy_putObj' W _ o') hr⟩
theorem FZ.putObj {b : List Int} (pre : List Fl) (x : Fl) (W : World) (l : Nat) (o o' : Obj) (hl : W.heap[l]? = some o) (ho : o.isCells = false) (h : FZ b pre x W) : FZ b pre x (W.putObj l o') := by
  have hr : ∀ r, some l = some r → ∃ o : Obj, W.heap[r]? = some o ∧ o.isCells = false := fun r e => by cases e; exact ⟨o, hl, ho⟩
  exact ⟨h.1, h.2.1, C_row h.2.2 (grownBy_putObj' W _ o') hr⟩
theorem frames_calls (A : Option Addr) (N c : Nat) (W : World) : Calls Tryd.prog 48 #[.slice A N c] W fun e w' => e = .returned (.func (.func 89) #[] #[.pointer (some ⟨W.heap.size, 0, none⟩)]) ∧ W.alloc (.cells #[.slice A N c] 24) = w' := by
  go_enter Tryd.func48, Tryd.ntmps48
  go_wp2
  go_ret
  exact ⟨rfl, rfl⟩
/-- A range over the frames of a row of bytes. -/
theorem range_frames {n : Nat} {g : Operand} {ps : Array Tmp} {assign body : Code} {Q : Exit → Act → World → Prop} {a : Act} {w : World} (hn : 3 ≤ n)
    (wb : World) (gb N c : Nat) (A : Option Addr) (b : List Int) (hN : b.length = N) (hb : Bt b) (hN1 : N ≤ 900000) (hc : N ≤ c) (hC : Kd.C (Kd.int .u8) wb A b.length b) (hK : Tab wb 2 KK) (hB : Below wb.heap.size wb w) (hcell : w.cell? ⟨gb, 0, none⟩ = some (.slice A N c))
    (hg : a.eval g = .func (.func 89) #[] #[.pointer (some ⟨gb, 0, none⟩)]) (hps : ps.size = 2)
    (I : List Fl → World → Prop) (Ix : Code → List Fl → World → Prop) (hI : OwnFrom w.heap.size I) (hIx : ∀ c, OwnFrom w.heap.size (Ix c)) (h0 : I [] w)
    (hround : ∀ (l : Nat) (pre : List Fl) (x : Fl), ∃ a₁ : Act,
      (∀ (W : World) (K : Act → World → Prop), K a₁ W → assign.wpIn (Fence.wide.inRound l) (n - 1 - 1) Tryd.prog (Exit.then K (fun _ _ _ => False)) { tmps := (ps.zip (fencs x)).foldl (fun t (p, v) => t.setIfInBounds p v) a.tmps, defers := [] } W) ∧
      (∀ W : World, I pre W → FZ b pre x W → body.wpIn (Fence.wide.inRound l) (n - 1 - 1) Tryd.prog (ownPostG w.heap.size (FKp wb.heap.size gb) I Ix (pre ++ [x]) W) a₁ W))
    (hdone : ∀ (D : Nat) (xs : List Fl) (W : World), w.heap.size ≤ D → xs.map fkey = frames b → I xs W → W.heap[D]? = some (.deferred (some [])) → Q .normal { a with defers := { target := .collected D, args := #[] } :: a.defers } W)
    (hstop : ∀ (D : Nat) (c : Code) (pre : List Fl) (W : World), w.heap.size ≤ D → Ix c pre W → W.heap[D]? = some (.deferred (some [])) → c.wpIn Fence.wide n Tryd.prog Q { a with defers := { target := .collected D, args := #[] } :: a.defers } W) :
    (Code.rangeFunc g ps assign body).wpIn Fence.wide n Tryd.prog Q a w :=
  range_law2 rfl (by omega) hg trivial (enters_of Tryd.func89 (by kernel_rfl) rfl) (frames_seq (n - 1) (by omega) wb w gb N c A b hN hb hN1 hc hC hK hB hcell)
    FKp.trans (fun W l o o' hl1 hl ho _ => FKp.putObj W l o o' (Nat.le_trans hB.size hl1) hl ho) FZ.putObj (Below.refl _ _) (fun x => by rw [hps]; rfl) I Ix hI hIx h0 hround hdone (fun D c pre W hD _ hi hk => hstop D c pre W hD hi hk)

theorem C_none {W : World} {l : List Int} (h : Kd.C (Kd.int .u8) W none l.length l) : l = [] := by
  by_cases e : l.length = 0
  · exact List.eq_nil_of_length_eq_zero e
  · obtain ⟨ad, e2⟩ := C_some h (by omega)
    cases e2
theorem C_take {W : World} {A : Option Addr} {l : List Int} (h : Kd.C (Kd.int .u8) W A l.length l) (t : Nat) (ht : t ≤ l.length) : Kd.C (Kd.int .u8) W A (l.take t).length (l.take t) := by
  cases A with
  | none => rw [C_none h, List.take_nil]; exact Kd.C_nil _ _
  | some ad => exact C_head h t ht
theorem R_putObj {α : Type} {d : Kd α} {e base : Nat} {ok : Nat → Prop} {v : Value} {xs : List α} {w : World} (h : d.R e w base ok v xs) {D : Nat} {o : Obj} (hD : w.heap[D]? = some o) (ho : o.isCells = false) (o' : Obj) : d.R e (w.putObj D o') base ok v xs :=
  Kd.R_mono (Kd.R_step (Kd.R_bound h) (fun k hk _ => by
    obtain ⟨-, -, -, q, -, cells, hc⟩ := hk
    refine World.putObj_heap_other ?_
    rintro rfl
    rw [hD] at hc
    cases hc
    cases ho)) (fun k hk => hk.1)
theorem putObj_below {B : Nat} {w X : World} (h : Below B w X) {D : Nat} (hD : B ≤ D) (hB : B ≤ X.heap.size) (o' : Obj) : Below B w (X.putObj D o') := h.grown (grownBy_putObj' X D o') hB (fun k e => by cases e; exact hD)
/-- append(v, x): what the built-in does, as a run. -/
theorem R_append_run {α : Type} {P : Program} (d : Kd α) {W : World} (base : Nat) (t ty e : TypeId) (z : Value) (bytes : Nat)
    (ht : P.underlying t = some (.slice e)) (hinfo : (P.info? e).map (fun i => (i.zero, i.size, i.bytes)) = some (some z, d.sz, bytes)) (hz : z.cells.size = d.sz) (hs0 : 0 < d.sz) (hb0 : 0 < bytes)
    (v : Value) (xs : List α) (p : α) (cs : List Value) (ok okp : Nat → Prop) (hp : d.M W base okp p cs) (hokp : ∀ k, okp k → ok k ∧ some k ≠ v.ownBlock) (hfresh : ∀ k, W.heap.size ≤ k → ok k)
    (HO : d.R e W base ok v xs) (hbase : base ≤ W.heap.size) (hl : (xs.length + 1) * bytes ≤ 140737488355328) :
    ∃ v1 w1, (Builtin.append_ #[t, t] ty #[v, .slice (some ⟨W.heap.size, 0, none⟩) 1 1]).run P (W.alloc (.cells cs.toArray e)) = .ok v1 w1 ∧ d.R e w1 base ok v1 (xs ++ [p]) ∧ W.grownBy w1 v.ownBlock ∧ (v1.ownBlock = v.ownBlock ∨ ∃ b, v1.ownBlock = some b ∧ W.heap.size ≤ b) := by
  obtain ⟨i0, hi, hzz⟩ := Option.map_eq_some_iff.1 hinfo
  simp only [Prod.mk.injEq] at hzz
  obtain ⟨hz0, hz1, hz2⟩ := hzz
  obtain ⟨h0, inner, hown, hr⟩ := HO
  have hys : cs.length = d.sz := d.K_len (d.K_of_M hp)
  have hlen : xs.length + 1 ≤ 140737488355328 := Nat.le_trans (Nat.le_mul_of_pos_right _ hb0) hl
  obtain ⟨v1, w1, hrun, hown1, hg, _, hat⟩ := run_append_own_at (P := P) (W.alloc (.cells cs.toArray e)) base t ty e i0 z d.sz bytes ht hi hz0 hz1 hz2 hz hs0 v xs.length inner (hown.alloc _) ⟨W.heap.size, 0, none⟩ 1 1 cs (by rw [hys]; simp)
    (by simpa using World.news_of_block (cs := cs.toArray) (t := e) (fr := (0, 0)) (heap_alloc_new W (.cells cs.toArray e))) (d.K_one (d.K_of_M hp)) (by simp only [maxLen]; omega) hl (by simp; omega)
  have hat' : v1.ownBlock = v.ownBlock ∨ ∃ b, v1.ownBlock = some b ∧ W.heap.size ≤ b := by
    rcases hat with hat | hat
    · exact .inl hat
    · exact .inr ⟨_, hat, by simp⟩
  have hg' := World.grownBy.trans (World.grownBy_alloc W (.cells cs.toArray e) _) hg
  exact ⟨v1, w1, hrun, Kd.R_appended h0 hr hp hokp hfresh hown1 hg' hat', hg', hat'⟩
/-- append in a region, inside a fence, by its run. -/
theorem step_run_in {F : Fence} {n : Nat} {P : Program} {ops : Array Oper} {o : Oper} {a : Act} {Q : Exit → Act → World → Prop} {K : Act → World → Prop} {w w1 : World} {v1 : Value} (s x : Operand) (t : TypeId)
    (ho : o.op = .call { callee := .builtin .append, args := #[s, x], argTypes := #[t, t] }) (hgd : o.guard = none) (hrun : (Builtin.append_ #[t, t] o.type #[a.eval s, a.eval x]).run P w = .ok v1 w1) (h : K (a.put o.dst v1) w1) :
    if Region.wanted o (yielded ops a.tmps) = true then Oper.wpIn F n P o a w K Q else (∀ f, o.about P w a.eval = some f → F.fn f) ∧ K (a.put o.dst undef) w := by
  rw [if_pos (by simp only [Region.wanted, hgd])]
  unfold Oper.wpIn
  refine ⟨?_, ?_⟩
  · simp [Oper.about, ho, resolve, Target.leads, Sem.run_pure]
  · rw [Oper.semAt_plain F _ _ (by rw [ho]; intro c hc'; cases hc')]
    simp [execOp, ho, resolve, invoke, builtin, hrun, Result.andThen]
    exact h
/-- Where the last record begins, and where it ends. -/
def ends2 (l : List Nat) : Nat × Nat := l.foldl (fun p x => (p.2, x)) (0, 0)
theorem ends2_next (l : List Nat) (x : Nat) : ends2 (l ++ [x]) = ((ends2 l).2, x) := by unfold ends2; rw [List.foldl_append]; rfl
def endsOf (b : List Int) : List Nat := (frames b).map (·.1)
theorem ends2_fra (b : List Int) : ∀ k a p, p ≤ a → a ≤ b.length → (((fra b k a).map (·.1)).foldl (fun p x => (p.2, x)) (p, a)).1 ≤ (((fra b k a).map (·.1)).foldl (fun p x => (p.2, x)) (p, a)).2 ∧ (((fra b k a).map (·.1)).foldl (fun p x => (p.2, x)) (p, a)).2 ≤ b.length
  | 0, a, p, h1, h2 => ⟨h1, h2⟩
  | k + 1, a, p, h1, h2 => by
    cases e : nxt (b.drop a) with
    | none => rw [fra_none e]; exact ⟨h1, h2⟩
    | some n =>
      rw [fra_some e]
      have := nxt_le e
      rw [List.length_drop] at this
      exact ends2_fra b k (a + (12 + n)) a (by omega) (by omega)
theorem ends2_le (b : List Int) : (ends2 (endsOf b)).1 ≤ (ends2 (endsOf b)).2 ∧ (ends2 (endsOf b)).2 ≤ b.length := ends2_fra b _ 0 0 (Nat.le_refl _) (Nat.zero_le _)
/-- How many bytes are kept of a torn row. -/
def tornN (b : List Int) (k : Int) : Nat := ((ends2 (endsOf b)).1 + min (max k 0) (((ends2 (endsOf b)).2 : Int) - ((ends2 (endsOf b)).1 : Int))).toNat
end Go.Proofs.YteapdhfeddgjbaaDoor.Dg
end
section
/- journal: Torn. -/
namespace Go.Proofs.YteapdhfeddgjbaaDoor.Dg
set_option linter.unusedVariables false
set_option linter.unusedSimpArgs false
open Go.RowKit Go.Shelf Go.Proofs.YteapdhfeddgjbaaDoor.Rng Go.Proofs.YteapdhfeddgjbaaDoor.PDb Go.Proofs.YteapdhfeddgjbaaDoorW Go.Proofs.YteapdhfeddgjbaaDoorW.PrintWords Go.Proofs.YteapdhfeddgjbaaDoorW.PrintLast Go.Proofs.YteapdhfeddgjbaaDoorW.PrintMore
attribute [local go_sem] Oper.semAt_some

set_option maxHeartbeats 6400000 in
set_option maxRecDepth 100000 in
theorem torn_calls (A : Option Addr) (N c : Nat) (b : List Int) (k : Int) (hN : b.length = N) (hb : Bt b) (hN1 : N ≤ 900000) (hc : N ≤ c) (hk : -9223372036854775808 ≤ k ∧ k ≤ 9223372036854775807) (W : World) (hC : Kd.C (Kd.int .u8) W A b.length b) (hK : Tab W 2 KK) :
    Calls Tryd.prog 16 #[.slice A N c, .int .i64 k] W (Own W (b.take (tornN b k))) := by
  have HN := Aside0.mk hN
  have HBT := Aside0.mk hb
  have HN1 := Aside0.mk hN1
  have HC := Aside0.mk hC
  have HK := Aside0.mk hK
  have HCC := Aside0.mk hc
  have HKR := Aside0.mk hk
  clear hN hb hN1 hc hC hK hk
  refine (callsIn_wide (n := 9)).1 ?_
  refine callsIn_of_wp_marks Tryd.func16 rfl trivial ?_ rfl
  simp only [Tryd.ntmps16, List.size_toArray, List.length_cons, List.length_nil, Nat.reduceAdd, Nat.reduceSub, Array.replicate_succ, Array.replicate_zero, List.push_toArray, List.append_toArray, List.nil_append, List.cons_append]
  gi_wp2_with (first
    | (refine ⟨trivial, ?_⟩; gi_at_call 48; (with_reducible refine (callsIn_wide.2 (frames_calls _ _ _ _)).mono ?_); rintro e w2 ⟨rfl, hw2⟩; have HW2 := Aside0.mk hw2; clear hw2)
    | fail)
  obtain ⟨W2, hW2⟩ : ∃ W2, w2 = W2 := ⟨_, rfl⟩
  have HB2 : Aside0 (Below W.heap.size W w2) := ⟨by rw [← HW2.out]; exact below_alloc (below_alloc (below_alloc (Below.refl _ _) _) _) _⟩
  have q5 : w2.cell? ⟨W.heap.size, 0, none⟩ = some (.int .i64 ((0 : Nat) : Int)) := by rw [← HW2.out]; go_simp
  have q6 : w2.cell? ⟨W.heap.size + 1, 0, none⟩ = some (.int .i64 ((0 : Nat) : Int)) := by rw [← HW2.out]; go_simp
  have q7 : w2.cell? ⟨W.heap.size + 1 + 1, 0, none⟩ = some (.slice A N c) := by rw [← HW2.out]; go_simp
  have f5 : w2.frozen? ⟨W.heap.size, 0, none⟩ = false := by rw [← HW2.out]; go_simp
  have f6 : w2.frozen? ⟨W.heap.size + 1, 0, none⟩ = false := by rw [← HW2.out]; go_simp
  have hs2 : W.heap.size + 3 ≤ w2.heap.size := by rw [← HW2.out]; simp
  have HS2 := Aside0.mk hs2
  clear hW2 HW2 hs2
  refine range_frames (by omega) W (W.heap.size + 1 + 1) N c A b HN.out HBT.out HN1.out HCC.out HC.out HK.out HB2.out q7 rfl rfl
    (fun pre X => X.cell? ⟨W.heap.size, 0, none⟩ = some (.int .i64 (((ends2 (pre.map (·.1))).1 : Nat) : Int)) ∧ X.cell? ⟨W.heap.size + 1, 0, none⟩ = some (.int .i64 (((ends2 (pre.map (·.1))).2 : Nat) : Int)) ∧ X.frozen? ⟨W.heap.size, 0, none⟩ = false ∧ X.frozen? ⟨W.heap.size + 1, 0, none⟩ = false ∧ Below W.heap.size W X)
    (fun _ _ _ => False) ?hI (fun _ _ _ _ _ h => h.elim) ⟨q5, q6, f5, f6, HB2.out⟩ ?round ?done (fun _ _ _ _ _ h => h.elim)
  case hI =>
    rintro s X Y row ⟨h1, h2, h3, h4, h5⟩ hg hr
    have hr' : ∀ r, row = some r → ∃ o : Obj, X.heap[r]? = some o ∧ o.isCells = false := fun r e => (hr r e).2
    exact ⟨cell_kept h1 hg hr', cell_kept h2 hg hr', (frozen_kept h1 hg hr').trans h3, (frozen_kept h2 hg hr').trans h4, h5.grown hg h5.size (fun k e => by have := (hr k e).1; have := HB2.out.size; omega)⟩
  case round =>
    rintro l pre ⟨x, Ax, R, cx⟩
    clear q5 q6 q7 f5 f6
    apply Exists.intro
    constructor
    · intro X K hK
      dsimp only [fencs]
      gi_wp2
      exact hK
    · rintro X ⟨h1, h2, h3, h4, h5⟩ hz
      have H5 := Aside0.mk h5
      clear h5 hz
      gi_wp2
      refine ⟨((KeepsOthers.setCell _ _ _).trans (KeepsOthers.setCell _ _ _)).from _, ⟨((Below.refl W.heap.size X).setCell (p := ⟨W.heap.size, 0, none⟩) (Nat.le_refl _) _).setCell (p := ⟨W.heap.size + 1, 0, none⟩) (Nat.le_succ _) _, fun v c => set_far (set_far c (by simp <;> omega)) (by simp)⟩, ?_, ?_, ?_, ?_, (H5.out.setCell (p := ⟨W.heap.size, 0, none⟩) (Nat.le_refl _) _).setCell (p := ⟨W.heap.size + 1, 0, none⟩) (Nat.le_succ _) _⟩
      · rw [List.map_append, List.map_cons, List.map_nil, ends2_next]; exact set_far (set_same h1) (by simp)
      · rw [List.map_append, List.map_cons, List.map_nil, ends2_next]; exact set_same (set_far h2 (by simp))
      · rw [World.frozen?_setCell, World.frozen?_setCell]; exact h3
      · rw [World.frozen?_setCell, World.frozen?_setCell]; exact h4
  case done =>
    rintro D ys X hD hys ⟨h1, h2, h3, h4, h5⟩ hK
    have he : ys.map (·.1) = endsOf b := by
      unfold endsOf
      rw [← hys, List.map_map]
      rfl
    rw [he] at h1 h2
    have hle := ends2_le b
    rw [HN.out] at hle
    obtain ⟨p1, hp1⟩ : ∃ x, (ends2 (endsOf b)).1 = x := ⟨_, rfl⟩
    obtain ⟨p2, hp2⟩ : ∃ x, (ends2 (endsOf b)).2 = x := ⟨_, rfl⟩
    rw [hp1] at h1 hle
    rw [hp2] at h2 hle
    have HTN : Aside0 (tornN b k = (p1 + min (max k 0) ((p2 : Int) - (p1 : Int))).toNat) := ⟨by unfold tornN; rw [hp1, hp2]⟩
    clear hp1 hp2 he hys q5 q6 q7 f5 f6
    have hn1 := HN1.out
    have hw1 : wrap64 ((p2 : Int) - (p1 : Int)) = (p2 : Int) - (p1 : Int) := IntWalk.wrap64_in _ (by omega)
    have H5 := Aside0.mk h5
    have HLE := Aside0.mk hle
    have HKD := Aside0.mk hK
    have HCL : Aside0 (∀ t : Nat, t ≤ N → Calls Tryd.prog 49 #[.slice A t c] X (Own X (b.take t))) := ⟨fun t ht => clone_calls A t c (b.take t) (by rw [List.length_take, HN.out]; omega) (by have := HN1.out; omega) X (C_take (Kd.C_below HC.out h5) t (by rw [HN.out]; exact ht))⟩
    have hNc := HCC.out
    refine (‹∀ (a : Act) (w_1 : World), Code.wpIn _ _ _ _ _ a w_1 → _› _ _ ?_)
    by_cases hk0 : k < 0
    · have hw2 : wrap64 (p1 : Int) = (p1 : Int) := IntWalk.wrap64_in _ (by omega)
      have hd0 : (0 : Int) ≤ (p2 : Int) - (p1 : Int) := by omega
      have hd1 : (p1 : Int) ≤ (c : Int) := by omega
      have hd2 : p1 ≤ c := by omega
      have HT : Aside0 (p1 ≤ N) := ⟨by omega⟩
      have HTE : Aside0 (tornN b k = p1) := ⟨by rw [HTN.out]; omega⟩
      have hd3 : ¬ (0 < k) := by omega
      clear h5 hle hn1 hK hNc
      gi_wp2_with (first
        | (refine ⟨trivial, ?_⟩; gi_at_call 49; (with_reducible refine (callsIn_wide.2 (HCL.out _ HT.out)).mono ?_); rintro e w3 ⟨v, rfl, ho, hb⟩; have HO := Aside0.mk ho; have HB3 := Aside0.mk hb; clear ho hb)
        | fail)
      have hK3 := (HB3.out.block D (Array.getElem?_eq_some_iff.1 HKD.out).1).trans HKD.out
      refine ⟨by simp, .inl ⟨_, _, rfl, run_takeDeferred hK3, ?_⟩⟩
      refine ⟨v, by simp [results, Tryd.results16, go_sem], v, rfl, ?_, ?_⟩
      · rw [HTE.out]
        exact Kd.R_lower (R_putObj HO.out hK3 rfl _) H5.out.size
      · have h := below_then H5.out H5.out.size HB3.out
        exact putObj_below h (by have := HB2.out.size; omega) h.size _
    · obtain ⟨m, rfl⟩ : ∃ m : Nat, k = (m : Int) := ⟨k.toNat, by omega⟩
      by_cases hk1 : (p2 : Int) - (p1 : Int) < (m : Int)
      · have hw2 : wrap64 ((p1 : Int) + ((p2 : Int) - (p1 : Int))) = (p2 : Int) := by rw [IntWalk.wrap64_in _ (by omega)]; omega
        have hd0 : ¬ ((m : Int) < (p2 : Int) - (p1 : Int)) := by omega
        have hd1 : (p2 : Int) ≤ (c : Int) := by omega
        have hd2 : p2 ≤ c := by omega
        have HT : Aside0 (p2 ≤ N) := ⟨by omega⟩
        have HTE : Aside0 (tornN b m = p2) := ⟨by rw [HTN.out]; omega⟩
        clear h5 hle hn1 hK hNc hk0
        gi_wp2_with (first
          | (refine ⟨trivial, ?_⟩; gi_at_call 49; (with_reducible refine (callsIn_wide.2 (HCL.out _ HT.out)).mono ?_); rintro e w3 ⟨v, rfl, ho, hb⟩; have HO := Aside0.mk ho; have HB3 := Aside0.mk hb; clear ho hb)
          | fail)
        have hK3 := (HB3.out.block D (Array.getElem?_eq_some_iff.1 HKD.out).1).trans HKD.out
        refine ⟨by simp, .inl ⟨_, _, rfl, run_takeDeferred hK3, ?_⟩⟩
        refine ⟨v, by simp [results, Tryd.results16, go_sem], v, rfl, ?_, ?_⟩
        · rw [HTE.out]
          exact Kd.R_lower (R_putObj HO.out hK3 rfl _) H5.out.size
        · have h := below_then H5.out H5.out.size HB3.out
          exact putObj_below h (by have := HB2.out.size; omega) h.size _
      · have hw2 : wrap64 ((p1 : Int) + (m : Int)) = (p1 : Int) + (m : Int) := IntWalk.wrap64_in _ (by omega)
        have hd0 : (m : Int) ≤ (p2 : Int) - (p1 : Int) := by omega
        have hd1 : (p1 : Int) + (m : Int) ≤ (c : Int) := by omega
        have hd2 : p1 + m ≤ c := by omega
        have hd3 : (0 : Int) ≤ (p1 : Int) + (m : Int) := by omega
        have hd4 : ((p1 : Int) + (m : Int)).toNat = p1 + m := by omega
        have HT : Aside0 (p1 + m ≤ N) := ⟨by omega⟩
        have HTE : Aside0 (tornN b m = p1 + m) := ⟨by rw [HTN.out]; omega⟩
        clear h5 hle hn1 hK hNc hk0
        gi_wp2_with (first
          | (refine ⟨trivial, ?_⟩; gi_at_call 49; (with_reducible refine (callsIn_wide.2 (HCL.out _ HT.out)).mono ?_); rintro e w3 ⟨v, rfl, ho, hb⟩; have HO := Aside0.mk ho; have HB3 := Aside0.mk hb; clear ho hb)
          | fail)
        have hK3 := (HB3.out.block D (Array.getElem?_eq_some_iff.1 HKD.out).1).trans HKD.out
        refine ⟨by simp, .inl ⟨_, _, rfl, run_takeDeferred hK3, ?_⟩⟩
        refine ⟨v, by simp [results, Tryd.results16, go_sem], v, rfl, ?_, ?_⟩
        · rw [HTE.out]
          exact Kd.R_lower (R_putObj HO.out hK3 rfl _) H5.out.size
        · have h := below_then H5.out H5.out.size HB3.out
          exact putObj_below h (by have := HB2.out.size; omega) h.size _
end Go.Proofs.YteapdhfeddgjbaaDoor.Dg
end
section
/- journal: Scan. -/
namespace Go.Proofs.YteapdhfeddgjbaaDoor.Dg
set_option linter.unusedVariables false
set_option linter.unusedSimpArgs false
open Go.RowKit Go.Shelf Go.Proofs.YteapdhfeddgjbaaDoor.Rng Go.Proofs.YteapdhfeddgjbaaDoor.PDb Go.Proofs.YteapdhfeddgjbaaDoorW Go.Proofs.YteapdhfeddgjbaaDoorW.PrintWords Go.Proofs.YteapdhfeddgjbaaDoorW.PrintLast Go.Proofs.YteapdhfeddgjbaaDoorW.PrintMore
attribute [local go_sem] Oper.semAt_some

def recsOf (b : List Int) : List (List Int) := (frames b).map (·.2)
theorem fra_len (b : List Int) : ∀ k a, (fra b k a).length ≤ k
  | 0, a => Nat.le_refl _
  | k + 1, a => by
    cases e : nxt (b.drop a) with
    | none => rw [fra_none e]; exact Nat.zero_le _
    | some n => rw [fra_some e]; exact Nat.succ_le_succ (fra_len b k _)
theorem fra_rec (b : List Int) : ∀ k a p, p ∈ fra b k a → p.2.length ≤ b.length
  | 0, a, p, h => by cases h
  | k + 1, a, p, h => by
    cases e : nxt (b.drop a) with
    | none => rw [fra_none e] at h; cases h
    | some n =>
      rw [fra_some e] at h
      rcases List.mem_cons.1 h with h | h
      · subst h
        show (((b.drop a).drop 12).take n).length ≤ _
        simp only [List.length_take, List.length_drop]
        omega
      · exact fra_rec b k _ p h
/-- What Scan has in its cells. -/
def SI (W : World) (B : Nat) (pre : List Fl) (X : World) : Prop :=
  ∃ v, X.heap[W.heap.size]? = some (.cells #[v] 22 (0, 0)) ∧ X.heap[W.heap.size + 1]? = some (.cells #[.int .i64 (((ends2 (pre.map (·.1))).2 : Nat) : Int)] 3 (0, 0)) ∧
    (Kd.slice 5 (Kd.int .u8)).R 24 X B (fun _ => True) v (pre.map (·.2.2.1)) ∧ Below W.heap.size W X ∧ B ≤ X.heap.size
theorem info24 : (Tryd.prog.info? 24).map (fun i => (i.zero, i.size, i.bytes)) = some (some (.slice none 0 0), 1, 24) := by kernel_rfl
theorem scan_app (v : Value) (xs : List (List Int)) (u : Value) (R : List Int) (X w3 : World) (B : Nat) (hBX : B ≤ X.drew.heap.size) (h3 : (Kd.slice 5 (Kd.int .u8)).R 24 X.drew B (fun _ => True) v xs)
    (ho : Kd.R (Kd.int .u8) 5 w3 X.drew.heap.size (fun _ => True) u R) (hb : Below X.drew.heap.size X.drew w3) (hl : xs.length ≤ 900001) :
    ∃ v1 w4, (Builtin.append_ #[22, 22] 22 #[v, .slice (some ⟨w3.heap.size, 0, none⟩) 1 1]).run Tryd.prog (w3.alloc (.cells #[u] 24)) = .ok v1 w4 ∧ Aside0 ((Kd.slice 5 (Kd.int .u8)).R 24 w4 B (fun _ => True) v1 (xs ++ [R])) ∧ Aside0 (w3.grownBy w4 v.ownBlock) ∧ Aside0 (v1.ownBlock = v.ownBlock ∨ ∃ b, v1.ownBlock = some b ∧ w3.heap.size ≤ b) := by
  obtain ⟨inner, hown⟩ := Kd.R_own h3
  have hp : (Kd.slice 5 (Kd.int .u8)).M w3 B (fun k => True ∧ some k ≠ v.ownBlock) R [u] := Kd.M_row (Kd.R_lower (Kd.R_new ho hown) hBX)
  obtain ⟨v1, w4, a, b, c, d⟩ := R_append_run (P := Tryd.prog) (Kd.slice 5 (Kd.int .u8)) (W := w3) B 22 22 24 (.slice none 0 0) 24 Tryd.underlying22 info24 rfl (by decide) (by decide) v xs R [u] (fun _ => True) _ hp (fun k hk => hk) (fun _ _ => trivial) (Kd.R_below h3 hb) (Nat.le_trans hBX hb.size) (by omega)
  exact ⟨v1, w4, a, ⟨b⟩, ⟨c⟩, ⟨d⟩⟩
theorem R_set_low {α : Type} {d : Kd α} {e base : Nat} {ok : Nat → Prop} {v : Value} {xs : List α} {w : World} (h : d.R e w base ok v xs) {p : Addr} (hp : p.block < base) (u : Value) : d.R e (w.setCell p u) base ok v xs :=
  Kd.R_mono (Kd.R_far (Kd.R_bound h) (fun k hk => by have := hk.2.1; omega) u) (fun k hk => hk.1)
theorem keeps_own {α : Type} {d : Kd α} {e base : Nat} {ok : Nat → Prop} {v : Value} {xs : List α} {w w1 : World} (h : d.R e w base ok v xs) (hg : w.grownBy w1 v.ownBlock) : KeepsOthers w w1 := by
  obtain ⟨inner, ho⟩ := Kd.R_own h
  refine KeepsOthers.of_grownBy hg fun j o e2 hj => ?_
  obtain ⟨cells, hc⟩ := own_typed ho j e2
  rw [hc] at hj
  cases hj
  rfl
set_option maxHeartbeats 6400000 in
set_option maxRecDepth 100000 in
theorem scan_calls (A : Option Addr) (N c : Nat) (b : List Int) (hN : b.length = N) (hb : Bt b) (hN1 : N ≤ 900000) (hc : N ≤ c) (W : World) (hC : Kd.C (Kd.int .u8) W A b.length b) (hK : Tab W 2 KK) :
    Calls Tryd.prog 15 #[.slice A N c] W fun e w' => ∃ v, e = .returned (.tuple #[v, .int .i64 (((ends2 (endsOf b)).2 : Nat) : Int)]) ∧ (Kd.slice 5 (Kd.int .u8)).R 24 w' W.heap.size (fun _ => True) v (recsOf b) ∧ Below W.heap.size W w' := by
  have HN := Aside0.mk hN
  have HBT := Aside0.mk hb
  have HN1 := Aside0.mk hN1
  have HC := Aside0.mk hC
  have HK := Aside0.mk hK
  have HCC := Aside0.mk hc
  clear hN hb hN1 hc hC hK
  refine (callsIn_wide (n := 9)).1 ?_
  refine callsIn_of_wp_marks Tryd.func15 rfl trivial ?_ rfl
  simp only [Tryd.ntmps15, List.size_toArray, List.length_cons, List.length_nil, Nat.reduceAdd, Nat.reduceSub, Array.replicate_succ, Array.replicate_zero, List.push_toArray, List.append_toArray, List.nil_append, List.cons_append]
  gi_wp2_with (first
    | (refine ⟨trivial, ?_⟩; gi_at_call 48; (with_reducible refine (callsIn_wide.2 (frames_calls _ _ _ _)).mono ?_); rintro e w2 ⟨rfl, hw2⟩; have HW2 := Aside0.mk hw2; clear hw2)
    | fail)
  have HB2 : Aside0 (Below W.heap.size W w2) := ⟨by rw [← HW2.out]; exact below_alloc (below_alloc (below_alloc (Below.refl _ _) _) _) _⟩
  have q7 : w2.cell? ⟨W.heap.size + 1 + 1, 0, none⟩ = some (.slice A N c) := by rw [← HW2.out]; go_simp
  have b0 : w2.heap[W.heap.size]? = some (.cells #[.slice none 0 0] 22 (0, 0)) := by rw [← HW2.out]; exact blk_alloc (blk_alloc (blk_new _ _) _) _
  have b1 : w2.heap[W.heap.size + 1]? = some (.cells #[.int .i64 ((0 : Nat) : Int)] 3 (0, 0)) := by
    rw [← HW2.out]
    have h := blk_new (W.alloc (.cells #[.slice none 0 0] 22)) (.cells #[.int .i64 0] 3)
    rw [World.size_alloc] at h
    exact blk_alloc h _
  have hs2 : W.heap.size + 3 ≤ w2.heap.size := by rw [← HW2.out]; simp
  have HS2 := Aside0.mk hs2
  clear HW2 hs2
  refine range_frames (by omega) W (W.heap.size + 1 + 1) N c A b HN.out HBT.out HN1.out HCC.out HC.out HK.out HB2.out q7 rfl rfl
    (SI W w2.heap.size) (fun _ _ _ => False) ?hI (fun _ _ _ _ _ h => h.elim) ⟨_, b0, b1, Kd.R_nil _ _ _ _ _, HB2.out, Nat.le_refl _⟩ ?round ?done (fun _ _ _ _ _ h => h.elim)
  case hI =>
    rintro s X Y row ⟨v, h1, h2, h3, h4, h5⟩ hg hr
    have hr' : ∀ r, row = some r → ∃ o : Obj, X.heap[r]? = some o ∧ o.isCells = false := fun r e => (hr r e).2
    have hne : ∀ g cs t fr, X.heap[g]? = some (.cells cs t fr) → some g ≠ row := fun g cs t fr hg e => by
      obtain ⟨o, ho, hoc⟩ := hr' g e.symm
      rw [hg] at ho; cases ho; cases hoc
    refine ⟨v, blk_grown h1 hg (hne _ _ _ _ h1), blk_grown h2 hg (hne _ _ _ _ h2), ?_, h4.grown hg h4.size (fun k e => by have := (hr k e).1; have := HB2.out.size; omega), Nat.le_trans h5 hg.size⟩
    exact Kd.R_mono (Kd.R_grown (Kd.R_bound h3) hg (fun k hk => by
      obtain ⟨-, -, -, q, -, cells, hc⟩ := hk
      exact hne _ _ _ _ hc)) (fun k hk => hk.1)
  case round =>
    rintro l pre ⟨x, Ax, R, cx⟩
    clear q7 b0 b1
    apply Exists.intro
    constructor
    · intro X K hK
      dsimp only [fencs]
      gi_wp2
      exact hK
    · rintro X ⟨v, h1, h2, h3, h4, h5⟩ ⟨hz1, hz2, hz3⟩
      dsimp only at hz2 hz3
      have c0 := blk_cell h1 0
      have c1 := blk_cell h2 0
      have f0 := blk_frozen h1 0
      have f1 := blk_frozen h2 0
      simp at c0 c1
      have H1 := Aside0.mk h1
      have H2 := Aside0.mk h2
      have H3 := Aside0.mk h3
      have H4 := Aside0.mk h4
      have H5 := Aside0.mk h5
      have HZ := Aside0.mk hz3
      have hRN : R.length ≤ 10000000 ∧ pre.length ≤ 900001 := by
        obtain ⟨rest, e⟩ := hz1
        have h5 := fra_rec b (b.length + 1) 0 (x, R) (by show _ ∈ frames b; rw [e]; exact List.mem_append_right _ List.mem_cons_self)
        have h6 : (frames b).length ≤ b.length + 1 := fra_len b (b.length + 1) 0
        rw [e, List.length_append, List.length_map] at h6
        rw [HN.out] at h5 h6
        dsimp only at h5
        have := HN1.out
        omega
      have HRN := Aside0.mk hRN
      clear h1 h2 h3 h4 h5 hz1 hz2 hz3 hRN
      have hlt : W.heap.size < X.heap.size := blk_lt H1.out
      gi_wp2_with fail
      refine wpIn_region_any (by kernel_rfl) ?_
      (try change wpAnyIn _ _ _ _ _ _ _ _ _ (World.drew _))
      -- BEGIN region
      refine wpAnyIn_ready (rs := [0, 1]) (by decide +kernel) (by simp) ?_
      refine AllReadyIn.cons rfl (fun K hK => ?_) ?_
      · go_simp
        refine hK _ _ ?_
        clear hK K
        refine wpAnyIn_ready (rs := [1]) (by decide +kernel) (by simp) ?_
        refine AllReadyIn.cons rfl (fun K hK => ?_) AllReadyIn.nil
        go_simp
        refine hK _ _ ?_
        clear hK K
        refine wpAnyIn_ready (rs := [2]) (by decide +kernel) (by simp) ?_
        refine AllReadyIn.cons rfl (fun K hK => ?_) AllReadyIn.nil
        go_simp
        refine ⟨trivial, ?_⟩; gi_at_call 49; (with_reducible refine (CallsIn.inRound l (callsIn_wide.2 (clone_calls Ax R.length cx R rfl HRN.out.1 _ (Kd.C_below HZ.out (below_drew (Below.refl _ _)))))).mono ?_); rintro e w3 ⟨u, rfl, ho, hb⟩; obtain ⟨Au, cu, eu⟩ := Kd.R_slice ho; subst eu; obtain ⟨v1, w4, hrun, HA, HG, HAT⟩ := scan_app v (pre.map (·.2.2.1)) (.slice Au R.length cu) R X w3 w2.heap.size H5.out (Kd.R_drew H3.out) ho hb (by rw [List.length_map]; have := HRN.out.2; omega); obtain ⟨A1, c1, ev⟩ := Kd.R_slice HA.out; subst ev; rw [List.length_append, List.length_map, List.length_singleton] at HA; have HB3 := Aside0.mk (below_then (below_drew (Below.refl X.heap.size X)) (below_drew (Below.refl X.heap.size X)).size hb); have hlw : W.heap.size < w3.heap.size := Nat.lt_of_lt_of_le hlt HB3.out.size; have c0w := pw_cell_below HB3.out c0; have hne := Kd.R_ne H3.out H1.out (by decide); have h1w := Aside0.mk (blk_grown (blk_below H1.out HB3.out) HG.out hne); have h2w := Aside0.mk (blk_grown (blk_below H2.out HB3.out) HG.out (Kd.R_ne H3.out H2.out (by decide))); have f0w := blk_frozen h1w.out 0; have f1w := blk_frozen h2w.out 0; have c0v := blk_cell h1w.out 0; have c1v := blk_cell h2w.out 0; simp at c0v c1v; clear ho hb hne
        refine hK _ _ ?_
        clear hK K
        refine wpAnyIn_ready (rs := [3]) (by decide +kernel) (by simp) ?_
        refine AllReadyIn.cons rfl (fun K hK => ?_) AllReadyIn.nil
        go_simp
        refine hK _ _ ?_
        clear hK K
        refine wpAnyIn_ready (rs := [4]) (by decide +kernel) (by simp) ?_
        refine AllReadyIn.cons rfl (fun K hK => ?_) AllReadyIn.nil
        refine step_run_in (.tmp 10) (.tmp 13) 22 rfl rfl hrun ?_
        refine hK _ _ ?_
        clear hK K
        refine wpAnyIn_ready (rs := [5]) (by decide +kernel) (by simp) ?_
        refine AllReadyIn.cons rfl (fun K hK => ?_) AllReadyIn.nil
        go_simp
        refine hK _ _ ?_
        clear hK K
        refine wpAnyIn_done (by decide +kernel) ?_ _
        gi_wp2_with fail
        have hbase := fun k hk => Kd.R_base H3.out k hk
        have hsz := HS2.out
        have hge : ∀ k, k < w2.heap.size → some k ≠ v.ownBlock := fun k hk e => absurd (hbase k e.symm) (by omega)
        refine ⟨((keeps_below HB3.out).trans ((keeps_own (Kd.R_below H3.out HB3.out) HG.out).trans ((KeepsOthers.setCell _ _ _).trans (KeepsOthers.setCell _ _ _)))).from _, ⟨?_, fun u hu => ?_⟩, ?_⟩
        · exact (((HB3.out.mono (Nat.le_of_lt hlt)).grown HG.out (Nat.le_of_lt hlw) (fun k e => by have := hbase k e; omega)).setCell (p := ⟨W.heap.size, 0, none⟩) (Nat.le_refl _) _).setCell (p := ⟨W.heap.size + 1, 0, none⟩) (Nat.le_succ _) _
        · have hu3 := pw_cell_below HB3.out hu
          exact set_far (set_far (cell_grown HG.out hu3 (hge (W.heap.size + 1 + 1) (by omega))) (by simp <;> omega)) (by simp)
        · refine ⟨_, blk_far (blk_set h1w.out 0 _) (by simp) _, ?_, ?_, ?_, ?_⟩
          · rw [List.map_append, List.map_cons, List.map_nil, ends2_next]
            exact blk_set (blk_far h2w.out (by simp) _) 0 _
          · rw [List.map_append]
            exact R_set_low (R_set_low HA.out (p := ⟨W.heap.size, 0, none⟩) (show W.heap.size < w2.heap.size by omega) _) (p := ⟨W.heap.size + 1, 0, none⟩) (show W.heap.size + 1 < w2.heap.size by omega) _
          · exact (((below_then H4.out H4.out.size HB3.out).grown HG.out (by omega) (fun k e => by have := hbase k e; omega)).setCell (p := ⟨W.heap.size, 0, none⟩) (Nat.le_refl _) _).setCell (p := ⟨W.heap.size + 1, 0, none⟩) (Nat.le_succ _) _
          · have := HG.out.size
            have := HB3.out.size
            have := H5.out
            simp
            omega
      refine AllReadyIn.cons rfl (fun K hK => ?_) ?_
      · go_simp
        refine hK _ _ ?_
        clear hK K
        refine wpAnyIn_ready (rs := [0, 2]) (by decide +kernel) (by simp) ?_
        refine AllReadyIn.cons rfl (fun K hK => ?_) ?_
        · go_simp
          refine hK _ _ ?_
          clear hK K
          refine wpAnyIn_ready (rs := [2]) (by decide +kernel) (by simp) ?_
          refine AllReadyIn.cons rfl (fun K hK => ?_) AllReadyIn.nil
          go_simp
          refine ⟨trivial, ?_⟩; gi_at_call 49; (with_reducible refine (CallsIn.inRound l (callsIn_wide.2 (clone_calls Ax R.length cx R rfl HRN.out.1 _ (Kd.C_below HZ.out (below_drew (Below.refl _ _)))))).mono ?_); rintro e w3 ⟨u, rfl, ho, hb⟩; obtain ⟨Au, cu, eu⟩ := Kd.R_slice ho; subst eu; obtain ⟨v1, w4, hrun, HA, HG, HAT⟩ := scan_app v (pre.map (·.2.2.1)) (.slice Au R.length cu) R X w3 w2.heap.size H5.out (Kd.R_drew H3.out) ho hb (by rw [List.length_map]; have := HRN.out.2; omega); obtain ⟨A1, c1, ev⟩ := Kd.R_slice HA.out; subst ev; rw [List.length_append, List.length_map, List.length_singleton] at HA; have HB3 := Aside0.mk (below_then (below_drew (Below.refl X.heap.size X)) (below_drew (Below.refl X.heap.size X)).size hb); have hlw : W.heap.size < w3.heap.size := Nat.lt_of_lt_of_le hlt HB3.out.size; have c0w := pw_cell_below HB3.out c0; have hne := Kd.R_ne H3.out H1.out (by decide); have h1w := Aside0.mk (blk_grown (blk_below H1.out HB3.out) HG.out hne); have h2w := Aside0.mk (blk_grown (blk_below H2.out HB3.out) HG.out (Kd.R_ne H3.out H2.out (by decide))); have f0w := blk_frozen h1w.out 0; have f1w := blk_frozen h2w.out 0; have c0v := blk_cell h1w.out 0; have c1v := blk_cell h2w.out 0; simp at c0v c1v; clear ho hb hne
          refine hK _ _ ?_
          clear hK K
          refine wpAnyIn_ready (rs := [3]) (by decide +kernel) (by simp) ?_
          refine AllReadyIn.cons rfl (fun K hK => ?_) AllReadyIn.nil
          go_simp
          refine hK _ _ ?_
          clear hK K
          refine wpAnyIn_ready (rs := [4]) (by decide +kernel) (by simp) ?_
          refine AllReadyIn.cons rfl (fun K hK => ?_) AllReadyIn.nil
          refine step_run_in (.tmp 10) (.tmp 13) 22 rfl rfl hrun ?_
          refine hK _ _ ?_
          clear hK K
          refine wpAnyIn_ready (rs := [5]) (by decide +kernel) (by simp) ?_
          refine AllReadyIn.cons rfl (fun K hK => ?_) AllReadyIn.nil
          go_simp
          refine hK _ _ ?_
          clear hK K
          refine wpAnyIn_done (by decide +kernel) ?_ _
          gi_wp2_with fail
          have hbase := fun k hk => Kd.R_base H3.out k hk
          have hsz := HS2.out
          have hge : ∀ k, k < w2.heap.size → some k ≠ v.ownBlock := fun k hk e => absurd (hbase k e.symm) (by omega)
          refine ⟨((keeps_below HB3.out).trans ((keeps_own (Kd.R_below H3.out HB3.out) HG.out).trans ((KeepsOthers.setCell _ _ _).trans (KeepsOthers.setCell _ _ _)))).from _, ⟨?_, fun u hu => ?_⟩, ?_⟩
          · exact (((HB3.out.mono (Nat.le_of_lt hlt)).grown HG.out (Nat.le_of_lt hlw) (fun k e => by have := hbase k e; omega)).setCell (p := ⟨W.heap.size, 0, none⟩) (Nat.le_refl _) _).setCell (p := ⟨W.heap.size + 1, 0, none⟩) (Nat.le_succ _) _
          · have hu3 := pw_cell_below HB3.out hu
            exact set_far (set_far (cell_grown HG.out hu3 (hge (W.heap.size + 1 + 1) (by omega))) (by simp <;> omega)) (by simp)
          · refine ⟨_, blk_far (blk_set h1w.out 0 _) (by simp) _, ?_, ?_, ?_, ?_⟩
            · rw [List.map_append, List.map_cons, List.map_nil, ends2_next]
              exact blk_set (blk_far h2w.out (by simp) _) 0 _
            · rw [List.map_append]
              exact R_set_low (R_set_low HA.out (p := ⟨W.heap.size, 0, none⟩) (show W.heap.size < w2.heap.size by omega) _) (p := ⟨W.heap.size + 1, 0, none⟩) (show W.heap.size + 1 < w2.heap.size by omega) _
            · exact (((below_then H4.out H4.out.size HB3.out).grown HG.out (by omega) (fun k e => by have := hbase k e; omega)).setCell (p := ⟨W.heap.size, 0, none⟩) (Nat.le_refl _) _).setCell (p := ⟨W.heap.size + 1, 0, none⟩) (Nat.le_succ _) _
            · have := HG.out.size
              have := HB3.out.size
              have := H5.out
              simp
              omega
        refine AllReadyIn.cons rfl (fun K hK => ?_) ?_
        · go_simp
          refine ⟨trivial, ?_⟩; gi_at_call 49; (with_reducible refine (CallsIn.inRound l (callsIn_wide.2 (clone_calls Ax R.length cx R rfl HRN.out.1 _ (Kd.C_below HZ.out (below_drew (Below.refl _ _)))))).mono ?_); rintro e w3 ⟨u, rfl, ho, hb⟩; obtain ⟨Au, cu, eu⟩ := Kd.R_slice ho; subst eu; obtain ⟨v1, w4, hrun, HA, HG, HAT⟩ := scan_app v (pre.map (·.2.2.1)) (.slice Au R.length cu) R X w3 w2.heap.size H5.out (Kd.R_drew H3.out) ho hb (by rw [List.length_map]; have := HRN.out.2; omega); obtain ⟨A1, c1, ev⟩ := Kd.R_slice HA.out; subst ev; rw [List.length_append, List.length_map, List.length_singleton] at HA; have HB3 := Aside0.mk (below_then (below_drew (Below.refl X.heap.size X)) (below_drew (Below.refl X.heap.size X)).size hb); have hlw : W.heap.size < w3.heap.size := Nat.lt_of_lt_of_le hlt HB3.out.size; have c0w := pw_cell_below HB3.out c0; have hne := Kd.R_ne H3.out H1.out (by decide); have h1w := Aside0.mk (blk_grown (blk_below H1.out HB3.out) HG.out hne); have h2w := Aside0.mk (blk_grown (blk_below H2.out HB3.out) HG.out (Kd.R_ne H3.out H2.out (by decide))); have f0w := blk_frozen h1w.out 0; have f1w := blk_frozen h2w.out 0; have c0v := blk_cell h1w.out 0; have c1v := blk_cell h2w.out 0; simp at c0v c1v; clear ho hb hne
          refine hK _ _ ?_
          clear hK K
          refine wpAnyIn_ready (rs := [0, 3]) (by decide +kernel) (by simp) ?_
          refine AllReadyIn.cons rfl (fun K hK => ?_) ?_
          · go_simp
            refine hK _ _ ?_
            clear hK K
            refine wpAnyIn_ready (rs := [3]) (by decide +kernel) (by simp) ?_
            refine AllReadyIn.cons rfl (fun K hK => ?_) AllReadyIn.nil
            go_simp
            refine hK _ _ ?_
            clear hK K
            refine wpAnyIn_ready (rs := [4]) (by decide +kernel) (by simp) ?_
            refine AllReadyIn.cons rfl (fun K hK => ?_) AllReadyIn.nil
            refine step_run_in (.tmp 10) (.tmp 13) 22 rfl rfl hrun ?_
            refine hK _ _ ?_
            clear hK K
            refine wpAnyIn_ready (rs := [5]) (by decide +kernel) (by simp) ?_
            refine AllReadyIn.cons rfl (fun K hK => ?_) AllReadyIn.nil
            go_simp
            refine hK _ _ ?_
            clear hK K
            refine wpAnyIn_done (by decide +kernel) ?_ _
            gi_wp2_with fail
            have hbase := fun k hk => Kd.R_base H3.out k hk
            have hsz := HS2.out
            have hge : ∀ k, k < w2.heap.size → some k ≠ v.ownBlock := fun k hk e => absurd (hbase k e.symm) (by omega)
            refine ⟨((keeps_below HB3.out).trans ((keeps_own (Kd.R_below H3.out HB3.out) HG.out).trans ((KeepsOthers.setCell _ _ _).trans (KeepsOthers.setCell _ _ _)))).from _, ⟨?_, fun u hu => ?_⟩, ?_⟩
            · exact (((HB3.out.mono (Nat.le_of_lt hlt)).grown HG.out (Nat.le_of_lt hlw) (fun k e => by have := hbase k e; omega)).setCell (p := ⟨W.heap.size, 0, none⟩) (Nat.le_refl _) _).setCell (p := ⟨W.heap.size + 1, 0, none⟩) (Nat.le_succ _) _
            · have hu3 := pw_cell_below HB3.out hu
              exact set_far (set_far (cell_grown HG.out hu3 (hge (W.heap.size + 1 + 1) (by omega))) (by simp <;> omega)) (by simp)
            · refine ⟨_, blk_far (blk_set h1w.out 0 _) (by simp) _, ?_, ?_, ?_, ?_⟩
              · rw [List.map_append, List.map_cons, List.map_nil, ends2_next]
                exact blk_set (blk_far h2w.out (by simp) _) 0 _
              · rw [List.map_append]
                exact R_set_low (R_set_low HA.out (p := ⟨W.heap.size, 0, none⟩) (show W.heap.size < w2.heap.size by omega) _) (p := ⟨W.heap.size + 1, 0, none⟩) (show W.heap.size + 1 < w2.heap.size by omega) _
              · exact (((below_then H4.out H4.out.size HB3.out).grown HG.out (by omega) (fun k e => by have := hbase k e; omega)).setCell (p := ⟨W.heap.size, 0, none⟩) (Nat.le_refl _) _).setCell (p := ⟨W.heap.size + 1, 0, none⟩) (Nat.le_succ _) _
              · have := HG.out.size
                have := HB3.out.size
                have := H5.out
                simp
                omega
          refine AllReadyIn.cons rfl (fun K hK => ?_) ?_
          · go_simp
            refine hK _ _ ?_
            clear hK K
            refine wpAnyIn_ready (rs := [0]) (by decide +kernel) (by simp) ?_
            refine AllReadyIn.cons rfl (fun K hK => ?_) AllReadyIn.nil
            go_simp
            refine hK _ _ ?_
            clear hK K
            refine wpAnyIn_ready (rs := [4]) (by decide +kernel) (by simp) ?_
            refine AllReadyIn.cons rfl (fun K hK => ?_) AllReadyIn.nil
            refine step_run_in (.tmp 10) (.tmp 13) 22 rfl rfl hrun ?_
            refine hK _ _ ?_
            clear hK K
            refine wpAnyIn_ready (rs := [5]) (by decide +kernel) (by simp) ?_
            refine AllReadyIn.cons rfl (fun K hK => ?_) AllReadyIn.nil
            go_simp
            refine hK _ _ ?_
            clear hK K
            refine wpAnyIn_done (by decide +kernel) ?_ _
            gi_wp2_with fail
            have hbase := fun k hk => Kd.R_base H3.out k hk
            have hsz := HS2.out
            have hge : ∀ k, k < w2.heap.size → some k ≠ v.ownBlock := fun k hk e => absurd (hbase k e.symm) (by omega)
            refine ⟨((keeps_below HB3.out).trans ((keeps_own (Kd.R_below H3.out HB3.out) HG.out).trans ((KeepsOthers.setCell _ _ _).trans (KeepsOthers.setCell _ _ _)))).from _, ⟨?_, fun u hu => ?_⟩, ?_⟩
            · exact (((HB3.out.mono (Nat.le_of_lt hlt)).grown HG.out (Nat.le_of_lt hlw) (fun k e => by have := hbase k e; omega)).setCell (p := ⟨W.heap.size, 0, none⟩) (Nat.le_refl _) _).setCell (p := ⟨W.heap.size + 1, 0, none⟩) (Nat.le_succ _) _
            · have hu3 := pw_cell_below HB3.out hu
              exact set_far (set_far (cell_grown HG.out hu3 (hge (W.heap.size + 1 + 1) (by omega))) (by simp <;> omega)) (by simp)
            · refine ⟨_, blk_far (blk_set h1w.out 0 _) (by simp) _, ?_, ?_, ?_, ?_⟩
              · rw [List.map_append, List.map_cons, List.map_nil, ends2_next]
                exact blk_set (blk_far h2w.out (by simp) _) 0 _
              · rw [List.map_append]
                exact R_set_low (R_set_low HA.out (p := ⟨W.heap.size, 0, none⟩) (show W.heap.size < w2.heap.size by omega) _) (p := ⟨W.heap.size + 1, 0, none⟩) (show W.heap.size + 1 < w2.heap.size by omega) _
              · exact (((below_then H4.out H4.out.size HB3.out).grown HG.out (by omega) (fun k e => by have := hbase k e; omega)).setCell (p := ⟨W.heap.size, 0, none⟩) (Nat.le_refl _) _).setCell (p := ⟨W.heap.size + 1, 0, none⟩) (Nat.le_succ _) _
              · have := HG.out.size
                have := HB3.out.size
                have := H5.out
                simp
                omega
          exact AllReadyIn.nil
        exact AllReadyIn.nil
      exact AllReadyIn.nil
      -- END region
  case done =>
    rintro D ys X hD hys ⟨v, h1, h2, h3, h4, h5⟩ hK
    have he : ys.map (·.1) = endsOf b := by
      unfold endsOf
      rw [← hys, List.map_map]
      rfl
    have hr : ys.map (·.2.2.1) = recsOf b := by
      unfold recsOf
      rw [← hys, List.map_map]
      rfl
    rw [he] at h2
    rw [hr] at h3
    obtain ⟨A1, c1, ev⟩ := Kd.R_slice h3
    subst ev
    have c0 := blk_cell h1 0
    have c1' := blk_cell h2 0
    have f0 := blk_frozen h1 0
    have f1 := blk_frozen h2 0
    simp at c0 c1'
    have H3 := Aside0.mk h3
    have H4 := Aside0.mk h4
    have HKD := Aside0.mk hK
    have hlt := blk_lt h1
    have hlt1 := blk_lt h2
    have H1 := Aside0.mk h1
    have H2 := Aside0.mk h2
    clear q7 b0 b1 h1 h2 h3 h4 hK hys he hr
    refine (‹∀ (a : Act) (w_1 : World), Code.wpIn _ _ _ _ _ a w_1 → _› _ _ ?_)
    gi_wp2_with fail
    gi_region
    gi_wp2_with fail
    obtain ⟨Y, hY⟩ : ∃ Y, ((X.setCell ⟨W.heap.size, 0, none⟩ (.slice A1 (recsOf b).length c1)).setCell ⟨W.heap.size + 1, 0, none⟩ (.int .i64 (((ends2 (endsOf b)).2 : Nat) : Int))).drew = Y := ⟨_, rfl⟩
    have hsz := HS2.out
    have k0 : Y.heap[W.heap.size]? = some (.cells #[.slice A1 (recsOf b).length c1] 22 (0, 0)) := by
      rw [← hY]; exact blk_drew (blk_far (blk_set H1.out 0 _) (by simp) _)
    have k1 : Y.heap[W.heap.size + 1]? = some (.cells #[.int .i64 (((ends2 (endsOf b)).2 : Nat) : Int)] 3 (0, 0)) := by
      rw [← hY]; exact blk_drew (blk_set (blk_far H2.out (by simp) _) 0 _)
    have kD : Y.heap[D]? = some (.deferred (some [])) := by
      rw [← hY]
      refine blk_drew ((Below.heap_setCell _ _ _ D ?_).trans ((Below.heap_setCell _ _ _ D ?_).trans HKD.out)) <;> (dsimp only; omega)
    have kR : (Kd.slice 5 (Kd.int .u8)).R 24 Y w2.heap.size (fun _ => True) (.slice A1 (recsOf b).length c1) (recsOf b) := by
      rw [← hY]
      exact Kd.R_drew (R_set_low (R_set_low H3.out (p := ⟨W.heap.size, 0, none⟩) (show W.heap.size < w2.heap.size by omega) _) (p := ⟨W.heap.size + 1, 0, none⟩) (show W.heap.size + 1 < w2.heap.size by omega) _)
    have kB : Below W.heap.size W Y := by
      rw [← hY]
      exact below_drew ((H4.out.setCell (p := ⟨W.heap.size, 0, none⟩) (Nat.le_refl _) _).setCell (p := ⟨W.heap.size + 1, 0, none⟩) (Nat.le_succ _) _)
    rw [hY]
    have hr' : ∀ r, some D = some r → ∃ o : Obj, Y.heap[r]? = some o ∧ o.isCells = false := fun r e => by cases e; exact ⟨_, kD, rfl⟩
    have g1 := cell_kept (blk_cell k0 0) (grownBy_putObj' Y D (.deferred none)) hr'
    have g2 := cell_kept (blk_cell k1 0) (grownBy_putObj' Y D (.deferred none)) hr'
    simp at g1 g2
    refine ⟨by simp, .inl ⟨_, _, rfl, run_takeDeferred (w := Y) kD, ?_⟩⟩
    refine ⟨.tuple #[.slice A1 (recsOf b).length c1, .int .i64 (((ends2 (endsOf b)).2 : Nat) : Int)], by simp [results, Tryd.results15, go_sem, g1, g2], _, rfl, ?_, ?_⟩
    · exact Kd.R_lower (R_putObj kR kD rfl _) (by omega)
    · exact putObj_below kB (by omega) kB.size _
end Go.Proofs.YteapdhfeddgjbaaDoor.Dg
end
section
/- the document's frames: Frame, First, Ends, plain and as calls; Same; Fits. -/
namespace Go.Proofs.YteapdhfeddgjbaaDoor.Dg
set_option linter.unusedVariables false
set_option linter.unusedSimpArgs false
open Go.RowKit Go.Proofs.YteapdhfeddgjbaaDoor.PDj Go.Proofs.YteapdhfeddgjbaaDoor.Num Go.Proofs.YteapdhfeddgjbaaDoorW Go.Proofs.YteapdhfeddgjbaaDoorW.PrintWords Go.Proofs.YteapdhfeddgjbaaDoorW.PrintLast Go.Proofs.YteapdhfeddgjbaaDoorW.PrintMore

theorem w4_ev (n : Nat) (hn : n ≤ 900000) : Ev (fun k => (cleromancyref01_Int.f k (n : Int)).bind fun t => cleromancyref01_ToBig.f k t 4) (w4 (n : Int)) := by
  refine Ev.bind (int_ev n (by omega)) ?_
  have h := tobig_ev (dg n) (dg_Dg _) (Nat.le_trans (dg_len_le _ 10 (by omega)) (by omega)) 4 (by omega)
  rw [vn_dg] at h
  have e := be4 (n : Int) (by omega)
  rw [Int.toNat_natCast] at e
  rw [e] at h
  exact h
theorem dframe_ev (l : List Int) (hb : Bt l) (hl : l.length ≤ 900000) : Ev (fun k => cleromancyref31_Frame.f k l) (frm l) := by
  have h4 : (w4 (l.length : Int)).length = 4 := rfl
  unfold cleromancyref31_Frame.f
  refine Ev.congr (fun k => by rw [← Option.bind_assoc]) ?_
  refine Ev.bind (w4_ev l.length hl) ?_
  refine Ev.congr (fun k => by rw [List.nil_append, List.length_nil, h4, if_pos (by omega), Option.bind_some, h4, if_pos (by omega)]) ?_
  refine Ev.bind (dsum_ev (w4 (l.length : Int) ++ l) ((w4_Bt _).append hb) (by rw [List.length_append, h4]; omega)) ?_
  have hs := sha_len (w4 (l.length : Int) ++ l)
  have h8 : ((sha (w4 (l.length : Int) ++ l)).take 8).length = 8 := by rw [List.length_take, hs]; rfl
  refine Ev.congr (fun k => by rw [Option.bind_some, hs, if_pos (by omega), Option.bind_some, h4, h8, if_pos (by omega), Option.bind_some, List.length_append, h4, h8, if_pos (by omega)]) ?_
  have e : w4 (l.length : Int) ++ (sha (w4 (l.length : Int) ++ l)).take 8 ++ l = frm l := by unfold frm chk; rw [List.append_assoc]
  rw [e]
  exact Ev.now _
/-- How many bytes the first whole frame has. -/
def firstN (l : List Int) : Nat := match nxt l with
  | some n => 12 + n
  | none => 0
theorem split_hd (l : List Int) (n : Nat) (h : 12 + n ≤ l.length) : l.take (12 + n) = l.take 4 ++ ((l.drop 4).take 8 ++ (l.drop 12).take n) := by
  have e1 : 12 + n = 4 + (8 + n) := by omega
  rw [e1, List.take_add, List.take_add, List.drop_drop]
theorem hd_w4 (l : List Int) (hb : Bt l) (h : 12 ≤ l.length) : l.take 4 = w4 (hdN l : Int) := by
  match l, h with
  | x0 :: x1 :: x2 :: x3 :: l, _ =>
    have h0 := hb x0 (by simp)
    have h1 := hb x1 (by simp)
    have h2 := hb x2 (by simp)
    have h3 := hb x3 (by simp)
    have e : hdN (x0 :: x1 :: x2 :: x3 :: l) = x0.toNat * 16777216 + x1.toNat * 65536 + x2.toNat * 256 + x3.toNat := by unfold hdN rd; simp
    rw [e]
    unfold w4
    simp only [List.take_succ_cons, List.take_zero]
    congr 1
    · omega
    · congr 1
      · omega
      · congr 1
        · omega
        · congr 1
          omega
theorem nxt_frm (l : List Int) (hb : Bt l) (h12 : 12 ≤ l.length) (h1 : hdN l ≤ 16777216) (h2 : hdN l + 12 ≤ l.length) : firstN l = if frm ((l.drop 12).take (hdN l)) = l.take (12 + hdN l) then 12 + hdN l else 0 := by
  have hl : ((l.drop 12).take (hdN l)).length = hdN l := by rw [List.length_take, List.length_drop]; omega
  have e1 : (frm ((l.drop 12).take (hdN l)) = l.take (12 + hdN l)) ↔ (l.drop 4).take 8 = chk (l.take 4) ((l.drop 12).take (hdN l)) := by
    unfold frm
    rw [hl, split_hd l _ (by omega), hd_w4 l hb h12]
    constructor
    · intro e
      have e2 := List.append_cancel_left e
      exact (List.append_inj e2 (by rw [chk_len, List.length_take, List.length_drop]; omega)).1.symm
    · intro e; rw [e]
  unfold firstN nxt
  by_cases hc : (l.drop 4).take 8 = chk (l.take 4) ((l.drop 12).take (hdN l))
  · rw [if_pos ⟨h12, h1, h2, hc⟩, if_pos (e1.2 hc)]
  · rw [if_neg (fun h => hc h.2.2.2), if_neg (fun h => hc (e1.1 h))]
theorem first_ev (l : List Int) (hb : Bt l) (hl : l.length ≤ 900000) : Ev (fun k => cleromancyref31_First.f k l) (firstN l : Int) := by
  unfold cleromancyref31_First.f
  by_cases h12 : l.length < 12
  · have e : firstN l = 0 := by unfold firstN nxt; rw [if_neg (fun h => by omega)]
    rw [e]
    refine Ev.congr (f := fun _ => some 0) (fun k => by rw [if_pos (by omega)]) (Ev.now _)
  · have r0 := hb.rd 0
    have r1 := hb.rd 1
    have r2 := hb.rd 2
    have r3 := hb.rd 3
    have ht : wrap64 (wrap64 (wrap64 (wrap64 (wrap64 (rd l 0) * 16777216) + wrap64 (wrap64 (rd l 1) * 65536)) + wrap64 (wrap64 (rd l 2) * 256)) + wrap64 (rd l 3)) = (hdN l : Int) := by
      unfold hdN
      generalize rd l 0 = x0 at *
      generalize rd l 1 = x1 at *
      generalize rd l 2 = x2 at *
      generalize rd l 3 = x3 at *
      have a0 : wrap64 (wrap64 x0 * 16777216) = x0 * 16777216 := by rw [w64 x0 (by omega) (by omega), w64 _ (by omega) (by omega)]
      have a1 : wrap64 (wrap64 x1 * 65536) = x1 * 65536 := by rw [w64 x1 (by omega) (by omega), w64 _ (by omega) (by omega)]
      have a2 : wrap64 (wrap64 x2 * 256) = x2 * 256 := by rw [w64 x2 (by omega) (by omega), w64 _ (by omega) (by omega)]
      have a3 : wrap64 x3 = x3 := w64 _ (by omega) (by omega)
      rw [a0, a1, a2, a3, w64 (x0 * 16777216 + x1 * 65536) (by omega) (by omega), w64 (x0 * 16777216 + x1 * 65536 + x2 * 256) (by omega) (by omega), w64 _ (by omega) (by omega)]
      omega
    refine Ev.congr (fun k => by rw [if_neg (by omega), if_pos (by omega), if_pos (by omega), if_pos (by omega), if_pos (by omega), ht]) ?_
    have hq := bt4 hb
    have hw : wrap64 (12 + (hdN l : Int)) = 12 + (hdN l : Int) := w64 _ (by omega) (by omega)
    have hbad : ¬ (hdN l ≤ 16777216 ∧ hdN l + 12 ≤ l.length) → firstN l = 0 := fun h => by
      unfold firstN nxt; rw [if_neg (fun h2 => h ⟨h2.2.1, h2.2.2.1⟩)]
    have hj : ∀ b, Ev (fun k => cleromancyref31_First.j0 k l (hdN l : Int) b) (if b = true then (0 : Int) else firstN l) ∨ b = false := fun b => by
      cases b
      · exact .inr rfl
      · refine .inl (Ev.step (f := fun _ => some 0) (fun k => by rw [cleromancyref31_First.j0, if_pos rfl]) ?_)
        exact Ev.now _
    by_cases h1 : (hdN l : Int) > 16777216
    · rw [hbad (by omega)]
      refine Ev.congr (fun k => by rw [if_pos h1]) ?_
      rcases hj true with h | h
      · exact h
      · cases h
    · refine Ev.congr (fun k => by rw [if_neg h1, hw]) ?_
      by_cases h2 : (12 + (hdN l : Int)) > (l.length : Int)
      · rw [hbad (by omega), decide_eq_true h2]
        rcases hj true with h | h
        · exact h
        · cases h
      · rw [decide_eq_false h2]
        have hn : 12 + hdN l ≤ l.length := by omega
        have et : ((12 + (hdN l : Int)).toNat) = 12 + hdN l := by omega
        have ed : (l.take (12 + hdN l)).drop 12 = (l.drop 12).take (hdN l) := by rw [List.drop_take]; congr 1; omega
        refine Ev.step (fun k => by rw [cleromancyref31_First.j0, if_neg (by simp), hw, if_pos (by omega), if_pos (by omega), et, ed]) ?_
        refine Ev.bind (dframe_ev _ ((hb.drop 12).take _) (by rw [List.length_take]; omega)) ?_
        refine Ev.congr (fun k => by rw [if_pos (by omega)]) ?_
        refine Ev.bind (same_ev _ _ (by rw [frm_len, List.length_take]; omega)) ?_
        rw [nxt_frm l hb (by omega) (by omega) (by omega)]
        by_cases hc : frm ((l.drop 12).take (hdN l)) = l.take (12 + hdN l)
        · rw [decide_eq_true hc, if_pos hc]
          refine Ev.congr (fun k => by rw [if_pos rfl]) ?_
          exact Ev.now _
        · rw [decide_eq_false hc, if_neg hc]
          refine Ev.congr (fun k => by rw [if_neg (by simp)]) ?_
          exact Ev.now _
end Go.Proofs.YteapdhfeddgjbaaDoor.Dg
end
section
/- the document's Frame, First, Ends, Same as calls; Fits; awake. -/
namespace Go.Proofs.YteapdhfeddgjbaaDoor.Dg
set_option linter.unusedVariables false
set_option linter.unusedSimpArgs false
open Go.RowKit Go.Proofs.YteapdhfeddgjbaaDoor.PDj Go.Proofs.YteapdhfeddgjbaaDoor.Num Go.Proofs.YteapdhfeddgjbaaDoorW Go.Proofs.YteapdhfeddgjbaaDoorW.PrintWords Go.Proofs.YteapdhfeddgjbaaDoorW.PrintLast Go.Proofs.YteapdhfeddgjbaaDoorW.PrintMore

def Tells (v : Value) (w : World) (e : Ending) (w' : World) : Prop := e = .returned v ∧ Below w.heap.size w w'
theorem dframe_calls (A : Option Addr) (n c : Nat) (l : List Int) (hn : l.length = n) (hb : Bt l) (hl : n ≤ 900000) (hc : n ≤ c) (w : World) (hC : Kd.C (Kd.int .u8) w A l.length l) :
    Calls Tryd.prog 18 #[.slice A n c] w (Own w (frm l)) := by
  subst hn
  obtain ⟨k, hk⟩ := Ev.rounds (dframe_ev l hb hl)
  exact cleromancyref31_Frame.calls k A c l _ w hC hc hk
theorem dfirst_calls (A : Option Addr) (n c : Nat) (l : List Int) (hn : l.length = n) (hb : Bt l) (hl : n ≤ 900000) (hc : n ≤ c) (w : World) (hC : Kd.C (Kd.int .u8) w A l.length l) :
    Calls Tryd.prog 50 #[.slice A n c] w (Tells (.int .i64 (firstN l : Int)) w) := by
  subst hn
  obtain ⟨k, hk⟩ := Ev.rounds (first_ev l hb hl)
  exact cleromancyref31_First.calls k A c l _ w hC hc hk
theorem same_calls (A0 : Option Addr) (n0 c0 : Nat) (l0 : List Int) (A1 : Option Addr) (n1 c1 : Nat) (l1 : List Int) (e0 : l0.length = n0) (e1 : l1.length = n1) (hl : n0 ≤ 1000000) (hc0 : n0 ≤ c0) (hc1 : n1 ≤ c1) (w : World) (hC0 : Kd.C (Kd.int .u8) w A0 l0.length l0) (hC1 : Kd.C (Kd.int .u8) w A1 l1.length l1) :
    Calls Tryd.prog 14 #[.slice A0 n0 c0, .slice A1 n1 c1] w (Tells (.bool (decide (l0 = l1))) w) := by
  subst e0 e1
  obtain ⟨k, hk⟩ := Ev.rounds (same_ev l0 l1 hl)
  refine (cleromancyref01_Same.calls k A0 c0 l0 A1 c1 l1 _ w hC0 hc0 hC1 hc1 hk).mono ?_
  rintro e w' ⟨h1, h2⟩
  exact ⟨h1, h2.below⟩
theorem C_drop {W : World} {A : Option Addr} {l : List Int} (h : Kd.C (Kd.int .u8) W A l.length l) (a c : Nat) (ha : a ≤ l.length) (hc : l.length ≤ c) : Kd.C (Kd.int .u8) W (if c = a then A else A.map (·.add a)) (l.drop a).length (l.drop a) := by
  have h2 := ReadsOf.drop_ (Kd.reads_of_C (h1 := fun _ => rfl) (d := (0 : Int)) h) a ha hc
  have e : l.length - a = (l.drop a).length := by rw [List.length_drop]
  rw [e] at h2
  exact Kd.C_of_reads (h1 := fun _ => rfl) h2
theorem firstN_some {l : List Int} (h : 0 < firstN l) : ∃ n, nxt l = some n ∧ firstN l = 12 + n := by
  unfold firstN at h ⊢
  cases e : nxt l with
  | none => rw [e] at h; cases h
  | some n => exact ⟨n, rfl, rfl⟩
theorem firstN_none {l : List Int} (h : firstN l = 0) : nxt l = none := by
  unfold firstN at h
  cases e : nxt l with
  | none => rfl
  | some n => rw [e] at h; simp at h
theorem info3 : (Tryd.prog.info? 3).map (fun i => (i.zero, i.size, i.bytes)) = some (some (.int .i64 0), 1, 8) := by kernel_rfl
theorem wrap_sum (a n : Nat) (h : a + n ≤ 900000) : wrap64 ((a : Int) + (n : Int)) = (a : Int) + (n : Int) := IntWalk.wrap64_in _ (by omega)
theorem info5p : ∃ i, Tryd.prog.info? 5 = some i ∧ i.size = 1 := by
  obtain ⟨i0, hi, hzz⟩ := Option.map_eq_some_iff.1 info5
  simp only [Prod.mk.injEq] at hzz
  exact ⟨i0, hi, hzz.2.1⟩
/-- A row of bytes from a place on. -/
theorem cut_drop {b : List Int} {N c : Nat} {A : Option Addr} (hN : b.length = N) (hc : N ≤ c) (a : Nat) (ha : a ≤ N) :
    ∃ A', (∀ W : World, (Instr.slice 24 (.slice A N c) (some (.int .i64 (a : Int))) none none).run Tryd.prog W = .ok (.slice A' (N - a) (c - a)) W) ∧ (∀ w : World, Kd.C (Kd.int .u8) w A b.length b → Kd.C (Kd.int .u8) w A' (b.drop a).length (b.drop a)) := by
  subst hN
  obtain ⟨i0, hi, hs⟩ := info5p
  obtain ⟨A', h1, h2, h3⟩ := print_drop_of (P := Tryd.prog) (Value.int .u8) (0 : Int) 24 5 .i64 Tryd.underlying24 hi hs A c b (a : Int) (by omega) (by omega) hc
  rw [Int.toNat_natCast, List.length_drop] at h1
  rw [Int.toNat_natCast] at h2
  exact ⟨A', h1, fun w h => Kd.C_of_reads (h1 := fun _ => rfl) (h2 w (Kd.reads_of_C (h1 := fun _ => rfl) h))⟩
theorem cut_mid {b : List Int} {N c : Nat} {A : Option Addr} (hN : b.length = N) (hc : N ≤ c) (a e : Nat) (ha : a ≤ e) (he : e ≤ N) :
    ∃ A', (∀ W : World, (Instr.slice 24 (.slice A N c) (some (.int .i64 (a : Int))) (some (.int .i64 (e : Int))) none).run Tryd.prog W = .ok (.slice A' (e - a) (c - a)) W) ∧ (∀ w : World, Kd.C (Kd.int .u8) w A b.length b → Kd.C (Kd.int .u8) w A' ((b.take e).drop a).length ((b.take e).drop a)) := by
  subst hN
  obtain ⟨i0, hi, hs⟩ := info5p
  obtain ⟨A', h1, h2, h3⟩ := print_mid_of (P := Tryd.prog) (Value.int .u8) (0 : Int) 24 5 .i64 .i64 Tryd.underlying24 hi hs A c b (a : Int) (e : Int) (by omega) (by omega) (by omega) hc
  rw [Int.toNat_natCast, Int.toNat_natCast] at h1 h2
  have hl : ((b.take e).drop a).length = e - a := by rw [List.length_drop, List.length_take]; omega
  rw [hl] at h1
  exact ⟨A', h1, fun w h => Kd.C_of_reads (h1 := fun _ => rfl) (h2 w (Kd.reads_of_C (h1 := fun _ => rfl) h))⟩
theorem cut_take {b : List Int} {N c : Nat} {A : Option Addr} (hN : b.length = N) (hc : N ≤ c) (e : Nat) (he : e ≤ N) :
    (∀ W : World, (Instr.slice 24 (.slice A N c) none (some (.int .i64 (e : Int))) none).run Tryd.prog W = .ok (.slice A e c) W) ∧ (∀ w : World, Kd.C (Kd.int .u8) w A b.length b → Kd.C (Kd.int .u8) w A (b.take e).length (b.take e)) := by
  subst hN
  obtain ⟨i0, hi, hs⟩ := info5p
  obtain ⟨h1, h2, h3⟩ := print_take_of (P := Tryd.prog) (Value.int .u8) (0 : Int) 24 5 .i64 Tryd.underlying24 hi hs A c b (e : Int) (by omega) (by omega) hc
  rw [Int.toNat_natCast] at h1 h2
  have hl : (b.take e).length = e := by rw [List.length_take]; omega
  rw [hl] at h1
  exact ⟨h1, fun w h => C_take h e he⟩
set_option maxHeartbeats 3200000 in
set_option maxRecDepth 100000 in
theorem ends_calls (A : Option Addr) (N c : Nat) (b : List Int) (hN : b.length = N) (hb : Bt b) (hN1 : N ≤ 900000) (hc : N ≤ c) (w : World) (hC : Kd.C (Kd.int .u8) w A b.length b) :
    Calls Tryd.prog 17 #[.slice A N c] w fun e w' => ∃ v, e = .returned v ∧ Kd.R (Kd.int .i64) 3 w' w.heap.size (fun _ => True) v ((endsOf b).map (fun n : Nat => (n : Int))) ∧ Below w.heap.size w w' := by
  have HN := Aside0.mk hN
  have HBT := Aside0.mk hb
  have HN1 := Aside0.mk hN1
  have HC := Aside0.mk hC
  have HCC := Aside0.mk hc
  clear hN hb hN1 hc hC
  go_enter Tryd.func17, Tryd.ntmps17
  go_wp2
  go_loopw [3, 4] (fun v3 v4 wr => ∃ (a k : Nat) (pre : List Nat), v4 = .int .i64 (a : Int) ∧ Aside0 (a ≤ N) ∧ Aside0 (N - a < k) ∧ Aside0 (pre.length ≤ a) ∧ Aside0 (endsOf b = pre ++ (fra b k a).map (·.1)) ∧ Aside0 (Kd.R (Kd.int .i64) 3 wr w.heap.size (fun _ => True) v3 (pre.map (fun n : Nat => (n : Int)))) ∧ Aside0 (Below w.heap.size w wr))
    (fun _ v4 _ => N - (intOf v4).toNat)
  case atStart => exact ⟨0, N + 1, [], rfl, ⟨Nat.zero_le _⟩, ⟨by omega⟩, ⟨Nat.le_refl _⟩, ⟨by have h := HN.out; subst h; rfl⟩, ⟨Kd.R_nil _ _ _ _ _⟩, ⟨Below.refl _ _⟩⟩
  case round =>
    obtain ⟨a, k, pre, rfl, HA, HKK, HPL, HF, HR, HB⟩ := hrel
    obtain ⟨A3, c3, e3⟩ := Kd.R_slice HR.out
    subst e3
    rw [List.length_map] at HR
    have ha := HA.out
    have hac : (a : Int) ≤ (N : Int) := by omega
    have hac2 : a ≤ c := Nat.le_trans ha HCC.out
    obtain ⟨A', hcut, hA'⟩ := cut_drop HN.out HCC.out (A := A) a ha
    have HCd := Aside0.mk (hA' w HC.out)
    clear hA'
    have hFI : ∀ W' : World, Below w.heap.size w W' → Calls Tryd.prog 50 #[.slice A' (N - a) (c - a)] W' (Tells (.int .i64 (firstN (b.drop a) : Int)) W') := fun W' hb => dfirst_calls A' (N - a) (c - a) (b.drop a) (by rw [List.length_drop, HN.out]) (HBT.out.drop a) (by have := HN1.out; omega) (by have := HCC.out; omega) W' (Kd.C_below HCd.out hb)
    have HFI := Aside0.mk hFI
    clear hFI
    by_cases hz : firstN (b.drop a) = 0
    · rw [hz] at HFI
      have HNX := Aside0.mk (firstN_none hz)
      clear hz
      go_wp2_with (first
        | (go_at_call 50; (with_reducible refine (HFI.out _ HB.out).mono ?_); rintro e w1 ⟨rfl, hb1⟩; have HB1 := Aside0.mk hb1; clear hb1)
        | fail)
      go_ret
      refine ⟨_, rfl, ?_, below_then HB.out HB.out.size HB1.out⟩
      rw [HF.out, fra_none HNX.out, List.map_nil, List.append_nil]
      exact Kd.R_below HR.out HB1.out
    · obtain ⟨n, hnx, hn⟩ := firstN_some (Nat.pos_of_ne_zero hz)
      rw [hn] at HFI
      have hnl := (nxt_le hnx).1
      rw [List.length_drop, HN.out] at hnl
      have HX : Aside0 (endsOf b = (pre ++ [a + (12 + n)]) ++ (fra b (k - 1) (a + (12 + n))).map (·.1)) := ⟨by
        have h1 := HKK.out
        rw [HF.out]
        obtain ⟨k', rfl⟩ : ∃ k', k = k' + 1 := ⟨k - 1, by omega⟩
        rw [fra_some hnx]
        simp⟩
      obtain ⟨s, hs⟩ : ∃ s, 12 + n = s := ⟨_, rfl⟩
      rw [hs] at HFI HX
      have hs0 : (0 : Int) < (s : Int) := by omega
      have hw := wrap_sum a s (by have := HN1.out; omega)
      have HSN : Aside0 (a + s ≤ N) := ⟨by omega⟩
      have HMM : Aside0 (N - (a + s) < k - 1) := ⟨by have := HKK.out; omega⟩
      have HLP : Aside0 (pre.length + 1 ≤ a + s) := ⟨by have := HPL.out; omega⟩
      have hls : pre.length ≤ 900000 := by have := HPL.out; have := HN1.out; omega
      have HMS : Aside0 (N - (a + s) < N - a) := ⟨by omega⟩
      clear hz hnx hn hnl hs
      go_wp2_with (first
        | (go_at_call 50; (with_reducible refine (HFI.out _ HB.out).mono ?_); rintro e w1 ⟨rfl, hb1⟩; have HB1 := Aside0.mk (below_then HB.out HB.out.size hb1); have HR1 := Aside0.mk (Kd.R_below HR.out hb1); clear hb1)
        | (go_at_call 50; (with_reducible refine (HFI.out _ HB1.out).mono ?_); rintro e w2 ⟨rfl, hb2⟩; have HB2 := Aside0.mk (below_then HB1.out HB1.out.size hb2); have HR2 := Aside0.mk (Kd.R_below HR1.out hb2); clear hb2)
        | (at_builtin; refine Kd.R_append (Kd.int .i64) (w0 := w) (W := w2) w.heap.size rfl _ _ 31 3 (.int .i64 0) 8 rfl Tryd.underlying31 info3 rfl (by decide) (by decide) (.slice A3 pre.length c3) (pre.map (fun n : Nat => (n : Int))) ((a : Int) + (s : Int)) [.int .i64 ((a : Int) + (s : Int))] (fun _ => True) (fun _ => False) rfl rfl rfl (fun _ h => h.elim) (fun _ _ => trivial) HR2.out HB2.out HB2.out.size (by rw [List.length_map]; omega) ?_; intro v1 w3 ho hb3 hg hat; have HO := Aside0.mk ho; have HB3 := Aside0.mk hb3; clear ho hb3 hg hat)
        | fail)
      refine ⟨⟨a + s, k - 1, pre ++ [a + s], rfl, HSN, HMM, ⟨by rw [List.length_append]; exact HLP.out⟩, HX, ⟨by rw [List.map_append]; exact HO.out⟩, HB3⟩, ?_⟩
      simp [intOf]
      exact HMS.out
end Go.Proofs.YteapdhfeddgjbaaDoor.Dg
end
section
/- journal: records that are framed, plain; Fits; awake. -/
namespace Go.Proofs.YteapdhfeddgjbaaDoor.Dg
set_option linter.unusedVariables false
set_option linter.unusedSimpArgs false
open Go.RowKit Go.Proofs.YteapdhfeddgjbaaDoor.PDj Go.Proofs.YteapdhfeddgjbaaDoor.Num Go.Proofs.YteapdhfeddgjbaaDoorW Go.Proofs.YteapdhfeddgjbaaDoorW.PrintWords Go.Proofs.YteapdhfeddgjbaaDoorW.PrintLast Go.Proofs.YteapdhfeddgjbaaDoorW.PrintMore

theorem frm_Bt {r : List Int} (h : Bt r) : Bt (frm r) := (w4_Bt _).append (((sha_Bt _).take 8).append h)
theorem hdN_w4 (n : Nat) (hn : n ≤ 900000) (x : List Int) : hdN (w4 (n : Int) ++ x) = n := by
  unfold hdN w4 rd
  simp
  omega
theorem nxt_frm_app (r x : List Int) (hr : r.length ≤ 900000) : nxt (frm r ++ x) = some r.length := by
  have h4 : (w4 (r.length : Int)).length = 4 := rfl
  have hl : (frm r ++ x).length = 12 + r.length + x.length := by rw [List.length_append, frm_len]
  have hh : hdN (frm r ++ x) = r.length := by unfold frm; rw [List.append_assoc]; exact hdN_w4 _ hr _
  have e1 : (frm r ++ x).take 4 = w4 (r.length : Int) := by
    unfold frm
    rw [List.append_assoc, List.take_append_of_le_length (by rw [h4]; exact Nat.le_refl _), List.take_of_length_le (by rw [h4]; exact Nat.le_refl _)]
  have e2 : (frm r ++ x).drop 4 = chk (w4 (r.length : Int)) r ++ (r ++ x) := by
    unfold frm
    rw [List.append_assoc, List.drop_append_of_le_length (by rw [h4]; exact Nat.le_refl _), List.drop_of_length_le (by rw [h4]; exact Nat.le_refl _), List.nil_append, List.append_assoc]
  have e3 : ((frm r ++ x).drop 4).take 8 = chk (w4 (r.length : Int)) r := by
    rw [e2, List.take_append_of_le_length (by rw [chk_len]; exact Nat.le_refl _), List.take_of_length_le (by rw [chk_len]; exact Nat.le_refl _)]
  have e4 : (frm r ++ x).drop 12 = r ++ x := by
    rw [show 12 = 4 + 8 from rfl, ← List.drop_drop, e2, List.drop_append_of_le_length (by rw [chk_len]; exact Nat.le_refl _), List.drop_of_length_le (by rw [chk_len]; exact Nat.le_refl _), List.nil_append]
  have e5 : ((frm r ++ x).drop 12).take r.length = r := by rw [e4, List.take_append_of_le_length (Nat.le_refl _), List.take_of_length_le (Nat.le_refl _)]
  unfold nxt
  rw [hh, e3, e1, e5, if_pos ⟨by omega, by omega, by omega, rfl⟩]
/-- Records framed, one behind the other. -/
def cat : List (List Int) → List Int
  | [] => []
  | r :: rs => frm r ++ cat rs
def endsFrom : Nat → List (List Int) → List (Nat × List Int)
  | _, [] => []
  | a, r :: rs => (a + (12 + r.length), r) :: endsFrom (a + (12 + r.length)) rs
theorem fra_cat (b t : List Int) (ht : nxt t = none) : ∀ rs a k, (∀ r ∈ rs, r.length ≤ 900000) → b.drop a = cat rs ++ t → rs.length ≤ k → fra b k a = endsFrom a rs
  | [], a, k, _, hb, _ => by rw [fra_none (by rw [hb]; exact ht)]; rfl
  | r :: rs, a, 0, _, _, hk => by simp at hk
  | r :: rs, a, k + 1, hr, hb, hk => by
    have h1 := hr r List.mem_cons_self
    rw [cat, List.append_assoc] at hb
    have e := nxt_frm_app r (cat rs ++ t) h1
    have hn : nxt (b.drop a) = some r.length := by rw [hb]; exact e
    have hd : (b.drop a).drop (12 + r.length) = cat rs ++ t := by
      rw [hb, List.drop_append_of_le_length (by rw [frm_len]; exact Nat.le_refl _), List.drop_of_length_le (by rw [frm_len]; exact Nat.le_refl _), List.nil_append]
    have hx : ((b.drop a).drop 12).take r.length = r := by
      rw [hb]
      have h2 := split_hd (frm r ++ (cat rs ++ t)) r.length (by rw [List.length_append, frm_len]; omega)
      rw [List.take_append_of_le_length (by rw [frm_len]; exact Nat.le_refl _), List.take_of_length_le (by rw [frm_len]; exact Nat.le_refl _)] at h2
      have h3 : (frm r).drop 12 = r := by
        unfold frm
        rw [← List.append_assoc, List.drop_append_of_le_length (by rw [List.length_append, chk_len]; exact Nat.le_refl _), List.drop_of_length_le (by rw [List.length_append, chk_len]; exact Nat.le_refl _), List.nil_append]
      rw [List.drop_append_of_le_length (by rw [frm_len]; omega), h3, List.take_append_of_le_length (Nat.le_refl _), List.take_of_length_le (Nat.le_refl _)]
    rw [fra_some hn, endsFrom, hx, fra_cat b t ht rs (a + (12 + r.length)) k (fun x hx => hr x (List.mem_cons_of_mem _ hx)) (by rw [← List.drop_drop]; exact hd) (by simp at hk; omega)]
theorem cat_len : ∀ rs, (cat rs).length = 12 * rs.length + (rs.map List.length).sum
  | [] => rfl
  | r :: rs => by rw [cat, List.length_append, frm_len, cat_len rs]; simp; omega
theorem nxt_nil : nxt [] = none := by unfold nxt; rw [if_neg (fun h => by simp at h)]
theorem frames_cat (rs : List (List Int)) (t : List Int) (ht : nxt t = none) (hr : ∀ r ∈ rs, r.length ≤ 900000) : frames (cat rs ++ t) = endsFrom 0 rs :=
  fra_cat (cat rs ++ t) t ht rs 0 _ hr rfl (by rw [List.length_append, cat_len]; omega)
theorem frames_one : frames (frm []) = [(12, [])] := by
  have h := frames_cat [[]] [] nxt_nil (by simp)
  simpa [cat, endsFrom] using h
theorem fits_calls (k : Int) (A : Option Addr) (n c : Nat) (A1 : Option Addr) (n1 c1 : Nat) (hn : n ≤ 900000) (hn1 : n1 ≤ 900000) (w : World) :
    Calls Tryd.prog 19 #[.int .i64 k, .slice A n c, .slice A1 n1 c1] w fun e w' => e = .returned (.bool (decide ((n : Int) + 12 + (n1 : Int) ≤ k))) ∧ w = w' := by
  have h1 : wrap64 ((n : Int) + 12) = (n : Int) + 12 := IntWalk.wrap64_in _ (by omega)
  have h2 : wrap64 ((n : Int) + 12 + (n1 : Int)) = (n : Int) + 12 + (n1 : Int) := IntWalk.wrap64_in _ (by omega)
  go_enter Tryd.func19, Tryd.ntmps19
  go_wp2
  go_ret
  exact ⟨rfl, rfl⟩
set_option maxHeartbeats 1600000 in
set_option maxRecDepth 100000 in
theorem jawake_calls (w : World) (hK : Tab w 2 KK) : Calls Tryd.prog 11 #[] w (Tells (.bool true) w) := by
  have HFR := Aside0.mk (frame_calls none 0 0 [] rfl (by omega) (Nat.le_refl _) (fun x hx => by cases hx) w (Kd.C_nil _ _) hK)
  have HK := Aside0.mk hK
  have hfl : (frm []).length = 12 := by rw [frm_len]; rfl
  have e1 : (ends2 (endsOf (frm []))).2 = 12 := by unfold endsOf; rw [frames_one]; rfl
  have e2 : recsOf (frm []) = [[]] := by unfold recsOf; rw [frames_one]; rfl
  have HBF := Aside0.mk (frm_Bt (r := []) (fun x hx => by cases hx))
  have E1 := Aside0.mk e1
  have E2 := Aside0.mk e2
  have HFL := Aside0.mk hfl
  clear hK hfl e1 e2
  go_enter Tryd.func11, Tryd.ntmps11
  go_wp2_with (first
    | (go_at_call 12; (with_reducible refine HFR.out.mono ?_); rintro e w1 ⟨v1, rfl, ho, hb⟩; obtain ⟨A1, c1, e1⟩ := Kd.R_slice ho; subst e1; have hr := (Kd.R_reads' ho).2; rw [HFL.out] at hr ⊢; have HC := Aside0.mk hr.1; have HR := Aside0.mk hr.2; have HB := Aside0.mk hb; clear ho hb hr)
    | (go_at_call 15; (with_reducible refine (scan_calls A1 12 c1 (frm []) HFL.out HBF.out (by omega) HC.out w1 (by rw [HFL.out]; exact HR.out) (HK.out.below HB.out)).mono ?_); rintro e w2 ⟨v2, rfl, ho, hb⟩; rw [E1.out]; rw [E2.out] at ho; obtain ⟨A2, c2, e2⟩ := Kd.R_slice ho; subst e2; have HB2 := Aside0.mk (below_then HB.out HB.out.size hb); clear ho hb)
    | fail)
  go_ret
  exact ⟨rfl, HB2.out⟩
end Go.Proofs.YteapdhfeddgjbaaDoor.Dg
end
section
/- Statement JournalScans: the walk of the law. -/
namespace Go.Proofs.YteapdhfeddgjbaaDoor.Dg
set_option linter.unusedVariables false
set_option linter.unusedSimpArgs false
open Go.RowKit Go.Proofs.YteapdhfeddgjbaaDoor.PDj Go.Proofs.YteapdhfeddgjbaaDoor.Num Go.Proofs.YteapdhfeddgjbaaDoorW Go.Proofs.YteapdhfeddgjbaaDoorW.PrintWords Go.Proofs.YteapdhfeddgjbaaDoorW.PrintLast Go.Proofs.YteapdhfeddgjbaaDoorW.PrintMore

theorem at_row {w : World} {A : Option Addr} {n : Nat} {xs : List (List Int)} (h : (Kd.slice 5 (Kd.int .u8)).C w A n xs) (i : Nat) (hi : i < n) :
    ∃ ad A' c', A = some ad ∧ w.cell? (ad.add i) = some (.slice A' (xs.getD i []).length c') ∧ (xs.getD i []).length ≤ c' ∧ Kd.C (Kd.int .u8) w A' (xs.getD i []).length (xs.getD i []) := by
  obtain ⟨ad, c, e, hl, ⟨A', c', rfl, h1, h2⟩, hc⟩ := Kd.C_get h [] (i : Int) (by omega) (by omega)
  refine ⟨ad, A', c', e, ?_, ?_, ?_⟩
  · have := hc 0 _ rfl
    simpa [Kd.slice] using this
  · simpa using h1
  · simpa using h2
theorem rd_mid (l1 l2 : List Nat) (x : Nat) : rd ((l1 ++ x :: l2).map (fun n : Nat => (n : Int))) (l1.length : Int) = (x : Int) := by
  unfold rd
  simp
theorem getD_mid (l1 l2 : List (List Int)) (x : List Int) : (l1 ++ x :: l2).getD l1.length [] = x := by simp
theorem drop_mid (b : List Int) (a n : Nat) : (b.take (a + (12 + n))).drop (a + 12) = ((b.drop a).drop 12).take n := by
  rw [List.drop_take, List.drop_drop]
  congr 1
  omega
theorem cut_len (b : List Int) (a n : Nat) (h : a + (12 + n) ≤ b.length) : (((b.drop a).drop 12).take n).length = n := by
  rw [List.length_take, List.length_drop, List.length_drop]; omega
theorem i64_12 (n : Nat) (h : n ≤ 900000) : IntKind.i64.wrap ((n : Int) + 12) = (n : Int) + 12 := by
  have h2 : (2 : Int) ^ 62 = 4611686018427387904 := by decide
  exact i64_nat _ (by omega) (by omega)
theorem meas_nat {i M : Nat} (h : i < M) : M - (intOf (.int .i64 ((i : Int) + 1))).toNat < M - (intOf (.int .i64 (i : Int))).toNat := by simp [intOf]; omega
theorem next_frame (b : List Int) (pre : List (Nat × List Int)) (q a i M : Nat) (hp : pre.length = i) (hf : frames b = pre ++ fra b q a) (hM : (frames b).length = M) (hi : i < M) :
    ∃ (n : Nat) (f : List Int), Aside0 (a + (12 + n) ≤ b.length) ∧ Aside0 (f = ((b.drop a).drop 12).take n) ∧ Aside0 (rd ((endsOf b).map (fun n : Nat => (n : Int))) (i : Int) = ((a + (12 + n) : Nat) : Int)) ∧ Aside0 ((recsOf b).getD i [] = f) ∧ Aside0 (frames b = (pre ++ [(a + (12 + n), f)]) ++ fra b (q - 1) (a + (12 + n))) := by
  subst hp hM
  cases q with
  | zero => rw [hf, fra, List.append_nil] at hi; exact absurd hi (Nat.lt_irrefl _)
  | succ q =>
    cases e : nxt (b.drop a) with
    | none => rw [hf, fra_none e, List.append_nil] at hi; exact absurd hi (Nat.lt_irrefl _)
    | some n =>
      rw [fra_some e] at hf
      have hle := (nxt_le e).1
      rw [List.length_drop] at hle
      refine ⟨n, _, ⟨by omega⟩, ⟨rfl⟩, ⟨?_⟩, ⟨?_⟩, ⟨?_⟩⟩
      · unfold endsOf
        rw [hf, List.map_append, List.map_cons]
        have h := rd_mid (pre.map (·.1)) ((fra b q (a + (12 + n))).map (·.1)) (a + (12 + n))
        rw [List.length_map] at h
        exact h
      · unfold recsOf
        rw [hf, List.map_append, List.map_cons]
        have h := getD_mid (pre.map (·.2)) ((fra b q (a + (12 + n))).map (·.2)) (((b.drop a).drop 12).take n)
        rw [List.length_map] at h
        exact h
      · rw [hf, List.append_assoc]; rfl
set_option maxHeartbeats 6400000 in
set_option maxRecDepth 100000 in
theorem jscans_walk (A0 : Option Addr) (n0 c0 : Nat) (b : List Int) (A1 : Option Addr) (n1 c1 : Nat) (r : List Int) (k : Int) (w : World) (hn0 : b.length = n0) (hc0 : n0 ≤ c0) (hb : Bt b) (hC0 : Kd.C (Kd.int .u8) w A0 b.length b)
    (hn1 : r.length = n1) (hc1 : n1 ≤ c1) (hr : Bt r) (hC1 : Kd.C (Kd.int .u8) w A1 r.length r) (hk : -9223372036854775808 ≤ k ∧ k ≤ 9223372036854775807) (hK : Tab w 2 KK) :
    Calls Tryd.prog 4 #[.slice A0 n0 c0, .slice A1 n1 c1, .int .i64 k] w (Tells (.bool true) w) := by
  have HAW := Aside0.mk (jawake_calls w hK)
  by_cases hbig : 3000 < n0 ∨ 1000 < n1
  · clear hC0 hC1 hK hb hr hn0 hn1
    by_cases h0 : 3000 < n0
    · have h0' : (3000 : Int) < (n0 : Int) := by omega
      clear hbig
      go_enter Tryd.func4, Tryd.ntmps4
      go_wp2_with (first
        | (go_at_call 11; (with_reducible refine HAW.out.mono ?_); rintro e w1 ⟨rfl, hb1⟩; have HB1 := Aside0.mk hb1; clear hb1)
        | fail)
      go_ret
      exact ⟨rfl, HB1.out⟩
    · have h0' : ¬ (3000 : Int) < (n0 : Int) := by omega
      have h1' : (1000 : Int) < (n1 : Int) := by omega
      clear hbig
      go_enter Tryd.func4, Tryd.ntmps4
      go_wp2_with (first
        | (go_at_call 11; (with_reducible refine HAW.out.mono ?_); rintro e w1 ⟨rfl, hb1⟩; have HB1 := Aside0.mk hb1; clear hb1)
        | fail)
      go_ret
      exact ⟨rfl, HB1.out⟩
  · have h0' : ¬ (3000 : Int) < (n0 : Int) := by omega
    have h1' : ¬ (1000 : Int) < (n1 : Int) := by omega
    obtain ⟨U, HU⟩ : ∃ U, Aside0 ((ends2 (endsOf b)).2 = U) := ⟨_, ⟨rfl⟩⟩
    have HSC : Aside0 (∀ W', Below w.heap.size w W' → Calls Tryd.prog 15 #[.slice A0 n0 c0] W' fun e w' => ∃ v, e = .returned (.tuple #[v, .int .i64 (U : Int)]) ∧ (Kd.slice 5 (Kd.int .u8)).R 24 w' W'.heap.size (fun _ => True) v (recsOf b) ∧ Below W'.heap.size W' w') :=
      ⟨by rw [← HU.out]; exact fun W' h => scan_calls A0 n0 c0 b hn0 hb (by omega) hc0 W' (Kd.C_below hC0 h) (hK.below h)⟩
    have HEN : Aside0 (∀ W', Below w.heap.size w W' → Calls Tryd.prog 17 #[.slice A0 n0 c0] W' fun e w' => ∃ v, e = .returned v ∧ Kd.R (Kd.int .i64) 3 w' W'.heap.size (fun _ => True) v ((endsOf b).map (fun n : Nat => (n : Int))) ∧ Below W'.heap.size W' w') :=
      ⟨fun W' h => ends_calls A0 n0 c0 b hn0 hb (by omega) hc0 W' (Kd.C_below hC0 h)⟩
    have HFR : Aside0 (∀ W', Below w.heap.size w W' → Calls Tryd.prog 12 #[.slice A1 n1 c1] W' (Own W' (frm r))) := ⟨fun W' h => frame_calls A1 n1 c1 r hn1 (by omega) hc1 hr W' (Kd.C_below hC1 h) (hK.below h)⟩
    have HDF : Aside0 (∀ W', Below w.heap.size w W' → Calls Tryd.prog 18 #[.slice A1 n1 c1] W' (Own W' (frm r))) := ⟨fun W' h => dframe_calls A1 n1 c1 r hn1 hr (by omega) hc1 W' (Kd.C_below hC1 h)⟩
    have HTO : Aside0 (∀ W', Below w.heap.size w W' → Calls Tryd.prog 16 #[.slice A0 n0 c0, .int .i64 k] W' (Own W' (b.take (tornN b k)))) := ⟨fun W' h => torn_calls A0 n0 c0 b k hn0 hb (by omega) hc0 hk W' (Kd.C_below hC0 h) (hK.below h)⟩
    have hfl : (frm r).length = 12 + n1 := by rw [frm_len, hn1]
    obtain ⟨F, hF⟩ : ∃ F, frm r = F := ⟨_, rfl⟩
    rw [hF] at HFR HDF hfl
    have HFL := Aside0.mk hfl
    have HSM : Aside0 (∀ W' A c A' c', 12 + n1 ≤ c → 12 + n1 ≤ c' → Kd.C (Kd.int .u8) W' A F.length F → Kd.C (Kd.int .u8) W' A' F.length F → Calls Tryd.prog 14 #[.slice A (12 + n1) c, .slice A' (12 + n1) c'] W' (Tells (.bool true) W')) := ⟨fun W' A c A' c' h1 h2 h3 h4 => by
      have h := same_calls A (12 + n1) c F A' (12 + n1) c' F hfl hfl (by omega) h1 h2 W' h3 h4
      rwa [decide_eq_true rfl] at h⟩
    obtain ⟨p, hp⟩ : ∃ p, decide ((n0 : Int) + 12 + (n1 : Int) ≤ k) = p := ⟨_, rfl⟩
    have hp2 : decide ((n0 : Int) + (n1 : Int) + 12 ≤ k) = p := by rw [← hp, decide_eq_decide]; omega
    have HFI := Aside0.mk (fits_calls k A0 n0 c0 A1 n1 c1 (by omega) (by omega))
    rw [hp] at HFI
    have hw1 : wrap64 ((n0 : Int) + (n1 : Int)) = (n0 : Int) + (n1 : Int) := IntWalk.wrap64_in _ (by omega)
    have hw2 : wrap64 ((n0 : Int) + (n1 : Int) + 12) = (n0 : Int) + (n1 : Int) + 12 := IntWalk.wrap64_in _ (by omega)
    have HN0 := Aside0.mk hn0
    have HC0 := Aside0.mk hC0
    have HCC0 := Aside0.mk hc0
    have HBT := Aside0.mk hb
    have HK9 := Aside0.mk hk
    have HN3 : Aside0 (n0 ≤ 3000 ∧ n1 ≤ 1000) := ⟨by omega⟩
    clear hbig hn0 hc0 hb hC0 hn1 hc1 hr hC1 hk hK hF hp hfl
    have HMB0 : Aside0 ((frames b).length ≤ 3001) := ⟨Nat.le_trans (fra_len b (b.length + 1) 0) (by have := HN3.out.1; have := HN0.out; omega)⟩
    obtain ⟨M, HM, HMB, HMR, HME⟩ : ∃ M, Aside0 ((frames b).length = M) ∧ Aside0 (M ≤ 3001) ∧ Aside0 ((recsOf b).length = M) ∧ Aside0 (((endsOf b).map (fun n : Nat => (n : Int))).length = M) :=
      ⟨_, ⟨rfl⟩, HMB0, ⟨by unfold recsOf; rw [List.length_map]⟩, ⟨by unfold endsOf; rw [List.length_map, List.length_map]⟩⟩
    go_enter Tryd.func4, Tryd.ntmps4
    go_wp2_with (first
      | (go_at_call 11; (with_reducible refine HAW.out.mono ?_); rintro e w1 ⟨rfl, hb1⟩; have HB1 := Aside0.mk hb1; clear hb1)
      | (go_at_call 15; (with_reducible refine (HSC.out _ HB1.out).mono ?_); rintro e w2 ⟨v2, rfl, ho, hb⟩; obtain ⟨A2, c2, e2⟩ := Kd.R_slice ho; subst e2; rw [HMR.out] at ho ⊢; have HL2 := Aside0.mk (Kd.R_reads' ho).2.2; have HB2 := Aside0.mk (below_then HB1.out HB1.out.size hb); clear ho hb)
      | (go_at_call 17; (with_reducible refine (HEN.out _ HB2.out).mono ?_); rintro e w3 ⟨v3, rfl, ho, hb⟩; obtain ⟨A3, c3, e3⟩ := Kd.R_slice ho; subst e3; rw [HME.out] at ho ⊢; have HE3 := Aside0.mk (Kd.R_reads' ho).2.2; have HL3 := Aside0.mk (Kd.C_below HL2.out hb); have HB3 := Aside0.mk (below_then HB2.out HB2.out.size hb); clear ho hb)
      | (go_at_call 12; (with_reducible refine (HFR.out _ HB3.out).mono ?_); rintro e w4 ⟨v4, rfl, ho, hb⟩; obtain ⟨A4, c4, e4⟩ := Kd.R_slice ho; subst e4; have hr := (Kd.R_reads' ho).2; rw [HFL.out] at hr ⊢; have HC4 := Aside0.mk hr.1; have HR4 := Aside0.mk hr.2; have HB4 := Aside0.mk (below_then HB3.out HB3.out.size hb); have HE4 := Aside0.mk (Kd.C_below HE3.out hb); have HL4 := Aside0.mk (Kd.C_below HL3.out hb); clear ho hb hr)
      | (go_at_call 18; (with_reducible refine (HDF.out _ HB4.out).mono ?_); rintro e w5 ⟨v5, rfl, ho, hb⟩; obtain ⟨A5, c5, e5⟩ := Kd.R_slice ho; subst e5; have hr := (Kd.R_reads' ho).2; rw [HFL.out] at hr ⊢; have HC5 := Aside0.mk hr.1; have HR5 := Aside0.mk hr.2; have HR45 := Aside0.mk (Kd.C_below HR4.out hb); have HB5 := Aside0.mk (below_then HB4.out HB4.out.size hb); have HE5 := Aside0.mk (Kd.C_below HE4.out hb); have HL5 := Aside0.mk (Kd.C_below HL4.out hb); clear ho hb hr)
      | (go_at_call 14; (with_reducible refine (HSM.out w5 A4 c4 A5 c5 HC4.out HC5.out (by rw [HFL.out]; exact HR45.out) (by rw [HFL.out]; exact HR5.out)).mono ?_); rintro e w6 ⟨rfl, hb⟩; have HB6 := Aside0.mk (below_then HB5.out HB5.out.size hb); have HE6 := Aside0.mk (Kd.C_below HE5.out hb); have HL6 := Aside0.mk (Kd.C_below HL5.out hb); clear hb)
      | (go_at_call 19; (with_reducible refine (HFI.out _).mono ?_); rintro e w7 ⟨rfl, rfl⟩; skip)
      | fail)
    clear hw1 hw2 hp2
    go_loopw [10, 11, 62] (fun v10 v11 v62 wr => ∃ (at_ last i q : Nat) (pre : List (Nat × List Int)), v10 = .int .i64 (at_ : Int) ∧ v11 = .int .i64 (last : Int) ∧ v62 = .int .i64 (i : Int) ∧ i ≤ M ∧ Aside0 (pre.length = i) ∧ Aside0 (frames b = pre ++ fra b q at_) ∧ Aside0 (ends2 (pre.map (·.1)) = (last, at_)) ∧ Aside0 (Below w6.heap.size w6 wr))
      (fun _ _ v62 _ => M - (intOf v62).toNat)
    case atStart => exact ⟨0, 0, 0, b.length + 1, [], rfl, rfl, rfl, Nat.zero_le _, ⟨rfl⟩, ⟨rfl⟩, ⟨rfl⟩, ⟨Below.refl _ _⟩⟩
    case round =>
      obtain ⟨at_, last, i, q, pre, rfl, rfl, rfl, hi, HP, HF, HE2, HBr⟩ := hrel
      have HBW := Aside0.mk (below_then HB6.out HB6.out.size HBr.out)
      by_cases hlt : i < M
      · obtain ⟨n, f, HQ1, HQ2, HQ3, HQ4, HQ5⟩ := next_frame b pre q at_ i M HP.out HF.out HM.out hlt
        obtain ⟨ad3, ea3, hc3⟩ := Kd.at_int (Kd.C_below HE6.out HBr.out) (i : Int) (by omega) (by rw [HME.out]; omega)
        rw [HQ3.out, Int.toNat_natCast] at hc3
        obtain ⟨ad2, A8, c8, ea2, hc2, hl8, hC8⟩ := at_row (Kd.C_below HL6.out HBr.out) i (by rw [HMR.out]; exact hlt)
        rw [HQ4.out] at hc2 hl8 hC8
        subst ea2 ea3
        have hn0 := HN0.out
        have hen : at_ + (12 + n) ≤ n0 := by have := HQ1.out; omega
        have HEN2 := Aside0.mk hen
        have hn3 := HN3.out.1
        have hC9 := C_drop (C_take HC0.out (at_ + (12 + n)) HQ1.out) (at_ + 12) c0 (by rw [List.length_take]; omega) (by rw [List.length_take]; have := HCC0.out; omega)
        have hfn : f.length = n := by rw [HQ2.out]; exact cut_len b at_ n HQ1.out
        rw [drop_mid, ← HQ2.out] at hC9
        have hcc : n ≤ c0 - (at_ + 12) := by have := HCC0.out; omega
        obtain ⟨p2, hp2⟩ : ∃ p2, at_ + 12 = p2 := ⟨_, rfl⟩
        rw [hp2] at hC9 hcc
        obtain ⟨A9, hA9⟩ : ∃ A9, (if c0 = p2 then A0 else Option.map (fun x => x.add p2) A0) = A9 := ⟨_, rfl⟩
        rw [hA9] at hC9
        have HS8 : Aside0 (∀ W', Below wr.heap.size wr W' → Calls Tryd.prog 14 #[.slice A8 n c8, .slice A9 n (c0 - (p2))] W' (Tells (.bool true) W')) := ⟨fun W' h => by
          have h := same_calls A8 n c8 f _ n (c0 - (p2)) f hfn hfn (by omega) (by omega) hcc W' (Kd.C_below hC8 h) (Kd.C_below hC9 (below_then HBW.out HBW.out.size h))
          rwa [decide_eq_true rfl] at h⟩
        rw [hfn] at hc2
        obtain ⟨e, he⟩ : ∃ e, at_ + (12 + n) = e := ⟨_, rfl⟩
        rw [he] at hc3 HQ5
        have HX : Aside0 (ends2 ((pre ++ [(e, f)]).map (·.1)) = (at_, e)) := ⟨by rw [List.map_append, List.map_cons, List.map_nil, ends2_next, HE2.out]⟩
        have HPL : Aside0 ((pre ++ [(e, f)]).length = i + 1) := ⟨by rw [List.length_append, HP.out]; rfl⟩
        have hiM : (i : Int) < (M : Int) := by omega
        have hq1 : (at_ : Int) + 12 ≤ (e : Int) := by omega
        have hq2 : (e : Int) ≤ (c0 : Int) := by have := HCC0.out; omega
        have hq3 : (0 : Int) ≤ (at_ : Int) + 12 := by omega
        have hq4 : ((at_ : Int) + 12).toNat = p2 := by omega
        have hq5 : e - p2 = n := by omega
        have hwa : IntKind.i64.wrap ((at_ : Int) + 12) = (at_ : Int) + 12 := i64_12 at_ (by omega)
        clear hC8 hC9 hl8 hcc hfn he hen hn3 hn0 hp2
        go_wp2_with fail
        go_region_with (first
              | (go_at_call 14; (with_reducible refine (HS8.out _ (below_drew (Below.refl _ _))).mono ?_); rintro e9 w7 ⟨rfl, hb⟩; have HB7 := Aside0.mk (below_then (below_drew (Below.refl wr.heap.size wr)) (below_drew (Below.refl wr.heap.size wr)).size hb); clear hb)
              | fail)
        all_goals (refine (‹∀ (a : Act) (w_1 : World), Code.wp _ _ _ a w_1 → _› _ _ ?_); go_wp2_with fail)
        refine ⟨⟨e, at_, i + 1, q - 1, _, rfl, rfl, by rw [wrap_succ (k := M) hlt (by have := HMB.out; omega)]; rfl, hlt, HPL, HQ5, HX, ⟨below_then HBr.out HBr.out.size HB7.out⟩⟩, ?_⟩
        rw [wrap_succ (k := M) hlt (by have := HMB.out; omega)]
        exact meas_nat hlt
      · have he : frames b = pre := by
          have h1 := HF.out
          have h2 := congrArg List.length h1
          rw [HM.out, List.length_append, HP.out] at h2
          have h3 : (fra b q at_).length = 0 := by omega
          rw [h1, List.eq_nil_of_length_eq_zero h3, List.append_nil]
        have he2 : ends2 (endsOf b) = (last, at_) := by rw [← HE2.out, ← he]; rfl
        have hle := ends2_le b
        rw [he2, HN0.out] at hle
        dsimp only at hle
        obtain rfl : at_ = U := by rw [← HU.out, he2]
        have HTN : Aside0 (tornN b k = (last + min (max k 0) ((at_ : Int) - (last : Int))).toNat) := ⟨by unfold tornN; rw [he2]⟩
        have hnl : ¬ (i : Int) < (M : Int) := by omega
        have hn3 := HN3.out.1
        have hc0 := HCC0.out
        have HS0 : ∀ kp, kp ≤ n0 → Aside0 (∀ W' A c, kp ≤ c → Kd.C (Kd.int .u8) W' A (b.take kp).length (b.take kp) → Below w.heap.size w W' → Calls Tryd.prog 14 #[.slice A kp c, .slice A0 kp c0] W' (Tells (.bool true) W')) := fun kp hkp => ⟨fun W' A c h1 h2 h3 => by
          have hl : (b.take kp).length = kp := by rw [List.length_take, HN0.out]; omega
          have h := same_calls A kp c (b.take kp) A0 kp c0 (b.take kp) hl hl (by omega) h1 (by omega) W' h2 (Kd.C_below (C_take HC0.out kp (by rw [HN0.out]; exact hkp)) h3)
          rwa [decide_eq_true rfl] at h⟩
        have HL0 : ∀ kp, kp ≤ n0 → (b.take kp).length = kp := fun kp hkp => by rw [List.length_take, HN0.out]; omega
        clear he he2
        by_cases hk0 : k ≤ 0
        · have HT : Aside0 (tornN b k = last) := ⟨by rw [HTN.out]; omega⟩
          rw [HT.out] at HTO
          have HTL := Aside0.mk (HL0 last (by omega))
          have HS9 := HS0 last (by omega)
          have hq1 : last ≤ c0 := by omega
          have hnk : ¬ 0 < k := by omega
          clear hle hn3 HS0 HL0 hi hlt
          go_wp2_with fail
          go_region_held3 (fun _ => True) (exact trivial) (first
            | (go_at_call 16; (with_reducible refine (HTO.out _ (below_drew HBW.out)).mono ?_); rintro e9 w8 ⟨v8, rfl, ho, hb⟩; obtain ⟨A8, c8, e8⟩ := Kd.R_slice ho; subst e8; have hr8 := (Kd.R_reads' ho).2; rw [HTL.out] at hr8 ⊢; have HC8 := Aside0.mk hr8.1; have HR8 := Aside0.mk hr8.2; have HB8 := Aside0.mk (below_then (below_drew HBW.out) (below_drew HBW.out).size hb); clear ho hb hr8)
            | (go_at_call 14; (with_reducible refine (HS9.out w8 A8 c8 HC8.out (by rw [HTL.out]; exact HR8.out) HB8.out).mono ?_); rintro e9 w9 ⟨rfl, hb⟩; have HB9 := Aside0.mk (below_then HB8.out HB8.out.size hb); clear hb)
            | fail)
          all_goals
            refine (‹∀ (a : Act) (w_1 : World), Code.wp _ _ _ a w_1 → _› _ _ ?_)
            go_wp2_with fail
            go_ret
            exact ⟨rfl, HB9.out⟩
        · by_cases hk1 : k < (at_ : Int) - (last : Int)
          · obtain ⟨m, rfl⟩ : ∃ m : Nat, k = (m : Int) := ⟨k.toNat, by omega⟩
            have HT : Aside0 (tornN b m = last + m) := ⟨by rw [HTN.out]; omega⟩
            obtain ⟨kp, hkp⟩ : ∃ kp, last + m = kp := ⟨_, rfl⟩
            rw [HT.out, hkp] at HTO
            have HTL := Aside0.mk (HL0 kp (by omega))
            have HS9 := HS0 kp (by omega)
            have hq1 : kp ≤ c0 := by omega
            have hkc : ((last : Int) + (m : Int)) = (kp : Int) := by omega
            have hnk : 0 < (m : Int) := by omega
            have hw2 : wrap64 ((last : Int) + (m : Int)) = (kp : Int) := by rw [IntWalk.wrap64_in _ (by omega), hkc]
            have hw1 : wrap64 ((at_ : Int) - (last : Int)) = (at_ : Int) - (last : Int) := IntWalk.wrap64_in _ (by omega)
            clear hle hn3 HS0 HL0 hi hlt hk0 hkc hkp
            go_wp2_with fail
            go_region_held3 (fun _ => True) (exact trivial) (first
              | (go_at_call 16; (with_reducible refine (HTO.out _ (below_drew HBW.out)).mono ?_); rintro e9 w8 ⟨v8, rfl, ho, hb⟩; obtain ⟨A8, c8, e8⟩ := Kd.R_slice ho; subst e8; have hr8 := (Kd.R_reads' ho).2; rw [HTL.out] at hr8 ⊢; have HC8 := Aside0.mk hr8.1; have HR8 := Aside0.mk hr8.2; have HB8 := Aside0.mk (below_then (below_drew HBW.out) (below_drew HBW.out).size hb); clear ho hb hr8)
              | (go_at_call 14; (with_reducible refine (HS9.out w8 A8 c8 HC8.out (by rw [HTL.out]; exact HR8.out) HB8.out).mono ?_); rintro e9 w9 ⟨rfl, hb⟩; have HB9 := Aside0.mk (below_then HB8.out HB8.out.size hb); clear hb)
              | fail)
            all_goals
              refine (‹∀ (a : Act) (w_1 : World), Code.wp _ _ _ a w_1 → _› _ _ ?_)
              go_wp2_with fail
              go_ret
              exact ⟨rfl, HB9.out⟩
          · have HT : Aside0 (tornN b k = at_) := ⟨by rw [HTN.out]; omega⟩
            rw [HT.out] at HTO
            have HTL := Aside0.mk (HL0 at_ (by omega))
            have HS9 := HS0 at_ (by omega)
            have hq1 : at_ ≤ c0 := by omega
            have hnk : 0 < k := by omega
            have hw1 : wrap64 ((at_ : Int) - (last : Int)) = (at_ : Int) - (last : Int) := IntWalk.wrap64_in _ (by omega)
            clear hle hn3 HS0 HL0 hi hlt hk0
            go_wp2_with fail
            go_region_held3 (fun _ => True) (exact trivial) (first
              | (go_at_call 16; (with_reducible refine (HTO.out _ (below_drew HBW.out)).mono ?_); rintro e9 w8 ⟨v8, rfl, ho, hb⟩; obtain ⟨A8, c8, e8⟩ := Kd.R_slice ho; subst e8; have hr8 := (Kd.R_reads' ho).2; rw [HTL.out] at hr8 ⊢; have HC8 := Aside0.mk hr8.1; have HR8 := Aside0.mk hr8.2; have HB8 := Aside0.mk (below_then (below_drew HBW.out) (below_drew HBW.out).size hb); clear ho hb hr8)
              | (go_at_call 14; (with_reducible refine (HS9.out w8 A8 c8 HC8.out (by rw [HTL.out]; exact HR8.out) HB8.out).mono ?_); rintro e9 w9 ⟨rfl, hb⟩; have HB9 := Aside0.mk (below_then HB8.out HB8.out.size hb); clear hb)
              | fail)
            all_goals
              refine (‹∀ (a : Act) (w_1 : World), Code.wp _ _ _ a w_1 → _› _ _ ?_)
              go_wp2_with fail
              go_ret
              exact ⟨rfl, HB9.out⟩
end Go.Proofs.YteapdhfeddgjbaaDoor.Dg
end
section
/- Statement JournalBack: the plain law; the comparing closure. -/
namespace Go.Proofs.YteapdhfeddgjbaaDoor.Dg
set_option linter.unusedVariables false
set_option linter.unusedSimpArgs false
open Go.RowKit Go.Proofs.YteapdhfeddgjbaaDoor.PDj Go.Proofs.YteapdhfeddgjbaaDoor.Num Go.Proofs.YteapdhfeddgjbaaDoorW Go.Proofs.YteapdhfeddgjbaaDoorW.PrintWords Go.Proofs.YteapdhfeddgjbaaDoorW.PrintLast Go.Proofs.YteapdhfeddgjbaaDoorW.PrintMore

theorem endsFrom_snd : ∀ a rs, (endsFrom a rs).map (·.2) = rs
  | _, [] => rfl
  | a, r :: rs => by rw [endsFrom, List.map_cons, endsFrom_snd]
theorem endsFrom_snoc : ∀ a rs r, endsFrom a (rs ++ [r]) = endsFrom a rs ++ [(a + (cat rs).length + (12 + r.length), r)]
  | a, [], r => by simp [endsFrom, cat]
  | a, x :: rs, r => by
    rw [List.cons_append, endsFrom, endsFrom_snoc (a + (12 + x.length)) rs r, endsFrom, List.cons_append, cat, List.length_append, frm_len]
    congr 3
    congr 1
    omega
theorem cat_snoc : ∀ rs r, cat (rs ++ [r]) = cat rs ++ frm r
  | [], r => by simp [cat]
  | x :: rs, r => by rw [List.cons_append, cat, cat_snoc rs r, cat, List.append_assoc]
theorem ends2_from : ∀ rs, (ends2 ((endsFrom 0 rs).map (·.1))).2 = (cat rs).length := fun rs => by
  rcases List.eq_nil_or_concat rs with rfl | ⟨xs, r, e⟩
  · rfl
  · rw [List.concat_eq_append] at e
    subst e
    rw [endsFrom_snoc, List.map_append, List.map_cons, List.map_nil, ends2_next, cat_snoc, List.length_append, frm_len]
    omega
theorem ends2_from1 (rs : List (List Int)) (r : List Int) : (ends2 ((endsFrom 0 (rs ++ [r])).map (·.1))).1 = (cat rs).length := by
  rw [endsFrom_snoc, List.map_append, List.map_cons, List.map_nil, ends2_next]
  exact ends2_from rs
theorem all_frames (rs : List (List Int)) (hr : ∀ r ∈ rs, r.length ≤ 900000) : frames (cat rs) = endsFrom 0 rs := by
  have h := frames_cat rs [] nxt_nil hr
  rwa [List.append_nil] at h
theorem all_recs (rs : List (List Int)) (hr : ∀ r ∈ rs, r.length ≤ 900000) : recsOf (cat rs) = rs ∧ (ends2 (endsOf (cat rs))).2 = (cat rs).length := by
  unfold recsOf endsOf
  rw [all_frames rs hr]
  exact ⟨endsFrom_snd 0 rs, ends2_from rs⟩
theorem part_nxt (r : List Int) (hr : r.length ≤ 900000) (m : Nat) (hm : m < 12 + r.length) : nxt ((frm r).take m) = none := by
  unfold nxt
  rw [if_neg]
  rintro ⟨h1, h2, h3, -⟩
  rw [List.length_take, frm_len] at h1 h3
  have hh : hdN ((frm r).take m) = r.length := by
    have e1 := hdN_w4 r.length hr (chk (w4 (r.length : Int)) r ++ r)
    have e2 : hdN ((frm r).take m) = hdN (frm r) := by
      unfold hdN rd
      simp only [List.getD_eq_getElem?_getD, List.getElem?_take]
      rw [if_pos (by simp; omega), if_pos (by simp; omega), if_pos (by simp; omega), if_pos (by simp; omega)]
    rw [e2]
    unfold frm
    exact e1
  rw [hh] at h3
  omega
/-- What is scanned of a torn row. -/
theorem torn_scan (rs : List (List Int)) (r : List Int) (hr : ∀ x ∈ rs ++ [r], x.length ≤ 900000) (k : Int) :
    tornN (cat (rs ++ [r])) k = (cat rs).length + (min (max k 0) (12 + (r.length : Int))).toNat := by
  unfold tornN endsOf
  rw [all_frames _ hr, ends2_from1, ends2_from, cat_snoc, List.length_append, frm_len]
  omega
theorem torn_whole (rs : List (List Int)) (r : List Int) (hr : ∀ x ∈ rs ++ [r], x.length ≤ 900000) (k : Int) (hk : 12 + (r.length : Int) ≤ k) :
    (cat (rs ++ [r])).take (tornN (cat (rs ++ [r])) k) = cat (rs ++ [r]) := by
  rw [torn_scan rs r hr k]
  refine List.take_of_length_le ?_
  rw [cat_snoc, List.length_append, frm_len]
  omega
theorem torn_part (rs : List (List Int)) (r : List Int) (hr : ∀ x ∈ rs ++ [r], x.length ≤ 900000) (k : Int) (hk : k < 12 + (r.length : Int)) :
    recsOf ((cat (rs ++ [r])).take (tornN (cat (rs ++ [r])) k)) = rs ∧ (ends2 (endsOf ((cat (rs ++ [r])).take (tornN (cat (rs ++ [r])) k)))).2 = (cat rs).length ∧ (((cat (rs ++ [r])).take (tornN (cat (rs ++ [r])) k)).length : Int) = (cat rs).length + max k 0 := by
  rw [torn_scan rs r hr k]
  obtain ⟨m, hm⟩ : ∃ m, (min (max k 0) (12 + (r.length : Int))).toNat = m := ⟨_, rfl⟩
  rw [hm]
  have e : (cat (rs ++ [r])).take ((cat rs).length + m) = cat rs ++ (frm r).take m := by
    rw [cat_snoc, List.take_append, List.take_of_length_le (by omega)]
    congr 2
    omega
  have hf : frames (cat rs ++ (frm r).take m) = endsFrom 0 rs := frames_cat rs _ (part_nxt r (hr r (by simp)) m (by omega)) (fun x hx => hr x (List.mem_append_left _ hx))
  rw [e]
  unfold recsOf endsOf
  rw [hf]
  refine ⟨endsFrom_snd 0 rs, ends2_from rs, ?_⟩
  rw [List.length_append, List.length_take, frm_len]
  omega
theorem cat_Bt : ∀ rs : List (List Int), (∀ r ∈ rs, Bt r) → Bt (cat rs)
  | [], _ => fun x hx => by cases hx
  | r :: rs, h => by rw [cat]; exact (frm_Bt (h r List.mem_cons_self)).append (cat_Bt rs (fun x hx => h x (List.mem_cons_of_mem _ hx)))
theorem cat_le (rs : List (List Int)) (M : Nat) (h : ∀ r ∈ rs, r.length ≤ M) : (cat rs).length ≤ rs.length * (12 + M) := by
  induction rs with
  | nil => simp [cat]
  | cons r rs ih =>
    rw [cat, List.length_append, frm_len, List.length_cons, Nat.succ_mul]
    have h1 := ih (fun x hx => h x (List.mem_cons_of_mem _ hx))
    have h2 := h r List.mem_cons_self
    omega
theorem getD_take (rs : List (List Int)) (n i : Nat) (h : i < n) : (rs.take n).getD i [] = rs.getD i [] := by
  rw [List.getD_eq_getElem?_getD, List.getD_eq_getElem?_getD, List.getElem?_take_of_lt h]
set_option maxHeartbeats 3200000 in
set_option maxRecDepth 100000 in
theorem cmp_calls (g : Nat) (A0 : Option Addr) (n0 c0 : Nat) (rs : List (List Int)) (A1 : Option Addr) (n1 c1 : Nat) (hn0 : rs.length = n0) (hn1 : n1 ≤ n0) (hn : n0 ≤ 100000) (hr : ∀ r ∈ rs, r.length ≤ 900000) (w : World)
    (hg : w.cell? ⟨g, 0, none⟩ = some (.slice A0 n0 c0)) (h0 : (Kd.slice 5 (Kd.int .u8)).C w A0 n0 rs) (h1 : (Kd.slice 5 (Kd.int .u8)).C w A1 n1 (rs.take n1)) :
    Calls Tryd.prog 13 #[.slice A1 n1 c1, .int .i64 (n1 : Int), .pointer (some ⟨g, 0, none⟩)] w (Tells (.bool true) w) := by
  have HG := Aside0.mk hg
  have H0 := Aside0.mk h0
  have H1 := Aside0.mk h1
  have HR := Aside0.mk hr
  have HN0 := Aside0.mk hn0
  clear hg h0 h1 hr hn0
  go_enter Tryd.func13, Tryd.ntmps13
  go_wp2
  go_loopw [13] (fun v13 wr => ∃ i : Nat, v13 = .int .i64 (i : Int) ∧ i ≤ n1 ∧ Aside0 (Below w.heap.size w wr))
    (fun v13 _ => n1 - (intOf v13).toNat)
  case atStart => exact ⟨0, rfl, Nat.zero_le _, ⟨Below.refl _ _⟩⟩
  case round =>
    obtain ⟨i, rfl, hi, HB⟩ := hrel
    by_cases hlt : i < n1
    · have hlt' : (i : Int) < (n1 : Int) := by omega
      obtain ⟨ad0, A2, c2, rfl, hc2, hl2, hC2⟩ := at_row (Kd.C_below H0.out HB.out) i (by omega)
      obtain ⟨ad1, A3, c3, rfl, hc3, hl3, hC3⟩ := at_row (Kd.C_below H1.out HB.out) i hlt
      rw [getD_take rs n1 i hlt] at hc3 hl3 hC3
      have hcg := pw_cell_below HB.out HG.out
      have hi0 : (i : Int) < (n0 : Int) := by omega
      obtain ⟨r, hr⟩ : ∃ r, rs.getD i [] = r := ⟨_, rfl⟩
      have hrl : r.length ≤ 900000 := by
        rw [← hr, List.getD_eq_getElem?_getD, List.getElem?_eq_getElem (by rw [HN0.out]; omega), Option.getD_some]
        exact HR.out _ (List.getElem_mem _)
      rw [hr] at hc2 hl2 hC2 hc3 hl3 hC3
      have HS : Aside0 (∀ W', Below wr.heap.size wr W' → Calls Tryd.prog 14 #[.slice A3 r.length c3, .slice A2 r.length c2] W' (Tells (.bool true) W')) := ⟨fun W' h => by
        have h := same_calls A3 r.length c3 r A2 r.length c2 r rfl rfl (by omega) hl3 hl2 W' (Kd.C_below hC3 h) (Kd.C_below hC2 h)
        rwa [decide_eq_true rfl] at h⟩
      clear hr hrl hl2 hl3 hC2 hC3
      go_wp2_with fail
      go_region_with (first
        | (go_at_call 14; (with_reducible refine (HS.out _ (below_drew (Below.refl _ _))).mono ?_); rintro e9 w7 ⟨rfl, hb⟩; have HB7 := Aside0.mk (below_then (below_drew (Below.refl wr.heap.size wr)) (below_drew (Below.refl wr.heap.size wr)).size hb); clear hb)
        | fail)
      all_goals (refine (‹∀ (a : Act) (w_1 : World), Code.wp _ _ _ a w_1 → _› _ _ ?_); go_wp2_with fail; exact ⟨⟨i + 1, rfl, hlt, ⟨below_then HB.out HB.out.size HB7.out⟩⟩, meas_nat hlt⟩)
    · have hnlt : ¬ (i : Int) < (n1 : Int) := by omega
      go_wp2_with fail
      go_ret
      exact ⟨rfl, HB.out⟩
end Go.Proofs.YteapdhfeddgjbaaDoor.Dg
end
section
/- Statement JournalBack: the walk of the law. -/
namespace Go.Proofs.YteapdhfeddgjbaaDoor.Dg
set_option linter.unusedVariables false
set_option linter.unusedSimpArgs false
open Go.RowKit Go.Proofs.YteapdhfeddgjbaaDoor.PDj Go.Proofs.YteapdhfeddgjbaaDoor.Num Go.Proofs.YteapdhfeddgjbaaDoorW Go.Proofs.YteapdhfeddgjbaaDoorW.PrintWords Go.Proofs.YteapdhfeddgjbaaDoorW.PrintLast Go.Proofs.YteapdhfeddgjbaaDoorW.PrintMore

/-- Where the last record of so many begins. -/
def lastOf (rs : List (List Int)) (i : Nat) : Nat := (cat (rs.take (i - 1))).length
theorem take_getD (rs : List (List Int)) (i : Nat) (h : i < rs.length) : rs.take (i + 1) = rs.take i ++ [rs.getD i []] := by
  rw [List.take_succ_eq_append_getElem h, List.getD_eq_getElem?_getD, List.getElem?_eq_getElem h]; rfl
theorem mem_getD (rs : List (List Int)) (i : Nat) (h : i < rs.length) : rs.getD i [] ∈ rs := by
  rw [List.getD_eq_getElem?_getD, List.getElem?_eq_getElem h]; exact List.getElem_mem h
theorem box_cell (w : World) (A : Option Addr) (n c : Nat) (ty : TypeId) : (w.alloc (.cells #[.slice A n c] ty)).cell? ⟨w.heap.size, 0, none⟩ = some (.slice A n c) := by
  rw [World.cell?_alloc_new]; rfl
theorem jb_end (rs xs : List (List Int)) (r : List Int) (h : rs = xs ++ [r]) : lastOf rs rs.length = (cat xs).length ∧ rs.take (rs.length - 1) = xs := by
  subst h
  unfold lastOf
  have e : (xs ++ [r]).take ((xs ++ [r]).length - 1) = xs := by simp
  exact ⟨by rw [e], e⟩
set_option maxHeartbeats 6400000 in
set_option maxRecDepth 100000 in
theorem jback_walk (A0 : Option Addr) (n0 c0 : Nat) (rs : List (List Int)) (k : Int) (w : World) (hn0 : rs.length = n0) (hc0 : n0 ≤ c0) (hb : ∀ r ∈ rs, Bt r) (hC0 : (Kd.slice 5 (Kd.int .u8)).C w A0 n0 rs)
    (hk : -9223372036854775808 ≤ k ∧ k ≤ 9223372036854775807) (hK : Tab w 2 KK) :
    Calls Tryd.prog 3 #[.slice A0 n0 c0, .int .i64 k] w (Tells (.bool true) w) := by
  obtain ⟨wa, hwa⟩ : ∃ wa, w.alloc (.cells #[.slice A0 n0 c0] 22) = wa := ⟨_, rfl⟩
  have HBA : Aside0 (Below w.heap.size w wa) := ⟨by rw [← hwa]; exact below_alloc (Below.refl _ _) _⟩
  have HCA : Aside0 (wa.cell? ⟨w.heap.size, 0, none⟩ = some (.slice A0 n0 c0)) := ⟨by rw [← hwa]; exact box_cell w A0 n0 c0 22⟩
  have HAW : Aside0 (Calls Tryd.prog 11 #[] (w.alloc (.cells #[.slice A0 n0 c0] 22)) (Tells (.bool true) wa)) := ⟨by rw [hwa]; exact jawake_calls wa (hK.below HBA.out)⟩
  by_cases hbig : 30 < n0
  · have h0' : (30 : Int) < (n0 : Int) := by omega
    clear hC0 hK hb hn0 hbig hwa
    go_enter Tryd.func3, Tryd.ntmps3
    go_wp2_with (first
      | (go_at_call 11; (with_reducible refine HAW.out.mono ?_); rintro e w1 ⟨rfl, hb1⟩; have hc1 := pw_cell_below hb1 HCA.out; have HB1 := Aside0.mk hb1; clear hb1)
      | fail)
    go_ret
    exact ⟨rfl, below_then HBA.out HBA.out.size HB1.out⟩
  · have h0' : ¬ (30 : Int) < (n0 : Int) := by omega
    have HN30 : Aside0 (n0 ≤ 30) := ⟨by omega⟩
    have HK := Aside0.mk (hK.below HBA.out)
    have HN0 := Aside0.mk hn0
    have HC0 := Aside0.mk (Kd.C_below hC0 HBA.out)
    have HCC0 := Aside0.mk hc0
    have HBT := Aside0.mk hb
    have HK9 := Aside0.mk hk
    clear hbig hK hn0 hC0 hc0 hb hk hwa
    go_enter Tryd.func3, Tryd.ntmps3
    go_wp2_with (first
      | (go_at_call 11; (with_reducible refine HAW.out.mono ?_); rintro e w1 ⟨rfl, hb1⟩; have hc1 := pw_cell_below hb1 HCA.out; have HB1 := Aside0.mk hb1; clear hb1)
      | fail)
    clear hc1
    go_loopw [5, 6, 22] (fun v5 v6 v22 wr => ∃ i : Nat, v6 = .int .i64 ((lastOf rs i : Nat) : Int) ∧ v22 = .int .i64 (i : Int) ∧ Aside0 (i ≤ n0) ∧ Aside0 (∀ r ∈ rs.take i, r.length ≤ 500) ∧ Aside0 (Kd.R (Kd.int .u8) 5 wr wa.heap.size (fun _ => True) v5 (cat (rs.take i))) ∧ Aside0 (Below wa.heap.size wa wr))
      (fun _ _ v22 _ => n0 - (intOf v22).toNat)
    case atStart => exact ⟨0, rfl, rfl, ⟨Nat.zero_le _⟩, ⟨by simp⟩, ⟨Kd.R_nil _ _ _ _ _⟩, HB1⟩
    case round =>
      obtain ⟨i, rfl, rfl, HI, HS, HR, HB⟩ := hrel
      obtain ⟨A5, c5, e5⟩ := Kd.R_slice HR.out
      obtain ⟨N5, hN5⟩ : ∃ N5, (cat (rs.take i)).length = N5 := ⟨_, rfl⟩
      rw [hN5] at e5
      subst e5
      have HN5 := Aside0.mk hN5
      clear hN5
      have hi := HI.out
      have hcg := pw_cell_below HB.out HCA.out
      by_cases hlt : i < n0
      · have hlt' : (i : Int) < (n0 : Int) := by omega
        obtain ⟨ad0, A2, c2, rfl, hc2, hl2, hC2⟩ := at_row (Kd.C_below HC0.out HB.out) i hlt
        have hbr := HBT.out _ (mem_getD rs i (by rw [HN0.out]; exact hlt))
        have htk := take_getD rs i (by rw [HN0.out]; exact hlt)
        obtain ⟨r, hr⟩ : ∃ r, rs.getD i [] = r := ⟨_, rfl⟩
        rw [hr] at hc2 hl2 hC2 hbr htk
        obtain ⟨n, hn⟩ : ∃ n, r.length = n := ⟨_, rfl⟩
        rw [hn] at hc2 hl2
        by_cases hbg : 500 < n
        · have hbg' : (500 : Int) < (n : Int) := by omega
          clear hr hn hC2 hl2 hbr htk hi hlt
          go_wp2_with fail
          go_ret
          exact ⟨rfl, below_then HBA.out HBA.out.size HB.out⟩
        · have hbg' : ¬ (500 : Int) < (n : Int) := by omega
          have HFR := Aside0.mk (frame_calls A2 n c2 r hn (by omega) hl2 hbr wr hC2 (HK.out.below HB.out))
          have HTK := Aside0.mk htk
          have HFL : Aside0 ((frm r).length = 12 + n) := ⟨by rw [frm_len, hn]⟩
          have HS2 : Aside0 (∀ x ∈ rs.take (i + 1), x.length ≤ 500) := ⟨fun x hx => by
            rw [htk] at hx
            rcases List.mem_append.1 hx with h | h
            · exact HS.out x h
            · rw [List.mem_singleton.1 h, hn]; omega⟩
          have HN5b : Aside0 (N5 ≤ 100000) := ⟨by
            have h1 := cat_le (rs.take i) 500 HS.out
            rw [HN5.out, List.length_take, HN0.out] at h1
            have := HN30.out
            have h2 : min i n0 * (12 + 500) ≤ 30 * 512 := Nat.mul_le_mul (by omega) (by omega)
            omega⟩
          have hn5 : n ≤ 500 := by omega
          clear hr hn hC2 hl2 hbr htk
          go_wp2_with (first
            | (go_at_call 12; (with_reducible refine HFR.out.mono ?_); rintro e w4 ⟨v4, rfl, ho, hb⟩; obtain ⟨A4, c4, e4⟩ := Kd.R_slice ho; subst e4; have hr := (Kd.R_reads' ho).2; rw [HFL.out] at hr ⊢; have HC4 := Aside0.mk hr.1; have HR4 := Aside0.mk hr.2; have HR5 := Aside0.mk (Kd.R_below HR.out hb); have HB4 := Aside0.mk (below_then HB.out HB.out.size hb);  clear ho hb hr)
            | (at_builtin; refine Kd.R_append_row (Value.int .u8) (0 : Int) (h1 := fun _ => rfl) (w0 := wa) (W := w4) wa.heap.size rfl _ _ 24 5 (.int .u8 0) 1 rfl Tryd.underlying24 info5 rfl (by decide) (.slice A5 N5 c5) (cat (rs.take i)) (frm r) A4 (12 + n) c4 (fun _ => True) rfl rfl (fun _ _ => trivial) HR5.out HR4.out HB4.out HB4.out.size (by rw [HN5.out]; have := HN5b.out; omega) ?_; intro v1 w5 ho hb5 hg5 hat5; have HO := Aside0.mk ho; have HB5 := Aside0.mk hb5; clear ho hb5 hg5 hat5)
            | fail)
          refine ⟨⟨i + 1, by rw [← HN5.out]; rfl, rfl, ⟨hlt⟩, HS2, ⟨by rw [HTK.out, cat_snoc]; exact HO.out⟩, HB5⟩, meas_nat hlt⟩
      · obtain rfl : i = n0 := by omega
        have htk : rs.take i = rs := List.take_of_length_le (by rw [HN0.out]; exact Nat.le_refl _)
        rw [htk] at HS HR HN5
        have HBC := Aside0.mk (cat_Bt rs HBT.out)
        have HN5b : Aside0 (N5 ≤ 100000) := ⟨by
          have h1 := cat_le rs 500 HS.out
          rw [HN5.out, HN0.out] at h1
          have := HN30.out
          have h2 : i * (12 + 500) ≤ 30 * 512 := Nat.mul_le_mul (by omega) (by omega)
          omega⟩
        have HS9 : Aside0 (∀ r ∈ rs, r.length ≤ 900000) := ⟨fun r h => Nat.le_trans (HS.out r h) (by omega)⟩
        have hall := all_recs rs HS9.out
        rw [HN5.out] at hall
        have hrr := (Kd.R_reads' HR.out).2
        rw [HN5.out] at hrr
        have HSC : Aside0 (∀ W', Below wr.heap.size wr W' → Calls Tryd.prog 15 #[.slice A5 N5 c5] W' fun e w' => ∃ v, e = .returned (.tuple #[v, .int .i64 (N5 : Int)]) ∧ (Kd.slice 5 (Kd.int .u8)).R 24 w' W'.heap.size (fun _ => True) v rs ∧ Below W'.heap.size W' w') := ⟨fun W' h => by
          have h2 := scan_calls A5 N5 c5 (cat rs) HN5.out HBC.out (by have := HN5b.out; omega) hrr.1 W' (by rw [HN5.out]; exact Kd.C_below hrr.2 h) (HK.out.below (below_then HB.out HB.out.size h))
          rw [hall.1, hall.2] at h2
          exact h2⟩
        have HTO : Aside0 (∀ W', Below wr.heap.size wr W' → Calls Tryd.prog 16 #[.slice A5 N5 c5, .int .i64 k] W' (Own W' ((cat rs).take (tornN (cat rs) k)))) := ⟨fun W' h => torn_calls A5 N5 c5 (cat rs) k HN5.out HBC.out (by have := HN5b.out; omega) hrr.1 HK9.out W' (by rw [HN5.out]; exact Kd.C_below hrr.2 h) (HK.out.below (below_then HB.out HB.out.size h))⟩
        have HCM : Aside0 (∀ W' n1 A1 c1, n1 ≤ i → Below wr.heap.size wr W' → (Kd.slice 5 (Kd.int .u8)).C W' A1 n1 (rs.take n1) → Calls Tryd.prog 13 #[.slice A1 n1 c1, .int .i64 (n1 : Int), .pointer (some ⟨w.heap.size, 0, none⟩)] W' (Tells (.bool true) W')) := ⟨fun W' n1 A1 c1 h1 h2 h3 =>
          cmp_calls w.heap.size A0 i c0 rs A1 n1 c1 HN0.out h1 (by have := HN30.out; omega) HS9.out W' (pw_cell_below h2 (pw_cell_below HB.out HCA.out)) (Kd.C_below HC0.out (below_then HB.out HB.out.size h2)) h3⟩
        clear hrr hall hlt hi htk
        by_cases hz0 : i = 0
        · have hz : ((i : Int) == 0) = true := by simp; omega
          have hrs : rs = [] := List.eq_nil_of_length_eq_zero (by rw [HN0.out]; exact hz0)
          have HTL : Aside0 (((cat rs).take (tornN (cat rs) k)).length = 0) := ⟨by rw [hrs]; simp [cat]⟩
          clear hz0 hrs
          go_wp2_with (first
            | (go_at_call 15; (with_reducible refine (HSC.out _ (Below.refl _ _)).mono ?_); rintro e w2 ⟨v2, rfl, ho, hb⟩; obtain ⟨A7, c7, e7⟩ := Kd.R_slice ho; subst e7; rw [HN0.out] at ho ⊢; have HL2 := Aside0.mk (Kd.R_reads' ho).2.2; have HB2 := Aside0.mk hb; have hcg2 := pw_cell_below hb hcg; clear ho hb)
            | (go_at_call 13; (with_reducible refine (HCM.out w2 i A7 c7 (Nat.le_refl _) HB2.out (by have := HL2.out; rw [List.take_of_length_le (by rw [HN0.out]; exact Nat.le_refl _)]; rw [HN0.out] at this; exact this)).mono ?_); rintro e w3 ⟨rfl, hb⟩; have HB3 := Aside0.mk (below_then HB2.out HB2.out.size hb); have hcg3 := pw_cell_below hb hcg2; clear hb)
            | (go_at_call 16; (with_reducible refine (HTO.out _ HB3.out).mono ?_); rintro e w4 ⟨v4, rfl, ho, hb⟩; obtain ⟨A4, c4, e4⟩ := Kd.R_slice ho; subst e4; have hr4 := (Kd.R_reads' ho).2; rw [HTL.out] at hr4 ⊢; have HC4 := Aside0.mk hr4.1; have HR4 := Aside0.mk hr4.2; have HB4 := Aside0.mk (below_then HB3.out HB3.out.size hb); have hcg4 := pw_cell_below hb hcg3; clear ho hb hr4)
            | fail)
          go_ret
          exact ⟨rfl, below_then HBA.out HBA.out.size (below_then HB.out HB.out.size HB4.out)⟩
        · have hz : ((i : Int) == 0) = false := by simp; omega
          obtain ⟨xs, r, hxr⟩ : ∃ xs r, rs = xs ++ [r] := by
            rcases List.eq_nil_or_concat rs with h | ⟨xs, r, h⟩
            · have h2 := HN0.out; rw [h] at h2; exact absurd h2.symm hz0
            · exact ⟨xs, r, by rw [h, List.concat_eq_append]⟩
          have hje := jb_end rs xs r hxr
          rw [HN0.out] at hje
          obtain ⟨P, hP⟩ : ∃ P, (cat xs).length = P := ⟨_, rfl⟩
          obtain ⟨D, hD⟩ : ∃ D, 12 + r.length = D := ⟨_, rfl⟩
          have hND : N5 = P + D := by
            have h := HN5.out
            rw [hxr, cat_snoc, List.length_append, frm_len, hP, hD] at h
            exact h.symm
          have hlo : lastOf rs i = P := by rw [hje.1, hP]
          have hxl : xs.length + 1 = i := by
            have h := HN0.out
            rw [hxr, List.length_append] at h
            exact h
          have hP5 : P ≤ 100000 ∧ D ≤ 100000 := by have := HN5b.out; omega
          have HX9 : Aside0 (∀ x ∈ xs ++ [r], x.length ≤ 900000) := ⟨by rw [← hxr]; exact HS9.out⟩
          have HDI : Aside0 (12 + (r.length : Int) = (D : Int)) := ⟨by omega⟩
          rw [hlo]
          by_cases hkd : (D : Int) ≤ k
          · have htw := torn_whole xs r HX9.out k (by rw [HDI.out]; exact hkd)
            rw [← hxr] at htw
            rw [htw] at HTO
            have HTL := HN5
            have HXL := HN0
            have HJI : Aside0 (i ≤ i) := ⟨Nat.le_refl _⟩
            have HTK : Aside0 (rs.take i = rs) := ⟨List.take_of_length_le (by rw [HN0.out]; exact Nat.le_refl _)⟩
            have HS2 : Aside0 (∀ W' A c, N5 ≤ c → (Kd.int .u8).C W' A N5 (cat rs) → Below wr.heap.size wr W' → Calls Tryd.prog 15 #[.slice A N5 c] W' fun e w' => ∃ v, e = .returned (.tuple #[v, .int .i64 (N5 : Int)]) ∧ (Kd.slice 5 (Kd.int .u8)).R 24 w' W'.heap.size (fun _ => True) v rs ∧ Below W'.heap.size W' w') := ⟨fun W' A c h1 h2 h3 => by
              have h4 := scan_calls A N5 c (cat rs) HN5.out HBC.out (by have := HN5b.out; omega) h1 W' (by rw [HN5.out]; exact h2) (HK.out.below (below_then HB.out HB.out.size h3))
              have hall := all_recs rs HS9.out
              rw [hall.1, hall.2, HN5.out] at h4
              exact h4⟩
            have hw : wrap64 ((N5 : Int) - (P : Int)) = (D : Int) := by rw [IntWalk.wrap64_in _ (by omega)]; omega
            clear hz0 hxr hje hP hD hND hlo hxl hP5 htw
            go_wp2_with (first
              | (go_at_call 15; (with_reducible refine (HSC.out _ (Below.refl _ _)).mono ?_); rintro e w2 ⟨v2, rfl, ho, hb⟩; obtain ⟨A7, c7, e7⟩ := Kd.R_slice ho; subst e7; rw [HN0.out] at ho ⊢; have HL2 := Aside0.mk (Kd.R_reads' ho).2.2; have HB2 := Aside0.mk hb; have hcg2 := pw_cell_below hb hcg; clear ho hb)
              | (go_at_call 13; (with_reducible refine (HCM.out w2 i A7 c7 (Nat.le_refl _) HB2.out (by have := HL2.out; rw [List.take_of_length_le (by rw [HN0.out]; exact Nat.le_refl _)]; rw [HN0.out] at this; exact this)).mono ?_); rintro e w3 ⟨rfl, hb⟩; have HB3 := Aside0.mk (below_then HB2.out HB2.out.size hb); have hcg3 := pw_cell_below hb hcg2; clear hb)
              | (go_at_call 16; (with_reducible refine (HTO.out _ HB3.out).mono ?_); rintro e w4 ⟨v4, rfl, ho, hb⟩; obtain ⟨A4, c4, e4⟩ := Kd.R_slice ho; subst e4; have hr4 := (Kd.R_reads' ho).2; rw [HTL.out] at hr4 ⊢; have HC4 := Aside0.mk hr4.1; have HR4 := Aside0.mk hr4.2; have HB4 := Aside0.mk (below_then HB3.out HB3.out.size hb); have hcg4 := pw_cell_below hb hcg3; clear ho hb hr4)
              | (go_at_call 15; (with_reducible refine (HS2.out w4 A4 c4 HC4.out HR4.out HB4.out).mono ?_); rintro e w5 ⟨v5, rfl, ho, hb⟩; obtain ⟨A8, c8, e8⟩ := Kd.R_slice ho; subst e8; rw [HXL.out] at ho ⊢; have HL5 := Aside0.mk (Kd.R_reads' ho).2.2; have HB5 := Aside0.mk (below_then HB4.out HB4.out.size hb); have hcg5 := pw_cell_below hb hcg4; clear ho hb)
              | (go_at_call 13; (with_reducible refine (HCM.out w5 i A8 c8 HJI.out HB5.out (by have := HL5.out; rw [HTK.out]; rw [HXL.out] at this; exact this)).mono ?_); rintro e w6 ⟨rfl, hb⟩; have HB6 := Aside0.mk (below_then HB5.out HB5.out.size hb); clear hb)
              | fail)
            go_ret
            exact ⟨rfl, below_then HBA.out HBA.out.size (below_then HB.out HB.out.size HB6.out)⟩
          · obtain ⟨h1, h2, h3⟩ := torn_part xs r HX9.out k (by rw [HDI.out]; omega)
            rw [← hxr] at h1 h2 h3
            rw [hP] at h2 h3
            obtain ⟨T, hT⟩ : ∃ T, (cat rs).take (tornN (cat rs) k) = T := ⟨_, rfl⟩
            have HTB : Aside0 (Bt T) := ⟨by rw [← hT]; exact HBC.out.take _⟩
            rw [hT] at HTO h1 h2 h3
            obtain ⟨TL, hTL⟩ : ∃ TL, T.length = TL := ⟨_, rfl⟩
            rw [hTL] at h3
            have HTL := Aside0.mk hTL
            obtain ⟨j, hj⟩ : ∃ j, xs.length = j := ⟨_, rfl⟩
            have HXL := Aside0.mk hj
            have HJI : Aside0 (j ≤ i) := ⟨by omega⟩
            have HJ1 : Aside0 ((j : Int) = (i : Int) - 1) := ⟨by omega⟩
            have HTK : Aside0 (rs.take j = xs) := ⟨by rw [← hje.2]; congr 1; omega⟩
            have htl5 : TL ≤ 300000 := by omega
            have HS2 : Aside0 (∀ W' A c, TL ≤ c → (Kd.int .u8).C W' A TL T → Below wr.heap.size wr W' → Calls Tryd.prog 15 #[.slice A TL c] W' fun e w' => ∃ v, e = .returned (.tuple #[v, .int .i64 (P : Int)]) ∧ (Kd.slice 5 (Kd.int .u8)).R 24 w' W'.heap.size (fun _ => True) v xs ∧ Below W'.heap.size W' w') := ⟨fun W' A c g1 g2 g3 => by
              have h4 := scan_calls A TL c T hTL HTB.out (by omega) g1 W' (by rw [hTL]; exact g2) (HK.out.below (below_then HB.out HB.out.size g3))
              rw [h1, h2] at h4
              exact h4⟩
            have hkd' : k < (D : Int) := by omega
            by_cases hk0 : k < 0
            · have htp : TL = P := by omega
              have hw0 : (TL : Int) = (P : Int) := by omega
              have hi30 := HN30.out
              have hw : wrap64 ((N5 : Int) - (P : Int)) = (D : Int) := by rw [IntWalk.wrap64_in _ (by omega)]; omega
              have hwi : wrap64 ((i : Int) - 1) = (i : Int) - 1 := IntWalk.wrap64_in _ (by omega)
              have hwp : wrap64 (P : Int) = (P : Int) := IntWalk.wrap64_in _ (by omega)
              clear hz0 hxr hje hP hD hND hlo hxl hP5 h1 h2 h3 hT hTL hj htl5 htp hkd hi30
              go_wp2_with (first
                | (go_at_call 15; (with_reducible refine (HSC.out _ (Below.refl _ _)).mono ?_); rintro e w2 ⟨v2, rfl, ho, hb⟩; obtain ⟨A7, c7, e7⟩ := Kd.R_slice ho; subst e7; rw [HN0.out] at ho ⊢; have HL2 := Aside0.mk (Kd.R_reads' ho).2.2; have HB2 := Aside0.mk hb; have hcg2 := pw_cell_below hb hcg; clear ho hb)
                | (go_at_call 13; (with_reducible refine (HCM.out w2 i A7 c7 (Nat.le_refl _) HB2.out (by have := HL2.out; rw [List.take_of_length_le (by rw [HN0.out]; exact Nat.le_refl _)]; rw [HN0.out] at this; exact this)).mono ?_); rintro e w3 ⟨rfl, hb⟩; have HB3 := Aside0.mk (below_then HB2.out HB2.out.size hb); have hcg3 := pw_cell_below hb hcg2; clear hb)
                | (go_at_call 16; (with_reducible refine (HTO.out _ HB3.out).mono ?_); rintro e w4 ⟨v4, rfl, ho, hb⟩; obtain ⟨A4, c4, e4⟩ := Kd.R_slice ho; subst e4; have hr4 := (Kd.R_reads' ho).2; rw [HTL.out] at hr4 ⊢; have HC4 := Aside0.mk hr4.1; have HR4 := Aside0.mk hr4.2; have HB4 := Aside0.mk (below_then HB3.out HB3.out.size hb); have hcg4 := pw_cell_below hb hcg3; clear ho hb hr4)
                | (go_at_call 15; (with_reducible refine (HS2.out w4 A4 c4 HC4.out HR4.out HB4.out).mono ?_); rintro e w5 ⟨v5, rfl, ho, hb⟩; obtain ⟨A8, c8, e8⟩ := Kd.R_slice ho; subst e8; rw [HXL.out] at ho ⊢; have HL5 := Aside0.mk (Kd.R_reads' ho).2.2; have HB5 := Aside0.mk (below_then HB4.out HB4.out.size hb); have hcg5 := pw_cell_below hb hcg4; clear ho hb)
                | (go_at_call 13; have hcm := HCM.out w5 j A8 c8 HJI.out HB5.out (by have := HL5.out; rw [HTK.out]; rw [HXL.out] at this; exact this); rw [HJ1.out] at hcm; (with_reducible refine hcm.mono ?_); clear hcm; rintro e w6 ⟨rfl, hb⟩; have HB6 := Aside0.mk (below_then HB5.out HB5.out.size hb); clear hb)
                | fail)
              go_ret
              exact ⟨rfl, below_then HBA.out HBA.out.size (below_then HB.out HB.out.size HB6.out)⟩
            · obtain ⟨m, rfl⟩ : ∃ m : Nat, k = (m : Int) := ⟨k.toNat, by omega⟩
              have hi30 := HN30.out
              have hw : wrap64 ((N5 : Int) - (P : Int)) = (D : Int) := by rw [IntWalk.wrap64_in _ (by omega)]; omega
              have hwi : wrap64 ((i : Int) - 1) = (i : Int) - 1 := IntWalk.wrap64_in _ (by omega)
              have hwp : wrap64 ((P : Int) + (m : Int)) = (TL : Int) := by rw [IntWalk.wrap64_in _ (by omega)]; omega
              clear hz0 hxr hje hP hD hND hlo hxl hP5 h1 h2 h3 hT hTL hj htl5 hkd hi30 hk0
              go_wp2_with (first
                | (go_at_call 15; (with_reducible refine (HSC.out _ (Below.refl _ _)).mono ?_); rintro e w2 ⟨v2, rfl, ho, hb⟩; obtain ⟨A7, c7, e7⟩ := Kd.R_slice ho; subst e7; rw [HN0.out] at ho ⊢; have HL2 := Aside0.mk (Kd.R_reads' ho).2.2; have HB2 := Aside0.mk hb; have hcg2 := pw_cell_below hb hcg; clear ho hb)
                | (go_at_call 13; (with_reducible refine (HCM.out w2 i A7 c7 (Nat.le_refl _) HB2.out (by have := HL2.out; rw [List.take_of_length_le (by rw [HN0.out]; exact Nat.le_refl _)]; rw [HN0.out] at this; exact this)).mono ?_); rintro e w3 ⟨rfl, hb⟩; have HB3 := Aside0.mk (below_then HB2.out HB2.out.size hb); have hcg3 := pw_cell_below hb hcg2; clear hb)
                | (go_at_call 16; (with_reducible refine (HTO.out _ HB3.out).mono ?_); rintro e w4 ⟨v4, rfl, ho, hb⟩; obtain ⟨A4, c4, e4⟩ := Kd.R_slice ho; subst e4; have hr4 := (Kd.R_reads' ho).2; rw [HTL.out] at hr4 ⊢; have HC4 := Aside0.mk hr4.1; have HR4 := Aside0.mk hr4.2; have HB4 := Aside0.mk (below_then HB3.out HB3.out.size hb); have hcg4 := pw_cell_below hb hcg3; clear ho hb hr4)
                | (go_at_call 15; (with_reducible refine (HS2.out w4 A4 c4 HC4.out HR4.out HB4.out).mono ?_); rintro e w5 ⟨v5, rfl, ho, hb⟩; obtain ⟨A8, c8, e8⟩ := Kd.R_slice ho; subst e8; rw [HXL.out] at ho ⊢; have HL5 := Aside0.mk (Kd.R_reads' ho).2.2; have HB5 := Aside0.mk (below_then HB4.out HB4.out.size hb); have hcg5 := pw_cell_below hb hcg4; clear ho hb)
                | (go_at_call 13; have hcm := HCM.out w5 j A8 c8 HJI.out HB5.out (by have := HL5.out; rw [HTK.out]; rw [HXL.out] at this; exact this); rw [HJ1.out] at hcm; (with_reducible refine hcm.mono ?_); clear hcm; rintro e w6 ⟨rfl, hb⟩; have HB6 := Aside0.mk (below_then HB5.out HB5.out.size hb); clear hb)
                | fail)
              go_ret
              exact ⟨rfl, below_then HBA.out HBA.out.size (below_then HB.out HB.out.size HB6.out)⟩
end Go.Proofs.YteapdhfeddgjbaaDoor.Dg
end
section
/- What is laid, as a table; JournalScans over what comes in. -/
namespace Go.Proofs.YteapdhfeddgjbaaDoor.Dg
set_option linter.unusedVariables false
open Go.RowKit Go.Proofs.YteapdhfeddgjbaaDoor.PDj Go.Proofs.YteapdhfeddgjbaaDoor.Num Go.Proofs.YteapdhfeddgjbaaDoorW Go.Proofs.YteapdhfeddgjbaaDoorW.PrintWords Go.Proofs.YteapdhfeddgjbaaDoor.Opn

theorem tab_of_laid {W : World} (h : laidMetH Tryd.prog [("cleromancy/digest.constants", Rows.laid_cleromancy_digest_constants)] W) : Tab W 2 KK := fun r hr => by
  rw [MakeChecks.laidMetH_plain _ _ _ (by kernel_rfl)] at h
  obtain ⟨ps, ⟨g, t, cs, fuel, p, q, hg, ht, hv, hd, _, _⟩, _, _⟩ := h
  obtain rfl := Option.some.inj ((show Tryd.prog.globalNamed "cleromancy/digest.constants" = some 2 by kernel_rfl).symm.trans hg)
  obtain rfl := Option.some.inj ((show (Tryd.prog.globals[2]?).map (·.type) = some 173 by kernel_rfl).symm.trans ht)
  obtain ⟨xs, m, _, ex, _, hl, hel⟩ := DataW.trod_array Tryd.underlying173 hd
  have c5 : Tryd.prog.cellsOf 144 = 1 := by kernel_rfl
  have hE := hel r (by rw [KK_len] at hr; exact hr)
  have hr64 : r < 64 := by rw [KK_len] at hr; exact hr
  rw [c5, Nat.mul_one, List.getElem?_eq_getElem (by omega)] at hE
  obtain ⟨z, e1, e2, _⟩ := DataW.trod_int Tryd.underlying144 hE
  have e3 : (xs.map (·.1)) = KK.map fun n => (DataW.lit (.int .u32 n) : DataW Unit) := by
    have e4 := (DataW.agg.inj (Prod.mk.inj ex).1).symm
    rw [e4]
    unfold KK PDb.cleromancyref05_Constants.f
    rfl
  have hlen := KK_len
  have e4 : (xs.map (·.1))[r]? = (KK.map fun n => (DataW.lit (.int .u32 n) : DataW Unit))[r]? := by rw [e3]
  rw [List.getElem?_map, List.getElem?_map, List.getElem?_eq_getElem (by omega : r < xs.length), List.getElem?_eq_getElem hr, e2] at e4
  have hz : z = rd KK (r : Int) := by
    simp only [Option.map_some, Option.some.injEq, DataW.lit.injEq, Lit.int.injEq, true_and] at e4
    rw [e4]; unfold rd; rw [Int.toNat_natCast, List.getD_eq_getElem?_getD, List.getElem?_eq_getElem hr]; rfl
  rw [World.var?_cell hg hv r, ← hz]
  have : cs.toList[r]? = some (.int .u32 z) := by
    have h0 : ((cs.toList.drop r).take 1)[0]? = some (.int .u32 z) := by rw [e1]; rfl
    simpa using h0
  simpa using this
theorem wf_u8 {n : Int} (h : (Lit.int .u8 n).wf = true) : 0 ≤ n ∧ n < 256 := by
  have : 0 ≤ n ∧ n ≤ 255 := by simpa [Lit.wf, IntKind.min, IntKind.max, IntKind.signed, IntKind.bits] using h
  omega
theorem wf_i64 {n : Int} (h : (Lit.int .i64 n).wf = true) : -9223372036854775808 ≤ n ∧ n ≤ 9223372036854775807 := by
  simpa [Lit.wf, IntKind.min, IntKind.max, IntKind.signed, IntKind.bits] using h
theorem open_bytes {H : Type} {enc : TypeId × Value → H} {W : World} {fuel : Nat} {a : Option Addr} {len cap : Nat} {x : DataW H × List MemPlace} (h : DataW.trod enc Tryd.prog W 0 (fun _ => true) true fuel 24 [.slice a len cap] = some x) :
    ∃ l : List Int, l.length = len ∧ len ≤ cap ∧ len ≤ maxLen ∧ Kd.C (Kd.int .u8) W a l.length l ∧ Bt l := by
  obtain ⟨l, h1, h2, h3, h4, h5⟩ := opens_row 5 Tryd.underlying24 (by kernel_rfl) (opens_int Tryd.underlying5) h
  exact ⟨l, h1, h2, h3, h4, fun x hx => wf_u8 (h5 x hx)⟩
theorem jscans_run (A0 : Option Addr) (c0 : Nat) (b : List Int) (A1 : Option Addr) (c1 : Nat) (r : List Int) (k : Int) (W : World) (hT : Tab W 2 KK)
    (h0 : Kd.C (Kd.int .u8) W A0 b.length b) (y0 : b.length ≤ c0) (m0 : b.length ≤ maxLen) (w0 : Bt b) (h1 : Kd.C (Kd.int .u8) W A1 r.length r) (y1 : r.length ≤ c1) (m1 : r.length ≤ maxLen) (w1 : Bt r) (wk : (Lit.int .i64 k).wf = true) :
    Calls Tryd.prog 4 #[.slice A0 b.length c0, .slice A1 r.length c1, .int .i64 k] W fun e W' => e = .returned (.bool true) ∧ Below W.heap.size W W' :=
  jscans_walk A0 b.length c0 b A1 r.length c1 r k W rfl y0 w0 h0 rfl y1 w1 h1 (wf_i64 wk) hT
end Go.Proofs.YteapdhfeddgjbaaDoor.Dg
end
section
/- JournalBack over what comes in. -/
namespace Go.Proofs.YteapdhfeddgjbaaDoor.Dg
set_option linter.unusedVariables false
open Go.RowKit Go.Proofs.YteapdhfeddgjbaaDoor.PDj Go.Proofs.YteapdhfeddgjbaaDoor.Num Go.Proofs.YteapdhfeddgjbaaDoorW Go.Proofs.YteapdhfeddgjbaaDoorW.PrintWords Go.Proofs.YteapdhfeddgjbaaDoor.Opn

theorem open_rows {H : Type} {enc : TypeId × Value → H} {W : World} {fuel : Nat} {a : Option Addr} {len cap : Nat} {x : DataW H × List MemPlace} (h : DataW.trod enc Tryd.prog W 0 (fun _ => true) true fuel 22 [.slice a len cap] = some x) :
    ∃ l : List (List Int), l.length = len ∧ len ≤ cap ∧ len ≤ maxLen ∧ (Kd.slice 5 (Kd.int .u8)).C W a l.length l ∧ ∀ r ∈ l, Bt r := by
  obtain ⟨l, h1, h2, h3, h4, h5⟩ := opens_row 24 Tryd.underlying22 (by kernel_rfl) (opens_slice 5 Tryd.underlying24 (by kernel_rfl) (opens_int Tryd.underlying5)) h
  exact ⟨l, h1, h2, h3, h4, fun r hr x hx => wf_u8 ((h5 r hr).2 x hx)⟩
theorem jback_run (A0 : Option Addr) (c0 : Nat) (rs : List (List Int)) (k : Int) (W : World) (hT : Tab W 2 KK)
    (h0 : (Kd.slice 5 (Kd.int .u8)).C W A0 rs.length rs) (y0 : rs.length ≤ c0) (m0 : rs.length ≤ maxLen) (w0 : ∀ r ∈ rs, Bt r) (wk : (Lit.int .i64 k).wf = true) :
    Calls Tryd.prog 3 #[.slice A0 rs.length c0, .int .i64 k] W fun e W' => e = .returned (.bool true) ∧ Below W.heap.size W W' :=
  jback_walk A0 rs.length c0 rs k W rfl y0 w0 h0 (wf_i64 wk) hT
end Go.Proofs.YteapdhfeddgjbaaDoor.Dg
end
