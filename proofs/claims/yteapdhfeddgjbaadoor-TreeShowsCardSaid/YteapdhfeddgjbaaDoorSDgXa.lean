/- Several texts made one. -/
import Derived.Test.YteapdhfeddgjbaaDoorSDgG
import Derived.Test.YteapdhfeddgjbaaDoorSWZeros
import Derived.Test.YteapdhfeddgjbaaDoorSPDex1
import Derived.Lib.Bytes
import Derived.Laws.BitsLemmas
import Derived.Test.YteapdhfeddgjbaaDoorSRng
import Derived.Shelf.Abstract
import Derived.Shelf.RegionOpen
import Derived.OwnWalkIn
import Derived.TacticsInMore
import Derived.LoopNIn
import Derived.LoopIn
import Derived.BigRegionIn
import Derived.Stop.RegionWithIn
import Derived.Test.YteapdhfeddgjbaaDoorSNumD
import Derived.Test.YteapdhfeddgjbaaDoorSPDjx4
import Derived.Deep.RegionHeld3
import Derived.Test.YteapdhfeddgjbaaDoorRows
import Derived.Test.YteapdhfeddgjbaaDoorSOpen
import Derived.LaidMore
import Derived.Lay
import Derived.LaidOnce
section
/- slices.Grow of nothing, slices.Concat of rows of bytes, by the program's text. -/
namespace Go.Proofs.YteapdhfeddgjbaaDoor.Dg
set_option linter.unusedVariables false
set_option linter.unusedSimpArgs false
open Go.RowKit Go.Proofs.YteapdhfeddgjbaaDoor.PDb Go.Proofs.YteapdhfeddgjbaaDoorW Go.Proofs.YteapdhfeddgjbaaDoorW.PrintWords Go.Proofs.YteapdhfeddgjbaaDoorW.PrintLast Go.Proofs.YteapdhfeddgjbaaDoorW.PrintMore

theorem C_some {k : IntKind} {W : World} {A : Option Addr} {n : Nat} {l : List Int} (h : Kd.C (Kd.int k) W A n l) (hn : 0 < n) : ∃ ad, A = some ad := by
  obtain ⟨-, -, h3⟩ := h
  obtain ⟨ad, e, -⟩ := h3 hn
  exact ⟨ad, e⟩
theorem ad_add0 (ad : Addr) : ad.add 0 = ad := by simp [Addr.add]
structure Prt where
  A : Option Addr
  c : Nat
  l : List Int
def Prt.v (p : Prt) : Value := .slice p.A p.l.length p.c
/-- The parts lie in a block. -/
def Parts (w : World) (g : Nat) (ps : List Prt) : Prop := ∀ i (h : i < ps.length), w.cell? ⟨g, i, none⟩ = some (ps[i].v) ∧ Kd.C (Kd.int .u8) w ps[i].A ps[i].l.length ps[i].l ∧ ps[i].l.length ≤ ps[i].c
theorem Parts.below {w w' : World} {g : Nat} {ps : List Prt} (h : Parts w g ps) (hb : Below w.heap.size w w') : Parts w' g ps := fun i hi => by
  obtain ⟨h1, h2, h3⟩ := h i hi
  exact ⟨pw_cell_below hb h1, Kd.C_below h2 hb, h3⟩
end Go.Proofs.YteapdhfeddgjbaaDoor.Dg
end
section
/- journal: check, Frame; slices.Clone, by the program's text. -/
namespace Go.Proofs.YteapdhfeddgjbaaDoor.Dg
set_option linter.unusedVariables false
set_option linter.unusedSimpArgs false
open Go.RowKit Go.Proofs.YteapdhfeddgjbaaDoor.PDb Go.Proofs.YteapdhfeddgjbaaDoorW Go.Proofs.YteapdhfeddgjbaaDoorW.PrintWords Go.Proofs.YteapdhfeddgjbaaDoorW.PrintLast Go.Proofs.YteapdhfeddgjbaaDoorW.PrintMore

/-- Bytes. -/
def Bt (l : List Int) : Prop := ∀ x ∈ l, 0 ≤ x ∧ x < 256
theorem Bt.rd {l : List Int} (h : Bt l) (i : Int) : 0 ≤ PrintWords.rd l i ∧ PrintWords.rd l i < 256 := by
  unfold PrintWords.rd
  rw [List.getD_eq_getElem?_getD]
  by_cases hi : i.toNat < l.length
  · rw [List.getElem?_eq_getElem hi, Option.getD_some]; exact h _ (List.getElem_mem hi)
  · rw [List.getElem?_eq_none (by omega), Option.getD_none]; omega
theorem Bt.append {a b : List Int} (ha : Bt a) (hb : Bt b) : Bt (a ++ b) := fun x hx => by
  rcases List.mem_append.1 hx with h | h
  · exact ha x h
  · exact hb x h
theorem w4_Bt (x : Int) : Bt (w4 x) := fun y hy => by
  rw [w4] at hy
  simp only [List.mem_cons, List.not_mem_nil, or_false] at hy
  rcases hy with h | h | h | h <;> (rw [h]; exact byte_lt _)
theorem outs_Bt : ∀ l, Bt (outs l)
  | [] => fun x hx => by cases hx
  | y :: l => by rw [outs]; exact (w4_Bt y).append (outs_Bt l)
theorem sha_Bt (d : List Int) : Bt (sha d) := outs_Bt _
theorem Bt.take {l : List Int} (h : Bt l) (n : Nat) : Bt (l.take n) := fun x hx => h x (List.mem_of_mem_take hx)
theorem Bt.drop {l : List Int} (h : Bt l) (n : Nat) : Bt (l.drop n) := fun x hx => h x (List.mem_of_mem_drop hx)
/-- A frame's eight bytes. -/
def chk (s r : List Int) : List Int := (sha (s ++ r)).take 8
end Go.Proofs.YteapdhfeddgjbaaDoor.Dg
end
section
/- journal: Frame; slices.Clone, by the program's text. -/
namespace Go.Proofs.YteapdhfeddgjbaaDoor.Dg
set_option linter.unusedVariables false
set_option linter.unusedSimpArgs false
open Go.RowKit Go.Proofs.YteapdhfeddgjbaaDoor.PDb Go.Proofs.YteapdhfeddgjbaaDoorW Go.Proofs.YteapdhfeddgjbaaDoorW.PrintWords Go.Proofs.YteapdhfeddgjbaaDoorW.PrintLast Go.Proofs.YteapdhfeddgjbaaDoorW.PrintMore

/-- A row of bytes that is the call's own. -/
def Own (w : World) (l : List Int) (e : Ending) (w' : World) : Prop := ∃ v, e = .returned v ∧ Kd.R (Kd.int .u8) 5 w' w.heap.size (fun _ => True) v l ∧ Below w.heap.size w w'
end Go.Proofs.YteapdhfeddgjbaaDoor.Dg
end
section
/- journal: whole frames, plain; bytes.Equal. -/
namespace Go.Proofs.YteapdhfeddgjbaaDoor.Dg
set_option linter.unusedVariables false
set_option linter.unusedSimpArgs false
open Go.RowKit Go.Proofs.YteapdhfeddgjbaaDoor.PDb Go.Proofs.YteapdhfeddgjbaaDoorW Go.Proofs.YteapdhfeddgjbaaDoorW.PrintWords Go.Proofs.YteapdhfeddgjbaaDoorW.PrintLast Go.Proofs.YteapdhfeddgjbaaDoorW.PrintMore

theorem u8_inj {a b : Int} (ha : 0 ≤ a ∧ a < 256) (hb : 0 ≤ b ∧ b < 256) (h : UInt8.ofNat a.toNat = UInt8.ofNat b.toNat) : a = b := by
  have h2 := congrArg UInt8.toNat h
  simp at h2
  omega
theorem map_inj : ∀ {a b : List Int}, Bt a → Bt b → a.map (fun n => UInt8.ofNat n.toNat) = b.map (fun n => UInt8.ofNat n.toNat) → a = b
  | [], [], _, _, _ => rfl
  | [], _ :: _, _, _, h => by simp at h
  | _ :: _, [], _, _, h => by simp at h
  | x :: a, y :: b, ha, hb, h => by
    simp only [List.map_cons, List.cons.injEq] at h
    rw [u8_inj (ha x List.mem_cons_self) (hb y List.mem_cons_self) h.1, map_inj (fun z hz => ha z (List.mem_cons_of_mem _ hz)) (fun z hz => hb z (List.mem_cons_of_mem _ hz)) h.2]
theorem beq_bytes {a b : List Int} (ha : Bt a) (hb : Bt b) : ((strOfNums a).toList == (strOfNums b).toList) = decide (a = b) := by
  by_cases h : a = b
  · subst h; simp
  · rw [decide_eq_false h]
    rw [beq_eq_false_iff_ne]
    intro e
    rw [ByteArray.toList_eq, ByteArray.toList_eq, strOfNums_data, strOfNums_data] at e
    exact h (map_inj ha hb e)
theorem equal_calls (A0 : Option Addr) (n0 c0 : Nat) (l0 : List Int) (A1 : Option Addr) (n1 c1 : Nat) (l1 : List Int) (e0 : l0.length = n0) (e1 : l1.length = n1) (w : World) (hr0 : Kd.C (Kd.int .u8) w A0 l0.length l0) (hc0 : n0 ≤ c0) (hr1 : Kd.C (Kd.int .u8) w A1 l1.length l1) (hc1 : n1 ≤ c1) (b0 : Bt l0) (b1 : Bt l1) :
    Calls Tryd.prog 57 #[.slice A0 n0 c0, .slice A1 n1 c1] w fun e w' => e = .returned (.bool (decide (l0 = l1))) ∧ Below w.heap.size w w' := by
  subst e0 e1
  refine (PDe.bytes_Equal.calls A0 c0 l0 A1 c1 l1 _ w hr0 hc0 hr1 hc1 (by unfold PDe.bytes_Equal.f; rw [beq_bytes b0 b1])).mono ?_
  rintro e w' ⟨h1, h2⟩
  exact ⟨h1, h2.below⟩

/-! ### whole frames -/
def hdN (f : List Int) : Nat := (rd f 0).toNat * 16777216 + (rd f 1).toNat * 65536 + (rd f 2).toNat * 256 + (rd f 3).toNat
/-- The first whole frame's record: how long it is. -/
def nxt (f : List Int) : Option Nat :=
  if 12 ≤ f.length ∧ hdN f ≤ 16777216 ∧ hdN f + 12 ≤ f.length ∧ (f.drop 4).take 8 = chk (f.take 4) ((f.drop 12).take (hdN f)) then some (hdN f) else none
/-- Where whole frames end, and their records. -/
def fra (b : List Int) : Nat → Nat → List (Nat × List Int)
  | 0, _ => []
  | k + 1, a => match nxt (b.drop a) with
    | none => []
    | some n => (a + (12 + n), ((b.drop a).drop 12).take n) :: fra b k (a + (12 + n))
def frames (b : List Int) : List (Nat × List Int) := fra b (b.length + 1) 0
end Go.Proofs.YteapdhfeddgjbaaDoor.Dg
end
section
/- journal: the iterator of whole frames. -/
namespace Go.Proofs.YteapdhfeddgjbaaDoor.Dg
set_option linter.unusedVariables false
set_option linter.unusedSimpArgs false
open Go.RowKit Go.Shelf Go.Proofs.YteapdhfeddgjbaaDoor.Rng Go.Proofs.YteapdhfeddgjbaaDoor.PDb Go.Proofs.YteapdhfeddgjbaaDoorW Go.Proofs.YteapdhfeddgjbaaDoorW.PrintWords Go.Proofs.YteapdhfeddgjbaaDoorW.PrintLast Go.Proofs.YteapdhfeddgjbaaDoorW.PrintMore
attribute [local go_sem] Oper.semAt_some

/-- What a round is handed: where the frame ends, and its record. -/
abbrev Fl := Nat × Option Addr × List Int × Nat
def fkey (x : Fl) : Nat × List Int := (x.1, x.2.2.1)
def FZ (b : List Int) (pre : List Fl) (x : Fl) (W : World) : Prop :=
  (∃ rest, frames b = pre.map fkey ++ fkey x :: rest) ∧ x.2.2.1.length ≤ x.2.2.2 ∧ Kd.C (Kd.int .u8) W x.2.1 x.2.2.1.length x.2.2.1
/-- What a round keeps. -/
def FKp (base g : Nat) (W W' : World) : Prop := Below base W W' ∧ (∀ v, W.cell? ⟨g, 0, none⟩ = some v → W'.cell? ⟨g, 0, none⟩ = some v)
end Go.Proofs.YteapdhfeddgjbaaDoor.Dg
end
section
/- journal: a range over whole frames; what is kept in cells; Torn. -/
namespace Go.Proofs.YteapdhfeddgjbaaDoor.Dg
set_option linter.unusedVariables false
set_option linter.unusedSimpArgs false
open Go.RowKit Go.Shelf Go.Proofs.YteapdhfeddgjbaaDoor.Rng Go.Proofs.YteapdhfeddgjbaaDoor.PDb Go.Proofs.YteapdhfeddgjbaaDoorW Go.Proofs.YteapdhfeddgjbaaDoorW.PrintWords Go.Proofs.YteapdhfeddgjbaaDoorW.PrintLast Go.Proofs.YteapdhfeddgjbaaDoorW.PrintMore
attribute [local go_sem] Oper.semAt_some

theorem C_move {k : IntKind} {W W' : World} {A : Option Addr} {l : List Int} (h : Kd.C (Kd.int k) W A l.length l) (hm : ∀ a v, W.cell? a = some (.int k v) → W'.cell? a = some (.int k v)) : Kd.C (Kd.int k) W' A l.length l := by
  have h' : ReadsOf (Value.int k) (0 : Int) W A l.length l := Kd.reads_of_C (h1 := fun _ => rfl) h
  refine Kd.C_of_reads (enc := Value.int k) (d := (0 : Int)) (h1 := fun _ => rfl) ⟨h'.1, h'.2.1, fun hp => ?_⟩
  obtain ⟨ad, e, hc⟩ := h'.2.2 hp
  exact ⟨ad, e, fun j hj => hm _ _ (hc j hj)⟩
theorem C_row {k : IntKind} {W W' : World} {row : Option Nat} {A : Option Addr} {l : List Int} (h : Kd.C (Kd.int k) W A l.length l) (hg : W.grownBy W' row) (hr : ∀ r, row = some r → ∃ o : Obj, W.heap[r]? = some o ∧ o.isCells = false) : Kd.C (Kd.int k) W' A l.length l :=
  C_move h fun a x hx => cell_kept hx hg hr
theorem set_far {X : World} {p a : Addr} {v u : Value} (hc : X.cell? a = some v) (hne : p.block ≠ a.block) : (X.setCell p u).cell? a = some v := by
  rw [World.cell?_setCell_far _ _ _ _ hne]; exact hc
theorem set_same {X : World} {p : Addr} {v u : Value} (hc : X.cell? p = some v) : (X.setCell p u).cell? p = some u := World.cell?_setCell_same' _ _ _ (by simp [hc])
theorem FKp.trans {base g : Nat} {X Y Z : World} (h : FKp base g X Y) (k : FKp base g Y Z) : FKp base g X Z := ⟨h.1.trans k.1, fun v c => k.2 v (h.2 v c)⟩
theorem FKp.putObj {base g : Nat} (W : World) (l : Nat) (o o' : Obj) (hbl : base ≤ l) (hl : W.heap[l]? = some o) (ho : o.isCells = false) : FKp base g W (W.putObj l o') := by
  have hr : ∀ r, some l = some r → ∃ o : Obj, W.heap[r]? = some o ∧ o.isCells = false := fun r e => by cases e; exact ⟨o, hl, ho⟩
  exact ⟨(Below.refl base W).grown (grownBy_putObj' W l o') (Nat.le_trans hbl (Nat.le_of_lt (Array.getElem?_eq_some_iff.1 hl).1)) (fun k e => by cases e; exact hbl), fun v c => cell_kept c (grownBy_putObj' W _ o') hr⟩
theorem FZ.putObj {b : List Int} (pre : List Fl) (x : Fl) (W : World) (l : Nat) (o o' : Obj) (hl : W.heap[l]? = some o) (ho : o.isCells = false) (h : FZ b pre x W) : FZ b pre x (W.putObj l o') := by
  have hr : ∀ r, some l = some r → ∃ o : Obj, W.heap[r]? = some o ∧ o.isCells = false := fun r e => by cases e; exact ⟨o, hl, ho⟩
  exact ⟨h.1, h.2.1, C_row h.2.2 (grownBy_putObj' W _ o') hr⟩
theorem C_none {W : World} {l : List Int} (h : Kd.C (Kd.int .u8) W none l.length l) : l = [] := by
  by_cases e : l.length = 0
  · exact List.eq_nil_of_length_eq_zero e
  · obtain ⟨ad, e2⟩ := C_some h (by omega)
    cases e2
theorem C_take {W : World} {A : Option Addr} {l : List Int} (h : Kd.C (Kd.int .u8) W A l.length l) (t : Nat) (ht : t ≤ l.length) : Kd.C (Kd.int .u8) W A (l.take t).length (l.take t) := by
  cases A with
  | none => rw [C_none h, List.take_nil]; exact Kd.C_nil _ _
  | some ad => exact C_head h t ht
theorem R_putObj {α : Type} {d : Kd α} {e base : Nat} {ok : Nat → Prop} {v : Value} {xs : List α} {w : World} (h : d.R e w base ok v xs) {D : Nat} {o : Obj} (hD : w.heap[D]? = some o) (ho : o.isCells = false) (o' : Obj) : d.R e (w.putObj D o') base ok v xs :=
  Kd.R_mono (Kd.R_step (Kd.R_bound h) (fun k hk _ => by
    obtain ⟨-, -, -, q, -, cells, hc⟩ := hk
    refine World.putObj_heap_other ?_
    rintro rfl
    rw [hD] at hc
    cases hc
    cases ho)) (fun k hk => hk.1)
theorem putObj_below {B : Nat} {w X : World} (h : Below B w X) {D : Nat} (hD : B ≤ D) (hB : B ≤ X.heap.size) (o' : Obj) : Below B w (X.putObj D o') := h.grown (grownBy_putObj' X D o') hB (fun k e => by cases e; exact hD)
/-- append(v, x): what the built-in does, as a run. -/
theorem R_append_run {α : Type} {P : Program} (d : Kd α) {W : World} (base : Nat) (t ty e : TypeId) (z : Value) (bytes : Nat)
    (ht : P.underlying t = some (.slice e)) (hinfo : (P.info? e).map (fun i => (i.zero, i.size, i.bytes)) = some (some z, d.sz, bytes)) (hz : z.cells.size = d.sz) (hs0 : 0 < d.sz) (hb0 : 0 < bytes)
    (v : Value) (xs : List α) (p : α) (cs : List Value) (ok okp : Nat → Prop) (hp : d.M W base okp p cs) (hokp : ∀ k, okp k → ok k ∧ some k ≠ v.ownBlock) (hfresh : ∀ k, W.heap.size ≤ k → ok k)
    (HO : d.R e W base ok v xs) (hbase : base ≤ W.heap.size) (hl : (xs.length + 1) * bytes ≤ 140737488355328) :
    ∃ v1 w1, (Builtin.append_ #[t, t] ty #[v, .slice (some ⟨W.heap.size, 0, none⟩) 1 1]).run P (W.alloc (.cells cs.toArray e)) = .ok v1 w1 ∧ d.R e w1 base ok v1 (xs ++ [p]) ∧ W.grownBy w1 v.ownBlock ∧ (v1.ownBlock = v.ownBlock ∨ ∃ b, v1.ownBlock = some b ∧ W.heap.size ≤ b) := by
  obtain ⟨i0, hi, hzz⟩ := Option.map_eq_some_iff.1 hinfo
  simp only [Prod.mk.injEq] at hzz
  obtain ⟨hz0, hz1, hz2⟩ := hzz
  obtain ⟨h0, inner, hown, hr⟩ := HO
  have hys : cs.length = d.sz := d.K_len (d.K_of_M hp)
  have hlen : xs.length + 1 ≤ 140737488355328 := Nat.le_trans (Nat.le_mul_of_pos_right _ hb0) hl
  obtain ⟨v1, w1, hrun, hown1, hg, _, hat⟩ := run_append_own_at (P := P) (W.alloc (.cells cs.toArray e)) base t ty e i0 z d.sz bytes ht hi hz0 hz1 hz2 hz hs0 v xs.length inner (hown.alloc _) ⟨W.heap.size, 0, none⟩ 1 1 cs (by rw [hys]; simp)
    (by simpa using World.news_of_block (cs := cs.toArray) (t := e) (fr := (0, 0)) (heap_alloc_new W (.cells cs.toArray e))) (d.K_one (d.K_of_M hp)) (by simp only [maxLen]; omega) hl (by simp; omega)
  have hat' : v1.ownBlock = v.ownBlock ∨ ∃ b, v1.ownBlock = some b ∧ W.heap.size ≤ b := by
    rcases hat with hat | hat
    · exact .inl hat
    · exact .inr ⟨_, hat, by simp⟩
  have hg' := World.grownBy.trans (World.grownBy_alloc W (.cells cs.toArray e) _) hg
  exact ⟨v1, w1, hrun, Kd.R_appended h0 hr hp hokp hfresh hown1 hg' hat', hg', hat'⟩
/-- append in a region, inside a fence, by its run. -/
theorem step_run_in {F : Fence} {n : Nat} {P : Program} {ops : Array Oper} {o : Oper} {a : Act} {Q : Exit → Act → World → Prop} {K : Act → World → Prop} {w w1 : World} {v1 : Value} (s x : Operand) (t : TypeId)
    (ho : o.op = .call { callee := .builtin .append, args := #[s, x], argTypes := #[t, t] }) (hgd : o.guard = none) (hrun : (Builtin.append_ #[t, t] o.type #[a.eval s, a.eval x]).run P w = .ok v1 w1) (h : K (a.put o.dst v1) w1) :
    if Region.wanted o (yielded ops a.tmps) = true then Oper.wpIn F n P o a w K Q else (∀ f, o.about P w a.eval = some f → F.fn f) ∧ K (a.put o.dst undef) w := by
  rw [if_pos (by simp only [Region.wanted, hgd])]
  unfold Oper.wpIn
  refine ⟨?_, ?_⟩
  · simp [Oper.about, ho, resolve, Target.leads, Sem.run_pure]
  · rw [Oper.semAt_plain F _ _ (by rw [ho]; intro c hc'; cases hc')]
    simp [execOp, ho, resolve, invoke, builtin, hrun, Result.andThen]
    exact h
end Go.Proofs.YteapdhfeddgjbaaDoor.Dg
end
section
/- journal: Torn. -/
namespace Go.Proofs.YteapdhfeddgjbaaDoor.Dg
set_option linter.unusedVariables false
set_option linter.unusedSimpArgs false
open Go.RowKit Go.Shelf Go.Proofs.YteapdhfeddgjbaaDoor.Rng Go.Proofs.YteapdhfeddgjbaaDoor.PDb Go.Proofs.YteapdhfeddgjbaaDoorW Go.Proofs.YteapdhfeddgjbaaDoorW.PrintWords Go.Proofs.YteapdhfeddgjbaaDoorW.PrintLast Go.Proofs.YteapdhfeddgjbaaDoorW.PrintMore
attribute [local go_sem] Oper.semAt_some

end Go.Proofs.YteapdhfeddgjbaaDoor.Dg
end
section
/- journal: Scan. -/
namespace Go.Proofs.YteapdhfeddgjbaaDoor.Dg
set_option linter.unusedVariables false
set_option linter.unusedSimpArgs false
open Go.RowKit Go.Shelf Go.Proofs.YteapdhfeddgjbaaDoor.Rng Go.Proofs.YteapdhfeddgjbaaDoor.PDb Go.Proofs.YteapdhfeddgjbaaDoorW Go.Proofs.YteapdhfeddgjbaaDoorW.PrintWords Go.Proofs.YteapdhfeddgjbaaDoorW.PrintLast Go.Proofs.YteapdhfeddgjbaaDoorW.PrintMore
attribute [local go_sem] Oper.semAt_some

theorem info24 : (Tryd.prog.info? 24).map (fun i => (i.zero, i.size, i.bytes)) = some (some (.slice none 0 0), 1, 24) := by kernel_rfl
theorem keeps_own {α : Type} {d : Kd α} {e base : Nat} {ok : Nat → Prop} {v : Value} {xs : List α} {w w1 : World} (h : d.R e w base ok v xs) (hg : w.grownBy w1 v.ownBlock) : KeepsOthers w w1 := by
  obtain ⟨inner, ho⟩ := Kd.R_own h
  refine KeepsOthers.of_grownBy hg fun j o e2 hj => ?_
  obtain ⟨cells, hc⟩ := own_typed ho j e2
  rw [hc] at hj
  cases hj
  rfl
end Go.Proofs.YteapdhfeddgjbaaDoor.Dg
end
section
/- digest: what the document's Sum comes to, in plain Lean. -/
namespace Go.Proofs.YteapdhfeddgjbaaDoor.Dg
set_option linter.unusedVariables false
open Go.RowKit Go.Proofs.YteapdhfeddgjbaaDoor.PDj Go.Proofs.YteapdhfeddgjbaaDoor.Num Go.Proofs.YteapdhfeddgjbaaDoorW Go.Proofs.YteapdhfeddgjbaaDoorW.PrintWords Go.Proofs.YteapdhfeddgjbaaDoorW.PrintLast Go.Proofs.YteapdhfeddgjbaaDoorW.PrintMore

theorem be8 (v : Nat) : be 8 v = b8 v := by
  simp only [be, le, b8, List.reverse_cons, List.reverse_nil, List.nil_append, List.cons_append, Nat.div_div_eq_div_mul]
theorem be4 (x : Int) (h0 : 0 ≤ x) : be 4 x.toNat = w4 x := by
  simp only [be, le, w4, List.reverse_cons, List.reverse_nil, List.nil_append, List.cons_append, Nat.div_div_eq_div_mul]
  congr 1
  · omega
  · congr 1
    · omega
    · congr 1
      · omega
      · congr 1
        omega
def W32 (l : List Int) : Prop := ∀ x ∈ l, 0 ≤ x ∧ x < 4294967296
theorem adds_W32 (h v : List Int) : ∀ i, W32 (adds h v i)
  | 0 => fun x hx => by cases hx
  | i + 1 => fun x hx => by
    rw [adds, List.mem_append] at hx
    rcases hx with hx | hx
    · exact adds_W32 h v i x hx
    · rw [List.mem_singleton.1 hx]; omega
theorem blk_W32 (h b : List Int) : W32 (blk h b) := adds_W32 _ _ _
theorem BB_W32 : W32 BB := by unfold W32 BB; decide
theorem run_W32 : ∀ n h m, W32 h → W32 (run h n m)
  | 0, _, _, hh => hh
  | n + 1, h, m, hh => run_W32 n _ _ (blk_W32 _ _)
theorem outs_append : ∀ a b : List Int, outs (a ++ b) = outs a ++ outs b
  | [], b => rfl
  | x :: a, b => by rw [List.cons_append, outs, outs, outs_append a b, List.append_assoc]
theorem dsum2 (H : List Int) (hl : H.length = 8) (hw : W32 H) : ∀ r i, i + r = 8 → Ev (fun k => cleromancyref05_Sum.l2 k H (outs (H.take i)) (i : Int)) (outs H)
  | 0, i, hi => by
    refine Ev.step (f := fun _ => _) (fun k => by rw [cleromancyref05_Sum.l2, if_neg (by omega)]) ?_
    rw [List.take_of_length_le (by omega)]
    exact Ev.now _
  | r + 1, i, hi => by
    have ih := dsum2 H hl hw r (i + 1) (by omega)
    have hx : 0 ≤ rd H (i : Int) ∧ rd H (i : Int) < 4294967296 := by rw [rd_nat H i (by omega)]; exact hw _ (List.getElem_mem _)
    have e1 : IntKind.u64.wrap (rd H (i : Int)) = rd H (i : Int) := by unfold IntKind.wrap; simp [IntKind.bits, IntKind.signed]; omega
    refine Ev.step (fun k => by rw [cleromancyref05_Sum.l2, if_pos (by omega), if_pos (by omega), if_pos (by omega), e1]) ?_
    have hwd : Wd [rd H (i : Int)] := fun y hy => by rw [List.mem_singleton.1 hy]; omega
    refine Ev.bind (words_ev [rd H (i : Int)] hwd (by simp)) ?_
    have hv : vn (dg (wv [rd H (i : Int)])) = (rd H (i : Int)).toNat := by rw [vn_dg]; simp [wv]
    refine Ev.bind (tobig_ev (dg (wv [rd H (i : Int)])) (dg_Dg _) (Nat.le_trans (dg_len_le _ 10 (by simp [wv]; omega)) (by omega)) 4 (by omega)) ?_
    rw [hv, be4 _ hx.1]
    have e2 : outs (H.take i) ++ w4 (rd H (i : Int)) = outs (H.take (i + 1)) := by
      rw [take_rd H i (by omega), outs_append]; simp [outs]
    refine Ev.congr (fun k => by rw [if_pos (by simp [outs_len, w4]; omega), e2, w64 _ (by omega) (by omega), natCast_succ']) ?_
    exact ih
theorem seg_len (M : List Int) (i r : Nat) (h : 64 * (i + (r + 1)) = M.length) : ((M.drop (64 * i)).take 64).length = 64 := by simp; omega
theorem dsum1 (M : List Int) (hb : By M) (hM : M.length ≤ 2000000) : ∀ r i, 64 * (i + r) = M.length → Ev (fun k => cleromancyref05_Sum.l1 k M (run BB i M) ((64 * i : Nat) : Int)) (outs (run BB (M.length / 64) M))
  | 0, i, hi => by
    refine Ev.step (fun k => by rw [cleromancyref05_Sum.l1, if_neg (by omega)]) ?_
    rw [show M.length / 64 = i from by omega]
    exact dsum2 _ (run_len BB rfl _ _) (run_W32 _ _ _ BB_W32) 8 0 rfl
  | r + 1, i, hi => by
    have ih := dsum1 M hb hM r (i + 1) (by omega)
    have e1 : wrap64 (((64 * i : Nat) : Int) + 64) = ((64 * (i + 1) : Nat) : Int) := by rw [w64 _ (by omega) (by omega)]; omega
    have e2 : ((M.take (((64 * (i + 1) : Nat) : Int)).toNat).drop (((64 * i : Nat) : Int)).toNat) = (M.drop (64 * i)).take 64 := by
      rw [Int.toNat_natCast, Int.toNat_natCast, List.drop_take, show 64 * (i + 1) - 64 * i = 64 from by omega]
    have e3 : cleromancyref05_block.f (run BB i M) ((M.drop (64 * i)).take 64) = some (run BB (i + 1) M) := by
      unfold cleromancyref05_block.f blkO
      rw [if_pos ⟨run_len BB rfl _ _, seg_len M i r hi, fun x hx => hb x (List.mem_of_mem_drop (List.mem_of_mem_take hx))⟩, run_next]
    refine Ev.step (fun k => by rw [cleromancyref05_Sum.l1, if_pos (by omega), if_pos (by omega), e1, if_pos (by omega), if_pos (by omega), e2, e3, Option.bind_some]) ?_
    exact ih
theorem By_append {a b : List Int} (ha : By a) (hb : By b) : By (a ++ b) := fun x hx => by
  rcases List.mem_append.1 hx with h | h
  · exact ha x h
  · exact hb x h
theorem tail_By (d : List Int) : By (tailOf d) := by
  unfold tailOf
  refine By_append (By_append ?_ ?_) ?_
  · intro x hx; rw [List.mem_singleton.1 hx]; omega
  · intro x hx; rw [List.eq_of_mem_replicate hx]; omega
  · intro x hx
    rw [b8] at hx
    simp only [List.mem_cons, List.not_mem_nil, or_false] at hx
    have key : ∀ n : Nat, 0 ≤ ((n % 256 : Nat) : Int) ∧ ((n % 256 : Nat) : Int) < 256 := fun n => by omega
    rcases hx with h | h | h | h | h | h | h | h <;> (rw [h]; exact key _)
theorem pad_mod (d : List Int) (i : Nat) (h : i < zs d.length) : ¬ (((d ++ [128] ++ List.replicate i 0).length : Int) % 64 = 56) := by
  rw [List.length_append, List.length_append, List.length_replicate]
  simp only [List.length_cons, List.length_nil]
  unfold zs at h
  omega
theorem pad_end (d : List Int) : (((d ++ [128] ++ List.replicate (zs d.length) 0).length : Int) % 64 = 56) := by
  have := (zs_is d.length).1
  rw [List.length_append, List.length_append, List.length_replicate]
  simp only [List.length_cons, List.length_nil]
  omega
theorem dsum0 (d : List Int) (hb : By d) (hd : d.length ≤ 1500000) : ∀ r i, i + r = zs d.length → Ev (fun k => cleromancyref05_Sum.l0 k d (d ++ [128] ++ List.replicate i 0)) (sha d)
  | 0, i, hi => by
    obtain rfl : i = zs d.length := by omega
    have h8 : wrap64 (8 * (d.length : Int)) = ((8 * d.length : Nat) : Int) := by rw [w64 _ (by omega) (by omega)]; omega
    refine Ev.step (fun k => by rw [cleromancyref05_Sum.l0, if_pos (pad_end d), h8]) ?_
    refine Ev.bind (int_ev (8 * d.length) (by omega)) ?_
    refine Ev.bind (tobig_ev (dg (8 * d.length)) (dg_Dg _) (Nat.le_trans (dg_len_le _ 10 (by omega)) (by omega)) 8 (by omega)) ?_
    rw [vn_dg, be8]
    have e1 : d ++ [128] ++ List.replicate (zs d.length) 0 ++ b8 (8 * d.length) = d ++ tailOf d := by unfold tailOf; simp [List.append_assoc]
    have e2 := tail_len d
    have e3 := (zs_is d.length).2
    have e4 : (d ++ [128] ++ List.replicate (zs d.length) 0).length = d.length + 1 + zs d.length := by simp; omega
    refine Ev.congr (fun k => by rw [if_pos (by rw [e4]; show _ + 8 < _; omega), e1]) ?_
    refine Ev.congr (fun k => by rw [show cleromancyref05_Begin.f = some BB from rfl, Option.bind_some]) ?_
    have := dsum1 (d ++ tailOf d) (By_append hb (tail_By d)) (by rw [List.length_append, e2.2]; omega) ((d ++ tailOf d).length / 64) 0 (by omega)
    exact this
  | r + 1, i, hi => by
    have ih := dsum0 d hb hd r (i + 1) (by omega)
    have e4 : (d ++ [128] ++ List.replicate i 0).length = d.length + 1 + i := by simp; omega
    have e3 := (zs_is d.length).2
    refine Ev.step (fun k => by rw [cleromancyref05_Sum.l0, if_neg (pad_mod d i (by omega)), if_pos (by rw [e4]; omega), List.append_assoc, ← List.replicate_succ']) ?_
    exact ih
theorem dsum_ev (d : List Int) (hb : By d) (hd : d.length ≤ 1500000) : Ev (fun k => cleromancyref05_Sum.f k d) (sha d) := by
  unfold cleromancyref05_Sum.f
  refine Ev.congr (fun k => by rw [List.nil_append, if_pos (by simp; omega), Option.bind_some, if_pos (by omega)]) ?_
  have := dsum0 d hb hd (zs d.length) 0 (by omega)
  rw [List.replicate_zero, List.append_nil] at this
  exact this
end Go.Proofs.YteapdhfeddgjbaaDoor.Dg
end
section
/- the document's frames: Frame, First, Ends, plain and as calls; Same; Fits. -/
namespace Go.Proofs.YteapdhfeddgjbaaDoor.Dg
set_option linter.unusedVariables false
set_option linter.unusedSimpArgs false
open Go.RowKit Go.Proofs.YteapdhfeddgjbaaDoor.PDj Go.Proofs.YteapdhfeddgjbaaDoor.Num Go.Proofs.YteapdhfeddgjbaaDoorW Go.Proofs.YteapdhfeddgjbaaDoorW.PrintWords Go.Proofs.YteapdhfeddgjbaaDoorW.PrintLast Go.Proofs.YteapdhfeddgjbaaDoorW.PrintMore

end Go.Proofs.YteapdhfeddgjbaaDoor.Dg
end
section
/- the document's Frame, First, Ends, Same as calls; Fits; awake. -/
namespace Go.Proofs.YteapdhfeddgjbaaDoor.Dg
set_option linter.unusedVariables false
set_option linter.unusedSimpArgs false
open Go.RowKit Go.Proofs.YteapdhfeddgjbaaDoor.PDj Go.Proofs.YteapdhfeddgjbaaDoor.Num Go.Proofs.YteapdhfeddgjbaaDoorW Go.Proofs.YteapdhfeddgjbaaDoorW.PrintWords Go.Proofs.YteapdhfeddgjbaaDoorW.PrintLast Go.Proofs.YteapdhfeddgjbaaDoorW.PrintMore

def Tells (v : Value) (w : World) (e : Ending) (w' : World) : Prop := e = .returned v ∧ Below w.heap.size w w'
theorem same_calls (A0 : Option Addr) (n0 c0 : Nat) (l0 : List Int) (A1 : Option Addr) (n1 c1 : Nat) (l1 : List Int) (e0 : l0.length = n0) (e1 : l1.length = n1) (hl : n0 ≤ 1000000) (hc0 : n0 ≤ c0) (hc1 : n1 ≤ c1) (w : World) (hC0 : Kd.C (Kd.int .u8) w A0 l0.length l0) (hC1 : Kd.C (Kd.int .u8) w A1 l1.length l1) :
    Calls Tryd.prog 14 #[.slice A0 n0 c0, .slice A1 n1 c1] w (Tells (.bool (decide (l0 = l1))) w) := by
  subst e0 e1
  obtain ⟨k, hk⟩ := Ev.rounds (same_ev l0 l1 hl)
  refine (cleromancyref01_Same.calls k A0 c0 l0 A1 c1 l1 _ w hC0 hc0 hC1 hc1 hk).mono ?_
  rintro e w' ⟨h1, h2⟩
  exact ⟨h1, h2.below⟩
theorem C_drop {W : World} {A : Option Addr} {l : List Int} (h : Kd.C (Kd.int .u8) W A l.length l) (a c : Nat) (ha : a ≤ l.length) (hc : l.length ≤ c) : Kd.C (Kd.int .u8) W (if c = a then A else A.map (·.add a)) (l.drop a).length (l.drop a) := by
  have h2 := ReadsOf.drop_ (Kd.reads_of_C (h1 := fun _ => rfl) (d := (0 : Int)) h) a ha hc
  have e : l.length - a = (l.drop a).length := by rw [List.length_drop]
  rw [e] at h2
  exact Kd.C_of_reads (h1 := fun _ => rfl) h2
theorem info3 : (Tryd.prog.info? 3).map (fun i => (i.zero, i.size, i.bytes)) = some (some (.int .i64 0), 1, 8) := by kernel_rfl
theorem info5p : ∃ i, Tryd.prog.info? 5 = some i ∧ i.size = 1 := by
  obtain ⟨i0, hi, hzz⟩ := Option.map_eq_some_iff.1 info5
  simp only [Prod.mk.injEq] at hzz
  exact ⟨i0, hi, hzz.2.1⟩
theorem cut_mid {b : List Int} {N c : Nat} {A : Option Addr} (hN : b.length = N) (hc : N ≤ c) (a e : Nat) (ha : a ≤ e) (he : e ≤ N) :
    ∃ A', (∀ W : World, (Instr.slice 24 (.slice A N c) (some (.int .i64 (a : Int))) (some (.int .i64 (e : Int))) none).run Tryd.prog W = .ok (.slice A' (e - a) (c - a)) W) ∧ (∀ w : World, Kd.C (Kd.int .u8) w A b.length b → Kd.C (Kd.int .u8) w A' ((b.take e).drop a).length ((b.take e).drop a)) := by
  subst hN
  obtain ⟨i0, hi, hs⟩ := info5p
  obtain ⟨A', h1, h2, h3⟩ := print_mid_of (P := Tryd.prog) (Value.int .u8) (0 : Int) 24 5 .i64 .i64 Tryd.underlying24 hi hs A c b (a : Int) (e : Int) (by omega) (by omega) (by omega) hc
  rw [Int.toNat_natCast, Int.toNat_natCast] at h1 h2
  have hl : ((b.take e).drop a).length = e - a := by rw [List.length_drop, List.length_take]; omega
  rw [hl] at h1
  exact ⟨A', h1, fun w h => Kd.C_of_reads (h1 := fun _ => rfl) (h2 w (Kd.reads_of_C (h1 := fun _ => rfl) h))⟩
end Go.Proofs.YteapdhfeddgjbaaDoor.Dg
end
section
/- journal: records that are framed, plain; Fits; awake. -/
namespace Go.Proofs.YteapdhfeddgjbaaDoor.Dg
set_option linter.unusedVariables false
set_option linter.unusedSimpArgs false
open Go.RowKit Go.Proofs.YteapdhfeddgjbaaDoor.PDj Go.Proofs.YteapdhfeddgjbaaDoor.Num Go.Proofs.YteapdhfeddgjbaaDoorW Go.Proofs.YteapdhfeddgjbaaDoorW.PrintWords Go.Proofs.YteapdhfeddgjbaaDoorW.PrintLast Go.Proofs.YteapdhfeddgjbaaDoorW.PrintMore

end Go.Proofs.YteapdhfeddgjbaaDoor.Dg
end
section
/- Statement JournalScans: the walk of the law. -/
namespace Go.Proofs.YteapdhfeddgjbaaDoor.Dg
set_option linter.unusedVariables false
set_option linter.unusedSimpArgs false
open Go.RowKit Go.Proofs.YteapdhfeddgjbaaDoor.PDj Go.Proofs.YteapdhfeddgjbaaDoor.Num Go.Proofs.YteapdhfeddgjbaaDoorW Go.Proofs.YteapdhfeddgjbaaDoorW.PrintWords Go.Proofs.YteapdhfeddgjbaaDoorW.PrintLast Go.Proofs.YteapdhfeddgjbaaDoorW.PrintMore

theorem at_row {w : World} {A : Option Addr} {n : Nat} {xs : List (List Int)} (h : (Kd.slice 5 (Kd.int .u8)).C w A n xs) (i : Nat) (hi : i < n) :
    ∃ ad A' c', A = some ad ∧ w.cell? (ad.add i) = some (.slice A' (xs.getD i []).length c') ∧ (xs.getD i []).length ≤ c' ∧ Kd.C (Kd.int .u8) w A' (xs.getD i []).length (xs.getD i []) := by
  obtain ⟨ad, c, e, hl, ⟨A', c', rfl, h1, h2⟩, hc⟩ := Kd.C_get h [] (i : Int) (by omega) (by omega)
  refine ⟨ad, A', c', e, ?_, ?_, ?_⟩
  · have := hc 0 _ rfl
    simpa [Kd.slice] using this
  · simpa using h1
  · simpa using h2
theorem meas_nat {i M : Nat} (h : i < M) : M - (intOf (.int .i64 ((i : Int) + 1))).toNat < M - (intOf (.int .i64 (i : Int))).toNat := by simp [intOf]; omega
end Go.Proofs.YteapdhfeddgjbaaDoor.Dg
end
section
/- What is laid, as a table; JournalScans over what comes in. -/
namespace Go.Proofs.YteapdhfeddgjbaaDoor.Dg
set_option linter.unusedVariables false
open Go.RowKit Go.Proofs.YteapdhfeddgjbaaDoor.PDj Go.Proofs.YteapdhfeddgjbaaDoor.Num Go.Proofs.YteapdhfeddgjbaaDoorW Go.Proofs.YteapdhfeddgjbaaDoorW.PrintWords Go.Proofs.YteapdhfeddgjbaaDoor.Opn

theorem tab_of_laid {W : World} (h : laidMetH Tryd.prog [("cleromancy/digest.constants", Rows.laid_cleromancy_digest_constants)] W) : Tab W 2 KK := fun r hr => by
  rw [MakeChecks.laidMetH_plain _ _ _ (by kernel_rfl)] at h
  obtain ⟨ps, ⟨g, t, cs, fuel, p, q, hg, ht, hv, hd, _, _⟩, _, _⟩ := h
  obtain rfl := Option.some.inj ((show Tryd.prog.globalNamed "cleromancy/digest.constants" = some 2 by kernel_rfl).symm.trans hg)
  obtain rfl := Option.some.inj ((show (Tryd.prog.globals[2]?).map (·.type) = some 173 by kernel_rfl).symm.trans ht)
  obtain ⟨xs, m, _, ex, _, hl, hel⟩ := DataW.trod_array Tryd.underlying173 hd
  have c5 : Tryd.prog.cellsOf 144 = 1 := by kernel_rfl
  have hE := hel r (by rw [KK_len] at hr; exact hr)
  have hr64 : r < 64 := by rw [KK_len] at hr; exact hr
  rw [c5, Nat.mul_one, List.getElem?_eq_getElem (by omega)] at hE
  obtain ⟨z, e1, e2, _⟩ := DataW.trod_int Tryd.underlying144 hE
  have e3 : (xs.map (·.1)) = KK.map fun n => (DataW.lit (.int .u32 n) : DataW Unit) := by
    have e4 := (DataW.agg.inj (Prod.mk.inj ex).1).symm
    rw [e4]
    unfold KK PDb.cleromancyref05_Constants.f
    rfl
  have hlen := KK_len
  have e4 : (xs.map (·.1))[r]? = (KK.map fun n => (DataW.lit (.int .u32 n) : DataW Unit))[r]? := by rw [e3]
  rw [List.getElem?_map, List.getElem?_map, List.getElem?_eq_getElem (by omega : r < xs.length), List.getElem?_eq_getElem hr, e2] at e4
  have hz : z = rd KK (r : Int) := by
    simp only [Option.map_some, Option.some.injEq, DataW.lit.injEq, Lit.int.injEq, true_and] at e4
    rw [e4]; unfold rd; rw [Int.toNat_natCast, List.getD_eq_getElem?_getD, List.getElem?_eq_getElem hr]; rfl
  rw [World.var?_cell hg hv r, ← hz]
  have : cs.toList[r]? = some (.int .u32 z) := by
    have h0 : ((cs.toList.drop r).take 1)[0]? = some (.int .u32 z) := by rw [e1]; rfl
    simpa using h0
  simpa using this
theorem wf_u8 {n : Int} (h : (Lit.int .u8 n).wf = true) : 0 ≤ n ∧ n < 256 := by
  have : 0 ≤ n ∧ n ≤ 255 := by simpa [Lit.wf, IntKind.min, IntKind.max, IntKind.signed, IntKind.bits] using h
  omega
theorem wf_i64 {n : Int} (h : (Lit.int .i64 n).wf = true) : -9223372036854775808 ≤ n ∧ n ≤ 9223372036854775807 := by
  simpa [Lit.wf, IntKind.min, IntKind.max, IntKind.signed, IntKind.bits] using h
end Go.Proofs.YteapdhfeddgjbaaDoor.Dg
end
