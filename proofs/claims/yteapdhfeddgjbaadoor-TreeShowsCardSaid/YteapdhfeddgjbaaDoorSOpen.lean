/- What comes in, opened by its kind: numbers, bools, strings, rows, structures, one inside another. -/
import Derived.Test.YteapdhfeddgjbaaDoorSWWords
import Derived.Deep.Slices
import Derived.ChangeArms
import Derived.ChangeBears
namespace Go.Proofs.YteapdhfeddgjbaaDoor.Opn
set_option linter.unusedVariables false
open Go.RowKit Go.ChangeShapes Go.Proofs.YteapdhfeddgjbaaDoorW Go.Proofs.YteapdhfeddgjbaaDoorW.PrintWords
variable {H : Type} {enc : TypeId × Value → H} {P : Program} {W : World} {base : Nat} {spare : Nat → Bool} {held : Bool}
def Opens {α : Type} (enc : TypeId × Value → H) (P : Program) (W : World) (base : Nat) (spare : Nat → Bool) (held : Bool) (t : TypeId) (k : Kd α) (ok : α → Prop) : Prop :=
  ∀ fuel cs x, DataW.trod enc P W base spare held fuel t cs = some x → ∃ a, k.K W a cs ∧ ok a
theorem Opens.mono {α : Type} {t : TypeId} {k : Kd α} {ok ok' : α → Prop} (h : Opens enc P W base spare held t k ok) (hm : ∀ a, ok a → ok' a) : Opens enc P W base spare held t k ok' :=
  fun fuel cs x hx => by obtain ⟨a, h1, h2⟩ := h fuel cs x hx; exact ⟨a, h1, hm a h2⟩
theorem opens_int {t : TypeId} {k : IntKind} (ht : P.underlying t = some (.int k)) : Opens enc P W base spare held t (Kd.int k) (fun n => (Lit.int k n).wf = true) := fun fuel cs x h => by
  obtain ⟨n, e, _, hw⟩ := DataW.trod_int ht h
  exact ⟨n, e, hw⟩
theorem opens_bool {t : TypeId} (ht : P.underlying t = some .bool) : Opens enc P W base spare held t Kd.bool (fun _ => True) := fun fuel cs x h => by
  obtain ⟨b, e, _⟩ := DataW.trod_bool ht h
  exact ⟨b, e, trivial⟩
theorem cells_get {w : World} {a : Addr} {n : Nat} {cs : List Value} (h : w.cells? base a n = some cs) : cs.length = n ∧ ∀ i u, cs[i]? = some u → w.cell? (a.add i) = some u := by
  obtain ⟨h1, h2, h3⟩ := World.cells?_some h
  refine ⟨h2, fun i u hu => ?_⟩
  have hi : i < cs.length := by
    by_cases hi : i < cs.length
    · exact hi
    · rw [List.getElem?_eq_none (by omega)] at hu; cases hu
  rw [h3 i (by omega), hu]
theorem opens_slice {α : Type} {t e : TypeId} {k : Kd α} {ok : α → Prop} (q : Nat) (ht : P.underlying t = some (.slice e)) (hsz : P.cellsOf e = k.sz) (he : Opens enc P W base spare held e k ok) :
    Opens enc P W base spare held t (Kd.slice q k) (fun l => l.length ≤ maxLen ∧ ∀ x ∈ l, ok x) := fun fuel cs x h => by
  rcases Go.Deep.open_slice ht h with ⟨rfl, _⟩ | ⟨a, len, cap, m, n, D, Pl, rfl, _, hl, hm, hmm, _, hcell⟩
  · exact ⟨[], ⟨none, 0, rfl, Nat.le_refl _, Kd.C_nil _ _⟩, Nat.zero_le _, fun x hx => by simp at hx⟩
  · have hlm : len ≤ m := by rw [hmm]; split <;> omega
    have hall : ∀ r, r ≤ len → ∃ xs : List α, xs.length = r ∧ (∀ x ∈ xs, ok x) ∧ ∀ j p, xs[j]? = some p → ∃ c, c.length = k.sz ∧ k.K W p c ∧ ∀ i u, c[i]? = some u → W.cell? (a.add (j * k.sz + i)) = some u := by
      intro r
      induction r with
      | zero => exact fun _ => ⟨[], rfl, fun x hx => by simp at hx, fun j p h => by simp at h⟩
      | succ r ih =>
        intro hr
        obtain ⟨xs, h1, h2, h3⟩ := ih (by omega)
        obtain ⟨cs', hc, htr⟩ := hcell r (by omega)
        obtain ⟨y, hy, hok⟩ := he _ _ _ htr
        rw [hsz] at hc
        obtain ⟨g1, g2⟩ := cells_get hc
        refine ⟨xs ++ [y], by simp [h1], fun x hx => ?_, fun j p hj => ?_⟩
        · rcases List.mem_append.1 hx with hx | hx
          · exact h2 x hx
          · rw [List.mem_singleton.1 hx]; exact hok
        · by_cases hjr : j < r
          · rw [List.getElem?_append_left (by omega)] at hj
            exact h3 j p hj
          · rw [List.getElem?_append_right (by omega)] at hj
            have hj0 : j - xs.length = 0 := by
              by_cases h0 : j - xs.length = 0
              · exact h0
              · rw [List.getElem?_eq_none (by simp; omega)] at hj; cases hj
            rw [hj0] at hj
            have hjj : j = r := by omega
            subst hjj
            cases hj
            refine ⟨cs', g1, hy, fun i u hu => ?_⟩
            rw [← Addr.add_add]
            exact g2 i u hu
    obtain ⟨xs, h1, h2, h3⟩ := hall len (Nat.le_refl _)
    subst h1
    have hmx : xs.length ≤ maxLen := by omega
    refine ⟨xs, ⟨some a, cap, rfl, hl, ⟨rfl, by unfold maxLen at hmx; omega, fun _ => ⟨a, rfl, h3⟩⟩⟩, hmx, h2⟩
def OpensF {α : Type} (enc : TypeId × Value → H) (P : Program) (W : World) (base : Nat) (spare : Nat → Bool) (held : Bool) (off : Nat) (fs : List Field) (k : Kd α) (ok : α → Prop) : Prop :=
  ∀ (cs : List Value) (n : Nat), cs.length = off + k.sz → (∀ f ∈ fs, ∃ y, DataW.trod enc P W base spare held n f.type ((cs.drop f.offset).take (P.cellsOf f.type)) = some y) → ∃ a, k.K W a (cs.drop off) ∧ ok a
theorem opensF_last {α : Type} {off : Nat} {f : Field} {k : Kd α} {ok : α → Prop} (ho : f.offset = off) (hsz : P.cellsOf f.type = k.sz) (h : Opens enc P W base spare held f.type k ok) : OpensF enc P W base spare held off [f] k ok := fun cs n hl hf => by
  obtain ⟨y, hy⟩ := hf f (by simp)
  rw [ho, hsz, List.take_of_length_le (by rw [List.length_drop]; omega)] at hy
  exact h _ _ _ hy
theorem opensF_cons {α β : Type} {off : Nat} {f : Field} {fs : List Field} {k0 : Kd α} {k1 : Kd β} {ok0 : α → Prop} {ok1 : β → Prop} (ho : f.offset = off) (hsz : P.cellsOf f.type = k0.sz) (h0 : Opens enc P W base spare held f.type k0 ok0)
    (h1 : OpensF enc P W base spare held (off + k0.sz) fs k1 ok1) : OpensF enc P W base spare held off (f :: fs) (Kd.pair k0 k1) (fun p => ok0 p.1 ∧ ok1 p.2) := fun cs n hl hf => by
  have hl' : cs.length = off + (k0.sz + k1.sz) := hl
  obtain ⟨y, hy⟩ := hf f (by simp)
  rw [ho, hsz] at hy
  obtain ⟨a, ha, ha'⟩ := h0 _ _ _ hy
  obtain ⟨b, hb, hb'⟩ := h1 cs n (by omega) (fun f hfm => hf f (List.mem_cons_of_mem _ hfm))
  refine ⟨(a, b), ⟨_, _, ?_, ha, hb⟩, ha', hb'⟩
  rw [← List.drop_drop, List.take_append_drop]
theorem opens_struct {α : Type} {t : TypeId} {fs : Array Field} {k : Kd α} {ok : α → Prop} (ht : P.underlying t = some (.struct fs)) (hsz : P.cellsOf t = k.sz) (h : OpensF enc P W base spare held 0 fs.toList k ok) : Opens enc P W base spare held t k ok := fun fuel cs x hx => by
  obtain ⟨xs, n, _, _, hl, hlen, hf⟩ := DataW.trod_struct ht hx
  have := h cs n (by omega) (fun f hfm => by
    obtain ⟨i, hi, e⟩ := List.getElem_of_mem hfm
    have hi' : i < fs.size := by simpa using hi
    have h1 := hf i f (by rw [Array.getElem?_eq_getElem hi']; rw [← e]; simp)
    rw [List.getElem?_eq_getElem (by omega)] at h1
    exact ⟨_, h1⟩)
  simpa using this
/-- A row that comes in. -/
theorem opens_row {α : Type} {t e : TypeId} {k : Kd α} {ok : α → Prop} (q : Nat) (ht : P.underlying t = some (.slice e)) (hsz : P.cellsOf e = k.sz) (he : Opens enc P W base spare held e k ok)
    {fuel : Nat} {a : Option Addr} {len cap : Nat} {x : DataW H × List MemPlace} (h : DataW.trod enc P W base spare held fuel t [.slice a len cap] = some x) :
    ∃ l : List α, l.length = len ∧ len ≤ cap ∧ len ≤ maxLen ∧ k.C W a l.length l ∧ ∀ x ∈ l, ok x := by
  obtain ⟨l, ⟨A, c, e1, e2, e3⟩, h1, h2⟩ := opens_slice q ht hsz he fuel _ _ h
  cases e1
  exact ⟨l, rfl, e2, h1, e3, h2⟩
end Go.Proofs.YteapdhfeddgjbaaDoor.Opn
