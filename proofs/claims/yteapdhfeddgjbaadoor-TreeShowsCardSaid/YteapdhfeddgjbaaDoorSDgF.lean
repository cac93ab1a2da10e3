/- digest: New and Write, by the program. -/
import Derived.Test.YteapdhfeddgjbaaDoorSDgE
namespace Go.Proofs.YteapdhfeddgjbaaDoor.Dg
set_option linter.unusedVariables false
set_option linter.unusedSimpArgs false
open Go.RowKit Go.Proofs.YteapdhfeddgjbaaDoor.PDb Go.Proofs.YteapdhfeddgjbaaDoorW Go.Proofs.YteapdhfeddgjbaaDoorW.PrintWords Go.Proofs.YteapdhfeddgjbaaDoorW.PrintLast Go.Proofs.YteapdhfeddgjbaaDoorW.PrintMore

theorem info5 : (Tryd.prog.info? 5).map (fun i => (i.zero, i.size, i.bytes)) = some (some (.int .u8 0), 1, 1) := by kernel_rfl
/-- A sum's last cells. -/
def Hd (W : World) (g : Nat) (v : Value) (n : Nat) : Prop :=
  W.cell? ⟨g, 8, none⟩ = some v ∧ W.frozen? ⟨g, 8, none⟩ = false ∧ W.cell? ⟨g, 9, none⟩ = some (.int .u64 (n : Int)) ∧ W.frozen? ⟨g, 9, none⟩ = false ∧ W.cell? ⟨g, 10, none⟩ = some (.bool true)
theorem Hd.kept {W W2 : World} {g : Nat} {v : Value} {n : Nat} {S : Nat → Prop} (h : Hd W g v n) (hk : Kept W W2 S) (hn : ¬ S g) : Hd W2 g v n := by
  obtain ⟨h1, h2, h3, h4, h5⟩ := h
  have hf : ∀ i, W2.frozen? ⟨g, i, none⟩ = W.frozen? ⟨g, i, none⟩ := fun i => World.frozen?_of_block (w := W) (a := ⟨g, i, none⟩) (hk.2 g (World.block_lt_of_cell? _ _ h1) hn)
  exact ⟨cell_kept h1 hk hn, (hf 8).trans h2, cell_kept h3 hk hn, (hf 9).trans h4, cell_kept h5 hk hn⟩
/-- A sum of fewer than 64 bytes. -/
def IsHs (W : World) (base g : Nat) (d : List Int) : Prop :=
  base ≤ g ∧ Arr W g BB ∧ d.length < 64 ∧ ∃ v, Hd W g v d.length ∧ Kd.R (Kd.int .u8) 5 W base (fun k => k ≠ g) v d
/-- A sum of bytes: what is behind the last block can be read. -/
def IsHb (W : World) (base g : Nat) (d : List Int) : Prop :=
  base ≤ g ∧ Arr W g (run BB (d.length / 64) d) ∧ ∃ A c, Hd W g (.slice A (d.length % 64) c) d.length ∧ d.length % 64 ≤ c ∧ Kd.C (Kd.int .u8) W A (d.drop (64 * (d.length / 64))).length (d.drop (64 * (d.length / 64)))
theorem IsHs.below {W W2 : World} {base g : Nat} {d : List Int} (h : IsHs W base g d) (hb : Below W.heap.size W W2) : IsHs W2 base g d := by
  obtain ⟨h1, h2, h3, v, h4, h5⟩ := h
  exact ⟨h1, h2.below hb, h3, v, h4.kept (Kept.of_below hb (fun _ => False)) (fun h => h), Kd.R_below h5 hb⟩
theorem IsHb.below {W W2 : World} {base g : Nat} {d : List Int} (h : IsHb W base g d) (hb : Below W.heap.size W W2) : IsHb W2 base g d := by
  obtain ⟨h1, h2, A, c, h4, h5, h6⟩ := h
  exact ⟨h1, h2.below hb, A, c, h4.kept (Kept.of_below hb (fun _ => False)) (fun h => h), h5, Kd.C_below h6 hb⟩
theorem Arr.newp (w : World) (l : List Int) (r : List Value) (t : TypeId) : Arr (w.alloc (.cells (l.map (Value.int .u32) ++ r).toArray t)) w.heap.size l := fun i hi => by
  refine ⟨?_, World.frozen?_alloc_new _ _ _ _⟩
  rw [World.cell?_alloc_new]
  simp only [List.getElem?_toArray]
  rw [List.getElem?_append_left (by rw [List.length_map]; exact hi)]
  simp only [List.getElem?_map, rd, Int.toNat_natCast, List.getD_eq_getElem?_getD, List.getElem?_eq_getElem hi, Option.map_some, Option.getD_some]
theorem new_is (W : World) : IsHs (W.alloc (.cells #[.int .u32 1779033703, .int .u32 3144134277, .int .u32 1013904242, .int .u32 2773480762, .int .u32 1359893119, .int .u32 2600822924, .int .u32 528734635, .int .u32 1541459225, .slice none 0 0, .int .u64 0, .bool true] 157)) W.heap.size W.heap.size [] :=
  ⟨Nat.le_refl _, Arr.newp W BB [.slice none 0 0, .int .u64 0, .bool true] 157, by simp, .slice none 0 0, ⟨by go_simp, by go_simp, by go_simp, by go_simp, by go_simp⟩, Kd.R_nil _ _ _ _ _⟩
theorem IsHs.lower {W : World} {base base2 g : Nat} {d : List Int} (h : IsHs W base g d) (hb : base2 ≤ base) : IsHs W base2 g d := by
  obtain ⟨h1, h2, h3, v, h4, h5⟩ := h
  exact ⟨Nat.le_trans hb h1, h2, h3, v, h4, Kd.R_lower h5 hb⟩
set_option maxHeartbeats 6400000 in
set_option maxRecDepth 100000 in
theorem new_calls (w : World) : Calls Tryd.prog 70 #[] w fun e w' => ∃ g, e = .returned (.pointer (some ⟨g, 0, none⟩)) ∧ IsHs w' w.heap.size g [] ∧ Below w.heap.size w w' := by
  have hn := fun o : Obj => new_is (w.alloc o)
  have hs := fun o : Obj => (show (w.alloc o).heap.size = w.heap.size + 1 by simp)
  have HN := Aside0.mk hn
  have HSZ := Aside0.mk hs
  clear hn hs
  go_enter Tryd.func70, Tryd.ntmps70
  go_wp2
  go_ret
  refine ⟨_, rfl, ?_, below_alloc (below_alloc (Below.refl _ _) _) _⟩
  have h := HN.out (.cells #[.int .u32 1779033703, .int .u32 3144134277, .int .u32 1013904242, .int .u32 2773480762, .int .u32 1359893119, .int .u32 2600822924, .int .u32 528734635, .int .u32 1541459225] 154)
  have h2 := h.lower (base2 := w.heap.size) (by rw [HSZ.out]; omega)
  rw [HSZ.out] at h2
  exact h2
theorem C_part {k : IntKind} {W : World} {ad : Addr} {l : List Int} (h : Kd.C (Kd.int k) W (some ad) l.length l) (i m : Nat) (him : i + m ≤ l.length) : Kd.C (Kd.int k) W (some (ad.add i)) ((l.drop i).take m).length ((l.drop i).take m) := by
  have hlen : ((l.drop i).take m).length = m := by rw [List.length_take, List.length_drop]; omega
  have hmax : l.length ≤ 9223372036854775807 := h.2.1
  refine ⟨rfl, by rw [hlen]; omega, fun hp => ⟨ad.add i, rfl, fun j q hq => ⟨[.int k q], rfl, rfl, fun i' u hu => ?_⟩⟩⟩
  have hj : j < ((l.drop i).take m).length := by
    by_cases hj : j < ((l.drop i).take m).length
    · exact hj
    · rw [List.getElem?_eq_none (by omega)] at hq; cases hq
  rw [hlen] at hj
  rw [List.getElem?_take_of_lt hj, List.getElem?_drop] at hq
  obtain ⟨ad', e, hc⟩ := Kd.at_int h ((i + j : Nat) : Int) (by omega) (by omega)
  cases e
  have hrd : rd l ((i + j : Nat) : Int) = q := by
    unfold rd
    rw [Int.toNat_natCast, List.getD_eq_getElem?_getD, hq]; rfl
  rw [Int.toNat_natCast, hrd] at hc
  have hi0 : i' = 0 := by
    by_cases h0 : i' = 0
    · exact h0
    · rw [List.getElem?_eq_none (by simp; omega)] at hu; cases hu
  subst hi0
  cases hu
  have e1 : j * (Kd.int k).sz + 0 = j := by show j * 1 + 0 = j; omega
  rw [e1, Addr.add_add]
  exact hc
theorem C_whole {k : IntKind} {W : World} {ad : Addr} {l : List Int} (h : Kd.C (Kd.int k) W (some ad) l.length l) (i : Nat) (hi : i ≤ l.length) : Kd.C (Kd.int k) W (some (ad.add i)) (l.drop i).length (l.drop i) := by
  have h2 := C_part h i (l.length - i) (by omega)
  rw [List.take_of_length_le (by rw [List.length_drop]; omega)] at h2
  exact h2
theorem C_head {k : IntKind} {W : World} {ad : Addr} {l : List Int} (h : Kd.C (Kd.int k) W (some ad) l.length l) (m : Nat) (hm : m ≤ l.length) : Kd.C (Kd.int k) W (some ad) (l.take m).length (l.take m) := by
  have h0 := C_part h 0 m (by omega)
  simpa [Addr.add] using h0
/-- A row that lies elsewhere than a block is kept where that block alone turns. -/
theorem C_far {k : IntKind} {W W2 : World} {A : Option Addr} {n g : Nat} {l : List Int} (h : Kd.C (Kd.int k) W A n l) (hf : ∀ ad, A = some ad → ad.block ≠ g) (hk : Kept W W2 (fun k => k = g)) : Kd.C (Kd.int k) W2 A n l := by
  refine ⟨h.1, h.2.1, fun hn => ?_⟩
  obtain ⟨ad, e, hc⟩ := h.2.2 hn
  refine ⟨ad, e, fun j q hq => ?_⟩
  obtain ⟨c, hl, hr, hcell⟩ := hc j q hq
  refine ⟨c, hl, hr, fun i u hu => ?_⟩
  have hb : (ad.add (j * (Kd.int k).sz + i)).block = ad.block := by unfold Addr.add; split <;> rfl
  exact cell_kept (hcell i u hu) hk (by rw [hb]; exact hf ad e)
theorem Arr.setFar {W : World} {g : Nat} {l : List Int} (h : Arr W g l) {j : Nat} (hj : l.length ≤ j) (u : Value) : Arr (W.setCell ⟨g, j, none⟩ u) g l := fun i hi => by
  obtain ⟨h1, h2⟩ := h i hi
  exact ⟨by rw [World.cell?_setCell_other (h := by simp <;> omega)]; exact h1, by rw [World.frozen?_setCell]; exact h2⟩
theorem cell_set_same {W : World} {g j : Nat} {v u : Value} (h : W.cell? ⟨g, j, none⟩ = some v) : (W.setCell ⟨g, j, none⟩ u).cell? ⟨g, j, none⟩ = some u := World.cell?_setCell_same' _ _ _ (by simp [h])
theorem cell_set_far {W : World} {g i j : Nat} {v u : Value} (hij : i ≠ j) (h : W.cell? ⟨g, j, none⟩ = some v) : (W.setCell ⟨g, i, none⟩ u).cell? ⟨g, j, none⟩ = some v := by
  rw [World.cell?_setCell_other (h := by simp [hij])]; exact h
theorem Hd.set8 {W : World} {g : Nat} {v : Value} {n : Nat} (h : Hd W g v n) (u : Value) : Hd (W.setCell ⟨g, 8, none⟩ u) g u n := by
  obtain ⟨h1, h2, h3, h4, h5⟩ := h
  exact ⟨cell_set_same h1, by rw [World.frozen?_setCell]; exact h2, cell_set_far (by omega) h3, by rw [World.frozen?_setCell]; exact h4, cell_set_far (by omega) h5⟩
theorem Hd.set9 {W : World} {g : Nat} {v : Value} {n : Nat} (h : Hd W g v n) (m : Nat) : Hd (W.setCell ⟨g, 9, none⟩ (.int .u64 (m : Int))) g v m := by
  obtain ⟨h1, h2, h3, h4, h5⟩ := h
  exact ⟨cell_set_far (by omega) h1, by rw [World.frozen?_setCell]; exact h2, cell_set_same h3, by rw [World.frozen?_setCell]; exact h4, cell_set_far (by omega) h5⟩
theorem Hd.mixed {W W2 : World} {g : Nat} {v : Value} {n : Nat} (h : Hd W g v n) (hJ : ∀ i, 8 ≤ i → W2.cell? ⟨g, i, none⟩ = W.cell? ⟨g, i, none⟩ ∧ W2.frozen? ⟨g, i, none⟩ = W.frozen? ⟨g, i, none⟩) : Hd W2 g v n := by
  obtain ⟨h1, h2, h3, h4, h5⟩ := h
  exact ⟨(hJ 8 (by decide)).1.trans h1, (hJ 8 (by decide)).2.trans h2, (hJ 9 (by decide)).1.trans h3, (hJ 9 (by decide)).2.trans h4, (hJ 10 (by decide)).1.trans h5⟩
theorem slice_far {A : Option Addr} {n c g : Nat} (h : ∀ k, (Value.slice A n c).ownBlock = some k → k ≠ g) : ∀ ad, A = some ad → ad.block ≠ g := by
  rintro ad rfl e
  exact h ad.block (by simp [Value.ownBlock]) e
theorem wrap_u64 (n : Int) : IntKind.u64.wrap n = n % 18446744073709551616 := by simp [IntKind.wrap, IntKind.bits, IntKind.signed]
set_option maxHeartbeats 40000000 in
set_option maxRecDepth 100000 in
theorem write_calls_at (g : Nat) (d : List Int) (A1 : Option Addr) (n c : Nat) (p : List Int) (hp : p.length = n) (hc : n ≤ c) (hl : n ≤ 1000000) (hby : ∀ i, 0 ≤ rd (d ++ p) i ∧ rd (d ++ p) i < 256) (w0 w : World) (hB : Below w0.heap.size w0 w) (hr : ∀ u, Kd.C (Kd.int .u8) (w.setCell ⟨g, 9, none⟩ u) A1 p.length p) (hK : Tab w0 2 KK) (hH : IsHs w w0.heap.size g d) :
    Calls Tryd.prog 71 #[.pointer (some ⟨g, 0, none⟩), .slice A1 n c] w fun e w' => ∃ v, e = .returned v ∧ IsHb w' w0.heap.size g (d ++ p) ∧ ((d ++ p).length < 64 → IsHs w' w0.heap.size g (d ++ p)) ∧ Below w0.heap.size w0 w' := by
  obtain ⟨hg, hA, hd, v, hHd, hR⟩ := hH
  have hgW : g < w.heap.size := World.block_lt_of_cell? _ _ hHd.1
  have u2 : IntKind.u64.wrap ((d.length : Int) + (n : Int)) = ((d.length + n : Nat) : Int) := by rw [wrap_u64]; omega
  obtain ⟨D, hD⟩ : ∃ D, d ++ p = D := ⟨_, rfl⟩
  have hDl : D.length = d.length + n := by rw [← hD, List.length_append, hp]
  rw [hD]
  -- behind the count's store
  obtain ⟨W1, hW1⟩ : ∃ W, W = w.setCell ⟨g, 9, none⟩ (.int .u64 ((d.length : Int) + (n : Int))) := ⟨_, rfl⟩
  have e1 : W1 = w.setCell ⟨g, 9, none⟩ (.int .u64 ((d.length + n : Nat) : Int)) := by rw [hW1, Int.natCast_add]
  have HB1 : Aside0 (Below w0.heap.size w0 W1) := ⟨by rw [hW1]; exact hB.setCell (p := ⟨g, 9, none⟩) hg _⟩
  have HH1 : Aside0 (Hd W1 g v (d.length + n)) := ⟨by rw [e1]; exact hHd.set9 _⟩
  have HA1 : Aside0 (Arr W1 g BB) := ⟨by rw [hW1]; exact hA.setFar (by decide) _⟩
  have HR1 : Aside0 (Kd.R (Kd.int .u8) 5 W1 w0.heap.size (fun k => k ≠ g) v d) := ⟨by rw [hW1]; exact Kd.R_far hR (fun k hk => hk) _⟩
  have HOL : Aside0 (W1.ownsRow w0.heap.size 5 1 v d.length (nums .u8 d)) := ⟨Kd.own_of_R HR1.out⟩
  have hne : some g ≠ v.ownBlock := fun e => hR.1 g e.symm rfl
  have HNE := Aside0.mk hne
  have HRD := C_readsK (show Kd.C (Kd.int .u8) W1 A1 p.length p by rw [hW1]; exact hr _)
  rw [hp] at HRD
  have HRI := Aside0.mk HRD
  have hgW1 : g < W1.heap.size := by rw [hW1]; simpa using hgW
  have hsz1 := HB1.out.size
  have HBY : Aside0 (∀ i, 0 ≤ rd D i ∧ rd D i < 256) := ⟨by rw [← hD]; exact hby⟩
  have HKK := Aside0.mk hK
  obtain ⟨k8, f8, k9, f9, k10⟩ := hHd
  obtain ⟨l8, m8, l9, m9, l10⟩ := HH1.out
  have u1 : IntKind.u64.wrap (n : Int) = (n : Int) := by rw [wrap_u64]; omega
  have u3 : IntKind.u64.wrap ((d.length : Int) + (n : Int)) = (d.length : Int) + (n : Int) := by rw [wrap_u64]; omega
  have HDL := Aside0.mk hDl
  have HDD := Aside0.mk hD
  rw [hW1] at HOL HRI HB1 hsz1 l8 m8 l9 m9 l10
  clear hB hr hA hR hby hK HRD e1 hD hne u2 hDl
  go_enter Tryd.func71, Tryd.ntmps71
  go_wp2_with (first
    | (at_builtin; refine print_append_row (w0 := w0) w0.heap.size rfl _ _ 24 5 .u8 1 rfl Tryd.underlying24 info5 (by decide) v d p A1 n c rfl rfl HOL.out HRI.out HB1.out hsz1 (by omega) ?_; intro v1 w2 ho1 hb1 hg1 hat1; rw [← hW1] at hg1 hat1; rw [HDD.out] at ho1; obtain ⟨A2, c2, e2⟩ := Kd.R_slice (Kd.R_of_own (enc := Value.int .u8) (h1 := fun _ => rfl) (ok := fun _ => True) ho1 (fun _ _ => trivial)); subst e2; have HO1 := Aside0.mk ho1; have HB2 := Aside0.mk hb1; have HG1 := Aside0.mk hg1; have HAT := Aside0.mk hat1; have t8 := cell_grown hg1 HH1.out.1 HNE.out; have s8 := (World.grownBy.frozen_far hg1 ⟨g, 8, none⟩ hgW1 HNE.out).trans HH1.out.2.1; clear ho1 hb1 hg1 hat1)
    | fail)
  -- behind the rest's store
  have hk2 : Kept W1 w2 (fun k => v.ownBlock = some k) := Kept.of_grown HG1.out (Kept.refl _ _) (fun k e => .inl e)
  have hng : ¬ (v.ownBlock = some g) := fun e => HNE.out e.symm
  have HA2 := Aside0.mk (HA1.out.kept hk2 hng)
  have HH2 := Aside0.mk (HH1.out.kept hk2 hng)
  have hokn : ∀ k, (Value.slice A2 D.length c2).ownBlock = some k → k ≠ g := fun k hk => by
    rcases HAT.out with e | ⟨b, e, hb⟩
    · rw [e] at hk; exact fun e2 => hng (by rw [hk, e2])
    · rw [e] at hk; cases hk; omega
  have HR2 := Aside0.mk (Kd.R_of_own (enc := Value.int .u8) (h1 := fun _ => rfl) (ok := fun k => k ≠ g) HO1.out hokn)
  obtain ⟨-, hcap2, hC2⟩ := Kd.R_reads' HR2.out
  have HFAR := Aside0.mk (slice_far hokn)
  have HR3 := Aside0.mk (Kd.R_far HR2.out (p := ⟨g, 8, none⟩) (fun k hk => hk) (.slice A2 D.length c2))
  have HH3 := Aside0.mk (HH2.out.set8 (.slice A2 D.length c2))
  have HA3 := Aside0.mk (HA2.out.setFar (j := 8) (by decide) (.slice A2 D.length c2))
  have HB3 := Aside0.mk (HB2.out.setCell (p := ⟨g, 8, none⟩) hg (.slice A2 D.length c2))
  have HC3 := Aside0.mk (Kd.R_reads' HR3.out).2.2
  clear hk2 hng hokn hC2 t8 s8 k8 f8 k9 f9 k10 l8 m8 l9 m9 l10 HOL HRI HA1 HH1 HR1 HO1 HG1 HAT HA2 HH2 HR2 HB1 HB2 HNE hW1 hsz1 u1 u3
  generalize w2.setCell ⟨g, 8, none⟩ (.slice A2 D.length c2) = W3 at *
  have hDl' := HDL.out
  rw [← hDl'] at HH3
  have HR3' : Aside0 (Kd.R (Kd.int .u8) 5 W3 w0.heap.size (fun k => k ≠ g) (.slice A2 D.length c2) D) := ⟨HR3.out⟩
  have HC3' : Aside0 (Kd.C (Kd.int .u8) W3 A2 (D.drop (64 * 0)).length (D.drop (64 * 0))) := ⟨HC3.out⟩
  have HH3' : Aside0 (Hd W3 g (.slice A2 (D.length - 64 * 0) c2) D.length) := ⟨HH3.out⟩
  clear HR3 HC3 HH3 hDl'
  go_loopg [32] (D.length / 64) (fun kq v32 wr => ∃ (j : Nat) (A : Option Addr) (c' : Nat), j + kq = D.length / 64 ∧ Aside0 (Arr wr g (run BB j D)) ∧ Aside0 (Hd wr g (.slice A (D.length - 64 * j) c') D.length) ∧ D.length - 64 * j ≤ c' ∧ Aside0 (∀ ad, A = some ad → ad.block ≠ g) ∧ Aside0 (Kd.C (Kd.int .u8) wr A (D.drop (64 * j)).length (D.drop (64 * j))) ∧ Aside0 (j = 0 → Kd.R (Kd.int .u8) 5 wr w0.heap.size (fun k => k ≠ g) (.slice A D.length c') D) ∧ Aside0 (Below w0.heap.size w0 wr))
  case atStart => exact ⟨0, A2, c2, by omega, HA3, HH3', by omega, HFAR, HC3', ⟨fun _ => HR3'.out⟩, HB3⟩
  case round =>
    obtain ⟨j, A, c', hj, HA, HH, hcc, HF, HC, HR0, HB⟩ := hrel
    obtain ⟨m, hm⟩ : ∃ m, D.length - 64 * j = m := ⟨_, rfl⟩
    have HM := Aside0.mk hm
    rw [hm] at HH hcc
    by_cases hlt : 64 ≤ m
    · have hdec : decide (64 ≤ (m : Int)) = true := decide_eq_true (by omega)
      have hDln : (D.drop (64 * j)).length = m := by rw [List.length_drop]; exact hm
      obtain ⟨ad, e, -⟩ := Kd.at_int HC.out 0 (by omega) (by rw [hDln]; omega)
      subst e
      have hch : ((D.drop (64 * j)).take 64).length = 64 := by rw [List.length_take, hDln]; omega
      have hcb : ∀ i, 0 ≤ rd ((D.drop (64 * j)).take 64) i ∧ rd ((D.drop (64 * j)).take 64) i < 256 := by
        intro i
        by_cases h : i.toNat < 64
        · have e : rd ((D.drop (64 * j)).take 64) i = rd D ((64 * j + i.toNat : Nat) : Int) := by
            unfold rd
            rw [Int.toNat_natCast, List.getD_eq_getElem?_getD, List.getD_eq_getElem?_getD, List.getElem?_take_of_lt h, List.getElem?_drop]
          rw [e]; exact HBY.out _
        · unfold rd
          rw [List.getD_eq_getElem?_getD, List.getElem?_eq_none (by omega)]
          decide
      have HMX := Aside0.mk (fun (W' : World) (hb : Below wr.heap.size wr W') => mix_calls g (run BB j D) (run_len BB rfl j D) (some ad) c' ((D.drop (64 * j)).take 64) hch hcb W' (Kd.C_below (C_head HC.out 64 (by rw [hDln]; exact hlt)) hb) (by omega) (HA.out.below hb) (HKK.out.below (below_then HB.out HB.out.size hb)))
      rw [← run_next BB j D] at HMX
      have HRN := Aside0.mk hDln
      obtain ⟨k8, f8, k9, f9, k10⟩ := HH.out
      have g1 : (64 : Int) ≤ (c' : Int) := by omega
      have g2 : (64 : Int) ≤ (m : Int) := by omega
      clear hch hcb hDln hm
      by_cases hc64 : c' = 64
      · subst hc64
        have hm64 : m = 64 := by omega
        subst hm64
        go_wp2
        first | (go_region_with (first
            | (go_at_call 101; (with_reducible refine (HMX.out _ ((Below.refl _ _).drew)).mono ?_); rintro e w5 ⟨v5, rfl, hA5, hK5, hB5, hJ5⟩; have HA5 := Aside0.mk hA5; have HK5 := Aside0.mk hK5; have HB5 := Aside0.mk hB5; have HJ5 := Aside0.mk hJ5; have t8 := ((hJ5 8 (by decide)).1).trans (show (World.drew wr).cell? ⟨g, 8, none⟩ = _ from k8); have s8 := ((hJ5 8 (by decide)).2).trans (show (World.drew wr).frozen? ⟨g, 8, none⟩ = _ from f8); clear hA5 hK5 hB5 hJ5)
            | fail)) | fail
        all_goals
          refine (‹∀ (a : Act) (w_1 : World), Code.wp _ _ _ a w_1 → _› _ _ ?_)
          go_wp2
          go_roundg (gk - 1)
          case measure => have := HM.out; omega
          case rel =>
            have e0 : D.length - 64 * (j + 1) = 0 := by have := HM.out; omega
            have e1 : D.drop (64 * (j + 1)) = [] := List.drop_of_length_le (by have := HM.out; omega)
            refine ⟨j + 1, some ad, 0, by have := HM.out; omega, ⟨HA5.out.setFar (j := 8) (by rw [run_len BB rfl]; decide) _⟩, ⟨?_⟩, by omega, HF, ⟨?_⟩, ⟨fun h => by omega⟩, ⟨((HB.out.drew).trans (HB5.out.mono hg)).setCell (p := ⟨g, 8, none⟩) hg _⟩⟩
            · rw [e0]
              exact (Hd.mixed (W := World.drew wr) HH.out HJ5.out).set8 _
            · rw [e1]
              exact ⟨rfl, Nat.zero_le _, fun h => absurd h (Nat.lt_irrefl 0)⟩
      · have g3 : ¬ (c' = 64) := hc64
        have g4 : ((m : Int) - 64).toNat = m - 64 := by omega
        have g5 : ((c' : Int) - 64).toNat = c' - 64 := by omega
        have g6 : m ≤ c' := hcc
        go_wp2
        first | (go_region_with (first
            | (go_at_call 101; (with_reducible refine (HMX.out _ ((Below.refl _ _).drew)).mono ?_); rintro e w5 ⟨v5, rfl, hA5, hK5, hB5, hJ5⟩; have HA5 := Aside0.mk hA5; have HK5 := Aside0.mk hK5; have HB5 := Aside0.mk hB5; have HJ5 := Aside0.mk hJ5; have t8 := ((hJ5 8 (by decide)).1).trans (show (World.drew wr).cell? ⟨g, 8, none⟩ = _ from k8); have s8 := ((hJ5 8 (by decide)).2).trans (show (World.drew wr).frozen? ⟨g, 8, none⟩ = _ from f8); clear hA5 hK5 hB5 hJ5)
            | fail)) | fail
        all_goals
          refine (‹∀ (a : Act) (w_1 : World), Code.wp _ _ _ a w_1 → _› _ _ ?_)
          go_wp2
          go_roundg (gk - 1)
          case measure => have := HM.out; omega
          case rel =>
            have e0 : D.length - 64 * (j + 1) = m - 64 := by have := HM.out; omega
            have e1 : D.drop (64 * (j + 1)) = (D.drop (64 * j)).drop 64 := by rw [List.drop_drop, show 64 * j + 64 = 64 * (j + 1) from by omega]
            have hfar2 : ∀ ad2, some (ad.add 64) = some ad2 → ad2.block ≠ g := fun ad2 e => by
              cases e
              have hb : (ad.add 64).block = ad.block := by unfold Addr.add; split <;> rfl
              rw [hb]; exact HF.out ad rfl
            refine ⟨j + 1, some (ad.add 64), c' - 64, by have := HM.out; omega, ⟨HA5.out.setFar (j := 8) (by rw [run_len BB rfl]; decide) _⟩, ⟨?_⟩, by have := HM.out; omega, ⟨hfar2⟩, ⟨?_⟩, ⟨fun h => by omega⟩, ⟨((HB.out.drew).trans (HB5.out.mono hg)).setCell (p := ⟨g, 8, none⟩) hg _⟩⟩
            · rw [e0]
              exact (Hd.mixed (W := World.drew wr) HH.out HJ5.out).set8 _
            · rw [e1]
              have hc5 := C_far (W := World.drew wr) HC.out HF.out HK5.out
              have hc6 := C_whole hc5 64 (by rw [HRN.out]; exact hlt)
              exact C_far hc6 hfar2 ((Kept.refl w5 (fun k => k = g)).setCell (p := ⟨g, 8, none⟩) (.inl rfl) _)
    · have hdec : decide (64 ≤ (m : Int)) = false := decide_eq_false (by omega)
      obtain ⟨k8, f8, k9, f9, k10⟩ := HH.out
      go_wp2
      go_returns
      have hj2 : j = D.length / 64 := by omega
      have hmm : m = D.length % 64 := by omega
      refine ⟨_, rfl, ⟨hg, by rw [← hj2]; exact HA.out, A, c', by rw [← hmm]; exact HH.out, by omega, by rw [← hj2]; exact HC.out⟩, fun hs => ?_, HB.out⟩
      have hj0 : j = 0 := by omega
      subst hj0
      exact ⟨hg, HA.out, hs, _, by have h := HH.out; rw [show m = D.length from by omega] at h; exact h, HR0.out rfl⟩
theorem write_calls (g : Nat) (d : List Int) (A1 : Option Addr) (n c : Nat) (p : List Int) (hp : p.length = n) (hc : n ≤ c) (hl : n ≤ 1000000) (hby : ∀ i, 0 ≤ rd (d ++ p) i ∧ rd (d ++ p) i < 256) (w0 w : World) (hB : Below w0.heap.size w0 w) (hr : Kd.C (Kd.int .u8) w0 A1 p.length p) (hK : Tab w0 2 KK) (hH : IsHs w w0.heap.size g d) :
    Calls Tryd.prog 71 #[.pointer (some ⟨g, 0, none⟩), .slice A1 n c] w fun e w' => ∃ v, e = .returned v ∧ IsHb w' w0.heap.size g (d ++ p) ∧ ((d ++ p).length < 64 → IsHs w' w0.heap.size g (d ++ p)) ∧ Below w0.heap.size w0 w' :=
  write_calls_at g d A1 n c p hp hc hl hby w0 w hB (fun u => Kd.C_below hr (hB.setCell (p := ⟨g, 9, none⟩) hH.1 u)) hK hH
end Go.Proofs.YteapdhfeddgjbaaDoor.Dg
