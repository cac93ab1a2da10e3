/- digest: Sum, by the program. -/
import Derived.Test.YteapdhfeddgjbaaDoorSDgF
namespace Go.Proofs.YteapdhfeddgjbaaDoor.Dg
set_option linter.unusedVariables false
set_option linter.unusedSimpArgs false
open Go.RowKit Go.Proofs.YteapdhfeddgjbaaDoor.PDb Go.Proofs.YteapdhfeddgjbaaDoorW Go.Proofs.YteapdhfeddgjbaaDoorW.PrintWords Go.Proofs.YteapdhfeddgjbaaDoorW.PrintLast Go.Proofs.YteapdhfeddgjbaaDoorW.PrintMore

/-- The words in one block, a row of the call's own in another. -/
def Tl (W : World) (base gs : Nat) (hw : List Int) (v : Value) (l : List Int) : Prop := Arr W gs hw ∧ gs < W.heap.size ∧ Kd.R (Kd.int .u8) 5 W base (fun k => k ≠ gs) v l
theorem Tl.app {W W' w1 : World} {base gs : Nat} {hw : List Int} {v v1 : Value} {l m : List Int} (h : Tl W base gs hw v l) (hb : Below W.heap.size W W') (ho : w1.ownsRow base 5 1 v1 (l ++ m).length (nums .u8 (l ++ m))) (hg : W'.grownBy w1 v.ownBlock) (hat : v1.ownBlock = v.ownBlock ∨ ∃ b, v1.ownBlock = some b ∧ W'.heap.size ≤ b) : Tl w1 base gs hw v1 (l ++ m) := by
  obtain ⟨h1, h2, h3⟩ := h
  have hs := hb.size
  have hs2 := hg.size
  refine ⟨(h1.below hb).kept (Kept.of_grown hg (Kept.refl _ _) (fun k e => .inl e)) (fun e => h3.1 gs e rfl), by omega, Kd.R_of_own (enc := Value.int .u8) (h1 := fun _ => rfl) (ok := fun k => k ≠ gs) ho (fun k hk => ?_)⟩
  rcases hat with e | ⟨b, e, hb2⟩
  · rw [e] at hk; exact h3.1 k hk
  · rw [e] at hk; cases hk; omega
theorem Tl.below {W W' : World} {base gs : Nat} {hw : List Int} {v : Value} {l : List Int} (h : Tl W base gs hw v l) (hb : Below W.heap.size W W') : Tl W' base gs hw v l :=
  ⟨h.1.below hb, Nat.lt_of_lt_of_le h.2.1 hb.size, Kd.R_below h.2.2 hb⟩
theorem Tl.slice {W : World} {base gs : Nat} {hw : List Int} {v : Value} {l : List Int} (h : Tl W base gs hw v l) : ∃ A c, v = .slice A l.length c := Kd.R_slice h.2.2
theorem Tl.own {W : World} {base gs : Nat} {hw : List Int} {v : Value} {l : List Int} (h : Tl W base gs hw v l) (o : Obj) : (W.alloc o).ownsRow base 5 1 v l.length (nums .u8 l) := World.ownsRow.alloc (Kd.own_of_R h.2.2) _
theorem lit1 (W : World) (base : Nat) (hb : base ≤ W.heap.size) (x : Int) : ReadsInt (W.alloc (.cells #[.int .u8 x] 5)) .u8 (some ⟨W.heap.size, 0, none⟩) 1 [x] := C_readsK (litK_own W base 5 .u8 [x] hb (by simp))
theorem pad_ne {n z Z r T : Nat} (h : (n + 1 + Z) % 64 = 56) (hZ : Z < 64) (hT : n + 1 + z = T) (hr : T % 64 = r) (hz : z < Z) : ((r : Int) == 56) = false := by
  have : r ≠ 56 := by omega
  simp
  omega
theorem pad_eq {n Z r T : Nat} (h : (n + 1 + Z) % 64 = 56) (hT : n + 1 + Z = T) (hr : T % 64 = r) : ((r : Int) == 56) = true := by
  have : r = 56 := by omega
  subst this
  rfl
theorem tmod64 {T r : Nat} (hr : T % 64 = r) : Int.tmod (T : Int) 64 = (r : Int) ∧ r < 64 := by
  rw [Int.tmod_eq_emod_of_nonneg (by omega)]
  omega
theorem b8_take (n j : Nat) (hj : j < 8) : (b8 n).take (j + 1) = (b8 n).take j ++ [((n / 2 ^ (56 - 8 * j) % 256 : Nat) : Int)] := by
  match j, hj with
  | 0, _ => rfl
  | 1, _ => rfl
  | 2, _ => rfl
  | 3, _ => rfl
  | 4, _ => rfl
  | 5, _ => rfl
  | 6, _ => rfl
  | 7, _ => simp [b8]
theorem byte_of (N j : Nat) (hN : N ≤ 1000000) (hj : j < 8) (s : Nat) (hs : 56 - 8 * j = s) : IntKind.u8.wrap ((N : Int) * 8 / 2 ^ s) = ((8 * N / 2 ^ (56 - 8 * j) % 256 : Nat) : Int) := by
  rw [IntKind.wrap_u8, hs, Nat.mul_comm 8 N]
  simp
theorem tail_bytes {rs : List Int} {Z N : Nat} (h : ∀ x ∈ rs, 0 ≤ x ∧ x < 256) : ∀ x ∈ rs ++ ([128] ++ List.replicate Z 0 ++ b8 N), 0 ≤ x ∧ x < 256 := by
  intro x hx
  rcases List.mem_append.1 hx with hx | hx
  · exact h x hx
  · rcases List.mem_append.1 hx with hx | hx
    · rcases List.mem_append.1 hx with hx | hx
      · rw [List.mem_singleton.1 hx]; omega
      · rw [List.eq_of_mem_replicate hx]; omega
    · have hb : ∀ k : Nat, (0 : Int) ≤ ((k % 256 : Nat) : Int) ∧ ((k % 256 : Nat) : Int) < 256 := fun k => by omega
      simp only [b8, List.mem_cons, List.not_mem_nil, or_false] at hx
      rcases hx with hx | hx | hx | hx | hx | hx | hx | hx <;> rw [hx] <;> exact hb _
theorem chunk_bytes {D : List Int} (h : ∀ i, 0 ≤ rd D i ∧ rd D i < 256) (j : Nat) : ∀ i, 0 ≤ rd ((D.drop (64 * j)).take 64) i ∧ rd ((D.drop (64 * j)).take 64) i < 256 := by
  intro i
  by_cases hi : i.toNat < 64
  · have e : rd ((D.drop (64 * j)).take 64) i = rd D ((64 * j + i.toNat : Nat) : Int) := by
      unfold rd
      rw [Int.toNat_natCast, List.getD_eq_getElem?_getD, List.getD_eq_getElem?_getD, List.getElem?_take_of_lt hi, List.getElem?_drop]
    rw [e]; exact h _
  · unfold rd
    rw [List.getD_eq_getElem?_getD, List.getElem?_eq_none (by rw [List.length_take]; omega)]
    decide
theorem outs_app : ∀ (l : List Int) (x : Int), outs (l ++ [x]) = outs l ++ w4 x
  | [], x => by simp [outs]
  | y :: l, x => by rw [List.cons_append, outs, outs_app l x, outs, List.append_assoc]
theorem w4_take (x : Int) (j : Nat) (hj : j < 4) : (w4 x).take (j + 1) = (w4 x).take j ++ [x / 2 ^ (24 - 8 * j) % 256] := by
  match j, hj with
  | 0, _ => rfl
  | 1, _ => rfl
  | 2, _ => rfl
  | 3, _ => simp [w4]
theorem take_next (V : List Int) (i : Nat) (h : i < V.length) : V.take (i + 1) = V.take i ++ [rd V (i : Int)] := by
  rw [List.take_add_one, List.getElem?_eq_getElem h, Option.toList_some]
  unfold rd
  rw [Int.toNat_natCast, List.getD_eq_getElem?_getD, List.getElem?_eq_getElem h, Option.getD_some]
set_option maxRecDepth 100000 in
theorem index8 (x0 x1 x2 x3 x4 x5 x6 x7 : Int) (w : World) (i : Nat) (h : i < 8) : (Instr.index 154 (.agg #[Value.int .u32 x0, .int .u32 x1, .int .u32 x2, .int .u32 x3, .int .u32 x4, .int .u32 x5, .int .u32 x6, .int .u32 x7]) (.int .i64 (i : Int))).run Tryd.prog w = .ok (.int .u32 (rd [x0, x1, x2, x3, x4, x5, x6, x7] (i : Int))) w := by
  match i, h with
  | 0, _ => rfl
  | 1, _ => rfl
  | 2, _ => rfl
  | 3, _ => rfl
  | 4, _ => rfl
  | 5, _ => rfl
  | 6, _ => rfl
  | 7, _ => rfl
theorem len64 {n Z T L : Nat} (h : (n + 1 + Z) % 64 = 56) (hT : n + 1 + Z = T) (hL : T + 8 = L) : L = 64 * (L / 64) := by omega
theorem b8_len (n : Nat) : (b8 n).length = 8 := rfl
set_option maxHeartbeats 40000000 in
set_option maxRecDepth 100000 in
theorem sum_calls (base g : Nat) (d : List Int) (hl : d.length ≤ 1000000) (w : World) (hH : IsHb w base g d) (hK : Tab w 2 KK) (hby : ∀ x ∈ d, 0 ≤ x ∧ x < 256) :
    Calls Tryd.prog 72 #[.pointer (some ⟨g, 0, none⟩)] w fun e w' => ∃ v, e = .returned v ∧ Kd.R (Kd.int .u8) 5 w' w.heap.size (fun _ => True) v (sha d) ∧ Below w.heap.size w w' := by
  obtain ⟨-, hA, A, c, hHd, hc, hC⟩ := hH
  obtain ⟨hw, hhw⟩ : ∃ h, run BB (d.length / 64) d = h := ⟨_, rfl⟩
  have hwl : hw.length = 8 := by rw [← hhw, run_len BB rfl]
  obtain ⟨rs, hrs⟩ : ∃ r, d.drop (64 * (d.length / 64)) = r := ⟨_, rfl⟩
  obtain ⟨n, hn⟩ : ∃ n, d.length % 64 = n := ⟨_, rfl⟩
  have hrl : rs.length = n := by rw [← hrs, List.length_drop]; omega
  rw [hhw] at hA
  rw [hrs] at hC
  rw [hn] at hHd hc
  have HSHA : Aside0 (sha d = outs (run hw ((rs ++ tailOf d).length / 64) (rs ++ tailOf d))) := ⟨by
    have h1 := tail_len d
    have e2 : (d ++ tailOf d).drop (64 * (d.length / 64)) = rs ++ tailOf d := by rw [List.drop_append_of_le_length (by omega), hrs]
    have e3 : (d ++ tailOf d).length / 64 = d.length / 64 + (rs ++ tailOf d).length / 64 := by
      rw [List.length_append, List.length_append, hrl]; omega
    unfold sha
    rw [e3, run_add, e2, run_take BB _ d _ (by omega), hhw]⟩
  have HTL : Aside0 (tailOf d = [128] ++ List.replicate (zs d.length) 0 ++ b8 (8 * d.length)) := ⟨rfl⟩
  have hzs := zs_is d.length
  obtain ⟨Z, hZ⟩ : ∃ Z, zs d.length = Z := ⟨_, rfl⟩
  obtain ⟨N, hN⟩ : ∃ N, d.length = N := ⟨_, rfl⟩
  rw [hZ, hN] at HTL hzs
  rw [hN] at hl hHd hn
  have hn64 : n < 64 := by omega
  have hz56 : (n + 1 + Z) % 64 = 56 := by omega
  have HH := Aside0.mk hHd
  have HC := Aside0.mk hC
  have HA := Aside0.mk hA
  have HKK := Aside0.mk hK
  have HW8 := Aside0.mk (list8 hw hwl)
  have HRL := Aside0.mk hrl
  have HWL := Aside0.mk hwl
  have HRBY : Aside0 (∀ x ∈ rs, 0 ≤ x ∧ x < 256) := ⟨fun x hx => hby x (by rw [← hrs] at hx; exact List.mem_of_mem_drop hx)⟩
  obtain ⟨sh, hsh⟩ : ∃ s, sha d = s := ⟨_, rfl⟩
  rw [hsh] at HSHA ⊢
  obtain ⟨c0, -⟩ := hA 0 (by rw [hwl]; decide)
  replace c0 : w.cell? ⟨g, 0, none⟩ = some (.int .u32 (rd hw 0)) := c0
  obtain ⟨h0, hx⟩ : ∃ x, rd hw 0 = x := ⟨_, rfl⟩
  rw [hx] at c0 HW8
  clear hx
  obtain ⟨c1, -⟩ := hA 1 (by rw [hwl]; decide)
  replace c1 : w.cell? ⟨g, 1, none⟩ = some (.int .u32 (rd hw 1)) := c1
  obtain ⟨h1, hx⟩ : ∃ x, rd hw 1 = x := ⟨_, rfl⟩
  rw [hx] at c1 HW8
  clear hx
  obtain ⟨c2, -⟩ := hA 2 (by rw [hwl]; decide)
  replace c2 : w.cell? ⟨g, 2, none⟩ = some (.int .u32 (rd hw 2)) := c2
  obtain ⟨h2, hx⟩ : ∃ x, rd hw 2 = x := ⟨_, rfl⟩
  rw [hx] at c2 HW8
  clear hx
  obtain ⟨c3, -⟩ := hA 3 (by rw [hwl]; decide)
  replace c3 : w.cell? ⟨g, 3, none⟩ = some (.int .u32 (rd hw 3)) := c3
  obtain ⟨h3, hx⟩ : ∃ x, rd hw 3 = x := ⟨_, rfl⟩
  rw [hx] at c3 HW8
  clear hx
  obtain ⟨c4, -⟩ := hA 4 (by rw [hwl]; decide)
  replace c4 : w.cell? ⟨g, 4, none⟩ = some (.int .u32 (rd hw 4)) := c4
  obtain ⟨h4, hx⟩ : ∃ x, rd hw 4 = x := ⟨_, rfl⟩
  rw [hx] at c4 HW8
  clear hx
  obtain ⟨c5, -⟩ := hA 5 (by rw [hwl]; decide)
  replace c5 : w.cell? ⟨g, 5, none⟩ = some (.int .u32 (rd hw 5)) := c5
  obtain ⟨h5, hx⟩ : ∃ x, rd hw 5 = x := ⟨_, rfl⟩
  rw [hx] at c5 HW8
  clear hx
  obtain ⟨c6, -⟩ := hA 6 (by rw [hwl]; decide)
  replace c6 : w.cell? ⟨g, 6, none⟩ = some (.int .u32 (rd hw 6)) := c6
  obtain ⟨h6, hx⟩ : ∃ x, rd hw 6 = x := ⟨_, rfl⟩
  rw [hx] at c6 HW8
  clear hx
  obtain ⟨c7, -⟩ := hA 7 (by rw [hwl]; decide)
  replace c7 : w.cell? ⟨g, 7, none⟩ = some (.int .u32 (rd hw 7)) := c7
  obtain ⟨h7, hx⟩ : ∃ x, rd hw 7 = x := ⟨_, rfl⟩
  rw [hx] at c7 HW8
  clear hx
  obtain ⟨k8, f8, k9, f9, k10⟩ := hHd
  have hgw : g < w.heap.size := World.block_lt_of_cell? _ _ k8
  have HG1 : Aside0 (Arr (w.alloc (.cells #[.int .u32 h0, .int .u32 h1, .int .u32 h2, .int .u32 h3, .int .u32 h4, .int .u32 h5, .int .u32 h6, .int .u32 h7] 154)) w.heap.size hw) := ⟨by
    rw [HW8.out]
    exact Arr.new w [h0, h1, h2, h3, h4, h5, h6, h7] 154⟩
  have HB1 := Aside0.mk (below_alloc (Below.refl w.heap.size w) (.cells #[.int .u32 h0, .int .u32 h1, .int .u32 h2, .int .u32 h3, .int .u32 h4, .int .u32 h5, .int .u32 h6, .int .u32 h7] 154))
  obtain ⟨W1, hW1⟩ : ∃ W, W = w.alloc (.cells #[.int .u32 h0, .int .u32 h1, .int .u32 h2, .int .u32 h3, .int .u32 h4, .int .u32 h5, .int .u32 h6, .int .u32 h7] 154) := ⟨_, rfl⟩
  have hs1 : W1.heap.size = w.heap.size + 1 := by rw [hW1]; simp
  have HOL : Aside0 ((W1.alloc (.cells #[] 5)).ownsRow w.heap.size 5 1 (.slice (some ⟨W1.heap.size, 0, none⟩) 0 0) ([] : List Int).length (nums .u8 [])) := ⟨own_lit W1 w.heap.size 5 .u8 [] (by omega) (by simp)⟩
  rw [← hW1] at HB1 HG1
  have HB2 := Aside0.mk (HB1.out.alloc HB1.out.size (.cells #[] 5))
  have hrd := C_readsK (Kd.C_below HC.out HB2.out)
  rw [HRL.out] at hrd
  have HRI := Aside0.mk hrd
  have HT0 : Aside0 (Tl (W1.alloc (.cells #[] 5)) w.heap.size w.heap.size hw (.slice (some ⟨w.heap.size + 1, 0, none⟩) 0 0) []) := ⟨HG1.out.below (below_alloc (Below.refl _ _) _), by have := (below_alloc (Below.refl W1.heap.size W1) (.cells #[] 5)).size; omega,
    by rw [← hs1]; exact Kd.R_of_own (enc := Value.int .u8) (h1 := fun _ => rfl) (ok := fun k => k ≠ w.heap.size) HOL.out (fun k hk => by simp [Value.ownBlock] at hk; omega)⟩
  rw [hs1] at HOL
  rw [hW1] at HOL HRI HB2 HT0
  have hsz2 := HB2.out.size
  clear hK hby hhw hwl hrs hrl hn hC hc hA hZ hsh hrd HG1 HB1 hW1 hs1
  go_enter Tryd.func72, Tryd.ntmps72
  go_wp2_with (first
    | (at_builtin; refine print_append_row (w0 := w) w.heap.size rfl _ _ 24 5 .u8 1 rfl Tryd.underlying24 info5 (by decide) _ [] rs A n c rfl rfl HOL.out HRI.out HB2.out hsz2 (by simp; omega) ?_; intro v1 w2 ho1 hb1 hg1 hat1; have HT3 := HT0.out.app (Below.refl _ _) ho1 hg1 hat1; rw [List.nil_append] at HT3; obtain ⟨A3, c3, e3⟩ := HT3.slice; rw [HRL.out] at e3; subst e3; have HO3 := Aside0.mk (HT3.own (.cells #[.int .u8 128] 5)); have hs3 := hb1.size; have HB3 := Aside0.mk (hb1.alloc hs3 (.cells #[.int .u8 128] 5)); have HT3 := Aside0.mk HT3; have HL3 := Aside0.mk (lit1 w2 w.heap.size hs3 128); have hs4 := HB3.out.size; clear ho1 hb1 hg1 hat1)
    | (at_builtin; refine print_append_row (w0 := w) w.heap.size rfl _ _ 24 5 .u8 1 rfl Tryd.underlying24 info5 (by decide) _ rs [128] (some ⟨w2.heap.size, 0, none⟩) 1 1 rfl rfl HO3.out HL3.out HB3.out hs4 (by rw [HRL.out]; omega) ?_; intro v1 w3 ho1 hb1 hg1 hat1; have HT4 := Aside0.mk (HT3.out.app (below_alloc (Below.refl _ _) _) ho1 hg1 hat1); have HB4 := Aside0.mk hb1; clear ho1 hb1 hg1 hat1)
    | fail)
  have HP0 : Aside0 (Tl w3 w.heap.size w.heap.size hw v1 (rs ++ [128] ++ List.replicate 0 0)) := ⟨by rw [List.replicate_zero, List.append_nil]; exact HT4.out⟩
  clear HT0 HOL HRI HB2 HT3 HO3 HL3 HB3 HT4 hsz2 hs3 hs4
  have hZ64 := hzs.2
  have H56 := Aside0.mk hz56
  clear hzs hz56
  go_loopg [4] Z (fun k v4 wr => ∃ z : Nat, z + k = Z ∧ Aside0 (Tl wr w.heap.size w.heap.size hw v4 (rs ++ [128] ++ List.replicate z 0)) ∧ Aside0 (Below w.heap.size w wr))
  case atStart => exact ⟨0, by omega, HP0, HB4⟩
  case round =>
    obtain ⟨z, hz, HT, HB⟩ := hrel
    obtain ⟨A4, c4, e4⟩ := HT.out.slice
    have hlen : (rs ++ [128] ++ List.replicate z 0 : List Int).length = n + 1 + z := by rw [List.length_append, List.length_append, List.length_replicate, HRL.out]; rfl
    have HLN := Aside0.mk hlen
    rw [hlen] at e4
    obtain ⟨T, hT⟩ : ∃ T, n + 1 + z = T := ⟨_, rfl⟩
    obtain ⟨r, hr⟩ : ∃ r, T % 64 = r := ⟨_, rfl⟩
    rw [hT] at e4 HLN
    rw [e4] at HT ⊢
    have HRR := Aside0.mk hr
    obtain ⟨t1, tr⟩ := tmod64 hr
    clear hr
    have HT1 := Aside0.mk t1
    clear t1
    have t2 : wrap64 (r : Int) = (r : Int) := IntWalk.wrap64_in _ (by omega)
    have hT2 : T ≤ 200 := by omega
    have hsz := HB.out.size
    by_cases hlt : z < Z
    · have hd : ((r : Int) == 56) = false := pad_ne H56.out hZ64 hT HRR.out hlt
      have HO := Aside0.mk (HT.out.own (.cells #[.int .u8 0] 5))
      rw [HLN.out] at HO
      have HL := Aside0.mk (lit1 wr w.heap.size hsz 0)
      have HBa := Aside0.mk (HB.out.alloc hsz (.cells #[.int .u8 0] 5))
      have hsa := HBa.out.size
      have HTT := Aside0.mk hT
      clear hT hlen
      have t1 := HT1.out
      go_wp2_with (first
        | (at_builtin; refine print_append_row (w0 := w) w.heap.size rfl _ _ 24 5 .u8 1 rfl Tryd.underlying24 info5 (by decide) _ (rs ++ [128] ++ List.replicate z 0) [0] (some ⟨wr.heap.size, 0, none⟩) 1 1 rfl rfl (by rw [HLN.out]; exact HO.out) HL.out HBa.out hsa (by rw [HLN.out]; omega) ?_; intro v5 w5 ho1 hb1 hg1 hat1; have HT5 := HT.out.app (below_alloc (Below.refl _ _) _) ho1 hg1 hat1; have HB5 := Aside0.mk hb1; have HT5 := Aside0.mk HT5; clear ho1 hb1 hg1 hat1)
        | fail)
      clear t1
      go_roundg (gk - 1)
      case measure => omega
      case rel => exact ⟨z + 1, by omega, ⟨by have h := HT5.out; rw [List.append_assoc, ← List.replicate_succ'] at h; exact h⟩, HB5⟩
    · have hzz : z = Z := by omega
      subst hzz
      have hd : ((r : Int) == 56) = true := pad_eq H56.out hT HRR.out
      have HQ0 : Aside0 (Tl wr w.heap.size w.heap.size hw (.slice A4 T c4) (rs ++ [128] ++ List.replicate z 0 ++ (b8 (8 * N)).take 0)) := ⟨by rw [List.take_zero, List.append_nil]; exact HT.out⟩
      obtain ⟨P, hP⟩ : ∃ P, rs ++ [128] ++ List.replicate z 0 = P := ⟨_, rfl⟩
      rw [hP] at HQ0 HLN
      have HPP : Aside0 (rs ++ tailOf d = P ++ b8 (8 * N)) := ⟨by rw [HTL.out, ← hP]; simp only [List.append_assoc]⟩
      have HTT := Aside0.mk hT
      have hB := HB
      have t1 := HT1.out
      clear hT hlen hP HT HT1 HB HP0 HB4
      go_wp2
      simp only [hd, bne, Bool.not_true]
      clear t1 t2 hd
      go_loopw [4, 5] (fun v4 v5 wr => ∃ j : Nat, j ≤ 8 ∧ v5 = .int .i64 (56 - 8 * (j : Int)) ∧ Aside0 (Tl wr w.heap.size w.heap.size hw v4 (P ++ (b8 (8 * N)).take j)) ∧ Aside0 (Below w.heap.size w wr))
        (fun _ v5 _ => (intOf v5 + 8).toNat)
      case atStart => exact ⟨0, Nat.zero_le _, rfl, HQ0, hB⟩
      case round =>
        obtain ⟨j, hj, rfl, HT, HB⟩ := hrel
        obtain ⟨A5, c5, e5⟩ := HT.out.slice
        have hlen : (P ++ (b8 (8 * N)).take j).length = T + j := by rw [List.length_append, HLN.out, List.length_take, b8_len]; omega
        obtain ⟨L, hL⟩ : ∃ L, T + j = L := ⟨_, rfl⟩
        rw [hL] at hlen
        rw [hlen] at e5
        rw [e5] at HT ⊢
        have hsz := HB.out.size
        by_cases hlt : j < 8
        · obtain ⟨s, hs⟩ : ∃ s, 56 - 8 * j = s := ⟨_, rfl⟩
          have es : (56 : Int) - 8 * (j : Int) = (s : Int) := by omega
          rw [es]
          have HBT := Aside0.mk (b8_take (8 * N) j hlt)
          have hbx := byte_of N j hl hlt s hs
          obtain ⟨x, hx⟩ : ∃ x, ((8 * N / 2 ^ (56 - 8 * j) % 256 : Nat) : Int) = x := ⟨_, rfl⟩
          rw [hx] at HBT hbx
          obtain ⟨q8, qf8, q9, qf9, q10⟩ := HH.out.kept (Kept.of_below hB.out (fun _ => False)) (fun h => h)
          have HHW := HH.out
          have q9' : wr.cell? ⟨g, 9, none⟩ = some (.int .u64 (N : Int)) := (HB.out.cell (p := ⟨g, 9, none⟩) hgw).trans HHW.2.2.1
          clear q8 qf8 q9 qf9 q10 HHW
          have p9 : (wr.alloc (.cells #[.int .u8 x] 5)).cell? ⟨g, 9, none⟩ = some (.int .u64 (N : Int)) := pw_cell_below (below_alloc (Below.refl _ _) _) q9'
          have v1' : IntKind.u64.wrap ((N : Int) * 8) = (N : Int) * 8 := by rw [wrap_u64]; omega
          have v2' : IntKind.u64.wrap (s : Int) = (s : Int) := by rw [wrap_u64]; omega
          have HLE := Aside0.mk hlen
          have HO := Aside0.mk (HT.out.own (.cells #[.int .u8 x] 5))
          have HL := Aside0.mk (lit1 wr w.heap.size hsz x)
          have HBa := Aside0.mk (HB.out.alloc hsz (.cells #[.int .u8 x] 5))
          have hsa := HBa.out.size
          have HSS := Aside0.mk hs
          have hLb : L ≤ 300 := by have := HTT.out; omega
          have hs56 : s ≤ 56 := by omega
          have hdd : decide (0 ≤ (s : Int)) = true := decide_eq_true (by omega)
          clear hx hlen hs hL
          go_wp2_with (first
            | (at_builtin; refine print_append_row (w0 := w) w.heap.size rfl _ _ 24 5 .u8 1 rfl Tryd.underlying24 info5 (by decide) _ (P ++ (b8 (8 * N)).take j) [x] (some ⟨wr.heap.size, 0, none⟩) 1 1 rfl rfl (by rw [HLE.out]; exact HLE.out ▸ HO.out) HL.out HBa.out hsa (by rw [HLE.out]; omega) ?_; intro v5 w5 ho1 hb1 hg1 hat1; have HT5 := HT.out.app (below_alloc (Below.refl _ _) _) ho1 hg1 hat1; have HB5 := Aside0.mk hb1; have HT5 := Aside0.mk HT5; clear ho1 hb1 hg1 hat1)
            | fail)
          go_roundw
          case rel => exact ⟨j + 1, by omega, by have := HSS.out; congr 1; omega, ⟨by rw [HBT.out, ← List.append_assoc]; exact HT5.out⟩, HB5⟩
          case measure => have := HSS.out; simp [intOf]; omega
        · have hj8 : j = 8 := by omega
          subst hj8
          have HM0 : Aside0 (P ++ (b8 (8 * N)).take 8 = rs ++ tailOf d) := ⟨HPP.out.symm⟩
          have hlen2 := hlen
          rw [HM0.out] at HT hlen2
          obtain ⟨M, hM⟩ : ∃ M, rs ++ tailOf d = M := ⟨_, rfl⟩
          have hall : ∀ x ∈ M, 0 ≤ x ∧ x < 256 := by rw [← hM, HTL.out]; exact tail_bytes HRBY.out
          have HMB : Aside0 (∀ i, 0 ≤ rd M i ∧ rd M i < 256) := ⟨fun i => by
            unfold rd
            rw [List.getD_eq_getElem?_getD]
            by_cases hi : i.toNat < M.length
            · rw [List.getElem?_eq_getElem hi, Option.getD_some]
              exact hall _ (List.getElem_mem hi)
            · rw [List.getElem?_eq_none (by omega), Option.getD_none]; omega⟩
          rw [hM] at HT hlen2 HSHA
          have hL64 : L = 64 * (M.length / 64) := by
            have h56 := H56.out
            have hTT := HTT.out
            rw [hlen2]
            exact len64 h56 hTT hL
          obtain ⟨cnt, hcnt⟩ : ∃ c, M.length / 64 = c := ⟨_, rfl⟩
          rw [hcnt] at hL64 HSHA
          have HML := Aside0.mk hlen2
          have hokn := HT.out.2.2.1
          obtain ⟨h5a, h5b, h5c⟩ := Kd.R_reads' HT.out.2.2
          have HF0 := Aside0.mk (slice_far hokn)
          have HC0 : Aside0 (Kd.C (Kd.int .u8) wr A5 (M.drop (64 * 0)).length (M.drop (64 * 0))) := ⟨h5c⟩
          have HG0 : Aside0 (Arr wr w.heap.size (run hw 0 M)) := ⟨HT.out.1⟩
          have hBw := HB
          clear hall hokn h5a h5c hlen hlen2 hM hcnt hL HQ0 HT HB HPP HM0 H56 HTT HRR hlt hj hsz hB
          rw [show (56 : Int) - 8 * ((8 : Nat) : Int) = -8 from by decide]
          go_wp2
          go_loopg [4] cnt (fun k v4 wr => ∃ (j : Nat) (A : Option Addr) (c' : Nat), j + k = cnt ∧ v4 = .slice A (L - 64 * j) c' ∧ L - 64 * j ≤ c' ∧ Aside0 (Arr wr w.heap.size (run hw j M)) ∧ Aside0 (∀ ad, A = some ad → ad.block ≠ w.heap.size) ∧ Aside0 (Kd.C (Kd.int .u8) wr A (M.drop (64 * j)).length (M.drop (64 * j))) ∧ Aside0 (Below w.heap.size w wr))
          case atStart => exact ⟨0, A5, c5, by omega, rfl, by omega, HG0, HF0, HC0, hBw⟩
          case round =>
            obtain ⟨j, A, c', hj, rfl, hcc, HA', HF, HC', HB⟩ := hrel
            obtain ⟨m, hm⟩ : ∃ m, L - 64 * j = m := ⟨_, rfl⟩
            have HM := Aside0.mk hm
            rw [hm] at hcc ⊢
            by_cases hlt : 0 < m
            · have hm64 : 64 ≤ m := by omega
              have hDln : (M.drop (64 * j)).length = m := by rw [List.length_drop, HML.out]; exact hm
              obtain ⟨ad, e, -⟩ := Kd.at_int HC'.out 0 (by omega) (by rw [hDln]; omega)
              subst e
              have hch : ((M.drop (64 * j)).take 64).length = 64 := by rw [List.length_take, hDln]; omega
              have hcb := chunk_bytes HMB.out j
              have hsz := HB.out.size
              have HMX := Aside0.mk (mix_calls w.heap.size (run hw j M) (run_len hw HWL.out j M) (some ad) c' ((M.drop (64 * j)).take 64) hch hcb wr (C_head HC'.out 64 (by rw [hDln]; exact hm64)) (by omega) HA'.out (HKK.out.below HB.out))
              rw [← run_next hw j M] at HMX
              have HRN := Aside0.mk hDln
              have g1 : (64 : Int) ≤ (c' : Int) := by omega
              have g2 : (64 : Int) ≤ (m : Int) := by omega
              have hd : decide (0 < (m : Int)) = true := decide_eq_true (by omega)
              clear hch hcb hDln hm
              by_cases hc64 : c' = 64
              · subst hc64
                have hmm : m = 64 := by omega
                subst hmm
                go_wp2_with (first | (go_at_call 101; (with_reducible refine HMX.out.mono ?_); rintro e w5 ⟨v5, rfl, hA5, hK5, hB5, hJ5⟩; have HA5 := Aside0.mk hA5; have HK5 := Aside0.mk hK5; have HB5 := Aside0.mk hB5; clear hA5 hK5 hB5 hJ5) | fail)
                go_roundg (gk - 1)
                case measure => have := HM.out; omega
                case rel =>
                  have e0 : L - 64 * (j + 1) = 0 := by have := HM.out; omega
                  have e1 : M.drop (64 * (j + 1)) = [] := List.drop_of_length_le (by rw [HML.out]; have := HM.out; omega)
                  refine ⟨j + 1, some ad, 0, by have := HM.out; omega, by rw [e0], by omega, HA5, HF, ⟨by rw [e1]; exact ⟨rfl, Nat.zero_le _, fun h => absurd h (Nat.lt_irrefl 0)⟩⟩, ⟨HB.out.trans HB5.out⟩⟩
              · have g3 : ¬ (c' = 64) := hc64
                have g4 : ((m : Int) - 64).toNat = m - 64 := by omega
                have g5 : ((c' : Int) - 64).toNat = c' - 64 := by omega
                have g6 : m ≤ c' := hcc
                go_wp2_with (first | (go_at_call 101; (with_reducible refine HMX.out.mono ?_); rintro e w5 ⟨v5, rfl, hA5, hK5, hB5, hJ5⟩; have HA5 := Aside0.mk hA5; have HK5 := Aside0.mk hK5; have HB5 := Aside0.mk hB5; clear hA5 hK5 hB5 hJ5) | fail)
                go_roundg (gk - 1)
                case measure => have := HM.out; omega
                case rel =>
                  have e0 : L - 64 * (j + 1) = m - 64 := by have := HM.out; omega
                  have e1 : M.drop (64 * (j + 1)) = (M.drop (64 * j)).drop 64 := by rw [List.drop_drop, show 64 * j + 64 = 64 * (j + 1) from by omega]
                  have hfar2 : ∀ ad2, some (ad.add 64) = some ad2 → ad2.block ≠ w.heap.size := fun ad2 e => by
                    cases e
                    have hb : (ad.add 64).block = ad.block := by unfold Addr.add; split <;> rfl
                    rw [hb]; exact HF.out ad rfl
                  refine ⟨j + 1, some (ad.add 64), c' - 64, by have := HM.out; omega, by rw [e0]; rfl, by omega, HA5, ⟨hfar2⟩, ⟨by rw [e1]; exact C_whole (C_far HC'.out HF.out HK5.out) 64 (by rw [HRN.out]; exact hm64)⟩, ⟨HB.out.trans HB5.out⟩⟩
            · have hd : decide (0 < (m : Int)) = false := decide_eq_false (by omega)
              have hjc : j = cnt := by omega
              subst hjc
              obtain ⟨V, hV⟩ : ∃ V, run hw j M = V := ⟨_, rfl⟩
              have hVl : V.length = 8 := by rw [← hV]; exact run_len hw HWL.out j M
              rw [hV] at HA' HSHA
              have HV8 := Aside0.mk (list8 V hVl)
              have hA' := HA'.out
              obtain ⟨b0, -⟩ := hA' 0 (by rw [hVl]; decide)
              replace b0 : wr.cell? ⟨w.heap.size, 0, none⟩ = some (.int .u32 (rd V 0)) := b0
              obtain ⟨x0, hx⟩ : ∃ x, rd V 0 = x := ⟨_, rfl⟩
              rw [hx] at b0 HV8
              clear hx
              obtain ⟨b1, -⟩ := hA' 1 (by rw [hVl]; decide)
              replace b1 : wr.cell? ⟨w.heap.size, 1, none⟩ = some (.int .u32 (rd V 1)) := b1
              obtain ⟨x1, hx⟩ : ∃ x, rd V 1 = x := ⟨_, rfl⟩
              rw [hx] at b1 HV8
              clear hx
              obtain ⟨b2, -⟩ := hA' 2 (by rw [hVl]; decide)
              replace b2 : wr.cell? ⟨w.heap.size, 2, none⟩ = some (.int .u32 (rd V 2)) := b2
              obtain ⟨x2, hx⟩ : ∃ x, rd V 2 = x := ⟨_, rfl⟩
              rw [hx] at b2 HV8
              clear hx
              obtain ⟨b3, -⟩ := hA' 3 (by rw [hVl]; decide)
              replace b3 : wr.cell? ⟨w.heap.size, 3, none⟩ = some (.int .u32 (rd V 3)) := b3
              obtain ⟨x3, hx⟩ : ∃ x, rd V 3 = x := ⟨_, rfl⟩
              rw [hx] at b3 HV8
              clear hx
              obtain ⟨b4, -⟩ := hA' 4 (by rw [hVl]; decide)
              replace b4 : wr.cell? ⟨w.heap.size, 4, none⟩ = some (.int .u32 (rd V 4)) := b4
              obtain ⟨x4, hx⟩ : ∃ x, rd V 4 = x := ⟨_, rfl⟩
              rw [hx] at b4 HV8
              clear hx
              obtain ⟨b5, -⟩ := hA' 5 (by rw [hVl]; decide)
              replace b5 : wr.cell? ⟨w.heap.size, 5, none⟩ = some (.int .u32 (rd V 5)) := b5
              obtain ⟨x5, hx⟩ : ∃ x, rd V 5 = x := ⟨_, rfl⟩
              rw [hx] at b5 HV8
              clear hx
              obtain ⟨b6, -⟩ := hA' 6 (by rw [hVl]; decide)
              replace b6 : wr.cell? ⟨w.heap.size, 6, none⟩ = some (.int .u32 (rd V 6)) := b6
              obtain ⟨x6, hx⟩ : ∃ x, rd V 6 = x := ⟨_, rfl⟩
              rw [hx] at b6 HV8
              clear hx
              obtain ⟨b7, -⟩ := hA' 7 (by rw [hVl]; decide)
              replace b7 : wr.cell? ⟨w.heap.size, 7, none⟩ = some (.int .u32 (rd V 7)) := b7
              obtain ⟨x7, hx⟩ : ∃ x, rd V 7 = x := ⟨_, rfl⟩
              rw [hx] at b7 HV8
              clear hx
              clear hA' hV
              go_wp2
              clear HA' HF HC' HM HMB HML HF0 HC0 HG0 hBw HW8 HTL HKK HA HC HRL HRBY
              have HVL := Aside0.mk hVl
              have hBw := HB
              clear hVl HB hj hcc hlt hd hgw
              go_loopw [6, 64] (fun v6 v64 wr => ∃ i : Nat, v64 = .int .i64 i ∧ i ≤ 8 ∧ Aside0 (Kd.R (Kd.int .u8) 5 wr w.heap.size (fun _ => True) v6 (outs (V.take i))) ∧ Aside0 (Below w.heap.size w wr))
                (fun _ v64 _ => 8 - (intOf v64).toNat)
              case atStart => exact ⟨0, rfl, Nat.zero_le _, ⟨Kd.R_nil _ _ _ _ _⟩, hBw⟩
              case round =>
                obtain ⟨i, rfl, hi, HO, HB⟩ := hrel
                by_cases hlt : i < 8
                · have HIX := index8 x0 x1 x2 x3 x4 x5 x6 x7 wr i hlt
                  rw [← HV8.out] at HIX
                  have HTN := Aside0.mk (take_next V i (by rw [HVL.out]; exact hlt))
                  obtain ⟨x, hx⟩ : ∃ x, rd V (i : Int) = x := ⟨_, rfl⟩
                  rw [hx] at HIX HTN
                  clear hx
                  have hi8 : (i : Int) < 8 := by omega
                  go_wp2
                  have HO0 : Aside0 (Kd.R (Kd.int .u8) 5 wr w.heap.size (fun _ => True) u6 (outs (V.take i) ++ (w4 x).take 0)) := ⟨by rw [List.take_zero, List.append_nil]; exact HO.out⟩
                  have HOL2 : Aside0 ((outs (V.take i)).length = 4 * i) := ⟨by rw [outs_len, List.length_take, HVL.out]; omega⟩
                  have hBi := HB
                  have HON : Aside0 (outs (V.take (i + 1)) = outs (V.take i) ++ w4 x) := ⟨by rw [HTN.out, outs_app]⟩
                  obtain ⟨O, hO⟩ : ∃ O, outs (V.take i) = O := ⟨_, rfl⟩
                  rw [hO] at HO0 HOL2 HON
                  clear hO HO HB HIX HTN
                  go_loopw [6, 9] (fun v6 v9 wr => ∃ k : Nat, k ≤ 4 ∧ v9 = .int .i64 (24 - 8 * (k : Int)) ∧ Aside0 (Kd.R (Kd.int .u8) 5 wr w.heap.size (fun _ => True) v6 (O ++ (w4 x).take k)) ∧ Aside0 (Below w.heap.size w wr))
                    (fun _ v9 _ => (intOf v9 + 8).toNat)
                  case atStart => exact ⟨0, Nat.zero_le _, rfl, HO0, hBi⟩
                  case round =>
                    obtain ⟨k, hk, rfl, HT, HB⟩ := hrel
                    obtain ⟨A5, c5, e5⟩ := Kd.R_slice HT.out
                    have hlen : (O ++ (w4 x).take k).length = 4 * i + k := by rw [List.length_append, HOL2.out, List.length_take]; show 4 * i + min k 4 = _; omega
                    obtain ⟨L2, hL2⟩ : ∃ L, 4 * i + k = L := ⟨_, rfl⟩
                    rw [hL2] at hlen
                    rw [hlen] at e5
                    have HLE := Aside0.mk hlen
                    have hsz := HB.out.size
                    by_cases hlk : k < 4
                    · obtain ⟨s, hs⟩ : ∃ s, 24 - 8 * k = s := ⟨_, rfl⟩
                      have es : (24 : Int) - 8 * (k : Int) = (s : Int) := by omega
                      rw [es]
                      have HBT := Aside0.mk (w4_take x k hlk)
                      have hbx : IntKind.u8.wrap (x / 2 ^ s) = x / 2 ^ (24 - 8 * k) % 256 := by rw [IntKind.wrap_u8, hs]
                      obtain ⟨y, hy⟩ : ∃ y, x / 2 ^ (24 - 8 * k) % 256 = y := ⟨_, rfl⟩
                      rw [hy] at HBT hbx
                      have v2' : IntKind.u64.wrap (s : Int) = (s : Int) := by rw [wrap_u64]; omega
                      have HO := Aside0.mk (World.ownsRow.alloc (Kd.own_of_R HT.out) (.cells #[.int .u8 y] 5))
                      rw [e5] at HO HT ⊢
                      have HL := Aside0.mk (lit1 wr w.heap.size hsz y)
                      have HBa := Aside0.mk (HB.out.alloc hsz (.cells #[.int .u8 y] 5))
                      have hsa := HBa.out.size
                      have HSS := Aside0.mk hs
                      have hLb : L2 ≤ 100 := by omega
                      have hs24 : s ≤ 24 := by omega
                      have hdd : decide (0 ≤ (s : Int)) = true := decide_eq_true (by omega)
                      clear hy hlen hs hL2 e5
                      go_wp2_with (first
                        | (at_builtin; refine print_append_row (w0 := w) w.heap.size rfl _ _ 24 5 .u8 1 rfl Tryd.underlying24 info5 (by decide) _ (O ++ (w4 x).take k) [y] (some ⟨wr.heap.size, 0, none⟩) 1 1 rfl rfl (HLE.out ▸ HO.out) HL.out HBa.out hsa (by rw [HLE.out]; omega) ?_; intro v5 w5 ho1 hb1 hg1 hat1; have HT5 := Aside0.mk (Kd.R_of_own (enc := Value.int .u8) (h1 := fun _ => rfl) (ok := fun _ => True) ho1 (fun _ _ => trivial)); have HB5 := Aside0.mk hb1; clear ho1 hb1 hg1 hat1)
                        | fail)
                      go_roundw
                      case rel => exact ⟨k + 1, by omega, by have := HSS.out; congr 1; omega, ⟨by rw [HBT.out, ← List.append_assoc]; exact HT5.out⟩, HB5⟩
                      case measure => have := HSS.out; simp [intOf]; omega
                    · have hk4 : k = 4 := by omega
                      subst hk4
                      clear hlen hL2 hlk hk
                      rw [show (24 : Int) - 8 * ((4 : Nat) : Int) = -8 from by decide]
                      go_wp2
                      go_roundw
                      case rel => exact ⟨i + 1, by go_num, by omega, ⟨by rw [HON.out]; exact HT.out⟩, HB⟩
                      case measure => simp [intOf]; omega
                · have hi8 : i = 8 := by omega
                  subst hi8
                  go_wp2
                  go_ret
                  exact ⟨_, rfl, by rw [HSHA.out]; have h := HO.out; rw [List.take_of_length_le (by rw [HVL.out]; decide)] at h; exact h, HB.out⟩
end Go.Proofs.YteapdhfeddgjbaaDoor.Dg
