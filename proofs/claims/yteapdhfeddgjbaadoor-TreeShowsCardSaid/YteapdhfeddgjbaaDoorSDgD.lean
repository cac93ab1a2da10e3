/- digest: the program's block. -/
import Derived.Test.YteapdhfeddgjbaaDoorSDgT
import Derived.Handy
namespace Go.Proofs.YteapdhfeddgjbaaDoor.Dg
set_option linter.unusedVariables false
set_option linter.unusedSimpArgs false
open Go.RowKit Go.Proofs.YteapdhfeddgjbaaDoor.PDb Go.Proofs.YteapdhfeddgjbaaDoorW Go.Proofs.YteapdhfeddgjbaaDoorW.PrintWords Go.Proofs.YteapdhfeddgjbaaDoorW.PrintLast Go.Proofs.YteapdhfeddgjbaaDoorW.PrintMore

/-- Words in a block's first cells. -/
def Arr (W : World) (g : Nat) (l : List Int) : Prop := ∀ i, i < l.length → W.cell? ⟨g, i, none⟩ = some (.int .u32 (rd l (i : Int))) ∧ W.frozen? ⟨g, i, none⟩ = false
/-- A table that is read. -/
def Tab (W : World) (g : Nat) (l : List Int) : Prop := ∀ i, i < l.length → W.cell? ⟨g, i, none⟩ = some (.int .u32 (rd l (i : Int)))
theorem Tab.below {W W2 : World} {g : Nat} {l : List Int} (h : Tab W g l) (hb : Below W.heap.size W W2) : Tab W2 g l := fun i hi => pw_cell_below hb (h i hi)
theorem Arr.kept {W W2 : World} {g : Nat} {l : List Int} {S : Nat → Prop} (h : Arr W g l) (hk : Kept W W2 S) (hn : ¬ S g) : Arr W2 g l := fun i hi => by
  obtain ⟨h1, h2⟩ := h i hi
  exact ⟨cell_kept h1 hk hn, (World.frozen?_of_block (w := W) (a := ⟨g, i, none⟩) (hk.2 g (World.block_lt_of_cell? _ _ h1) hn)).trans h2⟩
theorem Arr.below {W W2 : World} {g : Nat} {l : List Int} (h : Arr W g l) (hb : Below W.heap.size W W2) : Arr W2 g l := h.kept (Kept.of_below hb (fun _ => False)) (fun h => h)
theorem Arr.far {W : World} {g : Nat} {l : List Int} (h : Arr W g l) {p : Addr} (hp : p.block ≠ g) (u : Value) : Arr (W.setCell p u) g l :=
  h.kept ((Kept.refl W (fun k => k = p.block)).setCell (.inl rfl) u) (fun e => hp e.symm)
theorem Arr.drewN {W : World} {g : Nat} {l : List Int} (h : Arr W g l) (n : Nat) : Arr (W.drewN n) g l := h
theorem Arr.set {W : World} {g : Nat} {l : List Int} (h : Arr W g l) {i : Nat} (hi : i < l.length) (x : Int) : Arr (W.setCell ⟨g, i, none⟩ (.int .u32 x)) g (l.set i x) := fun j hj => by
  rw [List.length_set] at hj
  obtain ⟨h1, h2⟩ := h j hj
  rw [rd_set _ _ _ _ hi]
  refine ⟨?_, by rw [World.frozen?_setCell]; exact h2⟩
  by_cases e : i = j
  · subst e
    rw [if_pos rfl]
    exact World.cell?_setCell_same' _ _ _ (by simp [h1])
  · rw [if_neg e, World.cell?_setCell_other (h := by simp [e])]
    exact h1
theorem Arr.new (w : World) (l : List Int) (t : TypeId) : Arr (w.alloc (.cells (l.map (Value.int .u32)).toArray t)) w.heap.size l := fun i hi => by
  refine ⟨?_, World.frozen?_alloc_new _ _ _ _⟩
  rw [World.cell?_alloc_new]
  simp only [List.getElem?_toArray, List.getElem?_map, rd, Int.toNat_natCast, List.getD_eq_getElem?_getD, List.getElem?_eq_getElem hi, Option.map_some, Option.getD_some]
theorem dturn_calls (x n : Int) (h : Tn n) (w : World) : Calls Tryd.prog 122 #[.int .u32 x, .int .i64 n] w fun e w' => e = .returned (.int .u32 (trn x n)) ∧ ∃ k, w' = w.drewN k :=
  (digest_turn.calls x n _ w (dturn x n h)).mono fun e w' ⟨he, hd⟩ => ⟨he, hd.out⟩
theorem fill8 {W : World} {g : Nat} {x0 x1 x2 x3 x4 x5 x6 x7 : Int} (h : Arr W g [x0, x1, x2, x3, x4, x5, x6, x7]) (a0 a1 a2 a3 a4 a5 a6 a7 : Int) :
    Arr ((((((((W.setCell ⟨g, 0, none⟩ (.int .u32 a0)).setCell ⟨g, 1, none⟩ (.int .u32 a1)).setCell ⟨g, 2, none⟩ (.int .u32 a2)).setCell ⟨g, 3, none⟩ (.int .u32 a3)).setCell ⟨g, 4, none⟩ (.int .u32 a4)).setCell ⟨g, 5, none⟩ (.int .u32 a5)).setCell ⟨g, 6, none⟩ (.int .u32 a6)).setCell ⟨g, 7, none⟩ (.int .u32 a7)) g [a0, a1, a2, a3, a4, a5, a6, a7] :=
  (((((((h.set (i := 0) (by simp) a0).set (i := 1) (by simp) a1).set (i := 2) (by simp) a2).set (i := 3) (by simp) a3).set (i := 4) (by simp) a4).set (i := 5) (by simp) a5).set (i := 6) (by simp) a6).set (i := 7) (by simp) a7
theorem below8 {B : Nat} {w W : World} (h : Below B w W) {g : Nat} (hg : B ≤ g) (a0 a1 a2 a3 a4 a5 a6 a7 : Value) :
    Below B w ((((((((W.setCell ⟨g, 0, none⟩ a0).setCell ⟨g, 1, none⟩ a1).setCell ⟨g, 2, none⟩ a2).setCell ⟨g, 3, none⟩ a3).setCell ⟨g, 4, none⟩ a4).setCell ⟨g, 5, none⟩ a5).setCell ⟨g, 6, none⟩ a6).setCell ⟨g, 7, none⟩ a7) :=
  (((((((h.setCell (p := ⟨g, 0, none⟩) hg a0).setCell (p := ⟨g, 1, none⟩) hg a1).setCell (p := ⟨g, 2, none⟩) hg a2).setCell (p := ⟨g, 3, none⟩) hg a3).setCell (p := ⟨g, 4, none⟩) hg a4).setCell (p := ⟨g, 5, none⟩) hg a5).setCell (p := ⟨g, 6, none⟩) hg a6).setCell (p := ⟨g, 7, none⟩) hg a7
set_option maxHeartbeats 40000000 in
set_option maxRecDepth 100000 in
theorem mix_calls (g : Nat) (hs : List Int) (hh : hs.length = 8) (A1 : Option Addr) (c1 : Nat) (b : List Int) (hb : b.length = 64) (hby : ∀ i, 0 ≤ rd b i ∧ rd b i < 256) (w : World) (hr1 : Kd.C (Kd.int .u8) w A1 b.length b) (hc1 : 64 ≤ c1) (hS : Arr w g hs)
    (hK : Tab w 2 KK) :
    Calls Tryd.prog 101 #[.pointer (some ⟨g, 0, none⟩), .slice A1 64 c1] w fun e w' => ∃ v, e = .returned v ∧ Arr w' g (blk hs b) ∧ Kept w w' (fun k => k = g) ∧ Below g w w' ∧ ∀ i, 8 ≤ i → w'.cell? ⟨g, i, none⟩ = w.cell? ⟨g, i, none⟩ ∧ w'.frozen? ⟨g, i, none⟩ = w.frozen? ⟨g, i, none⟩ := by
  have HR1 := Aside0.mk hr1
  have HBY := Aside0.mk hby
  have HH := Aside0.mk hh
  have HB64 := Aside0.mk hb
  have HS := Aside0.mk hS
  have HKL := Aside0.mk KK_len
  have HBLK : Aside0 (blk hs b = adds hs (rnds KK (sch b 48) hs 64) 8) := ⟨rfl⟩
  obtain ⟨Kl, hKl⟩ : ∃ K, KK = K := ⟨_, rfl⟩
  rw [hKl] at HKL HBLK hK
  have HK := Aside0.mk hK
  obtain ⟨bl, hbl⟩ : ∃ x, blk hs b = x := ⟨_, rfl⟩
  rw [hbl] at HBLK ⊢
  have hg : g < w.heap.size := World.block_lt_of_cell? _ _ (hS 0 (by omega)).1
  have hg2 : 2 < w.heap.size := World.block_lt_of_cell? _ _ (hK 0 (by rw [← hKl, KK_len]; omega))
  have HA0 : Aside0 (Arr (w.alloc (.cells ((List.replicate 64 (0 : Int)).map (Value.int .u32)).toArray 173)) w.heap.size (AL b 0)) := ⟨Arr.new w _ _⟩
  have HB0 := Aside0.mk (below_alloc (Below.refl w.heap.size w) (.cells ((List.replicate 64 (0 : Int)).map (Value.int .u32)).toArray 173))
  clear hr1 hby hh hb hS hK hbl hKl
  go_enter Tryd.func101, Tryd.ntmps101
  go_wp2
  go_loopw [23] (fun v23 wr => ∃ k : Nat, v23 = .int .i64 k ∧ k ≤ 64 ∧ Aside0 (Arr wr w.heap.size (AL b k)) ∧ Aside0 (Below w.heap.size w wr))
    (fun v23 _ => 64 - (intOf v23).toNat)
  case atStart => exact ⟨0, rfl, Nat.zero_le _, HA0, HB0⟩
  case round =>
    obtain ⟨k, rfl, hk, HA, HBr⟩ := hrel
    by_cases hlt : k < 64
    · obtain ⟨ad, e, qb⟩ := Kd.at_int (Kd.C_below HR1.out HBr.out) (k : Int) (by omega) (by rw [HB64.out]; omega)
      subst e
      rw [Int.toNat_natCast] at qb
      have hx := HBY.out (k : Int)
      obtain ⟨x, hxe⟩ : ∃ x, rd b (k : Int) = x := ⟨_, rfl⟩
      rw [hxe] at qb hx
      have HXE := Aside0.mk hxe
      obtain ⟨q, hq⟩ : ∃ q, k / 4 = q := ⟨_, rfl⟩
      have HQ := Aside0.mk hq
      obtain ⟨qc, qf⟩ := HA.out q (by rw [AL_len]; omega)
      rw [AL_rd b k (by omega) q, if_neg (by omega), if_pos (by omega)] at qc
      obtain ⟨y, hy⟩ : ∃ y, wpart b q (k - 4 * q) = y := ⟨_, rfl⟩
      rw [hy] at qc
      have HY := Aside0.mk hy
      have t1 : Int.tdiv (k : Int) 4 = (q : Int) := by rw [Int.tdiv_eq_ediv_of_nonneg (by omega)]; omega
      have t2 : IntKind.i64.wrap (q : Int) = (q : Int) := IntWalk.i64_in _ (by omega)
      have t3 : IntKind.u32.wrap x = x := by rw [IntKind.wrap_u32]; omega
      have t4 : (q : Int) < 64 := by omega
      have t5 : wrap64 (q : Int) = (q : Int) := IntWalk.wrap64_in _ (by omega)
      have hk64 : (k : Int) < 64 := by omega
      clear hxe hq hy hk hlt
      go_wp2
      go_roundw
      case rel => exact ⟨k + 1, by go_num, by omega, ⟨by rw [AL_next b k q HQ.out y x HY.out HXE.out hx]; exact HA.out.set (by rw [AL_len]; omega) _⟩, ⟨HBr.out.setCell (p := ⟨w.heap.size, q, none⟩) (Nat.le_refl _) _⟩⟩
      case measure => simp [intOf]; omega
    · have hke : k = 64 := by omega
      subst hke
      clear hk hlt
      have HM0 := Aside0.mk (AL_ML b ▸ HA.out)
      rw [show ((64 : Nat) : Int) = 64 from rfl]
      go_wp2
      go_loopw [7] (fun v7 wr => ∃ j : Nat, v7 = .int .i64 ((16 + j : Nat) : Int) ∧ j ≤ 48 ∧ Aside0 (Arr wr w.heap.size (ML b j)) ∧ Aside0 (Below w.heap.size w wr))
        (fun v7 _ => 64 - (intOf v7).toNat)
      case atStart => exact ⟨0, rfl, Nat.zero_le _, HM0, HBr⟩
      case round =>
        obtain ⟨j, rfl, hj, HA, HBr⟩ := hrel
        by_cases hlt : j < 48
        · have HNW : Aside0 (nw (sch b j) (16 + j) = (sg1 (rd (ML b j) ((j + 14 : Nat) : Int)) + rd (ML b j) ((j + 9 : Nat) : Int) + sg0 (rd (ML b j) ((j + 1 : Nat) : Int)) + rd (ML b j) ((j : Nat) : Int)) % 4294967296) := ⟨by
            unfold nw
            rw [show ((16 + j : Nat) : Int) - 2 = ((j + 14 : Nat) : Int) from by omega, show ((16 + j : Nat) : Int) - 7 = ((j + 9 : Nat) : Int) from by omega, show ((16 + j : Nat) : Int) - 15 = ((j + 1 : Nat) : Int) from by omega, show ((16 + j : Nat) : Int) - 16 = ((j : Nat) : Int) from by omega,
              ML_rd b j _ (by omega), ML_rd b j _ (by omega), ML_rd b j _ (by omega), ML_rd b j _ (by omega)]⟩
          have HNX := Aside0.mk (ML_next b j hlt)
          have HML := Aside0.mk (ML_len b j hj)
          obtain ⟨L, hL⟩ : ∃ L, ML b j = L := ⟨_, rfl⟩
          rw [hL] at HA HNW HNX HML
          clear hL
          obtain ⟨T, hT⟩ : ∃ T, 16 + j = T := ⟨_, rfl⟩
          obtain ⟨a1, ha1⟩ : ∃ T, j + 1 = T := ⟨_, rfl⟩
          obtain ⟨a9, ha9⟩ : ∃ T, j + 9 = T := ⟨_, rfl⟩
          obtain ⟨a14, ha14⟩ : ∃ T, j + 14 = T := ⟨_, rfl⟩
          rw [hT, ha14, ha9, ha1] at HNW
          rw [hT] at HNX ⊢
          have HHT := Aside0.mk hT
          have b0 : (j : Int) < 64 := by omega
          have b1 : (a1 : Int) < 64 := by omega
          have b2 : (a14 : Int) < 64 := by omega
          have b3 : (a9 : Int) < 64 := by omega
          have b4 : (T : Int) < 64 := by omega
          have u1 : IntKind.i64.wrap ((T : Int) - 15) = (a1 : Int) := by rw [IntWalk.i64_in _ (by omega)]; omega
          have u2 : IntKind.i64.wrap ((T : Int) - 2) = (a14 : Int) := by rw [IntWalk.i64_in _ (by omega)]; omega
          have u3 : IntKind.i64.wrap ((T : Int) - 7) = (a9 : Int) := by rw [IntWalk.i64_in _ (by omega)]; omega
          have u4 : IntKind.i64.wrap ((T : Int) - 16) = (j : Int) := by rw [IntWalk.i64_in _ (by omega)]; omega
          have HL15 := HA.out a1 (by rw [HML.out]; omega)
          have HL2 := HA.out a14 (by rw [HML.out]; omega)
          have HL7 := HA.out a9 (by rw [HML.out]; omega)
          have HL16 := HA.out j (by rw [HML.out]; omega)
          have HLT := HA.out T (by rw [HML.out]; omega)
          clear hT ha1 ha9 ha14 hlt
          obtain ⟨q15, -⟩ := HL15
          obtain ⟨q2, -⟩ := HL2
          obtain ⟨q7, -⟩ := HL7
          obtain ⟨q16, -⟩ := HL16
          obtain ⟨qT, qF⟩ := HLT
          obtain ⟨x15, h15⟩ : ∃ x, rd L (a1 : Int) = x := ⟨_, rfl⟩
          obtain ⟨x2, h2⟩ : ∃ x, rd L (a14 : Int) = x := ⟨_, rfl⟩
          obtain ⟨x7, h7⟩ : ∃ x, rd L (a9 : Int) = x := ⟨_, rfl⟩
          obtain ⟨x16, h16⟩ : ∃ x, rd L (j : Int) = x := ⟨_, rfl⟩
          rw [h15, h2, h7, h16] at HNW
          rw [h15] at q15
          rw [h2] at q2
          rw [h7] at q7
          rw [h16] at q16
          clear h15 h2 h7 h16
          go_wp2
          go_quiet (fail)
          go_wp2_with (first | (go_at_call 122; (with_reducible refine (dturn_calls _ _ (by unfold Tn; decide) _).mono ?_); rintro e w5 ⟨rfl, ⟨nd, rfl⟩⟩) | fail)
          generalize hW : World.drewN wr _ = W3
          have HA3 : Aside0 (Arr W3 w.heap.size L) := ⟨by rw [← hW]; exact HA.out⟩
          have HB3 : Aside0 (Below w.heap.size w W3) := ⟨by rw [← hW]; exact pw_below_drewN HBr.out _⟩
          replace q7 : W3.cell? ⟨w.heap.size, a9, none⟩ = some (.int .u32 x7) := by rw [← hW]; exact q7
          replace q16 : W3.cell? ⟨w.heap.size, j, none⟩ = some (.int .u32 x16) := by rw [← hW]; exact q16
          replace qT : W3.cell? ⟨w.heap.size, T, none⟩ = some (.int .u32 (rd L (T : Int))) := by rw [← hW]; exact qT
          replace qF : W3.frozen? ⟨w.heap.size, T, none⟩ = false := by rw [← hW]; exact qF
          clear hW HA HBr q15 q2
          go_still_tail 15, (by kernel_rfl)
          change wpList _ _ _ _ _ W3.drew
          have HA4 : Aside0 (Arr W3.drew w.heap.size L) := ⟨HA3.out⟩
          have HB4 := Aside0.mk (below_drew1 HB3.out)
          replace qT : W3.drew.cell? ⟨w.heap.size, T, none⟩ = some (.int .u32 (rd L (T : Int))) := qT
          replace qF : W3.drew.frozen? ⟨w.heap.size, T, none⟩ = false := qF
          clear HA3 HB3 q7 q16
          generalize W3.drew = W4 at HA4 HB4 qT qF ⊢
          go_wp2
          go_roundw
          case rel =>
            refine ⟨j + 1, by have := HHT.out; go_num, by have := HHT.out; omega, ⟨?_⟩, ⟨?_⟩⟩
            · rw [← HNX.out, HNW.out, show sg1 x2 + x7 + sg0 x15 + x16 = x16 + sg0 x15 + x7 + sg1 x2 from by omega]
              exact Arr.set (i := T) HA4.out (by rw [HML.out]; omega) _
            · exact Below.setCell (p := ⟨w.heap.size, T, none⟩) HB4.out (Nat.le_refl _) _
          case measure => have := HHT.out; simp [intOf]; omega
        · have hje : j = 48 := by omega
          subst hje
          clear hj hlt
          have HSM : Aside0 (ML b 48 = sch b 48) := ⟨by unfold ML; simp⟩
          rw [HSM.out] at HA
          obtain ⟨S, hSe⟩ : ∃ S, sch b 48 = S := ⟨_, rfl⟩
          have HSL : Aside0 (S.length = 64) := ⟨by rw [← hSe, sch_len]⟩
          rw [hSe] at HA HBLK
          clear hSe HSM
          have hszr := HBr.out.size
          have HS8 := Aside0.mk (list8 hs HH.out)
          have HGS := HS.out.below HBr.out
          obtain ⟨g0, -⟩ := HGS 0 (by rw [HH.out]; decide)
          replace g0 : wr.cell? ⟨g, 0, none⟩ = some (.int .u32 (rd hs 0)) := g0
          obtain ⟨h0, hx⟩ : ∃ x, rd hs 0 = x := ⟨_, rfl⟩
          rw [hx] at g0 HS8
          clear hx
          obtain ⟨g1, -⟩ := HGS 1 (by rw [HH.out]; decide)
          replace g1 : wr.cell? ⟨g, 1, none⟩ = some (.int .u32 (rd hs 1)) := g1
          obtain ⟨h1, hx⟩ : ∃ x, rd hs 1 = x := ⟨_, rfl⟩
          rw [hx] at g1 HS8
          clear hx
          obtain ⟨g2, -⟩ := HGS 2 (by rw [HH.out]; decide)
          replace g2 : wr.cell? ⟨g, 2, none⟩ = some (.int .u32 (rd hs 2)) := g2
          obtain ⟨h2, hx⟩ : ∃ x, rd hs 2 = x := ⟨_, rfl⟩
          rw [hx] at g2 HS8
          clear hx
          obtain ⟨g3, -⟩ := HGS 3 (by rw [HH.out]; decide)
          replace g3 : wr.cell? ⟨g, 3, none⟩ = some (.int .u32 (rd hs 3)) := g3
          obtain ⟨h3, hx⟩ : ∃ x, rd hs 3 = x := ⟨_, rfl⟩
          rw [hx] at g3 HS8
          clear hx
          obtain ⟨g4, -⟩ := HGS 4 (by rw [HH.out]; decide)
          replace g4 : wr.cell? ⟨g, 4, none⟩ = some (.int .u32 (rd hs 4)) := g4
          obtain ⟨h4, hx⟩ : ∃ x, rd hs 4 = x := ⟨_, rfl⟩
          rw [hx] at g4 HS8
          clear hx
          obtain ⟨g5, -⟩ := HGS 5 (by rw [HH.out]; decide)
          replace g5 : wr.cell? ⟨g, 5, none⟩ = some (.int .u32 (rd hs 5)) := g5
          obtain ⟨h5, hx⟩ : ∃ x, rd hs 5 = x := ⟨_, rfl⟩
          rw [hx] at g5 HS8
          clear hx
          obtain ⟨g6, -⟩ := HGS 6 (by rw [HH.out]; decide)
          replace g6 : wr.cell? ⟨g, 6, none⟩ = some (.int .u32 (rd hs 6)) := g6
          obtain ⟨h6, hx⟩ : ∃ x, rd hs 6 = x := ⟨_, rfl⟩
          rw [hx] at g6 HS8
          clear hx
          obtain ⟨g7, -⟩ := HGS 7 (by rw [HH.out]; decide)
          replace g7 : wr.cell? ⟨g, 7, none⟩ = some (.int .u32 (rd hs 7)) := g7
          obtain ⟨h7, hx⟩ : ∃ x, rd hs 7 = x := ⟨_, rfl⟩
          rw [hx] at g7 HS8
          clear hx
          clear HGS
          have HVn : Aside0 (Arr (wr.alloc (.cells #[.int .u32 h0, .int .u32 h1, .int .u32 h2, .int .u32 h3, .int .u32 h4, .int .u32 h5, .int .u32 h6, .int .u32 h7] 154)) wr.heap.size (rnds Kl S hs 0)) := ⟨by
            show Arr _ _ hs
            rw [HS8.out]
            exact Arr.new wr [h0, h1, h2, h3, h4, h5, h6, h7] 154⟩
          have HBn := Aside0.mk (below_alloc (Below.refl wr.heap.size wr) (.cells #[.int .u32 h0, .int .u32 h1, .int .u32 h2, .int .u32 h3, .int .u32 h4, .int .u32 h5, .int .u32 h6, .int .u32 h7] 154))
          rw [show ((16 + 48 : Nat) : Int) = 64 from rfl]
          go_wp2
          clear g0 g1 g2 g3 g4 g5 g6 g7
          have HA2 := HA
          have HB2 := HBr
          clear HA HBr
          generalize hW2 : wr = W2 at *
          clear hW2
          obtain ⟨gv, hgv⟩ : ∃ n, W2.heap.size = n := ⟨_, rfl⟩
          go_loopw [86] (fun v86 wr => ∃ t : Nat, v86 = .int .i64 t ∧ t ≤ 64 ∧ Aside0 (Arr wr W2.heap.size (rnds Kl S hs t)) ∧ Aside0 (Below W2.heap.size W2 wr))
            (fun v86 _ => 64 - (intOf v86).toNat)
          case atStart => exact ⟨0, rfl, Nat.zero_le _, HVn, HBn⟩
          case round =>
            obtain ⟨t, rfl, ht0, HV, HBr⟩ := hrel
            by_cases hlt : t < 64
            · have HGV := Aside0.mk hgv
              have hgvle : W2.heap.size ≤ gv := Nat.le_of_eq hgv
              rw [hgv] at HV ⊢
              -- <MIX>
              obtain ⟨V, hV⟩ : ∃ V, rnds Kl S hs t = V := ⟨_, rfl⟩
              have HVL : Aside0 (V.length = 8) := ⟨by rw [← hV]; exact rnds_len _ _ _ HH.out t⟩
              have HNX : Aside0 (rnds Kl S hs (t + 1) = rnd Kl S V t) := ⟨by rw [rnds, hV]⟩
              rw [hV] at HV
              clear hV
              have ht : (t : Int) < 64 := by omega
              obtain ⟨c0, f0⟩ := HV.out 0 (by rw [HVL.out]; decide)
              obtain ⟨c1, f1⟩ := HV.out 1 (by rw [HVL.out]; decide)
              obtain ⟨c2, f2⟩ := HV.out 2 (by rw [HVL.out]; decide)
              obtain ⟨c3, f3⟩ := HV.out 3 (by rw [HVL.out]; decide)
              obtain ⟨c4, f4⟩ := HV.out 4 (by rw [HVL.out]; decide)
              obtain ⟨c5, f5⟩ := HV.out 5 (by rw [HVL.out]; decide)
              obtain ⟨c6, f6⟩ := HV.out 6 (by rw [HVL.out]; decide)
              obtain ⟨c7, f7⟩ := HV.out 7 (by rw [HVL.out]; decide)
              have ck := (HK.out.below (below_then HB2.out HB2.out.size HBr.out)) t (by rw [HKL.out]; omega)
              obtain ⟨cs, -⟩ := (HA2.out.below HBr.out) t (by rw [HSL.out]; omega)
              have HRN : Aside0 (rnd Kl S V t = [(tt1 Kl S V t + tt2 V) % 4294967296, rd V 0, rd V 1, rd V 2, (rd V 3 + tt1 Kl S V t) % 4294967296, rd V 4, rd V 5, rd V 6]) := ⟨rfl⟩
              have HT1 : Aside0 (tt1 Kl S V t = (rd V 7 + SS1 (rd V 4) + ch (rd V 4) (rd V 5) (rd V 6) + rd Kl (t : Int) + rd S (t : Int)) % 4294967296) := ⟨rfl⟩
              have HT2 : Aside0 (tt2 V = (SS0 (rd V 0) + mj (rd V 0) (rd V 1) (rd V 2)) % 4294967296) := ⟨rfl⟩
              have HV8 := Aside0.mk (list8 V HVL.out)
              replace c0 : wr.cell? ⟨gv, 0, none⟩ = some (.int .u32 (rd V 0)) := c0
              obtain ⟨x0, hx⟩ : ∃ x, rd V 0 = x := ⟨_, rfl⟩
              rw [hx] at c0 HV8 HRN HT2
              clear hx
              replace c1 : wr.cell? ⟨gv, 1, none⟩ = some (.int .u32 (rd V 1)) := c1
              obtain ⟨x1, hx⟩ : ∃ x, rd V 1 = x := ⟨_, rfl⟩
              rw [hx] at c1 HV8 HRN HT2
              clear hx
              replace c2 : wr.cell? ⟨gv, 2, none⟩ = some (.int .u32 (rd V 2)) := c2
              obtain ⟨x2, hx⟩ : ∃ x, rd V 2 = x := ⟨_, rfl⟩
              rw [hx] at c2 HV8 HRN HT2
              clear hx
              replace c3 : wr.cell? ⟨gv, 3, none⟩ = some (.int .u32 (rd V 3)) := c3
              obtain ⟨x3, hx⟩ : ∃ x, rd V 3 = x := ⟨_, rfl⟩
              rw [hx] at c3 HV8 HRN
              clear hx
              replace c4 : wr.cell? ⟨gv, 4, none⟩ = some (.int .u32 (rd V 4)) := c4
              obtain ⟨x4, hx⟩ : ∃ x, rd V 4 = x := ⟨_, rfl⟩
              rw [hx] at c4 HV8 HRN HT1
              clear hx
              replace c5 : wr.cell? ⟨gv, 5, none⟩ = some (.int .u32 (rd V 5)) := c5
              obtain ⟨x5, hx⟩ : ∃ x, rd V 5 = x := ⟨_, rfl⟩
              rw [hx] at c5 HV8 HRN HT1
              clear hx
              replace c6 : wr.cell? ⟨gv, 6, none⟩ = some (.int .u32 (rd V 6)) := c6
              obtain ⟨x6, hx⟩ : ∃ x, rd V 6 = x := ⟨_, rfl⟩
              rw [hx] at c6 HV8 HRN HT1
              clear hx
              replace c7 : wr.cell? ⟨gv, 7, none⟩ = some (.int .u32 (rd V 7)) := c7
              obtain ⟨x7, hx⟩ : ∃ x, rd V 7 = x := ⟨_, rfl⟩
              rw [hx] at c7 HV8 HT1
              clear hx
              obtain ⟨kt, hx⟩ : ∃ x, rd Kl (t : Int) = x := ⟨_, rfl⟩
              rw [hx] at ck HT1
              clear hx
              obtain ⟨st, hx⟩ : ∃ x, rd S (t : Int) = x := ⟨_, rfl⟩
              rw [hx] at cs HT1
              clear hx
              have HVx : Aside0 (Arr wr gv [x0, x1, x2, x3, x4, x5, x6, x7]) := ⟨HV8.out ▸ HV.out⟩
              clear HV HV8
              go_wp2
              go_quiet (fail)
              go_wp2_with (first | (go_at_call 122; (with_reducible refine (dturn_calls _ _ (by unfold Tn; decide) _).mono ?_); rintro e w5 ⟨rfl, ⟨nd, rfl⟩⟩) | fail)
              generalize hW : World.drewN wr _ = Wa
              replace c0 : Wa.cell? ⟨gv, 0, none⟩ = some (.int .u32 x0) := by rw [← hW]; exact c0
              replace c1 : Wa.cell? ⟨gv, 1, none⟩ = some (.int .u32 x1) := by rw [← hW]; exact c1
              replace c2 : Wa.cell? ⟨gv, 2, none⟩ = some (.int .u32 x2) := by rw [← hW]; exact c2
              replace c3 : Wa.cell? ⟨gv, 3, none⟩ = some (.int .u32 x3) := by rw [← hW]; exact c3
              replace c4 : Wa.cell? ⟨gv, 4, none⟩ = some (.int .u32 x4) := by rw [← hW]; exact c4
              replace c5 : Wa.cell? ⟨gv, 5, none⟩ = some (.int .u32 x5) := by rw [← hW]; exact c5
              replace c6 : Wa.cell? ⟨gv, 6, none⟩ = some (.int .u32 x6) := by rw [← hW]; exact c6
              replace c7 : Wa.cell? ⟨gv, 7, none⟩ = some (.int .u32 x7) := by rw [← hW]; exact c7
              replace f0 : Wa.frozen? ⟨gv, 0, none⟩ = false := by rw [← hW]; exact f0
              replace f1 : Wa.frozen? ⟨gv, 1, none⟩ = false := by rw [← hW]; exact f1
              replace f2 : Wa.frozen? ⟨gv, 2, none⟩ = false := by rw [← hW]; exact f2
              replace f3 : Wa.frozen? ⟨gv, 3, none⟩ = false := by rw [← hW]; exact f3
              replace f4 : Wa.frozen? ⟨gv, 4, none⟩ = false := by rw [← hW]; exact f4
              replace f5 : Wa.frozen? ⟨gv, 5, none⟩ = false := by rw [← hW]; exact f5
              replace f6 : Wa.frozen? ⟨gv, 6, none⟩ = false := by rw [← hW]; exact f6
              replace f7 : Wa.frozen? ⟨gv, 7, none⟩ = false := by rw [← hW]; exact f7
              replace ck : Wa.cell? ⟨2, t, none⟩ = some (.int .u32 kt) := by rw [← hW]; exact ck
              replace cs : Wa.cell? ⟨w.heap.size, t, none⟩ = some (.int .u32 st) := by rw [← hW]; exact cs
              have HBa : Aside0 (Below W2.heap.size W2 Wa) := ⟨by rw [← hW]; exact pw_below_drewN HBr.out _⟩
              have HVa : Aside0 (Arr Wa gv [x0, x1, x2, x3, x4, x5, x6, x7]) := ⟨by rw [← hW]; exact HVx.out⟩
              clear hW HBr
              go_quiet (fail)
              go_wp2_with (first | (go_at_call 122; (with_reducible refine (dturn_calls _ _ (by unfold Tn; decide) _).mono ?_); rintro e w5 ⟨rfl, ⟨nd, rfl⟩⟩) | fail)
              -- </MIX>
              go_roundw
              case rel =>
                refine ⟨t + 1, by go_num, by omega, ⟨?_⟩, ⟨?_⟩⟩
                · rw [HNX.out, HRN.out, HT1.out, HT2.out, mod_ab, mod_xa]
                  exact fill8 (HVa.out.drewN _) _ _ _ _ _ _ _ _
                · have hb8 := HBa.out
                  rw [HGV.out] at hb8
                  exact below8 (pw_below_drewN hb8 _) (Nat.le_refl _) _ _ _ _ _ _ _ _
              case measure => simp [intOf]; omega
            · have hte : t = 64 := by omega
              subst hte
              clear ht0 hlt
              obtain ⟨V, hV⟩ : ∃ V, rnds Kl S hs 64 = V := ⟨_, rfl⟩
              have HVL : Aside0 (V.length = 8) := ⟨by rw [← hV]; exact rnds_len _ _ _ HH.out 64⟩
              rw [hV] at HV HBLK
              clear hV
              have HB3 := Aside0.mk (below_then HB2.out HB2.out.size HBr.out)
              have hgv2 : g < gv := by have := HB2.out.size; omega
              rw [hgv] at HV HBr ⊢
              clear hgv
              generalize hw3 : wr = W3 at *
              clear hw3
              rw [show ((64 : Nat) : Int) = 64 from rfl]
              have HG0 : Aside0 (Arr W3 g (GL hs V 0)) := ⟨HS.out.below HB3.out⟩
              go_wp2
              go_loopw [170] (fun v170 wr => ∃ i : Nat, v170 = .int .i64 i ∧ i ≤ 8 ∧ Aside0 (Arr wr g (GL hs V i)) ∧ Aside0 (Kept W3 wr (fun k => k = g)) ∧ Aside0 (Below g W3 wr) ∧ Aside0 (∀ j, 8 ≤ j → wr.cell? ⟨g, j, none⟩ = W3.cell? ⟨g, j, none⟩ ∧ wr.frozen? ⟨g, j, none⟩ = W3.frozen? ⟨g, j, none⟩))
                (fun v170 _ => 8 - (intOf v170).toNat)
              case atStart => exact ⟨0, rfl, Nat.zero_le _, HG0, ⟨Kept.refl _ _⟩, ⟨Below.refl _ _⟩, ⟨fun _ _ => ⟨rfl, rfl⟩⟩⟩
              case round =>
                obtain ⟨i, rfl, hi, HG, HKp, HBl, HJ⟩ := hrel
                by_cases hlt : i < 8
                · obtain ⟨cg, fg⟩ := HG.out i (by rw [GL_len _ _ HH.out i hi]; exact hlt)
                  rw [GL_rd] at cg
                  obtain ⟨cv, -⟩ := (HV.out.kept HKp.out (fun e => Nat.ne_of_gt hgv2 e)) i (by rw [HVL.out]; exact hlt)
                  have HNX := Aside0.mk (GL_next hs V HH.out i hlt)
                  have HGL := Aside0.mk (GL_len hs V HH.out i hi)
                  have hi8 : (i : Int) < 8 := by omega
                  obtain ⟨xh, hx⟩ : ∃ x, rd hs (i : Int) = x := ⟨_, rfl⟩
                  rw [hx] at cg HNX
                  clear hx
                  obtain ⟨xv, hx⟩ : ∃ x, rd V (i : Int) = x := ⟨_, rfl⟩
                  rw [hx] at cv HNX
                  clear hx
                  go_wp2
                  go_still_tail 11, (by kernel_rfl)
                  change wpList _ _ _ _ _ wr.drew
                  have HG2 : Aside0 (Arr wr.drew g (GL hs V i)) := ⟨HG.out⟩
                  have HK2 : Aside0 (Kept W3 wr.drew (fun k => k = g)) := ⟨HKp.out⟩
                  have HBm : Aside0 (Below g W3 wr.drew) := ⟨HBl.out.drew⟩
                  have HJ2 : Aside0 (∀ j, 8 ≤ j → wr.drew.cell? ⟨g, j, none⟩ = W3.cell? ⟨g, j, none⟩ ∧ wr.drew.frozen? ⟨g, j, none⟩ = W3.frozen? ⟨g, j, none⟩) := ⟨HJ.out⟩
                  replace cg : wr.drew.cell? ⟨g, i, none⟩ = some (.int .u32 xh) := cg
                  replace fg : wr.drew.frozen? ⟨g, i, none⟩ = false := fg
                  clear HG HKp HBl HJ cv
                  generalize wr.drew = W4 at HG2 HK2 HBm HJ2 cg fg ⊢
                  go_wp2
                  go_roundw
                  case rel =>
                    refine ⟨i + 1, by go_num, by omega, ⟨?_⟩, ⟨HK2.out.setCell (p := ⟨g, i, none⟩) (.inl rfl) _⟩, ⟨HBm.out.setCell (p := ⟨g, i, none⟩) (Nat.le_refl _) _⟩, ⟨fun j hj => ?_⟩⟩
                    · rw [← HNX.out]
                      exact Arr.set (i := i) HG2.out (by rw [HGL.out]; exact hlt) _
                    · rw [World.cell?_setCell_other (h := by simp <;> omega), World.frozen?_setCell]
                      exact HJ2.out j hj
                  case measure => simp [intOf]; omega
                · have hie : i = 8 := by omega
                  subst hie
                  clear hi hlt
                  go_wp2
                  go_returns
                  refine ⟨_, rfl, ?_, ?_, (HB3.out.mono (Nat.le_of_lt hg)).trans HBl.out, fun j hj => ?_⟩
                  · rw [HBLK.out, ← GL_end hs V HH.out]; exact HG.out
                  · exact (Kept.of_below HB3.out _).then_ HKp.out (fun k hk => .inl hk)
                  · exact ⟨((HJ.out j hj).1).trans (HB3.out.cell hg), ((HJ.out j hj).2).trans (HB3.out.frozen hg)⟩
end Go.Proofs.YteapdhfeddgjbaaDoor.Dg
