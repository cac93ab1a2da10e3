/- digest: the document's block, by the program's text. -/
import Derived.Test.YteapdhfeddgjbaaDoorSDgA
import Derived.Test.YteapdhfeddgjbaaDoorSPDbx1
import Derived.Test.YteapdhfeddgjbaaDoorSWKept
import Derived.Test.YteapdhfeddgjbaaDoorSWLast
import Derived.Test.YteapdhfeddgjbaaDoorSWMore
import Derived.BigQuiet
import Derived.StillTailTactics
import Derived.RowKit
namespace Go.Proofs.YteapdhfeddgjbaaDoor.Dg
set_option linter.unusedVariables false
set_option linter.unusedSimpArgs false
open Go.RowKit Go.Proofs.YteapdhfeddgjbaaDoor.PDb Go.Proofs.YteapdhfeddgjbaaDoorW Go.Proofs.YteapdhfeddgjbaaDoorW.PrintWords Go.Proofs.YteapdhfeddgjbaaDoorW.PrintLast Go.Proofs.YteapdhfeddgjbaaDoorW.PrintMore

theorem info144 : (Tryd.prog.info? 144).map (fun i => (i.zero, i.size, i.bytes)) = some (some (.int .u32 0), 1, 4) := by kernel_rfl
theorem C_readsK {k : IntKind} {w : World} {A : Option Addr} {xs : List Int} (h : Kd.C (Kd.int k) w A xs.length xs) : ReadsInt w k A xs.length xs :=
  ⟨rfl, h.2.1, fun hp => by
    obtain ⟨ad, e, _⟩ := Kd.at_int h 0 (by omega) (by omega)
    subst e
    refine ⟨ad, rfl, fun j hj => ?_⟩
    obtain ⟨ad', e, hc⟩ := Kd.at_int h (j : Int) (by omega) (by omega)
    cases e
    rw [Int.toNat_natCast] at hc
    rw [hc, rd]
    simp only [Int.toNat_natCast]⟩
theorem litK_own (W : World) (base : Nat) (e : TypeId) (k : IntKind) (xs : List Int) (hb : base ≤ W.heap.size) (hm : xs.length ≤ 9223372036854775807) : Kd.C (Kd.int k) (W.alloc (.cells (nums k xs).toArray e)) (some ⟨W.heap.size, 0, none⟩) xs.length xs :=
  (Kd.R_reads' (Kd.R_of_own (enc := Value.int k) (h1 := fun _ => rfl) (ok := fun _ => True) (own_lit W base e k xs hb hm) (fun _ _ => trivial))).2.2
abbrev R32 (W : World) (base : Nat) (v : Value) (l : List Int) : Prop := Kd.R (Kd.int .u32) 144 W base (fun _ => True) v l
def blkT17 : Bool × List (List Nat × List Nat) := (true, [([], []), ([], []), ([], []), ([], []), ([3], [3]), ([2, 4], [2, 4]), ([5], [5]), ([1, 6], [1, 6]), ([], []), ([7, 8], [7, 8]), ([], []), ([], []), ([11], [11]), ([10, 12], [10, 12]), ([13], [13]), ([9, 14], [9, 14]), ([15], [15]), ([0, 16], [0, 16]), ([17, 17, 0, 1, 2, 3, 4, 5, 6, 7, 8, 9, 10, 11, 12, 13, 14, 15, 16, 17], [0, 2, 10, 17])])
def blkB17 : List Nat := [0, 0, 0, 0, 8, 28, 60, 126, 0, 510, 0, 0, 2048, 7168, 15360, 32766, 65534, 131071, 262143]
theorem blk17t : rtab .any (opsOf Tryd.f93 17) = blkT17 := by kernel_rfl
theorem blk17b : waitsOk blkT17.2 blkB17 = true := by kernel_rfl
def blkT29 : Bool × List (List Nat × List Nat) := (true, [([], []), ([], []), ([0, 1], [0, 1]), ([], []), ([3], [3]), ([4], [4]), ([], []), ([6], [6]), ([7], [7]), ([], []), ([9], [9]), ([10], [10]), ([], []), ([12], [12]), ([13], [13]), ([], []), ([14, 15], [14, 15]), ([], []), ([17], [17]), ([18], [18]), ([], []), ([20], [20]), ([21], [21]), ([], []), ([23], [23]), ([24], [24]), ([2, 5, 8, 11, 16, 19, 22, 25], [2, 5, 8, 11, 16, 19, 22, 25]), ([26, 0, 1, 2, 3, 4, 5, 6, 7, 8, 9, 10, 11, 12, 13, 14, 15, 16, 17, 18, 19, 20, 21, 22, 23, 24, 25, 26], [3, 6, 9, 12, 17, 20, 23, 26])])
def blkB29 : List Nat := [0, 0, 3, 0, 8, 24, 0, 64, 192, 0, 512, 1536, 0, 4096, 12288, 0, 61440, 0, 131072, 393216, 0, 1048576, 3145728, 0, 8388608, 25165824, 67108863, 134217727]
theorem blk29t : rtab .any (opsOf Tryd.f93 29) = blkT29 := by kernel_rfl
theorem blk29b : waitsOk blkT29.2 blkB29 = true := by kernel_rfl
def blkT34 : Bool × List (List Nat × List Nat) := (true, [([], []), ([], []), ([], []), ([1, 2], [1, 2]), ([3], [3]), ([], []), ([], []), ([5, 6], [5, 6]), ([7], [7]), ([4, 8], [4, 8]), ([9], [9]), ([0, 10], [0, 10]), ([11, 11, 0, 1, 2, 3, 4, 5, 6, 7, 8, 9, 10, 11], [0, 11])])
def blkB34 : List Nat := [0, 0, 0, 6, 14, 0, 0, 96, 224, 510, 1022, 2047, 4095]
theorem blk34t : rtab .any (opsOf Tryd.f93 34) = blkT34 := by kernel_rfl
theorem blk34b : waitsOk blkT34.2 blkB34 = true := by kernel_rfl
theorem nw_wrap (s1 x7 s0 x16 : Int) : IntKind.u32.wrap (IntKind.u32.wrap (IntKind.u32.wrap (s1 + x7) + s0) + x16) = (s1 + x7 + s0 + x16) % 4294967296 := by
  simp only [IntKind.wrap_u32]
  omega
theorem lit8 (W : World) (a0 a1 a2 a3 a4 a5 a6 a7 : Int) : Kd.C (Kd.int .u32) (W.alloc (.cells #[.int .u32 a0, .int .u32 a1, .int .u32 a2, .int .u32 a3, .int .u32 a4, .int .u32 a5, .int .u32 a6, .int .u32 a7] 144)) (some ⟨W.heap.size, 0, none⟩) 8 [a0, a1, a2, a3, a4, a5, a6, a7] :=
  litK_own W W.heap.size 144 .u32 [a0, a1, a2, a3, a4, a5, a6, a7] (Nat.le_refl _) (by simp)
theorem turn_calls (x n : Int) (h0 : 0 ≤ n) (h1 : n ≤ 32) (w : World) : Calls Tryd.prog 116 #[.int .u32 x, .int .i64 n] w fun e w' => e = .returned (.int .u32 (trn x n)) ∧ Drawn0 w w' :=
  cleromancyref05_turn.calls x n _ w (turn_is x n h0 h1)
theorem turn_quiet (x n : Int) (h0 : 0 ≤ n) (h1 : n ≤ 32) (w : World) (m : Nat) : Calls Tryd.prog 116 #[.int .u32 x, .int .i64 n] (w.drewN m) fun e w'' => e = .returned (.int .u32 (trn x n)) ∧ ∃ k, w'' = w.drewN k :=
  Calls.quiet_of ((turn_calls x n h0 h1 _).mono fun e w' ⟨he, hd⟩ => ⟨he, hd.out⟩)
set_option maxHeartbeats 40000000 in
set_option maxRecDepth 100000 in
theorem block_calls (A0 : Option Addr) (c0 : Nat) (hs : List Int) (hh : hs.length = 8) (A1 : Option Addr) (c1 : Nat) (b : List Int) (hb : b.length = 64) (hby : ∀ i, 0 ≤ rd b i ∧ rd b i < 256) (w : World) (hr0 : Kd.C (Kd.int .u32) w A0 hs.length hs) (hr1 : Kd.C (Kd.int .u8) w A1 b.length b) (hc0 : 8 ≤ c0) (hc1 : 64 ≤ c1) :
    Calls Tryd.prog 93 #[.slice A0 8 c0, .slice A1 64 c1] w fun e w' => ∃ v, e = .returned v ∧ R32 w' w.heap.size v (blk hs b) ∧ Below w.heap.size w w' := by
  have HR0 := Aside0.mk hr0
  have HR1 := Aside0.mk hr1
  have HBY := Aside0.mk hby
  have HH := Aside0.mk hh
  have HB64 := Aside0.mk hb
  clear hr0 hr1 hby hh hb
  have HKL := Aside0.mk KK_len
  obtain ⟨Kl, hKl⟩ : ∃ K, KK = K := ⟨_, rfl⟩
  have HKC := Aside0.mk (cleromancyref05_Constants.calls KK w KK_is)
  have HBLK : Aside0 (blk hs b = adds hs (rnds KK (sch b 48) hs 64) 8) := ⟨rfl⟩
  rw [hKl] at HKL HKC HBLK
  obtain ⟨bl, hbl⟩ : ∃ x, blk hs b = x := ⟨_, rfl⟩
  rw [hbl] at HBLK ⊢
  clear hbl hKl
  have hcap : (8 : Int) ≤ c0 ∧ (64 : Int) ≤ c1 := ⟨by omega, by omega⟩
  go_enter Tryd.func93, Tryd.ntmps93
  go_wp2_with (first
    | (go_at_call 115; (with_reducible refine HKC.out.mono ?_); rintro e w1 ⟨vK, rfl, hk, hb⟩; obtain ⟨AK, cK, eK, hcK, hCK⟩ := Kd.R_reads hk; rw [HKL.out] at eK hcK; subst eK; have HK1 := Aside0.mk hCK; have HB1 := Aside0.mk hb; clear hk hb hCK)
    | fail)
  go_loopw [6, 7] (fun v6 v7 wr => ∃ i : Nat, v7 = .int .i64 i ∧ i ≤ 16 ∧ Aside0 (R32 wr w1.heap.size v6 (wds b i)) ∧ Aside0 (Below w1.heap.size w1 wr))
    (fun _ v7 _ => 16 - (intOf v7).toNat)
  case atStart => exact ⟨0, rfl, Nat.zero_le _, ⟨Kd.R_nil _ _ _ _ _⟩, ⟨Below.refl _ _⟩⟩
  case round =>
    obtain ⟨i, rfl, hi, HW, HBk⟩ := hrel
    obtain ⟨vw, hvw⟩ : ∃ v, u6 = v := ⟨_, rfl⟩
    rw [hvw] at HW ⊢
    clear hvw
    by_cases hlt : i < 16
    · have w4 : IntKind.i64.wrap (4 * (i : Int)) = 4 * (i : Int) := IntWalk.i64_in _ (by omega)
      go_wp2
      go_loopw [8, 9] (fun v8 v9 wx => ∃ j : Nat, v9 = .int .i64 j ∧ j ≤ 4 ∧ v8 = .int .u32 (wpart b i j) ∧ Aside0 (R32 wx w1.heap.size vw (wds b i)) ∧ Aside0 (Below w1.heap.size w1 wx))
        (fun _ v9 _ => 4 - (intOf v9).toNat)
      case atStart => exact ⟨0, rfl, Nat.zero_le _, rfl, HW, HBk⟩
      case round =>
        obtain ⟨j, rfl, hj, rfl, HW2, HBk2⟩ := hrel
        by_cases hlj : j < 4
        · obtain ⟨ad, e, q⟩ := Kd.at_int (Kd.C_below HR1.out (below_then HB1.out HB1.out.size HBk2.out)) ((4 * i + j : Nat) : Int) (by omega) (by have := HB64.out; omega)
          subst e
          rw [Int.toNat_natCast] at q
          have hx := HBY.out ((4 * i + j : Nat) : Int)
          have HNX : Aside0 (wpart b i (j + 1) = (wpart b i j * 256 + rd b ((4 * i + j : Nat) : Int)) % 4294967296) := ⟨rfl⟩
          obtain ⟨x, hxe⟩ : ∃ x, rd b ((4 * i + j : Nat) : Int) = x := ⟨_, rfl⟩
          obtain ⟨y, hye⟩ : ∃ x, wpart b i j = x := ⟨_, rfl⟩
          rw [hxe] at HNX hx q
          rw [hye] at HNX ⊢
          have w5 : IntKind.i64.wrap (4 * (i : Int) + (j : Int)) = ((4 * i + j : Nat) : Int) := by rw [IntWalk.i64_in _ (by omega)]; omega
          have w6 : IntKind.u32.wrap x = x := by rw [IntKind.wrap_u32]; omega
          clear hxe hye
          go_wp2
          go_roundw
          case rel => exact ⟨j + 1, by go_num, by omega, congrArg (Value.int .u32) (by rw [HNX.out]; (try simp only [IntKind.wrap_u32]); omega), HW2, HBk2⟩
          case measure => simp [intOf]; omega
        · have hje : j = 4 := by omega
          subst hje
          clear hj hlj
          obtain ⟨x, hxe⟩ : ∃ x, wpart b i 4 = x := ⟨_, rfl⟩
          have HX : Aside0 (wds b (i + 1) = wds b i ++ [x]) := ⟨by rw [wds, hxe]⟩
          rw [hxe]
          clear hxe
          have HRI := Aside0.mk (C_readsK (litK_own wr w1.heap.size 144 .u32 [x] HBk2.out.size (by simp)))
          have HOL : Aside0 ((wr.alloc (.cells #[.int .u32 x] 144)).ownsRow w1.heap.size 144 1 vw (wds b i).length (nums .u32 (wds b i))) := ⟨(Kd.own_of_R HW2.out).alloc _⟩
          have HBa := Aside0.mk (HBk2.out.alloc HBk2.out.size (.cells #[.int .u32 x] 144))
          have HWL := Aside0.mk (wds_len b i)
          have hsz := HBk2.out.size
          go_wp2_with (first
            | (at_builtin; refine print_append_row (w0 := w1) w1.heap.size rfl _ _ 140 144 .u32 4 rfl Tryd.underlying140 info144 (by decide) _ (wds b i) [x] (some ⟨wr.heap.size, 0, none⟩) 1 1 rfl rfl HOL.out HRI.out HBa.out (by simp; omega) (by rw [HWL.out]; omega) ?_; intro v1 w5 ho1 hb1 hg1 hat1; have HB5 := Aside0.mk hb1; have HW5 := Aside0.mk (Kd.R_of_own (enc := Value.int .u32) (h1 := fun _ => rfl) (ok := fun _ => True) ho1 (fun _ _ => trivial)); have HG5 := Aside0.mk hg1; clear hb1 ho1 hg1 hat1)
            | fail)
          go_roundw
          case rel => exact ⟨i + 1, by go_num, by omega, ⟨HX.out ▸ HW5.out⟩, HB5⟩
          case measure => simp [intOf]; omega
    · have hie : i = 16 := by omega
      subst hie
      clear hi hlt
      have HS0 := Aside0.mk (show R32 wr w1.heap.size vw (sch b 0) from HW.out)
      clear HW
      go_wp2
      go_loopw [6, 10] (fun v6 v10 wr => ∃ j : Nat, v10 = .int .i64 ((16 + j : Nat) : Int) ∧ j ≤ 48 ∧ Aside0 (R32 wr w1.heap.size v6 (sch b j)) ∧ Aside0 (Below w1.heap.size w1 wr))
        (fun _ v10 _ => 64 - (intOf v10).toNat)
      case atStart => exact ⟨0, rfl, Nat.zero_le _, HS0, HBk⟩
      case round =>
        obtain ⟨j, rfl, hj, HW, HBk⟩ := hrel
        by_cases hlt : j < 48
        · obtain ⟨L, hL⟩ : ∃ L, sch b j = L := ⟨_, rfl⟩
          have HLL : Aside0 (L.length = 16 + j) := ⟨by rw [← hL, sch_len]⟩
          have HNX : Aside0 (sch b (j + 1) = L ++ [nw L (16 + j)]) := ⟨by rw [sch, hL]⟩
          rw [hL] at HW
          clear hL
          have HNW : Aside0 (nw L (16 + j) = (sg1 (rd L ((j + 14 : Nat) : Int)) + rd L ((j + 9 : Nat) : Int) + sg0 (rd L ((j + 1 : Nat) : Int)) + rd L ((j : Nat) : Int)) % 4294967296) := ⟨by
            unfold nw
            rw [show ((16 + j : Nat) : Int) - 2 = ((j + 14 : Nat) : Int) from by omega, show ((16 + j : Nat) : Int) - 7 = ((j + 9 : Nat) : Int) from by omega, show ((16 + j : Nat) : Int) - 15 = ((j + 1 : Nat) : Int) from by omega, show ((16 + j : Nat) : Int) - 16 = ((j : Nat) : Int) from by omega]⟩
          obtain ⟨T, hT⟩ : ∃ T, 16 + j = T := ⟨_, rfl⟩
          obtain ⟨a1, ha1⟩ : ∃ T, j + 1 = T := ⟨_, rfl⟩
          obtain ⟨a9, ha9⟩ : ∃ T, j + 9 = T := ⟨_, rfl⟩
          obtain ⟨a14, ha14⟩ : ∃ T, j + 14 = T := ⟨_, rfl⟩
          rw [hT, ha14, ha9, ha1] at HNW
          rw [hT] at HLL HNX ⊢
          have HHT := Aside0.mk hT
          have b0 : (j : Int) < (T : Int) := by omega
          have b1 : (a1 : Int) < (T : Int) := by omega
          have b2 : (a14 : Int) < (T : Int) := by omega
          have b3 : (a9 : Int) < (T : Int) := by omega
          have b4 : (T : Int) < 64 := by omega
          have bs : w1.heap.size ≤ wr.heap.size := HBk.out.size
          have u1 : IntKind.i64.wrap ((T : Int) - 15) = (a1 : Int) := by rw [IntWalk.i64_in _ (by omega)]; omega
          have u2 : IntKind.i64.wrap ((T : Int) - 2) = (a14 : Int) := by rw [IntWalk.i64_in _ (by omega)]; omega
          have u3 : IntKind.i64.wrap ((T : Int) - 7) = (a9 : Int) := by rw [IntWalk.i64_in _ (by omega)]; omega
          have u4 : IntKind.i64.wrap ((T : Int) - 16) = (j : Int) := by rw [IntWalk.i64_in _ (by omega)]; omega
          clear hT ha1 ha9 ha14 hlt
          obtain ⟨A6, c6, e6⟩ := Kd.R_slice HW.out
          rw [HLL.out] at e6
          subst e6
          obtain ⟨ad, e, q15⟩ := Kd.at_int (Kd.R_reads' HW.out).2.2 (a1 : Int) (by omega) (by rw [HLL.out]; exact b1)
          subst e
          obtain ⟨ad2, e, q2⟩ := Kd.at_int (Kd.R_reads' HW.out).2.2 (a14 : Int) (by omega) (by rw [HLL.out]; exact b2)
          cases e
          obtain ⟨ad2, e, q7⟩ := Kd.at_int (Kd.R_reads' HW.out).2.2 (a9 : Int) (by omega) (by rw [HLL.out]; exact b3)
          cases e
          obtain ⟨ad2, e, q16⟩ := Kd.at_int (Kd.R_reads' HW.out).2.2 (j : Int) (by omega) (by rw [HLL.out]; exact b0)
          cases e
          rw [Int.toNat_natCast] at q15 q2 q7 q16
          obtain ⟨x15, h15⟩ : ∃ x, rd L (a1 : Int) = x := ⟨_, rfl⟩
          obtain ⟨x2, h2⟩ : ∃ x, rd L (a14 : Int) = x := ⟨_, rfl⟩
          obtain ⟨x7, h7⟩ : ∃ x, rd L (a9 : Int) = x := ⟨_, rfl⟩
          obtain ⟨x16, h16⟩ : ∃ x, rd L (j : Int) = x := ⟨_, rfl⟩
          rw [h15, h2, h7, h16] at HNW
          rw [h15] at q15
          rw [h2] at q2
          rw [h7] at q7
          rw [h16] at q16
          clear h15 h2 h7 h16
          go_wp2
          go_quiet ((go_at_call 116; exact turn_quiet _ _ (by omega) (by omega) _ _))
          go_wp2
          have HW2 := Aside0.mk (Kd.R_drewN HW.out nq)
          have HB2 := Aside0.mk (pw_below_drewN HBk.out nq)
          replace q15 : (wr.drewN nq).cell? _ = _ := q15
          replace q2 : (wr.drewN nq).cell? _ = _ := q2
          replace q7 : (wr.drewN nq).cell? _ = _ := q7
          replace q16 : (wr.drewN nq).cell? _ = _ := q16
          clear HW HBk bs
          generalize wr.drewN nq = W2 at HW2 HB2 q15 q2 q7 q16 ⊢
          go_quiet ((go_at_call 116; exact turn_quiet _ _ (by omega) (by omega) _ _))
          go_wp2
          have HW3 := Aside0.mk (Kd.R_drewN HW2.out nq)
          have HB3 := Aside0.mk (pw_below_drewN HB2.out nq)
          replace q7 : (W2.drewN nq).cell? _ = _ := q7
          replace q16 : (W2.drewN nq).cell? _ = _ := q16
          clear HW2 HB2 q15 q2
          generalize W2.drewN nq = W3 at HW3 HB3 q7 q16 ⊢
          have hsz := HB3.out.size
          -- <R17>
          refine start_ (n := 19) (S := fun w' => w'.cell? (ad.add a9) = some (.int .u32 x7) ∧ w'.cell? (ad.add j) = some (.int .u32 x16)) (ds := [16, 17]) #[false, false, false, false, false, false, false, false, false, false, false, false, false, false, false, false, false, false, false] (by kernel_rfl) rfl rfl ⟨q7, q16⟩ (fun hHeld => ?_); refine with_tabW blk17t blk17b (fun HT_ HW_ => ?_)
          have HW4 := Aside0.mk (Kd.R_drew HW3.out)
          have HB4 := Aside0.mk HB3.out.drew
          clear HW3 HB3 hsz q7 q16
          generalize W3.drew = W4 at HW4 HB4 hHeld ⊢
          have hsz := HB4.out.size
          refine pure_ (i := 0) (N := some 91) (v := ?_) (a' := ?_) #[true, false, false, false, false, false, false, false, false, false, false, false, false, false, false, false, false, false, false] rfl rfl (any_of HT_.out (by kernel_rfl)) (fun _ _ _ h => h) (Or.inl ⟨by rfl, ?_⟩) ?_ ?_
          rotate_left
          · intro w'
            go_simp
            (try with_reducible rfl)
            (try with_reducible rfl)
          rotate_left
          · simp only [Act.put, List.setIfInBounds_toArray, List.set_cons_zero, List.set_cons_succ, i64_w, i32_w]
            rfl
          refine pure_ (i := 1) (N := some 92) (v := ?_) (a' := ?_) #[true, true, false, false, false, false, false, false, false, false, false, false, false, false, false, false, false, false, false] rfl rfl (any_of HT_.out (by kernel_rfl)) (fun _ _ _ h => h) (Or.inl ⟨by rfl, ?_⟩) ?_ ?_
          rotate_left
          · intro w'
            go_simp
            (try with_reducible rfl)
            (try with_reducible rfl)
          rotate_left
          · simp only [Act.put, List.setIfInBounds_toArray, List.set_cons_zero, List.set_cons_succ, i64_w, i32_w]
            rfl
          refine pure_ (i := 2) (N := some 93) (v := ?_) (a' := ?_) #[true, true, true, false, false, false, false, false, false, false, false, false, false, false, false, false, false, false, false] rfl rfl (any_of HT_.out (by kernel_rfl)) (fun _ _ _ h => h) (Or.inl ⟨by rfl, ?_⟩) ?_ ?_
          rotate_left
          · intro w'
            go_simp
            (try with_reducible rfl)
            (try with_reducible rfl)
          rotate_left
          · simp only [Act.put, List.setIfInBounds_toArray, List.set_cons_zero, List.set_cons_succ, i64_w, i32_w]
            rfl
          refine pure_ (i := 3) (N := some 94) (v := ?_) (a' := ?_) #[true, true, true, true, false, false, false, false, false, false, false, false, false, false, false, false, false, false, false] rfl rfl (any_of HT_.out (by kernel_rfl)) (fun _ _ _ h => h) (Or.inl ⟨by rfl, ?_⟩) ?_ ?_
          rotate_left
          · intro w'
            go_simp
            (try with_reducible rfl)
            (try with_reducible rfl)
          rotate_left
          · simp only [Act.put, List.setIfInBounds_toArray, List.set_cons_zero, List.set_cons_succ, i64_w, i32_w]
            rfl
          refine pure_ (i := 4) (N := some 95) (v := ?_) (a' := ?_) #[true, true, true, true, true, false, false, false, false, false, false, false, false, false, false, false, false, false, false] rfl rfl (any_of HT_.out (by kernel_rfl)) (fun _ _ _ h => h) (Or.inl ⟨by rfl, ?_⟩) ?_ ?_
          rotate_left
          · intro w'
            go_simp
            (try with_reducible rfl)
            (try with_reducible rfl)
          rotate_left
          · simp only [Act.put, List.setIfInBounds_toArray, List.set_cons_zero, List.set_cons_succ, i64_w, i32_w]
            rfl
          refine pure_ (i := 5) (N := some 96) (v := ?_) (a' := ?_) #[true, true, true, true, true, true, false, false, false, false, false, false, false, false, false, false, false, false, false] rfl rfl (any_of HT_.out (by kernel_rfl)) (fun _ _ _ h => h) (Or.inl ⟨by rfl, ?_⟩) ?_ ?_
          rotate_left
          · intro w'
            go_simp
            (try with_reducible rfl)
            (try with_reducible rfl)
          rotate_left
          · simp only [Act.put, List.setIfInBounds_toArray, List.set_cons_zero, List.set_cons_succ, i64_w, i32_w]
            rfl
          refine take_ (i := 6) (N := some 97) (v := ?_) (a' := ?_) #[true, true, true, true, true, true, true, false, false, false, false, false, false, false, false, false, false, false, false] rfl rfl (take_ofW HT_.out HW_.out (by kernel_rfl)) (fun _ _ _ h => h) (Or.inl ⟨by rfl, ?_⟩) hHeld ?_ ?_
          rotate_left
          · rintro w' ⟨s0, s1⟩
            go_simp
            with_reducible rfl
          rotate_left
          · simp only [Act.put, List.setIfInBounds_toArray, List.set_cons_zero, List.set_cons_succ, i64_w, i32_w]
            rfl
          refine pure_ (i := 7) (N := some 98) (v := ?_) (a' := ?_) #[true, true, true, true, true, true, true, true, false, false, false, false, false, false, false, false, false, false, false] rfl rfl (any_of HT_.out (by kernel_rfl)) (fun _ _ _ h => h) (Or.inl ⟨by rfl, ?_⟩) ?_ ?_
          rotate_left
          · intro w'
            go_simp
            (try with_reducible rfl)
            (try with_reducible rfl)
          rotate_left
          · simp only [Act.put, List.setIfInBounds_toArray, List.set_cons_zero, List.set_cons_succ, i64_w, i32_w]
            rfl
          refine pure_ (i := 8) (N := some 99) (v := ?_) (a' := ?_) #[true, true, true, true, true, true, true, true, true, false, false, false, false, false, false, false, false, false, false] rfl rfl (any_of HT_.out (by kernel_rfl)) (fun _ _ _ h => h) (Or.inl ⟨by rfl, ?_⟩) ?_ ?_
          rotate_left
          · intro w'
            go_simp
            (try with_reducible rfl)
            (try with_reducible rfl)
          rotate_left
          · simp only [Act.put, List.setIfInBounds_toArray, List.set_cons_zero, List.set_cons_succ, i64_w, i32_w]
            rfl
          refine pure_ (i := 9) (N := some 100) (v := ?_) (a' := ?_) #[true, true, true, true, true, true, true, true, true, true, false, false, false, false, false, false, false, false, false] rfl rfl (any_of HT_.out (by kernel_rfl)) (fun _ _ _ h => h) (Or.inl ⟨by rfl, ?_⟩) ?_ ?_
          rotate_left
          · intro w'
            go_simp
            (try with_reducible rfl)
            (try with_reducible rfl)
          rotate_left
          · simp only [Act.put, List.setIfInBounds_toArray, List.set_cons_zero, List.set_cons_succ, i64_w, i32_w]
            rfl
          refine pure_ (i := 10) (N := some 101) (v := ?_) (a' := ?_) #[true, true, true, true, true, true, true, true, true, true, true, false, false, false, false, false, false, false, false] rfl rfl (any_of HT_.out (by kernel_rfl)) (fun _ _ _ h => h) (Or.inl ⟨by rfl, ?_⟩) ?_ ?_
          rotate_left
          · intro w'
            go_simp
            (try with_reducible rfl)
            (try with_reducible rfl)
          rotate_left
          · simp only [Act.put, List.setIfInBounds_toArray, List.set_cons_zero, List.set_cons_succ, i64_w, i32_w]
            rfl
          refine pure_ (i := 11) (N := some 102) (v := ?_) (a' := ?_) #[true, true, true, true, true, true, true, true, true, true, true, true, false, false, false, false, false, false, false] rfl rfl (any_of HT_.out (by kernel_rfl)) (fun _ _ _ h => h) (Or.inl ⟨by rfl, ?_⟩) ?_ ?_
          rotate_left
          · intro w'
            go_simp
            (try with_reducible rfl)
            (try with_reducible rfl)
          rotate_left
          · simp only [Act.put, List.setIfInBounds_toArray, List.set_cons_zero, List.set_cons_succ, i64_w, i32_w]
            rfl
          refine pure_ (i := 12) (N := some 103) (v := ?_) (a' := ?_) #[true, true, true, true, true, true, true, true, true, true, true, true, true, false, false, false, false, false, false] rfl rfl (any_of HT_.out (by kernel_rfl)) (fun _ _ _ h => h) (Or.inl ⟨by rfl, ?_⟩) ?_ ?_
          rotate_left
          · intro w'
            go_simp
            (try with_reducible rfl)
            (try with_reducible rfl)
          rotate_left
          · simp only [Act.put, List.setIfInBounds_toArray, List.set_cons_zero, List.set_cons_succ, i64_w, i32_w]
            rfl
          refine pure_ (i := 13) (N := some 104) (v := ?_) (a' := ?_) #[true, true, true, true, true, true, true, true, true, true, true, true, true, true, false, false, false, false, false] rfl rfl (any_of HT_.out (by kernel_rfl)) (fun _ _ _ h => h) (Or.inl ⟨by rfl, ?_⟩) ?_ ?_
          rotate_left
          · intro w'
            go_simp
            (try with_reducible rfl)
            (try with_reducible rfl)
          rotate_left
          · simp only [Act.put, List.setIfInBounds_toArray, List.set_cons_zero, List.set_cons_succ, i64_w, i32_w]
            rfl
          refine take_ (i := 14) (N := some 105) (v := ?_) (a' := ?_) #[true, true, true, true, true, true, true, true, true, true, true, true, true, true, true, false, false, false, false] rfl rfl (take_ofW HT_.out HW_.out (by kernel_rfl)) (fun _ _ _ h => h) (Or.inl ⟨by rfl, ?_⟩) hHeld ?_ ?_
          rotate_left
          · rintro w' ⟨s0, s1⟩
            go_simp
            with_reducible rfl
          rotate_left
          · simp only [Act.put, List.setIfInBounds_toArray, List.set_cons_zero, List.set_cons_succ, i64_w, i32_w]
            rfl
          refine pure_ (i := 15) (N := some 106) (v := ?_) (a' := ?_) #[true, true, true, true, true, true, true, true, true, true, true, true, true, true, true, true, false, false, false] rfl rfl (any_of HT_.out (by kernel_rfl)) (fun _ _ _ h => h) (Or.inl ⟨by rfl, ?_⟩) ?_ ?_
          rotate_left
          · intro w'
            go_simp
            (try with_reducible rfl)
            (try with_reducible rfl)
          rotate_left
          · simp only [Act.put, List.setIfInBounds_toArray, List.set_cons_zero, List.set_cons_succ, i64_w, i32_w]
            rfl
          refine last_ (i := 16) (N := some 107) #[true, true, true, true, true, true, true, true, true, true, true, true, true, true, true, true, true, false, false] rfl rfl (one_of HT_.out (by kernel_rfl)) (by decide) (fun K hK => ?_)
          refine value_ (w1 := ?_) (v := ?_) (by rfl) rfl ?_ ?_
          rotate_left 2
          · go_simp
            constructor
            · rfl
            · rfl
          refine hK.out _ _ ?_
          clear hK K
          refine norm_ (a' := ?_) ?_ ?_
          rotate_left
          · show Act.put _ (some 107) _ = _
            simp only [Act.put, List.setIfInBounds_toArray, List.set_cons_zero, List.set_cons_succ, i64_w, i32_w]
            rfl
          refine last_ (i := 17) (N := some 108) #[true, true, true, true, true, true, true, true, true, true, true, true, true, true, true, true, true, true, false] rfl rfl (one_of HT_.out (by kernel_rfl)) (by decide) (fun K hK => ?_)
          refine Kd.R_append_step (Kd.int .u32) (w0 := w1) w1.heap.size (by rfl) (.tmp 91) (.tmp 107) 140 144 (.int .u32 0) 4 rfl Tryd.underlying140 info144 rfl (by decide) (by decide) _ L _ _ (fun _ => True) (fun _ => False) rfl rfl rfl (fun _ hk => hk.elim) (fun _ _ => trivial) HW4.out HB4.out hsz (by rw [HLL.out]; omega) ?_
          intro v5 W5 ho hb hg hat
          rw [nw_wrap] at ho
          have HW5 : Aside0 (R32 W5 w1.heap.size v5 (sch b (j + 1))) := ⟨by rw [HNX.out, HNW.out]; exact ho⟩
          have HB5 := Aside0.mk hb
          clear ho hb hg hat
          refine hK.out _ _ ?_
          clear hK K
          refine norm_ (a' := ?_) ?_ ?_
          rotate_left
          · show Act.put _ (some 108) _ = _
            simp only [Act.put, List.setIfInBounds_toArray, List.set_cons_zero, List.set_cons_succ, i64_w, i32_w]
            rfl
          refine pure_ (i := 18) (N := some 6) (v := ?_) (a' := ?_) #[true, true, true, true, true, true, true, true, true, true, true, true, true, true, true, true, true, true, true] rfl rfl (any_of HT_.out (by kernel_rfl)) (fun _ _ _ h => h) (Or.inl ⟨by rfl, ?_⟩) ?_ ?_
          rotate_left
          · intro w'
            go_simp
            (try with_reducible rfl)
            (try with_reducible rfl)
          rotate_left
          · simp only [Act.put, List.setIfInBounds_toArray, List.set_cons_zero, List.set_cons_succ, i64_w, i32_w]
            rfl
          refine done_ (done_of HT_.out (by kernel_rfl)) ?_
          -- </R17>
          go_wp2
          go_roundw
          case rel => exact ⟨j + 1, by have := HHT.out; go_num, by have := HHT.out; omega, HW5, HB5⟩
          case measure => have := HHT.out; simp [intOf]; omega
        · have hje : j = 48 := by omega
          subst hje
          clear hj hlt
          obtain ⟨S, hS⟩ : ∃ S, sch b 48 = S := ⟨_, rfl⟩
          have HSL : Aside0 (S.length = 64) := ⟨by rw [← hS, sch_len]⟩
          rw [hS] at HW HBLK
          clear hS
          have HRI := Aside0.mk (C_readsK (Kd.C_below HR0.out (below_then HB1.out HB1.out.size HBk.out)))
          rw [HH.out] at HRI
          have HOL : Aside0 (wr.ownsRow wr.heap.size 144 1 (.slice none 0 0) ([] : List Int).length (nums .u32 [])) := ⟨⟨by simp [nums], .inl ⟨rfl, rfl⟩⟩⟩
          go_wp2_with (first
            | (at_builtin; refine print_append_row (w0 := wr) wr.heap.size rfl _ _ 140 144 .u32 4 rfl Tryd.underlying140 info144 (by decide) _ [] hs A0 8 c0 rfl rfl HOL.out HRI.out (Below.refl _ _) (Nat.le_refl _) (by simp) ?_; intro v13 w2 ho1 hb1 hg1 hat1; have HV6 := Aside0.mk (Kd.R_of_own (enc := Value.int .u32) (h1 := fun _ => rfl) (ok := fun _ => True) ho1 (fun _ _ => trivial)); have HW6 := Aside0.mk (Kd.R_below HW.out hb1); have HB6 := Aside0.mk (below_then HBk.out HBk.out.size hb1); clear ho1 hb1 hg1 hat1)
            | fail)
          obtain ⟨A6, c6, e6⟩ := Kd.R_slice HW6.out
          rw [HSL.out] at e6
          subst e6
          have HS6 := Aside0.mk (Kd.R_reads' HW6.out).2.2
          obtain ⟨A7, c7, e7, hc7, hC7⟩ := Kd.R_reads HV6.out
          rw [show ([] ++ hs : List Int).length = 8 from HH.out] at e7 hc7
          subst e7
          have HV7 : Aside0 (Kd.C (Kd.int .u32) w2 A7 hs.length hs) := ⟨hC7⟩
          have HB61 := HB6
          clear hC7 HV6 HW6 HBk HW HRI HOL
          go_loopw [13, 14] (fun v13 v14 wr => ∃ (t : Nat) (A : Option Addr) (c : Nat), v14 = .int .i64 t ∧ t ≤ 64 ∧ v13 = .slice A 8 c ∧ 8 ≤ c ∧ Aside0 (Kd.C (Kd.int .u32) wr A (rnds Kl S hs t).length (rnds Kl S hs t)) ∧ Aside0 (Below w2.heap.size w2 wr))
            (fun _ v14 _ => 64 - (intOf v14).toNat)
          case atStart => exact ⟨0, A7, c7, rfl, Nat.zero_le _, rfl, hc7, HV7, ⟨Below.refl _ _⟩⟩
          case round =>
            obtain ⟨t, A, cA, rfl, ht0, rfl, hcA, HC, HBr⟩ := hrel
            by_cases hlt : t < 64
            · clear hcap
              -- <ROUNDS>
              obtain ⟨V, hV⟩ : ∃ V, rnds Kl S hs t = V := ⟨_, rfl⟩
              have HVL : Aside0 (V.length = 8) := ⟨by rw [← hV]; exact rnds_len _ _ _ HH.out t⟩
              have HNX : Aside0 (rnds Kl S hs (t + 1) = rnd Kl S V t) := ⟨by rw [rnds, hV]⟩
              rw [hV] at HC
              clear hV
              have ht : (t : Int) < 64 := by omega
              obtain ⟨ad, e, c0⟩ := Kd.at_int HC.out 0 (by omega) (by rw [HVL.out]; decide)
              subst e
              obtain ⟨ad', e, c1⟩ := Kd.at_int HC.out 1 (by omega) (by rw [HVL.out]; decide)
              cases e
              obtain ⟨ad', e, c2⟩ := Kd.at_int HC.out 2 (by omega) (by rw [HVL.out]; decide)
              cases e
              obtain ⟨ad', e, c3⟩ := Kd.at_int HC.out 3 (by omega) (by rw [HVL.out]; decide)
              cases e
              obtain ⟨ad', e, c4⟩ := Kd.at_int HC.out 4 (by omega) (by rw [HVL.out]; decide)
              cases e
              obtain ⟨ad', e, c5⟩ := Kd.at_int HC.out 5 (by omega) (by rw [HVL.out]; decide)
              cases e
              obtain ⟨ad', e, c6⟩ := Kd.at_int HC.out 6 (by omega) (by rw [HVL.out]; decide)
              cases e
              obtain ⟨ad', e, c7⟩ := Kd.at_int HC.out 7 (by omega) (by rw [HVL.out]; decide)
              cases e
              rw [show ad.add (0 : Int).toNat = ad from rfl] at c0
              replace c1 : wr.cell? ⟨ad.block, ad.off + 1, none⟩ = _ := c1
              replace c2 : wr.cell? ⟨ad.block, ad.off + 2, none⟩ = _ := c2
              replace c3 : wr.cell? ⟨ad.block, ad.off + 3, none⟩ = _ := c3
              replace c4 : wr.cell? ⟨ad.block, ad.off + 4, none⟩ = _ := c4
              replace c5 : wr.cell? ⟨ad.block, ad.off + 5, none⟩ = _ := c5
              replace c6 : wr.cell? ⟨ad.block, ad.off + 6, none⟩ = _ := c6
              replace c7 : wr.cell? ⟨ad.block, ad.off + 7, none⟩ = _ := c7
              obtain ⟨adK, e, ck⟩ := Kd.at_int (Kd.C_below HK1.out (below_then HB61.out HB61.out.size HBr.out)) (t : Int) (by omega) (by rw [HKL.out]; exact ht)
              subst e
              obtain ⟨adS, e, cs⟩ := Kd.at_int (Kd.C_below HS6.out HBr.out) (t : Int) (by omega) (by rw [HSL.out]; exact ht)
              subst e
              rw [Int.toNat_natCast] at ck cs
              have HRN : Aside0 (rnd Kl S V t = [(tt1 Kl S V t + tt2 V) % 4294967296, rd V 0, rd V 1, rd V 2, (rd V 3 + tt1 Kl S V t) % 4294967296, rd V 4, rd V 5, rd V 6]) := ⟨rfl⟩
              have HT1 : Aside0 (tt1 Kl S V t = (rd V 7 + SS1 (rd V 4) + ch (rd V 4) (rd V 5) (rd V 6) + rd Kl (t : Int) + rd S (t : Int)) % 4294967296) := ⟨rfl⟩
              have HT2 : Aside0 (tt2 V = (SS0 (rd V 0) + mj (rd V 0) (rd V 1) (rd V 2)) % 4294967296) := ⟨rfl⟩
              obtain ⟨x0, hx⟩ : ∃ x, rd V 0 = x := ⟨_, rfl⟩
              rw [hx] at c0 HRN HT2
              clear hx
              obtain ⟨x1, hx⟩ : ∃ x, rd V 1 = x := ⟨_, rfl⟩
              rw [hx] at c1 HRN HT2
              clear hx
              obtain ⟨x2, hx⟩ : ∃ x, rd V 2 = x := ⟨_, rfl⟩
              rw [hx] at c2 HRN HT2
              clear hx
              obtain ⟨x3, hx⟩ : ∃ x, rd V 3 = x := ⟨_, rfl⟩
              rw [hx] at c3 HRN
              clear hx
              obtain ⟨x4, hx⟩ : ∃ x, rd V 4 = x := ⟨_, rfl⟩
              rw [hx] at c4 HRN HT1
              clear hx
              obtain ⟨x5, hx⟩ : ∃ x, rd V 5 = x := ⟨_, rfl⟩
              rw [hx] at c5 HRN HT1
              clear hx
              obtain ⟨x6, hx⟩ : ∃ x, rd V 6 = x := ⟨_, rfl⟩
              rw [hx] at c6 HRN HT1
              clear hx
              obtain ⟨x7, hx⟩ : ∃ x, rd V 7 = x := ⟨_, rfl⟩
              rw [hx] at c7 HT1
              clear hx
              obtain ⟨kt, hx⟩ : ∃ x, rd Kl (t : Int) = x := ⟨_, rfl⟩
              rw [hx] at ck HT1
              clear hx
              obtain ⟨st, hx⟩ : ∃ x, rd S (t : Int) = x := ⟨_, rfl⟩
              rw [hx] at cs HT1
              clear hx HC
              go_wp2
              go_quiet ((go_at_call 116; exact turn_quiet _ _ (by omega) (by omega) _ _))
              go_wp2
              replace c0 : (wr.drewN nq).cell? _ = _ := c0
              replace c1 : (wr.drewN nq).cell? _ = _ := c1
              replace c2 : (wr.drewN nq).cell? _ = _ := c2
              replace c3 : (wr.drewN nq).cell? _ = _ := c3
              replace c4 : (wr.drewN nq).cell? _ = _ := c4
              replace c5 : (wr.drewN nq).cell? _ = _ := c5
              replace c6 : (wr.drewN nq).cell? _ = _ := c6
              replace c7 : (wr.drewN nq).cell? _ = _ := c7
              replace ck : (wr.drewN nq).cell? _ = _ := ck
              replace cs : (wr.drewN nq).cell? _ = _ := cs
              have HBa := Aside0.mk (pw_below_drewN HBr.out nq)
              clear HBr
              generalize wr.drewN nq = W1 at c0 c1 c2 c3 c4 c5 c6 c7 ck cs HBa ⊢
              go_quiet (fail)
              go_wp2
              replace c0 : (W1.drewN nq).cell? _ = _ := c0
              replace c1 : (W1.drewN nq).cell? _ = _ := c1
              replace c2 : (W1.drewN nq).cell? _ = _ := c2
              replace c3 : (W1.drewN nq).cell? _ = _ := c3
              replace c4 : (W1.drewN nq).cell? _ = _ := c4
              replace c5 : (W1.drewN nq).cell? _ = _ := c5
              replace c6 : (W1.drewN nq).cell? _ = _ := c6
              replace c7 : (W1.drewN nq).cell? _ = _ := c7
              replace ck : (W1.drewN nq).cell? _ = _ := ck
              replace cs : (W1.drewN nq).cell? _ = _ := cs
              have HBb := Aside0.mk (pw_below_drewN HBa.out nq)
              clear HBa
              generalize W1.drewN nq = W2 at c0 c1 c2 c3 c4 c5 c6 c7 ck cs HBb ⊢
              go_quiet (fail)
              go_wp2
              replace c0 : (W2.drewN nq).cell? _ = _ := c0
              replace c1 : (W2.drewN nq).cell? _ = _ := c1
              replace c2 : (W2.drewN nq).cell? _ = _ := c2
              replace c3 : (W2.drewN nq).cell? _ = _ := c3
              replace c4 : (W2.drewN nq).cell? _ = _ := c4
              replace c5 : (W2.drewN nq).cell? _ = _ := c5
              replace c6 : (W2.drewN nq).cell? _ = _ := c6
              replace c7 : (W2.drewN nq).cell? _ = _ := c7
              replace ck : (W2.drewN nq).cell? _ = _ := ck
              replace cs : (W2.drewN nq).cell? _ = _ := cs
              have HBc := Aside0.mk (pw_below_drewN HBb.out nq)
              clear HBb
              generalize W2.drewN nq = W3 at c0 c1 c2 c3 c4 c5 c6 c7 ck cs HBc ⊢
              go_quiet ((go_at_call 116; exact turn_quiet _ _ (by omega) (by omega) _ _))
              go_wp2
              replace c0 : (W3.drewN nq).cell? _ = _ := c0
              replace c1 : (W3.drewN nq).cell? _ = _ := c1
              replace c2 : (W3.drewN nq).cell? _ = _ := c2
              replace c3 : (W3.drewN nq).cell? _ = _ := c3
              replace c4 : (W3.drewN nq).cell? _ = _ := c4
              replace c5 : (W3.drewN nq).cell? _ = _ := c5
              replace c6 : (W3.drewN nq).cell? _ = _ := c6
              replace c7 : (W3.drewN nq).cell? _ = _ := c7
              replace ck : (W3.drewN nq).cell? _ = _ := ck
              replace cs : (W3.drewN nq).cell? _ = _ := cs
              have HBd := Aside0.mk (pw_below_drewN HBc.out nq)
              clear HBc
              generalize W3.drewN nq = W4 at c0 c1 c2 c3 c4 c5 c6 c7 ck cs HBd ⊢
              go_quiet (fail)
              go_wp2
              replace c0 : (W4.drewN nq).cell? _ = _ := c0
              replace c1 : (W4.drewN nq).cell? _ = _ := c1
              replace c2 : (W4.drewN nq).cell? _ = _ := c2
              replace c3 : (W4.drewN nq).cell? _ = _ := c3
              replace c4 : (W4.drewN nq).cell? _ = _ := c4
              replace c5 : (W4.drewN nq).cell? _ = _ := c5
              replace c6 : (W4.drewN nq).cell? _ = _ := c6
              replace c7 : (W4.drewN nq).cell? _ = _ := c7
              replace ck : (W4.drewN nq).cell? _ = _ := ck
              replace cs : (W4.drewN nq).cell? _ = _ := cs
              have HBe := Aside0.mk (pw_below_drewN HBd.out nq)
              clear HBd
              generalize W4.drewN nq = W5 at c0 c1 c2 c3 c4 c5 c6 c7 ck cs HBe ⊢
              refine start_ (n := 28) (S := fun w' => w'.cell? ad = some (.int .u32 x0) ∧ w'.cell? ⟨ad.block, ad.off + 1, none⟩ = some (.int .u32 x1) ∧ w'.cell? ⟨ad.block, ad.off + 2, none⟩ = some (.int .u32 x2) ∧ w'.cell? ⟨ad.block, ad.off + 3, none⟩ = some (.int .u32 x3) ∧ w'.cell? ⟨ad.block, ad.off + 4, none⟩ = some (.int .u32 x4) ∧ w'.cell? ⟨ad.block, ad.off + 5, none⟩ = some (.int .u32 x5) ∧ w'.cell? ⟨ad.block, ad.off + 6, none⟩ = some (.int .u32 x6)) (ds := [26]) #[false, false, false, false, false, false, false, false, false, false, false, false, false, false, false, false, false, false, false, false, false, false, false, false, false, false, false, false] (by kernel_rfl) rfl rfl ⟨c0, c1, c2, c3, c4, c5, c6⟩ (fun hHeld => ?_); refine with_tabW blk29t blk29b (fun HT_ HW_ => ?_)
              have HBf := Aside0.mk HBe.out.drew
              clear HBe c0 c1 c2 c3 c4 c5 c6 c7 ck cs
              generalize W5.drew = W6' at HBf hHeld ⊢
              refine pure_ (i := 0) (N := some 203) (v := ?_) (a' := ?_) #[true, false, false, false, false, false, false, false, false, false, false, false, false, false, false, false, false, false, false, false, false, false, false, false, false, false, false, false] rfl rfl (any_of HT_.out (by kernel_rfl)) (fun _ _ _ h => h) (Or.inl ⟨by rfl, ?_⟩) ?_ ?_
              rotate_left
              · intro w'
                go_simp
                (try with_reducible rfl)
                (try with_reducible rfl)
              rotate_left
              · simp only [Act.put, List.setIfInBounds_toArray, List.set_cons_zero, List.set_cons_succ, i64_w, i32_w]
                rfl
              refine pure_ (i := 1) (N := some 204) (v := ?_) (a' := ?_) #[true, true, false, false, false, false, false, false, false, false, false, false, false, false, false, false, false, false, false, false, false, false, false, false, false, false, false, false] rfl rfl (any_of HT_.out (by kernel_rfl)) (fun _ _ _ h => h) (Or.inl ⟨by rfl, ?_⟩) ?_ ?_
              rotate_left
              · intro w'
                go_simp
                (try with_reducible rfl)
                (try with_reducible rfl)
              rotate_left
              · simp only [Act.put, List.setIfInBounds_toArray, List.set_cons_zero, List.set_cons_succ, i64_w, i32_w]
                rfl
              refine pure_ (i := 2) (N := some 205) (v := ?_) (a' := ?_) #[true, true, true, false, false, false, false, false, false, false, false, false, false, false, false, false, false, false, false, false, false, false, false, false, false, false, false, false] rfl rfl (any_of HT_.out (by kernel_rfl)) (fun _ _ _ h => h) (Or.inl ⟨by rfl, ?_⟩) ?_ ?_
              rotate_left
              · intro w'
                go_simp
                (try with_reducible rfl)
                (try with_reducible rfl)
              rotate_left
              · simp only [Act.put, List.setIfInBounds_toArray, List.set_cons_zero, List.set_cons_succ, i64_w, i32_w]
                rfl
              refine pure_ (i := 3) (N := some 206) (v := ?_) (a' := ?_) #[true, true, true, true, false, false, false, false, false, false, false, false, false, false, false, false, false, false, false, false, false, false, false, false, false, false, false, false] rfl rfl (any_of HT_.out (by kernel_rfl)) (fun _ _ _ h => h) (Or.inl ⟨by rfl, ?_⟩) ?_ ?_
              rotate_left
              · intro w'
                go_simp
                (try with_reducible rfl)
                (try with_reducible rfl)
              rotate_left
              · simp only [Act.put, List.setIfInBounds_toArray, List.set_cons_zero, List.set_cons_succ, i64_w, i32_w]
                rfl
              refine pure_ (i := 4) (N := some 207) (v := ?_) (a' := ?_) #[true, true, true, true, true, false, false, false, false, false, false, false, false, false, false, false, false, false, false, false, false, false, false, false, false, false, false, false] rfl rfl (any_of HT_.out (by kernel_rfl)) (fun _ _ _ h => h) (Or.inl ⟨by rfl, ?_⟩) ?_ ?_
              rotate_left
              · intro w'
                go_simp
                (try with_reducible rfl)
                (try with_reducible rfl)
              rotate_left
              · simp only [Act.put, List.setIfInBounds_toArray, List.set_cons_zero, List.set_cons_succ, i64_w, i32_w]
                rfl
              refine take_ (i := 5) (N := some 208) (v := ?_) (a' := ?_) #[true, true, true, true, true, true, false, false, false, false, false, false, false, false, false, false, false, false, false, false, false, false, false, false, false, false, false, false] rfl rfl (take_ofW HT_.out HW_.out (by kernel_rfl)) (fun _ _ _ h => h) (Or.inl ⟨by rfl, ?_⟩) hHeld ?_ ?_
              rotate_left
              · rintro w' ⟨s0, s1, s2, s3, s4, s5, s6⟩
                go_simp
                with_reducible rfl
              rotate_left
              · simp only [Act.put, List.setIfInBounds_toArray, List.set_cons_zero, List.set_cons_succ, i64_w, i32_w]
                rfl
              refine pure_ (i := 6) (N := some 209) (v := ?_) (a' := ?_) #[true, true, true, true, true, true, true, false, false, false, false, false, false, false, false, false, false, false, false, false, false, false, false, false, false, false, false, false] rfl rfl (any_of HT_.out (by kernel_rfl)) (fun _ _ _ h => h) (Or.inl ⟨by rfl, ?_⟩) ?_ ?_
              rotate_left
              · intro w'
                go_simp
                (try with_reducible rfl)
                (try with_reducible rfl)
              rotate_left
              · simp only [Act.put, List.setIfInBounds_toArray, List.set_cons_zero, List.set_cons_succ, i64_w, i32_w]
                rfl
              refine pure_ (i := 7) (N := some 210) (v := ?_) (a' := ?_) #[true, true, true, true, true, true, true, true, false, false, false, false, false, false, false, false, false, false, false, false, false, false, false, false, false, false, false, false] rfl rfl (any_of HT_.out (by kernel_rfl)) (fun _ _ _ h => h) (Or.inl ⟨by rfl, ?_⟩) ?_ ?_
              rotate_left
              · intro w'
                go_simp
                (try with_reducible rfl)
                (try with_reducible rfl)
              rotate_left
              · simp only [Act.put, List.setIfInBounds_toArray, List.set_cons_zero, List.set_cons_succ, i64_w, i32_w]
                rfl
              refine take_ (i := 8) (N := some 211) (v := ?_) (a' := ?_) #[true, true, true, true, true, true, true, true, true, false, false, false, false, false, false, false, false, false, false, false, false, false, false, false, false, false, false, false] rfl rfl (take_ofW HT_.out HW_.out (by kernel_rfl)) (fun _ _ _ h => h) (Or.inl ⟨by rfl, ?_⟩) hHeld ?_ ?_
              rotate_left
              · rintro w' ⟨s0, s1, s2, s3, s4, s5, s6⟩
                go_simp
                with_reducible rfl
              rotate_left
              · simp only [Act.put, List.setIfInBounds_toArray, List.set_cons_zero, List.set_cons_succ, i64_w, i32_w]
                rfl
              refine pure_ (i := 9) (N := some 212) (v := ?_) (a' := ?_) #[true, true, true, true, true, true, true, true, true, true, false, false, false, false, false, false, false, false, false, false, false, false, false, false, false, false, false, false] rfl rfl (any_of HT_.out (by kernel_rfl)) (fun _ _ _ h => h) (Or.inl ⟨by rfl, ?_⟩) ?_ ?_
              rotate_left
              · intro w'
                go_simp
                (try with_reducible rfl)
                (try with_reducible rfl)
              rotate_left
              · simp only [Act.put, List.setIfInBounds_toArray, List.set_cons_zero, List.set_cons_succ, i64_w, i32_w]
                rfl
              refine pure_ (i := 10) (N := some 213) (v := ?_) (a' := ?_) #[true, true, true, true, true, true, true, true, true, true, true, false, false, false, false, false, false, false, false, false, false, false, false, false, false, false, false, false] rfl rfl (any_of HT_.out (by kernel_rfl)) (fun _ _ _ h => h) (Or.inl ⟨by rfl, ?_⟩) ?_ ?_
              rotate_left
              · intro w'
                go_simp
                (try with_reducible rfl)
                (try with_reducible rfl)
              rotate_left
              · simp only [Act.put, List.setIfInBounds_toArray, List.set_cons_zero, List.set_cons_succ, i64_w, i32_w]
                rfl
              refine take_ (i := 11) (N := some 214) (v := ?_) (a' := ?_) #[true, true, true, true, true, true, true, true, true, true, true, true, false, false, false, false, false, false, false, false, false, false, false, false, false, false, false, false] rfl rfl (take_ofW HT_.out HW_.out (by kernel_rfl)) (fun _ _ _ h => h) (Or.inl ⟨by rfl, ?_⟩) hHeld ?_ ?_
              rotate_left
              · rintro w' ⟨s0, s1, s2, s3, s4, s5, s6⟩
                go_simp
                with_reducible rfl
              rotate_left
              · simp only [Act.put, List.setIfInBounds_toArray, List.set_cons_zero, List.set_cons_succ, i64_w, i32_w]
                rfl
              refine pure_ (i := 12) (N := some 215) (v := ?_) (a' := ?_) #[true, true, true, true, true, true, true, true, true, true, true, true, true, false, false, false, false, false, false, false, false, false, false, false, false, false, false, false] rfl rfl (any_of HT_.out (by kernel_rfl)) (fun _ _ _ h => h) (Or.inl ⟨by rfl, ?_⟩) ?_ ?_
              rotate_left
              · intro w'
                go_simp
                (try with_reducible rfl)
                (try with_reducible rfl)
              rotate_left
              · simp only [Act.put, List.setIfInBounds_toArray, List.set_cons_zero, List.set_cons_succ, i64_w, i32_w]
                rfl
              refine pure_ (i := 13) (N := some 216) (v := ?_) (a' := ?_) #[true, true, true, true, true, true, true, true, true, true, true, true, true, true, false, false, false, false, false, false, false, false, false, false, false, false, false, false] rfl rfl (any_of HT_.out (by kernel_rfl)) (fun _ _ _ h => h) (Or.inl ⟨by rfl, ?_⟩) ?_ ?_
              rotate_left
              · intro w'
                go_simp
                (try with_reducible rfl)
                (try with_reducible rfl)
              rotate_left
              · simp only [Act.put, List.setIfInBounds_toArray, List.set_cons_zero, List.set_cons_succ, i64_w, i32_w]
                rfl
              refine take_ (i := 14) (N := some 217) (v := ?_) (a' := ?_) #[true, true, true, true, true, true, true, true, true, true, true, true, true, true, true, false, false, false, false, false, false, false, false, false, false, false, false, false] rfl rfl (take_ofW HT_.out HW_.out (by kernel_rfl)) (fun _ _ _ h => h) (Or.inl ⟨by rfl, ?_⟩) hHeld ?_ ?_
              rotate_left
              · rintro w' ⟨s0, s1, s2, s3, s4, s5, s6⟩
                go_simp
                with_reducible rfl
              rotate_left
              · simp only [Act.put, List.setIfInBounds_toArray, List.set_cons_zero, List.set_cons_succ, i64_w, i32_w]
                rfl
              refine pure_ (i := 15) (N := some 218) (v := ?_) (a' := ?_) #[true, true, true, true, true, true, true, true, true, true, true, true, true, true, true, true, false, false, false, false, false, false, false, false, false, false, false, false] rfl rfl (any_of HT_.out (by kernel_rfl)) (fun _ _ _ h => h) (Or.inl ⟨by rfl, ?_⟩) ?_ ?_
              rotate_left
              · intro w'
                go_simp
                (try with_reducible rfl)
                (try with_reducible rfl)
              rotate_left
              · simp only [Act.put, List.setIfInBounds_toArray, List.set_cons_zero, List.set_cons_succ, i64_w, i32_w]
                rfl
              refine pure_ (i := 16) (N := some 219) (v := ?_) (a' := ?_) #[true, true, true, true, true, true, true, true, true, true, true, true, true, true, true, true, true, false, false, false, false, false, false, false, false, false, false, false] rfl rfl (any_of HT_.out (by kernel_rfl)) (fun _ _ _ h => h) (Or.inl ⟨by rfl, ?_⟩) ?_ ?_
              rotate_left
              · intro w'
                go_simp
                (try with_reducible rfl)
                (try with_reducible rfl)
              rotate_left
              · simp only [Act.put, List.setIfInBounds_toArray, List.set_cons_zero, List.set_cons_succ, i64_w, i32_w]
                rfl
              refine pure_ (i := 17) (N := some 220) (v := ?_) (a' := ?_) #[true, true, true, true, true, true, true, true, true, true, true, true, true, true, true, true, true, true, false, false, false, false, false, false, false, false, false, false] rfl rfl (any_of HT_.out (by kernel_rfl)) (fun _ _ _ h => h) (Or.inl ⟨by rfl, ?_⟩) ?_ ?_
              rotate_left
              · intro w'
                go_simp
                (try with_reducible rfl)
                (try with_reducible rfl)
              rotate_left
              · simp only [Act.put, List.setIfInBounds_toArray, List.set_cons_zero, List.set_cons_succ, i64_w, i32_w]
                rfl
              refine pure_ (i := 18) (N := some 221) (v := ?_) (a' := ?_) #[true, true, true, true, true, true, true, true, true, true, true, true, true, true, true, true, true, true, true, false, false, false, false, false, false, false, false, false] rfl rfl (any_of HT_.out (by kernel_rfl)) (fun _ _ _ h => h) (Or.inl ⟨by rfl, ?_⟩) ?_ ?_
              rotate_left
              · intro w'
                go_simp
                (try with_reducible rfl)
                (try with_reducible rfl)
              rotate_left
              · simp only [Act.put, List.setIfInBounds_toArray, List.set_cons_zero, List.set_cons_succ, i64_w, i32_w]
                rfl
              refine take_ (i := 19) (N := some 222) (v := ?_) (a' := ?_) #[true, true, true, true, true, true, true, true, true, true, true, true, true, true, true, true, true, true, true, true, false, false, false, false, false, false, false, false] rfl rfl (take_ofW HT_.out HW_.out (by kernel_rfl)) (fun _ _ _ h => h) (Or.inl ⟨by rfl, ?_⟩) hHeld ?_ ?_
              rotate_left
              · rintro w' ⟨s0, s1, s2, s3, s4, s5, s6⟩
                go_simp
                with_reducible rfl
              rotate_left
              · simp only [Act.put, List.setIfInBounds_toArray, List.set_cons_zero, List.set_cons_succ, i64_w, i32_w]
                rfl
              refine pure_ (i := 20) (N := some 223) (v := ?_) (a' := ?_) #[true, true, true, true, true, true, true, true, true, true, true, true, true, true, true, true, true, true, true, true, true, false, false, false, false, false, false, false] rfl rfl (any_of HT_.out (by kernel_rfl)) (fun _ _ _ h => h) (Or.inl ⟨by rfl, ?_⟩) ?_ ?_
              rotate_left
              · intro w'
                go_simp
                (try with_reducible rfl)
                (try with_reducible rfl)
              rotate_left
              · simp only [Act.put, List.setIfInBounds_toArray, List.set_cons_zero, List.set_cons_succ, i64_w, i32_w]
                rfl
              refine pure_ (i := 21) (N := some 224) (v := ?_) (a' := ?_) #[true, true, true, true, true, true, true, true, true, true, true, true, true, true, true, true, true, true, true, true, true, true, false, false, false, false, false, false] rfl rfl (any_of HT_.out (by kernel_rfl)) (fun _ _ _ h => h) (Or.inl ⟨by rfl, ?_⟩) ?_ ?_
              rotate_left
              · intro w'
                go_simp
                (try with_reducible rfl)
                (try with_reducible rfl)
              rotate_left
              · simp only [Act.put, List.setIfInBounds_toArray, List.set_cons_zero, List.set_cons_succ, i64_w, i32_w]
                rfl
              refine take_ (i := 22) (N := some 225) (v := ?_) (a' := ?_) #[true, true, true, true, true, true, true, true, true, true, true, true, true, true, true, true, true, true, true, true, true, true, true, false, false, false, false, false] rfl rfl (take_ofW HT_.out HW_.out (by kernel_rfl)) (fun _ _ _ h => h) (Or.inl ⟨by rfl, ?_⟩) hHeld ?_ ?_
              rotate_left
              · rintro w' ⟨s0, s1, s2, s3, s4, s5, s6⟩
                go_simp
                with_reducible rfl
              rotate_left
              · simp only [Act.put, List.setIfInBounds_toArray, List.set_cons_zero, List.set_cons_succ, i64_w, i32_w]
                rfl
              refine pure_ (i := 23) (N := some 226) (v := ?_) (a' := ?_) #[true, true, true, true, true, true, true, true, true, true, true, true, true, true, true, true, true, true, true, true, true, true, true, true, false, false, false, false] rfl rfl (any_of HT_.out (by kernel_rfl)) (fun _ _ _ h => h) (Or.inl ⟨by rfl, ?_⟩) ?_ ?_
              rotate_left
              · intro w'
                go_simp
                (try with_reducible rfl)
                (try with_reducible rfl)
              rotate_left
              · simp only [Act.put, List.setIfInBounds_toArray, List.set_cons_zero, List.set_cons_succ, i64_w, i32_w]
                rfl
              refine pure_ (i := 24) (N := some 227) (v := ?_) (a' := ?_) #[true, true, true, true, true, true, true, true, true, true, true, true, true, true, true, true, true, true, true, true, true, true, true, true, true, false, false, false] rfl rfl (any_of HT_.out (by kernel_rfl)) (fun _ _ _ h => h) (Or.inl ⟨by rfl, ?_⟩) ?_ ?_
              rotate_left
              · intro w'
                go_simp
                (try with_reducible rfl)
                (try with_reducible rfl)
              rotate_left
              · simp only [Act.put, List.setIfInBounds_toArray, List.set_cons_zero, List.set_cons_succ, i64_w, i32_w]
                rfl
              refine take_ (i := 25) (N := some 228) (v := ?_) (a' := ?_) #[true, true, true, true, true, true, true, true, true, true, true, true, true, true, true, true, true, true, true, true, true, true, true, true, true, true, false, false] rfl rfl (take_ofW HT_.out HW_.out (by kernel_rfl)) (fun _ _ _ h => h) (Or.inl ⟨by rfl, ?_⟩) hHeld ?_ ?_
              rotate_left
              · rintro w' ⟨s0, s1, s2, s3, s4, s5, s6⟩
                go_simp
                with_reducible rfl
              rotate_left
              · simp only [Act.put, List.setIfInBounds_toArray, List.set_cons_zero, List.set_cons_succ, i64_w, i32_w]
                rfl
              refine last_ (i := 26) (N := some 229) #[true, true, true, true, true, true, true, true, true, true, true, true, true, true, true, true, true, true, true, true, true, true, true, true, true, true, true, false] rfl rfl (one_of HT_.out (by kernel_rfl)) (by decide) (fun K hK => ?_)
              refine value_ (w1 := ?_) (v := ?_) (by rfl) rfl ?_ ?_
              rotate_left 2
              · go_simp
                constructor
                · rfl
                · rfl
              refine hK.out _ _ ?_
              clear hK K
              refine norm_ (a' := ?_) ?_ ?_
              rotate_left
              · show Act.put _ (some 229) _ = _
                simp only [Act.put, List.setIfInBounds_toArray, List.set_cons_zero, List.set_cons_succ, i64_w, i32_w]
                rfl
              refine pure_ (i := 27) (N := some 13) (v := ?_) (a' := ?_) #[true, true, true, true, true, true, true, true, true, true, true, true, true, true, true, true, true, true, true, true, true, true, true, true, true, true, true, true] rfl rfl (any_of HT_.out (by kernel_rfl)) (fun _ _ _ h => h) (Or.inl ⟨by rfl, ?_⟩) ?_ ?_
              rotate_left
              · intro w'
                go_simp
                (try with_reducible rfl)
                (try with_reducible rfl)
              rotate_left
              · simp only [Act.put, List.setIfInBounds_toArray, List.set_cons_zero, List.set_cons_succ, i64_w, i32_w]
                rfl
              refine done_ (done_of HT_.out (by kernel_rfl)) ?_
              -- </ROUNDS>
              go_wp2
              go_roundw
              case rel =>
                refine ⟨t + 1, _, 8, by go_num, by omega, rfl, Nat.le_refl _, ⟨?_⟩, ⟨below_alloc HBf.out _⟩⟩
                rw [HNX.out, HRN.out, HT1.out, HT2.out]
                exact lit8 _ _ _ _ _ _ _ _ _
              case measure => simp [intOf]; omega
            · have hte : t = 64 := by omega
              subst hte
              clear ht0 hlt
              go_wp2
              obtain ⟨V, hV⟩ : ∃ V, rnds Kl S hs 64 = V := ⟨_, rfl⟩
              have HVL : Aside0 (V.length = 8) := ⟨by rw [← hV]; exact rnds_len _ _ _ HH.out 64⟩
              rw [hV] at HC HBLK
              clear hV
              have HB3w := Aside0.mk (below_then HB61.out HB61.out.size HBr.out)
              generalize wr = w3 at *
              go_loopw [21, 22] (fun v21 v22 wr => ∃ i : Nat, v22 = .int .i64 i ∧ i ≤ 8 ∧ Aside0 (R32 wr w3.heap.size v21 (adds hs V i)) ∧ Aside0 (Below w3.heap.size w3 wr))
                (fun _ v22 _ => 8 - (intOf v22).toNat)
              case atStart => exact ⟨0, rfl, Nat.zero_le _, ⟨Kd.R_nil _ _ _ _ _⟩, ⟨Below.refl _ _⟩⟩
              case round =>
                obtain ⟨i, rfl, hi, HO, HBr⟩ := hrel
                by_cases hlt : i < 8
                · have HNX : Aside0 (adds hs V (i + 1) = adds hs V i ++ [(rd hs (i : Int) + rd V (i : Int)) % 4294967296]) := ⟨rfl⟩
                  have HAL := Aside0.mk (adds_len hs V i)
                  have hi8 : (i : Int) < 8 := by omega
                  obtain ⟨adh, e, qh⟩ := Kd.at_int (Kd.C_below HR0.out (below_then HB1.out HB1.out.size (below_then HB3w.out HB3w.out.size HBr.out))) (i : Int) (by omega) (by rw [HH.out]; exact hi8)
                  subst e
                  obtain ⟨adv, e, qv⟩ := Kd.at_int (Kd.C_below HC.out HBr.out) (i : Int) (by omega) (by rw [HVL.out]; exact hi8)
                  subst e
                  rw [Int.toNat_natCast] at qh qv
                  obtain ⟨xh, hx⟩ : ∃ x, rd hs (i : Int) = x := ⟨_, rfl⟩
                  rw [hx] at qh HNX
                  clear hx
                  obtain ⟨xv, hx⟩ : ∃ x, rd V (i : Int) = x := ⟨_, rfl⟩
                  rw [hx] at qv HNX
                  clear hx
                  go_wp2
                  -- <R34>
                  refine start_ (n := 13) (S := fun w' => w'.cell? (adh.add i) = some (.int .u32 xh) ∧ w'.cell? (adv.add i) = some (.int .u32 xv)) (ds := [10, 11]) #[false, false, false, false, false, false, false, false, false, false, false, false, false] (by kernel_rfl) rfl rfl ⟨qh, qv⟩ (fun hHeld => ?_); refine with_tabW blk34t blk34b (fun HT_ HW_ => ?_)
                  have HO2 := Aside0.mk (Kd.R_drew HO.out)
                  have HB2 := Aside0.mk HBr.out.drew
                  clear HO HBr qh qv
                  generalize wr.drew = W2 at HO2 HB2 hHeld ⊢
                  have hsz := HB2.out.size
                  refine pure_ (i := 0) (N := some 234) (v := ?_) (a' := ?_) #[true, false, false, false, false, false, false, false, false, false, false, false, false] rfl rfl (any_of HT_.out (by kernel_rfl)) (fun _ _ _ h => h) (Or.inl ⟨by rfl, ?_⟩) ?_ ?_
                  rotate_left
                  · intro w'
                    go_simp
                    (try with_reducible rfl)
                    (try with_reducible rfl)
                  rotate_left
                  · simp only [Act.put, List.setIfInBounds_toArray, List.set_cons_zero, List.set_cons_succ, i64_w, i32_w]
                    rfl
                  refine pure_ (i := 1) (N := some 235) (v := ?_) (a' := ?_) #[true, true, false, false, false, false, false, false, false, false, false, false, false] rfl rfl (any_of HT_.out (by kernel_rfl)) (fun _ _ _ h => h) (Or.inl ⟨by rfl, ?_⟩) ?_ ?_
                  rotate_left
                  · intro w'
                    go_simp
                    (try with_reducible rfl)
                    (try with_reducible rfl)
                  rotate_left
                  · simp only [Act.put, List.setIfInBounds_toArray, List.set_cons_zero, List.set_cons_succ, i64_w, i32_w]
                    rfl
                  refine pure_ (i := 2) (N := some 236) (v := ?_) (a' := ?_) #[true, true, true, false, false, false, false, false, false, false, false, false, false] rfl rfl (any_of HT_.out (by kernel_rfl)) (fun _ _ _ h => h) (Or.inl ⟨by rfl, ?_⟩) ?_ ?_
                  rotate_left
                  · intro w'
                    go_simp
                    (try with_reducible rfl)
                    (try with_reducible rfl)
                  rotate_left
                  · simp only [Act.put, List.setIfInBounds_toArray, List.set_cons_zero, List.set_cons_succ, i64_w, i32_w]
                    rfl
                  refine pure_ (i := 3) (N := some 237) (v := ?_) (a' := ?_) #[true, true, true, true, false, false, false, false, false, false, false, false, false] rfl rfl (any_of HT_.out (by kernel_rfl)) (fun _ _ _ h => h) (Or.inl ⟨by rfl, ?_⟩) ?_ ?_
                  rotate_left
                  · intro w'
                    go_simp
                    (try with_reducible rfl)
                    (try with_reducible rfl)
                  rotate_left
                  · simp only [Act.put, List.setIfInBounds_toArray, List.set_cons_zero, List.set_cons_succ, i64_w, i32_w]
                    rfl
                  refine take_ (i := 4) (N := some 238) (v := ?_) (a' := ?_) #[true, true, true, true, true, false, false, false, false, false, false, false, false] rfl rfl (take_ofW HT_.out HW_.out (by kernel_rfl)) (fun _ _ _ h => h) (Or.inl ⟨by rfl, ?_⟩) hHeld ?_ ?_
                  rotate_left
                  · rintro w' ⟨s0, s1⟩
                    go_simp
                    with_reducible rfl
                  rotate_left
                  · simp only [Act.put, List.setIfInBounds_toArray, List.set_cons_zero, List.set_cons_succ, i64_w, i32_w]
                    rfl
                  refine pure_ (i := 5) (N := some 239) (v := ?_) (a' := ?_) #[true, true, true, true, true, true, false, false, false, false, false, false, false] rfl rfl (any_of HT_.out (by kernel_rfl)) (fun _ _ _ h => h) (Or.inl ⟨by rfl, ?_⟩) ?_ ?_
                  rotate_left
                  · intro w'
                    go_simp
                    (try with_reducible rfl)
                    (try with_reducible rfl)
                  rotate_left
                  · simp only [Act.put, List.setIfInBounds_toArray, List.set_cons_zero, List.set_cons_succ, i64_w, i32_w]
                    rfl
                  refine pure_ (i := 6) (N := some 240) (v := ?_) (a' := ?_) #[true, true, true, true, true, true, true, false, false, false, false, false, false] rfl rfl (any_of HT_.out (by kernel_rfl)) (fun _ _ _ h => h) (Or.inl ⟨by rfl, ?_⟩) ?_ ?_
                  rotate_left
                  · intro w'
                    go_simp
                    (try with_reducible rfl)
                    (try with_reducible rfl)
                  rotate_left
                  · simp only [Act.put, List.setIfInBounds_toArray, List.set_cons_zero, List.set_cons_succ, i64_w, i32_w]
                    rfl
                  refine pure_ (i := 7) (N := some 241) (v := ?_) (a' := ?_) #[true, true, true, true, true, true, true, true, false, false, false, false, false] rfl rfl (any_of HT_.out (by kernel_rfl)) (fun _ _ _ h => h) (Or.inl ⟨by rfl, ?_⟩) ?_ ?_
                  rotate_left
                  · intro w'
                    go_simp
                    (try with_reducible rfl)
                    (try with_reducible rfl)
                  rotate_left
                  · simp only [Act.put, List.setIfInBounds_toArray, List.set_cons_zero, List.set_cons_succ, i64_w, i32_w]
                    rfl
                  refine take_ (i := 8) (N := some 242) (v := ?_) (a' := ?_) #[true, true, true, true, true, true, true, true, true, false, false, false, false] rfl rfl (take_ofW HT_.out HW_.out (by kernel_rfl)) (fun _ _ _ h => h) (Or.inl ⟨by rfl, ?_⟩) hHeld ?_ ?_
                  rotate_left
                  · rintro w' ⟨s0, s1⟩
                    go_simp
                    with_reducible rfl
                  rotate_left
                  · simp only [Act.put, List.setIfInBounds_toArray, List.set_cons_zero, List.set_cons_succ, i64_w, i32_w]
                    rfl
                  refine pure_ (i := 9) (N := some 243) (v := ?_) (a' := ?_) #[true, true, true, true, true, true, true, true, true, true, false, false, false] rfl rfl (any_of HT_.out (by kernel_rfl)) (fun _ _ _ h => h) (Or.inl ⟨by rfl, ?_⟩) ?_ ?_
                  rotate_left
                  · intro w'
                    go_simp
                    (try with_reducible rfl)
                    (try with_reducible rfl)
                  rotate_left
                  · simp only [Act.put, List.setIfInBounds_toArray, List.set_cons_zero, List.set_cons_succ, i64_w, i32_w]
                    rfl
                  refine last_ (i := 10) (N := some 244) #[true, true, true, true, true, true, true, true, true, true, true, false, false] rfl rfl (one_of HT_.out (by kernel_rfl)) (by decide) (fun K hK => ?_)
                  refine value_ (w1 := ?_) (v := ?_) (by rfl) rfl ?_ ?_
                  rotate_left 2
                  · go_simp
                    constructor
                    · rfl
                    · rfl
                  refine hK.out _ _ ?_
                  clear hK K
                  refine norm_ (a' := ?_) ?_ ?_
                  rotate_left
                  · show Act.put _ (some 244) _ = _
                    simp only [Act.put, List.setIfInBounds_toArray, List.set_cons_zero, List.set_cons_succ, i64_w, i32_w]
                    rfl
                  refine last_ (i := 11) (N := some 245) #[true, true, true, true, true, true, true, true, true, true, true, true, false] rfl rfl (one_of HT_.out (by kernel_rfl)) (by decide) (fun K hK => ?_)
                  refine Kd.R_append_step (Kd.int .u32) (w0 := w3) w3.heap.size (by rfl) (.tmp 234) (.tmp 244) 140 144 (.int .u32 0) 4 rfl Tryd.underlying140 info144 rfl (by decide) (by decide) _ (adds hs V i) _ _ (fun _ => True) (fun _ => False) rfl rfl rfl (fun _ hk => hk.elim) (fun _ _ => trivial) HO2.out HB2.out hsz (by rw [HAL.out]; omega) ?_
                  intro v5 W5 ho hb hg hat
                  rw [IntKind.wrap_u32] at ho
                  have HO3 : Aside0 (R32 W5 w3.heap.size v5 (adds hs V (i + 1))) := ⟨by rw [HNX.out]; exact ho⟩
                  have HB3 := Aside0.mk hb
                  clear ho hb hg hat
                  refine hK.out _ _ ?_
                  clear hK K
                  refine norm_ (a' := ?_) ?_ ?_
                  rotate_left
                  · show Act.put _ (some 245) _ = _
                    simp only [Act.put, List.setIfInBounds_toArray, List.set_cons_zero, List.set_cons_succ, i64_w, i32_w]
                    rfl
                  refine pure_ (i := 12) (N := some 21) (v := ?_) (a' := ?_) #[true, true, true, true, true, true, true, true, true, true, true, true, true] rfl rfl (any_of HT_.out (by kernel_rfl)) (fun _ _ _ h => h) (Or.inl ⟨by rfl, ?_⟩) ?_ ?_
                  rotate_left
                  · intro w'
                    go_simp
                    (try with_reducible rfl)
                    (try with_reducible rfl)
                  rotate_left
                  · simp only [Act.put, List.setIfInBounds_toArray, List.set_cons_zero, List.set_cons_succ, i64_w, i32_w]
                    rfl
                  refine done_ (done_of HT_.out (by kernel_rfl)) ?_
                  -- </R34>
                  go_wp2
                  go_roundw
                  case rel => exact ⟨i + 1, by go_num, by omega, HO3, HB3⟩
                  case measure => simp [intOf]; omega
                · have hie : i = 8 := by omega
                  subst hie
                  clear hi hlt
                  go_wp2
                  go_ret
                  exact ⟨_, rfl, by rw [HBLK.out]; exact Kd.R_lower HO.out (Nat.le_trans HB1.out.size HB3w.out.size), below_then HB1.out HB1.out.size (below_then HB3w.out HB3w.out.size HBr.out)⟩
end Go.Proofs.YteapdhfeddgjbaaDoor.Dg
