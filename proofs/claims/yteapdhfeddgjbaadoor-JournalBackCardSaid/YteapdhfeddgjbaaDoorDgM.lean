/- journal: the iterator of whole frames. -/
import Derived.Test.YteapdhfeddgjbaaDoorDgL
import Derived.Test.YteapdhfeddgjbaaDoorRng
import Derived.Shelf.Abstract
import Derived.Shelf.RegionOpen
import Derived.OwnWalkIn
import Derived.TacticsInMore
import Derived.LoopNIn
import Derived.LoopIn
import Derived.BigRegionIn
import Derived.Stop.RegionWithIn
namespace Go.Proofs.YteapdhfeddgjbaaDoor.Dg
set_option linter.unusedVariables false
set_option linter.unusedSimpArgs false
open Go.RowKit Go.Shelf Go.Proofs.YteapdhfeddgjbaaDoor.Rng Go.Proofs.YteapdhfeddgjbaaDoor.PDb Go.Proofs.YteapdhfeddgjbaaDoorW Go.Proofs.YteapdhfeddgjbaaDoorW.PrintWords Go.Proofs.YteapdhfeddgjbaaDoorW.PrintLast Go.Proofs.YteapdhfeddgjbaaDoorW.PrintMore
attribute [local go_sem] Oper.semAt_some

/-- What a round is handed: where the frame ends, and its record. -/
abbrev Fl := Nat × Option Addr × List Int × Nat
def fencs (x : Fl) : Array Value := #[.int .i64 (x.1 : Int), .slice x.2.1 x.2.2.1.length x.2.2.2]
def fkey (x : Fl) : Nat × List Int := (x.1, x.2.2.1)
def FZ (b : List Int) (pre : List Fl) (x : Fl) (W : World) : Prop :=
  (∃ rest, frames b = pre.map fkey ++ fkey x :: rest) ∧ x.2.2.1.length ≤ x.2.2.2 ∧ Kd.C (Kd.int .u8) W x.2.1 x.2.2.1.length x.2.2.1
/-- What a round keeps. -/
def FKp (base g : Nat) (W W' : World) : Prop := Below base W W' ∧ (∀ v, W.cell? ⟨g, 0, none⟩ = some v → W'.cell? ⟨g, 0, none⟩ = some v)
theorem C_partA {k : IntKind} {W : World} {ad : Addr} {l : List Int} (h : Kd.C (Kd.int k) W (some ad) l.length l) (i m : Nat) (him : i + m ≤ l.length) : Kd.C (Kd.int k) W (some (ad.add i)) ((l.drop i).take m).length ((l.drop i).take m) := C_part h i m him
theorem cell_i {k : IntKind} {W : World} {ad : Addr} {l : List Int} (h : Kd.C (Kd.int k) W (some ad) l.length l) (i : Nat) (hi : i < l.length) : W.cell? (ad.add i) = some (.int k (rd l (i : Int))) := by
  obtain ⟨ad', e, hc⟩ := Kd.at_int h (i : Int) (by omega) (by omega)
  cases e
  simpa using hc
theorem cast_a12 (a q : Nat) : ((a + (12 + q) : Nat) : Int) = (a : Int) + (12 + (q : Int)) := by omega
theorem wrap_12 (q : Nat) (h : q ≤ 900000) : wrap64 (12 + (q : Int)) = 12 + (q : Int) := IntWalk.wrap64_in _ (by omega)
theorem wrap_a12 (a q : Nat) (h : a + (12 + q) ≤ 900000) : wrap64 ((a : Int) + (12 + (q : Int))) = (a : Int) + (12 + (q : Int)) := IntWalk.wrap64_in _ (by omega)
theorem meas_a12 {N a q : Nat} (h : a + (12 + q) ≤ N) : N - (a + (12 + q)) < N - (intOf (.int .i64 (a : Int))).toNat := by simp [intOf]; omega
set_option maxHeartbeats 6400000 in
set_option maxRecDepth 100000 in
theorem frames_seq (n : Nat) (hn : 2 ≤ n) (wb w0 : World) (g N c : Nat) (A : Option Addr) (b : List Int) (hN : b.length = N) (hb : Bt b) (hN1 : N ≤ 900000) (hc : N ≤ c) (hC : Kd.C (Kd.int .u8) wb A b.length b) (hK : Tab wb 2 KK) (hB : Below wb.heap.size wb w0) (hg : w0.cell? ⟨g, 0, none⟩ = some (.slice A N c)) :
    SeqZ Fence.wide n Tryd.prog 89 #[.pointer (some ⟨g, 0, none⟩)] fencs (FKp wb.heap.size g) (FZ b) (fun xs => xs.map fkey = frames b) (fun _ => True) w0 := by
  intro l J Jx W hW hJ hJx hY h0
  have HN1 : Aside0 (1 ≤ n) := ⟨Nat.le_of_succ_le hn⟩
  have hgW : W.cell? ⟨g, 0, none⟩ = some (.slice A N c) := pw_cell_below hW hg
  have HBW : Aside0 (Below wb.heap.size wb W) := ⟨below_then hB hB.size hW⟩
  have HJ := Aside0.mk hJ
  have HJx := Aside0.mk hJx
  have HY := Aside0.mk hY
  have H0 := Aside0.mk h0
  have HC := Aside0.mk hC
  have HK := Aside0.mk hK
  have HN := Aside0.mk hN
  have HBT := Aside0.mk hb
  have HG := Aside0.mk hgW
  clear hJ hJx hY h0 hC hK hB hW hg hgW hN hb
  refine callsIn_of_wp Tryd.func89 rfl trivial ?_ rfl
  simp only [Tryd.ntmps89, List.size_toArray, List.length_cons, List.length_nil, Nat.reduceAdd, Nat.reduceSub, Array.replicate_succ, Array.replicate_zero, List.push_toArray, List.append_toArray, List.nil_append, List.cons_append]
  gi_wp2_with fail
  gi_loopw [3, 4, 5, 6] (fun v3 v4 v5 v6 wr => ∃ (a k : Nat) (pre : List Fl), v3 = .int .i64 (a : Int) ∧ a ≤ N ∧ N - a < k ∧ Aside0 (frames b = pre.map fkey ++ fra b k a) ∧ Aside0 (J pre wr) ∧ Aside0 (Below wb.heap.size wb wr) ∧ Aside0 (wr.cell? ⟨g, 0, none⟩ = some (.slice A N c)))
    (fun v3 _ _ _ _ => N - (intOf v3).toNat)
  case atStart => exact ⟨0, N + 1, [], rfl, Nat.zero_le _, by omega, ⟨by have h := HN.out; subst h; rfl⟩, H0, HBW, HG⟩
  case round =>
    obtain ⟨a, k, pre, rfl, ha, hk, HF, HJp, HBr, HGr⟩ := hrel
    have hcell := HGr.out
    by_cases h12 : a + 12 ≤ N
    · have hd : ¬ ((N : Int) - (a : Int) < 12) := by omega
      have hd' : (12 : Int) ≤ (N : Int) - (a : Int) := by omega
      have hw : wrap64 ((N : Int) - (a : Int)) = (N : Int) - (a : Int) := IntWalk.wrap64_in _ (by omega)
      obtain ⟨ad, rfl⟩ := C_some HC.out (by have := HN.out; omega)
      gi_wp2_with fail
      obtain ⟨f, hf⟩ : ∃ f, b.drop a = f := ⟨_, rfl⟩
      obtain ⟨fa, hfa⟩ : ∃ x, ad.add a = x := ⟨_, rfl⟩
      obtain ⟨m, hm⟩ : ∃ m, N - a = m := ⟨_, rfl⟩
      obtain ⟨cf, hcf⟩ : ∃ m, c - a = m := ⟨_, rfl⟩
      have hfl : f.length = m := by rw [← hf, List.length_drop, HN.out]; exact hm
      have hCf : Kd.C (Kd.int .u8) wb (some fa) f.length f := by
        rw [← hf, ← hfa]; exact C_whole HC.out a (by have := HN.out; omega)
      have hbf : Bt f := by rw [← hf]; exact HBT.out.drop a
      have hm12 : 12 ≤ m := by omega
      have hcm : m ≤ cf := by omega
      have HFL := Aside0.mk hfl
      have HCF := Aside0.mk hCf
      have HBF := Aside0.mk hbf
      have HF1 := Aside0.mk hf
      have HFA := Aside0.mk hfa
      have HMM := Aside0.mk hm
      have HCM := Aside0.mk hcf
      have hCr := Kd.C_below hCf HBr.out
      have k0 := cell_i hCr 0 (by omega)
      have k1 := cell_i hCr 1 (by omega)
      have k2 := cell_i hCr 2 (by omega)
      have k3 := cell_i hCr 3 (by omega)
      rw [ad_add0] at k0
      rw [hfa, hm, hcf]
      have r0 := hbf.rd ((0 : Nat) : Int)
      have r1 := hbf.rd ((1 : Nat) : Int)
      have r2 := hbf.rd ((2 : Nat) : Int)
      have r3 := hbf.rd ((3 : Nat) : Int)
      have HH : Aside0 (((hdN f : Nat) : Int) = rd f ((0 : Nat) : Int) * 16777216 + rd f ((1 : Nat) : Int) * 65536 + rd f ((2 : Nat) : Int) * 256 + rd f ((3 : Nat) : Int)) := ⟨by
        unfold hdN
        have e0 : rd f ((0 : Nat) : Int) = rd f 0 := rfl
        have e1 : rd f ((1 : Nat) : Int) = rd f 1 := rfl
        have e2 : rd f ((2 : Nat) : Int) = rd f 2 := rfl
        have e3 : rd f ((3 : Nat) : Int) = rd f 3 := rfl
        rw [e0] at r0
        rw [e1] at r1
        rw [e2] at r2
        rw [e3] at r3
        rw [e0, e1, e2, e3]
        omega⟩
      obtain ⟨x0, hx0⟩ : ∃ x, rd f ((0 : Nat) : Int) = x := ⟨_, rfl⟩
      obtain ⟨x1, hx1⟩ : ∃ x, rd f ((1 : Nat) : Int) = x := ⟨_, rfl⟩
      obtain ⟨x2, hx2⟩ : ∃ x, rd f ((2 : Nat) : Int) = x := ⟨_, rfl⟩
      obtain ⟨x3, hx3⟩ : ∃ x, rd f ((3 : Nat) : Int) = x := ⟨_, rfl⟩
      rw [hx0] at k0 r0 HH
      rw [hx1] at k1 r1 HH
      rw [hx2] at k2 r2 HH
      rw [hx3] at k3 r3 HH
      have o1 := or24 x0 x1 r0 r1
      have o2 := or16 x0 x1 x2 r0 r1 r2
      have o3 := or8b x0 x1 x2 x3 r0 r1 r2 r3
      rw [← HH.out] at o3
      have hq := bt4 hbf
      obtain ⟨q, hq2⟩ : ∃ q, hdN f = q := ⟨_, rfl⟩
      rw [hq2] at o3 hq
      have HQ := Aside0.mk hq2
      clear hx0 hx1 hx2 hx3 hf hfa hm hcf hfl hCf hbf hCr HH hq2 hd hd' hw hcell
      simp [Addr.add] at k1 k2 k3
      have hmN : m ≤ 900000 := by have := HMM.out; omega
      by_cases hbad : 16777216 < q ∨ m < q + 12
      · have HNX : Aside0 (nxt f = none) := ⟨by
          unfold nxt
          rw [if_neg]
          rintro ⟨-, h1, h2, -⟩
          rw [HQ.out] at h1 h2
          rw [HFL.out] at h2
          omega⟩
        have HEND : Aside0 (pre.map fkey = frames b) := ⟨by rw [HF.out, fra_none (by rw [HF1.out]; exact HNX.out), List.append_nil]⟩
        have HJ2 := Aside0.mk (HJ.out pre wr wr.drew none HJp.out (grown_of_below (below_drew (Below.refl _ _)) none) (fun r e => by cases e))
        rcases hbad with h1 | h1
        · have hd1 : (16777216 : Int) < (q : Int) := by omega
          clear h1
          gi_region
          gi_wp2_with fail
          refine bodyPost_ret (results_none rfl _ _ _) rfl ?_
          exact ⟨⟨_, rfl⟩, .inl ⟨pre, HEND.out, HJ2.out⟩⟩
        · by_cases hd0 : (16777216 : Int) < (q : Int)
          · clear h1
            gi_region
            gi_wp2_with fail
            refine bodyPost_ret (results_none rfl _ _ _) rfl ?_
            exact ⟨⟨_, rfl⟩, .inl ⟨pre, HEND.out, HJ2.out⟩⟩
          · have hd1 : (m : Int) - 12 < (q : Int) := by omega
            have hw1 : wrap64 ((m : Int) - 12) = (m : Int) - 12 := IntWalk.wrap64_in _ (by omega)
            clear h1
            gi_region
            gi_wp2_with fail
            refine bodyPost_ret (results_none rfl _ _ _) rfl ?_
            exact ⟨⟨_, rfl⟩, .inl ⟨pre, HEND.out, HJ2.out⟩⟩
      · have hd0 : ¬ ((16777216 : Int) < (q : Int)) := by omega
        have hd1 : ¬ ((m : Int) - 12 < (q : Int)) := by omega
        have hw1 : wrap64 ((m : Int) - 12) = (m : Int) - 12 := IntWalk.wrap64_in _ (by omega)
        have hqm : q + 12 ≤ m := by omega
        have hb1 : (12 : Int) + (q : Int) ≤ (cf : Int) := by omega
        have hb2 : (0 : Int) ≤ 12 + (q : Int) := by omega
        have hb3 : (12 : Int) ≤ 12 + (q : Int) := by omega
        have hb4 : ((12 : Int) + (q : Int)).toNat = 12 + q := by omega
        clear hbad
        obtain ⟨R, hR⟩ : ∃ R, (f.drop 12).take q = R := ⟨_, rfl⟩
        have HRD := Aside0.mk hR
        have HRL : Aside0 (R.length = q) := ⟨by rw [← hR, List.length_take, List.length_drop, HFL.out]; omega⟩
        have HRB : Aside0 (Bt R) := ⟨by rw [← hR]; exact (HBF.out.drop 12).take q⟩
        have HF4 : Aside0 ((f.take 4).length = 4) := ⟨by rw [List.length_take, HFL.out]; omega⟩
        have HF8 : Aside0 (((f.drop 4).take 8).length = 8) := ⟨by rw [List.length_take, List.length_drop, HFL.out]; omega⟩
        have HC4 : Aside0 (Kd.C (Kd.int .u8) wb (some fa) (f.take 4).length (f.take 4)) := ⟨C_head HCF.out 4 (by rw [HFL.out]; omega)⟩
        have HC8 : Aside0 (Kd.C (Kd.int .u8) wb (some ⟨fa.block, fa.off + 4, none⟩) ((f.drop 4).take 8).length ((f.drop 4).take 8)) := ⟨by have h := C_part HCF.out 4 8 (by rw [HFL.out]; omega); simpa [Addr.add] using h⟩
        have HCR : Aside0 (Kd.C (Kd.int .u8) wb (some ⟨fa.block, fa.off + 12, none⟩) R.length R) := ⟨by have h := C_part HCF.out 12 q (by rw [HFL.out]; omega); rw [hR] at h; simpa [Addr.add] using h⟩
        clear hR
        by_cases h12c : cf = 12
        · subst h12c
          have hm : m = 12 := by omega
          have hq0 : q = 0 := by omega
          have hR0 : R = [] := List.eq_nil_of_length_eq_zero (by have := HRL.out; omega)
          have HRC : Aside0 (Kd.C (Kd.int .u8) wb (some fa) R.length R) := ⟨by rw [hR0]; have h := C_head HCF.out 0 (Nat.zero_le _); rw [List.take_zero] at h; exact h⟩
          have hrcq : q ≤ 0 := by omega
          clear hm hq0 hR0
          have HCK : Aside0 (∀ W', Below wb.heap.size wb W' → Calls Tryd.prog 47 #[.slice (some fa) 4 12, .slice (some fa) q 0] W' fun e w' => ∃ A c, e = .returned (.slice A 8 c) ∧ 8 ≤ c ∧ Kd.C (Kd.int .u8) w' A (chk (f.take 4) R).length (chk (f.take 4) R) ∧ Below W'.heap.size W' w') :=
            ⟨fun W' hb => check_calls (some fa) 4 12 (f.take 4) (some fa) q 0 R HF4.out HRL.out (by omega) (by omega) (by omega) (by omega) (HBF.out.take 4) HRB.out W' (Kd.C_below HC4.out hb) (Kd.C_below HRC.out hb) (HK.out.below hb)⟩
          have HEQ : Aside0 (∀ W' A c, 8 ≤ c → Below wb.heap.size wb W' → Kd.C (Kd.int .u8) W' A (chk (f.take 4) R).length (chk (f.take 4) R) → Calls Tryd.prog 57 #[.slice (some ⟨fa.block, fa.off + 4, none⟩) 8 (12 - 4), .slice A 8 c] W' fun e w' => e = .returned (.bool (decide ((f.drop 4).take 8 = chk (f.take 4) R))) ∧ Below W'.heap.size W' w') :=
            ⟨fun W' A c h8 hb hA => equal_calls _ 8 _ ((f.drop 4).take 8) A 8 c (chk (f.take 4) R) HF8.out (chk_len _ _) W' (Kd.C_below HC8.out hb) (by omega) hA h8 ((HBF.out.drop 4).take 8) ((sha_Bt _).take 8)⟩
          have hs4 : 12 - 4 = 12 - 4 := rfl
          obtain ⟨rc0, hrc0⟩ : ∃ x, 0 = x := ⟨_, rfl⟩
          have HRQ := Aside0.mk hrcq
          have HQ9 : Aside0 (q ≤ 900000) := ⟨by omega⟩
          have HA9 : Aside0 (a + (12 + q) ≤ 900000) := ⟨by have := HMM.out; omega⟩
          have HA9N : Aside0 (a + (12 + q) ≤ N) := ⟨by have := HMM.out; omega⟩
          have HKK : Aside0 (N - (a + (12 + q)) < k - 1) := ⟨by have := HMM.out; omega⟩
          by_cases hch : (f.drop 4).take 8 = chk (f.take 4) R
          · rw [decide_eq_true hch] at HEQ
            have HNX : Aside0 (nxt f = some q) := ⟨by
              unfold nxt
              rw [if_pos ⟨by rw [HFL.out]; exact hm12, by rw [HQ.out]; omega, by rw [HQ.out, HFL.out]; exact hqm, by rw [HQ.out, HRD.out]; exact hch⟩, HQ.out]⟩
            clear hch hrc0 hs4
            have hz4 : (4 : Int) ≤ (12 : Int) := by omega
            have hz12 : (12 : Int) ≤ (12 : Int) := by omega
            have hz5 : ¬ 12 = 4 := by omega
            gi_region
            gi_wp2_with fail
            gi_region_with (first
              | (refine ⟨trivial, fun _ => by omega, ?_⟩; gi_at_call 47; (with_reducible refine (callsIn_wide.2 (HCK.out _ (below_drew (below_drew HBr.out)))).mono ?_); rintro e w2 ⟨A2, c2, rfl, h8, hA2, hb2⟩; have H8 := Aside0.mk h8; have HA2 := Aside0.mk hA2; have HB2 := Aside0.mk (below_then (below_drew (below_drew HBr.out)) (below_drew (below_drew HBr.out)).size hb2); have HS2 := Aside0.mk (below_then (below_drew (below_drew (Below.refl wr.heap.size wr))) (below_drew (below_drew (Below.refl wr.heap.size wr))).size hb2); clear h8 hA2 hb2)
              | (refine ⟨trivial, fun _ => by omega, ?_⟩; gi_at_call 57; (with_reducible refine (callsIn_wide.2 (HEQ.out w2 A2 c2 H8.out HB2.out HA2.out)).mono ?_); rintro e w3 ⟨rfl, hb3⟩; have HB3 := Aside0.mk (below_then HB2.out HB2.out.size hb3); have HS3 := Aside0.mk (below_then HS2.out HS2.out.size hb3); clear hb3)
              | fail)
            have HJ3 := Aside0.mk (HJ.out pre wr w3 none HJp.out (grown_of_below HS3.out none) (fun r e => by cases e))
            have hgl := World.block_lt_of_cell? _ _ HGr.out
            have HG3 := Aside0.mk ((HS3.out.cell (p := ⟨g, 0, none⟩) hgl).trans HGr.out)
            have HX : Aside0 (frames b = pre.map fkey ++ (a + (12 + q), R) :: fra b (k - 1) (a + (12 + q))) := ⟨by
              rw [HF.out, show k = (k - 1) + 1 from by omega, fra_some (n := q) (by rw [HF1.out]; exact HNX.out), HF1.out, HRD.out]; rfl⟩
            obtain ⟨fn, tmps, assign, body, hy, hRo⟩ := HY.out pre (a + (12 + q), some fa, R, 0) w3 HJ3.out ⟨⟨_, HX.out⟩, by rw [HRL.out]; exact HRQ.out, Kd.C_below HRC.out HB3.out⟩
            dsimp only [fencs] at hy
            rw [HRL.out, cast_a12] at hy
            have HRR := Aside0.mk hRo
            have hw2 := wrap_12 q HQ9.out
            have hw3 := wrap_a12 a q HA9.out
            have hmr : N - (a + (12 + q)) < N - (intOf (.int .i64 (a : Int))).toNat := meas_a12 HA9N.out
            have HMR := Aside0.mk hmr
            clear hRo hmr
            refine (‹∀ (a : Act) (w_1 : World), Code.wpIn _ _ _ _ _ a w_1 → _› _ _ ?_)
            clear hd0 hd1 hw1 hqm hb1 hb2 hb3 hb4 o1 o2 o3 r0 r1 r2 r3 k0 k1 k2 k3 hq hz4 hz12 hz5 hrcq hmN hm12 h12 hN1
            gi_wp2_with fail
            refine ⟨fun _ => HN1.out, HRR.out.mono ?_⟩
            clear HRR hy
            rintro e w4 (⟨rfl, hJ2, hk2⟩ | ⟨rfl, hJx2⟩)
            · have HJ4 := Aside0.mk hJ2
              have HB4 := Aside0.mk (HB3.out.trans hk2.1)
              have HG4 := Aside0.mk (hk2.2 _ HG3.out)
              clear hk2 hJ2
              gi_wp2_with fail
              refine ⟨⟨a + (12 + q), k - 1, pre ++ [_], rfl, HA9N.out, HKK.out, ⟨by rw [HX.out, List.map_append, List.append_assoc]; rfl⟩, HJ4, HB4, HG4⟩, ?_⟩
              exact HMR.out
            · gi_wp2_with fail
              refine bodyPost_ret (results_none rfl _ _ _) rfl ?_
              exact ⟨⟨_, rfl⟩, .inr ⟨_, trivial, hJx2⟩⟩
          · rw [decide_eq_false hch] at HEQ
            have HNX : Aside0 (nxt f = none) := ⟨by
              unfold nxt
              rw [if_neg]
              rintro ⟨-, -, -, h1⟩
              rw [HQ.out, HRD.out] at h1
              exact hch h1⟩
            have HEND : Aside0 (pre.map fkey = frames b) := ⟨by rw [HF.out, fra_none (by rw [HF1.out]; exact HNX.out), List.append_nil]⟩
            clear hch hrc0 hs4
            have hz4 : (4 : Int) ≤ (12 : Int) := by omega
            have hz12 : (12 : Int) ≤ (12 : Int) := by omega
            have hz5 : ¬ 12 = 4 := by omega
            gi_region
            gi_wp2_with fail
            gi_region_with (first
              | (refine ⟨trivial, fun _ => by omega, ?_⟩; gi_at_call 47; (with_reducible refine (callsIn_wide.2 (HCK.out _ (below_drew (below_drew HBr.out)))).mono ?_); rintro e w2 ⟨A2, c2, rfl, h8, hA2, hb2⟩; have H8 := Aside0.mk h8; have HA2 := Aside0.mk hA2; have HB2 := Aside0.mk (below_then (below_drew (below_drew HBr.out)) (below_drew (below_drew HBr.out)).size hb2); have HS2 := Aside0.mk (below_then (below_drew (below_drew (Below.refl wr.heap.size wr))) (below_drew (below_drew (Below.refl wr.heap.size wr))).size hb2); clear h8 hA2 hb2)
              | (refine ⟨trivial, fun _ => by omega, ?_⟩; gi_at_call 57; (with_reducible refine (callsIn_wide.2 (HEQ.out w2 A2 c2 H8.out HB2.out HA2.out)).mono ?_); rintro e w3 ⟨rfl, hb3⟩; have HB3 := Aside0.mk (below_then HB2.out HB2.out.size hb3); have HS3 := Aside0.mk (below_then HS2.out HS2.out.size hb3); clear hb3)
              | fail)
            have HJ3 := Aside0.mk (HJ.out pre wr w3 none HJp.out (grown_of_below HS3.out none) (fun r e => by cases e))
            refine (‹∀ (a : Act) (w_1 : World), Code.wpIn _ _ _ _ _ a w_1 → _› _ _ ?_)
            gi_wp2_with fail
            refine bodyPost_ret (results_none rfl _ _ _) rfl ?_
            exact ⟨⟨_, rfl⟩, .inl ⟨pre, HEND.out, HJ3.out⟩⟩
        · have HRC : Aside0 (Kd.C (Kd.int .u8) wb (some ⟨fa.block, fa.off + 12, none⟩) R.length R) := ⟨HCR.out⟩
          have HCK : Aside0 (∀ W', Below wb.heap.size wb W' → Calls Tryd.prog 47 #[.slice (some fa) 4 cf, .slice (some ⟨fa.block, fa.off + 12, none⟩) q (cf - 12)] W' fun e w' => ∃ A c, e = .returned (.slice A 8 c) ∧ 8 ≤ c ∧ Kd.C (Kd.int .u8) w' A (chk (f.take 4) R).length (chk (f.take 4) R) ∧ Below W'.heap.size W' w') :=
            ⟨fun W' hb => check_calls (some fa) 4 cf (f.take 4) (some ⟨fa.block, fa.off + 12, none⟩) q (cf - 12) R HF4.out HRL.out (by omega) (by omega) (by omega) (by omega) (HBF.out.take 4) HRB.out W' (Kd.C_below HC4.out hb) (Kd.C_below HRC.out hb) (HK.out.below hb)⟩
          have HEQ : Aside0 (∀ W' A c, 8 ≤ c → Below wb.heap.size wb W' → Kd.C (Kd.int .u8) W' A (chk (f.take 4) R).length (chk (f.take 4) R) → Calls Tryd.prog 57 #[.slice (some ⟨fa.block, fa.off + 4, none⟩) 8 (cf - 4), .slice A 8 c] W' fun e w' => e = .returned (.bool (decide ((f.drop 4).take 8 = chk (f.take 4) R))) ∧ Below W'.heap.size W' w') :=
            ⟨fun W' A c h8 hb hA => equal_calls _ 8 _ ((f.drop 4).take 8) A 8 c (chk (f.take 4) R) HF8.out (chk_len _ _) W' (Kd.C_below HC8.out hb) (by omega) hA h8 ((HBF.out.drop 4).take 8) ((sha_Bt _).take 8)⟩
          have hs4 : cf - 4 = cf - 4 := rfl
          obtain ⟨rc0, hrc0⟩ : ∃ x, (cf - 12) = x := ⟨_, rfl⟩
          have hrcq : q ≤ (cf - 12) := by omega
          have HRQ := Aside0.mk hrcq
          have HQ9 : Aside0 (q ≤ 900000) := ⟨by omega⟩
          have HA9 : Aside0 (a + (12 + q) ≤ 900000) := ⟨by have := HMM.out; omega⟩
          have HA9N : Aside0 (a + (12 + q) ≤ N) := ⟨by have := HMM.out; omega⟩
          have HKK : Aside0 (N - (a + (12 + q)) < k - 1) := ⟨by have := HMM.out; omega⟩
          by_cases hch : (f.drop 4).take 8 = chk (f.take 4) R
          · rw [decide_eq_true hch] at HEQ
            have HNX : Aside0 (nxt f = some q) := ⟨by
              unfold nxt
              rw [if_pos ⟨by rw [HFL.out]; exact hm12, by rw [HQ.out]; omega, by rw [HQ.out, HFL.out]; exact hqm, by rw [HQ.out, HRD.out]; exact hch⟩, HQ.out]⟩
            clear hch hrc0 hs4
            have hz4 : (4 : Int) ≤ (cf : Int) := by omega
            have hz12 : (12 : Int) ≤ (cf : Int) := by omega
            have hz5 : ¬ cf = 4 := by omega
            gi_region
            gi_wp2_with fail
            gi_region_with (first
              | (refine ⟨trivial, fun _ => by omega, ?_⟩; gi_at_call 47; (with_reducible refine (callsIn_wide.2 (HCK.out _ (below_drew (below_drew HBr.out)))).mono ?_); rintro e w2 ⟨A2, c2, rfl, h8, hA2, hb2⟩; have H8 := Aside0.mk h8; have HA2 := Aside0.mk hA2; have HB2 := Aside0.mk (below_then (below_drew (below_drew HBr.out)) (below_drew (below_drew HBr.out)).size hb2); have HS2 := Aside0.mk (below_then (below_drew (below_drew (Below.refl wr.heap.size wr))) (below_drew (below_drew (Below.refl wr.heap.size wr))).size hb2); clear h8 hA2 hb2)
              | (refine ⟨trivial, fun _ => by omega, ?_⟩; gi_at_call 57; (with_reducible refine (callsIn_wide.2 (HEQ.out w2 A2 c2 H8.out HB2.out HA2.out)).mono ?_); rintro e w3 ⟨rfl, hb3⟩; have HB3 := Aside0.mk (below_then HB2.out HB2.out.size hb3); have HS3 := Aside0.mk (below_then HS2.out HS2.out.size hb3); clear hb3)
              | fail)
            have HJ3 := Aside0.mk (HJ.out pre wr w3 none HJp.out (grown_of_below HS3.out none) (fun r e => by cases e))
            have hgl := World.block_lt_of_cell? _ _ HGr.out
            have HG3 := Aside0.mk ((HS3.out.cell (p := ⟨g, 0, none⟩) hgl).trans HGr.out)
            have HX : Aside0 (frames b = pre.map fkey ++ (a + (12 + q), R) :: fra b (k - 1) (a + (12 + q))) := ⟨by
              rw [HF.out, show k = (k - 1) + 1 from by omega, fra_some (n := q) (by rw [HF1.out]; exact HNX.out), HF1.out, HRD.out]; rfl⟩
            obtain ⟨fn, tmps, assign, body, hy, hRo⟩ := HY.out pre (a + (12 + q), some ⟨fa.block, fa.off + 12, none⟩, R, (cf - 12)) w3 HJ3.out ⟨⟨_, HX.out⟩, by rw [HRL.out]; exact HRQ.out, Kd.C_below HRC.out HB3.out⟩
            dsimp only [fencs] at hy
            rw [HRL.out, cast_a12] at hy
            have HRR := Aside0.mk hRo
            have hw2 := wrap_12 q HQ9.out
            have hw3 := wrap_a12 a q HA9.out
            have hmr : N - (a + (12 + q)) < N - (intOf (.int .i64 (a : Int))).toNat := meas_a12 HA9N.out
            have HMR := Aside0.mk hmr
            clear hRo hmr
            refine (‹∀ (a : Act) (w_1 : World), Code.wpIn _ _ _ _ _ a w_1 → _› _ _ ?_)
            clear hd0 hd1 hw1 hqm hb1 hb2 hb3 hb4 o1 o2 o3 r0 r1 r2 r3 k0 k1 k2 k3 hq hz4 hz12 hz5 hrcq hmN hm12 h12 hN1
            gi_wp2_with fail
            refine ⟨fun _ => HN1.out, HRR.out.mono ?_⟩
            clear HRR hy
            rintro e w4 (⟨rfl, hJ2, hk2⟩ | ⟨rfl, hJx2⟩)
            · have HJ4 := Aside0.mk hJ2
              have HB4 := Aside0.mk (HB3.out.trans hk2.1)
              have HG4 := Aside0.mk (hk2.2 _ HG3.out)
              clear hk2 hJ2
              gi_wp2_with fail
              refine ⟨⟨a + (12 + q), k - 1, pre ++ [_], rfl, HA9N.out, HKK.out, ⟨by rw [HX.out, List.map_append, List.append_assoc]; rfl⟩, HJ4, HB4, HG4⟩, ?_⟩
              exact HMR.out
            · gi_wp2_with fail
              refine bodyPost_ret (results_none rfl _ _ _) rfl ?_
              exact ⟨⟨_, rfl⟩, .inr ⟨_, trivial, hJx2⟩⟩
          · rw [decide_eq_false hch] at HEQ
            have HNX : Aside0 (nxt f = none) := ⟨by
              unfold nxt
              rw [if_neg]
              rintro ⟨-, -, -, h1⟩
              rw [HQ.out, HRD.out] at h1
              exact hch h1⟩
            have HEND : Aside0 (pre.map fkey = frames b) := ⟨by rw [HF.out, fra_none (by rw [HF1.out]; exact HNX.out), List.append_nil]⟩
            clear hch hrc0 hs4
            have hz4 : (4 : Int) ≤ (cf : Int) := by omega
            have hz12 : (12 : Int) ≤ (cf : Int) := by omega
            have hz5 : ¬ cf = 4 := by omega
            gi_region
            gi_wp2_with fail
            gi_region_with (first
              | (refine ⟨trivial, fun _ => by omega, ?_⟩; gi_at_call 47; (with_reducible refine (callsIn_wide.2 (HCK.out _ (below_drew (below_drew HBr.out)))).mono ?_); rintro e w2 ⟨A2, c2, rfl, h8, hA2, hb2⟩; have H8 := Aside0.mk h8; have HA2 := Aside0.mk hA2; have HB2 := Aside0.mk (below_then (below_drew (below_drew HBr.out)) (below_drew (below_drew HBr.out)).size hb2); have HS2 := Aside0.mk (below_then (below_drew (below_drew (Below.refl wr.heap.size wr))) (below_drew (below_drew (Below.refl wr.heap.size wr))).size hb2); clear h8 hA2 hb2)
              | (refine ⟨trivial, fun _ => by omega, ?_⟩; gi_at_call 57; (with_reducible refine (callsIn_wide.2 (HEQ.out w2 A2 c2 H8.out HB2.out HA2.out)).mono ?_); rintro e w3 ⟨rfl, hb3⟩; have HB3 := Aside0.mk (below_then HB2.out HB2.out.size hb3); have HS3 := Aside0.mk (below_then HS2.out HS2.out.size hb3); clear hb3)
              | fail)
            have HJ3 := Aside0.mk (HJ.out pre wr w3 none HJp.out (grown_of_below HS3.out none) (fun r e => by cases e))
            refine (‹∀ (a : Act) (w_1 : World), Code.wpIn _ _ _ _ _ a w_1 → _› _ _ ?_)
            gi_wp2_with fail
            refine bodyPost_ret (results_none rfl _ _ _) rfl ?_
            exact ⟨⟨_, rfl⟩, .inl ⟨pre, HEND.out, HJ3.out⟩⟩
    · have HNX : Aside0 (nxt (b.drop a) = none) := ⟨by
        unfold nxt
        rw [if_neg]
        rintro ⟨h1, -⟩
        rw [List.length_drop, HN.out] at h1
        omega⟩
      have HEND : Aside0 (pre.map fkey = frames b) := ⟨by rw [HF.out, fra_none HNX.out, List.append_nil]⟩
      have hd : (N : Int) - (a : Int) < 12 := by omega
      have hw : wrap64 ((N : Int) - (a : Int)) = (N : Int) - (a : Int) := IntWalk.wrap64_in _ (by omega)
      gi_wp2_with fail
      go_end0
      exact ⟨⟨_, rfl⟩, .inl ⟨pre, HEND.out, HJp.out⟩⟩
end Go.Proofs.YteapdhfeddgjbaaDoor.Dg
