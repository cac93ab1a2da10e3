/- binom: the law of sums. -/
import Derived.Test.YtjkelnnjfpcapaaBinAD
import Derived.Test.YtjkelnnjfpcapaaNatK
namespace Go.Proofs.Ytjkelnnjfpcapaa.Num
set_option linter.unusedVariables false
set_option linter.unusedSimpArgs false
open Go.RowKit Go.Shelf Go.Proofs.Ytjkelnnjfpcapaa.Rng Go.Proofs.Ytjkelnnjfpcapaa.PNat Go.Proofs.YtjkelnnjfpcapaaW Go.Proofs.YtjkelnnjfpcapaaW.PrintWords Go.Proofs.YtjkelnnjfpcapaaW.PrintLast Go.Proofs.YtjkelnnjfpcapaaW.PrintMore

theorem bv_append : ∀ (b a : List Int), bv (a ++ b) = bv a * 256 ^ b.length + bv b
  | [], a => by simp [bv]
  | x :: b, a => by
    have h1 := bv_append b (a ++ [x])
    have h2 := bv_append b ([] ++ [x])
    rw [bv_snoc] at h1 h2
    rw [show a ++ x :: b = (a ++ [x]) ++ b from by simp, h1, show x :: b = ([] ++ [x]) ++ b from rfl, h2, List.length_append, List.nil_append, List.length_singleton, Nat.add_comm 1, Nat.pow_succ]
    have e : bv [] = 0 := rfl
    rw [e]
    grind
theorem bv_zeros : ∀ m : Nat, bv (List.replicate m 0) = 0
  | 0 => rfl
  | m + 1 => by rw [List.replicate_succ', bv_snoc, bv_zeros m]; rfl
theorem bv_full : ∀ m : Nat, bv (List.replicate m 255) + 1 = 256 ^ m
  | 0 => rfl
  | m + 1 => by
    have h := bv_full m
    rw [List.replicate_succ', bv_snoc, Nat.pow_succ]
    have e : (255 : Int).toNat = 255 := rfl
    rw [e]
    omega
/-- One more, where the last places were full. -/
theorem bv_more (a : List Int) (x : Int) (hx : 0 ≤ x) (m : Nat) : bv (a ++ [x + 1] ++ List.replicate m 0) = bv (a ++ [x] ++ List.replicate m 255) + 1 := by
  have e1 := bv_append (List.replicate m 0) (a ++ [x + 1])
  have e2 := bv_append (List.replicate m 255) (a ++ [x])
  rw [e1, e2, bv_snoc, bv_snoc, bv_zeros, List.length_replicate, List.length_replicate]
  have h := bv_full m
  rw [show (x + 1).toNat = x.toNat + 1 from by omega]
  generalize 256 ^ m = p at *
  generalize bv (List.replicate m 255) = q at *
  obtain rfl : p = q + 1 := h.symm
  grind
theorem By.replicate (m : Nat) {x : Int} (h : 0 ≤ x ∧ x < 256) : By (List.replicate m x) := fun y hy => by rw [(List.mem_replicate.1 hy).2]; exact h
theorem C_reads8 {w : World} {A : Option Addr} {xs : List Int} (h : Kd.C (Kd.int .u8) w A xs.length xs) : ReadsInt w .u8 A xs.length xs :=
  ⟨rfl, h.2.1, fun hp => by
    obtain ⟨ad, e, _⟩ := Kd.at_int h 0 (by omega) (by omega)
    subst e
    refine ⟨ad, rfl, fun j hj => ?_⟩
    obtain ⟨ad', e, hc⟩ := Kd.at_int h (j : Int) (by omega) (by omega)
    cases e
    rw [Int.toNat_natCast] at hc
    rw [hc]
    simp [rd]⟩
/-- The bytes behind so many steps of the count. -/
def inc (l : List Int) (k : Nat) : List Int := l.take k ++ List.replicate (l.length - k) 0
theorem inc_len (l : List Int) (k : Nat) (h : k ≤ l.length) : (inc l k).length = l.length := by simp [inc]; omega
theorem inc_all (l : List Int) : inc l l.length = l := by simp [inc]
theorem inc_rd (l : List Int) (k : Nat) (h : k < l.length) : rd (inc l (k + 1)) (k : Int) = rd l (k : Int) := by
  simp only [rd, inc, Int.toNat_natCast, List.getD_eq_getElem?_getD]
  rw [List.getElem?_append_left (by simp; omega), List.getElem?_take_of_lt (by omega)]
theorem inc_set (l : List Int) (k : Nat) (h : k < l.length) (x : Int) : (inc l (k + 1)).set k x = l.take k ++ [x] ++ List.replicate (l.length - (k + 1)) 0 := by
  rw [inc, take_rd l k h, List.append_assoc, List.set_append_right _ _ (by simp; omega)]
  simp [Nat.min_eq_left (Nat.le_of_lt h)]
theorem inc_zero (l : List Int) (k : Nat) (h : k < l.length) : (inc l (k + 1)).set k 0 = inc l k := by
  rw [inc_set l k h, inc, List.append_assoc, show [(0 : Int)] = List.replicate 1 0 from rfl, List.replicate_append_replicate, show 1 + (l.length - (k + 1)) = l.length - k from by omega]
/-- The last places are full. -/
def Full (l : List Int) (k : Nat) : Prop := l = l.take k ++ List.replicate (l.length - k) 255
theorem Full.all (l : List Int) : Full l l.length := by simp [Full]
theorem Full.step {l : List Int} {k : Nat} (h : k < l.length) (hf : Full l (k + 1)) (hx : rd l (k : Int) = 255) : Full l k := by
  unfold Full at hf ⊢
  rw [take_rd l k h, hx, List.append_assoc, show [(255 : Int)] = List.replicate 1 255 from rfl, List.replicate_append_replicate, show 1 + (l.length - (k + 1)) = l.length - k from by omega] at hf
  exact hf
theorem Full.more {l : List Int} (hb : By l) {k : Nat} (h : k < l.length) (hf : Full l (k + 1)) : bv ((inc l (k + 1)).set k (rd l (k : Int) + 1)) = bv l + 1 := by
  have hx := hb.rd (k : Int)
  rw [inc_set l k h, bv_more _ _ hx.1]
  congr 2
  unfold Full at hf
  rw [take_rd l k h] at hf
  exact hf.symm
theorem Full.over {l : List Int} (hf : Full l 0) (h : 0 < l.length) : bv (inc l 0) < bv l := by
  unfold Full at hf
  rw [List.take_zero, List.nil_append, Nat.sub_zero] at hf
  rw [inc, List.take_zero, List.nil_append, Nat.sub_zero, bv_zeros, hf]
  have := bv_full l.length
  have h2 : 256 ^ 1 ≤ 256 ^ l.length := Nat.pow_le_pow_right (by omega) (by omega)
  omega
theorem By.set {l : List Int} (h : By l) (k : Nat) {x : Int} (hx : 0 ≤ x ∧ x < 256) : By (l.set k x) := fun y hy => by
  rcases List.mem_or_eq_of_mem_set hy with h1 | h1
  · exact h y h1
  · rw [h1]; exact hx
theorem By.inc {l : List Int} (h : By l) (k : Nat) : By (inc l k) := fun y hy => by
  rcases List.mem_append.1 hy with h1 | h1
  · exact h y (List.mem_of_mem_take h1)
  · rw [(List.mem_replicate.1 h1).2]; decide
set_option maxHeartbeats 6400000 in
set_option maxRecDepth 100000 in
theorem bsums_no (A0 : Option Addr) (n0 c0 : Nat) (w T U : Int) (W : World) (hn : (n0 : Int) ≤ 9223372036854775807) (h : n0 = 0 ∨ 64 < n0 ∨ mayB w T U = false) :
    Calls Try.prog 10 #[.slice A0 n0 c0, .int .i64 w, .agg #[.int .i64 T, .int .i64 U]] W (Tells (.bool true) W) := by
  have HD2 : Aside0 (∀ W, Calls Try.prog 40 #[.slice A0 n0 c0, .int .i64 w, .int .i64 T, .int .i64 U] W (Tells (.tuple #[.int .i64 0, .int .i64 2]) W)) := ⟨fun W => bdraw_no A0 n0 c0 w T U W hn h⟩
  clear h
  go_enter Try.func10, Try.ntmps10
  go_wp2_with (first
    | (go_at_call 39; (with_reducible refine (bawake_calls _).mono ?_); rintro e w1 ⟨rfl, hb1⟩; have q0 := pw_cell_below hb1 (bPair W T U).1; have q1 := pw_cell_below hb1 (bPair W T U).2; have HB1 := Aside0.mk (below_step (below_alloc (Below.refl _ _) _) hb1); clear hb1)
    | (go_at_call 40; (with_reducible refine (HD2.out _).mono ?_); rintro e w2 ⟨rfl, hb2⟩; have HB2 := Aside0.mk (below_step HB1.out hb2); clear hb2)
    | fail)
  go_ret
  exact ⟨rfl, HB2.out⟩
set_option maxHeartbeats 6400000 in
set_option maxRecDepth 100000 in
theorem bsums_far (A0 : Option Addr) (n0 c0 : Nat) (l0 : List Int) (hn0 : l0.length = n0) (w : Nat) (T U : Int) (W : World) (hr0 : Kd.C (Kd.int .u8) W A0 l0.length l0) (hc0 : n0 ≤ c0) (hby : By l0) (h1 : 1 ≤ n0) (h64 : n0 ≤ 64) (h : mayB w T U = true) (hw : 200 < w) :
    Calls Try.prog 10 #[.slice A0 n0 c0, .int .i64 w, .agg #[.int .i64 T, .int .i64 U]] W (Tells (.bool true) W) := by
  have HR0 := Aside0.mk hr0
  have HN0 := Aside0.mk hn0
  have HBY := Aside0.mk hby
  have HH := Aside0.mk h
  have ew : decide ((200 : Int) < (w : Int)) = true := decide_eq_true (by omega)
  clear hr0 hby h hn0
  go_enter Try.func10, Try.ntmps10
  go_wp2_with (first
    | (go_at_call 39; (with_reducible refine (bawake_calls _).mono ?_); rintro e w1 ⟨rfl, hb1⟩; have q0 := pw_cell_below hb1 (bPair W T U).1; have q1 := pw_cell_below hb1 (bPair W T U).2; have HR1 := Aside0.mk (Kd.C_below (Kd.C_alloc HR0.out _) hb1); have HB1 := Aside0.mk (below_step (below_alloc (Below.refl _ _) _) hb1); clear hb1)
    | (go_at_call 40; (with_reducible refine (bdraw_yes A0 n0 c0 l0 HN0.out w T U _ HR1.out HBY.out h1 h64 HH.out).mono ?_); rintro e w2 ⟨j, rfl, hj, hb2⟩; have HB2 := Aside0.mk (below_step HB1.out hb2); clear hb2 hj)
    | fail)
  go_ret
  exact ⟨rfl, HB2.out⟩
theorem cmp_self (n : Nat) : cmp n n = 0 := by unfold cmp; rw [if_neg (Nat.lt_irrefl n), if_neg (Nat.lt_irrefl n)]
/-- What the law's rounds leave as it is. -/
def PB (W : World) (T U : Int) (X : World) : Prop := X.cell? ⟨W.heap.size, 0, none⟩ = some (.int .i64 T) ∧ X.cell? ⟨W.heap.size, 1, none⟩ = some (.int .i64 U)
theorem PB.below {W X Y : World} {T U : Int} (h : PB W T U X) (hb : Below X.heap.size X Y) : PB W T U Y := ⟨pw_cell_below hb h.1, pw_cell_below hb h.2⟩
set_option maxHeartbeats 12800000 in
set_option maxRecDepth 100000 in
theorem bsums_yes (A0 : Option Addr) (n0 c0 : Nat) (l0 : List Int) (hn0 : l0.length = n0) (w : Nat) (T U : Int) (W : World) (hr0 : Kd.C (Kd.int .u8) W A0 l0.length l0) (hc0 : n0 ≤ c0) (hby : By l0) (h1 : 1 ≤ n0) (h64 : n0 ≤ 64) (h : mayB w T U = true) (hw : w ≤ 200) :
    Calls Try.prog 10 #[.slice A0 n0 c0, .int .i64 w, .agg #[.int .i64 T, .int .i64 U]] W (Tells (.bool true) W) := by
  have hm : 1 ≤ T ∧ T ≤ 1048576 ∧ 1 ≤ U ∧ U ≤ T := by
    have := of_decide_eq_true h; omega
  have HR0 := Aside0.mk hr0
  have HN0 := Aside0.mk hn0
  have HBY := Aside0.mk hby
  have HH := Aside0.mk h
  have HPW := Aside0.mk (npower_may T w (by omega) (by omega))
  have ew : decide ((200 : Int) < (w : Int)) = false := decide_eq_false (by omega)
  obtain ⟨L, hL⟩ : ∃ L, L = 8 * n0 := ⟨_, rfl⟩
  have HL := Aside0.mk hL
  have hu1 : bv l0 < 2 ^ L := by
    have := bv_lt l0 hby l0.length (Nat.le_refl _)
    rw [List.take_length, hn0] at this
    rwa [hL]
  have hu2 : T.toNat ^ w < 2 ^ (20 * w + 1) := by have := all_lt T.toNat 0 w (by omega); simpa using this
  have hl3 : (nw (bv l0)).length ≤ 100000 := nw_len_le hu1 (by omega)
  have hl2 : (nw (T.toNat ^ w)).length ≤ 100000 := nw_len_le hu2 (by omega)
  have hl4 : (nw (bv l0 * T.toNat ^ w)).length ≤ 100000 := nw_len_le (mul_lt_pow hu1 hu2) (by omega)
  have hsm : ∀ i, i ≤ w + 1 → sm w U.toNat (T - U).toNat i < 2 ^ (20 * w + 1) := fun i hi => Nat.lt_of_le_of_lt (sm_le w U.toNat (T - U).toNat i hi) (all_lt U.toNat (T - U).toNat w (by omega))
  have HSM := Aside0.mk hsm
  have HSA := Aside0.mk (show sm w U.toNat (T - U).toNat (w + 1) = T.toNat ^ w from by rw [sm_all, show U.toNat + (T - U).toNat = T.toNat from by omega])
  have hLn : (8 : Int) * (n0 : Int) = (L : Int) := by omega
  have hL2 : L ≤ 512 := by omega
  clear hr0 hby h hn0 hu1 hu2 hL hsm
  go_enter Try.func10, Try.ntmps10
  go_wp2_with (first
    | (go_at_call 39; (with_reducible refine (bawake_calls _).mono ?_); rintro e w1 ⟨rfl, hb1⟩; have P1 := Aside0.mk (show PB W T U w1 from ⟨pw_cell_below hb1 (bPair W T U).1, pw_cell_below hb1 (bPair W T U).2⟩); obtain ⟨q0, q1⟩ := P1.out; have HR1 := Aside0.mk (Kd.C_below (Kd.C_alloc HR0.out _) hb1); have HB1 := Aside0.mk (below_step (below_alloc (Below.refl _ _) _) hb1); clear hb1)
    | (go_at_call 40; (with_reducible refine (bdraw_yes A0 n0 c0 l0 HN0.out w T U _ HR1.out HBY.out h1 h64 HH.out).mono ?_); rintro e w2 ⟨j, rfl, hj, hb2⟩; have P2 := Aside0.mk (P1.out.below hb2); clear q0 q1; obtain ⟨q0, q1⟩ := P2.out; have HR2 := Aside0.mk (Kd.C_below HR1.out hb2); have HB2 := Aside0.mk (below_step HB1.out hb2); have HJ := Aside0.mk hj; clear hb2 hj)
    | (go_at_call 21; (with_reducible refine (HPW.out _).mono ?_); rintro e w3 ⟨A3, c3, rfl, p1, p2, hb3⟩; have P3 := Aside0.mk (P2.out.below hb3); clear q0 q1; obtain ⟨q0, q1⟩ := P3.out; have HR3 := Aside0.mk (Kd.C_below HR2.out hb3); have HB3 := Aside0.mk (below_step HB2.out hb3); have HA3 := Aside0.mk p2; clear hb3 p2)
    | (go_at_call 13; (with_reducible refine (nof_calls A0 n0 c0 l0 HN0.out w3 HR3.out HBY.out (by omega)).mono ?_); rintro e w4 ⟨A4, c4, rfl, p3, p4, hb4⟩; have P4 := Aside0.mk (P3.out.below hb4); clear q0 q1; obtain ⟨q0, q1⟩ := P4.out; have HR4 := Aside0.mk (Kd.C_below HR3.out hb4); have HB4 := Aside0.mk (below_step HB3.out hb4); have HA4 := Aside0.mk (Kd.C_below HA3.out hb4); have HO4 := Aside0.mk p4; clear hb4 p4)
    | (go_at_call 36; (with_reducible refine (nmul_nw A4 c4 (bv l0) A3 c3 (T.toNat ^ w) w4 HO4.out HA4.out hl3 hl2 _ rfl).mono ?_); rintro e w5 ⟨A5, c5, rfl, p5, p6, hb5⟩; have P5 := Aside0.mk (P4.out.below hb5); clear q0 q1; obtain ⟨q0, q1⟩ := P5.out; have HR5 := Aside0.mk (Kd.C_below HR4.out hb5); have HB5 := Aside0.mk (below_step HB4.out hb5); have HA5 := Aside0.mk (Kd.C_below HA4.out hb5); have HW5 := Aside0.mk p6; clear hb5 p6)
    | fail)
  have hj := HJ.out.1
  clear q0 q1
  go_loopw [12, 13] (fun v12 v13 wr => ∃ (k : Nat) (As : Option Addr) (cs : Nat), v13 = .int .i64 k ∧ v12 = .slice As (nw (sm w U.toNat (T - U).toNat k)).length cs ∧ k ≤ w + 1 ∧ (nw (sm w U.toNat (T - U).toNat k)).length ≤ cs ∧ Aside0 (Kd.C (Kd.int .u64) wr As (nw (sm w U.toNat (T - U).toNat k)).length (nw (sm w U.toNat (T - U).toNat k))) ∧ Aside0 (PB W T U wr) ∧ Aside0 (Kd.C (Kd.int .u8) wr A0 l0.length l0) ∧ Aside0 (Kd.C (Kd.int .u64) wr A3 (nw (T.toNat ^ w)).length (nw (T.toNat ^ w))) ∧ Aside0 (Kd.C (Kd.int .u64) wr A5 (nw (bv l0 * T.toNat ^ w)).length (nw (bv l0 * T.toNat ^ w))) ∧ Aside0 (Below W.heap.size W wr))
    (fun _ v13 _ => w + 1 - (intOf v13).toNat)
  case atStart => exact ⟨0, none, 0, rfl, by rw [sm, nw_zero]; rfl, by omega, by rw [sm, nw_zero]; simp, ⟨by rw [sm, nw_zero]; exact Kd.C_nil _ _⟩, P5, HR5, HA5, HW5, HB5⟩
  case round =>
    clear P1 P2 P3 P4 P5 HR0 HR1 HR2 HR3 HR4 HR5 HB1 HB2 HB3 HB4 HB5 HA3 HA4 HA5 HO4 HW5
    obtain ⟨k, As, cs, rfl, rfl, hk, hls, HS, HP, HR, HA, HW, HB⟩ := hrel
    obtain ⟨q0, q1⟩ := HP.out
    by_cases hlt : k ≤ w
    · have ll1 : (nw (sm w U.toNat (T - U).toNat k)).length ≤ 1400 := nw_len_le (HSM.out k (by omega)) (by omega)
      have ll2 : (nw (sm w U.toNat (T - U).toNat (k + 1))).length ≤ 1400 := nw_len_le (HSM.out (k + 1) (by omega)) (by omega)
      have ll3 : (nw (tm w k U.toNat (T - U).toNat)).length ≤ 1400 := Nat.le_trans (tm_len w k U.toNat (T - U).toNat (by omega) (by omega)) (by omega)
      have ll4 : (nw (sm w U.toNat (T - U).toNat (k + 1) * 2 ^ L)).length ≤ 100000 := nw_len_le (k := (20 * w + 1) + (L + 1)) (mul_lt_pow (HSM.out (k + 1) (by omega)) (Nat.pow_lt_pow_right (by omega) (by omega))) (by omega)
      have hcb : decide (cmp (bv l0 * T.toNat ^ w) (sm w U.toNat (T - U).toNat (k + 1) * 2 ^ L) < 0) = decide (j ≤ k) := by
        rw [decide_eq_decide, cmp_neg, HL.out, HJ.out.iff]
      obtain ⟨cv, hcv⟩ : ∃ cv, cmp (bv l0 * T.toNat ^ w) (sm w U.toNat (T - U).toNat (k + 1) * 2 ^ L) = cv := ⟨_, rfl⟩
      rw [hcv] at hcb
      have HCV := Aside0.mk hcv
      clear hcv
      have key : ∃ b, decide (cv < 0) = b ∧ decide (j ≤ k) = b := ⟨_, hcb, rfl⟩
      obtain ⟨b, hb1, hb2⟩ := key
      clear hcb
      cases b
      all_goals
       go_wp2_with (first
        | (go_at_call 43; (with_reducible refine (bterm_yes w k T U wr HH.out hlt).mono ?_); rintro e x1 ⟨B1, d1, rfl, r1, r2, hb1'⟩; have HT1 := Aside0.mk r2; have HS1 := Aside0.mk (Kd.C_below HS.out hb1'); have HP1 := Aside0.mk (HP.out.below hb1'); have HR1 := Aside0.mk (Kd.C_below HR.out hb1'); have HA1 := Aside0.mk (Kd.C_below HA.out hb1'); have HW1 := Aside0.mk (Kd.C_below HW.out hb1'); have HBB1 := Aside0.mk (below_step HB.out hb1'); clear r2 hb1' q0 q1)
        | (go_at_call 28; (with_reducible refine (nadd_nw As cs (sm w U.toNat (T - U).toNat k) B1 d1 (tm w k U.toNat (T - U).toNat) x1 HS1.out HT1.out (by omega) (by omega) (sm w U.toNat (T - U).toNat (k + 1)) rfl).mono ?_); rintro e x2 ⟨B2, d2, rfl, r3, r4, hb2'⟩; have HS2 := Aside0.mk r4; have HP2 := Aside0.mk (HP1.out.below hb2'); have HR2 := Aside0.mk (Kd.C_below HR1.out hb2'); have HA2 := Aside0.mk (Kd.C_below HA1.out hb2'); have HW2 := Aside0.mk (Kd.C_below HW1.out hb2'); have HBB2 := Aside0.mk (below_step HBB1.out hb2'); clear r4 hb2')
        | (go_at_call 20; (with_reducible refine (nleft_nw B2 d2 (sm w U.toNat (T - U).toNat (k + 1)) L (by omega) x2 HS2.out r3 ll2).mono ?_); rintro e x3 ⟨B3, d3, rfl, r5, r6, hb3'⟩; have HU3 := Aside0.mk r6; have HS3 := Aside0.mk (Kd.C_below HS2.out hb3'); have HP3 := Aside0.mk (HP2.out.below hb3'); have HR3 := Aside0.mk (Kd.C_below HR2.out hb3'); have HA3 := Aside0.mk (Kd.C_below HA2.out hb3'); have HW3 := Aside0.mk (Kd.C_below HW2.out hb3'); have HBB3 := Aside0.mk (below_step HBB2.out hb3'); clear r6 hb3')
        | (go_at_call 30; (with_reducible refine (ncmp_nw A5 c5 (bv l0 * T.toNat ^ w) B3 d3 (sm w U.toNat (T - U).toNat (k + 1) * 2 ^ L) x3 HW3.out HU3.out hl4 ll4).mono ?_); rw [HCV.out]; rintro e x4 ⟨rfl, rfl⟩)
        | fail)
       refine ⟨⟨k + 1, B2, d2, by congr 1, rfl, by omega, r3, HS3, HP3, HR3, HA3, HW3, HBB3⟩, ?_⟩
       simp [intOf] <;> omega
    · obtain rfl : k = w + 1 := by omega
      rw [HSA.out] at HS hls ⊢
      have ejn : decide ((j : Int) < 0) = false := decide_eq_false (by omega)
      have ejw : decide ((w : Int) < (j : Int)) = false := decide_eq_false (by omega)
      have hlq : ¬ ((w + 1 : Nat) : Int) ≤ (w : Int) := by omega
      have HRI := Aside0.mk (C_reads8 (Kd.C_alloc HR.out (.cells #[] 5)))
      have HOL : Aside0 ((wr.alloc (.cells #[] 5)).ownsRow wr.heap.size 5 1 (.slice (some ⟨wr.heap.size, 0, none⟩) 0 0) ([] : List Int).length (nums .u8 [])) := ⟨own_lit wr wr.heap.size 5 .u8 [] (Nat.le_refl _) (by simp)⟩
      have HBa := Aside0.mk (below_alloc (Below.refl wr.heap.size wr) (.cells #[] 5))
      have hn0' := HN0.out
      have hsz := HB.out.size
      go_wp2_with (first
        | (go_at_call 30; (with_reducible refine (ncmp_nw As cs (T.toNat ^ w) A3 c3 (T.toNat ^ w) wr HS.out HA.out hl2 hl2).mono ?_); rw [cmp_self]; rintro e x4 ⟨rfl, rfl⟩)
        | (at_builtin; refine print_append_row (w0 := wr) wr.heap.size rfl _ _ 22 5 .u8 1 rfl Try.underlying22 info5 (by decide) (.slice (some ⟨wr.heap.size, 0, none⟩) 0 0) [] l0 A0 n0 c0 rfl rfl HOL.out (by rw [hn0'] at HRI; exact HRI.out) HBa.out (by simp) (by simp; omega) ?_; intro v1 x1 ho1 hb1 hg1 hat1; rw [List.nil_append] at ho1; obtain ⟨g, cap, rfl, hgb, hgl⟩ := ho1.form (by omega); have HO1 := Aside0.mk ho1; have HB1 := Aside0.mk hb1; clear ho1 hb1 hg1 hat1 hn0')
        | fail)
      have HP1 := Aside0.mk (HP.out.below HB1.out)
      have HR1 := Aside0.mk (Kd.C_below HR.out HB1.out)
      clear q0 q1 HRI HOL HBa HS HA HW hls ejn ejw hlq
      rw [HN0.out] at HO1 ⊢
      have hn00 := HN0.out
      clear hn00
      obtain ⟨wo, rfl⟩ : ∃ wo : World, wo = wr := ⟨_, rfl⟩
      have HLI : Aside0 (l0 = inc l0 n0) := ⟨by rw [← HN0.out]; exact (inc_all l0).symm⟩
      go_loopw [19] (fun v19 wx => ∃ k : Nat, v19 = .int .i64 ((k : Int) - 1) ∧ k ≤ n0 ∧ Aside0 (wx.ownsRow wo.heap.size 5 1 (.slice (some ⟨g, 0, none⟩) n0 cap) n0 (nums .u8 (inc l0 k))) ∧ Aside0 (Below wo.heap.size wo wx) ∧ Aside0 (Full l0 k))
        (fun v19 _ => (intOf v19 + 1).toNat)
      case atStart => exact ⟨n0, by rw [w64 _ (by omega) (by omega)], Nat.le_refl _, ⟨by rw [← HLI.out]; exact HO1.out⟩, HB1, ⟨by rw [← HN0.out]; exact Full.all l0⟩⟩
      case round =>
        obtain ⟨k, rfl, hk2, HO, HBx, HF⟩ := hrel
        clear HO1 HB1 HP1 HR1
        by_cases hk : k = 0
        · subst hk
          have HCS : Aside0 (bv (inc l0 0) < bv l0) := ⟨HF.out.over (by have := HN0.out; omega)⟩
          have HML : Aside0 ((inc l0 0).length = n0) := ⟨by rw [inc_len _ _ (Nat.zero_le _)]; exact HN0.out⟩
          have HMB : Aside0 (By (inc l0 0)) := ⟨HBY.out.inc 0⟩
          have HOM := HO
          have HBM := HBx
          generalize inc l0 0 = M at *
          have HMC : Aside0 (Kd.C (Kd.int .u8) wr (some ⟨g, 0, none⟩) M.length M) := ⟨(Kd.R_reads' (Kd.R_of_own (enc := Value.int .u8) (h1 := fun _ => rfl) (ok := fun _ => True) (by rw [HML.out]; exact HOM.out : wr.ownsRow wo.heap.size 5 1 (.slice (some ⟨g, 0, none⟩) n0 cap) M.length (nums .u8 M)) (fun _ _ => trivial))).2.2⟩
          have HPM := Aside0.mk (HP.out.below HBM.out)
          have HRM := Aside0.mk (Kd.C_below HR.out HBM.out)
          have HBBM := Aside0.mk (below_step HB.out HBM.out)
          have hml : (nw (bv M)).length ≤ 100000 := nw_len_le (k := 8 * n0) (by have := bv_lt M HMB.out M.length (Nat.le_refl _); rw [List.take_length, HML.out] at this; exact this) (by omega)
          have hdl : (dg (bv M)).length ≤ 1000000 := dg_len_bits _ (8 * n0) (by have := bv_lt M HMB.out M.length (Nat.le_refl _); rw [List.take_length, HML.out] at this; exact this) _ (by omega)
          have hnc : n0 ≤ cap := (Kd.R_reads' (Kd.R_of_own (enc := Value.int .u8) (h1 := fun _ => rfl) (ok := fun _ => True) (by rw [HML.out]; exact HOM.out : wr.ownsRow wo.heap.size 5 1 (.slice (some ⟨g, 0, none⟩) n0 cap) M.length (nums .u8 M)) (fun _ _ => trivial))).2.1
          have HCV : Aside0 (cmp (bv M) (bv l0) = -1) := ⟨by unfold cmp; rw [if_pos HCS.out]⟩
          go_wp2_with (first
            | (go_at_call 13; (with_reducible refine (nof_calls (some ⟨g, 0, none⟩) n0 cap M HML.out _ HMC.out HMB.out (by omega)).mono ?_); rintro e w6 ⟨A6, c6, rfl, p5, p6, hb6⟩; have HP6 := Aside0.mk (HPM.out.below hb6); have HR6 := Aside0.mk (Kd.C_below HRM.out hb6); have HM6 := Aside0.mk (Kd.C_below HMC.out hb6); have HB6 := Aside0.mk (below_step HBBM.out hb6); have HX6 := Aside0.mk p6; clear hb6 p6)
            | (go_at_call 13; (with_reducible refine (nof_calls A0 n0 c0 l0 HN0.out w6 HR6.out HBY.out (by omega)).mono ?_); rintro e w7 ⟨A7, c7, rfl, p7, p8, hb7⟩; have HP7 := Aside0.mk (HP6.out.below hb7); have HR7 := Aside0.mk (Kd.C_below HR6.out hb7); have HM7 := Aside0.mk (Kd.C_below HM6.out hb7); have HB7 := Aside0.mk (below_step HB6.out hb7); have HX7 := Aside0.mk (Kd.C_below HX6.out hb7); have HZ7 := Aside0.mk p8; obtain ⟨q0, q1⟩ := HP7.out; clear hb7 p8)
            | (go_at_call 30; (with_reducible refine (ncmp_nw A6 c6 (bv M) A7 c7 (bv l0) w7 HX7.out HZ7.out hml hl3).mono ?_); rw [HCV.out]; rintro e x4 ⟨rfl, rfl⟩)
            | fail)
          go_ret
          exact ⟨rfl, HB7.out⟩
        · obtain ⟨m, rfl⟩ : ∃ m, k = m + 1 := ⟨k - 1, by omega⟩
          have hm0 : m < l0.length := by have := HN0.out; omega
          obtain ⟨hcl, hfz⟩ := own_at HO.out (m : Int) (by omega) (by omega)
          rw [Int.toNat_natCast, inc_rd l0 m hm0] at hcl
          rw [Int.toNat_natCast] at hfz
          obtain ⟨x, hx⟩ : ∃ x, rd l0 (m : Int) = x := ⟨_, rfl⟩
          have hxr := HBY.out.rd (m : Int)
          rw [hx] at hcl hxr
          have HX := Aside0.mk hx
          have HM0 := Aside0.mk hm0
          clear hx hm0
          rw [show ((m + 1 : Nat) : Int) - 1 = (m : Int) from by omega]
          by_cases h255 : x = 255
          · subst h255
            have hst := own_store HO.out (m : Int) 0
            rw [Int.toNat_natCast, inc_zero l0 m HM0.out] at hst
            have HST := Aside0.mk hst.1
            clear hst
            go_wp2
            refine ⟨⟨m, rfl, by omega, HST, ⟨HBx.out.setCell hgb _⟩, ⟨HF.out.step HM0.out HX.out⟩⟩, ?_⟩
            simp [intOf] <;> omega
          · have hst := own_store HO.out (m : Int) (x + 1)
            rw [Int.toNat_natCast] at hst
            have hcase := HF.out.more HBY.out HM0.out
            rw [HX.out] at hcase
            have HC := Aside0.mk hcase
            have HST := Aside0.mk hst.1
            have hx1 : ((x + 1) == 0) = false := by simp; omega
            clear hst hcase
            have HCS := HC
            have HML : Aside0 (((inc l0 (m + 1)).set m (x + 1)).length = n0) := ⟨by rw [List.length_set, inc_len _ _ (by have := HN0.out; omega)]; exact HN0.out⟩
            have HMB : Aside0 (By ((inc l0 (m + 1)).set m (x + 1))) := ⟨(HBY.out.inc _).set _ (by omega)⟩
            have HOM := HST
            clear HST HC
            generalize (inc l0 (m + 1)).set m (x + 1) = M at *
            have HBM : Aside0 (Below wo.heap.size wo (wr.setCell ⟨g, m, none⟩ (.int .u8 (x + 1)))) := ⟨HBx.out.setCell hgb _⟩
            have HMC : Aside0 (Kd.C (Kd.int .u8) (wr.setCell ⟨g, m, none⟩ (.int .u8 (x + 1))) (some ⟨g, 0, none⟩) M.length M) := ⟨(Kd.R_reads' (Kd.R_of_own (enc := Value.int .u8) (h1 := fun _ => rfl) (ok := fun _ => True) (by rw [HML.out]; exact HOM.out : (wr.setCell ⟨g, m, none⟩ (.int .u8 (x + 1))).ownsRow wo.heap.size 5 1 (.slice (some ⟨g, 0, none⟩) n0 cap) M.length (nums .u8 M)) (fun _ _ => trivial))).2.2⟩
            have HPM := Aside0.mk (HP.out.below HBM.out)
            have HRM := Aside0.mk (Kd.C_below HR.out HBM.out)
            have HBBM := Aside0.mk (below_step HB.out HBM.out)
            have hml : (nw (bv M)).length ≤ 100000 := nw_len_le (k := 8 * n0) (by have := bv_lt M HMB.out M.length (Nat.le_refl _); rw [List.take_length, HML.out] at this; exact this) (by omega)
            have hdl : (dg (bv M)).length ≤ 1000000 := dg_len_bits _ (8 * n0) (by have := bv_lt M HMB.out M.length (Nat.le_refl _); rw [List.take_length, HML.out] at this; exact this) _ (by omega)
            have hnc : n0 ≤ cap := (Kd.R_reads' (Kd.R_of_own (enc := Value.int .u8) (h1 := fun _ => rfl) (ok := fun _ => True) (by rw [HML.out]; exact HOM.out : (wr.setCell ⟨g, m, none⟩ (.int .u8 (x + 1))).ownsRow wo.heap.size 5 1 (.slice (some ⟨g, 0, none⟩) n0 cap) M.length (nums .u8 M)) (fun _ _ => trivial))).2.1
            have HCV : Aside0 (cmp (bv M) (bv l0) = 1) := ⟨by unfold cmp; rw [if_neg (by have := HCS.out; omega), if_pos (by have := HCS.out; omega)]⟩
            go_wp2_with (first
              | (go_at_call 13; (with_reducible refine (nof_calls (some ⟨g, 0, none⟩) n0 cap M HML.out _ HMC.out HMB.out (by omega)).mono ?_); rintro e w6 ⟨A6, c6, rfl, p5, p6, hb6⟩; have HP6 := Aside0.mk (HPM.out.below hb6); have HR6 := Aside0.mk (Kd.C_below HRM.out hb6); have HM6 := Aside0.mk (Kd.C_below HMC.out hb6); have HB6 := Aside0.mk (below_step HBBM.out hb6); have HX6 := Aside0.mk p6; clear hb6 p6)
              | (go_at_call 13; (with_reducible refine (nof_calls A0 n0 c0 l0 HN0.out w6 HR6.out HBY.out (by omega)).mono ?_); rintro e w7 ⟨A7, c7, rfl, p7, p8, hb7⟩; have HP7 := Aside0.mk (HP6.out.below hb7); have HR7 := Aside0.mk (Kd.C_below HR6.out hb7); have HM7 := Aside0.mk (Kd.C_below HM6.out hb7); have HB7 := Aside0.mk (below_step HB6.out hb7); have HX7 := Aside0.mk (Kd.C_below HX6.out hb7); have HZ7 := Aside0.mk p8; obtain ⟨q0, q1⟩ := HP7.out; clear hb7 p8)
              | (go_at_call 30; (with_reducible refine (ncmp_nw A6 c6 (bv M) A7 c7 (bv l0) w7 HX7.out HZ7.out hml hl3).mono ?_); rw [HCV.out]; rintro e x4 ⟨rfl, rfl⟩)
              | (go_at_call 40; (with_reducible refine (bdraw_yes (some ⟨g, 0, none⟩) n0 cap M HML.out w T U w7 HM7.out HMB.out h1 h64 HH.out).mono ?_); rintro e w8 ⟨j2, rfl, hj2, hb8⟩; have hjj : j ≤ j2 := HJ.out.mono hj2 (Nat.mul_le_mul_right _ (by have := HCS.out; omega)); have HR8 := Aside0.mk (Kd.C_below HR7.out hb8); have HM8 := Aside0.mk (Kd.C_below HM7.out hb8); have HB8 := Aside0.mk (below_step HB7.out hb8); clear hb8 hj2 q0 q1)
              | (go_at_call 15; (with_reducible refine (big_calls (some ⟨g, 0, none⟩) n0 cap M HML.out w8 HM8.out hnc HMB.out (by omega)).mono ?_); rintro e w9 ⟨A9, c9, rfl, p9, p10, hb9⟩; have HR9 := Aside0.mk (Kd.C_below HR8.out hb9); have HB9 := Aside0.mk (below_step HB8.out hb9); have HX9 := Aside0.mk p10; clear hb9 p10)
              | (go_at_call 15; (with_reducible refine (big_calls A0 n0 c0 l0 HN0.out w9 HR9.out hc0 HBY.out (by omega)).mono ?_); rintro e w10 ⟨A10, c10, rfl, p11, p12, hb10⟩; have HB10 := Aside0.mk (below_step HB9.out hb10); have HX10 := Aside0.mk (Kd.C_below HX9.out hb10); have HZ10 := Aside0.mk p12; clear hb10 p12)
              | (go_at_call 26; (with_reducible refine (rcmp_calls A9 _ c9 (bv M) rfl A10 _ c10 (bv l0) rfl w10 HX10.out p9 HZ10.out p11 hdl).mono ?_); rw [HCV.out]; rintro e w11 ⟨rfl, hb11⟩; have HB11 := Aside0.mk (below_step HB10.out hb11); clear hb11)
              | fail)
            go_ret
            exact ⟨rfl, HB11.out⟩
/-- The law of sums, as its row asks it. -/
theorem binomSums_walk (a0 : Option Addr) (len0 cap0 : Nat) (z0 : List Int) (x a b : Int) (w : World) (w0 : (a0 = none ∧ len0 = 0 ∧ cap0 = 0 ∧ z0 = []) ∨ ∃ x, a0 = some x ∧ len0 ≤ cap0 ∧ cap0 ≤ maxLen ∧ z0.length = cap0 ∧ (∀ i, i < z0.length → w.cell? (x.add i) = some (.int .u8 (z0.getD i 0))) ∧ ∀ n ∈ z0, (Lit.int .u8 n).wf = true) (y0 : len0 * 1 ≤ 140737488351232) (w1 : (Lit.int .i64 x).wf = true) (w2 : (Lit.int .i64 a).wf = true) (wb2 : (Lit.int .i64 b).wf = true) :
    Calls Try.prog 10 #[.slice a0 len0 cap0, .int .i64 x, .agg #[.int .i64 a, .int .i64 b]] w fun e w' => e = .returned (.bool true) ∧ Below w.heap.size w w' := by
  obtain ⟨l0, rfl, hr0, hm0, hw0, hc0⟩ := ReadsInt.ofRowC w0
  by_cases h : l0.length = 0 ∨ 64 < l0.length ∨ mayB x a b = false
  · exact bsums_no a0 _ cap0 x a b w (by omega) h
  · have hm : mayB x a b = true := by
      cases e : mayB x a b
      · exact absurd (.inr (.inr e)) h
      · rfl
    have hx := of_decide_eq_true hm
    obtain ⟨n, rfl⟩ : ∃ n : Nat, x = (n : Int) := ⟨x.toNat, by omega⟩
    have h1 : ¬ l0.length = 0 := fun e => h (.inl e)
    have h2 : ¬ 64 < l0.length := fun e => h (.inr (.inl e))
    by_cases hf : 200 < n
    · exact bsums_far a0 _ cap0 l0 rfl n a b w (Kd.C_of_reads (d := (0 : Int)) (h1 := fun _ => rfl) hr0) hc0 (fun x hx => wf_u8 (hw0 x hx)) (by omega) (by omega) hm hf
    · exact bsums_yes a0 _ cap0 l0 rfl n a b w (Kd.C_of_reads (d := (0 : Int)) (h1 := fun _ => rfl) hr0) hc0 (fun x hx => wf_u8 (hw0 x hx)) (by omega) (by omega) hm (by omega)
end Go.Proofs.Ytjkelnnjfpcapaa.Num
