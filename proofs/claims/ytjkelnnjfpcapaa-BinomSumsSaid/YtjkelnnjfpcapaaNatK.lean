/- nat: the law of sums. -/
import Derived.Test.YtjkelnnjfpcapaaNatJ
namespace Go.Proofs.Ytjkelnnjfpcapaa.Num
open Go.RowKit Go.Shelf Go.Proofs.Ytjkelnnjfpcapaa.PNat Go.Proofs.YtjkelnnjfpcapaaW Go.Proofs.YtjkelnnjfpcapaaW.PrintWords Go.Proofs.YtjkelnnjfpcapaaW.PrintLast Go.Proofs.YtjkelnnjfpcapaaW.PrintMore

theorem rcmp_calls (A0 : Option Addr) (n0 c0 : Nat) (m : Nat) (hn0 : (dg m).length = n0) (A1 : Option Addr) (n1 c1 : Nat) (n : Nat) (hn1 : (dg n).length = n1) (w : World) (hr0 : Kd.C (Kd.int .i64) w A0 (dg m).length (dg m)) (hc0 : n0 ≤ c0) (hr1 : Kd.C (Kd.int .i64) w A1 (dg n).length (dg n)) (hc1 : n1 ≤ c1) (hl : n0 ≤ 1000000) :
    Calls Try.prog 26 #[.slice A0 n0 c0, .slice A1 n1 c1] w (Tells (.int .i64 (cmp m n)) w) := by
  subst hn0 hn1
  obtain ⟨K, hK⟩ := cmp_ev m n hl
  exact (cleromancyref01_Cmp.calls K A0 c0 _ A1 c1 _ _ w hr0 hc0 hr1 hc1 (hK K (Nat.le_refl _))).mono fun e w' h => ⟨h.1, h.2.below⟩
theorem rsub_calls (A0 : Option Addr) (n0 c0 : Nat) (m : Nat) (hn0 : (dg m).length = n0) (A1 : Option Addr) (n1 c1 : Nat) (n : Nat) (hn1 : (dg n).length = n1) (hle : n ≤ m) (w : World) (hr0 : Kd.C (Kd.int .i64) w A0 (dg m).length (dg m)) (hc0 : n0 ≤ c0) (hr1 : Kd.C (Kd.int .i64) w A1 (dg n).length (dg n)) (hc1 : n1 ≤ c1) (hl : n0 ≤ 1000000) :
    Calls Try.prog 27 #[.slice A0 n0 c0, .slice A1 n1 c1] w (Got .i64 w (dg (m - n))) := by
  subst hn0 hn1
  obtain ⟨K, hK⟩ := sub_ev m n hle hl
  exact (cleromancyref01_Sub.calls K A0 c0 _ A1 c1 _ _ w hr0 hc0 hr1 hc1 (hK K (Nat.le_refl _))).mono fun e w' h => Got.of h
theorem radd_calls (A0 : Option Addr) (n0 c0 : Nat) (m : Nat) (hn0 : (dg m).length = n0) (A1 : Option Addr) (n1 c1 : Nat) (n : Nat) (hn1 : (dg n).length = n1) (w : World) (hr0 : Kd.C (Kd.int .i64) w A0 (dg m).length (dg m)) (hc0 : n0 ≤ c0) (hr1 : Kd.C (Kd.int .i64) w A1 (dg n).length (dg n)) (hc1 : n1 ≤ c1) (hl : n0 ≤ 1000000) (hl1 : n1 ≤ 1000000) :
    Calls Try.prog 29 #[.slice A0 n0 c0, .slice A1 n1 c1] w (Got .i64 w (dg (m + n))) := by
  subst hn0 hn1
  obtain ⟨K, hK⟩ := add_ev (dg m) (dg n) (dg_Dg _) (dg_Dg _) hl hl1
  rw [vn_dg, vn_dg] at hK
  exact (cleromancyref01_Add.calls K A0 c0 _ A1 c1 _ _ w hr0 hc0 hr1 hc1 (hK K (Nat.le_refl _))).mono fun e w' h => Got.of h
theorem nsub_of (A0 : Option Addr) (n0 c0 : Nat) (l0 : List Int) (hn0 : l0.length = n0) (A1 : Option Addr) (n1 c1 : Nat) (l1 : List Int) (hn1 : l1.length = n1) (w : World) (hr0 : Kd.C (Kd.int .u64) w A0 l0.length l0) (hr1 : Kd.C (Kd.int .u64) w A1 l1.length l1) (hw0 : Wd l0) (hw1 : Wd l1) (hl0 : n0 ≤ 100000) (hl1 : n1 ≤ 100000) (hle : wv l1 ≤ wv l0) :
    Calls Try.prog 25 #[.slice A0 n0 c0, .slice A1 n1 c1] w (ResOk w (wv l0 - wv l1) true) := by
  subst hn0 hn1
  exact nsub_calls A0 c0 l0 A1 c1 l1 w hr0 hr1 hw0 hw1 hl0 hl1 hle
theorem ntrim_calls (A0 : Option Addr) (n0 c0 : Nat) (l0 : List Int) (hn0 : l0.length = n0) (w : World) (hr0 : Kd.C (Kd.int .u64) w A0 l0.length l0) (hc0 : n0 ≤ c0) (hw0 : Wd l0) (hl0 : n0 ≤ 1000000) :
    Calls Try.prog 31 #[.slice A0 n0 c0] w (Res w (wv l0)) := by
  obtain ⟨h1, h2, h3⟩ := trim_head hn0 hr0 hc0 hw0 hl0
  exact h1.mono fun e w' h => ⟨A0, _, h.1, Nat.le_refl _, by rw [← h.2]; exact h2, by rw [← h.2]; exact Below.refl _ _⟩
set_option maxHeartbeats 1600000 in
set_option maxRecDepth 100000 in
theorem natSums_big (A0 : Option Addr) (n0 c0 : Nat) (A1 : Option Addr) (n1 c1 : Nat) (w : World) (h0 : (n0 : Int) ≤ 9223372036854775807) (h1 : (n1 : Int) ≤ 9223372036854775807) (hbig : 60 < n0 ∨ 60 < n1) :
    Calls Try.prog 5 #[.slice A0 n0 c0, .slice A1 n1 c1] w (Tells (.bool true) w) := by
  go_enter Try.func5, Try.ntmps5
  go_wp2_with (first
    | (go_at_call 11; (with_reducible refine (awake_calls _).mono ?_); rintro e w1 ⟨rfl, hb⟩; have HB1 := Aside0.mk hb; clear hb)
    | fail)
  all_goals first
    | (go_ret; exact ⟨rfl, HB1.out⟩)
    | (exfalso; omega)
set_option maxHeartbeats 3200000 in
set_option maxRecDepth 100000 in
theorem natSums_Less (A0 : Option Addr) (n0 c0 : Nat) (l0 : List Int) (hn0 : l0.length = n0) (A1 : Option Addr) (n1 c1 : Nat) (l1 : List Int) (hn1 : l1.length = n1) (w : World) (hr0 : Kd.C (Kd.int .u64) w A0 l0.length l0) (hc0 : n0 ≤ c0) (hr1 : Kd.C (Kd.int .u64) w A1 l1.length l1) (hc1 : n1 ≤ c1) (hw0 : Wd l0) (hw1 : Wd l1) (hl0 : n0 ≤ 60) (hl1 : n1 ≤ 60) (hle : wv l0 < wv l1) :
    Calls Try.prog 5 #[.slice A0 n0 c0, .slice A1 n1 c1] w (Tells (.bool true) w) := by
  have hz0 := dg_len_wv hw0 hn0 (by omega)
  have hz1 := dg_len_wv hw1 hn1 (by omega)
  have hx0 : (nw (wv l0)).length ≤ 100 := nw_len_le (wv_lt hw0) (by omega)
  have hlt : wv l0 + wv l1 < 2 ^ (64 * 100) := by
    obtain ⟨M, hM⟩ : ∃ M, M = 64 * 100 := ⟨_, rfl⟩
    rw [← hM]
    have h1 := Nat.lt_of_lt_of_le (wv_lt hw0) (Nat.pow_le_pow_right (n := 2) (by omega) (show 64 * l0.length ≤ M - 1 by omega))
    have h2 := Nat.lt_of_lt_of_le (wv_lt hw1) (Nat.pow_le_pow_right (n := 2) (by omega) (show 64 * l1.length ≤ M - 1 by omega))
    have h3 : 2 ^ M = 2 ^ (M - 1) * 2 := by rw [← Nat.pow_succ]; congr 1; omega
    generalize 2 ^ (M - 1) = Z at *
    omega
  have hx1 : (nw (wv l0 + wv l1)).length ≤ 100 := nw_len_le hlt (by omega)
  have hx2 : (dg (wv l0 + wv l1)).length ≤ 1000 := dg_len_bits _ _ hlt _ (by omega)
  clear hlt
  have hcm : cmp (wv l0) (wv l1) < 0 := by rw [cmp_lt hle]; decide
  have HLE := Aside0.mk hle
  have HR0 := Aside0.mk hr0
  have HR1 := Aside0.mk hr1
  have HW0 := Aside0.mk hw0
  have HW1 := Aside0.mk hw1
  have HN0 := Aside0.mk hn0
  have HN1 := Aside0.mk hn1
  clear hr0 hr1 hw0 hw1 hn0 hn1 hle
  go_enter Try.func5, Try.ntmps5
  go_wp2_with (first
    | (go_at_call 11; (with_reducible refine (awake_calls _).mono ?_); rintro e w1 ⟨rfl, hb⟩; have HB := Aside0.mk hb; replace HR0 := Aside0.mk (Kd.C_below HR0.out hb); replace HR1 := Aside0.mk (Kd.C_below HR1.out hb); clear hb)
    | (go_at_call 19; (with_reducible refine (words_calls A0 n0 c0 l0 HN0.out _ HR0.out hc0 HW0.out (by omega)).mono ?_); rintro e w_2 ⟨A2, c2, rfl, h2, h3, hb⟩; replace HB := Aside0.mk (below_step HB.out hb); replace HR0 := Aside0.mk (Kd.C_below HR0.out hb); replace HR1 := Aside0.mk (Kd.C_below HR1.out hb); have HX := Aside0.mk h3; clear h3; clear hb)
    | (go_at_call 19; (with_reducible refine (words_calls A1 n1 c1 l1 HN1.out _ HR1.out hc1 HW1.out (by omega)).mono ?_); rintro e w_3 ⟨A3, c3, rfl, h4, h3, hb⟩; replace HB := Aside0.mk (below_step HB.out hb); replace HR0 := Aside0.mk (Kd.C_below HR0.out hb); replace HR1 := Aside0.mk (Kd.C_below HR1.out hb); replace HX := Aside0.mk (Kd.C_below HX.out hb); have HY := Aside0.mk h3; clear h3; clear hb)
    | (go_at_call 25; (with_reducible refine (nsub_less A0 n0 c0 l0 HN0.out A1 n1 c1 l1 HN1.out _ HR0.out HR1.out HW0.out HW1.out (by omega) (by omega) HLE.out).mono ?_); rintro e w_4 ⟨rfl, rfl⟩)
    | (go_at_call 26; (with_reducible refine (rcmp_calls A2 _ c2 (wv l0) rfl A3 _ c3 (wv l1) rfl _ HX.out h2 HY.out h4 (by omega)).mono ?_); rintro e w_5 ⟨rfl, hb⟩; replace HB := Aside0.mk (below_step HB.out hb); replace HR0 := Aside0.mk (Kd.C_below HR0.out hb); replace HR1 := Aside0.mk (Kd.C_below HR1.out hb); replace HX := Aside0.mk (Kd.C_below HX.out hb); replace HY := Aside0.mk (Kd.C_below HY.out hb); clear hb)
    | (go_at_call 28; (with_reducible refine (nadd_of A0 n0 c0 l0 HN0.out A1 n1 c1 l1 HN1.out _ HR0.out HR1.out HW0.out HW1.out (by omega) (by omega)).mono ?_); rintro e w_9 ⟨A9, c9, rfl, h9, h3, hb⟩; replace HB := Aside0.mk (below_step HB.out hb); replace HR0 := Aside0.mk (Kd.C_below HR0.out hb); replace HR1 := Aside0.mk (Kd.C_below HR1.out hb); replace HX := Aside0.mk (Kd.C_below HX.out hb); replace HY := Aside0.mk (Kd.C_below HY.out hb); have HA := Aside0.mk h3; clear h3; clear hb)
    | (go_at_call 29; (with_reducible refine (radd_calls A2 _ c2 (wv l0) rfl A3 _ c3 (wv l1) rfl _ HX.out h2 HY.out h4 (by omega) (by omega)).mono ?_); rintro e w_10 ⟨A10, c10, rfl, h10, h3, hb⟩; replace HB := Aside0.mk (below_step HB.out hb); replace HR0 := Aside0.mk (Kd.C_below HR0.out hb); replace HR1 := Aside0.mk (Kd.C_below HR1.out hb); replace HX := Aside0.mk (Kd.C_below HX.out hb); replace HY := Aside0.mk (Kd.C_below HY.out hb); replace HA := Aside0.mk (Kd.C_below HA.out hb); have HU := Aside0.mk h3; clear h3; clear hb)
    | (go_at_call 14; (with_reducible refine (rwords_calls A10 _ c10 (wv l0 + wv l1) rfl _ HU.out h10 (by omega)).mono ?_); rintro e w_11 ⟨A11, c11, rfl, h11, h3, hb⟩; replace HB := Aside0.mk (below_step HB.out hb); replace HR0 := Aside0.mk (Kd.C_below HR0.out hb); replace HR1 := Aside0.mk (Kd.C_below HR1.out hb); replace HX := Aside0.mk (Kd.C_below HX.out hb); replace HY := Aside0.mk (Kd.C_below HY.out hb); replace HA := Aside0.mk (Kd.C_below HA.out hb); have HV := Aside0.mk h3; clear h3; clear hb)
    | (go_at_call 12; (with_reducible refine (wsame_calls A9 _ c9 (nw (wv l0 + wv l1)) rfl A11 _ c11 (nw (wv l0 + wv l1)) rfl _ HA.out h9 HV.out h11 (by omega)).mono ?_); rw [decide_eq_true (rfl : nw (wv l0 + wv l1) = nw (wv l0 + wv l1))]; rintro e w_12 ⟨rfl, hb⟩; replace HB := Aside0.mk (below_step HB.out hb); replace HR0 := Aside0.mk (Kd.C_below HR0.out hb); replace HR1 := Aside0.mk (Kd.C_below HR1.out hb); replace HX := Aside0.mk (Kd.C_below HX.out hb); replace HY := Aside0.mk (Kd.C_below HY.out hb); clear hb)
    | (go_at_call 30; (with_reducible refine (ncmp_of A0 n0 c0 l0 HN0.out A1 n1 c1 l1 HN1.out _ HR0.out HR1.out HW0.out HW1.out (by omega) (by omega)).mono ?_); rintro e w_13 ⟨rfl, rfl⟩)
    | (go_at_call 31; (with_reducible refine (ntrim_calls A0 n0 c0 l0 HN0.out _ HR0.out hc0 HW0.out (by omega)).mono ?_); rintro e w_14 ⟨A14, c14, rfl, h14, h3, hb⟩; replace HB := Aside0.mk (below_step HB.out hb); replace HR0 := Aside0.mk (Kd.C_below HR0.out hb); replace HR1 := Aside0.mk (Kd.C_below HR1.out hb); replace HX := Aside0.mk (Kd.C_below HX.out hb); replace HY := Aside0.mk (Kd.C_below HY.out hb); have HTr := Aside0.mk h3; clear h3; clear hb)
    | (go_at_call 14; (with_reducible refine (rwords_calls A2 _ c2 (wv l0) rfl _ HX.out h2 (by omega)).mono ?_); rintro e w_15 ⟨A15, c15, rfl, h15, h3, hb⟩; replace HB := Aside0.mk (below_step HB.out hb); replace HR0 := Aside0.mk (Kd.C_below HR0.out hb); replace HR1 := Aside0.mk (Kd.C_below HR1.out hb); replace HX := Aside0.mk (Kd.C_below HX.out hb); replace HY := Aside0.mk (Kd.C_below HY.out hb); replace HTr := Aside0.mk (Kd.C_below HTr.out hb); have HWx := Aside0.mk h3; clear h3; clear hb)
    | (go_at_call 12; (with_reducible refine (wsame_calls A14 _ c14 (nw (wv l0)) rfl A15 _ c15 (nw (wv l0)) rfl _ HTr.out h14 HWx.out h15 (by omega)).mono ?_); rw [decide_eq_true (rfl : nw (wv l0) = nw (wv l0))]; rintro e w_16 ⟨rfl, hb⟩; replace HB := Aside0.mk (below_step HB.out hb); replace HR0 := Aside0.mk (Kd.C_below HR0.out hb); replace HR1 := Aside0.mk (Kd.C_below HR1.out hb); replace HX := Aside0.mk (Kd.C_below HX.out hb); replace HY := Aside0.mk (Kd.C_below HY.out hb); clear hb)
    | (go_at_call 32; (with_reducible refine (nbits_calls A0 n0 c0 l0 HN0.out _ HR0.out hc0 HW0.out (by omega)).mono ?_); rintro e w_17 ⟨rfl, rfl⟩)
    | (go_at_call 22; (with_reducible refine (rbits_calls A2 _ c2 (wv l0) rfl _ HX.out h2 (by omega)).mono ?_); rintro e w_18 ⟨rfl, hb⟩; replace HB := Aside0.mk (below_step HB.out hb); replace HR0 := Aside0.mk (Kd.C_below HR0.out hb); replace HR1 := Aside0.mk (Kd.C_below HR1.out hb); clear hb)
    | fail)
  go_ret; exact ⟨rfl, HB.out⟩

set_option maxHeartbeats 3200000 in
set_option maxRecDepth 100000 in
theorem natSums_Some (A0 : Option Addr) (n0 c0 : Nat) (l0 : List Int) (hn0 : l0.length = n0) (A1 : Option Addr) (n1 c1 : Nat) (l1 : List Int) (hn1 : l1.length = n1) (w : World) (hr0 : Kd.C (Kd.int .u64) w A0 l0.length l0) (hc0 : n0 ≤ c0) (hr1 : Kd.C (Kd.int .u64) w A1 l1.length l1) (hc1 : n1 ≤ c1) (hw0 : Wd l0) (hw1 : Wd l1) (hl0 : n0 ≤ 60) (hl1 : n1 ≤ 60) (hle : wv l1 ≤ wv l0) :
    Calls Try.prog 5 #[.slice A0 n0 c0, .slice A1 n1 c1] w (Tells (.bool true) w) := by
  have hz0 := dg_len_wv hw0 hn0 (by omega)
  have hz1 := dg_len_wv hw1 hn1 (by omega)
  have hx0 : (nw (wv l0)).length ≤ 100 := nw_len_le (wv_lt hw0) (by omega)
  have hlt : wv l0 + wv l1 < 2 ^ (64 * 100) := by
    obtain ⟨M, hM⟩ : ∃ M, M = 64 * 100 := ⟨_, rfl⟩
    rw [← hM]
    have h1 := Nat.lt_of_lt_of_le (wv_lt hw0) (Nat.pow_le_pow_right (n := 2) (by omega) (show 64 * l0.length ≤ M - 1 by omega))
    have h2 := Nat.lt_of_lt_of_le (wv_lt hw1) (Nat.pow_le_pow_right (n := 2) (by omega) (show 64 * l1.length ≤ M - 1 by omega))
    have h3 : 2 ^ M = 2 ^ (M - 1) * 2 := by rw [← Nat.pow_succ]; congr 1; omega
    generalize 2 ^ (M - 1) = Z at *
    omega
  have hx1 : (nw (wv l0 + wv l1)).length ≤ 100 := nw_len_le hlt (by omega)
  have hx2 : (dg (wv l0 + wv l1)).length ≤ 1000 := dg_len_bits _ _ hlt _ (by omega)
  clear hlt
  have hx3 : (nw (wv l0 - wv l1)).length ≤ 100 := nw_len_le (Nat.lt_of_le_of_lt (Nat.sub_le _ _) (wv_lt hw0)) (by omega)
  have hx4 : (dg (wv l0 - wv l1)).length ≤ 1000 := Nat.le_trans (dg_len_mono (Nat.sub_le _ _)) hz0
  have hcm : 0 ≤ cmp (wv l0) (wv l1) := by rw [cmp, if_neg (by omega)]; split <;> decide
  have HLE := Aside0.mk hle
  have HR0 := Aside0.mk hr0
  have HR1 := Aside0.mk hr1
  have HW0 := Aside0.mk hw0
  have HW1 := Aside0.mk hw1
  have HN0 := Aside0.mk hn0
  have HN1 := Aside0.mk hn1
  clear hr0 hr1 hw0 hw1 hn0 hn1 hle
  go_enter Try.func5, Try.ntmps5
  go_wp2_with (first
    | (go_at_call 11; (with_reducible refine (awake_calls _).mono ?_); rintro e w1 ⟨rfl, hb⟩; have HB := Aside0.mk hb; replace HR0 := Aside0.mk (Kd.C_below HR0.out hb); replace HR1 := Aside0.mk (Kd.C_below HR1.out hb); clear hb)
    | (go_at_call 19; (with_reducible refine (words_calls A0 n0 c0 l0 HN0.out _ HR0.out hc0 HW0.out (by omega)).mono ?_); rintro e w_2 ⟨A2, c2, rfl, h2, h3, hb⟩; replace HB := Aside0.mk (below_step HB.out hb); replace HR0 := Aside0.mk (Kd.C_below HR0.out hb); replace HR1 := Aside0.mk (Kd.C_below HR1.out hb); have HX := Aside0.mk h3; clear h3; clear hb)
    | (go_at_call 19; (with_reducible refine (words_calls A1 n1 c1 l1 HN1.out _ HR1.out hc1 HW1.out (by omega)).mono ?_); rintro e w_3 ⟨A3, c3, rfl, h4, h3, hb⟩; replace HB := Aside0.mk (below_step HB.out hb); replace HR0 := Aside0.mk (Kd.C_below HR0.out hb); replace HR1 := Aside0.mk (Kd.C_below HR1.out hb); replace HX := Aside0.mk (Kd.C_below HX.out hb); have HY := Aside0.mk h3; clear h3; clear hb)
    | (go_at_call 25; (with_reducible refine (nsub_of A0 n0 c0 l0 HN0.out A1 n1 c1 l1 HN1.out _ HR0.out HR1.out HW0.out HW1.out (by omega) (by omega) HLE.out).mono ?_); rintro e w_4 ⟨A4, c4, rfl, h5, h3, hb⟩; replace HB := Aside0.mk (below_step HB.out hb); replace HR0 := Aside0.mk (Kd.C_below HR0.out hb); replace HR1 := Aside0.mk (Kd.C_below HR1.out hb); replace HX := Aside0.mk (Kd.C_below HX.out hb); replace HY := Aside0.mk (Kd.C_below HY.out hb); have HD := Aside0.mk h3; clear h3; clear hb)
    | (go_at_call 26; (with_reducible refine (rcmp_calls A2 _ c2 (wv l0) rfl A3 _ c3 (wv l1) rfl _ HX.out h2 HY.out h4 (by omega)).mono ?_); rintro e w_5 ⟨rfl, hb⟩; replace HB := Aside0.mk (below_step HB.out hb); replace HR0 := Aside0.mk (Kd.C_below HR0.out hb); replace HR1 := Aside0.mk (Kd.C_below HR1.out hb); replace HX := Aside0.mk (Kd.C_below HX.out hb); replace HY := Aside0.mk (Kd.C_below HY.out hb); replace HD := Aside0.mk (Kd.C_below HD.out hb); clear hb)
    | (go_at_call 26; (with_reducible refine (rcmp_calls A2 _ c2 (wv l0) rfl A3 _ c3 (wv l1) rfl _ HX.out h2 HY.out h4 (by omega)).mono ?_); rintro e w_5 ⟨rfl, hb⟩; replace HB := Aside0.mk (below_step HB.out hb); replace HR0 := Aside0.mk (Kd.C_below HR0.out hb); replace HR1 := Aside0.mk (Kd.C_below HR1.out hb); replace HX := Aside0.mk (Kd.C_below HX.out hb); replace HY := Aside0.mk (Kd.C_below HY.out hb); clear hb)
    | (go_at_call 27; (with_reducible refine (rsub_calls A2 _ c2 (wv l0) rfl A3 _ c3 (wv l1) rfl HLE.out _ HX.out h2 HY.out h4 (by omega)).mono ?_); rintro e w_6 ⟨A6, c6, rfl, h6, h3, hb⟩; replace HB := Aside0.mk (below_step HB.out hb); replace HR0 := Aside0.mk (Kd.C_below HR0.out hb); replace HR1 := Aside0.mk (Kd.C_below HR1.out hb); replace HX := Aside0.mk (Kd.C_below HX.out hb); replace HY := Aside0.mk (Kd.C_below HY.out hb); replace HD := Aside0.mk (Kd.C_below HD.out hb); have HS := Aside0.mk h3; clear h3; clear hb)
    | (go_at_call 14; (with_reducible refine (rwords_calls A6 _ c6 (wv l0 - wv l1) rfl _ HS.out h6 (by omega)).mono ?_); rintro e w_7 ⟨A7, c7, rfl, h7, h3, hb⟩; replace HB := Aside0.mk (below_step HB.out hb); replace HR0 := Aside0.mk (Kd.C_below HR0.out hb); replace HR1 := Aside0.mk (Kd.C_below HR1.out hb); replace HX := Aside0.mk (Kd.C_below HX.out hb); replace HY := Aside0.mk (Kd.C_below HY.out hb); replace HD := Aside0.mk (Kd.C_below HD.out hb); have HT := Aside0.mk h3; clear h3; clear hb)
    | (go_at_call 12; (with_reducible refine (wsame_calls A4 _ c4 (nw (wv l0 - wv l1)) rfl A7 _ c7 (nw (wv l0 - wv l1)) rfl _ HD.out h5 HT.out h7 (by omega)).mono ?_); rw [decide_eq_true (rfl : nw (wv l0 - wv l1) = nw (wv l0 - wv l1))]; rintro e w_8 ⟨rfl, hb⟩; replace HB := Aside0.mk (below_step HB.out hb); replace HR0 := Aside0.mk (Kd.C_below HR0.out hb); replace HR1 := Aside0.mk (Kd.C_below HR1.out hb); replace HX := Aside0.mk (Kd.C_below HX.out hb); replace HY := Aside0.mk (Kd.C_below HY.out hb); replace HD := Aside0.mk (Kd.C_below HD.out hb); clear hb)
    | (go_at_call 28; (with_reducible refine (nadd_of A0 n0 c0 l0 HN0.out A1 n1 c1 l1 HN1.out _ HR0.out HR1.out HW0.out HW1.out (by omega) (by omega)).mono ?_); rintro e w_9 ⟨A9, c9, rfl, h9, h3, hb⟩; replace HB := Aside0.mk (below_step HB.out hb); replace HR0 := Aside0.mk (Kd.C_below HR0.out hb); replace HR1 := Aside0.mk (Kd.C_below HR1.out hb); replace HX := Aside0.mk (Kd.C_below HX.out hb); replace HY := Aside0.mk (Kd.C_below HY.out hb); have HA := Aside0.mk h3; clear h3; clear hb)
    | (go_at_call 29; (with_reducible refine (radd_calls A2 _ c2 (wv l0) rfl A3 _ c3 (wv l1) rfl _ HX.out h2 HY.out h4 (by omega) (by omega)).mono ?_); rintro e w_10 ⟨A10, c10, rfl, h10, h3, hb⟩; replace HB := Aside0.mk (below_step HB.out hb); replace HR0 := Aside0.mk (Kd.C_below HR0.out hb); replace HR1 := Aside0.mk (Kd.C_below HR1.out hb); replace HX := Aside0.mk (Kd.C_below HX.out hb); replace HY := Aside0.mk (Kd.C_below HY.out hb); replace HA := Aside0.mk (Kd.C_below HA.out hb); have HU := Aside0.mk h3; clear h3; clear hb)
    | (go_at_call 14; (with_reducible refine (rwords_calls A10 _ c10 (wv l0 + wv l1) rfl _ HU.out h10 (by omega)).mono ?_); rintro e w_11 ⟨A11, c11, rfl, h11, h3, hb⟩; replace HB := Aside0.mk (below_step HB.out hb); replace HR0 := Aside0.mk (Kd.C_below HR0.out hb); replace HR1 := Aside0.mk (Kd.C_below HR1.out hb); replace HX := Aside0.mk (Kd.C_below HX.out hb); replace HY := Aside0.mk (Kd.C_below HY.out hb); replace HA := Aside0.mk (Kd.C_below HA.out hb); have HV := Aside0.mk h3; clear h3; clear hb)
    | (go_at_call 12; (with_reducible refine (wsame_calls A9 _ c9 (nw (wv l0 + wv l1)) rfl A11 _ c11 (nw (wv l0 + wv l1)) rfl _ HA.out h9 HV.out h11 (by omega)).mono ?_); rw [decide_eq_true (rfl : nw (wv l0 + wv l1) = nw (wv l0 + wv l1))]; rintro e w_12 ⟨rfl, hb⟩; replace HB := Aside0.mk (below_step HB.out hb); replace HR0 := Aside0.mk (Kd.C_below HR0.out hb); replace HR1 := Aside0.mk (Kd.C_below HR1.out hb); replace HX := Aside0.mk (Kd.C_below HX.out hb); replace HY := Aside0.mk (Kd.C_below HY.out hb); clear hb)
    | (go_at_call 30; (with_reducible refine (ncmp_of A0 n0 c0 l0 HN0.out A1 n1 c1 l1 HN1.out _ HR0.out HR1.out HW0.out HW1.out (by omega) (by omega)).mono ?_); rintro e w_13 ⟨rfl, rfl⟩)
    | (go_at_call 31; (with_reducible refine (ntrim_calls A0 n0 c0 l0 HN0.out _ HR0.out hc0 HW0.out (by omega)).mono ?_); rintro e w_14 ⟨A14, c14, rfl, h14, h3, hb⟩; replace HB := Aside0.mk (below_step HB.out hb); replace HR0 := Aside0.mk (Kd.C_below HR0.out hb); replace HR1 := Aside0.mk (Kd.C_below HR1.out hb); replace HX := Aside0.mk (Kd.C_below HX.out hb); replace HY := Aside0.mk (Kd.C_below HY.out hb); have HTr := Aside0.mk h3; clear h3; clear hb)
    | (go_at_call 14; (with_reducible refine (rwords_calls A2 _ c2 (wv l0) rfl _ HX.out h2 (by omega)).mono ?_); rintro e w_15 ⟨A15, c15, rfl, h15, h3, hb⟩; replace HB := Aside0.mk (below_step HB.out hb); replace HR0 := Aside0.mk (Kd.C_below HR0.out hb); replace HR1 := Aside0.mk (Kd.C_below HR1.out hb); replace HX := Aside0.mk (Kd.C_below HX.out hb); replace HY := Aside0.mk (Kd.C_below HY.out hb); replace HTr := Aside0.mk (Kd.C_below HTr.out hb); have HWx := Aside0.mk h3; clear h3; clear hb)
    | (go_at_call 12; (with_reducible refine (wsame_calls A14 _ c14 (nw (wv l0)) rfl A15 _ c15 (nw (wv l0)) rfl _ HTr.out h14 HWx.out h15 (by omega)).mono ?_); rw [decide_eq_true (rfl : nw (wv l0) = nw (wv l0))]; rintro e w_16 ⟨rfl, hb⟩; replace HB := Aside0.mk (below_step HB.out hb); replace HR0 := Aside0.mk (Kd.C_below HR0.out hb); replace HR1 := Aside0.mk (Kd.C_below HR1.out hb); replace HX := Aside0.mk (Kd.C_below HX.out hb); replace HY := Aside0.mk (Kd.C_below HY.out hb); clear hb)
    | (go_at_call 32; (with_reducible refine (nbits_calls A0 n0 c0 l0 HN0.out _ HR0.out hc0 HW0.out (by omega)).mono ?_); rintro e w_17 ⟨rfl, rfl⟩)
    | (go_at_call 22; (with_reducible refine (rbits_calls A2 _ c2 (wv l0) rfl _ HX.out h2 (by omega)).mono ?_); rintro e w_18 ⟨rfl, hb⟩; replace HB := Aside0.mk (below_step HB.out hb); replace HR0 := Aside0.mk (Kd.C_below HR0.out hb); replace HR1 := Aside0.mk (Kd.C_below HR1.out hb); clear hb)
    | fail)
  go_ret; exact ⟨rfl, HB.out⟩

theorem natSums_walk (a0 : Option Addr) (len0 cap0 : Nat) (z0 : List Int) (a1 : Option Addr) (len1 cap1 : Nat) (z1 : List Int) (w : World) (w0 : (a0 = none ∧ len0 = 0 ∧ cap0 = 0 ∧ z0 = []) ∨ ∃ x, a0 = some x ∧ len0 ≤ cap0 ∧ cap0 ≤ maxLen ∧ z0.length = cap0 ∧ (∀ i, i < z0.length → w.cell? (x.add i) = some (.int .u64 (z0.getD i 0))) ∧ ∀ n ∈ z0, (Lit.int .u64 n).wf = true) (y0 : len0 * 8 ≤ 140737488351232) (w1 : (a1 = none ∧ len1 = 0 ∧ cap1 = 0 ∧ z1 = []) ∨ ∃ x, a1 = some x ∧ len1 ≤ cap1 ∧ cap1 ≤ maxLen ∧ z1.length = cap1 ∧ (∀ i, i < z1.length → w.cell? (x.add i) = some (.int .u64 (z1.getD i 0))) ∧ ∀ n ∈ z1, (Lit.int .u64 n).wf = true) (y1 : len1 * 8 ≤ 140737488351232) :
    Calls Try.prog 5 #[.slice a0 len0 cap0, .slice a1 len1 cap1] w fun e w' => e = .returned (.bool true) ∧ Below w.heap.size w w' := by
  obtain ⟨l0, rfl, hr0, hm0, hw0, hc0⟩ := ReadsInt.ofRowC w0
  obtain ⟨l1, rfl, hr1, hm1, hw1, hc1⟩ := ReadsInt.ofRowC w1
  by_cases hbig : 60 < l0.length ∨ 60 < l1.length
  · exact natSums_big a0 _ cap0 a1 _ cap1 w (by omega) (by omega) hbig
  · by_cases hle : wv l1 ≤ wv l0
    · exact natSums_Some a0 _ cap0 l0 rfl a1 _ cap1 l1 rfl w (Kd.C_of_reads (d := (0 : Int)) (h1 := fun _ => rfl) hr0) hc0 (Kd.C_of_reads (d := (0 : Int)) (h1 := fun _ => rfl) hr1) hc1 (fun x hx => wf_u64 (hw0 x hx)) (fun x hx => wf_u64 (hw1 x hx)) (by omega) (by omega) hle
    · exact natSums_Less a0 _ cap0 l0 rfl a1 _ cap1 l1 rfl w (Kd.C_of_reads (d := (0 : Int)) (h1 := fun _ => rfl) hr0) hc0 (Kd.C_of_reads (d := (0 : Int)) (h1 := fun _ => rfl) hr1) hc1 (fun x hx => wf_u64 (hw0 x hx)) (fun x hx => wf_u64 (hw1 x hx)) (by omega) (by omega) (by omega)
end Go.Proofs.Ytjkelnnjfpcapaa.Num
