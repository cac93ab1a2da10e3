/- nat: the law of powers (laid by wip/gen/powers.py). -/
import Derived.Test.YtjkelnnjfpcapaaNatH
namespace Go.Proofs.Ytjkelnnjfpcapaa.Num
set_option linter.unusedVariables false
open Go.RowKit Go.Shelf Go.Proofs.Ytjkelnnjfpcapaa.PNat Go.Proofs.YtjkelnnjfpcapaaW Go.Proofs.YtjkelnnjfpcapaaW.PrintWords Go.Proofs.YtjkelnnjfpcapaaW.PrintLast Go.Proofs.YtjkelnnjfpcapaaW.PrintMore

/-- Nothing, and a code. -/
def None2 (w : World) (code : Int) (e : Ending) (w' : World) : Prop := ∃ A c, e = .returned (.tuple #[.slice A 0 c, .int .i64 code]) ∧ Below w.heap.size w w'
theorem Res2.none {w w' : World} {code : Int} {e : Ending} (h : Res2 w 0 code e w') : None2 w code e w' := by
  obtain ⟨A, c, h1, _, _, h2⟩ := h
  rw [nw_zero] at h1
  exact ⟨A, c, h1, h2⟩
theorem calls_none {f : Nat} {vs : Array Value} {w : World} {code : Int} (h : Calls Try.prog f vs w (Res2 w 0 code)) : Calls Try.prog f vs w (None2 w code) := h.mono fun _ _ h => h.none
theorem nw_one : nw 1 = [1] := nw_small (by decide) (by decide)
theorem wv_one (x : Int) : wv [x] = x.toNat := by simp [wv]
theorem dg_len_pos {n : Nat} (h : n ≠ 0) : 0 < (dg n).length := by
  rw [dg_pos h]; simp
set_option maxHeartbeats 1600000 in
set_option maxRecDepth 100000 in
theorem natPowers_big (A0 : Option Addr) (n0 c0 : Nat) (x m : Int) (w : World) (h0 : (n0 : Int) ≤ 9223372036854775807) (hbig : 20 < n0) :
    Calls Try.prog 4 #[.slice A0 n0 c0, .int .u64 x, .int .i64 m] w (Tells (.bool true) w) := by
  go_enter Try.func4, Try.ntmps4
  go_wp2_with (first
    | (go_at_call 11; (with_reducible refine (awake_calls _).mono ?_); rintro e w1 ⟨rfl, hb⟩; have HB1 := Aside0.mk hb; clear hb)
    | fail)
  go_ret; exact ⟨rfl, HB1.out⟩

set_option maxHeartbeats 3200000 in
set_option maxRecDepth 100000 in
theorem natPowers_LimNil (A0 : Option Addr) (n0 c0 : Nat) (l0 : List Int) (hn0 : l0.length = n0) (m : Nat) (hm : 60 < m) (w : World) (hr0 : Kd.C (Kd.int .u64) w A0 l0.length l0) (hc0 : n0 ≤ c0) (hw : Wd l0) (hl0 : n0 ≤ 20) (hz : wv l0 ≠ 0) (hlim : 262144 - (bl (wv l0) : Int) < (m : Int)) :
    Calls Try.prog 4 #[.slice A0 n0 c0, .int .u64 0, .int .i64 m] w (Tells (.bool true) w) := by
  have hz1 := dg_len_wv hw hn0 (by omega)
  have hv1 : bl (wv l0) ≤ 1280 := Nat.le_trans ((bl_le _ _).2 (wv_lt hw)) (by omega)
  have HR := Aside0.mk hr0
  have HW := Aside0.mk hw
  have HN := Aside0.mk hn0
  clear hr0 hw hn0
  have hD : 0 < (dg (wv l0)).length := dg_len_pos hz
  have HZ := Aside0.mk hz
  clear hz
  go_enter Try.func4, Try.ntmps4
  go_wp2_with (first
    | (go_at_call 11; (with_reducible refine (awake_calls _).mono ?_); rintro e w1 ⟨rfl, hb⟩; have HB := Aside0.mk hb; replace HR := Aside0.mk (Kd.C_below HR.out hb); clear hb)
    | (go_at_call 19; (with_reducible refine (words_calls A0 n0 c0 l0 HN.out _ HR.out hc0 HW.out (by omega)).mono ?_); rintro e w2 ⟨A2, c2, rfl, h2, h3, h4⟩; replace HB := Aside0.mk (below_step HB.out h4); replace HR := Aside0.mk (Kd.C_below HR.out h4); have HX := Aside0.mk h3; clear h3 h4)
    | (go_at_call 20; (with_reducible refine (Go.Proofs.Ytjkelnnjfpcapaa.Num.calls_none (nleft_lim A0 n0 c0 l0 HN.out m (by omega) _ HR.out hc0 HW.out (by omega) HZ.out hlim)).mono ?_); rintro e w_3 ⟨AL, cL, rfl, hb⟩; replace HB := Aside0.mk (below_step HB.out hb); replace HX := Aside0.mk (Kd.C_below HX.out hb); clear hb)
    | (go_at_call 21; (with_reducible refine (calls_none (npower_zero m (by omega) _)).mono ?_); rintro e w_4 ⟨AP, cP, rfl, hb⟩; replace HB := Aside0.mk (below_step HB.out hb); replace HX := Aside0.mk (Kd.C_below HX.out hb); clear hb)
    | (go_at_call 22; (with_reducible refine (rbits_calls A2 _ c2 (wv l0) rfl _ HX.out h2 (by omega)).mono ?_); rintro e w_5 ⟨rfl, hb⟩; replace HB := Aside0.mk (below_step HB.out hb); replace HX := Aside0.mk (Kd.C_below HX.out hb); clear hb)
    | (go_at_call 19; (with_reducible refine (words_calls _ 1 1 [0] rfl _ (lit1_C _ 0) (Nat.le_refl _) (Wd.one (by omega)) (by omega)).mono ?_); rw [wv_one]; rintro e w_9 ⟨A9, c9, rfl, h9, h3, hb⟩; replace HB := Aside0.mk (below_step (below_alloc HB.out _) hb); have HV := Aside0.mk h3; clear h3; clear hb)
    | fail)
  all_goals (go_ret; exact ⟨rfl, HB.out⟩)

set_option maxHeartbeats 3200000 in
set_option maxRecDepth 100000 in
theorem natPowers_LimOne (A0 : Option Addr) (n0 c0 : Nat) (l0 : List Int) (hn0 : l0.length = n0) (m : Nat) (hm : 60 < m) (w : World) (hr0 : Kd.C (Kd.int .u64) w A0 l0.length l0) (hc0 : n0 ≤ c0) (hw : Wd l0) (hl0 : n0 ≤ 20) (hz : wv l0 ≠ 0) (hlim : 262144 - (bl (wv l0) : Int) < (m : Int)) :
    Calls Try.prog 4 #[.slice A0 n0 c0, .int .u64 1, .int .i64 m] w (Tells (.bool true) w) := by
  have hz1 := dg_len_wv hw hn0 (by omega)
  have hv1 : bl (wv l0) ≤ 1280 := Nat.le_trans ((bl_le _ _).2 (wv_lt hw)) (by omega)
  have HR := Aside0.mk hr0
  have HW := Aside0.mk hw
  have HN := Aside0.mk hn0
  clear hr0 hw hn0
  have hD : 0 < (dg (wv l0)).length := dg_len_pos hz
  have HZ := Aside0.mk hz
  clear hz
  go_enter Try.func4, Try.ntmps4
  go_wp2_with (first
    | (go_at_call 11; (with_reducible refine (awake_calls _).mono ?_); rintro e w1 ⟨rfl, hb⟩; have HB := Aside0.mk hb; replace HR := Aside0.mk (Kd.C_below HR.out hb); clear hb)
    | (go_at_call 19; (with_reducible refine (words_calls A0 n0 c0 l0 HN.out _ HR.out hc0 HW.out (by omega)).mono ?_); rintro e w2 ⟨A2, c2, rfl, h2, h3, h4⟩; replace HB := Aside0.mk (below_step HB.out h4); replace HR := Aside0.mk (Kd.C_below HR.out h4); have HX := Aside0.mk h3; clear h3 h4)
    | (go_at_call 20; (with_reducible refine (Go.Proofs.Ytjkelnnjfpcapaa.Num.calls_none (nleft_lim A0 n0 c0 l0 HN.out m (by omega) _ HR.out hc0 HW.out (by omega) HZ.out hlim)).mono ?_); rintro e w_3 ⟨AL, cL, rfl, hb⟩; replace HB := Aside0.mk (below_step HB.out hb); replace HX := Aside0.mk (Kd.C_below HX.out hb); clear hb)
    | (go_at_call 21; (with_reducible refine (npower_one 1 m (Or.inl rfl) _).mono ?_); rintro e w_4 ⟨AP, cP, rfl, hP1, h3, hb⟩; rw [nw_one] at hP1 h3; rw [nw_one]; replace HB := Aside0.mk (below_step HB.out hb); replace HX := Aside0.mk (Kd.C_below HX.out hb); have HP := Aside0.mk h3; clear h3; clear hb)
    | (go_at_call 22; (with_reducible refine (rbits_calls A2 _ c2 (wv l0) rfl _ HX.out h2 (by omega)).mono ?_); rintro e w_5 ⟨rfl, hb⟩; replace HB := Aside0.mk (below_step HB.out hb); replace HX := Aside0.mk (Kd.C_below HX.out hb); replace HP := Aside0.mk (Kd.C_below HP.out hb); clear hb)
    | (go_at_call 19; (with_reducible refine (words_calls _ 1 1 [1] rfl _ (lit1_C _ 1) (Nat.le_refl _) (Wd.one (by omega)) (by omega)).mono ?_); rw [wv_one]; rintro e w_9 ⟨A9, c9, rfl, h9, h3, hb⟩; replace HB := Aside0.mk (below_step (below_alloc HB.out _) hb); replace HP := Aside0.mk (Kd.C_below (Kd.C_alloc HP.out _) hb); have HV := Aside0.mk h3; clear h3; clear hb)
    | (go_at_call 12; (with_reducible refine (wsame_calls AP 1 cP [1] rfl _ 1 1 [1] rfl _ (Kd.C_alloc HP.out _) (by simpa using hP1) (lit1_C _ 1) (Nat.le_refl _) (by omega)).mono ?_); rw [decide_eq_true (rfl : ([1] : List Int) = [1])]; rintro e w_13 ⟨rfl, hb⟩; replace HB := Aside0.mk (below_step (below_alloc HB.out _) hb); clear hb)
    | fail)
  all_goals (go_ret; exact ⟨rfl, HB.out⟩)

set_option maxHeartbeats 3200000 in
set_option maxRecDepth 100000 in
theorem natPowers_LimOver (A0 : Option Addr) (n0 c0 : Nat) (l0 : List Int) (hn0 : l0.length = n0) (x : Int) (m : Nat) (hx2 : 2 ≤ x) (hxu : x < 18446744073709551616) (hp : 262144 / (bl x.toNat : Int) < (m : Int)) (w : World) (hr0 : Kd.C (Kd.int .u64) w A0 l0.length l0) (hc0 : n0 ≤ c0) (hw : Wd l0) (hl0 : n0 ≤ 20) (hz : wv l0 ≠ 0) (hlim : 262144 - (bl (wv l0) : Int) < (m : Int)) :
    Calls Try.prog 4 #[.slice A0 n0 c0, .int .u64 x, .int .i64 m] w (Tells (.bool true) w) := by
  have hz1 := dg_len_wv hw hn0 (by omega)
  have hv1 : bl (wv l0) ≤ 1280 := Nat.le_trans ((bl_le _ _).2 (wv_lt hw)) (by omega)
  have HR := Aside0.mk hr0
  have HW := Aside0.mk hw
  have HN := Aside0.mk hn0
  clear hr0 hw hn0
  have hD : 0 < (dg (wv l0)).length := dg_len_pos hz
  have HZ := Aside0.mk hz
  clear hz
  have hb64 : bl x.toNat ≤ 64 := (bl_le _ _).2 (by omega)
  have hq1 : 1 ≤ bl x.toNat := by rw [bl_pos (by omega)]; omega
  have hzx : (dg x.toNat).length ≤ 1000 := dg_len_bits _ 64 (by omega) 1000 (by omega)
  go_enter Try.func4, Try.ntmps4
  go_wp2_with (first
    | (go_at_call 11; (with_reducible refine (awake_calls _).mono ?_); rintro e w1 ⟨rfl, hb⟩; have HB := Aside0.mk hb; replace HR := Aside0.mk (Kd.C_below HR.out hb); clear hb)
    | (go_at_call 19; (with_reducible refine (words_calls A0 n0 c0 l0 HN.out _ HR.out hc0 HW.out (by omega)).mono ?_); rintro e w2 ⟨A2, c2, rfl, h2, h3, h4⟩; replace HB := Aside0.mk (below_step HB.out h4); replace HR := Aside0.mk (Kd.C_below HR.out h4); have HX := Aside0.mk h3; clear h3 h4)
    | (go_at_call 20; (with_reducible refine (Go.Proofs.Ytjkelnnjfpcapaa.Num.calls_none (nleft_lim A0 n0 c0 l0 HN.out m (by omega) _ HR.out hc0 HW.out (by omega) HZ.out hlim)).mono ?_); rintro e w_3 ⟨AL, cL, rfl, hb⟩; replace HB := Aside0.mk (below_step HB.out hb); replace HX := Aside0.mk (Kd.C_below HX.out hb); clear hb)
    | (go_at_call 21; (with_reducible refine (calls_none (npower_lim x m ⟨hx2, hxu⟩ hp _)).mono ?_); rintro e w_4 ⟨AP, cP, rfl, hb⟩; replace HB := Aside0.mk (below_step HB.out hb); replace HX := Aside0.mk (Kd.C_below HX.out hb); clear hb)
    | (go_at_call 22; (with_reducible refine (rbits_calls A2 _ c2 (wv l0) rfl _ HX.out h2 (by omega)).mono ?_); rintro e w_5 ⟨rfl, hb⟩; replace HB := Aside0.mk (below_step HB.out hb); replace HX := Aside0.mk (Kd.C_below HX.out hb); clear hb)
    | (go_at_call 19; (with_reducible refine (words_calls _ 1 1 [x] rfl _ (lit1_C _ x) (Nat.le_refl _) (Wd.one (by omega)) (by omega)).mono ?_); rw [wv_one]; rintro e w_9 ⟨A9, c9, rfl, h9, h3, hb⟩; replace HB := Aside0.mk (below_step (below_alloc HB.out _) hb); have HV := Aside0.mk h3; clear h3; clear hb)
    | (go_at_call 22; (with_reducible refine (rbits_calls A9 _ c9 x.toNat rfl _ HV.out h9 (by omega)).mono ?_); rintro e w_10 ⟨rfl, hb⟩; replace HB := Aside0.mk (below_step HB.out hb); replace HV := Aside0.mk (Kd.C_below HV.out hb); clear hb)
    | fail)
  all_goals (go_ret; exact ⟨rfl, HB.out⟩)

set_option maxHeartbeats 3200000 in
set_option maxRecDepth 100000 in
theorem natPowers_LimBig (A0 : Option Addr) (n0 c0 : Nat) (l0 : List Int) (hn0 : l0.length = n0) (x : Int) (m : Nat) (hx2 : 2 ≤ x) (hxu : x < 18446744073709551616) (hm : 60 < m) (hp : ¬ (262144 / (bl x.toNat : Int) < (m : Int))) (w : World) (hr0 : Kd.C (Kd.int .u64) w A0 l0.length l0) (hc0 : n0 ≤ c0) (hw : Wd l0) (hl0 : n0 ≤ 20) (hz : wv l0 ≠ 0) (hlim : 262144 - (bl (wv l0) : Int) < (m : Int)) :
    Calls Try.prog 4 #[.slice A0 n0 c0, .int .u64 x, .int .i64 m] w (Tells (.bool true) w) := by
  have hz1 := dg_len_wv hw hn0 (by omega)
  have hv1 : bl (wv l0) ≤ 1280 := Nat.le_trans ((bl_le _ _).2 (wv_lt hw)) (by omega)
  have HR := Aside0.mk hr0
  have HW := Aside0.mk hw
  have HN := Aside0.mk hn0
  clear hr0 hw hn0
  have hD : 0 < (dg (wv l0)).length := dg_len_pos hz
  have HPL := Aside0.mk hp
  have HZ := Aside0.mk hz
  clear hz
  have hb64 : bl x.toNat ≤ 64 := (bl_le _ _).2 (by omega)
  have hq1 : 1 ≤ bl x.toNat := by rw [bl_pos (by omega)]; omega
  have hzx : (dg x.toNat).length ≤ 1000 := dg_len_bits _ 64 (by omega) 1000 (by omega)
  go_enter Try.func4, Try.ntmps4
  go_wp2_with (first
    | (go_at_call 11; (with_reducible refine (awake_calls _).mono ?_); rintro e w1 ⟨rfl, hb⟩; have HB := Aside0.mk hb; replace HR := Aside0.mk (Kd.C_below HR.out hb); clear hb)
    | (go_at_call 19; (with_reducible refine (words_calls A0 n0 c0 l0 HN.out _ HR.out hc0 HW.out (by omega)).mono ?_); rintro e w2 ⟨A2, c2, rfl, h2, h3, h4⟩; replace HB := Aside0.mk (below_step HB.out h4); replace HR := Aside0.mk (Kd.C_below HR.out h4); have HX := Aside0.mk h3; clear h3 h4)
    | (go_at_call 20; (with_reducible refine (Go.Proofs.Ytjkelnnjfpcapaa.Num.calls_none (nleft_lim A0 n0 c0 l0 HN.out m (by omega) _ HR.out hc0 HW.out (by omega) HZ.out hlim)).mono ?_); rintro e w_3 ⟨AL, cL, rfl, hb⟩; replace HB := Aside0.mk (below_step HB.out hb); replace HX := Aside0.mk (Kd.C_below HX.out hb); clear hb)
    | (go_at_call 21; (with_reducible refine (npower_calls x m ⟨by omega, hxu⟩ (Or.inr (by have := HPL.out; omega)) _).mono ?_); rintro e w_4 ⟨AP, cP, rfl, hP1, h3, hb⟩; replace HB := Aside0.mk (below_step HB.out hb); replace HX := Aside0.mk (Kd.C_below HX.out hb); have HP := Aside0.mk h3; clear h3; clear hb)
    | (go_at_call 22; (with_reducible refine (rbits_calls A2 _ c2 (wv l0) rfl _ HX.out h2 (by omega)).mono ?_); rintro e w_5 ⟨rfl, hb⟩; replace HB := Aside0.mk (below_step HB.out hb); replace HX := Aside0.mk (Kd.C_below HX.out hb); replace HP := Aside0.mk (Kd.C_below HP.out hb); clear hb)
    | (go_at_call 19; (with_reducible refine (words_calls _ 1 1 [x] rfl _ (lit1_C _ x) (Nat.le_refl _) (Wd.one (by omega)) (by omega)).mono ?_); rw [wv_one]; rintro e w_9 ⟨A9, c9, rfl, h9, h3, hb⟩; replace HB := Aside0.mk (below_step (below_alloc HB.out _) hb); replace HP := Aside0.mk (Kd.C_below (Kd.C_alloc HP.out _) hb); have HV := Aside0.mk h3; clear h3; clear hb)
    | (go_at_call 22; (with_reducible refine (rbits_calls A9 _ c9 x.toNat rfl _ HV.out h9 (by omega)).mono ?_); rintro e w_10 ⟨rfl, hb⟩; replace HB := Aside0.mk (below_step HB.out hb); replace HP := Aside0.mk (Kd.C_below HP.out hb); replace HV := Aside0.mk (Kd.C_below HV.out hb); clear hb)
    | fail)
  all_goals (go_ret; exact ⟨rfl, HB.out⟩)

set_option maxHeartbeats 3200000 in
set_option maxRecDepth 100000 in
theorem natPowers_LimSmall (A0 : Option Addr) (n0 c0 : Nat) (l0 : List Int) (hn0 : l0.length = n0) (x : Int) (m : Nat) (hx0 : 0 ≤ x) (hxu : x < 18446744073709551616) (hm : m ≤ 60) (w : World) (hr0 : Kd.C (Kd.int .u64) w A0 l0.length l0) (hc0 : n0 ≤ c0) (hw : Wd l0) (hl0 : n0 ≤ 20) (hz : wv l0 ≠ 0) (hlim : 262144 - (bl (wv l0) : Int) < (m : Int)) :
    Calls Try.prog 4 #[.slice A0 n0 c0, .int .u64 x, .int .i64 m] w (Tells (.bool true) w) := by
  have hz1 := dg_len_wv hw hn0 (by omega)
  have hv1 : bl (wv l0) ≤ 1280 := Nat.le_trans ((bl_le _ _).2 (wv_lt hw)) (by omega)
  have HR := Aside0.mk hr0
  have HW := Aside0.mk hw
  have HN := Aside0.mk hn0
  clear hr0 hw hn0
  have hD : 0 < (dg (wv l0)).length := dg_len_pos hz
  have HZ := Aside0.mk hz
  clear hz
  have hb64 : bl x.toNat ≤ 64 := (bl_le _ _).2 (by omega)
  have HPL : Aside0 (x < 2 ∨ ¬ (262144 / (bl x.toNat : Int) < (m : Int))) := ⟨by
    by_cases h : x < 2
    · exact Or.inl h
    · refine Or.inr ?_
      have : 1 ≤ bl x.toNat := by rw [bl_pos (by omega)]; omega
      have h3 : (4096 : Int) ≤ 262144 / (bl x.toNat : Int) := Int.le_ediv_of_mul_le (by omega) (by omega)
      omega⟩
  have hpp : 2 ≤ x → ¬ (262144 / (bl x.toNat : Int) < (m : Int)) := fun h => HPL.out.resolve_left (by omega)
  have hp : 2 ≤ x → (4096 : Int) ≤ 262144 / (bl x.toNat : Int) := fun h => by
    have : 1 ≤ bl x.toNat := by rw [bl_pos (by omega)]; omega
    exact Int.le_ediv_of_mul_le (by omega) (by omega)
  clear hpp
  have hq1 : 2 ≤ x → 1 ≤ bl x.toNat := fun h => by rw [bl_pos (by omega)]; omega
  have hzx : (dg x.toNat).length ≤ 1000 := dg_len_bits _ 64 (by omega) 1000 (by omega)
  have hzp : (dg (x.toNat ^ m)).length ≤ 400000 ∧ (nw (x.toNat ^ m)).length ≤ 1000000 := by
    have hlt : x.toNat ^ m ≤ 2 ^ (64 * m) := by rw [Nat.pow_mul]; exact Nat.pow_le_pow_left (by omega) m
    have hlt2 : x.toNat ^ m < 2 ^ (64 * m + 1) := Nat.lt_of_le_of_lt hlt (Nat.pow_lt_pow_right (by omega) (by omega))
    exact ⟨dg_len_bits _ _ hlt2 _ (by omega), nw_len_le hlt2 (by omega)⟩
  go_enter Try.func4, Try.ntmps4
  go_wp2_with (first
    | (go_at_call 11; (with_reducible refine (awake_calls _).mono ?_); rintro e w1 ⟨rfl, hb⟩; have HB := Aside0.mk hb; replace HR := Aside0.mk (Kd.C_below HR.out hb); clear hb)
    | (go_at_call 19; (with_reducible refine (words_calls A0 n0 c0 l0 HN.out _ HR.out hc0 HW.out (by omega)).mono ?_); rintro e w2 ⟨A2, c2, rfl, h2, h3, h4⟩; replace HB := Aside0.mk (below_step HB.out h4); replace HR := Aside0.mk (Kd.C_below HR.out h4); have HX := Aside0.mk h3; clear h3 h4)
    | (go_at_call 20; (with_reducible refine (Go.Proofs.Ytjkelnnjfpcapaa.Num.calls_none (nleft_lim A0 n0 c0 l0 HN.out m (by omega) _ HR.out hc0 HW.out (by omega) HZ.out hlim)).mono ?_); rintro e w_3 ⟨AL, cL, rfl, hb⟩; replace HB := Aside0.mk (below_step HB.out hb); replace HX := Aside0.mk (Kd.C_below HX.out hb); clear hb)
    | (go_at_call 21; (with_reducible refine (npower_calls x m ⟨hx0, hxu⟩ (by have := HPL.out; omega) _).mono ?_); rintro e w_4 ⟨AP, cP, rfl, hP1, h3, hb⟩; replace HB := Aside0.mk (below_step HB.out hb); replace HX := Aside0.mk (Kd.C_below HX.out hb); have HP := Aside0.mk h3; clear h3; clear hb)
    | (go_at_call 22; (with_reducible refine (rbits_calls A2 _ c2 (wv l0) rfl _ HX.out h2 (by omega)).mono ?_); rintro e w_5 ⟨rfl, hb⟩; replace HB := Aside0.mk (below_step HB.out hb); replace HX := Aside0.mk (Kd.C_below HX.out hb); replace HP := Aside0.mk (Kd.C_below HP.out hb); clear hb)
    | (go_at_call 19; (with_reducible refine (words_calls _ 1 1 [x] rfl _ (lit1_C _ x) (Nat.le_refl _) (Wd.one (by omega)) (by omega)).mono ?_); rw [wv_one]; rintro e w_9 ⟨A9, c9, rfl, h9, h3, hb⟩; replace HB := Aside0.mk (below_step (below_alloc HB.out _) hb); replace HP := Aside0.mk (Kd.C_below (Kd.C_alloc HP.out _) hb); have HV := Aside0.mk h3; clear h3; clear hb)
    | (go_at_call 22; (with_reducible refine (rbits_calls A9 _ c9 x.toNat rfl _ HV.out h9 (by omega)).mono ?_); rintro e w_10 ⟨rfl, hb⟩; replace HB := Aside0.mk (below_step HB.out hb); replace HP := Aside0.mk (Kd.C_below HP.out hb); replace HV := Aside0.mk (Kd.C_below HV.out hb); clear hb)
    | (go_at_call 24; (with_reducible refine (rpower_calls A9 _ c9 x.toNat rfl 64 m (by omega) (by omega) (by omega) (by omega) _ HV.out h9).mono ?_); rintro e w_11 ⟨A11, c11, rfl, h11, h3, hb⟩; replace HB := Aside0.mk (below_step HB.out hb); replace HP := Aside0.mk (Kd.C_below HP.out hb); have HU := Aside0.mk h3; clear h3; clear hb)
    | (go_at_call 14; (with_reducible refine (rwords_calls A11 _ c11 (x.toNat ^ m) rfl _ HU.out h11 (by have := hzp.1; omega)).mono ?_); rintro e w_12 ⟨A12, c12, rfl, h12, h3, hb⟩; replace HB := Aside0.mk (below_step HB.out hb); replace HP := Aside0.mk (Kd.C_below HP.out hb); have HY := Aside0.mk h3; clear h3; clear hb)
    | (go_at_call 12; (with_reducible refine (wsame_calls AP _ cP (nw (x.toNat ^ m)) rfl A12 _ c12 (nw (x.toNat ^ m)) rfl _ HP.out hP1 HY.out h12 hzp.2).mono ?_); rw [decide_eq_true (rfl : nw (x.toNat ^ m) = nw (x.toNat ^ m))]; rintro e w_13 ⟨rfl, hb⟩; replace HB := Aside0.mk (below_step HB.out hb); clear hb)
    | fail)
  all_goals (go_ret; exact ⟨rfl, HB.out⟩)

set_option maxHeartbeats 3200000 in
set_option maxRecDepth 100000 in
theorem natPowers_ZeroNil (A0 : Option Addr) (n0 c0 : Nat) (l0 : List Int) (hn0 : l0.length = n0) (m : Nat) (hm : 60 < m) (w : World) (hr0 : Kd.C (Kd.int .u64) w A0 l0.length l0) (hc0 : n0 ≤ c0) (hw : Wd l0) (hl0 : n0 ≤ 20) (hz : wv l0 = 0) :
    Calls Try.prog 4 #[.slice A0 n0 c0, .int .u64 0, .int .i64 m] w (Tells (.bool true) w) := by
  have hz1 := dg_len_wv hw hn0 (by omega)
  have hv1 : bl (wv l0) ≤ 1280 := Nat.le_trans ((bl_le _ _).2 (wv_lt hw)) (by omega)
  have HR := Aside0.mk hr0
  have HW := Aside0.mk hw
  have HN := Aside0.mk hn0
  clear hr0 hw hn0
  have hD : (dg (wv l0)).length = 0 := by rw [hz, dg_zero]; rfl
  have HZ := Aside0.mk hz
  clear hz
  go_enter Try.func4, Try.ntmps4
  go_wp2_with (first
    | (go_at_call 11; (with_reducible refine (awake_calls _).mono ?_); rintro e w1 ⟨rfl, hb⟩; have HB := Aside0.mk hb; replace HR := Aside0.mk (Kd.C_below HR.out hb); clear hb)
    | (go_at_call 19; (with_reducible refine (words_calls A0 n0 c0 l0 HN.out _ HR.out hc0 HW.out (by omega)).mono ?_); rintro e w2 ⟨A2, c2, rfl, h2, h3, h4⟩; replace HB := Aside0.mk (below_step HB.out h4); replace HR := Aside0.mk (Kd.C_below HR.out h4); have HX := Aside0.mk h3; clear h3 h4)
    | (go_at_call 20; (with_reducible refine (Go.Proofs.Ytjkelnnjfpcapaa.Num.calls_none (nleft_zero A0 n0 c0 l0 HN.out m (by omega) _ HR.out hc0 HW.out (by omega) HZ.out)).mono ?_); rintro e w_3 ⟨AL, cL, rfl, hb⟩; replace HB := Aside0.mk (below_step HB.out hb); replace HX := Aside0.mk (Kd.C_below HX.out hb); clear hb)
    | (go_at_call 21; (with_reducible refine (calls_none (npower_zero m (by omega) _)).mono ?_); rintro e w_4 ⟨AP, cP, rfl, hb⟩; replace HB := Aside0.mk (below_step HB.out hb); replace HX := Aside0.mk (Kd.C_below HX.out hb); clear hb)
    | (go_at_call 22; (with_reducible refine (rbits_calls A2 _ c2 (wv l0) rfl _ HX.out h2 (by omega)).mono ?_); rintro e w_5 ⟨rfl, hb⟩; replace HB := Aside0.mk (below_step HB.out hb); replace HX := Aside0.mk (Kd.C_below HX.out hb); clear hb)
    | (go_at_call 19; (with_reducible refine (words_calls _ 1 1 [0] rfl _ (lit1_C _ 0) (Nat.le_refl _) (Wd.one (by omega)) (by omega)).mono ?_); rw [wv_one]; rintro e w_9 ⟨A9, c9, rfl, h9, h3, hb⟩; replace HB := Aside0.mk (below_step (below_alloc HB.out _) hb); have HV := Aside0.mk h3; clear h3; clear hb)
    | fail)
  all_goals (go_ret; exact ⟨rfl, HB.out⟩)

set_option maxHeartbeats 3200000 in
set_option maxRecDepth 100000 in
theorem natPowers_ZeroOne (A0 : Option Addr) (n0 c0 : Nat) (l0 : List Int) (hn0 : l0.length = n0) (m : Nat) (hm : 60 < m) (w : World) (hr0 : Kd.C (Kd.int .u64) w A0 l0.length l0) (hc0 : n0 ≤ c0) (hw : Wd l0) (hl0 : n0 ≤ 20) (hz : wv l0 = 0) :
    Calls Try.prog 4 #[.slice A0 n0 c0, .int .u64 1, .int .i64 m] w (Tells (.bool true) w) := by
  have hz1 := dg_len_wv hw hn0 (by omega)
  have hv1 : bl (wv l0) ≤ 1280 := Nat.le_trans ((bl_le _ _).2 (wv_lt hw)) (by omega)
  have HR := Aside0.mk hr0
  have HW := Aside0.mk hw
  have HN := Aside0.mk hn0
  clear hr0 hw hn0
  have hD : (dg (wv l0)).length = 0 := by rw [hz, dg_zero]; rfl
  have HZ := Aside0.mk hz
  clear hz
  go_enter Try.func4, Try.ntmps4
  go_wp2_with (first
    | (go_at_call 11; (with_reducible refine (awake_calls _).mono ?_); rintro e w1 ⟨rfl, hb⟩; have HB := Aside0.mk hb; replace HR := Aside0.mk (Kd.C_below HR.out hb); clear hb)
    | (go_at_call 19; (with_reducible refine (words_calls A0 n0 c0 l0 HN.out _ HR.out hc0 HW.out (by omega)).mono ?_); rintro e w2 ⟨A2, c2, rfl, h2, h3, h4⟩; replace HB := Aside0.mk (below_step HB.out h4); replace HR := Aside0.mk (Kd.C_below HR.out h4); have HX := Aside0.mk h3; clear h3 h4)
    | (go_at_call 20; (with_reducible refine (Go.Proofs.Ytjkelnnjfpcapaa.Num.calls_none (nleft_zero A0 n0 c0 l0 HN.out m (by omega) _ HR.out hc0 HW.out (by omega) HZ.out)).mono ?_); rintro e w_3 ⟨AL, cL, rfl, hb⟩; replace HB := Aside0.mk (below_step HB.out hb); replace HX := Aside0.mk (Kd.C_below HX.out hb); clear hb)
    | (go_at_call 21; (with_reducible refine (npower_one 1 m (Or.inl rfl) _).mono ?_); rintro e w_4 ⟨AP, cP, rfl, hP1, h3, hb⟩; rw [nw_one] at hP1 h3; rw [nw_one]; replace HB := Aside0.mk (below_step HB.out hb); replace HX := Aside0.mk (Kd.C_below HX.out hb); have HP := Aside0.mk h3; clear h3; clear hb)
    | (go_at_call 22; (with_reducible refine (rbits_calls A2 _ c2 (wv l0) rfl _ HX.out h2 (by omega)).mono ?_); rintro e w_5 ⟨rfl, hb⟩; replace HB := Aside0.mk (below_step HB.out hb); replace HX := Aside0.mk (Kd.C_below HX.out hb); replace HP := Aside0.mk (Kd.C_below HP.out hb); clear hb)
    | (go_at_call 19; (with_reducible refine (words_calls _ 1 1 [1] rfl _ (lit1_C _ 1) (Nat.le_refl _) (Wd.one (by omega)) (by omega)).mono ?_); rw [wv_one]; rintro e w_9 ⟨A9, c9, rfl, h9, h3, hb⟩; replace HB := Aside0.mk (below_step (below_alloc HB.out _) hb); replace HP := Aside0.mk (Kd.C_below (Kd.C_alloc HP.out _) hb); have HV := Aside0.mk h3; clear h3; clear hb)
    | (go_at_call 12; (with_reducible refine (wsame_calls AP 1 cP [1] rfl _ 1 1 [1] rfl _ (Kd.C_alloc HP.out _) (by simpa using hP1) (lit1_C _ 1) (Nat.le_refl _) (by omega)).mono ?_); rw [decide_eq_true (rfl : ([1] : List Int) = [1])]; rintro e w_13 ⟨rfl, hb⟩; replace HB := Aside0.mk (below_step (below_alloc HB.out _) hb); clear hb)
    | fail)
  all_goals (go_ret; exact ⟨rfl, HB.out⟩)

set_option maxHeartbeats 3200000 in
set_option maxRecDepth 100000 in
theorem natPowers_ZeroOver (A0 : Option Addr) (n0 c0 : Nat) (l0 : List Int) (hn0 : l0.length = n0) (x : Int) (m : Nat) (hx2 : 2 ≤ x) (hxu : x < 18446744073709551616) (hp : 262144 / (bl x.toNat : Int) < (m : Int)) (w : World) (hr0 : Kd.C (Kd.int .u64) w A0 l0.length l0) (hc0 : n0 ≤ c0) (hw : Wd l0) (hl0 : n0 ≤ 20) (hz : wv l0 = 0) :
    Calls Try.prog 4 #[.slice A0 n0 c0, .int .u64 x, .int .i64 m] w (Tells (.bool true) w) := by
  have hz1 := dg_len_wv hw hn0 (by omega)
  have hv1 : bl (wv l0) ≤ 1280 := Nat.le_trans ((bl_le _ _).2 (wv_lt hw)) (by omega)
  have HR := Aside0.mk hr0
  have HW := Aside0.mk hw
  have HN := Aside0.mk hn0
  clear hr0 hw hn0
  have hD : (dg (wv l0)).length = 0 := by rw [hz, dg_zero]; rfl
  have HZ := Aside0.mk hz
  clear hz
  have hb64 : bl x.toNat ≤ 64 := (bl_le _ _).2 (by omega)
  have hq1 : 1 ≤ bl x.toNat := by rw [bl_pos (by omega)]; omega
  have hzx : (dg x.toNat).length ≤ 1000 := dg_len_bits _ 64 (by omega) 1000 (by omega)
  go_enter Try.func4, Try.ntmps4
  go_wp2_with (first
    | (go_at_call 11; (with_reducible refine (awake_calls _).mono ?_); rintro e w1 ⟨rfl, hb⟩; have HB := Aside0.mk hb; replace HR := Aside0.mk (Kd.C_below HR.out hb); clear hb)
    | (go_at_call 19; (with_reducible refine (words_calls A0 n0 c0 l0 HN.out _ HR.out hc0 HW.out (by omega)).mono ?_); rintro e w2 ⟨A2, c2, rfl, h2, h3, h4⟩; replace HB := Aside0.mk (below_step HB.out h4); replace HR := Aside0.mk (Kd.C_below HR.out h4); have HX := Aside0.mk h3; clear h3 h4)
    | (go_at_call 20; (with_reducible refine (Go.Proofs.Ytjkelnnjfpcapaa.Num.calls_none (nleft_zero A0 n0 c0 l0 HN.out m (by omega) _ HR.out hc0 HW.out (by omega) HZ.out)).mono ?_); rintro e w_3 ⟨AL, cL, rfl, hb⟩; replace HB := Aside0.mk (below_step HB.out hb); replace HX := Aside0.mk (Kd.C_below HX.out hb); clear hb)
    | (go_at_call 21; (with_reducible refine (calls_none (npower_lim x m ⟨hx2, hxu⟩ hp _)).mono ?_); rintro e w_4 ⟨AP, cP, rfl, hb⟩; replace HB := Aside0.mk (below_step HB.out hb); replace HX := Aside0.mk (Kd.C_below HX.out hb); clear hb)
    | (go_at_call 22; (with_reducible refine (rbits_calls A2 _ c2 (wv l0) rfl _ HX.out h2 (by omega)).mono ?_); rintro e w_5 ⟨rfl, hb⟩; replace HB := Aside0.mk (below_step HB.out hb); replace HX := Aside0.mk (Kd.C_below HX.out hb); clear hb)
    | (go_at_call 19; (with_reducible refine (words_calls _ 1 1 [x] rfl _ (lit1_C _ x) (Nat.le_refl _) (Wd.one (by omega)) (by omega)).mono ?_); rw [wv_one]; rintro e w_9 ⟨A9, c9, rfl, h9, h3, hb⟩; replace HB := Aside0.mk (below_step (below_alloc HB.out _) hb); have HV := Aside0.mk h3; clear h3; clear hb)
    | (go_at_call 22; (with_reducible refine (rbits_calls A9 _ c9 x.toNat rfl _ HV.out h9 (by omega)).mono ?_); rintro e w_10 ⟨rfl, hb⟩; replace HB := Aside0.mk (below_step HB.out hb); replace HV := Aside0.mk (Kd.C_below HV.out hb); clear hb)
    | fail)
  all_goals (go_ret; exact ⟨rfl, HB.out⟩)

set_option maxHeartbeats 3200000 in
set_option maxRecDepth 100000 in
theorem natPowers_ZeroBig (A0 : Option Addr) (n0 c0 : Nat) (l0 : List Int) (hn0 : l0.length = n0) (x : Int) (m : Nat) (hx2 : 2 ≤ x) (hxu : x < 18446744073709551616) (hm : 60 < m) (hp : ¬ (262144 / (bl x.toNat : Int) < (m : Int))) (w : World) (hr0 : Kd.C (Kd.int .u64) w A0 l0.length l0) (hc0 : n0 ≤ c0) (hw : Wd l0) (hl0 : n0 ≤ 20) (hz : wv l0 = 0) :
    Calls Try.prog 4 #[.slice A0 n0 c0, .int .u64 x, .int .i64 m] w (Tells (.bool true) w) := by
  have hz1 := dg_len_wv hw hn0 (by omega)
  have hv1 : bl (wv l0) ≤ 1280 := Nat.le_trans ((bl_le _ _).2 (wv_lt hw)) (by omega)
  have HR := Aside0.mk hr0
  have HW := Aside0.mk hw
  have HN := Aside0.mk hn0
  clear hr0 hw hn0
  have hD : (dg (wv l0)).length = 0 := by rw [hz, dg_zero]; rfl
  have HPL := Aside0.mk hp
  have HZ := Aside0.mk hz
  clear hz
  have hb64 : bl x.toNat ≤ 64 := (bl_le _ _).2 (by omega)
  have hq1 : 1 ≤ bl x.toNat := by rw [bl_pos (by omega)]; omega
  have hzx : (dg x.toNat).length ≤ 1000 := dg_len_bits _ 64 (by omega) 1000 (by omega)
  go_enter Try.func4, Try.ntmps4
  go_wp2_with (first
    | (go_at_call 11; (with_reducible refine (awake_calls _).mono ?_); rintro e w1 ⟨rfl, hb⟩; have HB := Aside0.mk hb; replace HR := Aside0.mk (Kd.C_below HR.out hb); clear hb)
    | (go_at_call 19; (with_reducible refine (words_calls A0 n0 c0 l0 HN.out _ HR.out hc0 HW.out (by omega)).mono ?_); rintro e w2 ⟨A2, c2, rfl, h2, h3, h4⟩; replace HB := Aside0.mk (below_step HB.out h4); replace HR := Aside0.mk (Kd.C_below HR.out h4); have HX := Aside0.mk h3; clear h3 h4)
    | (go_at_call 20; (with_reducible refine (Go.Proofs.Ytjkelnnjfpcapaa.Num.calls_none (nleft_zero A0 n0 c0 l0 HN.out m (by omega) _ HR.out hc0 HW.out (by omega) HZ.out)).mono ?_); rintro e w_3 ⟨AL, cL, rfl, hb⟩; replace HB := Aside0.mk (below_step HB.out hb); replace HX := Aside0.mk (Kd.C_below HX.out hb); clear hb)
    | (go_at_call 21; (with_reducible refine (npower_calls x m ⟨by omega, hxu⟩ (Or.inr (by have := HPL.out; omega)) _).mono ?_); rintro e w_4 ⟨AP, cP, rfl, hP1, h3, hb⟩; replace HB := Aside0.mk (below_step HB.out hb); replace HX := Aside0.mk (Kd.C_below HX.out hb); have HP := Aside0.mk h3; clear h3; clear hb)
    | (go_at_call 22; (with_reducible refine (rbits_calls A2 _ c2 (wv l0) rfl _ HX.out h2 (by omega)).mono ?_); rintro e w_5 ⟨rfl, hb⟩; replace HB := Aside0.mk (below_step HB.out hb); replace HX := Aside0.mk (Kd.C_below HX.out hb); replace HP := Aside0.mk (Kd.C_below HP.out hb); clear hb)
    | (go_at_call 19; (with_reducible refine (words_calls _ 1 1 [x] rfl _ (lit1_C _ x) (Nat.le_refl _) (Wd.one (by omega)) (by omega)).mono ?_); rw [wv_one]; rintro e w_9 ⟨A9, c9, rfl, h9, h3, hb⟩; replace HB := Aside0.mk (below_step (below_alloc HB.out _) hb); replace HP := Aside0.mk (Kd.C_below (Kd.C_alloc HP.out _) hb); have HV := Aside0.mk h3; clear h3; clear hb)
    | (go_at_call 22; (with_reducible refine (rbits_calls A9 _ c9 x.toNat rfl _ HV.out h9 (by omega)).mono ?_); rintro e w_10 ⟨rfl, hb⟩; replace HB := Aside0.mk (below_step HB.out hb); replace HP := Aside0.mk (Kd.C_below HP.out hb); replace HV := Aside0.mk (Kd.C_below HV.out hb); clear hb)
    | fail)
  all_goals (go_ret; exact ⟨rfl, HB.out⟩)

set_option maxHeartbeats 3200000 in
set_option maxRecDepth 100000 in
theorem natPowers_ZeroSmall (A0 : Option Addr) (n0 c0 : Nat) (l0 : List Int) (hn0 : l0.length = n0) (x : Int) (m : Nat) (hx0 : 0 ≤ x) (hxu : x < 18446744073709551616) (hm : m ≤ 60) (w : World) (hr0 : Kd.C (Kd.int .u64) w A0 l0.length l0) (hc0 : n0 ≤ c0) (hw : Wd l0) (hl0 : n0 ≤ 20) (hz : wv l0 = 0) :
    Calls Try.prog 4 #[.slice A0 n0 c0, .int .u64 x, .int .i64 m] w (Tells (.bool true) w) := by
  have hz1 := dg_len_wv hw hn0 (by omega)
  have hv1 : bl (wv l0) ≤ 1280 := Nat.le_trans ((bl_le _ _).2 (wv_lt hw)) (by omega)
  have HR := Aside0.mk hr0
  have HW := Aside0.mk hw
  have HN := Aside0.mk hn0
  clear hr0 hw hn0
  have hD : (dg (wv l0)).length = 0 := by rw [hz, dg_zero]; rfl
  have HZ := Aside0.mk hz
  clear hz
  have hb64 : bl x.toNat ≤ 64 := (bl_le _ _).2 (by omega)
  have HPL : Aside0 (x < 2 ∨ ¬ (262144 / (bl x.toNat : Int) < (m : Int))) := ⟨by
    by_cases h : x < 2
    · exact Or.inl h
    · refine Or.inr ?_
      have : 1 ≤ bl x.toNat := by rw [bl_pos (by omega)]; omega
      have h3 : (4096 : Int) ≤ 262144 / (bl x.toNat : Int) := Int.le_ediv_of_mul_le (by omega) (by omega)
      omega⟩
  have hpp : 2 ≤ x → ¬ (262144 / (bl x.toNat : Int) < (m : Int)) := fun h => HPL.out.resolve_left (by omega)
  have hp : 2 ≤ x → (4096 : Int) ≤ 262144 / (bl x.toNat : Int) := fun h => by
    have : 1 ≤ bl x.toNat := by rw [bl_pos (by omega)]; omega
    exact Int.le_ediv_of_mul_le (by omega) (by omega)
  clear hpp
  have hq1 : 2 ≤ x → 1 ≤ bl x.toNat := fun h => by rw [bl_pos (by omega)]; omega
  have hzx : (dg x.toNat).length ≤ 1000 := dg_len_bits _ 64 (by omega) 1000 (by omega)
  have hzp : (dg (x.toNat ^ m)).length ≤ 400000 ∧ (nw (x.toNat ^ m)).length ≤ 1000000 := by
    have hlt : x.toNat ^ m ≤ 2 ^ (64 * m) := by rw [Nat.pow_mul]; exact Nat.pow_le_pow_left (by omega) m
    have hlt2 : x.toNat ^ m < 2 ^ (64 * m + 1) := Nat.lt_of_le_of_lt hlt (Nat.pow_lt_pow_right (by omega) (by omega))
    exact ⟨dg_len_bits _ _ hlt2 _ (by omega), nw_len_le hlt2 (by omega)⟩
  go_enter Try.func4, Try.ntmps4
  go_wp2_with (first
    | (go_at_call 11; (with_reducible refine (awake_calls _).mono ?_); rintro e w1 ⟨rfl, hb⟩; have HB := Aside0.mk hb; replace HR := Aside0.mk (Kd.C_below HR.out hb); clear hb)
    | (go_at_call 19; (with_reducible refine (words_calls A0 n0 c0 l0 HN.out _ HR.out hc0 HW.out (by omega)).mono ?_); rintro e w2 ⟨A2, c2, rfl, h2, h3, h4⟩; replace HB := Aside0.mk (below_step HB.out h4); replace HR := Aside0.mk (Kd.C_below HR.out h4); have HX := Aside0.mk h3; clear h3 h4)
    | (go_at_call 20; (with_reducible refine (Go.Proofs.Ytjkelnnjfpcapaa.Num.calls_none (nleft_zero A0 n0 c0 l0 HN.out m (by omega) _ HR.out hc0 HW.out (by omega) HZ.out)).mono ?_); rintro e w_3 ⟨AL, cL, rfl, hb⟩; replace HB := Aside0.mk (below_step HB.out hb); replace HX := Aside0.mk (Kd.C_below HX.out hb); clear hb)
    | (go_at_call 21; (with_reducible refine (npower_calls x m ⟨hx0, hxu⟩ (by have := HPL.out; omega) _).mono ?_); rintro e w_4 ⟨AP, cP, rfl, hP1, h3, hb⟩; replace HB := Aside0.mk (below_step HB.out hb); replace HX := Aside0.mk (Kd.C_below HX.out hb); have HP := Aside0.mk h3; clear h3; clear hb)
    | (go_at_call 22; (with_reducible refine (rbits_calls A2 _ c2 (wv l0) rfl _ HX.out h2 (by omega)).mono ?_); rintro e w_5 ⟨rfl, hb⟩; replace HB := Aside0.mk (below_step HB.out hb); replace HX := Aside0.mk (Kd.C_below HX.out hb); replace HP := Aside0.mk (Kd.C_below HP.out hb); clear hb)
    | (go_at_call 19; (with_reducible refine (words_calls _ 1 1 [x] rfl _ (lit1_C _ x) (Nat.le_refl _) (Wd.one (by omega)) (by omega)).mono ?_); rw [wv_one]; rintro e w_9 ⟨A9, c9, rfl, h9, h3, hb⟩; replace HB := Aside0.mk (below_step (below_alloc HB.out _) hb); replace HP := Aside0.mk (Kd.C_below (Kd.C_alloc HP.out _) hb); have HV := Aside0.mk h3; clear h3; clear hb)
    | (go_at_call 22; (with_reducible refine (rbits_calls A9 _ c9 x.toNat rfl _ HV.out h9 (by omega)).mono ?_); rintro e w_10 ⟨rfl, hb⟩; replace HB := Aside0.mk (below_step HB.out hb); replace HP := Aside0.mk (Kd.C_below HP.out hb); replace HV := Aside0.mk (Kd.C_below HV.out hb); clear hb)
    | (go_at_call 24; (with_reducible refine (rpower_calls A9 _ c9 x.toNat rfl 64 m (by omega) (by omega) (by omega) (by omega) _ HV.out h9).mono ?_); rintro e w_11 ⟨A11, c11, rfl, h11, h3, hb⟩; replace HB := Aside0.mk (below_step HB.out hb); replace HP := Aside0.mk (Kd.C_below HP.out hb); have HU := Aside0.mk h3; clear h3; clear hb)
    | (go_at_call 14; (with_reducible refine (rwords_calls A11 _ c11 (x.toNat ^ m) rfl _ HU.out h11 (by have := hzp.1; omega)).mono ?_); rintro e w_12 ⟨A12, c12, rfl, h12, h3, hb⟩; replace HB := Aside0.mk (below_step HB.out hb); replace HP := Aside0.mk (Kd.C_below HP.out hb); have HY := Aside0.mk h3; clear h3; clear hb)
    | (go_at_call 12; (with_reducible refine (wsame_calls AP _ cP (nw (x.toNat ^ m)) rfl A12 _ c12 (nw (x.toNat ^ m)) rfl _ HP.out hP1 HY.out h12 hzp.2).mono ?_); rw [decide_eq_true (rfl : nw (x.toNat ^ m) = nw (x.toNat ^ m))]; rintro e w_13 ⟨rfl, hb⟩; replace HB := Aside0.mk (below_step HB.out hb); clear hb)
    | fail)
  all_goals (go_ret; exact ⟨rfl, HB.out⟩)

set_option maxHeartbeats 3200000 in
set_option maxRecDepth 100000 in
theorem natPowers_SomeNil (A0 : Option Addr) (n0 c0 : Nat) (l0 : List Int) (hn0 : l0.length = n0) (m : Nat) (hm : 60 < m) (w : World) (hr0 : Kd.C (Kd.int .u64) w A0 l0.length l0) (hc0 : n0 ≤ c0) (hw : Wd l0) (hl0 : n0 ≤ 20) (hz : wv l0 ≠ 0) (hlim : ¬ (262144 - (bl (wv l0) : Int) < (m : Int))) :
    Calls Try.prog 4 #[.slice A0 n0 c0, .int .u64 0, .int .i64 m] w (Tells (.bool true) w) := by
  have hz1 := dg_len_wv hw hn0 (by omega)
  have hv1 : bl (wv l0) ≤ 1280 := Nat.le_trans ((bl_le _ _).2 (wv_lt hw)) (by omega)
  have HR := Aside0.mk hr0
  have HW := Aside0.mk hw
  have HN := Aside0.mk hn0
  clear hr0 hw hn0
  have hD : 0 < (dg (wv l0)).length := dg_len_pos hz
  have HLIM := Aside0.mk hlim
  have HZ := Aside0.mk hz
  clear hz
  have hzl : m ≤ 2000 → (dg (wv l0 * 2 ^ m)).length ≤ 400000 ∧ (nw (wv l0 * 2 ^ m)).length ≤ 1000000 := fun h => by
    obtain ⟨B, hB⟩ : ∃ B, B = 1280 := ⟨_, rfl⟩
    rw [← hB] at hv1
    have hlt : wv l0 * 2 ^ m < 2 ^ (B + m) := by
      rw [Nat.pow_add]
      exact Nat.mul_lt_mul_of_pos_right ((bl_le B _).1 hv1) (Nat.pow_pos (by omega))
    refine ⟨dg_len_bits _ _ hlt _ (by omega), nw_len_le hlt (by omega)⟩
  go_enter Try.func4, Try.ntmps4
  go_wp2_with (first
    | (go_at_call 11; (with_reducible refine (awake_calls _).mono ?_); rintro e w1 ⟨rfl, hb⟩; have HB := Aside0.mk hb; replace HR := Aside0.mk (Kd.C_below HR.out hb); clear hb)
    | (go_at_call 19; (with_reducible refine (words_calls A0 n0 c0 l0 HN.out _ HR.out hc0 HW.out (by omega)).mono ?_); rintro e w2 ⟨A2, c2, rfl, h2, h3, h4⟩; replace HB := Aside0.mk (below_step HB.out h4); replace HR := Aside0.mk (Kd.C_below HR.out h4); have HX := Aside0.mk h3; clear h3 h4)
    | (go_at_call 20; (with_reducible refine (nleft_calls A0 n0 c0 l0 HN.out m _ HR.out hc0 HW.out (by omega) HZ.out (by have := HLIM.out; omega)).mono ?_); rintro e w_3 ⟨AL, cL, rfl, hL1, h3, hb⟩; replace HB := Aside0.mk (below_step HB.out hb); replace HX := Aside0.mk (Kd.C_below HX.out hb); have HL := Aside0.mk h3; clear h3; clear hb)
    | (go_at_call 21; (with_reducible refine (calls_none (npower_zero m (by omega) _)).mono ?_); rintro e w_4 ⟨AP, cP, rfl, hb⟩; replace HB := Aside0.mk (below_step HB.out hb); replace HX := Aside0.mk (Kd.C_below HX.out hb); replace HL := Aside0.mk (Kd.C_below HL.out hb); clear hb)
    | (go_at_call 22; (with_reducible refine (rbits_calls A2 _ c2 (wv l0) rfl _ HX.out h2 (by omega)).mono ?_); rintro e w_5 ⟨rfl, hb⟩; replace HB := Aside0.mk (below_step HB.out hb); replace HX := Aside0.mk (Kd.C_below HX.out hb); replace HL := Aside0.mk (Kd.C_below HL.out hb); clear hb)
    | (go_at_call 23; (with_reducible refine (shift_calls A2 _ c2 (wv l0) rfl m (by omega) _ HX.out h2 (by omega)).mono ?_); rintro e w_6 ⟨A6, c6, rfl, h6, h3, hb⟩; replace HB := Aside0.mk (below_step HB.out hb); replace HX := Aside0.mk (Kd.C_below HX.out hb); replace HL := Aside0.mk (Kd.C_below HL.out hb); have HS := Aside0.mk h3; clear h3; clear hb)
    | (go_at_call 14; (with_reducible refine (rwords_calls A6 _ c6 (wv l0 * 2 ^ m) rfl _ HS.out h6 (by have := (hzl (by omega)).1; omega)).mono ?_); rintro e w_7 ⟨A7, c7, rfl, h7, h3, hb⟩; replace HB := Aside0.mk (below_step HB.out hb); replace HX := Aside0.mk (Kd.C_below HX.out hb); replace HL := Aside0.mk (Kd.C_below HL.out hb); have HT := Aside0.mk h3; clear h3; clear hb)
    | (go_at_call 12; (with_reducible refine (wsame_calls AL _ cL (nw (wv l0 * 2 ^ m)) rfl A7 _ c7 (nw (wv l0 * 2 ^ m)) rfl _ HL.out hL1 HT.out h7 (hzl (by omega)).2).mono ?_); rw [decide_eq_true (rfl : nw (wv l0 * 2 ^ m) = nw (wv l0 * 2 ^ m))]; rintro e w_8 ⟨rfl, hb⟩; replace HB := Aside0.mk (below_step HB.out hb); replace HX := Aside0.mk (Kd.C_below HX.out hb); replace HL := Aside0.mk (Kd.C_below HL.out hb); clear hb)
    | (go_at_call 19; (with_reducible refine (words_calls _ 1 1 [0] rfl _ (lit1_C _ 0) (Nat.le_refl _) (Wd.one (by omega)) (by omega)).mono ?_); rw [wv_one]; rintro e w_9 ⟨A9, c9, rfl, h9, h3, hb⟩; replace HB := Aside0.mk (below_step (below_alloc HB.out _) hb); have HV := Aside0.mk h3; clear h3; clear hb)
    | fail)
  all_goals (go_ret; exact ⟨rfl, HB.out⟩)

set_option maxHeartbeats 3200000 in
set_option maxRecDepth 100000 in
theorem natPowers_SomeOne (A0 : Option Addr) (n0 c0 : Nat) (l0 : List Int) (hn0 : l0.length = n0) (m : Nat) (hm : 60 < m) (w : World) (hr0 : Kd.C (Kd.int .u64) w A0 l0.length l0) (hc0 : n0 ≤ c0) (hw : Wd l0) (hl0 : n0 ≤ 20) (hz : wv l0 ≠ 0) (hlim : ¬ (262144 - (bl (wv l0) : Int) < (m : Int))) :
    Calls Try.prog 4 #[.slice A0 n0 c0, .int .u64 1, .int .i64 m] w (Tells (.bool true) w) := by
  have hz1 := dg_len_wv hw hn0 (by omega)
  have hv1 : bl (wv l0) ≤ 1280 := Nat.le_trans ((bl_le _ _).2 (wv_lt hw)) (by omega)
  have HR := Aside0.mk hr0
  have HW := Aside0.mk hw
  have HN := Aside0.mk hn0
  clear hr0 hw hn0
  have hD : 0 < (dg (wv l0)).length := dg_len_pos hz
  have HLIM := Aside0.mk hlim
  have HZ := Aside0.mk hz
  clear hz
  have hzl : m ≤ 2000 → (dg (wv l0 * 2 ^ m)).length ≤ 400000 ∧ (nw (wv l0 * 2 ^ m)).length ≤ 1000000 := fun h => by
    obtain ⟨B, hB⟩ : ∃ B, B = 1280 := ⟨_, rfl⟩
    rw [← hB] at hv1
    have hlt : wv l0 * 2 ^ m < 2 ^ (B + m) := by
      rw [Nat.pow_add]
      exact Nat.mul_lt_mul_of_pos_right ((bl_le B _).1 hv1) (Nat.pow_pos (by omega))
    refine ⟨dg_len_bits _ _ hlt _ (by omega), nw_len_le hlt (by omega)⟩
  go_enter Try.func4, Try.ntmps4
  go_wp2_with (first
    | (go_at_call 11; (with_reducible refine (awake_calls _).mono ?_); rintro e w1 ⟨rfl, hb⟩; have HB := Aside0.mk hb; replace HR := Aside0.mk (Kd.C_below HR.out hb); clear hb)
    | (go_at_call 19; (with_reducible refine (words_calls A0 n0 c0 l0 HN.out _ HR.out hc0 HW.out (by omega)).mono ?_); rintro e w2 ⟨A2, c2, rfl, h2, h3, h4⟩; replace HB := Aside0.mk (below_step HB.out h4); replace HR := Aside0.mk (Kd.C_below HR.out h4); have HX := Aside0.mk h3; clear h3 h4)
    | (go_at_call 20; (with_reducible refine (nleft_calls A0 n0 c0 l0 HN.out m _ HR.out hc0 HW.out (by omega) HZ.out (by have := HLIM.out; omega)).mono ?_); rintro e w_3 ⟨AL, cL, rfl, hL1, h3, hb⟩; replace HB := Aside0.mk (below_step HB.out hb); replace HX := Aside0.mk (Kd.C_below HX.out hb); have HL := Aside0.mk h3; clear h3; clear hb)
    | (go_at_call 21; (with_reducible refine (npower_one 1 m (Or.inl rfl) _).mono ?_); rintro e w_4 ⟨AP, cP, rfl, hP1, h3, hb⟩; rw [nw_one] at hP1 h3; rw [nw_one]; replace HB := Aside0.mk (below_step HB.out hb); replace HX := Aside0.mk (Kd.C_below HX.out hb); replace HL := Aside0.mk (Kd.C_below HL.out hb); have HP := Aside0.mk h3; clear h3; clear hb)
    | (go_at_call 22; (with_reducible refine (rbits_calls A2 _ c2 (wv l0) rfl _ HX.out h2 (by omega)).mono ?_); rintro e w_5 ⟨rfl, hb⟩; replace HB := Aside0.mk (below_step HB.out hb); replace HX := Aside0.mk (Kd.C_below HX.out hb); replace HL := Aside0.mk (Kd.C_below HL.out hb); replace HP := Aside0.mk (Kd.C_below HP.out hb); clear hb)
    | (go_at_call 23; (with_reducible refine (shift_calls A2 _ c2 (wv l0) rfl m (by omega) _ HX.out h2 (by omega)).mono ?_); rintro e w_6 ⟨A6, c6, rfl, h6, h3, hb⟩; replace HB := Aside0.mk (below_step HB.out hb); replace HX := Aside0.mk (Kd.C_below HX.out hb); replace HL := Aside0.mk (Kd.C_below HL.out hb); replace HP := Aside0.mk (Kd.C_below HP.out hb); have HS := Aside0.mk h3; clear h3; clear hb)
    | (go_at_call 14; (with_reducible refine (rwords_calls A6 _ c6 (wv l0 * 2 ^ m) rfl _ HS.out h6 (by have := (hzl (by omega)).1; omega)).mono ?_); rintro e w_7 ⟨A7, c7, rfl, h7, h3, hb⟩; replace HB := Aside0.mk (below_step HB.out hb); replace HX := Aside0.mk (Kd.C_below HX.out hb); replace HL := Aside0.mk (Kd.C_below HL.out hb); replace HP := Aside0.mk (Kd.C_below HP.out hb); have HT := Aside0.mk h3; clear h3; clear hb)
    | (go_at_call 12; (with_reducible refine (wsame_calls AL _ cL (nw (wv l0 * 2 ^ m)) rfl A7 _ c7 (nw (wv l0 * 2 ^ m)) rfl _ HL.out hL1 HT.out h7 (hzl (by omega)).2).mono ?_); rw [decide_eq_true (rfl : nw (wv l0 * 2 ^ m) = nw (wv l0 * 2 ^ m))]; rintro e w_8 ⟨rfl, hb⟩; replace HB := Aside0.mk (below_step HB.out hb); replace HX := Aside0.mk (Kd.C_below HX.out hb); replace HL := Aside0.mk (Kd.C_below HL.out hb); replace HP := Aside0.mk (Kd.C_below HP.out hb); clear hb)
    | (go_at_call 19; (with_reducible refine (words_calls _ 1 1 [1] rfl _ (lit1_C _ 1) (Nat.le_refl _) (Wd.one (by omega)) (by omega)).mono ?_); rw [wv_one]; rintro e w_9 ⟨A9, c9, rfl, h9, h3, hb⟩; replace HB := Aside0.mk (below_step (below_alloc HB.out _) hb); replace HP := Aside0.mk (Kd.C_below (Kd.C_alloc HP.out _) hb); have HV := Aside0.mk h3; clear h3; clear hb)
    | (go_at_call 12; (with_reducible refine (wsame_calls AP 1 cP [1] rfl _ 1 1 [1] rfl _ (Kd.C_alloc HP.out _) (by simpa using hP1) (lit1_C _ 1) (Nat.le_refl _) (by omega)).mono ?_); rw [decide_eq_true (rfl : ([1] : List Int) = [1])]; rintro e w_13 ⟨rfl, hb⟩; replace HB := Aside0.mk (below_step (below_alloc HB.out _) hb); clear hb)
    | fail)
  all_goals (go_ret; exact ⟨rfl, HB.out⟩)

set_option maxHeartbeats 3200000 in
set_option maxRecDepth 100000 in
theorem natPowers_SomeOver (A0 : Option Addr) (n0 c0 : Nat) (l0 : List Int) (hn0 : l0.length = n0) (x : Int) (m : Nat) (hx2 : 2 ≤ x) (hxu : x < 18446744073709551616) (hp : 262144 / (bl x.toNat : Int) < (m : Int)) (w : World) (hr0 : Kd.C (Kd.int .u64) w A0 l0.length l0) (hc0 : n0 ≤ c0) (hw : Wd l0) (hl0 : n0 ≤ 20) (hz : wv l0 ≠ 0) (hlim : ¬ (262144 - (bl (wv l0) : Int) < (m : Int))) :
    Calls Try.prog 4 #[.slice A0 n0 c0, .int .u64 x, .int .i64 m] w (Tells (.bool true) w) := by
  have hz1 := dg_len_wv hw hn0 (by omega)
  have hv1 : bl (wv l0) ≤ 1280 := Nat.le_trans ((bl_le _ _).2 (wv_lt hw)) (by omega)
  have HR := Aside0.mk hr0
  have HW := Aside0.mk hw
  have HN := Aside0.mk hn0
  clear hr0 hw hn0
  have hD : 0 < (dg (wv l0)).length := dg_len_pos hz
  have HLIM := Aside0.mk hlim
  have HZ := Aside0.mk hz
  clear hz
  have hb64 : bl x.toNat ≤ 64 := (bl_le _ _).2 (by omega)
  have hq1 : 1 ≤ bl x.toNat := by rw [bl_pos (by omega)]; omega
  have hzx : (dg x.toNat).length ≤ 1000 := dg_len_bits _ 64 (by omega) 1000 (by omega)
  have hzl : m ≤ 2000 → (dg (wv l0 * 2 ^ m)).length ≤ 400000 ∧ (nw (wv l0 * 2 ^ m)).length ≤ 1000000 := fun h => by
    obtain ⟨B, hB⟩ : ∃ B, B = 1280 := ⟨_, rfl⟩
    rw [← hB] at hv1
    have hlt : wv l0 * 2 ^ m < 2 ^ (B + m) := by
      rw [Nat.pow_add]
      exact Nat.mul_lt_mul_of_pos_right ((bl_le B _).1 hv1) (Nat.pow_pos (by omega))
    refine ⟨dg_len_bits _ _ hlt _ (by omega), nw_len_le hlt (by omega)⟩
  go_enter Try.func4, Try.ntmps4
  go_wp2_with (first
    | (go_at_call 11; (with_reducible refine (awake_calls _).mono ?_); rintro e w1 ⟨rfl, hb⟩; have HB := Aside0.mk hb; replace HR := Aside0.mk (Kd.C_below HR.out hb); clear hb)
    | (go_at_call 19; (with_reducible refine (words_calls A0 n0 c0 l0 HN.out _ HR.out hc0 HW.out (by omega)).mono ?_); rintro e w2 ⟨A2, c2, rfl, h2, h3, h4⟩; replace HB := Aside0.mk (below_step HB.out h4); replace HR := Aside0.mk (Kd.C_below HR.out h4); have HX := Aside0.mk h3; clear h3 h4)
    | (go_at_call 20; (with_reducible refine (nleft_calls A0 n0 c0 l0 HN.out m _ HR.out hc0 HW.out (by omega) HZ.out (by have := HLIM.out; omega)).mono ?_); rintro e w_3 ⟨AL, cL, rfl, hL1, h3, hb⟩; replace HB := Aside0.mk (below_step HB.out hb); replace HX := Aside0.mk (Kd.C_below HX.out hb); have HL := Aside0.mk h3; clear h3; clear hb)
    | (go_at_call 21; (with_reducible refine (calls_none (npower_lim x m ⟨hx2, hxu⟩ hp _)).mono ?_); rintro e w_4 ⟨AP, cP, rfl, hb⟩; replace HB := Aside0.mk (below_step HB.out hb); replace HX := Aside0.mk (Kd.C_below HX.out hb); replace HL := Aside0.mk (Kd.C_below HL.out hb); clear hb)
    | (go_at_call 22; (with_reducible refine (rbits_calls A2 _ c2 (wv l0) rfl _ HX.out h2 (by omega)).mono ?_); rintro e w_5 ⟨rfl, hb⟩; replace HB := Aside0.mk (below_step HB.out hb); replace HX := Aside0.mk (Kd.C_below HX.out hb); replace HL := Aside0.mk (Kd.C_below HL.out hb); clear hb)
    | (go_at_call 23; (with_reducible refine (shift_calls A2 _ c2 (wv l0) rfl m (by omega) _ HX.out h2 (by omega)).mono ?_); rintro e w_6 ⟨A6, c6, rfl, h6, h3, hb⟩; replace HB := Aside0.mk (below_step HB.out hb); replace HX := Aside0.mk (Kd.C_below HX.out hb); replace HL := Aside0.mk (Kd.C_below HL.out hb); have HS := Aside0.mk h3; clear h3; clear hb)
    | (go_at_call 14; (with_reducible refine (rwords_calls A6 _ c6 (wv l0 * 2 ^ m) rfl _ HS.out h6 (by have := (hzl (by omega)).1; omega)).mono ?_); rintro e w_7 ⟨A7, c7, rfl, h7, h3, hb⟩; replace HB := Aside0.mk (below_step HB.out hb); replace HX := Aside0.mk (Kd.C_below HX.out hb); replace HL := Aside0.mk (Kd.C_below HL.out hb); have HT := Aside0.mk h3; clear h3; clear hb)
    | (go_at_call 12; (with_reducible refine (wsame_calls AL _ cL (nw (wv l0 * 2 ^ m)) rfl A7 _ c7 (nw (wv l0 * 2 ^ m)) rfl _ HL.out hL1 HT.out h7 (hzl (by omega)).2).mono ?_); rw [decide_eq_true (rfl : nw (wv l0 * 2 ^ m) = nw (wv l0 * 2 ^ m))]; rintro e w_8 ⟨rfl, hb⟩; replace HB := Aside0.mk (below_step HB.out hb); replace HX := Aside0.mk (Kd.C_below HX.out hb); replace HL := Aside0.mk (Kd.C_below HL.out hb); clear hb)
    | (go_at_call 19; (with_reducible refine (words_calls _ 1 1 [x] rfl _ (lit1_C _ x) (Nat.le_refl _) (Wd.one (by omega)) (by omega)).mono ?_); rw [wv_one]; rintro e w_9 ⟨A9, c9, rfl, h9, h3, hb⟩; replace HB := Aside0.mk (below_step (below_alloc HB.out _) hb); have HV := Aside0.mk h3; clear h3; clear hb)
    | (go_at_call 22; (with_reducible refine (rbits_calls A9 _ c9 x.toNat rfl _ HV.out h9 (by omega)).mono ?_); rintro e w_10 ⟨rfl, hb⟩; replace HB := Aside0.mk (below_step HB.out hb); replace HV := Aside0.mk (Kd.C_below HV.out hb); clear hb)
    | fail)
  all_goals (go_ret; exact ⟨rfl, HB.out⟩)

set_option maxHeartbeats 3200000 in
set_option maxRecDepth 100000 in
theorem natPowers_SomeBig (A0 : Option Addr) (n0 c0 : Nat) (l0 : List Int) (hn0 : l0.length = n0) (x : Int) (m : Nat) (hx2 : 2 ≤ x) (hxu : x < 18446744073709551616) (hm : 60 < m) (hp : ¬ (262144 / (bl x.toNat : Int) < (m : Int))) (w : World) (hr0 : Kd.C (Kd.int .u64) w A0 l0.length l0) (hc0 : n0 ≤ c0) (hw : Wd l0) (hl0 : n0 ≤ 20) (hz : wv l0 ≠ 0) (hlim : ¬ (262144 - (bl (wv l0) : Int) < (m : Int))) :
    Calls Try.prog 4 #[.slice A0 n0 c0, .int .u64 x, .int .i64 m] w (Tells (.bool true) w) := by
  have hz1 := dg_len_wv hw hn0 (by omega)
  have hv1 : bl (wv l0) ≤ 1280 := Nat.le_trans ((bl_le _ _).2 (wv_lt hw)) (by omega)
  have HR := Aside0.mk hr0
  have HW := Aside0.mk hw
  have HN := Aside0.mk hn0
  clear hr0 hw hn0
  have hD : 0 < (dg (wv l0)).length := dg_len_pos hz
  have HLIM := Aside0.mk hlim
  have HPL := Aside0.mk hp
  have HZ := Aside0.mk hz
  clear hz
  have hb64 : bl x.toNat ≤ 64 := (bl_le _ _).2 (by omega)
  have hq1 : 1 ≤ bl x.toNat := by rw [bl_pos (by omega)]; omega
  have hzx : (dg x.toNat).length ≤ 1000 := dg_len_bits _ 64 (by omega) 1000 (by omega)
  have hzl : m ≤ 2000 → (dg (wv l0 * 2 ^ m)).length ≤ 400000 ∧ (nw (wv l0 * 2 ^ m)).length ≤ 1000000 := fun h => by
    obtain ⟨B, hB⟩ : ∃ B, B = 1280 := ⟨_, rfl⟩
    rw [← hB] at hv1
    have hlt : wv l0 * 2 ^ m < 2 ^ (B + m) := by
      rw [Nat.pow_add]
      exact Nat.mul_lt_mul_of_pos_right ((bl_le B _).1 hv1) (Nat.pow_pos (by omega))
    refine ⟨dg_len_bits _ _ hlt _ (by omega), nw_len_le hlt (by omega)⟩
  go_enter Try.func4, Try.ntmps4
  go_wp2_with (first
    | (go_at_call 11; (with_reducible refine (awake_calls _).mono ?_); rintro e w1 ⟨rfl, hb⟩; have HB := Aside0.mk hb; replace HR := Aside0.mk (Kd.C_below HR.out hb); clear hb)
    | (go_at_call 19; (with_reducible refine (words_calls A0 n0 c0 l0 HN.out _ HR.out hc0 HW.out (by omega)).mono ?_); rintro e w2 ⟨A2, c2, rfl, h2, h3, h4⟩; replace HB := Aside0.mk (below_step HB.out h4); replace HR := Aside0.mk (Kd.C_below HR.out h4); have HX := Aside0.mk h3; clear h3 h4)
    | (go_at_call 20; (with_reducible refine (nleft_calls A0 n0 c0 l0 HN.out m _ HR.out hc0 HW.out (by omega) HZ.out (by have := HLIM.out; omega)).mono ?_); rintro e w_3 ⟨AL, cL, rfl, hL1, h3, hb⟩; replace HB := Aside0.mk (below_step HB.out hb); replace HX := Aside0.mk (Kd.C_below HX.out hb); have HL := Aside0.mk h3; clear h3; clear hb)
    | (go_at_call 21; (with_reducible refine (npower_calls x m ⟨by omega, hxu⟩ (Or.inr (by have := HPL.out; omega)) _).mono ?_); rintro e w_4 ⟨AP, cP, rfl, hP1, h3, hb⟩; replace HB := Aside0.mk (below_step HB.out hb); replace HX := Aside0.mk (Kd.C_below HX.out hb); replace HL := Aside0.mk (Kd.C_below HL.out hb); have HP := Aside0.mk h3; clear h3; clear hb)
    | (go_at_call 22; (with_reducible refine (rbits_calls A2 _ c2 (wv l0) rfl _ HX.out h2 (by omega)).mono ?_); rintro e w_5 ⟨rfl, hb⟩; replace HB := Aside0.mk (below_step HB.out hb); replace HX := Aside0.mk (Kd.C_below HX.out hb); replace HL := Aside0.mk (Kd.C_below HL.out hb); replace HP := Aside0.mk (Kd.C_below HP.out hb); clear hb)
    | (go_at_call 23; (with_reducible refine (shift_calls A2 _ c2 (wv l0) rfl m (by omega) _ HX.out h2 (by omega)).mono ?_); rintro e w_6 ⟨A6, c6, rfl, h6, h3, hb⟩; replace HB := Aside0.mk (below_step HB.out hb); replace HX := Aside0.mk (Kd.C_below HX.out hb); replace HL := Aside0.mk (Kd.C_below HL.out hb); replace HP := Aside0.mk (Kd.C_below HP.out hb); have HS := Aside0.mk h3; clear h3; clear hb)
    | (go_at_call 14; (with_reducible refine (rwords_calls A6 _ c6 (wv l0 * 2 ^ m) rfl _ HS.out h6 (by have := (hzl (by omega)).1; omega)).mono ?_); rintro e w_7 ⟨A7, c7, rfl, h7, h3, hb⟩; replace HB := Aside0.mk (below_step HB.out hb); replace HX := Aside0.mk (Kd.C_below HX.out hb); replace HL := Aside0.mk (Kd.C_below HL.out hb); replace HP := Aside0.mk (Kd.C_below HP.out hb); have HT := Aside0.mk h3; clear h3; clear hb)
    | (go_at_call 12; (with_reducible refine (wsame_calls AL _ cL (nw (wv l0 * 2 ^ m)) rfl A7 _ c7 (nw (wv l0 * 2 ^ m)) rfl _ HL.out hL1 HT.out h7 (hzl (by omega)).2).mono ?_); rw [decide_eq_true (rfl : nw (wv l0 * 2 ^ m) = nw (wv l0 * 2 ^ m))]; rintro e w_8 ⟨rfl, hb⟩; replace HB := Aside0.mk (below_step HB.out hb); replace HX := Aside0.mk (Kd.C_below HX.out hb); replace HL := Aside0.mk (Kd.C_below HL.out hb); replace HP := Aside0.mk (Kd.C_below HP.out hb); clear hb)
    | (go_at_call 19; (with_reducible refine (words_calls _ 1 1 [x] rfl _ (lit1_C _ x) (Nat.le_refl _) (Wd.one (by omega)) (by omega)).mono ?_); rw [wv_one]; rintro e w_9 ⟨A9, c9, rfl, h9, h3, hb⟩; replace HB := Aside0.mk (below_step (below_alloc HB.out _) hb); replace HP := Aside0.mk (Kd.C_below (Kd.C_alloc HP.out _) hb); have HV := Aside0.mk h3; clear h3; clear hb)
    | (go_at_call 22; (with_reducible refine (rbits_calls A9 _ c9 x.toNat rfl _ HV.out h9 (by omega)).mono ?_); rintro e w_10 ⟨rfl, hb⟩; replace HB := Aside0.mk (below_step HB.out hb); replace HP := Aside0.mk (Kd.C_below HP.out hb); replace HV := Aside0.mk (Kd.C_below HV.out hb); clear hb)
    | fail)
  all_goals (go_ret; exact ⟨rfl, HB.out⟩)

set_option maxHeartbeats 3200000 in
set_option maxRecDepth 100000 in
theorem natPowers_SomeSmall (A0 : Option Addr) (n0 c0 : Nat) (l0 : List Int) (hn0 : l0.length = n0) (x : Int) (m : Nat) (hx0 : 0 ≤ x) (hxu : x < 18446744073709551616) (hm : m ≤ 60) (w : World) (hr0 : Kd.C (Kd.int .u64) w A0 l0.length l0) (hc0 : n0 ≤ c0) (hw : Wd l0) (hl0 : n0 ≤ 20) (hz : wv l0 ≠ 0) (hlim : ¬ (262144 - (bl (wv l0) : Int) < (m : Int))) :
    Calls Try.prog 4 #[.slice A0 n0 c0, .int .u64 x, .int .i64 m] w (Tells (.bool true) w) := by
  have hz1 := dg_len_wv hw hn0 (by omega)
  have hv1 : bl (wv l0) ≤ 1280 := Nat.le_trans ((bl_le _ _).2 (wv_lt hw)) (by omega)
  have HR := Aside0.mk hr0
  have HW := Aside0.mk hw
  have HN := Aside0.mk hn0
  clear hr0 hw hn0
  have hD : 0 < (dg (wv l0)).length := dg_len_pos hz
  have HLIM := Aside0.mk hlim
  have HZ := Aside0.mk hz
  clear hz
  have hb64 : bl x.toNat ≤ 64 := (bl_le _ _).2 (by omega)
  have HPL : Aside0 (x < 2 ∨ ¬ (262144 / (bl x.toNat : Int) < (m : Int))) := ⟨by
    by_cases h : x < 2
    · exact Or.inl h
    · refine Or.inr ?_
      have : 1 ≤ bl x.toNat := by rw [bl_pos (by omega)]; omega
      have h3 : (4096 : Int) ≤ 262144 / (bl x.toNat : Int) := Int.le_ediv_of_mul_le (by omega) (by omega)
      omega⟩
  have hpp : 2 ≤ x → ¬ (262144 / (bl x.toNat : Int) < (m : Int)) := fun h => HPL.out.resolve_left (by omega)
  have hp : 2 ≤ x → (4096 : Int) ≤ 262144 / (bl x.toNat : Int) := fun h => by
    have : 1 ≤ bl x.toNat := by rw [bl_pos (by omega)]; omega
    exact Int.le_ediv_of_mul_le (by omega) (by omega)
  clear hpp
  have hq1 : 2 ≤ x → 1 ≤ bl x.toNat := fun h => by rw [bl_pos (by omega)]; omega
  have hzx : (dg x.toNat).length ≤ 1000 := dg_len_bits _ 64 (by omega) 1000 (by omega)
  have hzl : m ≤ 2000 → (dg (wv l0 * 2 ^ m)).length ≤ 400000 ∧ (nw (wv l0 * 2 ^ m)).length ≤ 1000000 := fun h => by
    obtain ⟨B, hB⟩ : ∃ B, B = 1280 := ⟨_, rfl⟩
    rw [← hB] at hv1
    have hlt : wv l0 * 2 ^ m < 2 ^ (B + m) := by
      rw [Nat.pow_add]
      exact Nat.mul_lt_mul_of_pos_right ((bl_le B _).1 hv1) (Nat.pow_pos (by omega))
    refine ⟨dg_len_bits _ _ hlt _ (by omega), nw_len_le hlt (by omega)⟩
  have hzp : (dg (x.toNat ^ m)).length ≤ 400000 ∧ (nw (x.toNat ^ m)).length ≤ 1000000 := by
    have hlt : x.toNat ^ m ≤ 2 ^ (64 * m) := by rw [Nat.pow_mul]; exact Nat.pow_le_pow_left (by omega) m
    have hlt2 : x.toNat ^ m < 2 ^ (64 * m + 1) := Nat.lt_of_le_of_lt hlt (Nat.pow_lt_pow_right (by omega) (by omega))
    exact ⟨dg_len_bits _ _ hlt2 _ (by omega), nw_len_le hlt2 (by omega)⟩
  go_enter Try.func4, Try.ntmps4
  go_wp2_with (first
    | (go_at_call 11; (with_reducible refine (awake_calls _).mono ?_); rintro e w1 ⟨rfl, hb⟩; have HB := Aside0.mk hb; replace HR := Aside0.mk (Kd.C_below HR.out hb); clear hb)
    | (go_at_call 19; (with_reducible refine (words_calls A0 n0 c0 l0 HN.out _ HR.out hc0 HW.out (by omega)).mono ?_); rintro e w2 ⟨A2, c2, rfl, h2, h3, h4⟩; replace HB := Aside0.mk (below_step HB.out h4); replace HR := Aside0.mk (Kd.C_below HR.out h4); have HX := Aside0.mk h3; clear h3 h4)
    | (go_at_call 20; (with_reducible refine (nleft_calls A0 n0 c0 l0 HN.out m _ HR.out hc0 HW.out (by omega) HZ.out (by have := HLIM.out; omega)).mono ?_); rintro e w_3 ⟨AL, cL, rfl, hL1, h3, hb⟩; replace HB := Aside0.mk (below_step HB.out hb); replace HX := Aside0.mk (Kd.C_below HX.out hb); have HL := Aside0.mk h3; clear h3; clear hb)
    | (go_at_call 21; (with_reducible refine (npower_calls x m ⟨hx0, hxu⟩ (by have := HPL.out; omega) _).mono ?_); rintro e w_4 ⟨AP, cP, rfl, hP1, h3, hb⟩; replace HB := Aside0.mk (below_step HB.out hb); replace HX := Aside0.mk (Kd.C_below HX.out hb); replace HL := Aside0.mk (Kd.C_below HL.out hb); have HP := Aside0.mk h3; clear h3; clear hb)
    | (go_at_call 22; (with_reducible refine (rbits_calls A2 _ c2 (wv l0) rfl _ HX.out h2 (by omega)).mono ?_); rintro e w_5 ⟨rfl, hb⟩; replace HB := Aside0.mk (below_step HB.out hb); replace HX := Aside0.mk (Kd.C_below HX.out hb); replace HL := Aside0.mk (Kd.C_below HL.out hb); replace HP := Aside0.mk (Kd.C_below HP.out hb); clear hb)
    | (go_at_call 23; (with_reducible refine (shift_calls A2 _ c2 (wv l0) rfl m (by omega) _ HX.out h2 (by omega)).mono ?_); rintro e w_6 ⟨A6, c6, rfl, h6, h3, hb⟩; replace HB := Aside0.mk (below_step HB.out hb); replace HX := Aside0.mk (Kd.C_below HX.out hb); replace HL := Aside0.mk (Kd.C_below HL.out hb); replace HP := Aside0.mk (Kd.C_below HP.out hb); have HS := Aside0.mk h3; clear h3; clear hb)
    | (go_at_call 14; (with_reducible refine (rwords_calls A6 _ c6 (wv l0 * 2 ^ m) rfl _ HS.out h6 (by have := (hzl (by omega)).1; omega)).mono ?_); rintro e w_7 ⟨A7, c7, rfl, h7, h3, hb⟩; replace HB := Aside0.mk (below_step HB.out hb); replace HX := Aside0.mk (Kd.C_below HX.out hb); replace HL := Aside0.mk (Kd.C_below HL.out hb); replace HP := Aside0.mk (Kd.C_below HP.out hb); have HT := Aside0.mk h3; clear h3; clear hb)
    | (go_at_call 12; (with_reducible refine (wsame_calls AL _ cL (nw (wv l0 * 2 ^ m)) rfl A7 _ c7 (nw (wv l0 * 2 ^ m)) rfl _ HL.out hL1 HT.out h7 (hzl (by omega)).2).mono ?_); rw [decide_eq_true (rfl : nw (wv l0 * 2 ^ m) = nw (wv l0 * 2 ^ m))]; rintro e w_8 ⟨rfl, hb⟩; replace HB := Aside0.mk (below_step HB.out hb); replace HX := Aside0.mk (Kd.C_below HX.out hb); replace HL := Aside0.mk (Kd.C_below HL.out hb); replace HP := Aside0.mk (Kd.C_below HP.out hb); clear hb)
    | (go_at_call 19; (with_reducible refine (words_calls _ 1 1 [x] rfl _ (lit1_C _ x) (Nat.le_refl _) (Wd.one (by omega)) (by omega)).mono ?_); rw [wv_one]; rintro e w_9 ⟨A9, c9, rfl, h9, h3, hb⟩; replace HB := Aside0.mk (below_step (below_alloc HB.out _) hb); replace HP := Aside0.mk (Kd.C_below (Kd.C_alloc HP.out _) hb); have HV := Aside0.mk h3; clear h3; clear hb)
    | (go_at_call 22; (with_reducible refine (rbits_calls A9 _ c9 x.toNat rfl _ HV.out h9 (by omega)).mono ?_); rintro e w_10 ⟨rfl, hb⟩; replace HB := Aside0.mk (below_step HB.out hb); replace HP := Aside0.mk (Kd.C_below HP.out hb); replace HV := Aside0.mk (Kd.C_below HV.out hb); clear hb)
    | (go_at_call 24; (with_reducible refine (rpower_calls A9 _ c9 x.toNat rfl 64 m (by omega) (by omega) (by omega) (by omega) _ HV.out h9).mono ?_); rintro e w_11 ⟨A11, c11, rfl, h11, h3, hb⟩; replace HB := Aside0.mk (below_step HB.out hb); replace HP := Aside0.mk (Kd.C_below HP.out hb); have HU := Aside0.mk h3; clear h3; clear hb)
    | (go_at_call 14; (with_reducible refine (rwords_calls A11 _ c11 (x.toNat ^ m) rfl _ HU.out h11 (by have := hzp.1; omega)).mono ?_); rintro e w_12 ⟨A12, c12, rfl, h12, h3, hb⟩; replace HB := Aside0.mk (below_step HB.out hb); replace HP := Aside0.mk (Kd.C_below HP.out hb); have HY := Aside0.mk h3; clear h3; clear hb)
    | (go_at_call 12; (with_reducible refine (wsame_calls AP _ cP (nw (x.toNat ^ m)) rfl A12 _ c12 (nw (x.toNat ^ m)) rfl _ HP.out hP1 HY.out h12 hzp.2).mono ?_); rw [decide_eq_true (rfl : nw (x.toNat ^ m) = nw (x.toNat ^ m))]; rintro e w_13 ⟨rfl, hb⟩; replace HB := Aside0.mk (below_step HB.out hb); clear hb)
    | fail)
  all_goals (go_ret; exact ⟨rfl, HB.out⟩)

set_option maxHeartbeats 3200000 in
set_option maxRecDepth 100000 in
theorem natPowers_neg (A0 : Option Addr) (n0 c0 : Nat) (l0 : List Int) (hn0 : l0.length = n0) (x m : Int) (w : World) (hr0 : Kd.C (Kd.int .u64) w A0 l0.length l0) (hc0 : n0 ≤ c0) (hw : Wd l0) (hl0 : n0 ≤ 20) (hm : m < 0) :
    Calls Try.prog 4 #[.slice A0 n0 c0, .int .u64 x, .int .i64 m] w (Tells (.bool true) w) := by
  have hz1 := dg_len_wv hw hn0 (by omega)
  have hv1 : bl (wv l0) ≤ 1280 := Nat.le_trans ((bl_le _ _).2 (wv_lt hw)) (by omega)
  have HR := Aside0.mk hr0
  have HW := Aside0.mk hw
  have HN := Aside0.mk hn0
  clear hr0 hw hn0
  go_enter Try.func4, Try.ntmps4
  go_wp2_with (first
    | (go_at_call 11; (with_reducible refine (awake_calls _).mono ?_); rintro e w1 ⟨rfl, hb⟩; have HB := Aside0.mk hb; replace HR := Aside0.mk (Kd.C_below HR.out hb); clear hb)
    | (go_at_call 19; (with_reducible refine (words_calls A0 n0 c0 l0 HN.out _ HR.out hc0 HW.out (by omega)).mono ?_); rintro e w2 ⟨A2, c2, rfl, h2, h3, h4⟩; replace HB := Aside0.mk (below_step HB.out h4); replace HR := Aside0.mk (Kd.C_below HR.out h4); have HX := Aside0.mk h3; clear h3 h4)
    | (go_at_call 20; (with_reducible refine (calls_none (nleft_neg A0 n0 c0 l0 HN.out m hm _ HR.out hc0 HW.out (by omega))).mono ?_); rintro e w_3 ⟨AL, cL, rfl, hb⟩; replace HB := Aside0.mk (below_step HB.out hb); clear hb)
    | (go_at_call 21; (with_reducible refine (calls_none (npower_neg x m hm _)).mono ?_); rintro e w_4 ⟨AP, cP, rfl, hb⟩; replace HB := Aside0.mk (below_step HB.out hb); clear hb)
    | fail)
  go_ret; exact ⟨rfl, HB.out⟩

theorem natPowers_walk (a0 : Option Addr) (len0 cap0 : Nat) (z0 : List Int) (x n : Int) (w : World) (w0 : (a0 = none ∧ len0 = 0 ∧ cap0 = 0 ∧ z0 = []) ∨ ∃ x, a0 = some x ∧ len0 ≤ cap0 ∧ cap0 ≤ maxLen ∧ z0.length = cap0 ∧ (∀ i, i < z0.length → w.cell? (x.add i) = some (.int .u64 (z0.getD i 0))) ∧ ∀ n ∈ z0, (Lit.int .u64 n).wf = true) (y0 : len0 * 8 ≤ 140737488351232) (w1 : (Lit.int .u64 x).wf = true) (w2 : (Lit.int .i64 n).wf = true) :
    Calls Try.prog 4 #[.slice a0 len0 cap0, .int .u64 x, .int .i64 n] w fun e w' => e = .returned (.bool true) ∧ Below w.heap.size w w' := by
  obtain ⟨l0, rfl, hr0, hm0, hw0, hc0⟩ := ReadsInt.ofRowC w0
  have hx := wf_u64 w1
  by_cases hbig : 20 < l0.length
  · exact natPowers_big a0 _ cap0 x n w (by omega) hbig
  have hC := Kd.C_of_reads (d := (0 : Int)) (h1 := fun _ => rfl) hr0
  have hWd : Wd l0 := fun x hx => wf_u64 (hw0 x hx)
  have hl : l0.length ≤ 20 := by omega
  by_cases hn : n < 0
  · exact natPowers_neg a0 _ cap0 l0 rfl x n w hC hc0 hWd hl hn
  obtain ⟨m, rfl⟩ : ∃ m : Nat, n = (m : Int) := ⟨n.toNat, by omega⟩
  by_cases hz : wv l0 = 0
  · by_cases hm : m ≤ 60
    · exact natPowers_ZeroSmall a0 _ cap0 l0 rfl x m hx.1 hx.2 hm w hC hc0 hWd hl hz
    · by_cases hx2 : 2 ≤ x
      · by_cases hp : 262144 / (bl x.toNat : Int) < (m : Int)
        · exact natPowers_ZeroOver a0 _ cap0 l0 rfl x m hx2 hx.2 hp w hC hc0 hWd hl hz
        · exact natPowers_ZeroBig a0 _ cap0 l0 rfl x m hx2 hx.2 (by omega) hp w hC hc0 hWd hl hz
      · have : x = 0 ∨ x = 1 := by omega
        rcases this with rfl | rfl
        · exact natPowers_ZeroNil a0 _ cap0 l0 rfl m (by omega) w hC hc0 hWd hl hz
        · exact natPowers_ZeroOne a0 _ cap0 l0 rfl m (by omega) w hC hc0 hWd hl hz
  by_cases hlim : 262144 - (bl (wv l0) : Int) < (m : Int)
  · by_cases hm : m ≤ 60
    · exact natPowers_LimSmall a0 _ cap0 l0 rfl x m hx.1 hx.2 hm w hC hc0 hWd hl hz hlim
    · by_cases hx2 : 2 ≤ x
      · by_cases hp : 262144 / (bl x.toNat : Int) < (m : Int)
        · exact natPowers_LimOver a0 _ cap0 l0 rfl x m hx2 hx.2 hp w hC hc0 hWd hl hz hlim
        · exact natPowers_LimBig a0 _ cap0 l0 rfl x m hx2 hx.2 (by omega) hp w hC hc0 hWd hl hz hlim
      · have : x = 0 ∨ x = 1 := by omega
        rcases this with rfl | rfl
        · exact natPowers_LimNil a0 _ cap0 l0 rfl m (by omega) w hC hc0 hWd hl hz hlim
        · exact natPowers_LimOne a0 _ cap0 l0 rfl m (by omega) w hC hc0 hWd hl hz hlim
  · by_cases hm : m ≤ 60
    · exact natPowers_SomeSmall a0 _ cap0 l0 rfl x m hx.1 hx.2 hm w hC hc0 hWd hl hz hlim
    · by_cases hx2 : 2 ≤ x
      · by_cases hp : 262144 / (bl x.toNat : Int) < (m : Int)
        · exact natPowers_SomeOver a0 _ cap0 l0 rfl x m hx2 hx.2 hp w hC hc0 hWd hl hz hlim
        · exact natPowers_SomeBig a0 _ cap0 l0 rfl x m hx2 hx.2 (by omega) hp w hC hc0 hWd hl hz hlim
      · have : x = 0 ∨ x = 1 := by omega
        rcases this with rfl | rfl
        · exact natPowers_SomeNil a0 _ cap0 l0 rfl m (by omega) w hC hc0 hWd hl hz hlim
        · exact natPowers_SomeOne a0 _ cap0 l0 rfl m (by omega) w hC hc0 hWd hl hz hlim

end Go.Proofs.Ytjkelnnjfpcapaa.Num
