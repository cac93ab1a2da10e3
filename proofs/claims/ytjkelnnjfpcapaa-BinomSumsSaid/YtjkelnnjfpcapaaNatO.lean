/- nat: the law of ways back (laid by wip/gen/back.py). -/
import Derived.Test.YtjkelnnjfpcapaaNatN
namespace Go.Proofs.Ytjkelnnjfpcapaa.Num
set_option linter.unusedVariables false
open Go.RowKit Go.Shelf Go.Proofs.Ytjkelnnjfpcapaa.PNat Go.Proofs.YtjkelnnjfpcapaaW Go.Proofs.YtjkelnnjfpcapaaW.PrintWords Go.Proofs.YtjkelnnjfpcapaaW.PrintLast Go.Proofs.YtjkelnnjfpcapaaW.PrintMore

theorem nmulw_v (A0 : Option Addr) (n0 c0 : Nat) (l0 : List Int) (hn0 : l0.length = n0) (y : Int) (hy : 0 ≤ y ∧ y < 18446744073709551616) (w : World) (hr0 : Kd.C (Kd.int .u64) w A0 l0.length l0) (hw0 : Wd l0) (hl0 : n0 ≤ 100000) (v : Nat) (hv : wv l0 * y.toNat = v) :
    Calls Try.prog 38 #[.slice A0 n0 c0, .int .u64 y] w (Res w v) := hv ▸ nmulw_calls A0 n0 c0 l0 hn0 y hy w hr0 hw0 hl0
theorem ndiv_v (A0 : Option Addr) (n0 c0 : Nat) (l0 : List Int) (hn0 : l0.length = n0) (y : Int) (hy : 0 < y ∧ y < 18446744073709551616) (w : World) (hr0 : Kd.C (Kd.int .u64) w A0 l0.length l0) (hw0 : Wd l0) (hl0 : n0 ≤ 100000) (q : Nat) (r : Int) (hq : wv l0 / y.toNat = q) (hr : ((wv l0 % y.toNat : Nat) : Int) = r) :
    Calls Try.prog 33 #[.slice A0 n0 c0, .int .u64 y] w (Res3 w q r) := hr ▸ hq ▸ ndiv_calls A0 n0 c0 l0 hn0 y hy w hr0 hw0 hl0
theorem nadd_v (A0 : Option Addr) (n0 c0 : Nat) (l0 : List Int) (hn0 : l0.length = n0) (A1 : Option Addr) (n1 c1 : Nat) (l1 : List Int) (hn1 : l1.length = n1) (w : World) (hr0 : Kd.C (Kd.int .u64) w A0 l0.length l0) (hr1 : Kd.C (Kd.int .u64) w A1 l1.length l1) (hw0 : Wd l0) (hw1 : Wd l1) (hl0 : n0 ≤ 100000) (hl1 : n1 ≤ 100000) (v : Nat) (hv : wv l0 + wv l1 = v) :
    Calls Try.prog 28 #[.slice A0 n0 c0, .slice A1 n1 c1] w (Res w v) := hv ▸ nadd_of A0 n0 c0 l0 hn0 A1 n1 c1 l1 hn1 w hr0 hr1 hw0 hw1 hl0 hl1
theorem nmul_v (A0 : Option Addr) (n0 c0 : Nat) (l0 : List Int) (hn0 : l0.length = n0) (A1 : Option Addr) (n1 c1 : Nat) (l1 : List Int) (hn1 : l1.length = n1) (w : World) (hr0 : Kd.C (Kd.int .u64) w A0 l0.length l0) (hr1 : Kd.C (Kd.int .u64) w A1 l1.length l1) (hw0 : Wd l0) (hw1 : Wd l1) (hl0 : n0 ≤ 100000) (hl1 : n1 ≤ 100000) (v : Nat) (hv : wv l0 * wv l1 = v) :
    Calls Try.prog 36 #[.slice A0 n0 c0, .slice A1 n1 c1] w (Res w v) := hv ▸ nmul_of A0 n0 c0 l0 hn0 A1 n1 c1 l1 hn1 w hr0 hr1 hw0 hw1 hl0 hl1
theorem nsub_v (A0 : Option Addr) (n0 c0 : Nat) (l0 : List Int) (hn0 : l0.length = n0) (A1 : Option Addr) (n1 c1 : Nat) (l1 : List Int) (hn1 : l1.length = n1) (w : World) (hr0 : Kd.C (Kd.int .u64) w A0 l0.length l0) (hr1 : Kd.C (Kd.int .u64) w A1 l1.length l1) (hw0 : Wd l0) (hw1 : Wd l1) (hl0 : n0 ≤ 100000) (hl1 : n1 ≤ 100000) (hle : wv l1 ≤ wv l0) (v : Nat) (hv : wv l0 - wv l1 = v) :
    Calls Try.prog 25 #[.slice A0 n0 c0, .slice A1 n1 c1] w (ResOk w v true) := hv ▸ nsub_of A0 n0 c0 l0 hn0 A1 n1 c1 l1 hn1 w hr0 hr1 hw0 hw1 hl0 hl1 hle
theorem nof_v (A0 : Option Addr) (n0 c0 : Nat) (l0 : List Int) (hn0 : l0.length = n0) (w : World) (hr0 : Kd.C (Kd.int .u8) w A0 l0.length l0) (hb0 : By l0) (hl0 : n0 ≤ 100000) (v : Nat) (hv : bv l0 = v) :
    Calls Try.prog 13 #[.slice A0 n0 c0] w (Res w v) := hv ▸ nof_calls A0 n0 c0 l0 hn0 w hr0 hb0 hl0
theorem res_v {f : Nat} {vs : Array Value} {w : World} {n : Nat} (h : Calls Try.prog f vs w (Res w n)) (v : Nat) (hv : n = v) : Calls Try.prog f vs w (Res w v) := hv ▸ h
theorem resb_v {f : Nat} {vs : Array Value} {w : World} {n : Nat} (h : Calls Try.prog f vs w (ResB w (nb n))) (v : Nat) (hv : n = v) : Calls Try.prog f vs w (ResB w (nb v)) := hv ▸ h
theorem bv_nb (n : Nat) : bv (nb n) = n := bv_be _ _ (by
  rw [show (256 : Nat) = 2 ^ 8 from rfl, ← Nat.pow_mul]
  exact (bl_le _ _).1 (by omega))
theorem nb_By (n : Nat) : By (nb n) := be_By _ _
theorem wv_w1 (x : Int) : wv [x] = x.toNat := by simp [wv]
theorem nleft_all (A0 : Option Addr) (n0 c0 : Nat) (l0 : List Int) (hn0 : l0.length = n0) (n : Nat) (hn : n ≤ 1000) (w : World) (hr0 : Kd.C (Kd.int .u64) w A0 l0.length l0) (hc0 : n0 ≤ c0) (hw0 : Wd l0) (hl0 : n0 ≤ 60) (v : Nat) (hv : wv l0 * 2 ^ n = v) :
    Calls Try.prog 20 #[.slice A0 n0 c0, .int .i64 n] w (Res2 w v 0) := by
  subst hv
  have hb : bl (wv l0) ≤ 64 * n0 := by rw [← hn0]; exact (bl_le _ _).2 (wv_lt hw0)
  by_cases hz : wv l0 = 0
  · rw [hz, Nat.zero_mul]
    exact nleft_zero A0 n0 c0 l0 hn0 n (by omega) w hr0 hc0 hw0 (by omega) hz
  · exact nleft_calls A0 n0 c0 l0 hn0 n w hr0 hc0 hw0 (by omega) hz (by omega)
theorem npower_small (x : Int) (n : Nat) (hx : 0 ≤ x ∧ x < 18446744073709551616) (hn : n ≤ 1000) (w : World) :
    Calls Try.prog 21 #[.int .u64 x, .int .i64 n] w (Res2 w (x.toNat ^ n) 0) := by
  refine npower_calls x n hx ?_ w
  by_cases h : x < 2
  · exact Or.inl h
  · refine Or.inr ?_
    have h64 : bl x.toNat ≤ 64 := (bl_le _ _).2 (by omega)
    have : 1 ≤ bl x.toNat := by rw [bl_pos (by omega)]; omega
    have h3 : (4096 : Int) ≤ 262144 / (bl x.toNat : Int) := Int.le_ediv_of_mul_le (by omega) (by omega)
    omega
theorem add_lt_pow {a b m k : Nat} (ha : a < 2 ^ m) (hb : b < 2 ^ k) : a + b < 2 ^ (m + k + 1) := by
  have h1 : 2 ^ m ≤ 2 ^ (m + k) := Nat.pow_le_pow_right (by omega) (by omega)
  have h2 : 2 ^ k ≤ 2 ^ (m + k) := Nat.pow_le_pow_right (by omega) (by omega)
  rw [Nat.pow_succ]
  omega
theorem mul_lt_pow {a b m k : Nat} (ha : a < 2 ^ m) (hb : b < 2 ^ k) : a * b < 2 ^ (m + k) := by
  rw [Nat.pow_add]
  exact Nat.mul_lt_mul'' ha hb
theorem pow_lt_pow {a m : Nat} (ha : a < 2 ^ m) (n : Nat) : a ^ n < 2 ^ (m * n + 1) := by
  have h1 : a ^ n ≤ 2 ^ (m * n) := by rw [Nat.pow_mul]; exact Nat.pow_le_pow_left (by omega) n
  exact Nat.lt_of_le_of_lt h1 (Nat.pow_lt_pow_right (by omega) (by omega))
set_option maxHeartbeats 1600000 in
set_option maxRecDepth 100000 in
theorem natBack_big (A0 : Option Addr) (n0 c0 : Nat) (y i j : Int) (w : World) (h0 : (n0 : Int) ≤ 9223372036854775807) (hbig : 60 < n0) :
    Calls Try.prog 7 #[.slice A0 n0 c0, .int .u64 y, .agg #[.int .u8 i, .int .u8 j]] w (Tells (.bool true) w) := by
  go_enter Try.func7, Try.ntmps7
  go_wp2_with (first
    | (go_at_call 11; (with_reducible refine (awake_calls _).mono ?_); rintro e w1 ⟨rfl, hb⟩; have HB1 := Aside0.mk (below_step (below_alloc (Below.refl _ _) _) hb); clear hb)
    | fail)
  go_ret; exact ⟨rfl, HB1.out⟩

set_option maxHeartbeats 6400000 in
set_option maxRecDepth 100000 in
theorem natBack_Pos (A0 : Option Addr) (n0 c0 : Nat) (l0 : List Int) (hn0 : l0.length = n0) (y : Int) (hy : 0 < y ∧ y < 18446744073709551616) (i j : Nat) (hi : i ≤ 255) (hj : j ≤ 255) (w : World) (hr0 : Kd.C (Kd.int .u64) w A0 l0.length l0) (hc0 : n0 ≤ c0) (hw0 : Wd l0) (hl0 : n0 ≤ 60) :
    Calls Try.prog 7 #[.slice A0 n0 c0, .int .u64 y, .agg #[.int .u8 i, .int .u8 j]] w (Tells (.bool true) w) := by
  obtain ⟨x, hx⟩ : ∃ x, wv l0 = x := ⟨_, rfl⟩
  obtain ⟨Z, hZ⟩ : ∃ Z, y.toNat = Z := ⟨_, rfl⟩
  have hx1 : x < 2 ^ (64 * n0) := by rw [← hx, ← hn0]; exact wv_lt hw0
  have hZ1 : Z < 2 ^ 64 := by omega
  have l1 : (nw x).length ≤ 60 := nw_len_le hx1 (by omega)
  have l2 : (nw (x * Z)).length ≤ 100 := nw_len_le (mul_lt_pow hx1 hZ1) (by omega)
  have l3 : (nw (x / Z)).length ≤ 100 := nw_len_le (Nat.lt_of_le_of_lt (Nat.div_le_self _ _) hx1) (by omega)
  have l4 : (nw (x / Z * Z)).length ≤ 100 := nw_len_le (Nat.lt_of_le_of_lt (Nat.div_mul_le_self _ _) hx1) (by omega)
  have l5 : (nw (Z ^ i)).length ≤ 1000 := nw_len_le (pow_lt_pow hZ1 i) (by omega)
  have l6 : (nw (Z ^ j)).length ≤ 1000 := nw_len_le (pow_lt_pow hZ1 j) (by omega)
  have l7 : (nw (Z ^ (i + j))).length ≤ 1000 := nw_len_le (pow_lt_pow hZ1 (i + j)) (by omega)
  have l8 : (nw (2 ^ i)).length ≤ 1000 := nw_len_le (Nat.pow_lt_pow_right (by omega) (show i < i + 1 by omega)) (by omega)
  have l9 : (nw (x * 2 ^ i)).length ≤ 1000 := nw_len_le (mul_lt_pow hx1 (Nat.pow_lt_pow_right (by omega) (show i < i + 1 by omega))) (by omega)
  have l10 : (nw (x + Z ^ i)).length ≤ 1000 := nw_len_le (add_lt_pow hx1 (pow_lt_pow hZ1 i)) (by omega)
  have l11 : (nb x).length ≤ 1000 := nb_len_le hx1 (by omega)
  have e1 : ((x * Z / Z : Nat)) = x := Nat.mul_div_cancel _ (by omega)
  have e2 : ((x * Z % Z : Nat) : Int) = 0 := by rw [Nat.mul_mod_left]; rfl
  have e3 : x / Z * Z + x % Z = x := by rw [Nat.mul_comm]; exact Nat.div_add_mod x Z
  have e4 : x % Z < Z := Nat.mod_lt _ (by omega)
  have hv : (0 : Int) ≤ ((x % Z : Nat) : Int) ∧ ((x % Z : Nat) : Int) < y := by omega
  obtain ⟨v, hv0⟩ : ∃ v : Int, ((x % Z : Nat) : Int) = v := ⟨_, rfl⟩
  rw [hv0] at hv
  have E1 := Aside0.mk e1
  have E2 := Aside0.mk e2
  have E3 := Aside0.mk e3
  have HV := Aside0.mk hv0
  clear e1 e2 e3 e4 hv0
  have hP1 : ∀ W, Calls Try.prog 21 #[.int .u64 y, .int .i64 i] W (Res2 W (Z ^ i) 0) := fun W => by rw [← hZ]; exact npower_small y i ⟨by omega, by omega⟩ (by omega) W
  have hP2 : ∀ W, Calls Try.prog 21 #[.int .u64 y, .int .i64 j] W (Res2 W (Z ^ j) 0) := fun W => by rw [← hZ]; exact npower_small y j ⟨by omega, by omega⟩ (by omega) W
  have hP3 : ∀ W, Calls Try.prog 21 #[.int .u64 y, .int .i64 ((i : Int) + (j : Int))] W (Res2 W (Z ^ (i + j)) 0) := fun W => by rw [← hZ, ← Int.natCast_add]; exact npower_small y (i + j) ⟨by omega, by omega⟩ (by omega) W
  have hP4 : ∀ W, Calls Try.prog 21 #[.int .u64 2, .int .i64 i] W (Res2 W (2 ^ i) 0) := fun W => npower_small 2 i ⟨by omega, by omega⟩ (by omega) W
  have hpe : Z ^ i * Z ^ j = Z ^ (i + j) := (Nat.pow_add Z i j).symm
  have HPE := Aside0.mk hpe
  have HX := Aside0.mk hx
  have HZ := Aside0.mk hZ
  have HW := Aside0.mk hw0
  have HN := Aside0.mk hn0
  have HY := Aside0.mk hy
  have HA := Aside0.mk hr0
  have hci : (w.alloc (.cells #[.int .u8 i, .int .u8 j] 58)).cell? ⟨w.heap.size, 0, none⟩ = some (.int .u8 i) := by go_simp
  have hcj : (w.alloc (.cells #[.int .u8 i, .int .u8 j] 58)).cell? ⟨w.heap.size, 1, none⟩ = some (.int .u8 j) := by go_simp
  have hcA : ∀ {W : World} {p : Addr} {o : Obj} {v : Value}, W.cell? p = some v → (W.alloc o).cell? p = some v := fun h => ((below_alloc (Below.refl _ _) _).cell (World.block_lt_of_cell? _ _ h)).trans h
  clear hx hZ hx1 hZ1 hpe hr0 hw0 hn0
  go_enter Try.func7, Try.ntmps7
  go_wp2_with (first
    | (go_at_call 11; (with_reducible refine (awake_calls _).mono ?_); rintro e x_1 ⟨rfl, hb⟩; have HB := Aside0.mk (below_step (below_alloc (Below.refl _ _) _) hb); replace hci := (hb.cell (World.block_lt_of_cell? _ _ hci)).trans hci; replace hcj := (hb.cell (World.block_lt_of_cell? _ _ hcj)).trans hcj; replace HA := Aside0.mk (Kd.C_below (Kd.C_alloc HA.out _) hb); clear hb)
    | (go_at_call 31; (with_reducible refine (Go.Proofs.Ytjkelnnjfpcapaa.Num.res_v (ntrim_calls A0 n0 c0 l0 HN.out _ HA.out hc0 HW.out (by omega)) x HX.out).mono ?_); rintro e x_2 ⟨B2, d2, rfl, h2, hC, hb⟩; replace HB := Aside0.mk (below_step HB.out hb); replace hci := (hb.cell (World.block_lt_of_cell? _ _ hci)).trans hci; replace hcj := (hb.cell (World.block_lt_of_cell? _ _ hcj)).trans hcj; replace HA := Aside0.mk (Kd.C_below HA.out hb); have HT := Aside0.mk hC; clear hC; clear hb)
    | (go_at_call 38; (with_reducible refine (nmulw_v A0 n0 c0 l0 HN.out y ⟨by omega, hy.2⟩ _ HA.out HW.out (by omega) (x * Z) (by rw [HX.out, HZ.out])).mono ?_); rintro e x_3 ⟨B3, d3, rfl, h3, hC, hb⟩; replace HB := Aside0.mk (below_step HB.out hb); replace hci := (hb.cell (World.block_lt_of_cell? _ _ hci)).trans hci; replace hcj := (hb.cell (World.block_lt_of_cell? _ _ hcj)).trans hcj; replace HA := Aside0.mk (Kd.C_below HA.out hb); replace HT := Aside0.mk (Kd.C_below HT.out hb); have HM := Aside0.mk hC; clear hC; clear hb)
    | (go_at_call 33; (with_reducible refine (ndiv_v B3 _ d3 (nw (x * Z)) rfl y HY.out _ HM.out (nw_Wd _) (by omega) x 0 (by rw [wv_nw, HZ.out]; exact E1.out) (by rw [wv_nw, HZ.out]; exact E2.out)).mono ?_); rintro e x_4 ⟨B4, d4, rfl, h4, hC, hb⟩; replace HB := Aside0.mk (below_step HB.out hb); replace hci := (hb.cell (World.block_lt_of_cell? _ _ hci)).trans hci; replace hcj := (hb.cell (World.block_lt_of_cell? _ _ hcj)).trans hcj; replace HA := Aside0.mk (Kd.C_below HA.out hb); replace HT := Aside0.mk (Kd.C_below HT.out hb); have HQ := Aside0.mk hC; clear hC; clear hb)
    | (go_at_call 33; (with_reducible refine (ndiv_v A0 n0 c0 l0 HN.out y HY.out _ HA.out HW.out (by omega) (x / Z) v (by rw [HX.out, HZ.out]) (by rw [HX.out, HZ.out]; exact HV.out)).mono ?_); rintro e x_5 ⟨B5, d5, rfl, h5, hC, hb⟩; replace HB := Aside0.mk (below_step HB.out hb); replace hci := (hb.cell (World.block_lt_of_cell? _ _ hci)).trans hci; replace hcj := (hb.cell (World.block_lt_of_cell? _ _ hcj)).trans hcj; replace HA := Aside0.mk (Kd.C_below HA.out hb); replace HT := Aside0.mk (Kd.C_below HT.out hb); replace HQ := Aside0.mk (Kd.C_below HQ.out hb); have HU := Aside0.mk hC; clear hC; clear hb)
    | (go_at_call 12; (with_reducible refine (wsame_calls B4 _ d4 (nw x) rfl B2 _ d2 (nw x) rfl _ HQ.out h4 HT.out h2 (by omega)).mono ?_); rw [decide_eq_true (rfl : nw (x) = nw (x))]; rintro e x_6 ⟨rfl, hb⟩; replace HB := Aside0.mk (below_step HB.out hb); replace hci := (hb.cell (World.block_lt_of_cell? _ _ hci)).trans hci; replace hcj := (hb.cell (World.block_lt_of_cell? _ _ hcj)).trans hcj; replace HA := Aside0.mk (Kd.C_below HA.out hb); replace HT := Aside0.mk (Kd.C_below HT.out hb); replace HU := Aside0.mk (Kd.C_below HU.out hb); clear hb)
    | (go_at_call 38; (with_reducible refine (nmulw_v B5 _ d5 (nw (x / Z)) rfl y ⟨by omega, hy.2⟩ _ HU.out (nw_Wd _) (by omega) (x / Z * Z) (by rw [wv_nw, HZ.out])).mono ?_); rintro e x_7 ⟨B7, d7, rfl, h7, hC, hb⟩; replace HB := Aside0.mk (below_step HB.out hb); replace hci := (hb.cell (World.block_lt_of_cell? _ _ hci)).trans hci; replace hcj := (hb.cell (World.block_lt_of_cell? _ _ hcj)).trans hcj; replace HA := Aside0.mk (Kd.C_below HA.out hb); replace HT := Aside0.mk (Kd.C_below HT.out hb); have HM2 := Aside0.mk hC; clear hC; clear hb)
    | (go_at_call 28; (with_reducible refine (nadd_v B7 _ d7 (nw (x / Z * Z)) rfl _ 1 1 [v] rfl _ (Kd.C_alloc HM2.out _) (lit1_C _ v) (nw_Wd _) (Wd.one ⟨hv.1, by omega⟩) (by omega) (by omega) x (by rw [wv_nw, wv_w1, ← HV.out, Int.toNat_natCast]; exact E3.out)).mono ?_); rintro e x_8 ⟨B8, d8, rfl, h8, hC, hb⟩; replace HB := Aside0.mk (below_step (below_alloc HB.out _) hb); replace hci := (hb.cell (World.block_lt_of_cell? _ _ (hcA hci))).trans (hcA hci); replace hcj := (hb.cell (World.block_lt_of_cell? _ _ (hcA hcj))).trans (hcA hcj); replace HA := Aside0.mk (Kd.C_below (Kd.C_alloc HA.out _) hb); replace HT := Aside0.mk (Kd.C_below (Kd.C_alloc HT.out _) hb); have HS1 := Aside0.mk hC; clear hC; clear hb)
    | (go_at_call 12; (with_reducible refine (wsame_calls B8 _ d8 (nw x) rfl B2 _ d2 (nw x) rfl _ HS1.out h8 HT.out h2 (by omega)).mono ?_); rw [decide_eq_true (rfl : nw (x) = nw (x))]; rintro e x_9 ⟨rfl, hb⟩; replace HB := Aside0.mk (below_step HB.out hb); replace hci := (hb.cell (World.block_lt_of_cell? _ _ hci)).trans hci; replace hcj := (hb.cell (World.block_lt_of_cell? _ _ hcj)).trans hcj; replace HA := Aside0.mk (Kd.C_below HA.out hb); replace HT := Aside0.mk (Kd.C_below HT.out hb); clear hb)
    | (go_at_call 21; (with_reducible refine (hP1 _).mono ?_); rintro e x_10 ⟨B10, d10, rfl, h10, hC, hb⟩; replace HB := Aside0.mk (below_step HB.out hb); replace hci := (hb.cell (World.block_lt_of_cell? _ _ hci)).trans hci; replace hcj := (hb.cell (World.block_lt_of_cell? _ _ hcj)).trans hcj; replace HA := Aside0.mk (Kd.C_below HA.out hb); replace HT := Aside0.mk (Kd.C_below HT.out hb); have HP1 := Aside0.mk hC; clear hC; clear hb)
    | (go_at_call 21; (with_reducible refine (hP2 _).mono ?_); rintro e x_11 ⟨B11, d11, rfl, h11, hC, hb⟩; replace HB := Aside0.mk (below_step HB.out hb); replace hci := (hb.cell (World.block_lt_of_cell? _ _ hci)).trans hci; replace hcj := (hb.cell (World.block_lt_of_cell? _ _ hcj)).trans hcj; replace HA := Aside0.mk (Kd.C_below HA.out hb); replace HT := Aside0.mk (Kd.C_below HT.out hb); replace HP1 := Aside0.mk (Kd.C_below HP1.out hb); have HP2 := Aside0.mk hC; clear hC; clear hb)
    | (go_at_call 21; (with_reducible refine (hP3 _).mono ?_); rintro e x_12 ⟨B12, d12, rfl, h12, hC, hb⟩; replace HB := Aside0.mk (below_step HB.out hb); replace hci := (hb.cell (World.block_lt_of_cell? _ _ hci)).trans hci; replace hcj := (hb.cell (World.block_lt_of_cell? _ _ hcj)).trans hcj; replace HA := Aside0.mk (Kd.C_below HA.out hb); replace HT := Aside0.mk (Kd.C_below HT.out hb); replace HP1 := Aside0.mk (Kd.C_below HP1.out hb); replace HP2 := Aside0.mk (Kd.C_below HP2.out hb); have HP3 := Aside0.mk hC; clear hC; clear hb)
    | (go_at_call 20; (with_reducible refine (nleft_all A0 n0 c0 l0 HN.out i (by omega) _ HA.out hc0 HW.out (by omega) (x * 2 ^ i) (by rw [HX.out])).mono ?_); rintro e x_13 ⟨B13, d13, rfl, h13, hC, hb⟩; replace HB := Aside0.mk (below_step HB.out hb); replace hci := (hb.cell (World.block_lt_of_cell? _ _ hci)).trans hci; replace hcj := (hb.cell (World.block_lt_of_cell? _ _ hcj)).trans hcj; replace HA := Aside0.mk (Kd.C_below HA.out hb); replace HT := Aside0.mk (Kd.C_below HT.out hb); replace HP1 := Aside0.mk (Kd.C_below HP1.out hb); replace HP2 := Aside0.mk (Kd.C_below HP2.out hb); replace HP3 := Aside0.mk (Kd.C_below HP3.out hb); have HL := Aside0.mk hC; clear hC; clear hb)
    | (go_at_call 21; (with_reducible refine (hP4 _).mono ?_); rintro e x_14 ⟨B14, d14, rfl, h14, hC, hb⟩; replace HB := Aside0.mk (below_step HB.out hb); replace hci := (hb.cell (World.block_lt_of_cell? _ _ hci)).trans hci; replace hcj := (hb.cell (World.block_lt_of_cell? _ _ hcj)).trans hcj; replace HA := Aside0.mk (Kd.C_below HA.out hb); replace HT := Aside0.mk (Kd.C_below HT.out hb); replace HP1 := Aside0.mk (Kd.C_below HP1.out hb); replace HP2 := Aside0.mk (Kd.C_below HP2.out hb); replace HP3 := Aside0.mk (Kd.C_below HP3.out hb); replace HL := Aside0.mk (Kd.C_below HL.out hb); have HP4 := Aside0.mk hC; clear hC; clear hb)
    | (go_at_call 28; (with_reducible refine (nadd_v A0 n0 c0 l0 HN.out B10 _ d10 (nw (Z ^ i)) rfl _ HA.out HP1.out HW.out (nw_Wd _) (by omega) (by omega) (x + Z ^ i) (by rw [HX.out, wv_nw])).mono ?_); rintro e x_15 ⟨B15, d15, rfl, h15, hC, hb⟩; replace HB := Aside0.mk (below_step HB.out hb); replace hci := (hb.cell (World.block_lt_of_cell? _ _ hci)).trans hci; replace hcj := (hb.cell (World.block_lt_of_cell? _ _ hcj)).trans hcj; replace HA := Aside0.mk (Kd.C_below HA.out hb); replace HT := Aside0.mk (Kd.C_below HT.out hb); replace HP1 := Aside0.mk (Kd.C_below HP1.out hb); replace HP2 := Aside0.mk (Kd.C_below HP2.out hb); replace HP3 := Aside0.mk (Kd.C_below HP3.out hb); replace HL := Aside0.mk (Kd.C_below HL.out hb); replace HP4 := Aside0.mk (Kd.C_below HP4.out hb); have HAd := Aside0.mk hC; clear hC; clear hb)
    | (go_at_call 25; (with_reducible refine (nsub_v B15 _ d15 (nw (x + Z ^ i)) rfl B10 _ d10 (nw (Z ^ i)) rfl _ HAd.out HP1.out (nw_Wd _) (nw_Wd _) (by omega) (by omega) (by rw [wv_nw, wv_nw]; omega) x (by rw [wv_nw, wv_nw]; omega)).mono ?_); rintro e x_16 ⟨B16, d16, rfl, h16, hC, hb⟩; replace HB := Aside0.mk (below_step HB.out hb); replace hci := (hb.cell (World.block_lt_of_cell? _ _ hci)).trans hci; replace hcj := (hb.cell (World.block_lt_of_cell? _ _ hcj)).trans hcj; replace HA := Aside0.mk (Kd.C_below HA.out hb); replace HT := Aside0.mk (Kd.C_below HT.out hb); replace HP1 := Aside0.mk (Kd.C_below HP1.out hb); replace HP2 := Aside0.mk (Kd.C_below HP2.out hb); replace HP3 := Aside0.mk (Kd.C_below HP3.out hb); replace HL := Aside0.mk (Kd.C_below HL.out hb); replace HP4 := Aside0.mk (Kd.C_below HP4.out hb); have HD := Aside0.mk hC; clear hC; clear hb)
    | (go_at_call 36; (with_reducible refine (nmul_v B10 _ d10 (nw (Z ^ i)) rfl B11 _ d11 (nw (Z ^ j)) rfl _ HP1.out HP2.out (nw_Wd _) (nw_Wd _) (by omega) (by omega) (Z ^ (i + j)) (by rw [wv_nw, wv_nw]; exact HPE.out)).mono ?_); rintro e x_17 ⟨B17, d17, rfl, h17, hC, hb⟩; replace HB := Aside0.mk (below_step HB.out hb); replace hci := (hb.cell (World.block_lt_of_cell? _ _ hci)).trans hci; replace hcj := (hb.cell (World.block_lt_of_cell? _ _ hcj)).trans hcj; replace HA := Aside0.mk (Kd.C_below HA.out hb); replace HT := Aside0.mk (Kd.C_below HT.out hb); replace HP1 := Aside0.mk (Kd.C_below HP1.out hb); replace HP2 := Aside0.mk (Kd.C_below HP2.out hb); replace HP3 := Aside0.mk (Kd.C_below HP3.out hb); replace HL := Aside0.mk (Kd.C_below HL.out hb); replace HP4 := Aside0.mk (Kd.C_below HP4.out hb); replace HD := Aside0.mk (Kd.C_below HD.out hb); have HX1 := Aside0.mk hC; clear hC; clear hb)
    | (go_at_call 12; (with_reducible refine (wsame_calls B17 _ d17 (nw (Z ^ (i + j))) rfl B12 _ d12 (nw (Z ^ (i + j))) rfl _ HX1.out h17 HP3.out h12 (by omega)).mono ?_); rw [decide_eq_true (rfl : nw (Z ^ (i + j)) = nw (Z ^ (i + j)))]; rintro e x_18 ⟨rfl, hb⟩; replace HB := Aside0.mk (below_step HB.out hb); replace hci := (hb.cell (World.block_lt_of_cell? _ _ hci)).trans hci; replace hcj := (hb.cell (World.block_lt_of_cell? _ _ hcj)).trans hcj; replace HA := Aside0.mk (Kd.C_below HA.out hb); replace HT := Aside0.mk (Kd.C_below HT.out hb); replace HL := Aside0.mk (Kd.C_below HL.out hb); replace HP4 := Aside0.mk (Kd.C_below HP4.out hb); replace HD := Aside0.mk (Kd.C_below HD.out hb); clear hb)
    | (go_at_call 36; (with_reducible refine (nmul_v A0 n0 c0 l0 HN.out B14 _ d14 (nw (2 ^ i)) rfl _ HA.out HP4.out HW.out (nw_Wd _) (by omega) (by omega) (x * 2 ^ i) (by rw [HX.out, wv_nw])).mono ?_); rintro e x_19 ⟨B19, d19, rfl, h19, hC, hb⟩; replace HB := Aside0.mk (below_step HB.out hb); replace hci := (hb.cell (World.block_lt_of_cell? _ _ hci)).trans hci; replace hcj := (hb.cell (World.block_lt_of_cell? _ _ hcj)).trans hcj; replace HA := Aside0.mk (Kd.C_below HA.out hb); replace HT := Aside0.mk (Kd.C_below HT.out hb); replace HL := Aside0.mk (Kd.C_below HL.out hb); replace HP4 := Aside0.mk (Kd.C_below HP4.out hb); replace HD := Aside0.mk (Kd.C_below HD.out hb); have HX2 := Aside0.mk hC; clear hC; clear hb)
    | (go_at_call 12; (with_reducible refine (wsame_calls B13 _ d13 (nw (x * 2 ^ i)) rfl B19 _ d19 (nw (x * 2 ^ i)) rfl _ HL.out h13 HX2.out h19 (by omega)).mono ?_); rw [decide_eq_true (rfl : nw (x * 2 ^ i) = nw (x * 2 ^ i))]; rintro e x_20 ⟨rfl, hb⟩; replace HB := Aside0.mk (below_step HB.out hb); replace hci := (hb.cell (World.block_lt_of_cell? _ _ hci)).trans hci; replace hcj := (hb.cell (World.block_lt_of_cell? _ _ hcj)).trans hcj; replace HA := Aside0.mk (Kd.C_below HA.out hb); replace HT := Aside0.mk (Kd.C_below HT.out hb); replace HD := Aside0.mk (Kd.C_below HD.out hb); clear hb)
    | (go_at_call 12; (with_reducible refine (wsame_calls B16 _ d16 (nw x) rfl B2 _ d2 (nw x) rfl _ HD.out h16 HT.out h2 (by omega)).mono ?_); rw [decide_eq_true (rfl : nw (x) = nw (x))]; rintro e x_21 ⟨rfl, hb⟩; replace HB := Aside0.mk (below_step HB.out hb); replace hci := (hb.cell (World.block_lt_of_cell? _ _ hci)).trans hci; replace hcj := (hb.cell (World.block_lt_of_cell? _ _ hcj)).trans hcj; replace HA := Aside0.mk (Kd.C_below HA.out hb); replace HT := Aside0.mk (Kd.C_below HT.out hb); clear hb)
    | (go_at_call 17; (with_reducible refine (Go.Proofs.Ytjkelnnjfpcapaa.Num.resb_v (nbytes_calls A0 n0 c0 l0 HN.out _ HA.out hc0 HW.out (by omega)) x HX.out).mono ?_); rintro e x_22 ⟨B22, d22, rfl, h22, hC, hb⟩; replace HB := Aside0.mk (below_step HB.out hb); replace hci := (hb.cell (World.block_lt_of_cell? _ _ hci)).trans hci; replace hcj := (hb.cell (World.block_lt_of_cell? _ _ hcj)).trans hcj; replace HT := Aside0.mk (Kd.C_below HT.out hb); have HBy := Aside0.mk hC; clear hC; clear hb)
    | (go_at_call 13; (with_reducible refine (nof_v B22 _ d22 (nb x) rfl _ HBy.out (nb_By _) (by omega) x (bv_nb x)).mono ?_); rintro e x_23 ⟨B23, d23, rfl, h23, hC, hb⟩; replace HB := Aside0.mk (below_step HB.out hb); replace hci := (hb.cell (World.block_lt_of_cell? _ _ hci)).trans hci; replace hcj := (hb.cell (World.block_lt_of_cell? _ _ hcj)).trans hcj; replace HT := Aside0.mk (Kd.C_below HT.out hb); have HO := Aside0.mk hC; clear hC; clear hb)
    | (go_at_call 12; (with_reducible refine (wsame_calls B23 _ d23 (nw x) rfl B2 _ d2 (nw x) rfl _ HO.out h23 HT.out h2 (by omega)).mono ?_); rw [decide_eq_true (rfl : nw (x) = nw (x))]; rintro e x_24 ⟨rfl, hb⟩; replace HB := Aside0.mk (below_step HB.out hb); replace hci := (hb.cell (World.block_lt_of_cell? _ _ hci)).trans hci; replace hcj := (hb.cell (World.block_lt_of_cell? _ _ hcj)).trans hcj; clear hb)
    | fail)
  go_ret; exact ⟨rfl, HB.out⟩

set_option maxHeartbeats 6400000 in
set_option maxRecDepth 100000 in
theorem natBack_Nil (A0 : Option Addr) (n0 c0 : Nat) (l0 : List Int) (hn0 : l0.length = n0) (y : Int) (hy : y = 0) (i j : Nat) (hi : i ≤ 255) (hj : j ≤ 255) (w : World) (hr0 : Kd.C (Kd.int .u64) w A0 l0.length l0) (hc0 : n0 ≤ c0) (hw0 : Wd l0) (hl0 : n0 ≤ 60) :
    Calls Try.prog 7 #[.slice A0 n0 c0, .int .u64 y, .agg #[.int .u8 i, .int .u8 j]] w (Tells (.bool true) w) := by
  subst hy
  have hy : (0 : Int) ≤ 0 ∧ (0 : Int) < 18446744073709551616 := by decide
  obtain ⟨x, hx⟩ : ∃ x, wv l0 = x := ⟨_, rfl⟩
  obtain ⟨Z, hZ⟩ : ∃ Z, (0 : Int).toNat = Z := ⟨_, rfl⟩
  have hx1 : x < 2 ^ (64 * n0) := by rw [← hx, ← hn0]; exact wv_lt hw0
  have hZ1 : Z < 2 ^ 64 := by omega
  have l1 : (nw x).length ≤ 60 := nw_len_le hx1 (by omega)
  have l2 : (nw (x * Z)).length ≤ 100 := nw_len_le (mul_lt_pow hx1 hZ1) (by omega)
  have l3 : (nw (x / Z)).length ≤ 100 := nw_len_le (Nat.lt_of_le_of_lt (Nat.div_le_self _ _) hx1) (by omega)
  have l4 : (nw (x / Z * Z)).length ≤ 100 := nw_len_le (Nat.lt_of_le_of_lt (Nat.div_mul_le_self _ _) hx1) (by omega)
  have l5 : (nw (Z ^ i)).length ≤ 1000 := nw_len_le (pow_lt_pow hZ1 i) (by omega)
  have l6 : (nw (Z ^ j)).length ≤ 1000 := nw_len_le (pow_lt_pow hZ1 j) (by omega)
  have l7 : (nw (Z ^ (i + j))).length ≤ 1000 := nw_len_le (pow_lt_pow hZ1 (i + j)) (by omega)
  have l8 : (nw (2 ^ i)).length ≤ 1000 := nw_len_le (Nat.pow_lt_pow_right (by omega) (show i < i + 1 by omega)) (by omega)
  have l9 : (nw (x * 2 ^ i)).length ≤ 1000 := nw_len_le (mul_lt_pow hx1 (Nat.pow_lt_pow_right (by omega) (show i < i + 1 by omega))) (by omega)
  have l10 : (nw (x + Z ^ i)).length ≤ 1000 := nw_len_le (add_lt_pow hx1 (pow_lt_pow hZ1 i)) (by omega)
  have l11 : (nb x).length ≤ 1000 := nb_len_le hx1 (by omega)
  have hP1 : ∀ W, Calls Try.prog 21 #[.int .u64 (0 : Int), .int .i64 i] W (Res2 W (Z ^ i) 0) := fun W => by rw [← hZ]; exact npower_small (0 : Int) i ⟨by omega, by omega⟩ (by omega) W
  have hP2 : ∀ W, Calls Try.prog 21 #[.int .u64 (0 : Int), .int .i64 j] W (Res2 W (Z ^ j) 0) := fun W => by rw [← hZ]; exact npower_small (0 : Int) j ⟨by omega, by omega⟩ (by omega) W
  have hP3 : ∀ W, Calls Try.prog 21 #[.int .u64 (0 : Int), .int .i64 ((i : Int) + (j : Int))] W (Res2 W (Z ^ (i + j)) 0) := fun W => by rw [← hZ, ← Int.natCast_add]; exact npower_small (0 : Int) (i + j) ⟨by omega, by omega⟩ (by omega) W
  have hP4 : ∀ W, Calls Try.prog 21 #[.int .u64 2, .int .i64 i] W (Res2 W (2 ^ i) 0) := fun W => npower_small 2 i ⟨by omega, by omega⟩ (by omega) W
  have hpe : Z ^ i * Z ^ j = Z ^ (i + j) := (Nat.pow_add Z i j).symm
  have HPE := Aside0.mk hpe
  have HX := Aside0.mk hx
  have HZ := Aside0.mk hZ
  have HW := Aside0.mk hw0
  have HN := Aside0.mk hn0
  have HY := Aside0.mk hy
  have HA := Aside0.mk hr0
  have hci : (w.alloc (.cells #[.int .u8 i, .int .u8 j] 58)).cell? ⟨w.heap.size, 0, none⟩ = some (.int .u8 i) := by go_simp
  have hcj : (w.alloc (.cells #[.int .u8 i, .int .u8 j] 58)).cell? ⟨w.heap.size, 1, none⟩ = some (.int .u8 j) := by go_simp
  have hcA : ∀ {W : World} {p : Addr} {o : Obj} {v : Value}, W.cell? p = some v → (W.alloc o).cell? p = some v := fun h => ((below_alloc (Below.refl _ _) _).cell (World.block_lt_of_cell? _ _ h)).trans h
  clear hx hZ hx1 hZ1 hpe hr0 hw0 hn0
  go_enter Try.func7, Try.ntmps7
  go_wp2_with (first
    | (go_at_call 11; (with_reducible refine (awake_calls _).mono ?_); rintro e x_1 ⟨rfl, hb⟩; have HB := Aside0.mk (below_step (below_alloc (Below.refl _ _) _) hb); replace hci := (hb.cell (World.block_lt_of_cell? _ _ hci)).trans hci; replace hcj := (hb.cell (World.block_lt_of_cell? _ _ hcj)).trans hcj; replace HA := Aside0.mk (Kd.C_below (Kd.C_alloc HA.out _) hb); clear hb)
    | (go_at_call 31; (with_reducible refine (Go.Proofs.Ytjkelnnjfpcapaa.Num.res_v (ntrim_calls A0 n0 c0 l0 HN.out _ HA.out hc0 HW.out (by omega)) x HX.out).mono ?_); rintro e x_2 ⟨B2, d2, rfl, h2, hC, hb⟩; replace HB := Aside0.mk (below_step HB.out hb); replace hci := (hb.cell (World.block_lt_of_cell? _ _ hci)).trans hci; replace hcj := (hb.cell (World.block_lt_of_cell? _ _ hcj)).trans hcj; replace HA := Aside0.mk (Kd.C_below HA.out hb); have HT := Aside0.mk hC; clear hC; clear hb)
    | (go_at_call 21; (with_reducible refine (hP1 _).mono ?_); rintro e x_3 ⟨B3, d3, rfl, h3, hC, hb⟩; replace HB := Aside0.mk (below_step HB.out hb); replace hci := (hb.cell (World.block_lt_of_cell? _ _ hci)).trans hci; replace hcj := (hb.cell (World.block_lt_of_cell? _ _ hcj)).trans hcj; replace HA := Aside0.mk (Kd.C_below HA.out hb); replace HT := Aside0.mk (Kd.C_below HT.out hb); have HP1 := Aside0.mk hC; clear hC; clear hb)
    | (go_at_call 21; (with_reducible refine (hP2 _).mono ?_); rintro e x_4 ⟨B4, d4, rfl, h4, hC, hb⟩; replace HB := Aside0.mk (below_step HB.out hb); replace hci := (hb.cell (World.block_lt_of_cell? _ _ hci)).trans hci; replace hcj := (hb.cell (World.block_lt_of_cell? _ _ hcj)).trans hcj; replace HA := Aside0.mk (Kd.C_below HA.out hb); replace HT := Aside0.mk (Kd.C_below HT.out hb); replace HP1 := Aside0.mk (Kd.C_below HP1.out hb); have HP2 := Aside0.mk hC; clear hC; clear hb)
    | (go_at_call 21; (with_reducible refine (hP3 _).mono ?_); rintro e x_5 ⟨B5, d5, rfl, h5, hC, hb⟩; replace HB := Aside0.mk (below_step HB.out hb); replace hci := (hb.cell (World.block_lt_of_cell? _ _ hci)).trans hci; replace hcj := (hb.cell (World.block_lt_of_cell? _ _ hcj)).trans hcj; replace HA := Aside0.mk (Kd.C_below HA.out hb); replace HT := Aside0.mk (Kd.C_below HT.out hb); replace HP1 := Aside0.mk (Kd.C_below HP1.out hb); replace HP2 := Aside0.mk (Kd.C_below HP2.out hb); have HP3 := Aside0.mk hC; clear hC; clear hb)
    | (go_at_call 20; (with_reducible refine (nleft_all A0 n0 c0 l0 HN.out i (by omega) _ HA.out hc0 HW.out (by omega) (x * 2 ^ i) (by rw [HX.out])).mono ?_); rintro e x_6 ⟨B6, d6, rfl, h6, hC, hb⟩; replace HB := Aside0.mk (below_step HB.out hb); replace hci := (hb.cell (World.block_lt_of_cell? _ _ hci)).trans hci; replace hcj := (hb.cell (World.block_lt_of_cell? _ _ hcj)).trans hcj; replace HA := Aside0.mk (Kd.C_below HA.out hb); replace HT := Aside0.mk (Kd.C_below HT.out hb); replace HP1 := Aside0.mk (Kd.C_below HP1.out hb); replace HP2 := Aside0.mk (Kd.C_below HP2.out hb); replace HP3 := Aside0.mk (Kd.C_below HP3.out hb); have HL := Aside0.mk hC; clear hC; clear hb)
    | (go_at_call 21; (with_reducible refine (hP4 _).mono ?_); rintro e x_7 ⟨B7, d7, rfl, h7, hC, hb⟩; replace HB := Aside0.mk (below_step HB.out hb); replace hci := (hb.cell (World.block_lt_of_cell? _ _ hci)).trans hci; replace hcj := (hb.cell (World.block_lt_of_cell? _ _ hcj)).trans hcj; replace HA := Aside0.mk (Kd.C_below HA.out hb); replace HT := Aside0.mk (Kd.C_below HT.out hb); replace HP1 := Aside0.mk (Kd.C_below HP1.out hb); replace HP2 := Aside0.mk (Kd.C_below HP2.out hb); replace HP3 := Aside0.mk (Kd.C_below HP3.out hb); replace HL := Aside0.mk (Kd.C_below HL.out hb); have HP4 := Aside0.mk hC; clear hC; clear hb)
    | (go_at_call 28; (with_reducible refine (nadd_v A0 n0 c0 l0 HN.out B3 _ d3 (nw (Z ^ i)) rfl _ HA.out HP1.out HW.out (nw_Wd _) (by omega) (by omega) (x + Z ^ i) (by rw [HX.out, wv_nw])).mono ?_); rintro e x_8 ⟨B8, d8, rfl, h8, hC, hb⟩; replace HB := Aside0.mk (below_step HB.out hb); replace hci := (hb.cell (World.block_lt_of_cell? _ _ hci)).trans hci; replace hcj := (hb.cell (World.block_lt_of_cell? _ _ hcj)).trans hcj; replace HA := Aside0.mk (Kd.C_below HA.out hb); replace HT := Aside0.mk (Kd.C_below HT.out hb); replace HP1 := Aside0.mk (Kd.C_below HP1.out hb); replace HP2 := Aside0.mk (Kd.C_below HP2.out hb); replace HP3 := Aside0.mk (Kd.C_below HP3.out hb); replace HL := Aside0.mk (Kd.C_below HL.out hb); replace HP4 := Aside0.mk (Kd.C_below HP4.out hb); have HAd := Aside0.mk hC; clear hC; clear hb)
    | (go_at_call 25; (with_reducible refine (nsub_v B8 _ d8 (nw (x + Z ^ i)) rfl B3 _ d3 (nw (Z ^ i)) rfl _ HAd.out HP1.out (nw_Wd _) (nw_Wd _) (by omega) (by omega) (by rw [wv_nw, wv_nw]; omega) x (by rw [wv_nw, wv_nw]; omega)).mono ?_); rintro e x_9 ⟨B9, d9, rfl, h9, hC, hb⟩; replace HB := Aside0.mk (below_step HB.out hb); replace hci := (hb.cell (World.block_lt_of_cell? _ _ hci)).trans hci; replace hcj := (hb.cell (World.block_lt_of_cell? _ _ hcj)).trans hcj; replace HA := Aside0.mk (Kd.C_below HA.out hb); replace HT := Aside0.mk (Kd.C_below HT.out hb); replace HP1 := Aside0.mk (Kd.C_below HP1.out hb); replace HP2 := Aside0.mk (Kd.C_below HP2.out hb); replace HP3 := Aside0.mk (Kd.C_below HP3.out hb); replace HL := Aside0.mk (Kd.C_below HL.out hb); replace HP4 := Aside0.mk (Kd.C_below HP4.out hb); have HD := Aside0.mk hC; clear hC; clear hb)
    | (go_at_call 36; (with_reducible refine (nmul_v B3 _ d3 (nw (Z ^ i)) rfl B4 _ d4 (nw (Z ^ j)) rfl _ HP1.out HP2.out (nw_Wd _) (nw_Wd _) (by omega) (by omega) (Z ^ (i + j)) (by rw [wv_nw, wv_nw]; exact HPE.out)).mono ?_); rintro e x_10 ⟨B10, d10, rfl, h10, hC, hb⟩; replace HB := Aside0.mk (below_step HB.out hb); replace hci := (hb.cell (World.block_lt_of_cell? _ _ hci)).trans hci; replace hcj := (hb.cell (World.block_lt_of_cell? _ _ hcj)).trans hcj; replace HA := Aside0.mk (Kd.C_below HA.out hb); replace HT := Aside0.mk (Kd.C_below HT.out hb); replace HP1 := Aside0.mk (Kd.C_below HP1.out hb); replace HP2 := Aside0.mk (Kd.C_below HP2.out hb); replace HP3 := Aside0.mk (Kd.C_below HP3.out hb); replace HL := Aside0.mk (Kd.C_below HL.out hb); replace HP4 := Aside0.mk (Kd.C_below HP4.out hb); replace HD := Aside0.mk (Kd.C_below HD.out hb); have HX1 := Aside0.mk hC; clear hC; clear hb)
    | (go_at_call 12; (with_reducible refine (wsame_calls B10 _ d10 (nw (Z ^ (i + j))) rfl B5 _ d5 (nw (Z ^ (i + j))) rfl _ HX1.out h10 HP3.out h5 (by omega)).mono ?_); rw [decide_eq_true (rfl : nw (Z ^ (i + j)) = nw (Z ^ (i + j)))]; rintro e x_11 ⟨rfl, hb⟩; replace HB := Aside0.mk (below_step HB.out hb); replace hci := (hb.cell (World.block_lt_of_cell? _ _ hci)).trans hci; replace hcj := (hb.cell (World.block_lt_of_cell? _ _ hcj)).trans hcj; replace HA := Aside0.mk (Kd.C_below HA.out hb); replace HT := Aside0.mk (Kd.C_below HT.out hb); replace HL := Aside0.mk (Kd.C_below HL.out hb); replace HP4 := Aside0.mk (Kd.C_below HP4.out hb); replace HD := Aside0.mk (Kd.C_below HD.out hb); clear hb)
    | (go_at_call 36; (with_reducible refine (nmul_v A0 n0 c0 l0 HN.out B7 _ d7 (nw (2 ^ i)) rfl _ HA.out HP4.out HW.out (nw_Wd _) (by omega) (by omega) (x * 2 ^ i) (by rw [HX.out, wv_nw])).mono ?_); rintro e x_12 ⟨B12, d12, rfl, h12, hC, hb⟩; replace HB := Aside0.mk (below_step HB.out hb); replace hci := (hb.cell (World.block_lt_of_cell? _ _ hci)).trans hci; replace hcj := (hb.cell (World.block_lt_of_cell? _ _ hcj)).trans hcj; replace HA := Aside0.mk (Kd.C_below HA.out hb); replace HT := Aside0.mk (Kd.C_below HT.out hb); replace HL := Aside0.mk (Kd.C_below HL.out hb); replace HP4 := Aside0.mk (Kd.C_below HP4.out hb); replace HD := Aside0.mk (Kd.C_below HD.out hb); have HX2 := Aside0.mk hC; clear hC; clear hb)
    | (go_at_call 12; (with_reducible refine (wsame_calls B6 _ d6 (nw (x * 2 ^ i)) rfl B12 _ d12 (nw (x * 2 ^ i)) rfl _ HL.out h6 HX2.out h12 (by omega)).mono ?_); rw [decide_eq_true (rfl : nw (x * 2 ^ i) = nw (x * 2 ^ i))]; rintro e x_13 ⟨rfl, hb⟩; replace HB := Aside0.mk (below_step HB.out hb); replace hci := (hb.cell (World.block_lt_of_cell? _ _ hci)).trans hci; replace hcj := (hb.cell (World.block_lt_of_cell? _ _ hcj)).trans hcj; replace HA := Aside0.mk (Kd.C_below HA.out hb); replace HT := Aside0.mk (Kd.C_below HT.out hb); replace HD := Aside0.mk (Kd.C_below HD.out hb); clear hb)
    | (go_at_call 12; (with_reducible refine (wsame_calls B9 _ d9 (nw x) rfl B2 _ d2 (nw x) rfl _ HD.out h9 HT.out h2 (by omega)).mono ?_); rw [decide_eq_true (rfl : nw (x) = nw (x))]; rintro e x_14 ⟨rfl, hb⟩; replace HB := Aside0.mk (below_step HB.out hb); replace hci := (hb.cell (World.block_lt_of_cell? _ _ hci)).trans hci; replace hcj := (hb.cell (World.block_lt_of_cell? _ _ hcj)).trans hcj; replace HA := Aside0.mk (Kd.C_below HA.out hb); replace HT := Aside0.mk (Kd.C_below HT.out hb); clear hb)
    | (go_at_call 17; (with_reducible refine (Go.Proofs.Ytjkelnnjfpcapaa.Num.resb_v (nbytes_calls A0 n0 c0 l0 HN.out _ HA.out hc0 HW.out (by omega)) x HX.out).mono ?_); rintro e x_15 ⟨B15, d15, rfl, h15, hC, hb⟩; replace HB := Aside0.mk (below_step HB.out hb); replace hci := (hb.cell (World.block_lt_of_cell? _ _ hci)).trans hci; replace hcj := (hb.cell (World.block_lt_of_cell? _ _ hcj)).trans hcj; replace HT := Aside0.mk (Kd.C_below HT.out hb); have HBy := Aside0.mk hC; clear hC; clear hb)
    | (go_at_call 13; (with_reducible refine (nof_v B15 _ d15 (nb x) rfl _ HBy.out (nb_By _) (by omega) x (bv_nb x)).mono ?_); rintro e x_16 ⟨B16, d16, rfl, h16, hC, hb⟩; replace HB := Aside0.mk (below_step HB.out hb); replace hci := (hb.cell (World.block_lt_of_cell? _ _ hci)).trans hci; replace hcj := (hb.cell (World.block_lt_of_cell? _ _ hcj)).trans hcj; replace HT := Aside0.mk (Kd.C_below HT.out hb); have HO := Aside0.mk hC; clear hC; clear hb)
    | (go_at_call 12; (with_reducible refine (wsame_calls B16 _ d16 (nw x) rfl B2 _ d2 (nw x) rfl _ HO.out h16 HT.out h2 (by omega)).mono ?_); rw [decide_eq_true (rfl : nw (x) = nw (x))]; rintro e x_17 ⟨rfl, hb⟩; replace HB := Aside0.mk (below_step HB.out hb); replace hci := (hb.cell (World.block_lt_of_cell? _ _ hci)).trans hci; replace hcj := (hb.cell (World.block_lt_of_cell? _ _ hcj)).trans hcj; clear hb)
    | fail)
  go_ret; exact ⟨rfl, HB.out⟩

theorem natBack_walk (a0 : Option Addr) (len0 cap0 : Nat) (z0 : List Int) (y a b : Int) (w : World) (w0 : (a0 = none ∧ len0 = 0 ∧ cap0 = 0 ∧ z0 = []) ∨ ∃ x, a0 = some x ∧ len0 ≤ cap0 ∧ cap0 ≤ maxLen ∧ z0.length = cap0 ∧ (∀ i, i < z0.length → w.cell? (x.add i) = some (.int .u64 (z0.getD i 0))) ∧ ∀ n ∈ z0, (Lit.int .u64 n).wf = true) (y0 : len0 * 8 ≤ 140737488351232) (w1 : (Lit.int .u64 y).wf = true) (wa : (Lit.int .u8 a).wf = true) (wb : (Lit.int .u8 b).wf = true) :
    Calls Try.prog 7 #[.slice a0 len0 cap0, .int .u64 y, .agg #[.int .u8 a, .int .u8 b]] w fun e w' => e = .returned (.bool true) ∧ Below w.heap.size w w' := by
  obtain ⟨l0, rfl, hr0, hm0, hw0, hc0⟩ := ReadsInt.ofRowC w0
  have hy := wf_u64 w1
  have ha := wf_u8 wa
  have hb := wf_u8 wb
  by_cases hbig : 60 < l0.length
  · exact natBack_big a0 _ cap0 y a b w (by omega) hbig
  obtain ⟨i, rfl⟩ : ∃ n : Nat, a = n := ⟨a.toNat, by omega⟩
  obtain ⟨j, rfl⟩ : ∃ n : Nat, b = n := ⟨b.toNat, by omega⟩
  have hC := Kd.C_of_reads (d := (0 : Int)) (h1 := fun _ => rfl) hr0
  by_cases hz : y = 0
  · subst hz
    exact natBack_Nil a0 _ cap0 l0 rfl 0 rfl i j (by omega) (by omega) w hC hc0 (fun x hx => wf_u64 (hw0 x hx)) (by omega)
  · exact natBack_Pos a0 _ cap0 l0 rfl y (by omega) i j (by omega) (by omega) w hC hc0 (fun x hx => wf_u64 (hw0 x hx)) (by omega)
end Go.Proofs.Ytjkelnnjfpcapaa.Num
