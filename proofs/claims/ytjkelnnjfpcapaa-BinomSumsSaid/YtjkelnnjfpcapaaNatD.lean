/- nat: Bits, Power: the calls do what numbers do. -/
import Derived.Test.YtjkelnnjfpcapaaNatC
namespace Go.Proofs.Ytjkelnnjfpcapaa.Num
open Go.RowKit Go.Shelf Go.Proofs.Ytjkelnnjfpcapaa.PNat Go.Proofs.YtjkelnnjfpcapaaW Go.Proofs.YtjkelnnjfpcapaaW.PrintWords Go.Proofs.YtjkelnnjfpcapaaW.PrintLast Go.Proofs.YtjkelnnjfpcapaaW.PrintMore

theorem bitLenAux_bl : ∀ (f x : Nat), x < 2 ^ f → Lib.bitLenAux f x = bl x
  | 0, x, h => by simp at h; subst h; rw [bl_zero]; rfl
  | f + 1, x, h => by
    rw [Lib.bitLenAux]
    by_cases h0 : x = 0
    · rw [if_pos h0, h0, bl_zero]
    · rw [if_neg h0, bl_pos h0, bitLenAux_bl f (x / 2) (by rw [Nat.pow_succ] at h; omega)]
theorem bitLen_bl (x : Nat) (h : x < 18446744073709551616) : Lib.bitLen x = bl x := bitLenAux_bl 64 x h
theorem len64_calls (x : Int) (hx : 0 ≤ x ∧ x < 18446744073709551616) (w : World) : Calls Try.prog 49 #[.int .u64 x] w fun e w' => e = .returned (.int .i64 (bl x.toNat : Int)) ∧ w = w' := by
  refine (Go.Proofs.Try.bits_Len64 x w hx.1 (by omega)).mono fun e w' h => ⟨?_, h.2.symm⟩
  rw [h.1, bitLen_bl _ (by omega)]
theorem nw_zero : nw 0 = [] := by rw [nw, bl_zero]; rfl
theorem nw_ne {n : Nat} (h : n ≠ 0) : ∃ a x, nw n = a ++ [x] ∧ x ≠ 0 ∧ bl n = 64 * a.length + bl x.toNat ∧ 0 ≤ x ∧ x < 18446744073709551616 := by
  have h1 := tr_nw (nw n) (nw_Wd n)
  rw [wv_nw] at h1
  rcases tr_top (nw n) with e | ⟨a, x, e, hx⟩
  · rw [h1] at e
    have := wv_nw n
    rw [e] at this
    exact absurd this.symm h
  · rw [h1] at e
    have hw := nw_Wd n
    rw [e] at hw
    have hx2 := hw x (by simp)
    have hv := wv_nw n
    rw [e, wv_append, wv, wv] at hv
    have ha : Wd a := fun y hy => hw y (by simp [hy])
    have := bl_shift (64 * a.length) (wv a) x.toNat (wv_lt ha) (by omega)
    rw [show wv a + 2 ^ (64 * a.length) * x.toNat = n from by rw [← hv]; simp] at this
    exact ⟨a, x, e, hx, this, hx2⟩

set_option maxHeartbeats 800000 in
set_option maxRecDepth 100000 in
theorem nbits_calls (A0 : Option Addr) (n0 c0 : Nat) (l0 : List Int) (hn0 : l0.length = n0) (w : World) (hr0 : Kd.C (Kd.int .u64) w A0 l0.length l0) (hc0 : n0 ≤ c0) (hw0 : Wd l0) (hl0 : n0 ≤ 1000000) :
    Calls Try.prog 32 #[.slice A0 n0 c0] w fun e w' => e = .returned (.int .i64 (bl (wv l0) : Int)) ∧ w = w' := by
  have HT := Aside0.mk (trim_of A0 n0 c0 l0 hn0 w hr0 hc0 hl0)
  have htl := tr_length l0
  have h2 := Kd.C_take (m := (tr l0).length) hr0 htl
  rw [← tr_take l0] at h2
  have e := tr_nw l0 hw0
  have HE := Aside0.mk e
  rw [e] at h2 htl
  have H2 := Aside0.mk h2
  clear hr0 e h2 hw0
  by_cases h0 : wv l0 = 0
  · have e0 : tr l0 = [] := by rw [HE.out, h0, nw_zero]
    have E0 := Aside0.mk e0
    clear e0 HE
    rw [h0, bl_zero]
    have HT2 := HT.out
    rw [E0.out] at HT2
    have HT3 := Aside0.mk HT2
    clear HT2 HT
    go_enter Try.func32, Try.ntmps32
    go_wp2_with (go_at_call 31; (with_reducible refine HT3.out.mono ?_); rintro e w' ⟨rfl, rfl⟩)
    go_ret
    exact ⟨rfl, rfl⟩
  · obtain ⟨a, x, e1, hx, hb, hx2⟩ := nw_ne h0
    have E1 := Aside0.mk e1
    have HB := Aside0.mk hb
    have HX := Aside0.mk hx2
    have hlen : (nw (wv l0)).length = a.length + 1 := by rw [e1]; simp
    clear e1 hb hx2 hx
    obtain ⟨ad, ea, hc⟩ := Kd.at_int H2.out (a.length : Int) (by omega) (by omega)
    subst ea
    rw [Int.toNat_natCast, show rd (nw (wv l0)) (a.length : Int) = x from by rw [E1.out]; simp [rd]] at hc
    have HT2 := HT.out
    rw [HE.out, hlen] at HT2
    have HT3 := Aside0.mk HT2
    clear HT2 HT
    have hal : a.length ≤ 1000000 := by omega
    clear hlen htl
    have HL := Aside0.mk (len64_calls x HX.out w)
    have hbx : bl x.toNat ≤ 64 := (bl_le _ _).2 (by have := HX.out; omega)
    rw [HB.out]
    go_enter Try.func32, Try.ntmps32
    go_wp2_with (first
      | (go_at_call 31; (with_reducible refine HT3.out.mono ?_); rintro e w' ⟨rfl, rfl⟩)
      | (go_at_call 49; (with_reducible refine HL.out.mono ?_); rintro e w' ⟨rfl, rfl⟩)
      | fail)
    go_ret
    exact ⟨by first | rfl | (push_cast; rfl), rfl⟩

/-- Two results: a slice that reads as a number's words, and an error's number. -/
def Res2 (w : World) (n : Nat) (code : Int) (e : Ending) (w' : World) : Prop :=
  ∃ A c, e = .returned (.tuple #[.slice A (nw n).length c, .int .i64 code]) ∧ (nw n).length ≤ c ∧ Kd.C (Kd.int .u64) w' A (nw n).length (nw n) ∧ Below w.heap.size w w'
theorem Res2.nil {w w' : World} (code : Int) (h : Below w.heap.size w w') : Res2 w 0 code (.returned (.tuple #[.slice none 0 0, .int .i64 code])) w' := ⟨none, 0, by rw [nw_zero]; rfl, by rw [nw_zero]; simp, by rw [nw_zero]; exact Kd.C_nil _ _, h⟩
theorem nw_small {x : Nat} (h : x < 18446744073709551616) (h0 : x ≠ 0) : nw x = [(x : Int)] := by
  have : bl x ≤ 64 := (bl_le 64 x).2 h
  have h1 : 1 ≤ bl x := by rw [bl_pos h0]; omega
  rw [nw, show (bl x + 63) / 64 = 1 from by omega, wl, wl, Nat.mod_eq_of_lt h]
/-- The pieces of a loop that takes a power. -/
def PowIn (w n : Nat) (m o q : Nat) : Prop := o * q ^ m = w ^ n ∧ 1 ≤ o ∧ 1 ≤ q ∧ o ≤ w ^ n ∧ (m = 0 ∨ q ≤ w ^ n)
theorem PowIn.start {w n : Nat} (hw : 2 ≤ w) : PowIn w n n 1 w := ⟨by simp, by omega, by omega, Nat.pow_pos (by omega), by
  by_cases h : n = 0
  · exact Or.inl h
  · exact Or.inr (by
      calc w = w ^ 1 := by simp
        _ ≤ w ^ n := Nat.pow_le_pow_right (by omega) (by omega))⟩
theorem PowIn.odd {w n m o q : Nat} (h : PowIn w n (2 * m + 1) o q) : (m = 0 → PowIn w n 0 (o * q) q) ∧ (1 ≤ m → PowIn w n m (o * q) (q * q)) := by
  obtain ⟨h1, h2, h3, h4, h5⟩ := h
  have e : o * q ^ (2 * m + 1) = o * q * (q * q) ^ m := by rw [Nat.pow_succ, Nat.pow_mul, Nat.pow_two, Nat.mul_comm _ q, Nat.mul_assoc]
  have hq : 1 ≤ (q * q) ^ m := Nat.pow_pos (Nat.mul_pos h3 h3)
  have ho : 1 ≤ o * q := Nat.mul_pos h2 h3
  have hle : o * q ≤ w ^ n := by rw [← h1, e]; exact Nat.le_mul_of_pos_right _ hq
  refine ⟨fun h0 => ?_, fun h0 => ?_⟩
  · subst h0
    exact ⟨by rw [← h1, e]; simp, ho, h3, hle, Or.inl rfl⟩
  · refine ⟨by rw [← h1, e], ho, Nat.mul_pos h3 h3, hle, Or.inr ?_⟩
    rw [← h1, e]
    calc q * q ≤ (q * q) ^ m := by
          calc q * q = (q * q) ^ 1 := by simp
            _ ≤ (q * q) ^ m := Nat.pow_le_pow_right (Nat.mul_pos h3 h3) h0
      _ ≤ o * q * (q * q) ^ m := Nat.le_mul_of_pos_left _ ho
theorem PowIn.even {w n m o q : Nat} (h : PowIn w n (2 * m) o q) (hm : 1 ≤ m) : PowIn w n m o (q * q) := by
  obtain ⟨h1, h2, h3, h4, h5⟩ := h
  have e : o * q ^ (2 * m) = o * (q * q) ^ m := by rw [Nat.pow_mul, Nat.pow_two]
  refine ⟨by rw [← h1, e], h2, Nat.mul_pos h3 h3, h4, Or.inr ?_⟩
  rw [← h1, e]
  calc q * q = (q * q) ^ 1 := by simp
    _ ≤ (q * q) ^ m := Nat.pow_le_pow_right (Nat.mul_pos h3 h3) hm
    _ ≤ o * (q * q) ^ m := Nat.le_mul_of_pos_left _ h2
theorem nw_len_of {x M : Nat} (hx : x ≤ M) : (nw x).length ≤ (bl M + 63) / 64 := by
  have : bl x ≤ bl M := (bl_le _ _).2 (Nat.lt_of_le_of_lt hx ((bl_le _ _).1 (Nat.le_refl _)))
  rw [nw_len]; omega
theorem pow_bl (w n : Nat) : bl (w ^ n) ≤ bl w * n + 1 := by
  by_cases hn : n = 0
  · subst hn; rw [Nat.pow_zero, bl_pos (by decide), show 1 / 2 = 0 from rfl, bl_zero]; omega
  · refine Nat.le_trans ((bl_le (bl w * n) _).2 ?_) (by omega)
    rw [Nat.pow_mul]
    exact Nat.pow_lt_pow_left ((bl_le _ _).1 (Nat.le_refl _)) hn

set_option maxHeartbeats 1600000 in
set_option maxRecDepth 100000 in
theorem npower_loop (x : Int) (n : Nat) (hx : 2 ≤ x ∧ x < 18446744073709551616) (hlim : ¬ (262144 / (bl x.toNat : Int) < (n : Int))) (w : World) :
    Calls Try.prog 21 #[.int .u64 x, .int .i64 n] w (Res2 w (x.toNat ^ n) 0) := by
  have HX : Aside0 (0 ≤ x ∧ x < 18446744073709551616) := ⟨by omega, hx.2⟩
  have hx2 : 2 ≤ x := hx.1
  have HL := Aside0.mk (len64_calls x HX.out w)
  have hb1 : 1 ≤ bl x.toNat := by rw [bl_pos (by omega)]; omega
  have hb2 : bl x.toNat ≤ 64 := (bl_le _ _).2 (by have := HX.out; omega)
  have hbn : bl x.toNat * n ≤ 262144 := by
    have h1 : (n : Int) ≤ 262144 / (bl x.toNat : Int) := by omega
    have h2 := Int.mul_le_mul_of_nonneg_left h1 (show (0 : Int) ≤ (bl x.toNat : Int) by omega)
    have h3 : (bl x.toNat : Int) * (262144 / (bl x.toNat : Int)) ≤ 262144 := Int.mul_ediv_self_le (by omega)
    have h4 : ((bl x.toNat * n : Nat) : Int) ≤ 262144 := by rw [Int.natCast_mul]; omega
    omega
  have hn2 : n ≤ 262144 := Nat.le_trans (Nat.le_mul_of_pos_left _ hb1) hbn
  have hNb : (bl (x.toNat ^ n) + 63) / 64 ≤ 5000 := by have := pow_bl x.toNat n; omega
  have hsz : ∀ y, y ≤ x.toNat ^ n → (nw y).length ≤ 5000 := fun y hy => Nat.le_trans (nw_len_of hy) hNb
  have HSZ := Aside0.mk hsz
  have hd : decide (262144 / (bl x.toNat : Int) < (n : Int)) = false := decide_eq_false hlim
  have hd1 : decide ((1 : Int) < x) = true := decide_eq_true (by omega)
  have hd2 : decide (x < (2 : Int)) = false := decide_eq_false (by omega)
  have HP := Aside0.mk (PowIn.start (w := x.toNat) (n := n) (by omega))
  clear hsz hNb hbn hx
  go_enter Try.func21, Try.ntmps21
  go_wp2_with (go_at_call 49; (with_reducible refine HL.out.mono ?_); rintro e w' ⟨rfl, rfl⟩)
  have N1 : nw 1 = [1] := nw_small (by decide) (by decide)
  have NX : nw x.toNat = [x] := by rw [nw_small (by have := HX.out; omega) (by omega)]; congr 1; omega
  have C6 : Kd.C (Kd.int .u64) (w.alloc (.cells #[.int .u64 1] 35)) (some ⟨w.heap.size, 0, none⟩) [(1 : Int)].length [1] := lit_C w [1] (by simp)
  have C7 : Kd.C (Kd.int .u64) ((w.alloc (.cells #[.int .u64 1] 35)).alloc (.cells #[.int .u64 x] 35)) (some ⟨w.heap.size + 1, 0, none⟩) [x].length [x] := by
    have h := lit_C (w.alloc (.cells #[.int .u64 1] 35)) [x] (by simp)
    rw [show (w.alloc (.cells #[.int .u64 1] 35)).heap.size = w.heap.size + 1 from by simp] at h
    exact h
  have D6 := Aside0.mk (Kd.C_alloc C6 (.cells #[.int .u64 x] 35))
  have D7 := Aside0.mk C7
  rw [← N1] at D6
  rw [← NX] at D7
  have M1 := Aside0.mk N1
  have MX := Aside0.mk NX
  clear N1 NX C6 C7
  go_loopw [1, 6, 7] (fun v1 v6 v7 wr => ∃ (m o q : Nat) (A6 A7 : Option Addr) (c6 c7 : Nat), m ≤ 262144 ∧ v1 = .int .i64 m ∧ v6 = .slice A6 (nw o).length c6 ∧ v7 = .slice A7 (nw q).length c7 ∧ Aside0 (PowIn x.toNat n m o q) ∧
      Aside0 ((nw o).length ≤ c6 ∧ Kd.C (Kd.int .u64) wr A6 (nw o).length (nw o)) ∧ Aside0 ((nw q).length ≤ c7 ∧ Kd.C (Kd.int .u64) wr A7 (nw q).length (nw q)) ∧ Aside0 (Below w.heap.size w wr))
    (fun v1 _ _ _ => (intOf v1).toNat)
  case atStart => exact ⟨n, 1, x.toNat, _, _, 1, 1, hn2, rfl, by rw [M1.out]; rfl, by rw [MX.out]; rfl, HP, ⟨by rw [M1.out]; simp, D6.out⟩, ⟨by rw [MX.out]; simp, D7.out⟩, ⟨below_alloc (below_alloc (Below.refl _ _) _) _⟩⟩
  case round =>
    clear D6 D7 M1 MX HP
    obtain ⟨m, o, q, A6, A7, c6, c7, hm, rfl, rfl, rfl, HP, H6, H7, HB⟩ := hrel
    have lo := Aside0.mk (HSZ.out o HP.out.2.2.2.1)
    by_cases h0 : m = 0
    · subst h0
      go_wp2
      go_ret2
      have e : o = x.toNat ^ n := by have := HP.out.1; simpa using this
      rw [← e]
      exact ⟨A6, c6, rfl, H6.out.1, H6.out.2, HB.out⟩
    have lq := Aside0.mk (HSZ.out q (by rcases HP.out.2.2.2.2 with h | h; exact absurd h h0; exact h))
    have HMo := Aside0.mk (nmul_calls A6 c6 (nw o) A7 c7 (nw q) wr H6.out.2 H7.out.2 (nw_Wd o) (nw_Wd q) (Nat.le_trans lo.out (by omega)) (Nat.le_trans lq.out (by omega)))
    rw [wv_nw, wv_nw] at HMo
    have HMq := fun (W : World) (hW : Below wr.heap.size wr W) => nmul_calls A7 c7 (nw q) A7 c7 (nw q) W (Kd.C_below H7.out.2 hW) (Kd.C_below H7.out.2 hW) (nw_Wd q) (nw_Wd q) (Nat.le_trans lq.out (by omega)) (Nat.le_trans lq.out (by omega))
    rw [wv_nw] at HMq
    have HMQ := Aside0.mk HMq
    clear HMq
    rcases Nat.mod_two_eq_zero_or_one m with hp | hp
    · obtain ⟨m, rfl⟩ : ∃ j, m = 2 * j := ⟨m / 2, by omega⟩
      have HN := Aside0.mk (HP.out.even (by omega))
      have hd3 : ((2 * (m : Int)) % 2 == 1) = false := by simp
      go_wp2_with (first
        | (go_at_call 36; (with_reducible refine (HMQ.out wr (Below.refl _ _)).mono ?_); rintro e w1 ⟨A1, c1, rfl, h1, h2, h3⟩; have H1 := Aside0.mk (And.intro h1 h2); have HB1 := Aside0.mk h3; clear h1 h2 h3)
        | fail)
      go_roundw
      case rel => exact ⟨m, o, q * q, A6, A1, c6, c1, by omega, by first | rfl | (congr 1; done) | (congr 1; omega), rfl, rfl, HN, ⟨H6.out.1, Kd.C_below H6.out.2 HB1.out⟩, H1, ⟨below_step HB.out HB1.out⟩⟩
      case measure => simp [intOf]; omega
    · obtain ⟨m, rfl⟩ : ∃ j, m = 2 * j + 1 := ⟨m / 2, by omega⟩
      have HN := Aside0.mk HP.out.odd
      have hd3 : ((2 * (m : Int) + 1) % 2 == 1) = true := by simp
      by_cases h1 : m = 0
      · subst h1
        go_wp2_with (first
          | (go_at_call 36; (with_reducible refine HMo.out.mono ?_); rintro e w1 ⟨A1, c1, rfl, h1, h2, h3⟩; have H1 := Aside0.mk (And.intro h1 h2); have HB1 := Aside0.mk h3; clear h1 h2 h3)
          | fail)
        go_roundw
        case rel => exact ⟨0, o * q, q, A1, A7, c1, c7, by omega, by first | rfl | (congr 1; omega), rfl, rfl, ⟨HN.out.1 (by first | trivial | rfl)⟩, H1, ⟨H7.out.1, Kd.C_below H7.out.2 HB1.out⟩, ⟨below_step HB.out HB1.out⟩⟩
        case measure => simp [intOf]
      · go_wp2_with (first
          | (go_at_call 36; (with_reducible refine HMo.out.mono ?_); rintro e w1 ⟨A1, c1, rfl, h1, h2, h3⟩; have H1 := Aside0.mk (And.intro h1 h2); have HB1 := Aside0.mk h3; clear h1 h2 h3)
          | (go_at_call 36; (with_reducible refine (HMQ.out _ HB1.out).mono ?_); rintro e w2 ⟨A2, c2, rfl, h1, h2, h3⟩; have H2 := Aside0.mk (And.intro h1 h2); have HB2 := Aside0.mk h3; clear h1 h2 h3)
          | fail)
        go_roundw
        case rel => exact ⟨m, o * q, q * q, A1, A2, c1, c2, by omega, by first | rfl | (congr 1; omega), rfl, rfl, ⟨HN.out.2 (by omega)⟩, ⟨H1.out.1, Kd.C_below H1.out.2 HB2.out⟩, H2, ⟨below_step (below_step HB.out HB1.out) HB2.out⟩⟩
        case measure => simp [intOf]; omega

set_option maxHeartbeats 1600000 in
set_option maxRecDepth 100000 in
theorem npower_neg (x n : Int) (hn : n < 0) (w : World) :
    Calls Try.prog 21 #[.int .u64 x, .int .i64 n] w (Res2 w 0 2) := by
  go_enter Try.func21, Try.ntmps21
  go_wp2
  go_ret2
  exact Res2.nil 2 (Below.refl _ _)
set_option maxHeartbeats 1600000 in
set_option maxRecDepth 100000 in
theorem npower_lim (x : Int) (n : Nat) (hx : 2 ≤ x ∧ x < 18446744073709551616) (hlim : 262144 / (bl x.toNat : Int) < (n : Int)) (w : World) :
    Calls Try.prog 21 #[.int .u64 x, .int .i64 n] w (Res2 w 0 3) := by
  have HX : Aside0 (0 ≤ x ∧ x < 18446744073709551616) := ⟨by omega, hx.2⟩
  have hx2 : 2 ≤ x := hx.1
  have HL := Aside0.mk (len64_calls x HX.out w)
  have hb1 : 1 ≤ bl x.toNat := by rw [bl_pos (by omega)]; omega
  have hb2 : bl x.toNat ≤ 64 := (bl_le _ _).2 (by have := HX.out; omega)
  have hd : decide (262144 / (bl x.toNat : Int) < (n : Int)) = true := decide_eq_true hlim
  have hd1 : decide ((1 : Int) < x) = true := decide_eq_true (by omega)
  clear hx hlim
  go_enter Try.func21, Try.ntmps21
  go_wp2_with (go_at_call 49; (with_reducible refine HL.out.mono ?_); rintro e w' ⟨rfl, rfl⟩)
  go_ret2
  exact Res2.nil 3 (Below.refl _ _)
set_option maxHeartbeats 1600000 in
set_option maxRecDepth 100000 in
theorem npower_zero (n : Nat) (hn : 1 ≤ n) (w : World) :
    Calls Try.prog 21 #[.int .u64 0, .int .i64 n] w (Res2 w 0 0) := by
  go_enter Try.func21, Try.ntmps21
  go_wp2
  go_ret2
  exact Res2.nil 0 (Below.refl _ _)
set_option maxHeartbeats 1600000 in
set_option maxRecDepth 100000 in
theorem npower_one (x : Int) (n : Nat) (hx : x = 1 ∨ x = 0 ∧ n = 0) (w : World) :
    Calls Try.prog 21 #[.int .u64 x, .int .i64 n] w (Res2 w 1 0) := by
  have N1 : nw 1 = [1] := nw_small (by decide) (by decide)
  have HF : Res2 w 1 0 (.returned (.tuple #[.slice (some ⟨w.heap.size, 0, none⟩) 1 1, .int .i64 0])) (w.alloc (.cells #[.int .u64 1] 35)) := ⟨some ⟨w.heap.size, 0, none⟩, 1, by rw [N1]; rfl, by rw [N1]; simp, by rw [N1]; exact lit_C w [1] (by simp), below_alloc (Below.refl _ _) _⟩
  clear N1
  rcases hx with rfl | ⟨rfl, rfl⟩
  · go_enter Try.func21, Try.ntmps21
    go_wp2
    go_ret2
    exact HF
  · go_enter Try.func21, Try.ntmps21
    go_wp2
    go_ret2
    exact HF
/-- A word's power, from nought on, where it isn't past the limit. -/
theorem npower_calls (x : Int) (n : Nat) (hx : 0 ≤ x ∧ x < 18446744073709551616) (hlim : x < 2 ∨ ¬ (262144 / (bl x.toNat : Int) < (n : Int))) (w : World) :
    Calls Try.prog 21 #[.int .u64 x, .int .i64 n] w (Res2 w (x.toNat ^ n) 0) := by
  by_cases h2 : 2 ≤ x
  · exact npower_loop x n ⟨h2, hx.2⟩ (by omega) w
  · have : x = 0 ∨ x = 1 := by omega
    rcases this with rfl | rfl
    · by_cases h0 : n = 0
      · subst h0
        simpa using npower_one 0 0 (Or.inr ⟨rfl, rfl⟩) w
      · have := npower_zero n (by omega) w
        rw [show (0 : Int).toNat ^ n = 0 from by simp; omega]
        exact this
    · have := npower_one 1 n (Or.inl rfl) w
      rw [show (1 : Int).toNat ^ n = 1 from by simp]
      exact this
end Go.Proofs.Ytjkelnnjfpcapaa.Num
