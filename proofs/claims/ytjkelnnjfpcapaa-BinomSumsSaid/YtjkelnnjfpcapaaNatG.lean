/- nat: what the document's functions answer, said as the calls of this package are; the chapter's examples. -/
import Derived.Test.YtjkelnnjfpcapaaNatF
namespace Go.Proofs.Ytjkelnnjfpcapaa.Num
open Go.RowKit Go.Shelf Go.Proofs.Ytjkelnnjfpcapaa.PNat Go.Proofs.YtjkelnnjfpcapaaW Go.Proofs.YtjkelnnjfpcapaaW.PrintWords Go.Proofs.YtjkelnnjfpcapaaW.PrintLast Go.Proofs.YtjkelnnjfpcapaaW.PrintMore

/-- A slice that reads these numbers, and all that was is as it was. -/
def Got (k : IntKind) (w : World) (l : List Int) (e : Ending) (w' : World) : Prop :=
  ∃ A c, e = .returned (.slice A l.length c) ∧ l.length ≤ c ∧ Kd.C (Kd.int k) w' A l.length l ∧ Below w.heap.size w w'
/-- A value, and the world but for its draws. -/
def Tells (v : Value) (w : World) (e : Ending) (w' : World) : Prop := e = .returned v ∧ Below w.heap.size w w'
theorem Got.of {k : IntKind} {t : Nat} {w w' : World} {l : List Int} {e : Ending} (h : ∃ v0_ : Value, e = .returned (v0_) ∧ Kd.R (Kd.int k) t w' w.heap.size (fun _ => True) v0_ l ∧ Below w.heap.size w w') : Got k w l e w' := by
  obtain ⟨v, rfl, hR, hB⟩ := h
  obtain ⟨A, c, rfl⟩ := Kd.R_slice hR
  have h2 := Kd.R_reads' hR
  exact ⟨A, c, rfl, h2.2.1, h2.2.2, hB⟩
theorem wsame_calls (A0 : Option Addr) (n0 c0 : Nat) (l0 : List Int) (hn0 : l0.length = n0) (A1 : Option Addr) (n1 c1 : Nat) (l1 : List Int) (hn1 : l1.length = n1) (w : World) (hr0 : Kd.C (Kd.int .u64) w A0 l0.length l0) (hc0 : n0 ≤ c0) (hr1 : Kd.C (Kd.int .u64) w A1 l1.length l1) (hc1 : n1 ≤ c1) (hl : n0 ≤ 1000000) :
    Calls Try.prog 12 #[.slice A0 n0 c0, .slice A1 n1 c1] w (Tells (.bool (decide (l0 = l1))) w) := by
  subst hn0 hn1
  obtain ⟨K, hK⟩ := wsame_ev l0 l1 hl
  exact (cleromancyref02_Same.calls K A0 c0 l0 A1 c1 l1 _ w hr0 hc0 hr1 hc1 (hK K (Nat.le_refl _))).mono fun e w' h => ⟨h.1, h.2.below⟩
theorem bsame_calls (A0 : Option Addr) (n0 c0 : Nat) (l0 : List Int) (hn0 : l0.length = n0) (A1 : Option Addr) (n1 c1 : Nat) (l1 : List Int) (hn1 : l1.length = n1) (w : World) (hr0 : Kd.C (Kd.int .u8) w A0 l0.length l0) (hc0 : n0 ≤ c0) (hr1 : Kd.C (Kd.int .u8) w A1 l1.length l1) (hc1 : n1 ≤ c1) (hl : n0 ≤ 1000000) :
    Calls Try.prog 16 #[.slice A0 n0 c0, .slice A1 n1 c1] w (Tells (.bool (decide (l0 = l1))) w) := by
  subst hn0 hn1
  obtain ⟨K, hK⟩ := same_ev l0 l1 hl
  exact (cleromancyref01_Same.calls K A0 c0 l0 A1 c1 l1 _ w hr0 hc0 hr1 hc1 (hK K (Nat.le_refl _))).mono fun e w' h => ⟨h.1, h.2.below⟩
theorem words_calls (A0 : Option Addr) (n0 c0 : Nat) (l0 : List Int) (hn0 : l0.length = n0) (w : World) (hr0 : Kd.C (Kd.int .u64) w A0 l0.length l0) (hc0 : n0 ≤ c0) (hw : Wd l0) (hl : n0 ≤ 1000) :
    Calls Try.prog 19 #[.slice A0 n0 c0] w (Got .i64 w (dg (wv l0))) := by
  subst hn0
  obtain ⟨K, hK⟩ := words_ev l0 hw hl
  exact (cleromancyref01_Words.calls K A0 c0 l0 _ w hr0 hc0 (hK K (Nat.le_refl _))).mono fun e w' h => Got.of h
theorem rwords_calls (A0 : Option Addr) (n0 c0 : Nat) (n : Nat) (hn0 : (dg n).length = n0) (w : World) (hr0 : Kd.C (Kd.int .i64) w A0 (dg n).length (dg n)) (hc0 : n0 ≤ c0) (hl : n0 ≤ 1000000) :
    Calls Try.prog 14 #[.slice A0 n0 c0] w (Got .u64 w (nw n)) := by
  subst hn0
  obtain ⟨K, hK⟩ := rwords_ev n hl
  exact (cleromancyref02_Words.calls K A0 c0 _ _ w hr0 hc0 (hK K (Nat.le_refl _))).mono fun e w' h => Got.of h
theorem big_calls (A0 : Option Addr) (n0 c0 : Nat) (l0 : List Int) (hn0 : l0.length = n0) (w : World) (hr0 : Kd.C (Kd.int .u8) w A0 l0.length l0) (hc0 : n0 ≤ c0) (hb : By l0) (hl : n0 ≤ 100000) :
    Calls Try.prog 15 #[.slice A0 n0 c0] w (Got .i64 w (dg (bv l0))) := by
  subst hn0
  obtain ⟨K, hK⟩ := big_ev l0 hb hl
  exact (cleromancyref01_Big.calls K A0 c0 l0 _ w hr0 hc0 (hK K (Nat.le_refl _))).mono fun e w' h => Got.of h
theorem rbytes_calls (A0 : Option Addr) (n0 c0 : Nat) (n : Nat) (hn0 : (dg n).length = n0) (w : World) (hr0 : Kd.C (Kd.int .i64) w A0 (dg n).length (dg n)) (hc0 : n0 ≤ c0) (hl : n0 ≤ 300000) :
    Calls Try.prog 18 #[.slice A0 n0 c0] w (Got .u8 w (nb n)) := by
  subst hn0
  obtain ⟨K, hK⟩ := rbytes_ev n hl
  exact (cleromancyref02_Bytes.calls K A0 c0 _ _ w hr0 hc0 (hK K (Nat.le_refl _))).mono fun e w' h => Got.of h
theorem rbits_calls (A0 : Option Addr) (n0 c0 : Nat) (n : Nat) (hn0 : (dg n).length = n0) (w : World) (hr0 : Kd.C (Kd.int .i64) w A0 (dg n).length (dg n)) (hc0 : n0 ≤ c0) (hl : n0 ≤ 1000000) :
    Calls Try.prog 22 #[.slice A0 n0 c0] w (Tells (.int .i64 (bl n : Int)) w) := by
  subst hn0
  obtain ⟨K, hK⟩ := bits_ev n hl
  exact (cleromancyref01_Bits.calls K A0 c0 _ _ w hr0 hc0 (hK K (Nat.le_refl _))).mono fun e w' h => ⟨h.1, h.2.below⟩
theorem shift_calls (A0 : Option Addr) (n0 c0 : Nat) (n : Nat) (hn0 : (dg n).length = n0) (m : Nat) (hm : m ≤ 400000) (w : World) (hr0 : Kd.C (Kd.int .i64) w A0 (dg n).length (dg n)) (hc0 : n0 ≤ c0) (hl : n0 ≤ 400000) :
    Calls Try.prog 23 #[.slice A0 n0 c0, .int .i64 m] w (Got .i64 w (dg (n * 2 ^ m))) := by
  subst hn0
  obtain ⟨K, hK⟩ := shift_ev (dg n) (dg_Dg n) m hm hl
  rw [vn_dg] at hK
  exact (cleromancyref01_Shift.calls K A0 c0 _ _ _ w hr0 hc0 (hK K (Nat.le_refl _))).mono fun e w' h => Got.of h
theorem rpower_calls (A0 : Option Addr) (n0 c0 : Nat) (v : Nat) (hn0 : (dg v).length = n0) (b m : Nat) (hv : v < 2 ^ b) (hbm : b * m ≤ 400000) (hm : m ≤ 1000000) (hb : b ≤ 100000) (w : World) (hr0 : Kd.C (Kd.int .i64) w A0 (dg v).length (dg v)) (hc0 : n0 ≤ c0) :
    Calls Try.prog 24 #[.slice A0 n0 c0, .int .i64 m] w (Got .i64 w (dg (v ^ m))) := by
  subst hn0
  obtain ⟨K, hK⟩ := rpower_ev v b hv m hbm hm hb
  exact (cleromancyref02_Power.calls K A0 c0 _ _ _ w hr0 hc0 (hK K (Nat.le_refl _))).mono fun e w' h => Got.of h
theorem Wd.one {x : Int} (h : 0 ≤ x ∧ x < 18446744073709551616) : Wd [x] := fun y hy => by
  simp only [List.mem_singleton] at hy
  subst hy; exact h
theorem lit2_C (W : World) (x y : Int) : Kd.C (Kd.int .u64) (W.alloc (.cells #[.int .u64 x, .int .u64 y] 35)) (some ⟨W.heap.size, 0, none⟩) [x, y].length [x, y] := lit_C W [x, y] (by simp)
theorem nw_two (x y : Nat) (hx : x < 18446744073709551616) (hy : y < 18446744073709551616) (h0 : y ≠ 0) : nw (x + 18446744073709551616 * y) = [(x : Int), (y : Int)] := by
  have h := bl_shift 64 x y hx h0
  rw [show (2 : Nat) ^ 64 = 18446744073709551616 from rfl] at h
  have h1 : bl y ≤ 64 := (bl_le 64 y).2 hy
  have h2 : 1 ≤ bl y := by rw [bl_pos h0]; omega
  rw [nw, h, show (64 + bl y + 63) / 64 = 2 from by omega, wl, wl, wl]
  rw [show (x + 18446744073709551616 * y) % 18446744073709551616 = x from by omega, show (x + 18446744073709551616 * y) / 18446744073709551616 = y from by omega, Nat.mod_eq_of_lt hy]
theorem nw_1020 : nw (10 ^ 20) = [7766279631452241920, 5] := nw_two 7766279631452241920 5 (by decide) (by decide) (by decide)
theorem nb_300 : nb 300 = [1, 44] := by decide +kernel
set_option maxHeartbeats 1600000 in
set_option maxRecDepth 100000 in
theorem awake_calls (w : World) : Calls Try.prog 11 #[] w (Tells (.bool true) w) := by
  have HP : ∀ W, Calls Try.prog 21 #[.int .u64 10, .int .i64 20] W (Res2 W (10 ^ 20) 0) := fun W => npower_calls 10 20 (by decide) (Or.inr (by decide +kernel)) W
  have HQ : ∀ W : World, Calls Try.prog 17 #[.slice (some ⟨W.heap.size, 0, none⟩) 1 1] (W.alloc (.cells #[.int .u64 300] 35)) (ResB (W.alloc (.cells #[.int .u64 300] 35)) [1, 44]) := fun W => by
    have h := nbytes_calls _ 1 1 [300] rfl _ (lit_C W [300] (by simp)) (Nat.le_refl _) (Wd.one (by decide)) (by omega)
    rw [show nb (wv [300]) = [1, 44] from nb_300] at h
    exact h
  go_enter Try.func11, Try.ntmps11
  go_wp2_with (first
    | (go_at_call 21; (with_reducible refine (HP _).mono ?_); rintro e w1 ⟨A1, c1, rfl, h1, h2, h3⟩; rw [nw_1020] at h1 h2; rw [nw_1020]; have HC1 := Aside0.mk h2; have HB1 := Aside0.mk h3; clear h2 h3)
    | (go_at_call 17; (with_reducible refine (HQ _).mono ?_); rintro e w2 ⟨A2, c2, rfl, h4, h5, h6⟩; have HC2 := Aside0.mk h5; have HB2 := Aside0.mk h6; clear h5 h6)
    | fail)
  have HCA := Aside0.mk (Kd.C_alloc (Kd.C_below (Kd.C_alloc HC1.out (.cells #[.int .u64 300] 35)) HB2.out) (.cells #[.int .u64 7766279631452241920, .int .u64 5] 35))
  (with_reducible refine (wsame_calls A1 2 c1 [7766279631452241920, 5] rfl (some ⟨w2.heap.size, 0, none⟩) 2 2 [7766279631452241920, 5] rfl (w2.alloc (.cells #[.int .u64 7766279631452241920, .int .u64 5] 35)) HCA.out (by simpa using h1) (lit2_C w2 _ _) (Nat.le_refl _) (by omega)).mono ?_)
  rintro e w3 ⟨rfl, h7⟩
  have HC3 := Aside0.mk (Kd.C_below (Kd.C_alloc HC2.out _) h7)
  have HB3 : Aside0 (Below w.heap.size w w3) := ⟨below_step (below_alloc (below_step (below_alloc HB1.out _) HB2.out) _) h7⟩
  clear h7 HCA
  obtain ⟨ad, e2, hc0⟩ := Kd.at_int HC3.out 0 (by omega) (by decide)
  subst e2
  obtain ⟨ad', e3, hc1⟩ := Kd.at_int HC3.out 1 (by omega) (by decide)
  cases e3
  rw [show ad.add (Int.toNat 0) = ad from Addr.add_zero' ad] at hc0
  replace hc0 : w3.cell? ad = some (.int .u8 1) := hc0
  replace hc1 : w3.cell? { ad with off := ad.off + 1, spot := none } = some (.int .u8 44) := hc1
  go_wp2
  go_ret
  exact ⟨rfl, HB3.out⟩
end Go.Proofs.Ytjkelnnjfpcapaa.Num
