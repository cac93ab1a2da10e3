/- nat: the law of bytes. -/
import Derived.Test.YtjkelnnjfpcapaaNatG

namespace Go.Proofs.Ytjkelnnjfpcapaa.Num
open Go.RowKit Go.Shelf Go.Proofs.Ytjkelnnjfpcapaa.PNat Go.Proofs.YtjkelnnjfpcapaaW Go.Proofs.YtjkelnnjfpcapaaW.PrintWords Go.Proofs.YtjkelnnjfpcapaaW.PrintLast Go.Proofs.YtjkelnnjfpcapaaW.PrintMore

set_option maxHeartbeats 1600000 in
set_option maxRecDepth 100000 in
theorem natBytes_big (A0 : Option Addr) (n0 c0 : Nat) (A1 : Option Addr) (n1 c1 : Nat) (w : World) (h0 : (n0 : Int) ≤ 9223372036854775807) (h1 : (n1 : Int) ≤ 9223372036854775807) (hbig : 300 < n0 ∨ 40 < n1) :
    Calls Try.prog 3 #[.slice A0 n0 c0, .slice A1 n1 c1] w (Tells (.bool true) w) := by
  go_enter Try.func3, Try.ntmps3
  go_wp2_with (first
    | (go_at_call 11; (with_reducible refine (awake_calls _).mono ?_); rintro e w1 ⟨rfl, hb⟩; have HB1 := Aside0.mk hb; clear hb)
    | fail)
  all_goals first
    | (go_ret; exact ⟨rfl, HB1.out⟩)
    | (exfalso; omega)
theorem dg_len_bv {l : List Int} (hb : By l) {n0 : Nat} (hn : l.length = n0) (h : n0 ≤ 300) : (dg (bv l)).length ≤ 1000 :=
  dg_len_bits _ (8 * n0) (by have := bv_lt l hb l.length (Nat.le_refl _); rw [List.take_length] at this; rw [← hn]; exact this) 1000 (by omega)
theorem dg_len_wv {l : List Int} (hw : Wd l) {n0 : Nat} (hn : l.length = n0) (h : n0 ≤ 300) : (dg (wv l)).length ≤ 1000 :=
  dg_len_bits _ (64 * n0) (by have := wv_lt hw; rw [← hn]; exact this) 1000 (by omega)
theorem nw_len_le {n m k : Nat} (h : n < 2 ^ k) (hk : k ≤ 64 * m) : (nw n).length ≤ m := by
  rw [nw, wl_len]
  have := (bl_le k n).2 h
  omega
theorem nb_len_le {n m k : Nat} (h : n < 2 ^ k) (hk : k ≤ 8 * m) : (nb n).length ≤ m := by
  rw [nb, be_len]
  have := (bl_le k n).2 h
  omega
set_option maxHeartbeats 1600000 in
set_option maxRecDepth 100000 in
theorem natBytes_calls (A0 : Option Addr) (n0 c0 : Nat) (l0 : List Int) (hn0 : l0.length = n0) (A1 : Option Addr) (n1 c1 : Nat) (l1 : List Int) (hn1 : l1.length = n1) (w : World) (hr0 : Kd.C (Kd.int .u8) w A0 l0.length l0) (hc0 : n0 ≤ c0) (hr1 : Kd.C (Kd.int .u64) w A1 l1.length l1) (hc1 : n1 ≤ c1) (hb : By l0) (hw : Wd l1) (hl0 : n0 ≤ 300) (hl1 : n1 ≤ 40) :
    Calls Try.prog 3 #[.slice A0 n0 c0, .slice A1 n1 c1] w (Tells (.bool true) w) := by
  have hz1 := dg_len_bv hb hn0 hl0
  have hz2 := dg_len_wv hw hn1 (by omega)
  have hz3 : (nw (bv l0)).length ≤ 100 := nw_len_le (k := 8 * l0.length) (by
    have := bv_lt l0 hb l0.length (Nat.le_refl _); rwa [List.take_length] at this) (by omega)
  have hz4 : (nb (wv l1)).length ≤ 400 := nb_len_le (wv_lt hw) (by omega)
  have HR0 := Aside0.mk hr0
  have HR1 := Aside0.mk hr1
  have HB := Aside0.mk hb
  have HW := Aside0.mk hw
  have HN0 := Aside0.mk hn0
  have HN1 := Aside0.mk hn1
  clear hr0 hr1 hb hw hn0 hn1
  go_enter Try.func3, Try.ntmps3
  go_wp2_with (first
    | (go_at_call 11; (with_reducible refine (awake_calls _).mono ?_); rintro e w1 ⟨rfl, hb⟩; have HB1 := Aside0.mk hb; have HR0a := Aside0.mk (Kd.C_below HR0.out hb); have HR1a := Aside0.mk (Kd.C_below HR1.out hb); clear hb)
    | (go_at_call 13; (with_reducible refine (nof_calls A0 n0 c0 l0 HN0.out _ HR0a.out HB.out (by omega)).mono ?_); rintro e w2 ⟨A2, c2, rfl, h2, h3, h4⟩; have HX := Aside0.mk h3; have HB2 := Aside0.mk (below_step HB1.out h4); have HR0b := Aside0.mk (Kd.C_below HR0a.out h4); have HR1b := Aside0.mk (Kd.C_below HR1a.out h4); clear h3 h4)
    | (go_at_call 15; (with_reducible refine (big_calls A0 n0 c0 l0 HN0.out _ HR0b.out hc0 HB.out (by omega)).mono ?_); rintro e w3 ⟨A3, c3, rfl, h5, h6, h7⟩; have HY := Aside0.mk h6; have HB3 := Aside0.mk (below_step HB2.out h7); have HXb := Aside0.mk (Kd.C_below HX.out h7); have HR1c := Aside0.mk (Kd.C_below HR1b.out h7); clear h6 h7)
    | (go_at_call 14; (with_reducible refine (rwords_calls A3 _ c3 (bv l0) rfl _ HY.out h5 (by omega)).mono ?_); rintro e w4 ⟨A4, c4, rfl, h8, h9, h10⟩; have HZ := Aside0.mk h9; have HB4 := Aside0.mk (below_step HB3.out h10); have HXc := Aside0.mk (Kd.C_below HXb.out h10); have HR1d := Aside0.mk (Kd.C_below HR1c.out h10); clear h9 h10)
    | (go_at_call 12; (with_reducible refine (wsame_calls A2 _ c2 (nw (bv l0)) rfl A4 _ c4 (nw (bv l0)) rfl _ HXc.out h2 HZ.out h8 (by omega)).mono ?_); rw [decide_eq_true (rfl : nw (bv l0) = nw (bv l0))]; rintro e w5 ⟨rfl, h11⟩; have HB5 := Aside0.mk (below_step HB4.out h11); have HR1e := Aside0.mk (Kd.C_below HR1d.out h11); clear h11)
    | (go_at_call 17; (with_reducible refine (nbytes_calls A1 n1 c1 l1 HN1.out _ HR1e.out hc1 HW.out (by omega)).mono ?_); rintro e w6 ⟨A6, c6, rfl, h12, h13, h14⟩; have HU := Aside0.mk h13; have HB6 := Aside0.mk (below_step HB5.out h14); have HR1f := Aside0.mk (Kd.C_below HR1e.out h14); clear h13 h14)
    | (go_at_call 19; (with_reducible refine (words_calls A1 n1 c1 l1 HN1.out _ HR1f.out hc1 HW.out (by omega)).mono ?_); rintro e w7 ⟨A7, c7, rfl, h15, h16, h17⟩; have HV := Aside0.mk h16; have HB7 := Aside0.mk (below_step HB6.out h17); have HUa := Aside0.mk (Kd.C_below HU.out h17); clear h16 h17)
    | (go_at_call 18; (with_reducible refine (rbytes_calls A7 _ c7 (wv l1) rfl _ HV.out h15 (by omega)).mono ?_); rintro e w8 ⟨A8, c8, rfl, h18, h19, h20⟩; have HWa := Aside0.mk h19; have HB8 := Aside0.mk (below_step HB7.out h20); have HUb := Aside0.mk (Kd.C_below HUa.out h20); clear h19 h20)
    | (go_at_call 16; (with_reducible refine (bsame_calls A6 _ c6 (nb (wv l1)) rfl A8 _ c8 (nb (wv l1)) rfl _ HUb.out h12 HWa.out h18 (by omega)).mono ?_); rw [decide_eq_true (rfl : nb (wv l1) = nb (wv l1))]; rintro e w9 ⟨rfl, h21⟩; have HB9 := Aside0.mk (below_step HB8.out h21); clear h21)
    | fail)
  go_ret
  exact ⟨rfl, HB9.out⟩
theorem wf_u64 {x : Int} (h : (Lit.int .u64 x).wf = true) : 0 ≤ x ∧ x < 18446744073709551616 := by
  simp [Lit.wf, IntKind.min, IntKind.max, IntKind.signed, IntKind.bits] at h
  omega
theorem wf_u8 {x : Int} (h : (Lit.int .u8 x).wf = true) : 0 ≤ x ∧ x < 256 := by
  simp [Lit.wf, IntKind.min, IntKind.max, IntKind.signed, IntKind.bits] at h
  omega
/-- The law of bytes, as its row asks it. -/
theorem natBytes_walk (a0 : Option Addr) (len0 cap0 : Nat) (z0 : List Int) (a1 : Option Addr) (len1 cap1 : Nat) (z1 : List Int) (w : World) (w0 : (a0 = none ∧ len0 = 0 ∧ cap0 = 0 ∧ z0 = []) ∨ ∃ x, a0 = some x ∧ len0 ≤ cap0 ∧ cap0 ≤ maxLen ∧ z0.length = cap0 ∧ (∀ i, i < z0.length → w.cell? (x.add i) = some (.int .u8 (z0.getD i 0))) ∧ ∀ n ∈ z0, (Lit.int .u8 n).wf = true) (y0 : len0 * 1 ≤ 140737488351232) (w1 : (a1 = none ∧ len1 = 0 ∧ cap1 = 0 ∧ z1 = []) ∨ ∃ x, a1 = some x ∧ len1 ≤ cap1 ∧ cap1 ≤ maxLen ∧ z1.length = cap1 ∧ (∀ i, i < z1.length → w.cell? (x.add i) = some (.int .u64 (z1.getD i 0))) ∧ ∀ n ∈ z1, (Lit.int .u64 n).wf = true) (y1 : len1 * 8 ≤ 140737488351232) :
    Calls Try.prog 3 #[.slice a0 len0 cap0, .slice a1 len1 cap1] w fun e w' => e = .returned (.bool true) ∧ Below w.heap.size w w' := by
  obtain ⟨l0, rfl, hr0, hm0, hw0, hc0⟩ := ReadsInt.ofRowC w0
  obtain ⟨l1, rfl, hr1, hm1, hw1, hc1⟩ := ReadsInt.ofRowC w1
  by_cases hbig : 300 < l0.length ∨ 40 < l1.length
  · exact natBytes_big a0 _ cap0 a1 _ cap1 w (by omega) (by omega) hbig
  · exact natBytes_calls a0 _ cap0 l0 rfl a1 _ cap1 l1 rfl w (Kd.C_of_reads (d := (0 : Int)) (h1 := fun _ => rfl) hr0) hc0 (Kd.C_of_reads (d := (0 : Int)) (h1 := fun _ => rfl) hr1) hc1 (fun x hx => wf_u8 (hw0 x hx)) (fun x hx => wf_u64 (hw1 x hx)) (by omega) (by omega)
end Go.Proofs.Ytjkelnnjfpcapaa.Num
