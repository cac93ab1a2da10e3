/- nat: Left: the call does what numbers do. -/
import Derived.Test.YtjkelnnjfpcapaaNatE
namespace Go.Proofs.Ytjkelnnjfpcapaa.Num
open Go.RowKit Go.Shelf Go.Proofs.Ytjkelnnjfpcapaa.PNat Go.Proofs.YtjkelnnjfpcapaaW Go.Proofs.YtjkelnnjfpcapaaW.PrintWords Go.Proofs.YtjkelnnjfpcapaaW.PrintLast Go.Proofs.YtjkelnnjfpcapaaW.PrintMore

/-- 'Trim' at the head of a function: what it hands on. -/
theorem trim_head {w : World} {A0 : Option Addr} {n0 c0 : Nat} {l0 : List Int} (hn0 : l0.length = n0) (hr0 : Kd.C (Kd.int .u64) w A0 l0.length l0) (hc0 : n0 ≤ c0) (hw0 : Wd l0) (hl0 : n0 ≤ 1000000) :
    (Calls Try.prog 31 #[.slice A0 n0 c0] w fun e w' => e = .returned (.slice A0 (nw (wv l0)).length (nw (wv l0)).length) ∧ w = w') ∧ Kd.C (Kd.int .u64) w A0 (nw (wv l0)).length (nw (wv l0)) ∧ (nw (wv l0)).length ≤ n0 := by
  have h1 := trim_of A0 n0 c0 l0 hn0 w hr0 hc0 hl0
  have htl := tr_length l0
  have h2 := Kd.C_take (m := (tr l0).length) hr0 htl
  rw [← tr_take l0] at h2
  rw [tr_nw l0 hw0] at h1 h2 htl
  exact ⟨h1, h2, by omega⟩
set_option maxHeartbeats 1600000 in
set_option maxRecDepth 100000 in
theorem nleft_neg (A0 : Option Addr) (n0 c0 : Nat) (l0 : List Int) (hn0 : l0.length = n0) (n : Int) (hn : n < 0) (w : World) (hr0 : Kd.C (Kd.int .u64) w A0 l0.length l0) (hc0 : n0 ≤ c0) (hw0 : Wd l0) (hl0 : n0 ≤ 100000) :
    Calls Try.prog 20 #[.slice A0 n0 c0, .int .i64 n] w (Res2 w 0 2) := by
  obtain ⟨ht, hc, hlen⟩ := trim_head hn0 hr0 hc0 hw0 (by omega)
  have HT := Aside0.mk ht
  have HC := Aside0.mk hc
  clear ht hc hr0 hw0
  go_enter Try.func20, Try.ntmps20
  go_wp2_with (go_at_call 31; (with_reducible refine HT.out.mono ?_); rintro e w' ⟨rfl, rfl⟩)
  go_ret2
  exact Res2.nil 2 (Below.refl _ _)
set_option maxHeartbeats 1600000 in
set_option maxRecDepth 100000 in
theorem nleft_zero (A0 : Option Addr) (n0 c0 : Nat) (l0 : List Int) (hn0 : l0.length = n0) (n : Int) (hn : 0 ≤ n) (w : World) (hr0 : Kd.C (Kd.int .u64) w A0 l0.length l0) (hc0 : n0 ≤ c0) (hw0 : Wd l0) (hl0 : n0 ≤ 100000) (hz : wv l0 = 0) :
    Calls Try.prog 20 #[.slice A0 n0 c0, .int .i64 n] w (Res2 w 0 0) := by
  obtain ⟨ht, hc, hlen⟩ := trim_head hn0 hr0 hc0 hw0 (by omega)
  rw [hz, nw_zero] at ht
  have HT := Aside0.mk ht
  clear ht hc hr0 hw0 hlen hz
  go_enter Try.func20, Try.ntmps20
  go_wp2_with (go_at_call 31; (with_reducible refine HT.out.mono ?_); rintro e w' ⟨rfl, rfl⟩)
  go_ret2
  exact Res2.nil 0 (Below.refl _ _)
theorem nw_len_pos {n : Nat} (h : n ≠ 0) : 0 < (nw n).length := by
  obtain ⟨a, x, e, _⟩ := nw_ne h
  rw [e]; simp
set_option maxHeartbeats 1600000 in
set_option maxRecDepth 100000 in
theorem nleft_lim (A0 : Option Addr) (n0 c0 : Nat) (l0 : List Int) (hn0 : l0.length = n0) (n : Int) (hn : 0 ≤ n) (w : World) (hr0 : Kd.C (Kd.int .u64) w A0 l0.length l0) (hc0 : n0 ≤ c0) (hw0 : Wd l0) (hl0 : n0 ≤ 4000) (hz : wv l0 ≠ 0) (hlim : 262144 - (bl (wv l0) : Int) < n) :
    Calls Try.prog 20 #[.slice A0 n0 c0, .int .i64 n] w (Res2 w 0 3) := by
  obtain ⟨ht, hc, hlen⟩ := trim_head hn0 hr0 hc0 hw0 (by omega)
  have hb := nbits_calls A0 (nw (wv l0)).length (nw (wv l0)).length (nw (wv l0)) rfl w hc (Nat.le_refl _) (nw_Wd _) (by omega)
  rw [wv_nw] at hb
  have hpos := nw_len_pos hz
  have hbl : bl (wv l0) ≤ 64 * n0 := by rw [← hn0]; exact (bl_le _ _).2 (wv_lt hw0)
  have HT := Aside0.mk ht
  have HB := Aside0.mk hb
  clear ht hc hr0 hw0 hb hz
  generalize (nw (wv l0)).length = m at HT HB hlen hpos
  generalize bl (wv l0) = B at HB hbl hlim
  go_enter Try.func20, Try.ntmps20
  go_wp2_with (first
    | (go_at_call 31; (with_reducible refine HT.out.mono ?_); rintro e w' ⟨rfl, rfl⟩)
    | (go_at_call 32; (with_reducible refine HB.out.mono ?_); rintro e w' ⟨rfl, rfl⟩)
    | fail)
  go_ret2
  exact Res2.nil 3 (Below.refl _ _)
theorem C_reads {w : World} {A : Option Addr} {xs : List Int} (h : Kd.C (Kd.int .u64) w A xs.length xs) : ReadsInt w .u64 A xs.length xs :=
  ⟨rfl, h.2.1, fun hp => by
    obtain ⟨ad, e, _⟩ := Kd.at_int h 0 (by omega) (by omega)
    subst e
    refine ⟨ad, rfl, fun j hj => ?_⟩
    obtain ⟨ad', e, hc⟩ := Kd.at_int h (j : Int) (by omega) (by omega)
    cases e
    rw [Int.toNat_natCast] at hc
    rw [hc]
    simp [rd]⟩
theorem lit1_C (W : World) (x : Int) : Kd.C (Kd.int .u64) (W.alloc (.cells #[.int .u64 x] 35)) (some ⟨W.heap.size, 0, none⟩) [x].length [x] := lit_C W [x] (by simp)
set_option maxHeartbeats 1600000 in
set_option maxRecDepth 100000 in
theorem nleft_calls (A0 : Option Addr) (n0 c0 : Nat) (l0 : List Int) (hn0 : l0.length = n0) (n : Nat) (w : World) (hr0 : Kd.C (Kd.int .u64) w A0 l0.length l0) (hc0 : n0 ≤ c0) (hw0 : Wd l0) (hl0 : n0 ≤ 4000) (hz : wv l0 ≠ 0) (hlim : ¬ (262144 - (bl (wv l0) : Int) < (n : Int))) :
    Calls Try.prog 20 #[.slice A0 n0 c0, .int .i64 n] w (Res2 w (wv l0 * 2 ^ n) 0) := by
  obtain ⟨ht, hc, hlen⟩ := trim_head hn0 hr0 hc0 hw0 (by omega)
  have hb := nbits_calls A0 (nw (wv l0)).length (nw (wv l0)).length (nw (wv l0)) rfl w hc (Nat.le_refl _) (nw_Wd _) (by omega)
  rw [wv_nw] at hb
  have hpos := nw_len_pos hz
  have hbl : bl (wv l0) ≤ 64 * n0 := by rw [← hn0]; exact (bl_le _ _).2 (wv_lt hw0)
  have HT := Aside0.mk ht
  have HB := Aside0.mk hb
  have HC := Aside0.mk hc
  clear ht hc hr0 hw0 hb hz
  have hn2 : n ≤ 262144 := by omega
  obtain ⟨i0, hi, hz0, hz1, hz2⟩ := info_parts info35
  obtain ⟨m, hm⟩ : ∃ m, m = (nw (wv l0)).length := ⟨_, rfl⟩
  rw [← hm] at HT HB HC hlen hpos
  have HM := Aside0.mk hm
  clear hm
  obtain ⟨q, hq⟩ : ∃ q : Nat, q = n / 64 := ⟨_, rfl⟩
  have hq2 : q ≤ 4096 := by omega
  have hmk : ∀ W, (Instr.makeSlice 23 (.int .i64 ((n : Int) / 64)) (.int .i64 ((n : Int) / 64 + (m : Int) + 1))).run Try.prog W = .ok (.slice (some ⟨W.heap.size, 0, none⟩) q (q + m + 1)) (W.alloc (.cells (madeCells #[.int .u64 0] (q + m + 1)) 35)) := fun W => by
    have h := run_make (P := Try.prog) W 23 35 i0 (.int .u64 0) Try.underlying23 hi hz0 .i64 .i64 ((n : Int) / 64) ((n : Int) / 64 + (m : Int) + 1) (by omega) (by omega) (by rw [hz2]; omega) (by omega)
    rw [h, hz1, show ((n : Int) / 64).toNat = q from by omega, show ((n : Int) / 64 + (m : Int) + 1).toNat = q + m + 1 from by omega, Nat.mul_one]
    rfl
  have HQ := Aside0.mk hq
  clear hi hz0 hz1 hz2 hq
  have hd : decide (262144 - (bl (wv l0) : Int) < (n : Int)) = false := decide_eq_false hlim
  have hd2 : decide ((n : Int) < 0) = false := decide_eq_false (by omega)
  generalize bl (wv l0) = B at HB hbl hlim hd
  have HO : Aside0 ((w.alloc (.cells (madeCells #[.int .u64 0] (q + m + 1)) 35)).ownsRow w.heap.size 35 1 (.slice (some ⟨w.heap.size, 0, none⟩) q (q + m + 1)) (List.replicate q (0 : Int)).length (nums .u64 (List.replicate q 0))) := ⟨by
    have h := own_take (own_made w w.heap.size 35 .u64 (q + m + 1) (Nat.le_refl _) (by omega)) (m := q) (by omega)
    rw [List.length_replicate]
    simpa [nums, Nat.min_eq_left (show q ≤ q + m + 1 by omega)] using h⟩
  have HRI : Aside0 (ReadsInt (w.alloc (.cells (madeCells #[.int .u64 0] (q + m + 1)) 35)) .u64 A0 m (nw (wv l0))) := ⟨by
    have h := C_reads (w := w.alloc (.cells (madeCells #[.int .u64 0] (q + m + 1)) 35)) (A := A0) (xs := nw (wv l0)) (by rw [← HM.out]; exact Kd.C_alloc HC.out _)
    rw [← HM.out] at h; exact h⟩
  have HBx : Aside0 (Below w.heap.size w (w.alloc (.cells (madeCells #[.int .u64 0] (q + m + 1)) 35))) := ⟨below_alloc (Below.refl _ _) _⟩
  go_enter Try.func20, Try.ntmps20
  go_wp2_with (first
    | (go_at_call 31; (with_reducible refine HT.out.mono ?_); rintro e w' ⟨rfl, rfl⟩)
    | (go_at_call 32; (with_reducible refine HB.out.mono ?_); rintro e w' ⟨rfl, rfl⟩)
    | (at_builtin; refine print_append_row (w0 := w) w.heap.size rfl _ _ 23 35 .u64 8 rfl Try.underlying23 info35 (by decide) _ (List.replicate q 0) (nw (wv l0)) A0 m m rfl rfl HO.out HRI.out HBx.out (by simp) (by simp; omega) ?_; intro v1 w1 ho1 hb1 hg1 hat1; have HO1 := Aside0.mk (Kd.R_of_own (enc := Value.int .u64) (h1 := fun _ => rfl) (ok := fun _ => True) ho1 (fun _ _ => trivial)); have HB1 := Aside0.mk hb1; clear ho1 hb1 hg1 hat1; obtain ⟨A1, c1, e1⟩ := Kd.R_slice HO1.out; subst e1)
    | fail)
  have hpow : 2 ^ (n % 64) ≤ 2 ^ 63 := Nat.pow_le_pow_right (by omega) (by omega)
  have hpow0 : 0 < 2 ^ (n % 64) := Nat.pow_pos (by omega)
  have hwr : IntKind.u64.wrap (2 ^ (n % 64)) = ((2 ^ (n % 64) : Nat) : Int) := by
    rw [show (2 : Int) ^ (n % 64) = ((2 ^ (n % 64) : Nat) : Int) from by push_cast; rfl]
    generalize 2 ^ (n % 64) = Z at hpow ⊢
    exact IntWalk.u64_in _ (by omega)
  rw [hwr]
  have HCC : Aside0 (Kd.C (Kd.int .u64) w1 A1 (List.replicate q 0 ++ nw (wv l0)).length (List.replicate q 0 ++ nw (wv l0))) := ⟨(Kd.R_reads' HO1.out).2.2⟩
  have hZ : q + (nw (wv l0)).length ≤ 100000 := by rw [← HM.out]; omega
  have hWd : Wd (List.replicate q 0 ++ nw (wv l0)) := fun x hx => by
    rcases List.mem_append.1 hx with h | h
    · exact Wd.zeros q x h
    · exact nw_Wd _ x h
  have hWp : Wd [((2 ^ (n % 64) : Nat) : Int)] := fun x hx => by
    simp only [List.mem_singleton] at hx
    subst hx
    generalize 2 ^ (n % 64) = Z at hpow ⊢
    omega
  have hmul := nmul_of A1 (q + (nw (wv l0)).length) c1 (List.replicate q 0 ++ nw (wv l0)) (by simp) (some ⟨w1.heap.size, 0, none⟩) 1 1 [((2 ^ (n % 64) : Nat) : Int)] rfl (w1.alloc (.cells #[.int .u64 ((2 ^ (n % 64) : Nat) : Int)] 35)) (Kd.C_alloc HCC.out _) (lit1_C w1 _) hWd hWp hZ (by omega)
  have hval : wv (List.replicate q 0 ++ nw (wv l0)) * wv [((2 ^ (n % 64) : Nat) : Int)] = wv l0 * 2 ^ n := by
    rw [wv_append, wv_zeros, wv_nw, List.length_replicate, wv, wv, Int.toNat_natCast, Nat.mul_zero, Nat.add_zero, Nat.zero_add, Nat.mul_comm (2 ^ (64 * q)), Nat.mul_assoc, ← Nat.pow_add]
    congr 2
    have := HQ.out
    omega
  rw [hval] at hmul
  have HM2 := Aside0.mk hmul
  clear hmul hval hWp hWd hZ hpow hpow0 hwr
  (with_reducible refine HM2.out.mono ?_)
  rintro e w2 ⟨A2, c2, rfl, h1, h2, h3⟩
  have HF : Aside0 (Res2 w (wv l0 * 2 ^ n) 0 (.returned (.tuple #[.slice A2 (nw (wv l0 * 2 ^ n)).length c2, .int .i64 0])) w2) := ⟨⟨A2, c2, rfl, h1, h2, below_step (below_alloc HB1.out _) h3⟩⟩
  clear h1 h2 h3
  go_wp2
  go_ret2
  exact HF.out
end Go.Proofs.Ytjkelnnjfpcapaa.Num
