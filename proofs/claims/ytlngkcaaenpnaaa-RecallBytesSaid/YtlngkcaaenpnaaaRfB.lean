/- wire: the document's reader: its calls. -/
import Derived.Test.YtlngkcaaenpnaaaRfA
namespace Go.Proofs.Ytlngkcaaenpnaaa.Wire
set_option linter.unusedVariables false
set_option linter.unusedSimpArgs false
open Go.RowKit Go.Proofs.Ytlngkcaaenpnaaa.Num Go.Proofs.Ytlngkcaaenpnaaa.PWi Go.Proofs.YtlngkcaaenpnaaaW Go.Proofs.YtlngkcaaenpnaaaW.PrintWords Go.Proofs.YtlngkcaaenpnaaaW.PrintLast Go.Proofs.YtlngkcaaenpnaaaW.PrintMore

/-- What `number` tells: -1 for a fault. -/
def nres (r : Int × Nat × Int) : Int := if 0 ≤ r.2.2 then -1 else r.1
theorem qnum_step (g : Nat) (A : Option Addr) (n c at_ : Nat) (bad : Int) (N : Nat) (Ni : Int) (hNi : (N : Int) = Ni) (B : Option Addr) (k d m : Nat) (hk : (dg m).length = k) (hN : N ≤ 8) (hN1 : 1 ≤ N) (hn : n ≤ 10000000) (hc : n ≤ c) (ha : at_ ≤ n) (l : List Int) (hl : l.length = n) (hby : By l) (hmx : m ≤ 9223372036854775807)
    (hd : k ≤ d) (w0 w : World) (hr : Kd.C (Kd.int .u8) w A l.length l) (hm : Kd.C (Kd.int .i64) w B (dg m).length (dg m)) (hB : Below w0.heap.size w0 w) (hg : w0.heap.size ≤ g) (hR : IsQ w g A n c at_ bad) :
    Calls Try.prog 80 #[.pointer (some ⟨g, 0, none⟩), .int .i64 Ni, .slice B k d] w (QTold w0 w g A n c (.int .i64 (nres (step N m l at_ bad))) (step N m l at_ bad).2.1 (step N m l at_ bad).2.2) := by
  subst hk hNi
  by_cases hb : 0 ≤ bad
  · rw [step_bad hb, nres, if_pos hb]; exact qnum_bad g A n c at_ bad _ _ hb w0 w hB hR
  · by_cases hs : n < at_ + N
    · rw [step_short (by omega) (by omega), nres, if_pos (by show (0 : Int) ≤ (at_ : Int); omega)]; exact qnum_short g A n c at_ bad N _ hN (by omega) hs hn ha w0 w hB hg hR
    · by_cases hv : m < bv ((l.drop at_).take N)
      · rw [step_big (by omega) (by omega) (by omega), nres, if_pos (by show (0 : Int) ≤ (at_ : Int); omega)]; exact qnum_big g A n c at_ bad N B d m hN hN1 (by omega) (by omega) hn hc l hl hby hv hd w0 w hr hm hB hg hR
      · rw [step_ok (by omega) (by omega) (by omega), nres, if_neg (by show ¬ ((0 : Int) ≤ bad); omega)]; exact qnum_ok g A n c at_ bad N B d m hN hN1 (by omega) (by omega) hn hc l hl hby (by omega) hmx hd w0 w hr hm hB hg hR
theorem nres_neg {N : Nat} {lim : Int} {l : List Int} {at_ : Nat} {bad : Int} (h : nres (step N lim l at_ bad) < 0) : (step N lim l at_ bad).1 = 0 := by
  unfold nres at h
  split at h
  · rename_i h2
    unfold step at h2 ⊢
    split
    · rfl
    · split
      · rfl
      · split
        · rfl
        · rename_i g1 g2 g3
          rw [if_neg g1, if_neg g2, if_neg g3] at h2
          have : (0 : Int) ≤ bad := h2
          omega
  · rename_i h2
    have := (step_at' (N := N) (lim := lim) (l := l) (at_ := at_) (bad := bad) (by omega)).2.2.1
    omega
theorem nres_pos {N : Nat} {lim : Int} {l : List Int} {at_ : Nat} {bad : Int} (h : ¬ nres (step N lim l at_ bad) < 0) : nres (step N lim l at_ bad) = (step N lim l at_ bad).1 := by
  unfold nres at h ⊢
  split at h
  · omega
  · rename_i h2; rw [if_neg h2]
theorem step_le {N : Nat} {lim : Int} {l : List Int} {at_ : Nat} {bad : Int} (hl : 0 ≤ lim) : 0 ≤ (step N lim l at_ bad).1 ∧ (step N lim l at_ bad).1 ≤ lim := by
  unfold step
  split
  · exact ⟨Int.le_refl _, hl⟩
  · split
    · exact ⟨Int.le_refl _, hl⟩
    · split
      · exact ⟨Int.le_refl _, hl⟩
      · constructor
        · show (0 : Int) ≤ ((bv _ : Nat) : Int); omega
        · show ((bv _ : Nat) : Int) ≤ lim; omega
theorem dg_one (x : Nat) (h : 0 < x ∧ x < 16777216) : dg x = [(x : Int)] := by
  rw [dg_pos (by omega), show x / 16777216 = 0 from by omega, dg_zero, show x % 16777216 = x from by omega]
theorem lit_i64 (W : World) (x : Int) : Kd.C (Kd.int .i64) (W.alloc (.cells #[.int .i64 x] 3)) (some ⟨W.heap.size, 0, none⟩) [x].length [x] :=
  (Kd.R_reads' (Kd.R_of_own (enc := Value.int .i64) (h1 := fun _ => rfl) (ok := fun _ => True) (own_lit W W.heap.size 3 .i64 [x] (Nat.le_refl _) (by simp)) (fun _ _ => trivial))).2.2
theorem lit_dg (W : World) (x : Nat) (h : 0 < x ∧ x < 16777216) : Kd.C (Kd.int .i64) (W.alloc (.cells #[.int .i64 (x : Int)] 3)) (some ⟨W.heap.size, 0, none⟩) (dg x).length (dg x) := by
  rw [dg_one x h]; exact lit_i64 W x
set_option maxHeartbeats 1600000 in
set_option maxRecDepth 100000 in
theorem qread_calls (A : Option Addr) (n c : Nat) (w0 w : World) (hB : Below w0.heap.size w0 w) :
    Calls Try.prog 72 #[.slice A n c] w fun e w' => e = .returned (.pointer (some ⟨w.heap.size, 0, none⟩)) ∧ IsQ w' w.heap.size A n c 0 (-1) ∧ Below w0.heap.size w0 w' ∧ Below w.heap.size w w' := by
  have HB := Aside0.mk hB
  clear hB
  go_enter Try.func72, Try.ntmps72
  go_wp2
  go_ret
  exact ⟨rfl, ⟨by go_simp, by go_simp, by go_simp, by go_simp, by go_simp⟩, below_alloc HB.out _, below_alloc (Below.refl _ _) _⟩
/-- Where the document's reader ends. -/
def qfin (n at_ : Nat) (bad : Int) : Int := if 0 ≤ bad then bad else if at_ < n then (at_ : Int) else -1
set_option maxHeartbeats 1600000 in
set_option maxRecDepth 100000 in
theorem qdone_calls (g : Nat) (A : Option Addr) (n c at_ : Nat) (bad : Int) (w : World) (hR : IsQ w g A n c at_ bad) :
    Calls Try.prog 76 #[.pointer (some ⟨g, 0, none⟩)] w fun e w' => e = .returned (.int .i64 (qfin n at_ bad)) ∧ Drawn0 w w' := by
  obtain ⟨h0, h1, h2, h4, h5⟩ := hR
  by_cases hb : 0 ≤ bad
  · rw [qfin, if_pos hb]
    have hd : decide (0 ≤ bad) = true := decide_eq_true hb
    go_enter Try.func76, Try.ntmps76
    go_wp2
    go_ret
    exact ⟨rfl, Drawn0.refl _⟩
  · have hd : decide (0 ≤ bad) = false := decide_eq_false hb
    by_cases ha : at_ < n
    · rw [qfin, if_neg hb, if_pos ha]
      have hd2 : decide ((at_ : Int) < (n : Int)) = true := decide_eq_true (by omega)
      clear hb
      go_enter Try.func76, Try.ntmps76
      go_wp2
      go_quiet (fail)
      go_wp2
      go_ret
      exact ⟨rfl, ⟨⟨_, rfl⟩⟩⟩
    · rw [qfin, if_neg hb, if_neg ha]
      have hd2 : decide ((at_ : Int) < (n : Int)) = false := decide_eq_false (by omega)
      clear hb
      go_enter Try.func76, Try.ntmps76
      go_wp2
      go_quiet (fail)
      go_wp2
      go_ret
      exact ⟨rfl, ⟨⟨_, rfl⟩⟩⟩
set_option maxHeartbeats 1600000 in
set_option maxRecDepth 100000 in
theorem qbyte_step (g : Nat) (A : Option Addr) (n c at_ : Nat) (bad : Int) (hn : n ≤ 10000000) (hc : n ≤ c) (ha : at_ ≤ n) (l : List Int) (hl : l.length = n) (hby : By l) (w0 w : World) (hr : Kd.C (Kd.int .u8) w0 A l.length l) (hB : Below w0.heap.size w0 w) (hg : w0.heap.size ≤ g) (hR : IsQ w g A n c at_ bad) :
    Calls Try.prog 73 #[.pointer (some ⟨g, 0, none⟩)] w (QTold w0 w g A n c (.int .u8 (step 1 255 l at_ bad).1) (step 1 255 l at_ bad).2.1 (step 1 255 l at_ bad).2.2) := by
  have hle := step_le (N := 1) (lim := 255) (l := l) (at_ := at_) (bad := bad) (by omega)
  have HBa := Aside0.mk (below_alloc hB (.cells #[.int .i64 255] 3))
  have HN := Aside0.mk (qnum_step g A n c at_ bad 1 1 rfl (some ⟨w.heap.size, 0, none⟩) 1 1 255 (by rw [dg_one 255 (by omega)]; rfl) (by omega) (by omega) hn hc ha l hl hby (by omega) (Nat.le_refl _) w0 _ (Kd.C_below hr HBa.out) (lit_dg w 255 (by omega)) HBa.out hg (hR.below (below_alloc (Below.refl _ _) _)))
  have hneg := fun h => nres_neg (N := 1) (lim := 255) (l := l) (at_ := at_) (bad := bad) h
  have hpos := fun h => nres_pos (N := 1) (lim := 255) (l := l) (at_ := at_) (bad := bad) h
  rw [show ((255 : Nat) : Int) = 255 from rfl] at HN
  obtain ⟨r, hr2⟩ : ∃ r, step 1 255 l at_ bad = r := ⟨_, rfl⟩
  rw [hr2] at HN hneg hpos hle ⊢
  obtain ⟨q, hq⟩ : ∃ q, nres r = q := ⟨_, rfl⟩
  rw [hq] at HN hneg hpos
  have HNEG := Aside0.mk hneg
  have HPOS := Aside0.mk hpos
  clear hneg hpos hq hr2 hB hR hr hby
  by_cases h : q < 0
  · have hd : decide (q < 0) = true := decide_eq_true h
    have h0 := HNEG.out h
    clear h
    go_enter Try.func73, Try.ntmps73
    go_wp2_with (first
      | (go_at_call 80; (with_reducible refine HN.out.mono ?_); rintro e w1 ⟨rfl, h1, h2, h3⟩; have H1 := Aside0.mk h1; have H2 := Aside0.mk h2; have H3 := Aside0.mk h3; clear h1 h2 h3)
      | fail)
    go_ret
    exact ⟨congrArg (fun x => Ending.returned (.int .u8 x)) h0.symm, H1.out, H2.out, Kept.then_ (Kept.of_below (below_alloc (Below.refl _ _) _) (fun k => k = g)) H3.out (fun _ h => .inl h)⟩
  · have hd : decide (q < 0) = false := decide_eq_false h
    have h0 := HPOS.out h
    subst h0
    have hw : r.1 % 256 = r.1 := by omega
    clear h
    go_enter Try.func73, Try.ntmps73
    go_wp2_with (first
      | (go_at_call 80; (with_reducible refine HN.out.mono ?_); rintro e w1 ⟨rfl, h1, h2, h3⟩; have H1 := Aside0.mk h1; have H2 := Aside0.mk h2; have H3 := Aside0.mk h3; clear h1 h2 h3)
      | fail)
    go_ret
    exact ⟨rfl, H1.out, H2.out, Kept.then_ (Kept.of_below (below_alloc (Below.refl _ _) _) (fun k => k = g)) H3.out (fun _ h => .inl h)⟩
theorem C_of_len {W : World} {B : Option Addr} {l : List Int} {k : Nat} (hk : l.length = k) (h : Kd.C (Kd.int .i64) W B k l) : Kd.C (Kd.int .i64) W B l.length l := hk ▸ h
theorem qint_calls (n : Nat) (hn : n ≤ 9223372036854775807) (w : World) : Calls Try.prog 78 #[.int .i64 (n : Int)] w fun e w' => ∃ B d, e = .returned (.slice B (dg n).length d) ∧ (dg n).length ≤ d ∧ Kd.C (Kd.int .i64) w' B (dg n).length (dg n) ∧ Below w.heap.size w w' := by
  obtain ⟨K, hK⟩ := int_ev n hn
  refine (cleromancyref01_Int.calls K n _ w (hK K (Nat.le_refl _))).mono ?_
  rintro e w' ⟨v, rfl, h1, h2⟩
  obtain ⟨B, d, e2, h3, h4⟩ := Kd.R_reads h1
  exact ⟨B, d, by rw [e2], h3, h4, h2⟩
set_option maxHeartbeats 1600000 in
set_option maxRecDepth 100000 in
theorem qcount_step (g : Nat) (A : Option Addr) (n c at_ : Nat) (bad most : Int) (hmost : 0 ≤ most ∧ most ≤ 9223372036854775807) (hn : n ≤ 10000000) (hc : n ≤ c) (ha : at_ ≤ n) (l : List Int) (hl : l.length = n) (hby : By l) (w0 w : World) (hr : Kd.C (Kd.int .u8) w0 A l.length l) (hB : Below w0.heap.size w0 w) (hg : w0.heap.size ≤ g) (hR : IsQ w g A n c at_ bad) :
    Calls Try.prog 83 #[.pointer (some ⟨g, 0, none⟩), .int .i64 most] w (QTold w0 w g A n c (.int .i64 (step 4 most l at_ bad).1) (step 4 most l at_ bad).2.1 (step 4 most l at_ bad).2.2) := by
  obtain ⟨m, rfl⟩ : ∃ m : Nat, most = (m : Int) := ⟨most.toNat, by omega⟩
  have HQ := Aside0.mk (qint_calls m (by omega) w)
  obtain ⟨k, hk⟩ : ∃ k, (dg m).length = k := ⟨_, rfl⟩
  have HN := Aside0.mk (fun (B : Option Addr) (d : Nat) (hd : k ≤ d) (W : World) (hb : Below w.heap.size w W) (hC : Kd.C (Kd.int .i64) W B (dg m).length (dg m)) => qnum_step g A n c at_ bad 4 4 rfl B k d m hk (by omega) (by omega) hn hc ha l hl hby (by omega) hd w0 W (Kd.C_below hr (below_then hB hB.size hb)) hC (below_then hB hB.size hb) hg (hR.below hb))
  rw [hk] at HQ
  have hneg := fun h => nres_neg (N := 4) (lim := (m : Int)) (l := l) (at_ := at_) (bad := bad) h
  have hpos := fun h => nres_pos (N := 4) (lim := (m : Int)) (l := l) (at_ := at_) (bad := bad) h
  obtain ⟨r, hr2⟩ : ∃ r, step 4 (m : Int) l at_ bad = r := ⟨_, rfl⟩
  rw [hr2] at HN hneg hpos ⊢
  obtain ⟨q, hq⟩ : ∃ q, nres r = q := ⟨_, rfl⟩
  rw [hq] at HN hneg hpos
  have HNEG := Aside0.mk hneg
  have HPOS := Aside0.mk hpos
  have HK := Aside0.mk hk
  have hd0 : decide ((m : Int) < 0) = false := decide_eq_false (by omega)
  clear hneg hpos hq hr2 hB hR hr hby hk
  by_cases h : q < 0
  · have hd : decide (q < 0) = true := decide_eq_true h
    have h0 := Aside0.mk (HNEG.out h)
    clear h
    go_enter Try.func83, Try.ntmps83
    go_wp2_with (first
      | (go_at_call 78; (with_reducible refine HQ.out.mono ?_); rintro e w1 ⟨B, d, rfl, p1, p2, p3⟩; have P1 := Aside0.mk p1; have P2 := Aside0.mk p2; have P3 := Aside0.mk p3; clear p1 p2 p3)
      | (go_at_call 80; (with_reducible refine (HN.out B d P1.out _ P3.out (C_of_len HK.out P2.out)).mono ?_); rintro e w2 ⟨rfl, h1, h2, h3⟩; have H1 := Aside0.mk h1; have H2 := Aside0.mk h2; have H3 := Aside0.mk h3; clear h1 h2 h3)
      | fail)
    go_ret
    exact ⟨congrArg (fun x => Ending.returned (.int .i64 x)) h0.out.symm, H1.out, H2.out, Kept.then_ (Kept.of_below P3.out (fun k => k = g)) H3.out (fun _ h => .inl h)⟩
  · have hd : decide (q < 0) = false := decide_eq_false h
    have h0 := Aside0.mk (HPOS.out h)
    clear h
    go_enter Try.func83, Try.ntmps83
    go_wp2_with (first
      | (go_at_call 78; (with_reducible refine HQ.out.mono ?_); rintro e w1 ⟨B, d, rfl, p1, p2, p3⟩; have P1 := Aside0.mk p1; have P2 := Aside0.mk p2; have P3 := Aside0.mk p3; clear p1 p2 p3)
      | (go_at_call 80; (with_reducible refine (HN.out B d P1.out _ P3.out (C_of_len HK.out P2.out)).mono ?_); rintro e w2 ⟨rfl, h1, h2, h3⟩; have H1 := Aside0.mk h1; have H2 := Aside0.mk h2; have H3 := Aside0.mk h3; clear h1 h2 h3)
      | fail)
    go_ret
    exact ⟨congrArg (fun x => Ending.returned (.int .i64 x)) h0.out, H1.out, H2.out, Kept.then_ (Kept.of_below P3.out (fun k => k = g)) H3.out (fun _ h => .inl h)⟩
theorem qpower_calls (w : World) : Calls Try.prog 82 #[.int .i64 63] w fun e w' => ∃ B d, e = .returned (.slice B (dg 9223372036854775808).length d) ∧ (dg 9223372036854775808).length ≤ d ∧ Kd.C (Kd.int .i64) w' B (dg 9223372036854775808).length (dg 9223372036854775808) ∧ Below w.heap.size w w' := by
  obtain ⟨K, hK⟩ := shift_ev [1] (fun x hx => by rw [List.mem_singleton.1 hx]; omega) 63 (by omega) (by simp)
  have hv : vn [1] * 2 ^ 63 = 9223372036854775808 := by decide
  rw [hv] at hK
  have hP : cleromancyref01_Power.f K 63 = some (dg 9223372036854775808) := by
    have h1 : cleromancyref01_Shift.f K [1] 63 = some (dg 9223372036854775808) := hK K (Nat.le_refl _)
    rw [cleromancyref01_Power.f, h1]
    rfl
  refine (cleromancyref01_Power.calls K 63 _ w hP).mono ?_
  rintro e w' ⟨v, rfl, h1, h2⟩
  obtain ⟨B, d, e2, h3, h4⟩ := Kd.R_reads h1
  exact ⟨B, d, by rw [e2], h3, h4, h2⟩
theorem lit_one (W : World) : Kd.C (Kd.int .i64) (W.alloc (.cells #[.int .i64 1] 3)) (some ⟨W.heap.size, 0, none⟩) (dg 1).length (dg 1) := lit_dg W 1 (by omega)
theorem qsub_calls (A B : Option Addr) (c d k : Nat) (hk : (dg 9223372036854775808).length = k) (hc : k ≤ c) (hd : 1 ≤ d) (w : World) (ha : Kd.C (Kd.int .i64) w A (dg 9223372036854775808).length (dg 9223372036854775808)) (hb : Kd.C (Kd.int .i64) w B (dg 1).length (dg 1)) :
    Calls Try.prog 81 #[.slice A k c, .slice B 1 d] w fun e w' => ∃ C q, e = .returned (.slice C (dg 9223372036854775807).length q) ∧ (dg 9223372036854775807).length ≤ q ∧ Kd.C (Kd.int .i64) w' C (dg 9223372036854775807).length (dg 9223372036854775807) ∧ Below w.heap.size w w' := by
  have h1 : (dg 1).length = 1 := by rw [dg_one 1 (by omega)]; rfl
  have hl : (dg 9223372036854775808).length ≤ 1000000 := by have := dg_len_le 9223372036854775808 3 (by omega); omega
  obtain ⟨K, hK⟩ := sub_ev 9223372036854775808 1 (by omega) hl
  have hS : cleromancyref01_Sub.f K (dg 9223372036854775808) (dg 1) = some (dg 9223372036854775807) := hK K (Nat.le_refl _)
  subst hk
  have := cleromancyref01_Sub.calls K A c (dg 9223372036854775808) B d (dg 1) _ w ha hc hb (by omega) hS
  rw [h1] at this
  refine this.mono ?_
  rintro e w' ⟨v, rfl, h1, h2⟩
  obtain ⟨C, q, e2, h3, h4⟩ := Kd.R_reads h1
  exact ⟨C, q, by rw [e2], h3, h4, h2⟩
set_option maxHeartbeats 1600000 in
set_option maxRecDepth 100000 in
theorem qint_step (g : Nat) (A : Option Addr) (n c at_ : Nat) (bad : Int) (hn : n ≤ 10000000) (hc : n ≤ c) (ha : at_ ≤ n) (l : List Int) (hl : l.length = n) (hby : By l) (w0 w : World) (hr : Kd.C (Kd.int .u8) w0 A l.length l) (hB : Below w0.heap.size w0 w) (hg : w0.heap.size ≤ g) (hR : IsQ w g A n c at_ bad) :
    Calls Try.prog 74 #[.pointer (some ⟨g, 0, none⟩)] w (QTold w0 w g A n c (.int .i64 (step 8 9223372036854775807 l at_ bad).1) (step 8 9223372036854775807 l at_ bad).2.1 (step 8 9223372036854775807 l at_ bad).2.2) := by
  have HP := Aside0.mk (qpower_calls w)
  obtain ⟨kp, hkp⟩ : ∃ k, (dg 9223372036854775808).length = k := ⟨_, rfl⟩
  rw [hkp] at HP
  have HKP := Aside0.mk hkp
  have HN := Aside0.mk (fun (B : Option Addr) (k d : Nat) (hk : (dg 9223372036854775807).length = k) (hd : k ≤ d) (W : World) (hb : Below w.heap.size w W) (hC : Kd.C (Kd.int .i64) W B (dg 9223372036854775807).length (dg 9223372036854775807)) => qnum_step g A n c at_ bad 8 8 rfl B k d 9223372036854775807 hk (by omega) (by omega) hn hc ha l hl hby (by omega) hd w0 W (Kd.C_below hr (below_then hB hB.size hb)) hC (below_then hB hB.size hb) hg (hR.below hb))
  rw [show ((9223372036854775807 : Nat) : Int) = 9223372036854775807 from rfl] at HN
  have hneg := fun h => nres_neg (N := 8) (lim := 9223372036854775807) (l := l) (at_ := at_) (bad := bad) h
  have hpos := fun h => nres_pos (N := 8) (lim := 9223372036854775807) (l := l) (at_ := at_) (bad := bad) h
  obtain ⟨r, hr2⟩ : ∃ r, step 8 9223372036854775807 l at_ bad = r := ⟨_, rfl⟩
  rw [hr2] at HN hneg hpos ⊢
  obtain ⟨q, hq⟩ : ∃ q, nres r = q := ⟨_, rfl⟩
  rw [hq] at HN hneg hpos
  have HNEG := Aside0.mk hneg
  have HPOS := Aside0.mk hpos
  clear hneg hpos hq hr2 hB hR hr hby hkp
  by_cases h : q < 0
  · have hd : decide (q < 0) = true := decide_eq_true h
    have h0 := Aside0.mk (HNEG.out h)
    clear h
    go_enter Try.func74, Try.ntmps74
    go_wp2_with (first
      | (go_at_call 82; (with_reducible refine HP.out.mono ?_); rintro e w1 ⟨B, d, rfl, p1, p2, p3⟩; have P1 := Aside0.mk p1; have P3 := Aside0.mk p3; have P2 := Aside0.mk (Kd.C_below (C_of_len HKP.out p2) (below_alloc (Below.refl w1.heap.size w1) (.cells #[.int .i64 1] 3))); clear p1 p2 p3)
      | (go_at_call 81; (with_reducible refine (qsub_calls B (some ⟨w1.heap.size, 0, none⟩) d 1 kp HKP.out P1.out (Nat.le_refl _) _ P2.out (lit_one w1)).mono ?_); rintro e w2 ⟨C, s, rfl, p1, p2, p3⟩; have S1 := Aside0.mk p1; have S2 := Aside0.mk p2; have S3 := Aside0.mk (below_then (below_alloc P3.out (.cells #[.int .i64 1] 3)) (Nat.le_trans P3.out.size (below_alloc (Below.refl w1.heap.size w1) (.cells #[.int .i64 1] 3)).size) p3); clear p1 p2 p3)
      | (go_at_call 80; (with_reducible refine (HN.out C _ s rfl S1.out _ S3.out S2.out).mono ?_); rintro e w3 ⟨rfl, h1, h2, h3⟩; have H1 := Aside0.mk h1; have H2 := Aside0.mk h2; have H3 := Aside0.mk h3; clear h1 h2 h3)
      | fail)
    go_ret
    exact ⟨congrArg (fun x => Ending.returned (.int .i64 x)) h0.out.symm, H1.out, H2.out, Kept.then_ (Kept.of_below S3.out (fun k => k = g)) H3.out (fun _ h => .inl h)⟩
  · have hd : decide (q < 0) = false := decide_eq_false h
    have h0 := Aside0.mk (HPOS.out h)
    clear h
    go_enter Try.func74, Try.ntmps74
    go_wp2_with (first
      | (go_at_call 82; (with_reducible refine HP.out.mono ?_); rintro e w1 ⟨B, d, rfl, p1, p2, p3⟩; have P1 := Aside0.mk p1; have P3 := Aside0.mk p3; have P2 := Aside0.mk (Kd.C_below (C_of_len HKP.out p2) (below_alloc (Below.refl w1.heap.size w1) (.cells #[.int .i64 1] 3))); clear p1 p2 p3)
      | (go_at_call 81; (with_reducible refine (qsub_calls B (some ⟨w1.heap.size, 0, none⟩) d 1 kp HKP.out P1.out (Nat.le_refl _) _ P2.out (lit_one w1)).mono ?_); rintro e w2 ⟨C, s, rfl, p1, p2, p3⟩; have S1 := Aside0.mk p1; have S2 := Aside0.mk p2; have S3 := Aside0.mk (below_then (below_alloc P3.out (.cells #[.int .i64 1] 3)) (Nat.le_trans P3.out.size (below_alloc (Below.refl w1.heap.size w1) (.cells #[.int .i64 1] 3)).size) p3); clear p1 p2 p3)
      | (go_at_call 80; (with_reducible refine (HN.out C _ s rfl S1.out _ S3.out S2.out).mono ?_); rintro e w3 ⟨rfl, h1, h2, h3⟩; have H1 := Aside0.mk h1; have H2 := Aside0.mk h2; have H3 := Aside0.mk h3; clear h1 h2 h3)
      | fail)
    go_ret
    exact ⟨congrArg (fun x => Ending.returned (.int .i64 x)) h0.out, H1.out, H2.out, Kept.then_ (Kept.of_below S3.out (fun k => k = g)) H3.out (fun _ h => .inl h)⟩
end Go.Proofs.Ytlngkcaaenpnaaa.Wire
