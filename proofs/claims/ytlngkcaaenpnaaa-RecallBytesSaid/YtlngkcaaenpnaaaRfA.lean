/- wire: the document's reader, step by step. -/
import Derived.Test.YtlngkcaaenpnaaaRdC
import Derived.Deep.RegionHeld3
namespace Go.Proofs.Ytlngkcaaenpnaaa.Wire
set_option linter.unusedVariables false
set_option linter.unusedSimpArgs false
open Go.RowKit Go.Proofs.Ytlngkcaaenpnaaa.Num Go.Proofs.Ytlngkcaaenpnaaa.PWi Go.Proofs.YtlngkcaaenpnaaaW Go.Proofs.YtlngkcaaenpnaaaW.PrintWords Go.Proofs.YtlngkcaaenpnaaaW.PrintLast Go.Proofs.YtlngkcaaenpnaaaW.PrintMore

/-- The document's reader: its block g holds the bytes, the place, where there was a fault. -/
def IsQ (W : World) (g : Nat) (A : Option Addr) (n c : Nat) (at_ : Nat) (bad : Int) : Prop :=
  W.cell? ⟨g, 0, none⟩ = some (.slice A n c) ∧ W.cell? ⟨g, 1, none⟩ = some (.int .i64 (at_ : Int)) ∧ W.cell? ⟨g, 2, none⟩ = some (.int .i64 bad) ∧
  W.frozen? ⟨g, 1, none⟩ = false ∧ W.frozen? ⟨g, 2, none⟩ = false
theorem IsQ.below {W W2 : World} {g : Nat} {A : Option Addr} {n c at_ : Nat} {bad : Int} (h : IsQ W g A n c at_ bad) (hb : Below W.heap.size W W2) : IsQ W2 g A n c at_ bad := by
  obtain ⟨h0, h1, h2, h4, h5⟩ := h
  have hl := World.block_lt_of_cell? _ _ h1
  exact ⟨pw_cell_below hb h0, pw_cell_below hb h1, pw_cell_below hb h2, (hb.frozen (p := ⟨g, 1, none⟩) hl).trans h4, (hb.frozen (p := ⟨g, 2, none⟩) hl).trans h5⟩
theorem IsQ.setBad {W : World} {g : Nat} {A : Option Addr} {n c at_ : Nat} {bad : Int} (h : IsQ W g A n c at_ bad) (x : Int) : IsQ (W.setCell ⟨g, 2, none⟩ (.int .i64 x)) g A n c at_ x := by
  obtain ⟨h0, h1, h2, h4, h5⟩ := h
  exact ⟨by go_simp, by go_simp, by go_simp, by go_simp, by go_simp⟩
theorem IsQ.setAt {W : World} {g : Nat} {A : Option Addr} {n c at_ : Nat} {bad : Int} (h : IsQ W g A n c at_ bad) (x : Nat) : IsQ (W.setCell ⟨g, 1, none⟩ (.int .i64 (x : Int))) g A n c x bad := by
  obtain ⟨h0, h1, h2, h4, h5⟩ := h
  exact ⟨by go_simp, by go_simp, by go_simp, by go_simp, by go_simp⟩
def QTold (w0 w : World) (g : Nat) (A : Option Addr) (n c : Nat) (v : Value) (at_ : Nat) (bad : Int) (e : Ending) (w' : World) : Prop :=
  e = .returned v ∧ IsQ w' g A n c at_ bad ∧ Below w0.heap.size w0 w' ∧ Kept w w' (fun k => k = g)
theorem qbig_calls (A : Option Addr) (n c : Nat) (l : List Int) (hn : l.length = n) (hc : n ≤ c) (hb : By l) (hl : n ≤ 100000) (w : World) (hr : Kd.C (Kd.int .u8) w A l.length l) :
    Calls Try.prog 87 #[.slice A n c] w fun e w' => ∃ B d, e = .returned (.slice B (dg (bv l)).length d) ∧ (dg (bv l)).length ≤ d ∧ Kd.C (Kd.int .i64) w' B (dg (bv l)).length (dg (bv l)) ∧ Below w.heap.size w w' := by
  subst hn
  obtain ⟨K, hK⟩ := big_ev l hb hl
  refine (cleromancyref01_Big.calls K A c l _ w hr hc (hK K (Nat.le_refl _))).mono ?_
  rintro e w' ⟨v, rfl, h1, h2⟩
  obtain ⟨B, d, e2, h3, h4⟩ := Kd.R_reads h1
  exact ⟨B, d, by rw [e2], h3, h4, h2⟩
theorem qcmp_calls (A : Option Addr) (c : Nat) (m : Nat) (hc : (dg m).length ≤ c) (B : Option Addr) (d : Nat) (k : Nat) (hd : (dg k).length ≤ d) (hm : (dg m).length ≤ 1000000) (w : World) (hr : Kd.C (Kd.int .i64) w A (dg m).length (dg m)) (hs : Kd.C (Kd.int .i64) w B (dg k).length (dg k)) :
    Calls Try.prog 86 #[.slice A (dg m).length c, .slice B (dg k).length d] w fun e w' => e = .returned (.int .i64 (cmp m k)) ∧ Drawn0 w w' := by
  obtain ⟨K, hK⟩ := cmp_ev m k hm
  exact cleromancyref01_Cmp.calls K A c (dg m) B d (dg k) _ w hr hc hs hd (hK K (Nat.le_refl _))
set_option maxHeartbeats 1600000 in
set_option maxRecDepth 100000 in
theorem qnum_bad (g : Nat) (A : Option Addr) (n c at_ : Nat) (bad : Int) (N : Int) (S : Value) (hbad : 0 ≤ bad) (w0 w : World) (hB : Below w0.heap.size w0 w) (hR : IsQ w g A n c at_ bad) :
    Calls Try.prog 80 #[.pointer (some ⟨g, 0, none⟩), .int .i64 N, S] w (QTold w0 w g A n c (.int .i64 (-1)) at_ bad) := by
  have HB := Aside0.mk hB
  have HR := Aside0.mk hR
  obtain ⟨h0, h1, h2, h4, h5⟩ := hR
  clear hB
  have hd : decide (0 ≤ bad) = true := decide_eq_true hbad
  go_enter Try.func80, Try.ntmps80
  go_wp2
  go_ret
  exact ⟨rfl, HR.out, HB.out, Kept.refl _ _⟩
set_option maxHeartbeats 1600000 in
set_option maxRecDepth 100000 in
theorem qnum_short (g : Nat) (A : Option Addr) (n c at_ : Nat) (bad : Int) (N : Nat) (S : Value) (hN : N ≤ 8) (hbad : bad < 0) (hs : n < at_ + N) (hn : n ≤ 10000000) (ha : at_ ≤ n) (w0 w : World) (hB : Below w0.heap.size w0 w) (hg : w0.heap.size ≤ g) (hR : IsQ w g A n c at_ bad) :
    Calls Try.prog 80 #[.pointer (some ⟨g, 0, none⟩), .int .i64 N, S] w (QTold w0 w g A n c (.int .i64 (-1)) at_ at_) := by
  have HB := Aside0.mk hB
  have HR := Aside0.mk hR
  obtain ⟨h0, h1, h2, h4, h5⟩ := hR
  clear hB
  have hd : decide (0 ≤ bad) = false := decide_eq_false (by omega)
  have hd2 : decide ((n : Int) - (at_ : Int) < (N : Int)) = true := decide_eq_true (by omega)
  go_enter Try.func80, Try.ntmps80
  go_wp2
  go_quiet (fail)
  go_wp2
  go_ret
  exact ⟨rfl, (HR.out.below (pw_below_drewN (Below.refl _ _) _)).setBad _, Below.setCell (pw_below_drewN HB.out _) hg _, (((Kept.refl w (fun k => k = g)).drewN _).setCell (p := ⟨g, 2, none⟩) (.inl rfl) _)⟩
theorem bv_mono (l : List Int) : ∀ r i, i + r ≤ l.length → bv (l.take i) ≤ bv (l.take (i + r))
  | 0, i, h => Nat.le_refl _
  | r + 1, i, h => by
    have ih := bv_mono l r i (by omega)
    have := bv_take l (i + r) (by omega)
    rw [show i + (r + 1) = i + r + 1 from by omega, this]
    omega
theorem rd_drop (l : List Int) (a i : Nat) : rd (l.drop a) (i : Int) = rd l ((a + i : Nat) : Int) := by
  unfold rd
  rw [Int.toNat_natCast, Int.toNat_natCast, List.getD_eq_getElem?_getD, List.getD_eq_getElem?_getD, List.getElem?_drop]
theorem bv64 (l : List Int) (a N : Nat) (hN : N ≤ 8) (h : By l) (hl : a + N ≤ l.length) : bv ((l.drop a).take N) < 18446744073709551616 := by
  have h2 := bv_lt' ((l.drop a).take N) (fun x hx => h x (List.mem_of_mem_drop (List.mem_of_mem_take hx)))
  have hlen : ((l.drop a).take N).length = N := by rw [List.length_take, List.length_drop]; omega
  rw [hlen] at h2
  have : (256 : Nat) ^ N ≤ 256 ^ 8 := Nat.pow_le_pow_right (by omega) hN
  omega
theorem cmp_gt (m k : Nat) : decide (0 < cmp m k) = decide (k < m) := by
  unfold cmp
  split
  · rw [decide_eq_false (by omega), decide_eq_false (by omega)]
  · split
    · rw [decide_eq_true (by omega), decide_eq_true (by omega)]
    · rw [decide_eq_false (by omega), decide_eq_false (by omega)]
set_option maxHeartbeats 6400000 in
set_option maxRecDepth 100000 in
theorem qnum_big (g : Nat) (A : Option Addr) (n c at_ : Nat) (bad : Int) (N : Nat) (B : Option Addr) (d m : Nat) (hN : N ≤ 8) (hN1 : 1 ≤ N) (hbad : bad < 0) (hs : at_ + N ≤ n) (hn : n ≤ 10000000) (hc : n ≤ c) (l : List Int) (hl : l.length = n) (hby : By l) (hbig : m < bv ((l.drop at_).take N))
    (hd : (dg m).length ≤ d) (w0 w : World) (hr : Kd.C (Kd.int .u8) w A l.length l) (hm : Kd.C (Kd.int .i64) w B (dg m).length (dg m)) (hB : Below w0.heap.size w0 w) (hg : w0.heap.size ≤ g) (hR : IsQ w g A n c at_ bad) :
    Calls Try.prog 80 #[.pointer (some ⟨g, 0, none⟩), .int .i64 N, .slice B (dg m).length d] w (QTold w0 w g A n c (.int .i64 (-1)) at_ at_) := by
  obtain ⟨ad, e, -⟩ := Kd.at_int hr 0 (by omega) (by omega)
  subst e
  have hsub := C_sub hr at_ N (by omega)
  have hlen : ((l.drop at_).take N).length = N := by rw [List.length_take, List.length_drop]; omega
  have HBG := Aside0.mk (fun W' (hb : Below w.heap.size w W') => qbig_calls (some (ad.add at_)) N (c - at_) ((l.drop at_).take N) hlen (by omega) (fun x hx => hby x (List.mem_of_mem_drop (List.mem_of_mem_take hx))) (by omega) W' (Kd.C_below hsub hb))
  have hb64 := bv64 l at_ N hN hby (by omega)
  obtain ⟨b, hbv⟩ : ∃ b, bv ((l.drop at_).take N) = b := ⟨_, rfl⟩
  rw [hbv] at HBG hbig hb64
  have hcm : decide (0 < cmp b m) = true := by rw [cmp_gt]; exact decide_eq_true hbig
  have HLB : Aside0 ((dg b).length ≤ 1000000) := ⟨by have := dg_len_le b 3 (by omega); omega⟩
  obtain ⟨cm, hcme⟩ : ∃ x, cmp b m = x := ⟨_, rfl⟩
  have HCM := Aside0.mk (fun (C : Option Addr) (q : Nat) (hq : (dg b).length ≤ q) (W' : World) (hb : Below w.heap.size w W') (hC : Kd.C (Kd.int .i64) W' C (dg b).length (dg b)) => qcmp_calls C q b hq B d m hd HLB.out W' hC (Kd.C_below hm hb))
  rw [hcme] at HCM hcm
  have HB := Aside0.mk hB
  have HR := Aside0.mk hR
  have HM := Aside0.mk hm
  obtain ⟨h0, h1, h2, h4, h5⟩ := hR
  obtain ⟨Lm, hLm⟩ : ∃ x, (dg m).length = x := ⟨_, rfl⟩
  obtain ⟨Lb, hLb⟩ : ∃ x, (dg b).length = x := ⟨_, rfl⟩
  rw [hLm] at HCM hd ⊢
  rw [hLb] at HCM HBG
  have hwm : IntKind.i64.wrap ((at_ : Int) + (N : Int)) = ((at_ + N : Nat) : Int) := by rw [IntWalk.i64_in _ (by omega)]; omega
  have hwq : IntKind.i64.wrap ((n : Int) - (at_ : Int)) = (n : Int) - (at_ : Int) := IntWalk.i64_in _ (by omega)
  have hcl : ¬ c = at_ := by omega
  have hsl1 : (0 : Int) ≤ (at_ : Int) + (N : Int) := by omega
  have hsl2 : (at_ : Int) + (N : Int) ≤ (c : Int) := by omega
  have hsl3 : ((at_ : Int) + (N : Int)).toNat = at_ + N := by omega
  have hsl4 : at_ ≤ at_ + N := by omega
  have hsl5 : at_ + N - at_ = N := by omega
  clear hB hm hbv hbig hcme hLm hLb hr hl hby hsub hlen
  have hd1 : decide (0 ≤ bad) = false := decide_eq_false (by omega)
  have hd2 : decide ((n : Int) - (at_ : Int) < (N : Int)) = false := decide_eq_false (by omega)
  go_enter Try.func80, Try.ntmps80
  go_wp2
  go_region_held3 (fun w' => w'.cell? ⟨g, 0, none⟩ = some (.slice (some ad) n c) ∧ w'.cell? ⟨g, 1, none⟩ = some (.int .i64 (at_ : Int))) (first | exact ⟨h0, h1⟩ | exact ⟨j0, j1⟩ | exact ⟨k0, k1⟩) (first
    | (go_at_call 87; (first | (with_reducible refine (HBG.out _ ((Below.refl _ _).drew)).mono ?_) | (with_reducible refine (HBG.out _ (pw_below_drewN (Below.refl _ _) _)).mono ?_)); rintro e w1 ⟨C, q, rfl, hq, hC, hb⟩; have HQ := Aside0.mk hq; have HC := Aside0.mk hC; have HB1 := Aside0.mk (below_then ((Below.refl w.heap.size w).drew) (Nat.le_refl _) hb); have k0 := pw_cell_below HB1.out h0; have k1 := pw_cell_below HB1.out h1; have k2 := pw_cell_below HB1.out h2; clear hq hC hb)
    | (go_at_call 86; (with_reducible refine (HCM.out _ _ HQ.out _ HB1.out HC.out).mono ?_); rintro e w2 ⟨rfl, hdr⟩; have HD := Aside0.mk hdr; have HB2 := Aside0.mk (below_then HB1.out HB1.out.size hdr.below); have HR2 := Aside0.mk (HR.out.below HB2.out); obtain ⟨j0, j1, j2, j4, j5⟩ := HR2.out; clear hdr))
  refine (‹∀ (a : Act) (w_1 : World), Code.wp _ _ _ a w_1 → _› _ _ ?_)
  go_wp2
  go_ret
  exact ⟨rfl, HR2.out.setBad _, (below_then HB.out HB.out.size HB2.out).setCell hg _, (Kept.of_below HB2.out (fun k => k = g)).setCell (p := ⟨g, 2, none⟩) (.inl rfl) _⟩
set_option maxHeartbeats 6400000 in
set_option maxRecDepth 100000 in
theorem qnum_ok (g : Nat) (A : Option Addr) (n c at_ : Nat) (bad : Int) (N : Nat) (B : Option Addr) (d m : Nat) (hN : N ≤ 8) (hN1 : 1 ≤ N) (hbad : bad < 0) (hs : at_ + N ≤ n) (hn : n ≤ 10000000) (hc : n ≤ c) (l : List Int) (hl : l.length = n) (hby : By l) (hbig : bv ((l.drop at_).take N) ≤ m) (hmx : m ≤ 9223372036854775807)
    (hd : (dg m).length ≤ d) (w0 w : World) (hr : Kd.C (Kd.int .u8) w A l.length l) (hm : Kd.C (Kd.int .i64) w B (dg m).length (dg m)) (hB : Below w0.heap.size w0 w) (hg : w0.heap.size ≤ g) (hR : IsQ w g A n c at_ bad) :
    Calls Try.prog 80 #[.pointer (some ⟨g, 0, none⟩), .int .i64 N, .slice B (dg m).length d] w (QTold w0 w g A n c (.int .i64 (bv ((l.drop at_).take N) : Int)) (at_ + N) bad) := by
  obtain ⟨ad, e, -⟩ := Kd.at_int hr 0 (by omega) (by omega)
  subst e
  have hsub := C_sub hr at_ N (by omega)
  have hlen : ((l.drop at_).take N).length = N := by rw [List.length_take, List.length_drop]; omega
  have HBG := Aside0.mk (fun W' (hb : Below w.heap.size w W') => qbig_calls (some (ad.add at_)) N (c - at_) ((l.drop at_).take N) hlen (by omega) (fun x hx => hby x (List.mem_of_mem_drop (List.mem_of_mem_take hx))) (by omega) W' (Kd.C_below hsub hb))
  have hb64 := bv64 l at_ N hN hby (by omega)
  obtain ⟨b, hbv⟩ : ∃ b, bv ((l.drop at_).take N) = b := ⟨_, rfl⟩
  rw [hbv] at HBG hbig hb64 ⊢
  have HBV := Aside0.mk hbv
  have HBY := Aside0.mk hby
  have HL := Aside0.mk hl
  have HRL := Aside0.mk hr
  have hbm : b ≤ 9223372036854775807 := by omega
  have hcm : decide (0 < cmp b m) = false := by rw [cmp_gt]; exact decide_eq_false (by omega)
  have HLB : Aside0 ((dg b).length ≤ 1000000) := ⟨by have := dg_len_le b 3 (by omega); omega⟩
  obtain ⟨cm, hcme⟩ : ∃ x, cmp b m = x := ⟨_, rfl⟩
  have HCM := Aside0.mk (fun (C : Option Addr) (q : Nat) (hq : (dg b).length ≤ q) (W' : World) (hb : Below w.heap.size w W') (hC : Kd.C (Kd.int .i64) W' C (dg b).length (dg b)) => qcmp_calls C q b hq B d m hd HLB.out W' hC (Kd.C_below hm hb))
  rw [hcme] at HCM hcm
  have HB := Aside0.mk hB
  have HR := Aside0.mk hR
  have HM := Aside0.mk hm
  obtain ⟨h0, h1, h2, h4, h5⟩ := hR
  obtain ⟨Lm, hLm⟩ : ∃ x, (dg m).length = x := ⟨_, rfl⟩
  obtain ⟨Lb, hLb⟩ : ∃ x, (dg b).length = x := ⟨_, rfl⟩
  rw [hLm] at HCM hd ⊢
  rw [hLb] at HCM HBG
  have hwm : IntKind.i64.wrap ((at_ : Int) + (N : Int)) = ((at_ + N : Nat) : Int) := by rw [IntWalk.i64_in _ (by omega)]; omega
  have hwq : IntKind.i64.wrap ((n : Int) - (at_ : Int)) = (n : Int) - (at_ : Int) := IntWalk.i64_in _ (by omega)
  have hcl : ¬ c = at_ := by omega
  have hsl1 : (0 : Int) ≤ (at_ : Int) + (N : Int) := by omega
  have hsl2 : (at_ : Int) + (N : Int) ≤ (c : Int) := by omega
  have hsl3 : ((at_ : Int) + (N : Int)).toNat = at_ + N := by omega
  have hsl4 : at_ ≤ at_ + N := by omega
  have hsl5 : at_ + N - at_ = N := by omega
  clear hB hm hbv hbig hcme hLm hLb hr hl hby hsub hlen
  have hd1 : decide (0 ≤ bad) = false := decide_eq_false (by omega)
  have hd2 : decide ((n : Int) - (at_ : Int) < (N : Int)) = false := decide_eq_false (by omega)
  go_enter Try.func80, Try.ntmps80
  go_wp2
  go_region_held3 (fun w' => w'.cell? ⟨g, 0, none⟩ = some (.slice (some ad) n c) ∧ w'.cell? ⟨g, 1, none⟩ = some (.int .i64 (at_ : Int))) (first | exact ⟨h0, h1⟩ | exact ⟨j0, j1⟩ | exact ⟨k0, k1⟩) (first
    | (go_at_call 87; (first | (with_reducible refine (HBG.out _ ((Below.refl _ _).drew)).mono ?_) | (with_reducible refine (HBG.out _ (pw_below_drewN (Below.refl _ _) _)).mono ?_)); rintro e w1 ⟨C, q, rfl, hq, hC, hb⟩; have HQ := Aside0.mk hq; have HC := Aside0.mk hC; have HB1 := Aside0.mk (below_then ((Below.refl w.heap.size w).drew) (Nat.le_refl _) hb); have k0 := pw_cell_below HB1.out h0; have k1 := pw_cell_below HB1.out h1; have k2 := pw_cell_below HB1.out h2; clear hq hC hb)
    | (go_at_call 86; (with_reducible refine (HCM.out _ _ HQ.out _ HB1.out HC.out).mono ?_); rintro e w2 ⟨rfl, hdr⟩; have HD := Aside0.mk hdr; have HB2 := Aside0.mk (below_then HB1.out HB1.out.size hdr.below); have HR2 := Aside0.mk (HR.out.below HB2.out); obtain ⟨j0, j1, j2, j4, j5⟩ := HR2.out; clear hdr))
  refine (‹∀ (a : Act) (w_1 : World), Code.wp _ _ _ a w_1 → _› _ _ ?_)
  go_wp2
  have HCl := Aside0.mk (Kd.C_below HRL.out HB2.out)
  have hsz2 := HB2.out.size
  go_loopw [7, 8] (fun v7 v8 wx => ∃ i : Nat, v8 = .int .i64 i ∧ i ≤ N ∧ v7 = .int .i64 (bv ((l.drop at_).take i) : Int) ∧ Aside0 (Drawn0 w2 wx))
    (fun _ v8 _ => N - (intOf v8).toNat)
  case atStart => exact ⟨0, rfl, Nat.zero_le _, rfl, ⟨Drawn0.refl _⟩⟩
  case round =>
    obtain ⟨i, rfl, hi, rfl, HD⟩ := hrel
    obtain ⟨r0, r1, r2, r4, r5⟩ := HR2.out.below HD.out.below
    by_cases hlt : i < N
    · have HNX := Aside0.mk (bv_take (l.drop at_) i (by rw [List.length_drop, HL.out]; omega))
      have HMO := Aside0.mk (bv_mono (l.drop at_) (N - (i + 1)) (i + 1) (by rw [List.length_drop, HL.out]; omega))
      rw [show i + 1 + (N - (i + 1)) = N from by omega, HBV.out, HNX.out, rd_drop] at HMO
      rw [rd_drop] at HNX
      have hx := HBY.out.rd ((at_ + i : Nat) : Int)
      obtain ⟨ad', e, q⟩ := Kd.at_int HCl.out ((at_ + i : Nat) : Int) (by omega) (by have := HL.out; omega)
      cases e
      rw [Int.toNat_natCast] at q
      replace q := pw_cell_below HD.out.below q
      obtain ⟨x, hxe⟩ : ∃ x, rd l ((at_ + i : Nat) : Int) = x := ⟨_, rfl⟩
      rw [hxe] at HNX HMO hx q
      obtain ⟨bi, hbi⟩ : ∃ x, bv ((l.drop at_).take i) = x := ⟨_, rfl⟩
      rw [hbi] at HNX HMO ⊢
      have hm2 := HMO.out
      have w1' : IntKind.i64.wrap ((bi : Int) * 256) = (bi : Int) * 256 := IntWalk.i64_in _ (by omega)
      have w2' : IntKind.i64.wrap ((bi : Int) * 256 + x) = (bi : Int) * 256 + x := IntWalk.i64_in _ (by omega)
      have w3' : IntKind.i64.wrap ((at_ : Int) + (i : Int)) = ((at_ + i : Nat) : Int) := by rw [IntWalk.i64_in _ (by omega)]; omega
      have HVX : Aside0 ((bi : Int) * 256 + x = ((bv ((l.drop at_).take (i + 1)) : Nat) : Int)) := ⟨by rw [HNX.out]; omega⟩
      have HW1 : Aside0 (wrap64 x = x) := ⟨w64 x (by omega) (by omega)⟩
      have HW2 : Aside0 (wrap64 ((bi : Int) * 256 + x) = (bi : Int) * 256 + x) := ⟨w64 _ (by omega) (by omega)⟩
      clear hm2 hxe hbi hx hb64
      go_wp2
      go_quiet (fail)
      go_wp2
      go_roundw
      case rel => exact ⟨i + 1, by go_num, by omega, congrArg (Value.int .i64) (by rw [HW1.out, HW2.out]; exact HVX.out), ⟨HD.out.step _⟩⟩
      case measure => simp [intOf]; omega
    · have hie : i = N := by omega
      subst hie
      rw [HBV.out]
      clear hlt hb64
      go_wp2
      go_ret
      exact ⟨rfl, (HR2.out.below HD.out.below).setAt _, (below_then (below_then HB.out HB.out.size HB2.out) (Nat.le_trans HB.out.size hsz2) HD.out.below).setCell hg _, (Kept.below (Kept.of_below HB2.out (fun k => k = g)) HD.out.below).setCell (p := ⟨g, 1, none⟩) (.inl rfl) _⟩
end Go.Proofs.Ytlngkcaaenpnaaa.Wire
