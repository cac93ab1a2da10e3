/- wire: the fields are written. -/
import Derived.Test.YtlngkcaaenpnaaaWireE
namespace Go.Proofs.Ytlngkcaaenpnaaa.Wire
set_option linter.unusedVariables false
open Go.RowKit Go.Proofs.Ytlngkcaaenpnaaa.PWi Go.Proofs.YtlngkcaaenpnaaaW Go.Proofs.YtlngkcaaenpnaaaW.PrintWords Go.Proofs.YtlngkcaaenpnaaaW.PrintLast Go.Proofs.YtlngkcaaenpnaaaW.PrintMore

/-- What a field writes. -/
def fld (f : S69) : List Int :=
  if f.f0 = 1 then bes 1 (f.f1 % 256) else if f.f0 = 2 then bes 8 (if f.f1 < 0 then 0 else f.f1) else if f.f0 = 3 then bes 4 (f.f2.length : Int) ++ f.f2 else if f.f0 = 4 then bes 4 (cnt f.f1) else []
theorem new_IsW (W w0 : World) (hs : w0.heap.size ≤ W.heap.size) : IsW (fun k => k = W.heap.size) (W.alloc (.cells #[.slice none 0 0] 98)) w0.heap.size W.heap.size [] :=
  ⟨rfl, hs, by simp, .slice none 0 0, by go_simp, by go_simp, Kd.R_nil _ _ _ _ _⟩
theorem IsW.grown {P : Nat → Prop} {W W2 : World} {base g : Nat} {l : List Int} {row : Option Nat} (h : IsW P W base g l) (hg : W.grownBy W2 row) (hr : ∀ k, row = some k → ¬ P k) : IsW P W2 base g l := by
  obtain ⟨h1, h2, h3, v, h4, h5, h6⟩ := h
  have hK : Kept W W2 (fun k => row = some k) := Kept.of_grown hg (Kept.refl W _) (fun k e => .inl e)
  have hne : some g ≠ row := fun e => hr g e.symm h1
  exact ⟨h1, h2, by have := hg.size; omega, v, cell_grown hg h4 hne, (World.grownBy.frozen_far hg _ h3 hne).trans h5, Kd.R_kept h6 hK (fun k hk e => hr k e hk.1)⟩
theorem bes1 (x : Int) : bes 1 (x % 256) = [x % 256] := by
  rw [bes, bes, Int.pow_zero, Int.ediv_one, Int.emod_emod_of_dvd _ (Int.dvd_refl 256)]
def flds (l : List S69) : List Int := (l.map fld).flatten
theorem fld_len (f : S69) : (fld f).length ≤ 8 + f.f2.length := by
  unfold fld
  split
  · rw [bes_len]; omega
  · split
    · rw [bes_len]; omega
    · split
      · rw [List.length_append, bes_len]; omega
      · split
        · rw [bes_len]; omega
        · simp
theorem refbytes_v (A : Option Addr) (n c : Nat) (l : List Int) (hn : l.length = n) (hc : n ≤ c) (hl : n ≤ 1000000) (w : World) (hb : Kd.C (Kd.int .u8) w A l.length l) (v : List Int) (hv : bes 4 (n : Int) ++ l = v) : Calls Try.prog 60 #[.slice A n c] w (Copy w v) := hv ▸ refbytes_calls A n c l hn hc hl w hb
set_option maxHeartbeats 3200000 in
set_option maxRecDepth 100000 in
theorem written_calls (A0 : Option Addr) (c0 : Nat) (l0 : List S69) (w : World) (hr0 : Kd.C k69 w A0 l0.length l0) (hl : l0.length ≤ 50) (hb : ∀ x ∈ l0, x.f2.length ≤ 500) (hwf : ∀ x ∈ l0, -9223372036854775808 ≤ x.f1 ∧ x.f1 ≤ 9223372036854775807) :
    Calls Try.prog 34 #[.slice A0 l0.length c0] w fun e w' => ∃ A c B d, e = .returned (.tuple #[.slice A (flds l0).length c, .slice B (flds l0).length d]) ∧ (flds l0).length ≤ c ∧ (flds l0).length ≤ d ∧ Kd.C (Kd.int .u8) w' A (flds l0).length (flds l0) ∧ Kd.C (Kd.int .u8) w' B (flds l0).length (flds l0) ∧ Below w.heap.size w w' := by
  have HR := Aside0.mk hr0
  have HBl := Aside0.mk hb
  have HWF := Aside0.mk hwf
  clear hr0 hb hwf
  go_enter Try.func34, Try.ntmps34
  go_wp2
  go_loopw [5, 12] (fun v5 v12 wr => ∃ (k : Nat) (P : Nat → Prop) (o : List Int) (u5 : Value), v5 = u5 ∧ k ≤ l0.length ∧ v12 = .int .i64 k ∧ w.heap.size < wr.heap.size ∧ o.length ≤ k * 600 ∧ Aside0 (o = flds (l0.take k)) ∧ Aside0 (IsW P wr w.heap.size w.heap.size o) ∧ Aside0 (Kd.R (Kd.int .u8) 5 wr w.heap.size (fun k => ¬ P k) u5 o) ∧ Aside0 (Below w.heap.size w wr))
    (fun _ v12 _ => l0.length - (intOf v12).toNat)
  case atStart => exact ⟨0, _, [], _, rfl, Nat.zero_le _, rfl, by simp, by simp, ⟨rfl⟩, ⟨new_IsW w w (Nat.le_refl _)⟩, ⟨Kd.R_nil _ _ _ _ _⟩, ⟨below_alloc (Below.refl _ _) _⟩⟩
  case round =>
    obtain ⟨k, P, o, u5, rfl, hk, rfl, hws, hol, HO, HI, HRo, HB⟩ := hrel
    by_cases hlt : k < l0.length
    · obtain ⟨ad, A2, c2, e, q0, q1, q2, q3, q4, q5, q6⟩ := at_T69 HR.out (k : Int) (by omega) (by omega)
      subst e
      rw [Int.toNat_natCast] at q0 q1 q2 q3 q4
      replace q0 := pw_cell_below HB.out q0
      replace q1 := pw_cell_below HB.out q1
      replace q2 := pw_cell_below HB.out q2
      replace q3 := pw_cell_below HB.out q3
      replace q4 := pw_cell_below HB.out q4
      replace q6 := Aside0.mk q6
      have hm : rd_T69 l0 (k : Int) ∈ l0 := by
        simp only [rd_T69, Int.toNat_natCast, List.getD_eq_getElem?_getD, List.getElem?_eq_getElem hlt, Option.getD_some]
        exact List.getElem_mem hlt
      have b1 := HBl.out _ hm
      have b2 := HWF.out _ hm
      have hnext : flds (l0.take (k + 1)) = flds (l0.take k) ++ fld (rd_T69 l0 (k : Int)) := by
        have e : rd_T69 l0 (k : Int) = l0[k] := by simp [rd_T69, List.getD_eq_getElem?_getD, hlt]
        rw [e, List.take_add_one, List.getElem?_eq_getElem hlt, Option.toList_some]
        unfold flds
        rw [List.map_append, List.flatten_append, List.map_singleton]
        simp only [List.flatten_cons, List.flatten_nil, List.append_nil]
      generalize rd_T69 l0 (k : Int) = f at *
      have HNX := Aside0.mk hnext
      have HIb := Aside0.mk HI.out.bound
      have HRb := Aside0.mk (Kd.R_mono (ok' := fun k => ¬ (P k ∧ k < wr.heap.size)) HRo.out (fun k hk h => hk h.1))
      obtain ⟨P0, hP0⟩ : ∃ P0 : Nat → Prop, P0 = fun k => P k ∧ k < wr.heap.size := ⟨_, rfl⟩
      have hPb : ∀ k, P0 k → k < wr.heap.size := fun k h => by rw [hP0] at h; exact h.2
      rw [← hP0] at HIb
      have HRc : Aside0 (Kd.R (Kd.int .u8) 5 wr w.heap.size (fun k => ¬ P0 k) u5 o) := ⟨by rw [hP0]; exact HRb.out⟩
      clear HI HRo HRb hnext hm
      by_cases h1 : f.f0 = 1
      · obtain ⟨W1, hW1⟩ : ∃ W1, W1 = wr.alloc (.cells #[.int .i64 f.f0, .int .i64 f.f1, .slice A2 f.f2.length c2, .int .i64 f.f3, .int .i64 f.f4] 69) := ⟨_, rfl⟩
        have HBa : Aside0 (Below w.heap.size w W1) := ⟨by rw [hW1]; exact below_alloc HB.out _⟩
        have HIa : Aside0 (IsW P0 W1 w.heap.size w.heap.size o) := ⟨by rw [hW1]; exact HIb.out.keep (below_alloc (Below.refl _ _) _)⟩
        have HRa : Aside0 (Kd.R (Kd.int .u8) 5 W1 w.heap.size (fun k => ¬ P0 k) u5 o) := ⟨by rw [hW1]; exact Kd.R_alloc HRc.out _⟩
        have hbx : W1.cell? ⟨wr.heap.size, 1, none⟩ = some (.int .i64 f.f1) := by rw [hW1]; go_simp
        have hc := byte_calls P0 w.heap.size o (f.f1 % 256) (by omega) (by omega) w W1 HBa.out HIa.out
        rw [hW1, h1] at hc
        have HC := Aside0.mk hc
        clear hc
        go_wp2_with (first
          | (go_at_call 58; (with_reducible refine HC.out.mono ?_); rintro e w1 ⟨⟨v, rfl⟩, hI1, hB1, hK1⟩; rw [← h1, ← hW1] at hI1 hK1; have hbx1 : w1.cell? ⟨wr.heap.size, 1, none⟩ = some (.int .i64 f.f1) := cell_kept hbx hK1 (fun h => by have := hPb _ h; simp at this); have HI1 := Aside0.mk hI1; have HB1 := Aside0.mk hB1; have HK1 := Aside0.mk hK1; have HRo1 := Aside0.mk (Kd.R_keptB HRa.out hK1 (fun k hk => hk)); have hsz1 := hB1.size; have HOL : Aside0 ((w1.alloc (.cells #[.int .u8 (f.f1 % 256)] 5)).ownsRow w.heap.size 5 1 u5 o.length (nums .u8 o)) := ⟨(Kd.own_of_R HRo1.out).alloc _⟩; have HRI := Aside0.mk (C_readsB (lit1_own w1 w.heap.size hsz1 (f.f1 % 256))); have HBx := Aside0.mk (hB1.alloc hsz1 (.cells #[.int .u8 (f.f1 % 256)] 5)); clear hI1 hB1 hK1)
          | (at_builtin; refine print_append_row (w0 := w) w.heap.size rfl _ _ 41 5 .u8 1 rfl Try.underlying41 info5 (by decide) u5 o [f.f1 % 256] (some ⟨w1.heap.size, 0, none⟩) 1 1 rfl rfl HOL.out HRI.out HBx.out (by simp; omega) (by simp; omega) ?_; intro v2 w2 ho2 hb2 hg2 hat2; have HO2 := Aside0.mk ho2; have HB2 := Aside0.mk hb2; have HG2 := Aside0.mk hg2; have HAT := Aside0.mk hat2; clear ho2 hb2 hg2 hat2)
          | fail)
        have hIB := (HI1.out.bound).keep (below_alloc (Below.refl _ _) (.cells #[.int .u8 (f.f1 % 256)] 5))
        have hI2 := hIB.grown HG2.out (fun k e h => by have h0 := HRo1.out.1 k e; exact h.1.elim h0.1 (fun h2 => by have := h0.2.2; omega))
        rw [bes1] at hI2
        have hs1 : W1.heap.size = wr.heap.size + 1 := by rw [hW1]; simp
        have hs2 := HK1.out.1
        have hs3 := HG2.out.size
        have hLn : o ++ [f.f1 % 256] = flds (l0.take (k + 1)) := by rw [HNX.out, ← HO.out, fld, if_pos h1, bes1]
        have hR2 := Kd.R_of_own (enc := Value.int .u8) (h1 := fun _ => rfl) (ok := fun k => ¬ ((P0 k ∨ W1.heap.size ≤ k) ∧ k < w1.heap.size)) HO2.out (fun k e h => by
          rcases HAT.out with e2 | ⟨b, e2, hge⟩
          · rw [e2] at e
            have h0 := HRo1.out.1 k e
            exact h.1.elim h0.1 (fun h2 => by have := h0.2.2; omega)
          · rw [e2] at e
            obtain rfl : b = k := by simpa using e
            simp at hge
            omega)
        go_roundw
        case rel => exact ⟨k + 1, _, _, _, rfl, by omega, by go_num, by simp at hs3; omega, by simp; omega, ⟨hLn⟩, ⟨hI2⟩, ⟨hR2⟩, HB2⟩
        case measure => simp [intOf]; omega
      · by_cases h1 : f.f0 = 2
        · skip
          obtain ⟨W1, hW1⟩ : ∃ W1, W1 = wr.alloc (.cells #[.int .i64 f.f0, .int .i64 f.f1, .slice A2 f.f2.length c2, .int .i64 f.f3, .int .i64 f.f4] 69) := ⟨_, rfl⟩
          have HBa : Aside0 (Below w.heap.size w W1) := ⟨by rw [hW1]; exact below_alloc HB.out _⟩
          have HIa : Aside0 (IsW P0 W1 w.heap.size w.heap.size o) := ⟨by rw [hW1]; exact HIb.out.keep (below_alloc (Below.refl _ _) _)⟩
          have HRa : Aside0 (Kd.R (Kd.int .u8) 5 W1 w.heap.size (fun k => ¬ P0 k) u5 o) := ⟨by rw [hW1]; exact Kd.R_alloc HRc.out _⟩
          have hbx : W1.cell? ⟨wr.heap.size, 1, none⟩ = some (.int .i64 f.f1) := by rw [hW1]; go_simp
          have hlL : (bes 8 (if f.f1 < 0 then 0 else f.f1)).length ≤ 8 := Nat.le_of_eq (bes_len _ _)
          have hc := int_calls P0 w.heap.size o f.f1 b2 (by omega) w W1 HBa.out HIa.out
          rw [hW1, h1] at hc
          have HC := Aside0.mk hc
          clear hc
          go_wp2_with (first
            | (go_at_call 35; (with_reducible refine HC.out.mono ?_); rintro e w1 ⟨⟨v, rfl⟩, hI1, hB1, hK1⟩; rw [← h1, ← hW1] at hI1 hK1; have hbx1 : w1.cell? ⟨wr.heap.size, 1, none⟩ = some (.int .i64 f.f1) := cell_kept hbx hK1 (fun h => by have := hPb _ h; simp at this); have HI1 := Aside0.mk hI1; have HB1 := Aside0.mk hB1; have HK1 := Aside0.mk hK1; have HRo1 := Aside0.mk (Kd.R_keptB HRa.out hK1 (fun k hk => hk)); have hsz1 := hB1.size; clear hI1 hB1 hK1)
            | (go_at_call 59; (with_reducible refine (refint_calls f.f1 b2 w1).mono ?_); rintro e w2 ⟨A3, c3, rfl, p1, p2, hb2⟩; have HB2 := Aside0.mk (below_step HB1.out hb2); have HI2 := Aside0.mk (HI1.out.bound.keep hb2); have HRo2 := Aside0.mk (Kd.R_kept HRo1.out (Kept.of_below hb2 (fun _ => False)) (fun _ _ h => h)); have HOL : Aside0 (w2.ownsRow w.heap.size 5 1 u5 o.length (nums .u8 o)) := ⟨Kd.own_of_R HRo2.out⟩; have HRI := Aside0.mk (C_readsB p2); have hsz2 := hb2.size; clear hb2 p2)
            | (at_builtin; refine print_append_row (w0 := w) w.heap.size rfl _ _ 41 5 .u8 1 rfl Try.underlying41 info5 (by decide) u5 o (bes 8 (if f.f1 < 0 then 0 else f.f1)) A3 _ c3 rfl rfl HOL.out HRI.out HB2.out (by omega) (by omega) ?_; intro v2 w3 ho2 hb2 hg2 hat2; have HO2 := Aside0.mk ho2; have HB3 := Aside0.mk hb2; have HG2 := Aside0.mk hg2; have HAT := Aside0.mk hat2; clear ho2 hb2 hg2 hat2)
            | fail)
          have hI2 := HI2.out.grown HG2.out (fun k e h => by have h0 := HRo1.out.1 k e; exact h.1.elim h0.1 (fun h2 => by have := h0.2.2; omega))
          have hs1 : W1.heap.size = wr.heap.size + 1 := by rw [hW1]; simp
          have hs2 := HK1.out.1
          have hs3 := HG2.out.size
          have hLn : o ++ (bes 8 (if f.f1 < 0 then 0 else f.f1)) = flds (l0.take (k + 1)) := by rw [HNX.out, ← HO.out, fld, if_neg (show ¬ f.f0 = 1 from by omega), if_pos h1]
          have hR2 := Kd.R_of_own (enc := Value.int .u8) (h1 := fun _ => rfl) (ok := fun k => ¬ ((P0 k ∨ W1.heap.size ≤ k) ∧ k < w1.heap.size)) HO2.out (fun k e => by
            rcases HAT.out with e2 | ⟨b, e2, hge⟩
            · rw [e2] at e
              have h0 := HRo1.out.1 k e
              exact fun h => h.1.elim h0.1 (fun h2 => by have := h0.2.2; omega)
            · rw [e2] at e
              obtain rfl : b = k := by simpa using e
              intro h
              have := h.2
              omega)
          have hw8 : (o ++ (bes 8 (if f.f1 < 0 then 0 else f.f1))).length ≤ (k + 1) * 600 := by rw [List.length_append]; omega
          go_roundw
          case rel => exact ⟨k + 1, _, _, _, rfl, by omega, by go_num, by omega, hw8, ⟨hLn⟩, ⟨hI2⟩, ⟨hR2⟩, HB3⟩
          case measure => simp [intOf] <;> omega
        · by_cases h1 : f.f0 = 3
          · skip
            obtain ⟨W1, hW1⟩ : ∃ W1, W1 = wr.alloc (.cells #[.int .i64 f.f0, .int .i64 f.f1, .slice A2 f.f2.length c2, .int .i64 f.f3, .int .i64 f.f4] 69) := ⟨_, rfl⟩
            have HBa : Aside0 (Below w.heap.size w W1) := ⟨by rw [hW1]; exact below_alloc HB.out _⟩
            have HIa : Aside0 (IsW P0 W1 w.heap.size w.heap.size o) := ⟨by rw [hW1]; exact HIb.out.keep (below_alloc (Below.refl _ _) _)⟩
            have HRa : Aside0 (Kd.R (Kd.int .u8) 5 W1 w.heap.size (fun k => ¬ P0 k) u5 o) := ⟨by rw [hW1]; exact Kd.R_alloc HRc.out _⟩
            have hbx : W1.cell? ⟨wr.heap.size, 2, none⟩ = some (.slice A2 f.f2.length c2) := by rw [hW1]; go_simp
            obtain ⟨Lz, hLz⟩ : ∃ Lz, (bes 4 (f.f2.length : Int) ++ f.f2) = Lz := ⟨_, rfl⟩
            have hlL : Lz.length ≤ 4 + f.f2.length := by rw [← hLz, List.length_append, bes_len]; omega
            have HLZ := Aside0.mk hLz
            clear hLz
            have hc := bytes_calls P0 w.heap.size o A2 f.f2.length c2 f.f2 rfl (by omega) (by omega) w W1 q6.out HBa.out HIa.out
            rw [hW1, h1] at hc
            have HC := Aside0.mk hc
            clear hc
            go_wp2_with (first
              | (go_at_call 36; (with_reducible refine HC.out.mono ?_); rintro e w1 ⟨⟨v, rfl⟩, hI1, hB1, hK1⟩; rw [← h1, ← hW1] at hI1 hK1; rw [List.append_assoc, HLZ.out] at hI1; have hbx1 : w1.cell? ⟨wr.heap.size, 2, none⟩ = some (.slice A2 f.f2.length c2) := cell_kept hbx hK1 (fun h => by have := hPb _ h; simp at this); have HI1 := Aside0.mk hI1; have HB1 := Aside0.mk hB1; have HK1 := Aside0.mk hK1; have HRo1 := Aside0.mk (Kd.R_keptB HRa.out hK1 (fun k hk => hk)); have hsz1 := hB1.size; clear hI1 hB1 hK1)
              | (go_at_call 60; (with_reducible refine (refbytes_v A2 f.f2.length c2 f.f2 rfl q5 (by omega) w1 (Kd.C_below q6.out HB1.out) Lz HLZ.out).mono ?_); rintro e w2 ⟨A3, c3, rfl, p1, p2, hb2⟩; have HB2 := Aside0.mk (below_step HB1.out hb2); have HI2 := Aside0.mk (HI1.out.bound.keep hb2); have HRo2 := Aside0.mk (Kd.R_kept HRo1.out (Kept.of_below hb2 (fun _ => False)) (fun _ _ h => h)); have HOL : Aside0 (w2.ownsRow w.heap.size 5 1 u5 o.length (nums .u8 o)) := ⟨Kd.own_of_R HRo2.out⟩; have HRI := Aside0.mk (C_readsB p2); have hsz2 := hb2.size; clear hb2 p2)
              | (at_builtin; refine print_append_row (w0 := w) w.heap.size rfl _ _ 41 5 .u8 1 rfl Try.underlying41 info5 (by decide) u5 o Lz A3 _ c3 rfl rfl HOL.out HRI.out HB2.out (by omega) (by omega) ?_; intro v2 w3 ho2 hb2 hg2 hat2; have HO2 := Aside0.mk ho2; have HB3 := Aside0.mk hb2; have HG2 := Aside0.mk hg2; have HAT := Aside0.mk hat2; clear ho2 hb2 hg2 hat2)
              | fail)
            have hI2 := HI2.out.grown HG2.out (fun k e h => by have h0 := HRo1.out.1 k e; exact h.1.elim h0.1 (fun h2 => by have := h0.2.2; omega))
            have hs1 : W1.heap.size = wr.heap.size + 1 := by rw [hW1]; simp
            have hs2 := HK1.out.1
            have hs3 := HG2.out.size
            have hLn : o ++ Lz = flds (l0.take (k + 1)) := by rw [HNX.out, ← HO.out, fld, if_neg (show ¬ f.f0 = 1 from by omega), if_neg (show ¬ f.f0 = 2 from by omega), if_pos h1, HLZ.out]
            have hR2 := Kd.R_of_own (enc := Value.int .u8) (h1 := fun _ => rfl) (ok := fun k => ¬ ((P0 k ∨ W1.heap.size ≤ k) ∧ k < w1.heap.size)) HO2.out (fun k e => by
              rcases HAT.out with e2 | ⟨b, e2, hge⟩
              · rw [e2] at e
                have h0 := HRo1.out.1 k e
                exact fun h => h.1.elim h0.1 (fun h2 => by have := h0.2.2; omega)
              · rw [e2] at e
                obtain rfl : b = k := by simpa using e
                intro h
                have := h.2
                omega)
            have hw8 : (o ++ Lz).length ≤ (k + 1) * 600 := by rw [List.length_append]; omega
            go_roundw
            case rel => exact ⟨k + 1, _, _, _, rfl, by omega, by go_num, by omega, hw8, ⟨hLn⟩, ⟨hI2⟩, ⟨hR2⟩, HB3⟩
            case measure => simp [intOf] <;> omega
          · by_cases h1 : f.f0 = 4
            · skip
              obtain ⟨W1, hW1⟩ : ∃ W1, W1 = wr.alloc (.cells #[.int .i64 f.f0, .int .i64 f.f1, .slice A2 f.f2.length c2, .int .i64 f.f3, .int .i64 f.f4] 69) := ⟨_, rfl⟩
              have HBa : Aside0 (Below w.heap.size w W1) := ⟨by rw [hW1]; exact below_alloc HB.out _⟩
              have HIa : Aside0 (IsW P0 W1 w.heap.size w.heap.size o) := ⟨by rw [hW1]; exact HIb.out.keep (below_alloc (Below.refl _ _) _)⟩
              have HRa : Aside0 (Kd.R (Kd.int .u8) 5 W1 w.heap.size (fun k => ¬ P0 k) u5 o) := ⟨by rw [hW1]; exact Kd.R_alloc HRc.out _⟩
              have hbx : W1.cell? ⟨wr.heap.size, 1, none⟩ = some (.int .i64 f.f1) := by rw [hW1]; go_simp
              have hlL : (bes 4 (cnt f.f1)).length ≤ 4 := Nat.le_of_eq (bes_len _ _)
              have hc := count_calls P0 w.heap.size o f.f1 b2 (by omega) w W1 HBa.out HIa.out
              rw [hW1, h1] at hc
              have HC := Aside0.mk hc
              clear hc
              go_wp2_with (first
                | (go_at_call 61; (with_reducible refine HC.out.mono ?_); rintro e w1 ⟨⟨v, rfl⟩, hI1, hB1, hK1⟩; rw [← h1, ← hW1] at hI1 hK1; have hbx1 : w1.cell? ⟨wr.heap.size, 1, none⟩ = some (.int .i64 f.f1) := cell_kept hbx hK1 (fun h => by have := hPb _ h; simp at this); have HI1 := Aside0.mk hI1; have HB1 := Aside0.mk hB1; have HK1 := Aside0.mk hK1; have HRo1 := Aside0.mk (Kd.R_keptB HRa.out hK1 (fun k hk => hk)); have hsz1 := hB1.size; clear hI1 hB1 hK1)
                | (go_at_call 62; (with_reducible refine (refcount_calls f.f1 b2 w1).mono ?_); rintro e w2 ⟨A3, c3, rfl, p1, p2, hb2⟩; have HB2 := Aside0.mk (below_step HB1.out hb2); have HI2 := Aside0.mk (HI1.out.bound.keep hb2); have HRo2 := Aside0.mk (Kd.R_kept HRo1.out (Kept.of_below hb2 (fun _ => False)) (fun _ _ h => h)); have HOL : Aside0 (w2.ownsRow w.heap.size 5 1 u5 o.length (nums .u8 o)) := ⟨Kd.own_of_R HRo2.out⟩; have HRI := Aside0.mk (C_readsB p2); have hsz2 := hb2.size; clear hb2 p2)
                | (at_builtin; refine print_append_row (w0 := w) w.heap.size rfl _ _ 41 5 .u8 1 rfl Try.underlying41 info5 (by decide) u5 o (bes 4 (cnt f.f1)) A3 _ c3 rfl rfl HOL.out HRI.out HB2.out (by omega) (by omega) ?_; intro v2 w3 ho2 hb2 hg2 hat2; have HO2 := Aside0.mk ho2; have HB3 := Aside0.mk hb2; have HG2 := Aside0.mk hg2; have HAT := Aside0.mk hat2; clear ho2 hb2 hg2 hat2)
                | fail)
              have hI2 := HI2.out.grown HG2.out (fun k e h => by have h0 := HRo1.out.1 k e; exact h.1.elim h0.1 (fun h2 => by have := h0.2.2; omega))
              have hs1 : W1.heap.size = wr.heap.size + 1 := by rw [hW1]; simp
              have hs2 := HK1.out.1
              have hs3 := HG2.out.size
              have hLn : o ++ (bes 4 (cnt f.f1)) = flds (l0.take (k + 1)) := by rw [HNX.out, ← HO.out, fld, if_neg (show ¬ f.f0 = 1 from by omega), if_neg (show ¬ f.f0 = 2 from by omega), if_neg (show ¬ f.f0 = 3 from by omega), if_pos h1]
              have hR2 := Kd.R_of_own (enc := Value.int .u8) (h1 := fun _ => rfl) (ok := fun k => ¬ ((P0 k ∨ W1.heap.size ≤ k) ∧ k < w1.heap.size)) HO2.out (fun k e => by
                rcases HAT.out with e2 | ⟨b, e2, hge⟩
                · rw [e2] at e
                  have h0 := HRo1.out.1 k e
                  exact fun h => h.1.elim h0.1 (fun h2 => by have := h0.2.2; omega)
                · rw [e2] at e
                  obtain rfl : b = k := by simpa using e
                  intro h
                  have := h.2
                  omega)
              have hw8 : (o ++ (bes 4 (cnt f.f1))).length ≤ (k + 1) * 600 := by rw [List.length_append]; omega
              go_roundw
              case rel => exact ⟨k + 1, _, _, _, rfl, by omega, by go_num, by omega, hw8, ⟨hLn⟩, ⟨hI2⟩, ⟨hR2⟩, HB3⟩
              case measure => simp [intOf] <;> omega
            · have e1 : (f.f0 == 1) = false := by simp; omega
              have e2 : (f.f0 == 2) = false := by simp; omega
              have e3 : (f.f0 == 3) = false := by simp; omega
              have e4 : (f.f0 == 4) = false := by simp; omega
              have hLn : o = flds (l0.take (k + 1)) := by rw [HNX.out, ← HO.out, fld, if_neg (by omega), if_neg (by omega), if_neg (by omega), if_neg (by omega), List.append_nil]
              go_wp2
              go_roundw
              case rel => exact ⟨k + 1, P0, o, u5, rfl, by omega, by go_num, by simp; omega, by omega, ⟨hLn⟩, ⟨HIb.out.keep (below_alloc (Below.refl _ _) _)⟩, ⟨Kd.R_alloc HRc.out _⟩, ⟨below_alloc HB.out _⟩⟩
              case measure => simp [intOf] <;> omega
    · have hkl : k = l0.length := by omega
      subst hkl
      have hfin : o = flds l0 := by rw [HO.out, List.take_length]
      have hol2 : o.length ≤ 10000000 := by omega
      have HOC := Aside0.mk (out_calls P w.heap.size w.heap.size o hol2 wr HI.out)
      have HF := Aside0.mk hfin
      obtain ⟨B, d, rfl⟩ := Kd.R_slice HRo.out
      have HRo2 := HRo
      clear hfin
      go_wp2_with (first
        | (go_at_call 38; (with_reducible refine HOC.out.mono ?_); rintro e w1 ⟨A, c, rfl, p1, p2, p3⟩; have HP2 := Aside0.mk p2; have HB1 := Aside0.mk p3; clear p2 p3)
        | fail)
      go_ret2
      have hq := Kd.R_reads' HRo2.out
      rw [← HF.out]
      exact ⟨A, c, B, d, rfl, p1, hq.2.1, HP2.out, Kd.C_below hq.2.2 HB1.out, below_step HB.out HB1.out⟩
end Go.Proofs.Ytlngkcaaenpnaaa.Wire
