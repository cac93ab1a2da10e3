/- recall: an event's bytes, by the program. -/
import Derived.Test.YtlngkcaaenpnaaaRcA
namespace Go.Proofs.Ytlngkcaaenpnaaa.Wire
set_option linter.unusedVariables false
set_option linter.unusedSimpArgs false
open Go.RowKit Go.Proofs.Ytlngkcaaenpnaaa.Num Go.Proofs.Ytlngkcaaenpnaaa.PWi Go.Proofs.YtlngkcaaenpnaaaW Go.Proofs.YtlngkcaaenpnaaaW.PrintWords Go.Proofs.YtlngkcaaenpnaaaW.PrintLast Go.Proofs.YtlngkcaaenpnaaaW.PrintMore

theorem far_new {w w2 : World} (o : Obj) (h : w.heap.size < w2.heap.size) : ¬ (w.heap.size = w2.heap.size ∨ (w2.alloc o).heap.size ≤ w.heap.size) := by
  have := (below_alloc (Below.refl w2.heap.size w2) o).size
  omega
theorem b02 : (0 : Int) ≤ 2 ∧ (2 : Int) < 256 := by omega
theorem b01 : (0 : Int) ≤ 1 ∧ (1 : Int) < 256 := by omega
/-- Behind Put: bytes, and whether the event may be. -/
def PutTold (w : World) (l : List Int) (err : Int) (e : Ending) (w' : World) : Prop :=
  ∃ A c, e = .returned (.tuple #[.slice A l.length c, .int .i64 err]) ∧ l.length ≤ c ∧ Kd.C (Kd.int .u8) w' A l.length l ∧ Below w.heap.size w w'
set_option maxHeartbeats 1600000 in
set_option maxRecDepth 100000 in
theorem put_no (k now fr : Int) (A : Option Addr) (n c : Nat) (l : List Int) (hn : l.length = n) (hc : n ≤ c) (w : World) (hr : Kd.C (Kd.int .u8) w A l.length l) (hm : mayb k now fr l = false) :
    Calls Try.prog 46 #[.agg #[.int .i64 k, .int .i64 now, .int .i64 fr, .slice A n c]] w (PutTold w [] 2) := by
  subst hn
  have HM := Aside0.mk (recall_may.calls k now fr A c l false (w.alloc (.cells #[.int .i64 k, .int .i64 now, .int .i64 fr, .slice A l.length c] 79)) (Kd.C_alloc hr _) hc (by rw [may_is, hm]))
  have hu79 := Try.underlying79
  clear hm hr
  go_enter Try.func46, Try.ntmps46
  go_wp2_with (first
    | (go_at_call 71; (with_reducible refine HM.out.mono ?_); rintro e w2 ⟨rfl, hb⟩; have HB2 := Aside0.mk hb; clear hb)
    | fail)
  go_ret2
  exact ⟨none, 0, rfl, Nat.le_refl _, Kd.C_nil _ _, below_then (below_alloc (Below.refl _ _) _) (below_alloc (Below.refl _ _) _).size HB2.out⟩
set_option maxHeartbeats 1600000 in
set_option maxRecDepth 100000 in
theorem put_time (now fr : Int) (A : Option Addr) (n c : Nat) (l : List Int) (hn : l.length = n) (hc : n ≤ c) (w : World) (hr : Kd.C (Kd.int .u8) w A l.length l) (hm : mayb 1 now fr l = true) (hb : -9223372036854775808 ≤ now ∧ now ≤ 9223372036854775807) :
    Calls Try.prog 46 #[.agg #[.int .i64 1, .int .i64 now, .int .i64 fr, .slice A n c]] w (PutTold w (putb 1 now fr l) 0) := by
  subst hn
  obtain ⟨W0, hW0⟩ : ∃ W, W = w.alloc (.cells #[.int .i64 1, .int .i64 now, .int .i64 fr, .slice A l.length c] 79) := ⟨_, rfl⟩
  have HM := Aside0.mk (recall_may.calls 1 now fr A c l true W0 (by rw [hW0]; exact Kd.C_alloc hr _) hc (by rw [may_is, hm]))
  have HB0 : Aside0 (Below w.heap.size w W0) := ⟨by rw [hW0]; exact below_alloc (Below.refl _ _) _⟩
  have HX0 : Aside0 (W0.cell? ⟨w.heap.size, 0, none⟩ = some (.int .i64 1)) := ⟨by rw [hW0]; go_simp⟩
  have HX1 : Aside0 (W0.cell? ⟨w.heap.size, 1, none⟩ = some (.int .i64 now)) := ⟨by rw [hW0]; go_simp⟩
  have hs0 : W0.heap.size = w.heap.size + 1 := by rw [hW0]; simp
  have HBND := Aside0.mk hb
  have HQ : Aside0 ([] ++ bes 1 1 ++ bes 8 (if now < 0 then 0 else now) = putb 1 now fr l) := ⟨by unfold putb; rw [if_pos rfl, List.nil_append]; rfl⟩
  have HQL : Aside0 ((putb 1 now fr l).length ≤ 10000000) := ⟨by rw [← HQ.out, List.length_append, List.length_append, bes_len, bes_len]; simp⟩
  obtain ⟨Q, hQ⟩ : ∃ Q, putb 1 now fr l = Q := ⟨_, rfl⟩
  rw [hQ] at HQ HQL ⊢
  clear hQ
  rw [hW0] at HM
  have hu79 := Try.underlying79
  clear hm hr hb
  go_enter Try.func46, Try.ntmps46
  go_wp2_with (first
    | (go_at_call 71; (with_reducible refine HM.out.mono ?_); rintro e w2 ⟨rfl, hb⟩; rw [← hW0] at hb; have x0 := pw_cell_below hb HX0.out; have x1 := pw_cell_below hb HX1.out; have HB2 := Aside0.mk (below_then HB0.out HB0.out.size hb); have hsz := hb.size; have hlt : w.heap.size < w2.heap.size := Nat.lt_of_lt_of_le (Nat.lt_of_lt_of_eq (Nat.lt_succ_self _) hs0.symm) hsz; have y0 := pw_cell_below (below_alloc (Below.refl w2.heap.size w2) (.cells #[.slice none 0 0] 98)) x0; have y1 := pw_cell_below (below_alloc (Below.refl w2.heap.size w2) (.cells #[.slice none 0 0] 98)) x1; clear hb)
    | (go_at_call 58; (with_reducible refine (byte_calls (fun k => k = w2.heap.size) w2.heap.size [] 1 b01 (Nat.zero_le _) w _ (below_alloc HB2.out _) (new_IsW w2 w HB2.out.size)).mono ?_); rintro e w3 ⟨⟨v, rfl⟩, hI, hb, hK⟩; have z1 := cell_kept y1 hK (fun h => Nat.ne_of_lt hlt h); have z0 := cell_kept y0 hK (fun h => Nat.ne_of_lt hlt h); have HI3 := Aside0.mk hI; have HB3 := Aside0.mk hb; clear hI hb hK)
    | (go_at_call 35; (with_reducible refine (int_calls _ w2.heap.size _ now HBND.out (Nat.le_of_ble_eq_true rfl) w w3 HB3.out HI3.out).mono ?_); rintro e w4 ⟨⟨v4, rfl⟩, hI, hb, -⟩; have HI4 := Aside0.mk (HQ.out ▸ hI); have HB4 := Aside0.mk hb; clear hI hb)
    | (go_at_call 38; (with_reducible refine (out_calls _ w2.heap.size w.heap.size Q HQL.out _ HI4.out).mono ?_); rintro e w5 ⟨B, d, rfl, p1, p2, p3⟩; have P1 := Aside0.mk p1; have P2 := Aside0.mk p2; have HB5 := Aside0.mk (below_then HB4.out HB4.out.size p3); clear p1 p2 p3)
    | fail)
  go_ret2
  exact ⟨B, d, rfl, P1.out, P2.out, HB5.out⟩
set_option maxHeartbeats 1600000 in
set_option maxRecDepth 100000 in
theorem put_letter (k now fr : Int) (hk : k = 2) (A : Option Addr) (n c : Nat) (l : List Int) (hn : l.length = n) (hc : n ≤ c) (hl : n ≤ 1000000) (w : World) (hr : Kd.C (Kd.int .u8) w A l.length l) (hm : mayb k now fr l = true) (hb : -9223372036854775808 ≤ fr ∧ fr ≤ 9223372036854775807) :
    Calls Try.prog 46 #[.agg #[.int .i64 k, .int .i64 now, .int .i64 fr, .slice A n c]] w (PutTold w (putb k now fr l) 0) := by
  subst hn hk
  obtain ⟨W0, hW0⟩ : ∃ W, W = w.alloc (.cells #[.int .i64 2, .int .i64 now, .int .i64 fr, .slice A l.length c] 79) := ⟨_, rfl⟩
  have HM := Aside0.mk (recall_may.calls 2 now fr A c l true W0 (by rw [hW0]; exact Kd.C_alloc hr _) hc (by rw [may_is, hm]))
  have HB0 : Aside0 (Below w.heap.size w W0) := ⟨by rw [hW0]; exact below_alloc (Below.refl _ _) _⟩
  have HX0 : Aside0 (W0.cell? ⟨w.heap.size, 0, none⟩ = some (.int .i64 2)) := ⟨by rw [hW0]; go_simp⟩
  have HX2 : Aside0 (W0.cell? ⟨w.heap.size, 2, none⟩ = some (.int .i64 fr)) := ⟨by rw [hW0]; go_simp⟩
  have HX3 : Aside0 (W0.cell? ⟨w.heap.size, 3, none⟩ = some (.slice A l.length c)) := ⟨by rw [hW0]; go_simp⟩
  have hs0 : W0.heap.size = w.heap.size + 1 := by rw [hW0]; simp
  have HBND := Aside0.mk hb
  have HR := Aside0.mk hr
  have HL := Aside0.mk hl
  have HQ : Aside0 ([] ++ bes 1 2 ++ bes 8 (if fr < 0 then 0 else fr) ++ bes 4 (l.length : Int) ++ l = putb 2 now fr l) := ⟨by rw [List.nil_append, List.append_assoc, List.append_assoc]; rfl⟩
  have HQL : Aside0 ((putb 2 now fr l).length ≤ 10000000) := ⟨by rw [← HQ.out, List.length_append, List.length_append, List.length_append, List.length_append, bes_len, bes_len, bes_len]; simp; omega⟩
  have HQ2 : Aside0 (([] ++ bes 1 2 ++ bes 8 (if fr < 0 then 0 else fr) : List Int).length ≤ 1000000) := ⟨by rw [List.length_append, List.length_append, bes_len, bes_len]; simp⟩
  obtain ⟨Q, hQ⟩ : ∃ Q, putb 2 now fr l = Q := ⟨_, rfl⟩
  rw [hQ] at HQ HQL ⊢
  clear hQ
  rw [hW0] at HM
  have hu79 := Try.underlying79
  clear hm hr hb hl
  go_enter Try.func46, Try.ntmps46
  go_wp2_with (first
    | (go_at_call 71; (with_reducible refine HM.out.mono ?_); rintro e w2 ⟨rfl, hb⟩; rw [← hW0] at hb; have x0 := pw_cell_below hb HX0.out; have x2 := pw_cell_below hb HX2.out; have x3 := pw_cell_below hb HX3.out; have HB2 := Aside0.mk (below_then HB0.out HB0.out.size hb); have hsz := hb.size; have hlt : w.heap.size < w2.heap.size := Nat.lt_of_lt_of_le (Nat.lt_of_lt_of_eq (Nat.lt_succ_self _) hs0.symm) hsz; have y0 := pw_cell_below (below_alloc (Below.refl w2.heap.size w2) (.cells #[.slice none 0 0] 98)) x0; have y2 := pw_cell_below (below_alloc (Below.refl w2.heap.size w2) (.cells #[.slice none 0 0] 98)) x2; have y3 := pw_cell_below (below_alloc (Below.refl w2.heap.size w2) (.cells #[.slice none 0 0] 98)) x3; clear hb)
    | (go_at_call 58; (with_reducible refine (byte_calls (fun k => k = w2.heap.size) w2.heap.size [] 2 b02 (Nat.zero_le _) w _ (below_alloc HB2.out _) (new_IsW w2 w HB2.out.size)).mono ?_); rintro e w3 ⟨⟨v, rfl⟩, hI, hb, hK⟩; have z2 := cell_kept y2 hK (fun h => Nat.ne_of_lt hlt h); have z3 := cell_kept y3 hK (fun h => Nat.ne_of_lt hlt h); have z0 := cell_kept y0 hK (fun h => Nat.ne_of_lt hlt h); have HI3 := Aside0.mk hI; have HB3 := Aside0.mk hb; clear hI hb hK)
    | (go_at_call 35; (with_reducible refine (int_calls _ w2.heap.size _ fr HBND.out (Nat.le_of_ble_eq_true rfl) w w3 HB3.out HI3.out).mono ?_); rintro e w4 ⟨⟨v4, rfl⟩, hI, hb, hK⟩; have t3 := cell_kept z3 hK (far_new _ hlt); have HI4 := Aside0.mk hI; have HB4 := Aside0.mk hb; clear hI hb hK)
    | (go_at_call 36; (with_reducible refine (bytes_calls _ w2.heap.size _ A l.length c l rfl HL.out HQ2.out w w4 HR.out HB4.out HI4.out).mono ?_); rintro e w5 ⟨⟨v5, rfl⟩, hI, hb, -⟩; have HI5 := Aside0.mk (HQ.out ▸ hI); have HB5 := Aside0.mk hb; clear hI hb)
    | (go_at_call 38; (with_reducible refine (out_calls _ w2.heap.size w.heap.size Q HQL.out _ HI5.out).mono ?_); rintro e w6 ⟨B, d, rfl, p1, p2, p3⟩; have P1 := Aside0.mk p1; have P2 := Aside0.mk p2; have HB6 := Aside0.mk (below_then HB5.out HB5.out.size p3); clear p1 p2 p3)
    | fail)
  go_ret2
  exact ⟨B, d, rfl, P1.out, P2.out, HB6.out⟩
/-- Put, whole. -/
theorem rput_calls (k now fr : Int) (A : Option Addr) (n c : Nat) (l : List Int) (hn : l.length = n) (hc : n ≤ c) (hl : n ≤ 1000000) (w : World) (hr : Kd.C (Kd.int .u8) w A l.length l) (hbn : -9223372036854775808 ≤ now ∧ now ≤ 9223372036854775807) (hbf : -9223372036854775808 ≤ fr ∧ fr ≤ 9223372036854775807) :
    Calls Try.prog 46 #[.agg #[.int .i64 k, .int .i64 now, .int .i64 fr, .slice A n c]] w (PutTold w (if mayb k now fr l = true then putb k now fr l else []) (if mayb k now fr l = true then 0 else 2)) := by
  by_cases hm : mayb k now fr l = true
  · rw [if_pos hm, if_pos hm]
    have hk : k = 1 ∨ k = 2 := by
      have := of_decide_eq_true hm
      omega
    rcases hk with hk | hk
    · subst hk; exact put_time now fr A n c l hn hc w hr hm hbn
    · exact put_letter k now fr hk A n c l hn hc hl w hr hm hbf
  · rw [if_neg hm, if_neg hm]
    exact put_no k now fr A n c l hn hc w hr (by simpa using hm)
end Go.Proofs.Ytlngkcaaenpnaaa.Wire
