/- wire: the chapter's example; the first statement. -/
import Derived.Test.YtlngkcaaenpnaaaWireD
import Derived.Test.YtlngkcaaenpnaaaRdC
import Derived.Test.YtlngkcaaenpnaaaOpen
namespace Go.Proofs.Ytlngkcaaenpnaaa.Wire
set_option linter.unusedVariables false
set_option linter.unusedSimpArgs false
open Go.RowKit Go.Proofs.Ytlngkcaaenpnaaa.Num Go.Proofs.Ytlngkcaaenpnaaa.PWi Go.Proofs.YtlngkcaaenpnaaaW Go.Proofs.YtlngkcaaenpnaaaW.PrintWords Go.Proofs.YtlngkcaaenpnaaaW.PrintLast Go.Proofs.YtlngkcaaenpnaaaW.PrintMore

def ex8 : List Int := [0, 0, 0, 0, 0, 0, 1, 2]
theorem ex8_bes : ([] : List Int) ++ bes 8 (if (258 : Int) < 0 then 0 else 258) = ex8 := by decide
theorem ex8_step : step 8 9223372036854775807 ex8 0 (-1) = (258, 8, -1) := by decide
theorem ex8_by : By ex8 := fun x hx => by
  simp only [ex8, List.mem_cons, List.not_mem_nil, or_false] at hx
  omega
theorem ex8_len : ex8.length = 8 := rfl
theorem ex8_out (g : Nat) (w0 w : World) (P : Nat → Prop) (hW : IsW P w w0.heap.size g ex8) (hB : Below w0.heap.size w0 w) : Calls Try.prog 38 #[.pointer (some ⟨g, 0, none⟩)] w (fun e w' => ∃ ad c, e = .returned (.slice (some ad) 8 c) ∧ 8 ≤ c ∧ Kd.C (Kd.int .u8) w' (some ad) ex8.length ex8 ∧ Below w0.heap.size w0 w' ∧ w'.cell? ⟨ad.block, ad.off + 5, none⟩ = some (.int .u8 0) ∧ w'.cell? ⟨ad.block, ad.off + 6, none⟩ = some (.int .u8 1) ∧ w'.cell? ⟨ad.block, ad.off + 7, none⟩ = some (.int .u8 2)) := by
  refine (out_calls P g w0.heap.size ex8 (by decide) w hW).mono ?_
  rintro e w2 ⟨A, c, rfl, h1, h2, h3⟩
  obtain ⟨ad, e, c5⟩ := Kd.at_int h2 5 (by omega) (by decide)
  obtain ⟨ad6, e6, c6⟩ := Kd.at_int h2 6 (by omega) (by decide)
  obtain ⟨ad7, e7, c7⟩ := Kd.at_int h2 7 (by omega) (by decide)
  subst e; cases e6; cases e7
  exact ⟨ad, c, rfl, h1, h2, below_then hB hB.size h3, c5, c6, c7⟩
set_option maxHeartbeats 1600000 in
set_option maxRecDepth 100000 in
theorem awake_calls (w : World) : Calls Try.prog 32 #[] w fun e w' => e = .returned (.bool true) ∧ Below w.heap.size w w' := by
  have HI := Aside0.mk (int_calls (fun k => k = w.heap.size) w.heap.size [] 258 (by omega) (by simp) w (w.alloc (.cells #[.slice none 0 0] 98)) (below_alloc (Below.refl _ _) _) (new_IsW w w (Nat.le_refl _)))
  rw [ex8_bes] at HI
  go_enter Try.func32, Try.ntmps32
  go_wp2_with (first
    | (go_at_call 35; (with_reducible refine HI.out.mono ?_); rintro e w1 ⟨⟨v, rfl⟩, hI, hB1, -⟩; have HI1 := Aside0.mk hI; have HB1 := Aside0.mk hB1; clear hI hB1)
    | (go_at_call 38; (with_reducible refine (ex8_out w.heap.size w _ _ HI1.out HB1.out).mono ?_); rintro e w2 ⟨ad, c, rfl, h1, h2, h3, c5, c6, c7⟩; have H1 := Aside0.mk h1; have H2 := Aside0.mk h2; have HB2 := Aside0.mk h3; clear h2 h3)
    | (go_at_call 39; (with_reducible refine (read_calls (.bool true) _ 8 c _ _ (Below.refl _ _)).mono ?_); rintro e w3 ⟨rfl, hR, hb1, -⟩; have HR3 := Aside0.mk hR; have HB3 := Aside0.mk hb1; replace c5 := pw_cell_below hb1 c5; replace c6 := pw_cell_below hb1 c6; replace c7 := pw_cell_below hb1 c7; clear hR hb1)
    | (go_at_call 41; (with_reducible refine (int_step w2.heap.size (some ad) 8 c 0 (-1) (by omega) H1.out (by omega) ex8 rfl ex8_by w2 _ H2.out HB3.out (Nat.le_refl _) HR3.out).mono ?_); rw [ex8_step]; rintro e w4 ⟨rfl, hR, hb1, -⟩; have HR4 := Aside0.mk hR; have HB4 := Aside0.mk hb1; clear hR hb1)
    | (go_at_call 57; (with_reducible refine (bad_calls w2.heap.size (some ad) 8 c 8 (-1) _ HR4.out).mono ?_); rintro e w5 ⟨rfl, rfl⟩)
    | fail)
  go_ret
  exact ⟨rfl, below_then HB2.out HB2.out.size HB4.out⟩
theorem flds_cons (x : S69) (l : List S69) : flds (x :: l) = fld x ++ flds l := by simp [flds]
theorem flds_len (l : List S69) (h : ∀ x ∈ l, x.f2.length ≤ 500) : (flds l).length ≤ l.length * 508 := by
  induction l with
  | nil => simp [flds]
  | cons x l ih =>
    have h1 := ih (fun y hy => h y (List.mem_cons_of_mem _ hy))
    have h2 := fld_len x
    have h3 := h x List.mem_cons_self
    rw [flds_cons, List.length_append, List.length_cons]
    omega
theorem small_go (l : List S69) (hl : l.length ≤ maxLen) : ∀ r i : Nat, i + r = l.length → Ev (fun k => cleromancylaw22_small.l0 k l l (l.length : Int) (i : Int)) (decide ((∀ x ∈ l.drop i, x.f2.length ≤ 500) ∧ l.length ≤ 50))
  | 0, i, h => by
    have hi : i = l.length := by omega
    subst hi
    refine ⟨1, fun k hk => ?_⟩
    obtain ⟨k, rfl⟩ : ∃ j, k = j + 1 := ⟨k - 1, by omega⟩
    show cleromancylaw22_small.l0 (k + 1) l l (l.length : Int) (l.length : Int) = _
    rw [cleromancylaw22_small.l0, if_neg (by omega), List.drop_length]
    congr 1
    apply decide_eq_decide.2
    constructor
    · intro h; exact ⟨fun x hx => by simp at hx, by omega⟩
    · intro h; omega
  | r + 1, i, h => by
    unfold maxLen at hl
    have ih := small_go l (by unfold maxLen; omega) r (i + 1) (by omega)
    have hd : l.drop i = l[i] :: l.drop (i + 1) := List.drop_eq_getElem_cons (by omega)
    have hrd : rd_T69 l (i : Int) = l[i] := by simp only [rd_T69, Int.toNat_natCast, List.getD_eq_getElem?_getD, List.getElem?_eq_getElem (show i < l.length by omega), Option.getD_some]
    by_cases hb : ((rd_T69 l (i : Int)).f2.length : Int) > 500
    · refine ⟨1, fun k hk => ?_⟩
      obtain ⟨k, rfl⟩ : ∃ j, k = j + 1 := ⟨k - 1, by omega⟩
      show cleromancylaw22_small.l0 (k + 1) l l (l.length : Int) (i : Int) = _
      rw [cleromancylaw22_small.l0, if_pos (by omega), if_pos (by omega), if_pos (by omega), if_pos hb]
      congr 1
      symm
      apply decide_eq_false
      rintro ⟨h1, _⟩
      have := h1 l[i] (by rw [hd]; exact List.mem_cons_self)
      rw [hrd] at hb
      omega
    · obtain ⟨K, hK⟩ := ih
      refine ⟨K + 1, fun k hk => ?_⟩
      obtain ⟨k, rfl⟩ : ∃ j, k = j + 1 := ⟨k - 1, by omega⟩
      have hk : cleromancylaw22_small.l0 k l l (l.length : Int) ((i + 1 : Nat) : Int) = _ := hK k (by omega)
      show cleromancylaw22_small.l0 (k + 1) l l (l.length : Int) (i : Int) = _
      rw [cleromancylaw22_small.l0, if_pos (by omega), if_pos (by omega), if_pos (by omega), if_neg hb, w64 _ (by omega) (by omega), show ((i : Int) + 1) = ((i + 1 : Nat) : Int) from by omega, hk]
      congr 1
      apply decide_eq_decide.2
      rw [hd, List.forall_mem_cons]
      rw [hrd] at hb
      constructor
      · rintro ⟨h1, h2⟩; exact ⟨⟨by omega, h1⟩, h2⟩
      · rintro ⟨⟨_, h1⟩, h2⟩; exact ⟨h1, h2⟩
theorem small_ev (l : List S69) (hl : l.length ≤ maxLen) : Ev (fun k => cleromancylaw22_small.f k l) (decide ((∀ x ∈ l, x.f2.length ≤ 500) ∧ l.length ≤ 50)) := by
  have := small_go l hl l.length 0 (by omega)
  exact this
set_option maxHeartbeats 1600000 in
set_option maxRecDepth 100000 in
theorem writes_calls (A0 : Option Addr) (c0 : Nat) (l0 : List S69) (w : World) (hr0 : Kd.C k69 w A0 l0.length l0) (hc0 : l0.length ≤ c0) (hm : l0.length ≤ maxLen) (hwf : ∀ x ∈ l0, -9223372036854775808 ≤ x.f1 ∧ x.f1 ≤ 9223372036854775807) :
    Calls Try.prog 7 #[.slice A0 l0.length c0] w fun e w' => e = .returned (.bool true) ∧ Below w.heap.size w w' := by
  obtain ⟨k, hk⟩ := (small_ev l0 hm).rounds
  have HK := Aside0.mk hk
  have HR := Aside0.mk hr0
  have HC0 := Aside0.mk hc0
  have HWF := Aside0.mk hwf
  clear hk hr0 hc0 hm hwf
  by_cases hs : (∀ x ∈ l0, x.f2.length ≤ 500) ∧ l0.length ≤ 50
  · rw [decide_eq_true hs] at HK
    have HS := Aside0.mk hs
    clear hs
    go_enter Try.func7, Try.ntmps7
    go_wp2_with (first
      | (go_at_call 32; (with_reducible refine (awake_calls _).mono ?_); rintro e w1 ⟨rfl, hb⟩; have HB1 := Aside0.mk hb; clear hb)
      | (go_at_call 33; (with_reducible refine (cleromancylaw22_small.calls k A0 c0 l0 true _ (Kd.C_below HR.out HB1.out) HC0.out HK.out).mono ?_); rintro e w2 ⟨rfl, hb⟩; have HB2 := Aside0.mk (below_then HB1.out HB1.out.size hb); clear hb)
      | (go_at_call 34; (with_reducible refine (written_calls A0 c0 l0 _ (Kd.C_below HR.out HB2.out) HS.out.2 HS.out.1 HWF.out).mono ?_); rintro e w3 ⟨A, c, B, d, rfl, h1, h2, h3, h4, hb⟩; have H1 := Aside0.mk h1; have H2 := Aside0.mk h2; have H3 := Aside0.mk h3; have H4 := Aside0.mk h4; have HB3 := Aside0.mk (below_then HB2.out HB2.out.size hb); clear h1 h2 h3 h4 hb)
      | (go_at_call 35; (with_reducible refine (int_nil _ _).mono ?_); rintro e w4 ⟨⟨v, rfl⟩, rfl⟩)
      | (go_at_call 36; (with_reducible refine (bytes_nil _ _).mono ?_); rintro e w5 ⟨⟨v2, rfl⟩, rfl⟩)
      | (go_at_call 37; (with_reducible refine (bsame_calls A _ c (flds l0) rfl B _ d (flds l0) rfl _ H3.out H1.out H4.out H2.out (by have := flds_len l0 HS.out.1; have := HS.out.2; omega)).mono ?_); rintro e w6 ⟨rfl, hb⟩; have HB6 := Aside0.mk (below_then HB3.out HB3.out.size hb); clear hb; simp only [decide_true])
      | (go_at_call 38; (with_reducible refine (out_nil _).mono ?_); rintro e w7 ⟨rfl, rfl⟩)
      | fail)
    go_ret
    exact ⟨rfl, HB6.out⟩
  · rw [decide_eq_false hs] at HK
    clear hs
    go_enter Try.func7, Try.ntmps7
    go_wp2_with (first
      | (go_at_call 32; (with_reducible refine (awake_calls _).mono ?_); rintro e w1 ⟨rfl, hb⟩; have HB1 := Aside0.mk hb; clear hb)
      | (go_at_call 33; (with_reducible refine (cleromancylaw22_small.calls k A0 c0 l0 false _ (Kd.C_below HR.out HB1.out) HC0.out HK.out).mono ?_); rintro e w2 ⟨rfl, hb⟩; have HB2 := Aside0.mk (below_then HB1.out HB1.out.size hb); clear hb)
      | fail)
    go_ret
    exact ⟨rfl, HB2.out⟩
/-- What a field that comes in is. -/
def Ok69 (x : S69) : Prop := (-9223372036854775808 ≤ x.f0 ∧ x.f0 ≤ 9223372036854775807) ∧ (-9223372036854775808 ≤ x.f1 ∧ x.f1 ≤ 9223372036854775807) ∧ By x.f2 ∧ (-9223372036854775808 ≤ x.f3 ∧ x.f3 ≤ 9223372036854775807) ∧ (-9223372036854775808 ≤ x.f4 ∧ x.f4 ≤ 9223372036854775807)
theorem wf64 {n : Int} (h : (Lit.int .i64 n).wf = true) : -9223372036854775808 ≤ n ∧ n ≤ 9223372036854775807 := by
  have h2 : IntKind.i64.min ≤ n ∧ n ≤ IntKind.i64.max := by simpa [Lit.wf] using h
  exact h2
theorem wf8 {n : Int} (h : (Lit.int .u8 n).wf = true) : 0 ≤ n ∧ n < 256 := by
  have h2 : IntKind.u8.min ≤ n ∧ n ≤ IntKind.u8.max := by simpa [Lit.wf] using h
  have h3 : (0 : Int) ≤ n ∧ n ≤ 255 := h2
  omega
open Go.Proofs.Ytlngkcaaenpnaaa.Opn in
theorem open_fields {H : Type} {enc : TypeId × Value → H} {W : World} {fuel : Nat} {a : Option Addr} {len cap : Nat} {x : DataW H × List MemPlace} (h : DataW.trod enc Try.prog W 0 (fun _ => true) true fuel 59 [.slice a len cap] = some x) :
    ∃ l : List S69, l.length = len ∧ len ≤ cap ∧ len ≤ maxLen ∧ Kd.C k69 W a l.length l ∧ ∀ x ∈ l, Ok69 x := by
  have h69 : Opens enc Try.prog W 0 (fun _ => true) true 69 k69 Ok69 := by
    refine Opens.mono (opens_iso (fun x : S69 => (x.f0, x.f1, x.f2, x.f3, x.f4)) (fun a => ⟨a.1, a.2.1, a.2.2.1, a.2.2.2.1, a.2.2.2.2⟩) (fun _ => rfl) (opens_struct Try.underlying69 (by kernel_rfl)
      (opensF_cons rfl (by kernel_rfl) (opens_int Try.underlying3) (opensF_cons rfl (by kernel_rfl) (opens_int Try.underlying3) (opensF_cons rfl (by kernel_rfl) (opens_slice 5 Try.underlying41 (by kernel_rfl) (opens_int Try.underlying5)) (opensF_cons rfl (by kernel_rfl) (opens_int Try.underlying3) (opensF_last rfl (by kernel_rfl) (opens_int Try.underlying3)))))))) fun x hx => ?_
    obtain ⟨h0, h1, h2, h3, h4⟩ := hx
    exact ⟨wf64 h0, wf64 h1, fun y hy => wf8 (h2.2 y hy), wf64 h3, wf64 h4⟩
  exact opens_row 69 Try.underlying59 (by kernel_rfl) h69 h
theorem writes_walk (A0 : Option Addr) (c0 : Nat) (l0 : List S69) (w : World) (hr0 : Kd.C k69 w A0 l0.length l0) (hc0 : l0.length ≤ c0) (hm : l0.length ≤ maxLen) (hwf : ∀ x ∈ l0, Ok69 x) :
    Calls Try.prog 7 #[.slice A0 l0.length c0] w fun e w' => e = .returned (.bool true) ∧ Below w.heap.size w w' := writes_calls A0 c0 l0 w hr0 hc0 hm (fun x hx => (hwf x hx).2.1)
end Go.Proofs.Ytlngkcaaenpnaaa.Wire
