/- recall: Take and the document's Read, whole; what is the same; the chapter's example. -/
import Derived.Test.YtlngkcaaenpnaaaRcD
namespace Go.Proofs.Ytlngkcaaenpnaaa.Wire
set_option linter.unusedVariables false
set_option linter.unusedSimpArgs false
open Go.RowKit Go.Proofs.Ytlngkcaaenpnaaa.Num Go.Proofs.Ytlngkcaaenpnaaa.PWi Go.Proofs.YtlngkcaaenpnaaaW Go.Proofs.YtlngkcaaenpnaaaW.PrintWords Go.Proofs.YtlngkcaaenpnaaaW.PrintLast Go.Proofs.YtlngkcaaenpnaaaW.PrintMore

/-- Where the bytes of an event are wrong, or -1. -/
def rdq (l : List Int) : Int := qfin l.length (rdev l).2.1 (rdev l).2.2
theorem fin_q (n a : Nat) (b : Int) : (0 ≤ qfin n a b → fin n a b = (qfin n a b, 20)) ∧ (qfin n a b < 0 → fin n a b = (0, 0)) := by
  unfold fin qfin
  constructor
  · intro h
    by_cases h1 : 0 ≤ b
    · rw [if_pos h1, if_pos h1]
    · rw [if_neg h1] at h
      rw [if_neg h1, if_neg h1]
      by_cases h2 : a < n
      · rw [if_pos h2, if_pos h2]
      · rw [if_neg h2] at h; omega
  · intro h
    by_cases h1 : 0 ≤ b
    · rw [if_pos h1] at h; omega
    · rw [if_neg h1] at h
      rw [if_neg h1]
      by_cases h2 : a < n
      · rw [if_pos h2] at h; omega
      · rw [if_neg h2]
theorem step_byte (l : List Int) (hby : By l) (at_ : Nat) (bad : Int) : 0 ≤ (step 1 255 l at_ bad).1 ∧ (step 1 255 l at_ bad).1 ≤ 255 := by
  unfold step
  split
  · omega
  · split
    · omega
    · split
      · omega
      · show 0 ≤ ((bv _ : Nat) : Int) ∧ ((bv _ : Nat) : Int) ≤ 255
        omega
theorem qtake_calls (A : Option Addr) (n c : Nat) (hn : n ≤ 1000000) (hc : n ≤ c) (l : List Int) (hl : l.length = n) (hby : By l) (w : World) (hr : Kd.C (Kd.int .u8) w A l.length l) :
    Calls Try.prog 50 #[.slice A n c] w (ReadTold w (rdev l).1.1 (rdev l).1.2.1 (rdev l).1.2.2.1 (rdev l).1.2.2.2 (rdq l)) := by
  have hkb := step_byte l hby 0 (-1)
  unfold rdq rdev
  obtain ⟨⟨k, at2, bad2⟩, hs1⟩ : ∃ r, step 1 255 l 0 (-1) = r := ⟨_, rfl⟩
  rw [hs1] at hkb ⊢
  by_cases h1 : k = 1
  · subst h1
    rw [if_pos rfl]
    obtain ⟨⟨x3, at3, bad3⟩, hs2⟩ : ∃ r, step 8 9223372036854775807 l at2 bad2 = r := ⟨_, rfl⟩
    rw [hs2]
    exact qtake_1 A n c hn hc l hl hby w hr x3 at2 at3 bad2 bad3 _ hs1 hs2 rfl
  · rw [if_neg h1]
    by_cases h2 : k = 2
    · subst h2
      rw [if_pos rfl]
      obtain ⟨⟨x3, at3, bad3⟩, hs2⟩ : ∃ r, step 8 9223372036854775807 l at2 bad2 = r := ⟨_, rfl⟩
      rw [hs2]
      obtain ⟨⟨bs, at4, bad4⟩, hs3⟩ : ∃ r, bstep 0 1048576 l at3 bad3 = r := ⟨_, rfl⟩
      show Calls _ _ _ _ (ReadTold w 2 0 x3 (bstep 0 1048576 l at3 bad3).1 (qfin l.length (bstep 0 1048576 l at3 bad3).2.1 (bstep 0 1048576 l at3 bad3).2.2))
      rw [hs3]
      exact qtake_2 A n c hn hc l hl hby w hr x3 bs at2 at3 at4 bad2 bad3 bad4 _ hs1 hs2 hs3 rfl
    · rw [if_neg h2]
      exact qtake_0 A n c hn hc l hl hby w hr k at2 bad2 _ hs1 h1 h2 hkb rfl
theorem rtake_bad (A : Option Addr) (n c : Nat) (hn : n ≤ 1000000) (hc : n ≤ c) (l : List Int) (hl : l.length = n) (hby : By l) (w : World) (hr : Kd.C (Kd.int .u8) w A l.length l) (hq : 0 ≤ rdq l) :
    Calls Try.prog 49 #[.slice A n c] w (TakeTold w 0 0 0 [] (rdq l) 20) := by
  have hkb := step_byte l hby 0 (-1)
  revert hq
  unfold rdq rdev
  obtain ⟨⟨k, at2, bad2⟩, hs1⟩ : ∃ r, step 1 255 l 0 (-1) = r := ⟨_, rfl⟩
  rw [hs1] at hkb ⊢
  by_cases h1 : k = 1
  · subst h1
    rw [if_pos rfl]
    obtain ⟨⟨x3, at3, bad3⟩, hs2⟩ : ∃ r, step 8 9223372036854775807 l at2 bad2 = r := ⟨_, rfl⟩
    rw [hs2]
    intro hq
    exact take_1_bad A n c hn hc l hl hby w hr x3 at2 at3 bad2 bad3 _ hs1 hs2 ((fin_q _ _ _).1 hq)
  · rw [if_neg h1]
    by_cases h2 : k = 2
    · subst h2
      rw [if_pos rfl]
      obtain ⟨⟨x3, at3, bad3⟩, hs2⟩ : ∃ r, step 8 9223372036854775807 l at2 bad2 = r := ⟨_, rfl⟩
      rw [hs2]
      obtain ⟨⟨bs, at4, bad4⟩, hs3⟩ : ∃ r, bstep 0 1048576 l at3 bad3 = r := ⟨_, rfl⟩
      dsimp only
      rw [hs3]
      intro hq
      exact take_2_bad A n c hn hc l hl hby w hr x3 bs at2 at3 at4 bad2 bad3 bad4 _ hs1 hs2 hs3 ((fin_q _ _ _).1 hq)
    · rw [if_neg h2]
      intro hq
      exact take_0_bad A n c hn hc l hl hby w hr k at2 bad2 _ hs1 h1 h2 hkb ((fin_q _ _ _).1 hq)
theorem rtake_no (A : Option Addr) (n c : Nat) (hn : n ≤ 1000000) (hc : n ≤ c) (l : List Int) (hl : l.length = n) (hby : By l) (w : World) (hr : Kd.C (Kd.int .u8) w A l.length l) (hq : rdq l < 0) (hm : mayb (rdev l).1.1 (rdev l).1.2.1 (rdev l).1.2.2.1 (rdev l).1.2.2.2 = false) :
    Calls Try.prog 49 #[.slice A n c] w (TakeTold w 0 0 0 [] 0 2) := by
  have hkb := step_byte l hby 0 (-1)
  revert hq hm
  unfold rdq rdev
  obtain ⟨⟨k, at2, bad2⟩, hs1⟩ : ∃ r, step 1 255 l 0 (-1) = r := ⟨_, rfl⟩
  rw [hs1] at hkb ⊢
  by_cases h1 : k = 1
  · subst h1
    rw [if_pos rfl]
    obtain ⟨⟨x3, at3, bad3⟩, hs2⟩ : ∃ r, step 8 9223372036854775807 l at2 bad2 = r := ⟨_, rfl⟩
    rw [hs2]
    intro hq hm
    exact take_1_no A n c hn hc l hl hby w hr x3 at2 at3 bad2 bad3 hs1 hs2 ((fin_q _ _ _).2 hq) hm
  · rw [if_neg h1]
    by_cases h2 : k = 2
    · subst h2
      rw [if_pos rfl]
      obtain ⟨⟨x3, at3, bad3⟩, hs2⟩ : ∃ r, step 8 9223372036854775807 l at2 bad2 = r := ⟨_, rfl⟩
      rw [hs2]
      obtain ⟨⟨bs, at4, bad4⟩, hs3⟩ : ∃ r, bstep 0 1048576 l at3 bad3 = r := ⟨_, rfl⟩
      dsimp only
      rw [hs3]
      intro hq hm
      exact take_2_no A n c hn hc l hl hby w hr x3 bs at2 at3 at4 bad2 bad3 bad4 hs1 hs2 hs3 ((fin_q _ _ _).2 hq) hm
    · rw [if_neg h2]
      intro hq hm
      exact take_0_no A n c hn hc l hl hby w hr k at2 bad2 hs1 h1 h2 hkb ((fin_q _ _ _).2 hq) hm
theorem rtake_ok (A : Option Addr) (n c : Nat) (hn : n ≤ 1000000) (hc : n ≤ c) (l : List Int) (hl : l.length = n) (hby : By l) (w : World) (hr : Kd.C (Kd.int .u8) w A l.length l) (hq : rdq l < 0) (hm : mayb (rdev l).1.1 (rdev l).1.2.1 (rdev l).1.2.2.1 (rdev l).1.2.2.2 = true) :
    Calls Try.prog 49 #[.slice A n c] w (TakeTold w (rdev l).1.1 (rdev l).1.2.1 (rdev l).1.2.2.1 (rdev l).1.2.2.2 0 0) := by
  have hkb := step_byte l hby 0 (-1)
  revert hq hm
  unfold rdq rdev
  obtain ⟨⟨k, at2, bad2⟩, hs1⟩ : ∃ r, step 1 255 l 0 (-1) = r := ⟨_, rfl⟩
  rw [hs1] at hkb ⊢
  by_cases h1 : k = 1
  · subst h1
    rw [if_pos rfl]
    obtain ⟨⟨x3, at3, bad3⟩, hs2⟩ : ∃ r, step 8 9223372036854775807 l at2 bad2 = r := ⟨_, rfl⟩
    rw [hs2]
    intro hq hm
    exact take_1_ok A n c hn hc l hl hby w hr x3 at2 at3 bad2 bad3 hs1 hs2 ((fin_q _ _ _).2 hq) hm
  · rw [if_neg h1]
    by_cases h2 : k = 2
    · subst h2
      rw [if_pos rfl]
      obtain ⟨⟨x3, at3, bad3⟩, hs2⟩ : ∃ r, step 8 9223372036854775807 l at2 bad2 = r := ⟨_, rfl⟩
      rw [hs2]
      obtain ⟨⟨bs, at4, bad4⟩, hs3⟩ : ∃ r, bstep 0 1048576 l at3 bad3 = r := ⟨_, rfl⟩
      dsimp only
      rw [hs3]
      intro hq hm
      exact take_2_ok A n c hn hc l hl hby w hr x3 bs at2 at3 at4 bad2 bad3 bad4 hs1 hs2 hs3 ((fin_q _ _ _).2 hq) hm
    · rw [if_neg h2]
      intro hq hm
      exact take_0_ok A n c hn hc l hl hby w hr k at2 bad2 hs1 h1 h2 hkb ((fin_q _ _ _).2 hq) hm
theorem esame_ev (k n f : Int) (l : List Int) (k' n' f' : Int) (l' : List Int) (hl : l.length ≤ 1000000) : Ev (fun j => cleromancyref32_Same.f j k n f l k' n' f' l') (decide (k = k' ∧ n = n' ∧ f = f' ∧ l = l')) := by
  obtain ⟨K, hK⟩ := same_ev l l' hl
  refine ⟨K, fun j hj => ?_⟩
  show cleromancyref32_Same.f j k n f l k' n' f' l' = _
  have h := hK j hj
  have h' : cleromancyref01_Same.f j l l' = some (decide (l = l')) := h
  unfold cleromancyref32_Same.f
  by_cases h1 : k = k'
  · rw [if_pos h1]
    by_cases h2 : n = n'
    · rw [if_pos h2]
      by_cases h3 : f = f'
      · rw [if_pos h3, h']
        simp only [Option.bind_some]
        congr 1
        exact decide_eq_decide.2 ⟨fun h => ⟨h1, h2, h3, h⟩, fun h => h.2.2.2⟩
      · rw [if_neg h3, decide_eq_false (fun h => h3 h.2.2.1)]
    · rw [if_neg h2, decide_eq_false (fun h => h2 h.2.1)]
  · rw [if_neg h1, decide_eq_false (fun h => h1 h.1)]
theorem esame_calls (k n f : Int) (A : Option Addr) (m c : Nat) (l : List Int) (hl : l.length = m) (k' n' f' : Int) (A' : Option Addr) (m' c' : Nat) (l' : List Int) (hl' : l'.length = m') (hb : m ≤ 1000000) (w : World)
    (hr : Kd.C (Kd.int .u8) w A l.length l) (hc : m ≤ c) (hr' : Kd.C (Kd.int .u8) w A' l'.length l') (hc' : m' ≤ c') :
    Calls Try.prog 51 #[.agg #[.int .i64 k, .int .i64 n, .int .i64 f, .slice A m c], .agg #[.int .i64 k', .int .i64 n', .int .i64 f', .slice A' m' c']] w fun e w' => e = .returned (.bool (decide (k = k' ∧ n = n' ∧ f = f' ∧ l = l'))) ∧ Below w.heap.size w w' := by
  subst hl hl'
  obtain ⟨K, hK⟩ := esame_ev k n f l k' n' f' l' hb
  exact cleromancyref32_Same.calls K k n f A c l k' n' f' A' c' l' _ w hr hc hr' hc' (hK K (Nat.le_refl _))
theorem refput_calls (k now fr : Int) (A : Option Addr) (n c : Nat) (l : List Int) (hn : l.length = n) (hc : n ≤ c) (hl : n ≤ 1000000) (w : World) (hr : Kd.C (Kd.int .u8) w A l.length l) (hbn : -9223372036854775808 ≤ now ∧ now ≤ 9223372036854775807) (hbf : -9223372036854775808 ≤ fr ∧ fr ≤ 9223372036854775807) :
    Calls Try.prog 48 #[.agg #[.int .i64 k, .int .i64 now, .int .i64 fr, .slice A n c]] w (Copy w (putb k now fr l)) := by
  subst hn
  obtain ⟨K, hK⟩ := refput_ev k now fr l hbn hbf hl
  exact (cleromancyref32_Put.calls K k now fr A c l _ w hr hc (hK K (Nat.le_refl _))).mono fun e w' h => Copy.of h
def ex9 : List Int := [1, 0, 0, 0, 0, 0, 0, 0, 1]
theorem ex9_put : putb 1 1 0 [] = ex9 := by decide
theorem ex9_may : mayb 1 1 0 [] = true := by decide
set_option maxHeartbeats 1600000 in
set_option maxRecDepth 100000 in
theorem recall_awake_calls (w : World) : Calls Try.prog 45 #[] w fun e w' => e = .returned (.bool true) ∧ Below w.heap.size w w' := by
  have hp : Calls Try.prog 46 #[.agg #[.int .i64 1, .int .i64 1, .int .i64 0, .slice none 0 0]] w (fun e w' => ∃ ad c, e = .returned (.tuple #[.slice (some ad) 9 c, .int .i64 0]) ∧ 9 ≤ c ∧ w'.cell? ad = some (.int .u8 1) ∧ w'.cell? ⟨ad.block, ad.off + 8, none⟩ = some (.int .u8 1) ∧ Below w.heap.size w w') := by
    refine (rput_calls 1 1 0 none 0 0 [] rfl (Nat.le_refl _) (by omega) w (Kd.C_nil _ _) (by omega) (by omega)).mono ?_
    rw [if_pos ex9_may, if_pos ex9_may, ex9_put]
    rintro e w' ⟨B, d, rfl, h1, h2, h3⟩
    obtain ⟨ad, e, c0⟩ := Kd.at_int h2 0 (by omega) (by decide)
    obtain ⟨ad8, e8, c8⟩ := Kd.at_int h2 8 (by omega) (by decide)
    subst e; cases e8
    rw [show rd ex9 0 = 1 from by decide] at c0
    exact ⟨ad, d, rfl, h1, by simpa [Addr.add] using c0, c8, h3⟩
  have HP := Aside0.mk hp
  clear hp
  have hu79 := Try.underlying79
  go_enter Try.func45, Try.ntmps45
  go_wp2_with (first
    | (go_at_call 46; (with_reducible refine HP.out.mono ?_); rintro e w1 ⟨ad, c, rfl, h9, c0, c8, hb⟩; have HB1 := Aside0.mk hb; clear hb)
    | fail)
  go_ret
  exact ⟨rfl, HB1.out⟩
end Go.Proofs.Ytlngkcaaenpnaaa.Wire
