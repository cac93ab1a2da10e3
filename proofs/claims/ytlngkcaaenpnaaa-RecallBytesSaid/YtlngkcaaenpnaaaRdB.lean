/- wire: the reader, step by step; its bytes; its end. -/
import Derived.Test.YtlngkcaaenpnaaaRdA
import Derived.StillTailTactics
namespace Go.Proofs.Ytlngkcaaenpnaaa.Wire
set_option linter.unusedVariables false
set_option linter.unusedSimpArgs false
open Go.RowKit Go.Proofs.Ytlngkcaaenpnaaa.Num Go.Proofs.Ytlngkcaaenpnaaa.PWi Go.Proofs.YtlngkcaaenpnaaaW Go.Proofs.YtlngkcaaenpnaaaW.PrintWords Go.Proofs.YtlngkcaaenpnaaaW.PrintLast Go.Proofs.YtlngkcaaenpnaaaW.PrintMore

/-- One number of so many bytes, up to a limit: what is told, the place, the fault. -/
def step (N : Nat) (lim : Int) (l : List Int) (at_ : Nat) (bad : Int) : Int × Nat × Int :=
  if 0 ≤ bad then (0, at_, bad) else if l.length < at_ + N then (0, at_, (at_ : Int)) else if lim < (bv ((l.drop at_).take N) : Int) then (0, at_, (at_ : Int)) else ((bv ((l.drop at_).take N) : Int), at_ + N, bad)
theorem step_bad {N : Nat} {lim : Int} {l : List Int} {at_ : Nat} {bad : Int} (h : 0 ≤ bad) : step N lim l at_ bad = (0, at_, bad) := by rw [step, if_pos h]
theorem step_short {N : Nat} {lim : Int} {l : List Int} {at_ : Nat} {bad : Int} (h : bad < 0) (hs : l.length < at_ + N) : step N lim l at_ bad = (0, at_, (at_ : Int)) := by rw [step, if_neg (by omega), if_pos hs]
theorem step_big {N : Nat} {lim : Int} {l : List Int} {at_ : Nat} {bad : Int} (h : bad < 0) (hs : at_ + N ≤ l.length) (hl : lim < (bv ((l.drop at_).take N) : Int)) : step N lim l at_ bad = (0, at_, (at_ : Int)) := by
  rw [step, if_neg (by omega), if_neg (by omega), if_pos hl]
theorem step_ok {N : Nat} {lim : Int} {l : List Int} {at_ : Nat} {bad : Int} (h : bad < 0) (hs : at_ + N ≤ l.length) (hl : (bv ((l.drop at_).take N) : Int) ≤ lim) : step N lim l at_ bad = ((bv ((l.drop at_).take N) : Int), at_ + N, bad) := by
  rw [step, if_neg (by omega), if_neg (by omega), if_neg (by omega)]
theorem step_at {N : Nat} {lim : Int} {l : List Int} {at_ : Nat} {bad : Int} (h : at_ ≤ l.length) : (step N lim l at_ bad).2.1 ≤ l.length := by
  unfold step
  split
  · exact h
  · split
    · exact h
    · split
      · exact h
      · show at_ + N ≤ l.length
        omega
theorem bv_one (l : List Int) (i : Nat) (h : i < l.length) (hb : By l) : (bv ((l.drop i).take 1) : Int) = rd l (i : Int) := by
  rw [drop_rd l i h, List.take_succ_cons, List.take_zero]
  have := hb.rd (i : Int)
  show ((256 * 0 + (rd l (i : Int)).toNat : Nat) : Int) = _
  omega
theorem byte_step (g : Nat) (A : Option Addr) (n c at_ : Nat) (bad : Int) (hn : n ≤ 1000000000) (hc : n ≤ c) (ha : at_ ≤ n) (l : List Int) (hl : l.length = n) (hby : By l) (w0 w : World) (hr : Kd.C (Kd.int .u8) w0 A l.length l) (hB : Below w0.heap.size w0 w) (hg : w0.heap.size ≤ g) (hR : IsR w g A n c at_ bad) :
    Calls Try.prog 40 #[.pointer (some ⟨g, 0, none⟩)] w (Told w0 w g A n c (.int .u8 (step 1 255 l at_ bad).1) (step 1 255 l at_ bad).2.1 (step 1 255 l at_ bad).2.2) := by
  by_cases hb : 0 ≤ bad
  · rw [step_bad hb]; exact byte_bad g A n c at_ bad hb w0 w hB hg hR
  · by_cases hs : n < at_ + 1
    · rw [step_short (by omega) (by omega)]; exact byte_short g A n c at_ bad (by omega) hs hn ha w0 w hB hg hR
    · have h1 := bv_one l at_ (by omega) hby
      have h2 := hby.rd (at_ : Int)
      rw [step_ok (by omega) (by omega) (by omega), h1]
      exact byte_ok g A n c at_ bad (by omega) (by omega) hn hc l hl w0 w hr hB hg hR
theorem int_step (g : Nat) (A : Option Addr) (n c at_ : Nat) (bad : Int) (hn : n ≤ 1000000000) (hc : n ≤ c) (ha : at_ ≤ n) (l : List Int) (hl : l.length = n) (hby : By l) (w0 w : World) (hr : Kd.C (Kd.int .u8) w0 A l.length l) (hB : Below w0.heap.size w0 w) (hg : w0.heap.size ≤ g) (hR : IsR w g A n c at_ bad) :
    Calls Try.prog 41 #[.pointer (some ⟨g, 0, none⟩)] w (Told w0 w g A n c (.int .i64 (step 8 9223372036854775807 l at_ bad).1) (step 8 9223372036854775807 l at_ bad).2.1 (step 8 9223372036854775807 l at_ bad).2.2) := by
  by_cases hb : 0 ≤ bad
  · rw [step_bad hb]; exact int_bad g A n c at_ bad hb w0 w hB hg hR
  · by_cases hs : n < at_ + 8
    · rw [step_short (by omega) (by omega)]; exact int_short g A n c at_ bad (by omega) hs hn ha w0 w hB hg hR
    · by_cases hv : 9223372036854775807 < bv ((l.drop at_).take 8)
      · rw [step_big (by omega) (by omega) (by omega)]; exact int_big g A n c at_ bad (by omega) (by omega) hn hc l hl hby hv w0 w hr hB hg hR
      · rw [step_ok (by omega) (by omega) (by omega)]; exact int_ok g A n c at_ bad (by omega) (by omega) hn hc l hl hby (by omega) w0 w hr hB hg hR
theorem count_step (g : Nat) (A : Option Addr) (n c at_ : Nat) (bad most : Int) (hn : n ≤ 1000000000) (hc : n ≤ c) (ha : at_ ≤ n) (l : List Int) (hl : l.length = n) (hby : By l) (w0 w : World) (hr : Kd.C (Kd.int .u8) w0 A l.length l) (hB : Below w0.heap.size w0 w) (hg : w0.heap.size ≤ g) (hR : IsR w g A n c at_ bad) :
    Calls Try.prog 43 #[.pointer (some ⟨g, 0, none⟩), .int .i64 most] w (Told w0 w g A n c (.int .i64 (step 4 most l at_ bad).1) (step 4 most l at_ bad).2.1 (step 4 most l at_ bad).2.2) := by
  by_cases hb : 0 ≤ bad
  · rw [step_bad hb]; exact rcount_bad g A n c at_ bad most hb w0 w hB hg hR
  · by_cases hs : n < at_ + 4
    · rw [step_short (by omega) (by omega)]; exact rcount_short g A n c at_ bad most (by omega) hs hn ha w0 w hB hg hR
    · by_cases hv : most < (bv ((l.drop at_).take 4) : Int)
      · rw [step_big (by omega) (by omega) hv]; exact rcount_big g A n c at_ bad most (by omega) (by omega) hn hc l hl hby hv w0 w hr hB hg hR
      · rw [step_ok (by omega) (by omega) (by omega)]; exact rcount_ok g A n c at_ bad most (by omega) (by omega) hn hc l hl hby (by omega) w0 w hr hB hg hR
set_option maxHeartbeats 1600000 in
set_option maxRecDepth 100000 in
theorem read_calls (v : Value) (A : Option Addr) (n c : Nat) (w0 w : World) (hB : Below w0.heap.size w0 w) :
    Calls Try.prog 39 #[.slice A n c] w fun e w' => e = .returned (.pointer (some ⟨w.heap.size, 0, none⟩)) ∧ IsR w' w.heap.size A n c 0 (-1) ∧ Below w0.heap.size w0 w' ∧ Below w.heap.size w w' := by
  have HB := Aside0.mk hB
  clear hB
  go_enter Try.func39, Try.ntmps39
  go_wp2
  go_ret
  exact ⟨rfl, ⟨by go_simp, by go_simp, by go_simp, by go_simp, by go_simp, by go_simp⟩, below_alloc HB.out _, below_alloc (Below.refl _ _) _⟩
set_option maxHeartbeats 1600000 in
set_option maxRecDepth 100000 in
theorem bad_calls (g : Nat) (A : Option Addr) (n c at_ : Nat) (bad : Int) (w : World) (hR : IsR w g A n c at_ bad) :
    Calls Try.prog 57 #[.pointer (some ⟨g, 0, none⟩)] w fun e w' => e = .returned (.bool (decide (0 ≤ bad))) ∧ w = w' := by
  obtain ⟨h0, h1, h2, h3, h4, h5⟩ := hR
  go_enter Try.func57, Try.ntmps57
  go_wp2
  go_ret
  exact ⟨rfl, rfl⟩
/-- How a reader ends. -/
def fin (n at_ : Nat) (bad : Int) : Int × Int := if 0 ≤ bad then (bad, 20) else if at_ < n then ((at_ : Int), 20) else (0, 0)
set_option maxHeartbeats 1600000 in
set_option maxRecDepth 100000 in
theorem done_calls (g : Nat) (A : Option Addr) (n c at_ : Nat) (bad : Int) (w : World) (hR : IsR w g A n c at_ bad) :
    Calls Try.prog 44 #[.pointer (some ⟨g, 0, none⟩)] w fun e w' => e = .returned (.tuple #[.int .i64 (fin n at_ bad).1, .int .i64 (fin n at_ bad).2]) ∧ Drawn0 w w' := by
  obtain ⟨h0, h1, h2, h3, h4, h5⟩ := hR
  by_cases hb : 0 ≤ bad
  · rw [fin, if_pos hb]
    have hd : decide (0 ≤ bad) = true := decide_eq_true hb
    go_enter Try.func44, Try.ntmps44
    go_wp2
    go_ret2
    exact ⟨rfl, Drawn0.refl _⟩
  · have hd : decide (0 ≤ bad) = false := decide_eq_false hb
    by_cases ha : at_ < n
    · rw [fin, if_neg hb, if_pos ha]
      have hd2 : decide ((at_ : Int) < (n : Int)) = true := decide_eq_true (by omega)
      clear hb
      go_enter Try.func44, Try.ntmps44
      go_wp2
      go_quiet (fail)
      go_wp2
      go_ret2
      exact ⟨rfl, ⟨⟨_, rfl⟩⟩⟩
    · rw [fin, if_neg hb, if_neg ha]
      have hd2 : decide ((at_ : Int) < (n : Int)) = false := decide_eq_false (by omega)
      clear hb
      go_enter Try.func44, Try.ntmps44
      go_wp2
      go_quiet (fail)
      go_wp2
      go_ret2
      exact ⟨rfl, ⟨⟨_, rfl⟩⟩⟩
/-- A number of bytes, and they. -/
def bstep (least most : Int) (l : List Int) (at_ : Nat) (bad : Int) : List Int × Nat × Int :=
  if 0 ≤ (step 4 most l at_ bad).2.2 then ([], (step 4 most l at_ bad).2.1, (step 4 most l at_ bad).2.2)
  else if (step 4 most l at_ bad).1 < least ∨ (l.length : Int) - ((step 4 most l at_ bad).2.1 : Int) < (step 4 most l at_ bad).1 then ([], at_, (at_ : Int))
  else ((l.drop (step 4 most l at_ bad).2.1).take (step 4 most l at_ bad).1.toNat, (step 4 most l at_ bad).2.1 + (step 4 most l at_ bad).1.toNat, (step 4 most l at_ bad).2.2)
/-- Behind a reader's call that tells bytes. -/
def ToldB (w0 w : World) (g : Nat) (A : Option Addr) (n c : Nat) (r : List Int × Nat × Int) (e : Ending) (w' : World) : Prop :=
  ∃ B d, e = .returned (.slice B r.1.length d) ∧ r.1.length ≤ d ∧ Kd.C (Kd.int .u8) w' B r.1.length r.1 ∧ IsR w' g A n c r.2.1 r.2.2 ∧ Below w0.heap.size w0 w' ∧ Kept w w' (fun k => k = g)
theorem ToldB.nil {w0 w w' : World} {g : Nat} {A : Option Addr} {n c at_ : Nat} {bad : Int} (h1 : IsR w' g A n c at_ bad) (h2 : Below w0.heap.size w0 w') (h3 : Kept w w' (fun k => k = g)) : ToldB w0 w g A n c ([], at_, bad) (.returned (.slice none 0 0)) w' :=
  ⟨none, 0, rfl, Nat.le_refl _, Kd.C_nil _ _, h1, h2, h3⟩
theorem step_at' {N : Nat} {lim : Int} {l : List Int} {at_ : Nat} {bad : Int} (h : (step N lim l at_ bad).2.2 < 0) : at_ + N ≤ l.length ∧ (step N lim l at_ bad).2.1 = at_ + N ∧ 0 ≤ (step N lim l at_ bad).1 ∧ (step N lim l at_ bad).1 = (bv ((l.drop at_).take N) : Int) ∧ bad < 0 ∧ (step N lim l at_ bad).2.2 = bad := by
  unfold step at h ⊢
  split at h
  · simp at h; omega
  · split at h
    · simp at h; omega
    · split at h
      · simp at h; omega
      · rename_i h1 h2 h3
        rw [if_neg h1, if_neg h2, if_neg h3]
        simp
        omega
end Go.Proofs.Ytlngkcaaenpnaaa.Wire
