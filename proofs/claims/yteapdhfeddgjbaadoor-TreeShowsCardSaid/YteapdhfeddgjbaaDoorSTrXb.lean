/- Several texts made one. -/
import Derived.Test.YteapdhfeddgjbaaDoorSTrXa
import Derived.Test.YteapdhfeddgjbaaDoorSPDtX
import Derived.BigQuiet
import Derived.Test.YteapdhfeddgjbaaDoorSDgXa
section
/- tree: sides, small; what a path comes to: plain. -/
namespace Go.Proofs.YteapdhfeddgjbaaDoor.Dg
set_option linter.unusedVariables false
set_option linter.unusedSimpArgs false
open Go.RowKit Go.Proofs.YteapdhfeddgjbaaDoor.PDt Go.Proofs.YteapdhfeddgjbaaDoorW Go.Proofs.YteapdhfeddgjbaaDoorW.PrintWords

/-- Which side stands where, for the i-th of n, n at most 2^f. -/
def sidesF : Nat → Nat → Nat → List Bool
  | 0, _, _ => []
  | f + 1, i, n => if 1 < n then (if oth i < n then [decide (i < oth i)] else []) ++ sidesF f (i / 2) ((n + 1) / 2) else []
def sidesOf (i n : Nat) : List Bool := sidesF 63 i n
theorem sidesF_len : ∀ f i n, (sidesF f i n).length ≤ f
  | 0, _, _ => Nat.le_refl _
  | f + 1, i, n => by
    unfold sidesF
    split
    · have := sidesF_len f (i / 2) ((n + 1) / 2)
      rw [List.length_append]
      split
      · simp; omega
      · simp; omega
    · simp
theorem half_lt {i n : Nat} (h : i < n) (hn : 1 < n) : i / 2 < (n + 1) / 2 := by omega
theorem sides_l0 : ∀ (f i n : Nat) (acc : List Bool), n ≤ 2 ^ f → f ≤ 63 → n < 9223372036854775808 → i < n → acc.length + f < 1000 →
    tree_sides.l0 (f + 1) (i : Int) (n : Int) acc = some (acc ++ sidesF f i n)
  | 0, i, n, acc, hn, _, hn2, hi, ha => by
    rw [tree_sides.l0, if_neg (by have : n ≤ 1 := hn; omega), sidesF, List.append_nil]
  | f + 1, i, n, acc, hn, hf, hn2, hi, ha => by
    rw [tree_sides.l0, sidesF]
    by_cases h1 : 1 < n
    · have hp : (2 : Nat) ^ (f + 1) = 2 * 2 ^ f := by rw [Nat.pow_succ]; omega
      have hn' : (n + 1) / 2 ≤ 2 ^ f := by rw [hp] at hn; omega
      have e1 : wrap64 (Int.tdiv (i : Int) 2) = ((i / 2 : Nat) : Int) := by
        rw [Int.tdiv_eq_ediv_of_nonneg (by omega), IntWalk.wrap64_in _ (by omega)]; omega
      have e2 : wrap64 (wrap64 (Int.tdiv (n : Int) 2) + Int.tmod (n : Int) 2) = (((n + 1) / 2 : Nat) : Int) := by
        rw [Int.tdiv_eq_ediv_of_nonneg (by omega), Int.tmod_eq_emod_of_nonneg (by omega), IntWalk.wrap64_in ((n : Int) / 2) (by omega), IntWalk.wrap64_in _ (by omega)]; omega
      rw [if_pos (by omega), bits_oth i (by omega), e1, e2, if_pos h1]
      by_cases h2 : oth i < n
      · rw [if_pos (by omega), if_pos (by omega), if_pos h2, sides_l0 f (i / 2) ((n + 1) / 2) _ hn' (by omega) (by omega) (half_lt hi h1) (by rw [List.length_append]; simp; omega)]
        congr 1
        rw [List.append_assoc]
        congr 2
        simp only [List.cons.injEq, and_true, decide_eq_decide]
        omega
      · rw [if_neg (by omega), if_neg h2, sides_l0 f (i / 2) ((n + 1) / 2) _ hn' (by omega) (by omega) (half_lt hi h1) (by omega), List.nil_append]
    · rw [if_neg (by omega), if_neg h1, List.append_nil]
theorem sides_calls (i n : Nat) (hi : i < n) (hn : n < 9223372036854775808) (w : World) :
    Calls Tryd.prog 54 #[.int .i64 (i : Int), .int .i64 (n : Int)] w fun e w' => ∃ v, e = .returned v ∧ Kd.R Kd.bool 4 w' w.heap.size (fun _ => True) v (sidesOf i n) ∧ Below w.heap.size w w' :=
  tree_sides.calls 64 (i : Int) (n : Int) _ w (by
    have h := sides_l0 63 i n [] (by omega) (Nat.le_refl _) hn hi (by simp)
    rw [List.nil_append] at h
    exact h)

def toS (p : Sd) : S62 := ⟨p.1, p.2⟩
theorem C_S {w : World} {A : Option Addr} {n : Nat} {l : List Sd} (h : Kd.C sideK w A n l) : Kd.C k62 w A n (l.map toS) := by
  refine ⟨by rw [List.length_map]; exact h.1, h.2.1, fun hp => ?_⟩
  obtain ⟨ad, e, hc⟩ := h.2.2 hp
  refine ⟨ad, e, fun j q hq => ?_⟩
  rw [List.getElem?_map] at hq
  obtain ⟨p, hp2, rfl⟩ := Option.map_eq_some_iff.1 hq
  exact hc j p hp2
/-- A side that comes in. -/
theorem at_side {w : World} {A : Option Addr} {n : Nat} {l : List Sd} (h : Kd.C sideK w A n l) (i : Nat) (hi : i < n) :
    ∃ ad A1 c1, A = some ad ∧ w.cell? (ad.add (i * 2)) = some (.bool (l.getD i (false, [])).1) ∧ w.cell? ⟨(ad.add (i * 2)).block, (ad.add (i * 2)).off + 1, none⟩ = some (.slice A1 (l.getD i (false, [])).2.length c1) ∧ (l.getD i (false, [])).2.length ≤ c1 ∧ (Kd.int .u8).C w A1 (l.getD i (false, [])).2.length (l.getD i (false, [])).2 := by
  obtain ⟨ad, A1, c1, e, h1, h2, h3, h4⟩ := at_T62 (C_S h) (i : Int) (by omega) (by omega)
  have hl : i < l.length := by have := h.1; omega
  have e2 : rd_T62 (l.map toS) (i : Int) = toS (l.getD i (false, [])) := by
    unfold rd_T62
    rw [Int.toNat_natCast, List.getD_eq_getElem?_getD, List.getElem?_map, List.getD_eq_getElem?_getD, List.getElem?_eq_getElem hl]
    rfl
  rw [e2] at h1 h2 h3 h4
  rw [Int.toNat_natCast] at h1 h2
  exact ⟨ad, A1, c1, e, h1, h2, h3, h4⟩
def smallB (l : List (List Int)) (p : List Sd) : Bool := decide ((∀ b ∈ l, b.length ≤ 100) ∧ (∀ s ∈ p, s.2.length ≤ 100) ∧ l.length ≤ 20 ∧ p.length ≤ 70)
theorem drop_cons' {α : Type} (l : List α) (i : Nat) (z : α) (h : i < l.length) : l.drop i = l.getD i z :: l.drop (i + 1) := by
  rw [List.drop_eq_getElem_cons h, List.getD_eq_getElem?_getD, List.getElem?_eq_getElem h]; rfl
theorem small_l1 (l : List (List Int)) (p : List Sd) (hp : p.length ≤ maxLen) : ∀ (d j k : Nat), j + d = p.length → d + 1 ≤ k →
    cleromancylaw43_small.l1 k l (p.map toS) (p.map toS) ((p.map toS).length : Int) (j : Int) = some (decide ((∀ s ∈ p.drop j, s.2.length ≤ 100) ∧ l.length ≤ 20 ∧ p.length ≤ 70))
  | 0, j, k, hj, hk => by
    obtain ⟨k, rfl⟩ : ∃ k', k = k' + 1 := ⟨k - 1, by omega⟩
    rw [cleromancylaw43_small.l1, if_neg (by rw [List.length_map]; omega), List.drop_of_length_le (by omega), List.length_map]
    by_cases h : l.length ≤ 20
    · rw [if_pos (by omega)]; congr 1; rw [decide_eq_decide]; simp; omega
    · rw [if_neg (by omega)]; congr 1; symm; rw [decide_eq_false_iff_not]; rintro ⟨-, h2, -⟩; exact h h2
  | d + 1, j, k, hj, hk => by
    obtain ⟨k, rfl⟩ : ∃ k', k = k' + 1 := ⟨k - 1, by omega⟩
    have hjl : j < p.length := by omega
    have e2 : rd_T62 (p.map toS) (j : Int) = toS (p.getD j (false, [])) := by
      unfold rd_T62
      rw [Int.toNat_natCast, List.getD_eq_getElem?_getD, List.getElem?_map, List.getD_eq_getElem?_getD, List.getElem?_eq_getElem hjl]
      rfl
    unfold maxLen at hp
    rw [cleromancylaw43_small.l1, if_pos (by rw [List.length_map]; omega), if_pos (by omega), if_pos (by rw [List.length_map]; omega), e2]
    show (if ((p.getD j (false, [])).2.length : Int) > 100 then _ else _) = _
    by_cases h : (p.getD j (false, [])).2.length ≤ 100
    · rw [if_neg (by omega), IntWalk.wrap64_in _ (by omega), show (j : Int) + 1 = ((j + 1 : Nat) : Int) from by omega, small_l1 l p (by unfold maxLen; exact hp) d (j + 1) k (by omega) (by omega)]
      congr 1
      rw [decide_eq_decide, drop_cons' p j (false, []) hjl]
      simp only [List.mem_cons, forall_eq_or_imp]
      exact ⟨fun ⟨a, b⟩ => ⟨⟨h, a⟩, b⟩, fun ⟨⟨_, a⟩, b⟩ => ⟨a, b⟩⟩
    · rw [if_pos (by omega)]
      congr 1
      symm
      rw [decide_eq_false_iff_not, drop_cons' p j (false, []) hjl]
      rintro ⟨h1, -⟩
      exact h (h1 _ (by simp))
theorem small_l0 (l : List (List Int)) (p : List Sd) (hl : l.length ≤ maxLen) (hp : p.length ≤ maxLen) : ∀ (d j k : Nat), j + d = l.length → d + p.length + 2 ≤ k →
    cleromancylaw43_small.l0 k l (p.map toS) l (l.length : Int) (j : Int) = some (decide ((∀ b ∈ l.drop j, b.length ≤ 100) ∧ (∀ s ∈ p, s.2.length ≤ 100) ∧ l.length ≤ 20 ∧ p.length ≤ 70))
  | 0, j, k, hj, hk => by
    obtain ⟨k, rfl⟩ : ∃ k', k = k' + 1 := ⟨k - 1, by omega⟩
    have h1 := small_l1 l p hp p.length 0 k (by omega) (by omega)
    rw [cleromancylaw43_small.l0, if_neg (by omega), List.drop_of_length_le (by omega)]
    rw [show ((0 : Nat) : Int) = 0 from rfl] at h1
    rw [h1, List.drop_zero]
    congr 1
    rw [decide_eq_decide]
    simp
  | d + 1, j, k, hj, hk => by
    obtain ⟨k, rfl⟩ : ∃ k', k = k' + 1 := ⟨k - 1, by omega⟩
    have hjl : j < l.length := by omega
    have e2 : rd_L2 l (j : Int) = l.getD j [] := by unfold rd_L2; rw [Int.toNat_natCast]
    unfold maxLen at hl
    rw [cleromancylaw43_small.l0, if_pos (by omega), if_pos (by omega), if_pos (by omega), e2]
    by_cases h : (l.getD j []).length ≤ 100
    · rw [if_neg (by omega), IntWalk.wrap64_in _ (by omega), show (j : Int) + 1 = ((j + 1 : Nat) : Int) from by omega, small_l0 l p (by unfold maxLen; exact hl) hp d (j + 1) k (by omega) (by omega)]
      congr 1
      rw [decide_eq_decide, drop_cons' l j [] hjl]
      simp only [List.mem_cons, forall_eq_or_imp]
      exact ⟨fun ⟨a, b⟩ => ⟨⟨h, a⟩, b⟩, fun ⟨⟨_, a⟩, b⟩ => ⟨a, b⟩⟩
    · rw [if_pos (by omega)]
      congr 1
      symm
      rw [decide_eq_false_iff_not, drop_cons' l j [] hjl]
      rintro ⟨h1, -⟩
      exact h (h1 _ (by simp))
theorem small_calls (A0 : Option Addr) (n0 c0 : Nat) (l : List (List Int)) (A1 : Option Addr) (n1 c1 : Nat) (p : List Sd) (h0 : l.length = n0) (h1 : p.length = n1) (hl : n0 ≤ maxLen) (hp : n1 ≤ maxLen) (hc0 : n0 ≤ c0) (hc1 : n1 ≤ c1) (w : World) (hC0 : rowK.C w A0 n0 l) (hC1 : Kd.C sideK w A1 n1 p) :
    Calls Tryd.prog 21 #[.slice A0 n0 c0, .slice A1 n1 c1] w fun e w' => e = .returned (.bool (smallB l p)) ∧ Below w.heap.size w w' := by
  subst h0 h1
  have h := cleromancylaw43_small.calls (l.length + p.length + 2) A0 c0 l A1 c1 (p.map toS) (smallB l p) w hC0 hc0 (by rw [List.length_map]; exact C_S hC1) (by rw [List.length_map]; exact hc1) (by
    have h := small_l0 l p hl hp l.length 0 (l.length + p.length + 2) (by omega) (Nat.le_refl _)
    rw [List.drop_zero] at h
    exact h)
  rw [List.length_map] at h
  exact h

/-- What a path comes to, from a sum. -/
def chkF : List Int → List Bool → List Sd → Option (List Int)
  | s, [], [] => some s
  | s, b :: bs, (r, x) :: p => if x.length = 32 ∧ r = b then chkF (if r = true then sha (jointT s x) else sha (jointT x s)) bs p else none
  | _, _, _ => none
def endB (root : List Int) : Option (List Int) → Bool
  | some s => decide (s = root)
  | none => false
def checkB (root thing : List Int) (i n : Nat) (p : List Sd) : Bool := endB root (chkF (sha (leafT thing)) (sidesOf i n) p)
/-- The document's texts on the way. -/
def txtF : Nat → Nat → Nat → List (List Int) → List Int → List Sd → List (List Int) × List Int × Bool
  | 0, _, _, ts, s, p => (ts, s, p.isEmpty)
  | f + 1, i, n, ts, s, p => if 1 < n then (if i % 2 = 1 ∨ i + 1 < n then
      (match p with
        | [] => ([], [], false)
        | (r, x) :: p' => if x.length = 32 ∧ r = decide (i % 2 = 0) then
            txtF f (i / 2) ((n + 1) / 2) (ts ++ [if r = true then jointT s x else jointT x s]) (sha (if r = true then jointT s x else jointT x s)) p'
          else ([], [], false))
      else txtF f (i / 2) ((n + 1) / 2) ts s p) else (ts, s, p.isEmpty)
theorem oth_lt {i n : Nat} (h : i < n) : oth i < n ↔ (i % 2 = 1 ∨ i + 1 < n) := by unfold oth; split <;> omega
theorem oth_gt (i : Nat) : i < oth i ↔ i % 2 = 0 := by unfold oth; split <;> omega
theorem chk_txt : ∀ (f i n : Nat) (ts : List (List Int)) (s : List Int) (p : List Sd), i < n →
    chkF s (sidesF f i n) p = (if (txtF f i n ts s p).2.2 = true then some (txtF f i n ts s p).2.1 else none)
  | 0, i, n, ts, s, p, hi => by
    unfold sidesF txtF
    cases p <;> simp [chkF]
  | f + 1, i, n, ts, s, p, hi => by
    unfold sidesF txtF
    by_cases h1 : 1 < n
    · rw [if_pos h1, if_pos h1]
      by_cases h2 : oth i < n
      · rw [if_pos h2, if_pos ((oth_lt hi).1 h2)]
        cases p with
        | nil => simp [chkF]
        | cons q p =>
          obtain ⟨r, x⟩ := q
          dsimp only
          rw [List.singleton_append, chkF]
          have e : decide (i < oth i) = decide (i % 2 = 0) := by rw [decide_eq_decide]; exact oth_gt i
          rw [e]
          by_cases h3 : x.length = 32 ∧ r = decide (i % 2 = 0)
          · simp only [if_pos h3]
            have e2 : (if r = true then sha (jointT s x) else sha (jointT x s)) = sha (if r = true then jointT s x else jointT x s) := by split <;> rfl
            rw [e2]
            exact chk_txt f _ _ _ _ _ (half_lt hi h1)
          · simp only [if_neg h3]
            simp
      · rw [if_neg h2, if_neg (fun h => h2 ((oth_lt hi).2 h)), List.nil_append]
        exact chk_txt f _ _ _ _ _ (half_lt hi h1)
    · rw [if_neg h1, if_neg h1]
      cases p <;> simp [chkF]
def textsOf (thing : List Int) (i n : Nat) (p : List Sd) : List (List Int) × List Int × Bool := txtF 63 i n [leafT thing] (sha (leafT thing)) p
theorem check_texts (root thing : List Int) (i n : Nat) (p : List Sd) (hi : i < n) : checkB root thing i n p = ((textsOf thing i n p).2.2 && decide ((textsOf thing i n p).2.1 = root)) := by
  unfold checkB textsOf sidesOf
  rw [chk_txt 63 i n [leafT thing] (sha (leafT thing)) p hi]
  by_cases h : (txtF 63 i n [leafT thing] (sha (leafT thing)) p).2.2 = true
  · rw [if_pos h, h, Bool.true_and]; rfl
  · rw [if_neg h]
    rw [Bool.not_eq_true] at h
    rw [h, Bool.false_and]; rfl
end Go.Proofs.YteapdhfeddgjbaaDoor.Dg
end
section
/- tree: Check. -/
namespace Go.Proofs.YteapdhfeddgjbaaDoor.Dg
set_option linter.unusedVariables false
set_option linter.unusedSimpArgs false
open Go.RowKit Go.Proofs.YteapdhfeddgjbaaDoorW Go.Proofs.YteapdhfeddgjbaaDoorW.PrintWords Go.Proofs.YteapdhfeddgjbaaDoorW.PrintLast Go.Proofs.YteapdhfeddgjbaaDoorW.PrintMore

theorem at_bools {w : World} {A : Option Addr} {n : Nat} {l : List Bool} (h : Kd.C Kd.bool w A n l) (i : Nat) (hi : i < n) : ∃ ad, A = some ad ∧ w.cell? (ad.add i) = some (.bool (l.getD i false)) := by
  obtain ⟨ad, c, e, hl, hK, hc⟩ := Kd.C_get h false (i : Int) (by omega) (by omega)
  rw [Int.toNat_natCast] at hK hc
  cases hK
  have := hc 0 _ rfl
  exact ⟨ad, e, by simpa [Kd.bool, Kd.scalar] using this⟩
theorem chkF_step (s : List Int) (bs : List Bool) (p : List Sd) (k : Nat) (hk : k < p.length) (hb : bs.length = p.length) :
    chkF s (bs.drop k) (p.drop k) = if (p.getD k (false, [])).2.length = 32 ∧ (p.getD k (false, [])).1 = bs.getD k false then chkF (if (p.getD k (false, [])).1 = true then sha (jointT s (p.getD k (false, [])).2) else sha (jointT (p.getD k (false, [])).2 s)) (bs.drop (k + 1)) (p.drop (k + 1)) else none := by
  rw [drop_cons' p k (false, []) hk, drop_cons' bs k false (by omega)]
  obtain ⟨r, x⟩ := p.getD k (false, [])
  rw [chkF]
theorem chkF_end (s : List Int) : chkF s [] [] = some s := by rw [chkF]
theorem chkF_len : ∀ (s : List Int) (bs : List Bool) (p : List Sd), bs.length ≠ p.length → chkF s bs p = none
  | s, [], [], h => absurd rfl h
  | s, [], q :: p, h => by rw [chkF]; all_goals simp
  | s, b :: bs, [], h => by rw [chkF]; all_goals simp
  | s, b :: bs, (r, x) :: p, h => by
    rw [chkF]
    split
    · exact chkF_len _ bs p (fun e => h (by simp [e]))
    · rfl
set_option maxHeartbeats 6400000 in
set_option maxRecDepth 100000 in
theorem tcheck_calls (A0 : Option Addr) (n0 c0 : Nat) (root : List Int) (A1 : Option Addr) (n1 c1 : Nat) (thing : List Int) (i n : Nat) (A4 : Option Addr) (n4 c4 : Nat) (p : List Sd) (h0 : root.length = n0) (h1 : thing.length = n1) (h4 : p.length = n4) (hl0 : n0 ≤ 900000) (hl1 : n1 ≤ 900000) (hl4 : n4 ≤ 100000) (hc0 : n0 ≤ c0) (hc1 : n1 ≤ c1) (hb0 : Bt root) (hb1 : Bt thing) (hb4 : ∀ s ∈ p, Bt s.2) (hi : i < n) (hn : n < 9223372036854775808) (w : World)
    (hC0 : Kd.C (Kd.int .u8) w A0 root.length root) (hC1 : Kd.C (Kd.int .u8) w A1 thing.length thing) (hC4 : Kd.C sideK w A4 n4 p) (hK : Tab w 2 KK) :
    Calls Tryd.prog 22 #[.slice A0 n0 c0, .slice A1 n1 c1, .int .i64 (i : Int), .int .i64 (n : Int), .slice A4 n4 c4] w (Tells (.bool (checkB root thing i n p)) w) := by
  have HSI := Aside0.mk (sides_calls i n hi hn w)
  have HLF : Aside0 (∀ W', Below w.heap.size w W' → Calls Tryd.prog 55 #[.slice A1 n1 c1] W' (fun e w' => ∃ v, e = .returned v ∧ Kd.R (Kd.int .u8) 5 w' W'.heap.size (fun _ => True) v (sha (leafT thing)) ∧ Below W'.heap.size W' w')) := ⟨fun W' h => leaf_calls A1 n1 c1 thing h1 hl1 hc1 hb1 W' (Kd.C_below hC1 h) (hK.below h)⟩
  have HEQ : Aside0 (∀ W' A c s, Sm s → 32 ≤ c → Below w.heap.size w W' → Kd.C (Kd.int .u8) W' A 32 s → Calls Tryd.prog 57 #[.slice A 32 c, .slice A0 n0 c0] W' fun e w' => e = .returned (.bool (decide (s = root))) ∧ Below W'.heap.size W' w') :=
    ⟨fun W' A c s hs h8 hb hA => equal_calls A 32 c s A0 n0 c0 root hs.2 h0 W' (by rw [hs.2]; exact hA) h8 (Kd.C_below hC0 hb) hc0 hs.1 hb0⟩
  have HJT : Aside0 (∀ W' A c s A' c' x, Sm s → Sm x → 32 ≤ c → 32 ≤ c' → Below w.heap.size w W' → Kd.C (Kd.int .u8) W' A 32 s → Kd.C (Kd.int .u8) W' A' 32 x → Calls Tryd.prog 56 #[.slice A 32 c, .slice A' 32 c'] W' (fun e w' => ∃ v, e = .returned v ∧ Kd.R (Kd.int .u8) 5 w' W'.heap.size (fun _ => True) v (sha (jointT s x)) ∧ Below W'.heap.size W' w')) :=
    ⟨fun W' A c s A' c' x hs hx hc hc' hb hA hX => joint_calls A 32 c s A' 32 c' x hs.2 hx.2 (by omega) (by omega) hc hc' hs.1 hx.1 W' (by rw [hs.2]; exact hA) (by rw [hx.2]; exact hX) (hK.below hb)⟩
  obtain ⟨bs, hbs⟩ : ∃ bs, sidesOf i n = bs := ⟨_, rfl⟩
  have hbl : bs.length ≤ 63 := by rw [← hbs]; exact sidesF_len 63 i n
  obtain ⟨s0, hs0⟩ : ∃ s, sha (leafT thing) = s := ⟨_, rfl⟩
  have HS0 : Aside0 (Sm s0) := ⟨by rw [← hs0]; exact sha_Sm _⟩
  have HCB : Aside0 (checkB root thing i n p = endB root (chkF s0 bs p)) := ⟨by unfold checkB; rw [hbs, hs0]⟩
  rw [hbs] at HSI
  rw [hs0] at HLF
  obtain ⟨m, hm⟩ : ∃ m, bs.length = m := ⟨_, rfl⟩
  have HM := Aside0.mk hm
  have H4 := Aside0.mk h4
  have HB4 := Aside0.mk hb4
  have HC4 := Aside0.mk hC4
  have hi0 : ¬ (i : Int) < 0 := by omega
  have hi1 : ¬ (n : Int) ≤ (i : Int) := by omega
  rw [hm] at hbl
  clear h0 h1 h4 hc0 hc1 hb0 hb1 hb4 hn hC0 hC1 hC4 hK hbs hs0 hm hl0 hl1 hi
  by_cases hlen : m = n4
  · subst hlen
    go_enter Tryd.func22, Tryd.ntmps22
    go_wp2_with (first
      | (go_at_call 54; (with_reducible refine HSI.out.mono ?_); rintro e w1 ⟨v1, rfl, ho, hb⟩; obtain ⟨A1', c1', e1⟩ := Kd.R_slice ho; subst e1; rw [HM.out] at ho ⊢; have HW1 := Aside0.mk ((Kd.R_reads' ho).2.2); have HB1 := Aside0.mk hb; clear ho hb)
      | (go_at_call 55; (with_reducible refine (HLF.out _ HB1.out).mono ?_); rintro e w2 ⟨v2, rfl, ho, hb⟩; have HO2 := Aside0.mk ho; have HB2 := Aside0.mk (below_then HB1.out HB1.out.size hb); have HW2 := Aside0.mk (Kd.C_below HW1.out hb); clear ho hb)
      | fail)
    go_loopw [12, 34] (fun v12 v34 wr => ∃ (k : Nat) (s : List Int), v34 = .int .i64 (k : Int) ∧ k ≤ m ∧ Aside0 (Sm s) ∧ Aside0 (chkF s0 bs p = chkF s (bs.drop k) (p.drop k)) ∧ Aside0 ((Kd.int .u8).R 5 wr w.heap.size (fun _ => True) v12 s) ∧ Aside0 (Below w2.heap.size w2 wr))
      (fun _ v34 _ => m - (intOf v34).toNat)
    case atStart => exact ⟨0, s0, rfl, Nat.zero_le _, HS0, ⟨by rw [List.drop_zero, List.drop_zero]⟩, ⟨Kd.R_lower HO2.out HB1.out.size⟩, ⟨Below.refl _ _⟩⟩
    case round =>
      obtain ⟨k, s, rfl, hk, HSM, HCH, HR, HB⟩ := hrel
      obtain ⟨A12, c12, e12⟩ := Kd.R_slice HR.out
      rw [HSM.out.2] at e12
      subst e12
      have HBW := Aside0.mk (below_then HB2.out HB2.out.size HB.out)
      by_cases hlt : k < m
      · obtain ⟨ad4, Ax, cx, rfl, x0, x1, hxc, hxC⟩ := at_side (Kd.C_below HC4.out HBW.out) k hlt
        obtain ⟨adw, rfl, y0⟩ := at_bools (Kd.C_below HW2.out HB.out) k (by rw [HM.out]; exact hlt)
        have hst := chkF_step s bs p k (by rw [H4.out]; exact hlt) (by rw [HM.out, H4.out])
        have hbx := HB4.out _ (by
          rw [List.getD_eq_getElem?_getD, List.getElem?_eq_getElem (show k < p.length by rw [H4.out]; exact hlt)]
          exact List.getElem_mem (by rw [H4.out]; exact hlt) : p.getD k (false, []) ∈ p)
        obtain ⟨⟨r, x⟩, hq⟩ : ∃ q, p.getD k (false, []) = q := ⟨_, rfl⟩
        rw [hq] at x0 x1 hxc hxC hst hbx
        obtain ⟨b, hb⟩ : ∃ b, bs.getD k false = b := ⟨_, rfl⟩
        rw [hb] at y0 hst
        dsimp only at x0 x1 hxc hxC hst hbx
        obtain ⟨nx, hnx⟩ : ∃ n, x.length = n := ⟨_, rfl⟩
        rw [hnx] at x1 hxc
        obtain ⟨W3, hW3⟩ : ∃ W3, W3 = wr.alloc (.cells #[.bool r, .slice Ax nx cx] 62) := ⟨_, rfl⟩
        have y1 : (wr.alloc (.cells #[.bool r, .slice Ax nx cx] 62)).cell? (adw.add k) = some (.bool b) := pw_cell_below (below_alloc (Below.refl _ _) _) y0
        have hkm : (k : Int) < (m : Int) := by omega
        have hs12 := (Kd.R_reads' HR.out).2
        rw [HSM.out.2] at hs12
        have HS12 := Aside0.mk hs12
        by_cases h32 : nx = 32
        · subst h32
          have HXX : Aside0 (Sm x ∧ 32 ≤ cx ∧ Kd.C (Kd.int .u8) wr Ax 32 x) := ⟨⟨hbx, hnx⟩, hxc, by rw [hnx] at hxC; exact hxC⟩
          by_cases hrb : r = b
          · subst hrb
            rw [if_pos ⟨hnx, rfl⟩] at hst
            have HST := Aside0.mk hst
            cases r with
            | true =>
              clear hst hbx hq hb hnx hW3 hs12 hxC
              go_wp2
              go_quiet (fail)
              go_wp2_with (first
                | (go_at_call 56; (with_reducible refine (HJT.out _ A12 c12 s Ax cx x HSM.out HXX.out.1 HS12.out.1 HXX.out.2.1 (pw_below_drewN (below_alloc HBW.out _) nq) (Kd.C_below HS12.out.2 (pw_below_drewN (below_alloc (Below.refl _ _) _) nq)) (Kd.C_below HXX.out.2.2 (pw_below_drewN (below_alloc (Below.refl _ _) _) nq))).mono ?_); rintro e w4 ⟨v4, rfl, ho, hb⟩; have HO4 := Aside0.mk ho; have HB4 := Aside0.mk (below_then (pw_below_drewN (below_alloc HB.out _) nq) (pw_below_drewN (below_alloc HB.out _) nq).size hb); clear ho hb)
                | fail)
              refine ⟨⟨k + 1, sha (jointT s x), rfl, hlt, ⟨sha_Sm _⟩, ⟨by rw [HCH.out, HST.out]; rfl⟩, ⟨Kd.R_lower HO4.out ?_⟩, HB4⟩, meas_nat hlt⟩
              exact (pw_below_drewN (below_alloc HBW.out _) nq).size
            | false =>
              clear hst hbx hq hb hnx hW3 hs12 hxC
              go_wp2
              go_quiet (fail)
              go_wp2_with (first
                | (go_at_call 56; (with_reducible refine (HJT.out _ Ax cx x A12 c12 s HXX.out.1 HSM.out HXX.out.2.1 HS12.out.1 (pw_below_drewN (below_alloc HBW.out _) nq) (Kd.C_below HXX.out.2.2 (pw_below_drewN (below_alloc (Below.refl _ _) _) nq)) (Kd.C_below HS12.out.2 (pw_below_drewN (below_alloc (Below.refl _ _) _) nq))).mono ?_); rintro e w4 ⟨v4, rfl, ho, hb⟩; have HO4 := Aside0.mk ho; have HB4 := Aside0.mk (below_then (pw_below_drewN (below_alloc HB.out _) nq) (pw_below_drewN (below_alloc HB.out _) nq).size hb); clear ho hb)
                | fail)
              refine ⟨⟨k + 1, sha (jointT x s), rfl, hlt, ⟨sha_Sm _⟩, ⟨by rw [HCH.out, HST.out]; rfl⟩, ⟨Kd.R_lower HO4.out ?_⟩, HB4⟩, meas_nat hlt⟩
              exact (pw_below_drewN (below_alloc HBW.out _) nq).size
          · have hd : ((32 : Int) == 32) = true := rfl
            rw [if_neg (fun h => hrb h.2)] at hst
            have HN : Aside0 (checkB root thing i n p = false) := ⟨by rw [HCB.out, HCH.out, hst]; rfl⟩
            clear hst hbx hq hb hnx hW3 hs12 hxC
            cases r with
            | true =>
              cases b with
              | true => exact absurd rfl hrb
              | false =>
                go_wp2
                go_quiet (fail)
                go_wp2
                go_ret
                exact ⟨by rw [HN.out]; rfl, pw_below_drewN (below_alloc HBW.out _) nq⟩
            | false =>
              cases b with
              | false => exact absurd rfl hrb
              | true =>
                go_wp2
                go_quiet (fail)
                go_wp2
                go_ret
                exact ⟨by rw [HN.out]; rfl, pw_below_drewN (below_alloc HBW.out _) nq⟩
        · have hd : ((nx : Int) != 32) = true := by simp; omega
          rw [if_neg (fun h => h32 (by rw [← hnx]; exact h.1))] at hst
          have HN : Aside0 (checkB root thing i n p = false) := ⟨by rw [HCB.out, HCH.out, hst]; rfl⟩
          clear hst hbx hq hb hnx hW3 hs12 hxC
          go_wp2
          go_quiet (fail)
          go_wp2
          go_ret
          exact ⟨by rw [HN.out]; rfl, pw_below_drewN (below_alloc HBW.out _) nq⟩
      · obtain rfl : k = m := by omega
        have HE : Aside0 (checkB root thing i n p = decide (s = root)) := ⟨by
          rw [HCB.out, HCH.out, List.drop_of_length_le (by rw [HM.out]; exact Nat.le_refl _), List.drop_of_length_le (by rw [H4.out]; exact Nat.le_refl _), chkF_end]; rfl⟩
        have hs12 := (Kd.R_reads' HR.out).2
        rw [HSM.out.2] at hs12
        have HS12 := Aside0.mk hs12
        clear hs12
        go_wp2_with (first
          | (go_at_call 57; (with_reducible refine (HEQ.out wr A12 c12 s HSM.out HS12.out.1 HBW.out HS12.out.2).mono ?_); rintro e w4 ⟨rfl, hb⟩; have HB4 := Aside0.mk (below_then HBW.out HBW.out.size hb); clear hb)
          | fail)
        go_ret
        exact ⟨by rw [HE.out]; rfl, HB4.out⟩
  · have hd : ((m : Int) == (n4 : Int)) = false := by simp; omega
    have HN : Aside0 (checkB root thing i n p = false) := ⟨by rw [HCB.out, chkF_len _ _ _ (by rw [HM.out, H4.out]; exact hlen)]; rfl⟩
    rw [HN.out]
    go_enter Tryd.func22, Tryd.ntmps22
    go_wp2_with (first
      | (go_at_call 54; (with_reducible refine HSI.out.mono ?_); rintro e w1 ⟨v1, rfl, ho, hb⟩; obtain ⟨A1', c1', e1⟩ := Kd.R_slice ho; subst e1; rw [HM.out] at ho ⊢; have HB1 := Aside0.mk hb; clear ho hb)
      | fail)
    go_ret
    exact ⟨rfl, HB1.out⟩
end Go.Proofs.YteapdhfeddgjbaaDoor.Dg
end
section
/- tree: the document's texts on the way: the walk. -/
namespace Go.Proofs.YteapdhfeddgjbaaDoor.Dg
set_option linter.unusedVariables false
set_option linter.unusedSimpArgs false
open Go.RowKit Go.Proofs.YteapdhfeddgjbaaDoor.PDj Go.Proofs.YteapdhfeddgjbaaDoor.Num Go.Proofs.YteapdhfeddgjbaaDoorW Go.Proofs.YteapdhfeddgjbaaDoorW.PrintWords Go.Proofs.YteapdhfeddgjbaaDoorW.PrintLast Go.Proofs.YteapdhfeddgjbaaDoorW.PrintMore

theorem dsum_calls (A : Option Addr) (n c : Nat) (l : List Int) (hn : l.length = n) (hb : Bt l) (hl : n ≤ 900000) (hc : n ≤ c) (w : World) (hC : Kd.C (Kd.int .u8) w A n l) :
    Calls Tryd.prog 53 #[.slice A n c] w (Own w (sha l)) := by
  subst hn
  obtain ⟨k, hk⟩ := Ev.rounds (dsum_ev l hb (by omega))
  exact cleromancyref05_Sum.calls k A c l _ w hC hc hk
theorem lit_R (w : World) (x : Int) : (Kd.int .u8).R 5 (w.alloc (.cells #[.int .u8 x] 5)) w.heap.size (fun _ => True) (.slice (some ⟨w.heap.size, 0, none⟩) 1 1) [x] :=
  Kd.R_of_own (enc := Value.int .u8) (h1 := fun _ => rfl) (World.ownsRow_lit w #[.int .u8 x] 1 (Nat.le_refl _) (by simp [maxLen]) rfl) (fun _ _ => trivial)
set_option maxHeartbeats 1600000 in
set_option maxRecDepth 100000 in
theorem rleaf_calls (A1 : Option Addr) (n1 c1 : Nat) (r : List Int) (hr : r.length = n1) (h1 : n1 ≤ 900000) (hc1 : n1 ≤ c1) (w : World) (hR : Kd.C (Kd.int .u8) w A1 n1 r) :
    Calls Tryd.prog 58 #[.slice A1 n1 c1] w (Own w (leafT r)) := by
  have HR := Aside0.mk (lit_R w 0)
  have HB := Aside0.mk (below_alloc (Below.refl w.heap.size w) (.cells #[.int .u8 0] 5))
  have HC := Aside0.mk (Kd.C_below hR HB.out)
  clear hR hr
  go_enter Tryd.func58, Tryd.ntmps58
  go_wp2_with (first
    | (at_builtin; refine Kd.R_append_row (Value.int .u8) (0 : Int) (h1 := fun _ => rfl) (w0 := w) (W := w.alloc (.cells #[.int .u8 0] 5)) w.heap.size rfl _ _ 24 5 (.int .u8 0) 1 rfl Tryd.underlying24 info5 rfl (by decide) (.slice (some ⟨w.heap.size, 0, none⟩) 1 1) [0] r A1 n1 c1 (fun _ => True) rfl rfl (fun _ _ => trivial) HR.out HC.out HB.out HB.out.size (by simp; omega) ?_; intro v1 w5 ho hb5 hg5 hat5)
    | fail)
  go_ret
  exact ⟨_, rfl, ho, hb5⟩
set_option maxHeartbeats 1600000 in
set_option maxRecDepth 100000 in
theorem rjoint_calls (A0 : Option Addr) (n0 c0 : Nat) (s : List Int) (A1 : Option Addr) (n1 c1 : Nat) (r : List Int) (hs : s.length = n0) (hr : r.length = n1) (h0 : n0 ≤ 900000) (h1 : n1 ≤ 900000) (hc0 : n0 ≤ c0) (hc1 : n1 ≤ c1) (w : World) (hS : Kd.C (Kd.int .u8) w A0 n0 s) (hR : Kd.C (Kd.int .u8) w A1 n1 r) :
    Calls Tryd.prog 59 #[.slice A0 n0 c0, .slice A1 n1 c1] w (Own w (jointT s r)) := by
  have HR := Aside0.mk (lit_R w 1)
  have HB := Aside0.mk (below_alloc (Below.refl w.heap.size w) (.cells #[.int .u8 1] 5))
  have HC0 := Aside0.mk (Kd.C_below hS HB.out)
  have HC1 := Aside0.mk hR
  have HSL := Aside0.mk hs
  clear hR hr hS hs
  go_enter Tryd.func59, Tryd.ntmps59
  go_wp2_with (first
    | (at_builtin; refine Kd.R_append_row (Value.int .u8) (0 : Int) (h1 := fun _ => rfl) (w0 := w) (W := w.alloc (.cells #[.int .u8 1] 5)) w.heap.size rfl _ _ 24 5 (.int .u8 0) 1 rfl Tryd.underlying24 info5 rfl (by decide) (.slice (some ⟨w.heap.size, 0, none⟩) 1 1) [1] s A0 n0 c0 (fun _ => True) rfl rfl (fun _ _ => trivial) HR.out HC0.out HB.out HB.out.size (by simp; omega) ?_; intro v1 w5 ho hb5 hg5 hat5; obtain ⟨A5, c5, e5⟩ := Kd.R_slice ho; subst e5; have HO5 := Aside0.mk ho; have HB5 := Aside0.mk hb5; clear ho hb5 hg5 hat5)
    | (at_builtin; refine Kd.R_append_row (Value.int .u8) (0 : Int) (h1 := fun _ => rfl) (w0 := w) (W := w5) w.heap.size rfl _ _ 24 5 (.int .u8 0) 1 rfl Tryd.underlying24 info5 rfl (by decide) (.slice A5 ([1] ++ s).length c5) ([1] ++ s) r A1 n1 c1 (fun _ => True) rfl rfl (fun _ _ => trivial) HO5.out (Kd.C_below HC1.out HB5.out) HB5.out HB5.out.size (by rw [List.length_append, HSL.out]; simp; omega) ?_; intro v1 w6 ho hb6 hg6 hat6)
    | fail)
  go_ret
  exact ⟨_, rfl, ho, hb6⟩
theorem txtF_one (f i n : Nat) (ts : List (List Int)) (s : List Int) (p : List Sd) (h : ¬ 1 < n) : txtF f i n ts s p = (ts, s, p.isEmpty) := by
  cases f with
  | zero => rfl
  | succ f => unfold txtF; rw [if_neg h]
theorem txtF_skip (f i n : Nat) (ts : List (List Int)) (s : List Int) (p : List Sd) (h : 1 < n) (h2 : ¬ (i % 2 = 1 ∨ i + 1 < n)) : txtF (f + 1) i n ts s p = txtF f (i / 2) ((n + 1) / 2) ts s p := by
  rw [txtF.eq_def]; simp only [if_pos h, if_neg h2]
theorem txtF_nil (f i n : Nat) (ts : List (List Int)) (s : List Int) (h : 1 < n) (h2 : i % 2 = 1 ∨ i + 1 < n) : txtF (f + 1) i n ts s [] = ([], [], false) := by
  rw [txtF.eq_def]; simp only [if_pos h, if_pos h2]
theorem txtF_bad (f i n : Nat) (ts : List (List Int)) (s : List Int) (r : Bool) (x : List Int) (p : List Sd) (h : 1 < n) (h2 : i % 2 = 1 ∨ i + 1 < n) (h3 : ¬ (x.length = 32 ∧ r = decide (i % 2 = 0))) : txtF (f + 1) i n ts s ((r, x) :: p) = ([], [], false) := by
  rw [txtF.eq_def]; simp only [if_pos h, if_pos h2, if_neg h3]
theorem txtF_on (f i n : Nat) (ts : List (List Int)) (s : List Int) (r : Bool) (x : List Int) (p : List Sd) (h : 1 < n) (h2 : i % 2 = 1 ∨ i + 1 < n) (h3 : x.length = 32 ∧ r = decide (i % 2 = 0)) : txtF (f + 1) i n ts s ((r, x) :: p) = txtF f (i / 2) ((n + 1) / 2) (ts ++ [if r = true then jointT s x else jointT x s]) (sha (if r = true then jointT s x else jointT x s)) p := by
  rw [txtF.eq_def]; simp only [if_pos h, if_pos h2, if_pos h3]
theorem joint_Bt {a b : List Int} (ha : Bt a) (hb : Bt b) : Bt (jointT a b) := fun x hx => by
  unfold jointT at hx
  rcases List.mem_cons.1 hx with e | e
  · rw [e]; omega
  · exact (ha.append hb) x e
theorem joint_len (a b : List Int) : (jointT a b).length = 1 + (a.length + b.length) := by unfold jointT; rw [List.length_cons, List.length_append]; omega
theorem leaf_Bt {a : List Int} (ha : Bt a) : Bt (leafT a) := fun x hx => by
  unfold leafT at hx
  rcases List.mem_cons.1 hx with e | e
  · rw [e]; omega
  · exact ha x e
/-- A literal row of one sum. -/
theorem row_lit {w1 : World} (B : Nat) (u : Value) (p : List Int) {ok : Nat → Prop} (hu : (Kd.int .u8).R 5 w1 B ok u p) (h1 : u.oneCell' = true) (hB : B ≤ w1.heap.size) : rowK.R 24 (w1.alloc (.cells #[u] 24)) B (fun _ => True) (.slice (some ⟨w1.heap.size, 0, none⟩) 1 1) [p] := by
  refine ⟨fun _ _ => trivial, [u], World.ownsRow_lit w1 #[u] 1 hB (by simp [maxLen]) rfl, ?_⟩
  have h := Reps.snoc (R := rowK.M (w1.alloc (.cells #[u] 24)) B (fun k => True ∧ some k ≠ (Value.slice (some ⟨w1.heap.size, 0, none⟩) 1 1).ownBlock)) (size := 1) (ps := []) (cs := []) (c := [u]) (p := p) (Reps.none _ _) ⟨u, rfl, Kd.R_mono (Kd.R_below (Kd.R_bound hu) (below_alloc (Below.refl _ _) _)) (fun k hk => ⟨trivial, fun e => by have h2 := hk.2.2.1; simp [Value.ownBlock] at e; omega⟩)⟩ rfl
  exact h
/-- What Texts tells. -/
def TxtTold (w : World) (q : List (List Int) × List Int × Bool) (e : Ending) (w' : World) : Prop :=
  ∃ v vs, e = .returned (.tuple #[v, vs, .bool q.2.2]) ∧ rowK.R 24 w' w.heap.size (fun _ => True) v q.1 ∧ (Kd.int .u8).R 5 w' w.heap.size (fun _ => True) vs q.2.1 ∧ Below w.heap.size w w'
set_option maxHeartbeats 6400000 in
set_option maxRecDepth 100000 in
theorem texts_calls (A1 : Option Addr) (n1 c1 : Nat) (thing : List Int) (i n : Nat) (A4 : Option Addr) (n4 c4 : Nat) (p : List Sd) (h1 : thing.length = n1) (h4 : p.length = n4) (hl1 : n1 ≤ 800000) (hl4 : n4 ≤ 100000) (hc1 : n1 ≤ c1) (hb1 : Bt thing) (hb4 : ∀ s ∈ p, Bt s.2) (hi : i < n) (hn : n ≤ 1099511627776) (w : World)
    (hC1 : Kd.C (Kd.int .u8) w A1 n1 thing) (hC4 : Kd.C sideK w A4 n4 p) :
    Calls Tryd.prog 23 #[.slice A1 n1 c1, .int .i64 (i : Int), .int .i64 (n : Int), .slice A4 n4 c4] w (TxtTold w (textsOf thing i n p)) := by
  have HLF := Aside0.mk (rleaf_calls A1 n1 c1 thing h1 (by omega) hc1 w hC1)
  have HSU : Aside0 (∀ W' A c m l, l.length = m → Bt l → m ≤ 900000 → m ≤ c → Kd.C (Kd.int .u8) W' A m l → Calls Tryd.prog 53 #[.slice A m c] W' (Own W' (sha l))) := ⟨fun W' A c m l e hb hm hc hC => dsum_calls A m c l e hb hm hc W' hC⟩
  have HJT : Aside0 (∀ W' A c s A' c' x, Sm s → Sm x → 32 ≤ c → 32 ≤ c' → Kd.C (Kd.int .u8) W' A 32 s → Kd.C (Kd.int .u8) W' A' 32 x → Calls Tryd.prog 59 #[.slice A 32 c, .slice A' 32 c'] W' (Own W' (jointT s x))) :=
    ⟨fun W' A c s A' c' x hs hx hc hc' hA hX => rjoint_calls A 32 c s A' 32 c' x hs.2 hx.2 (by omega) (by omega) hc hc' W' hA hX⟩
  have HLT : Aside0 ((leafT thing).length = n1 + 1 ∧ Bt (leafT thing)) := ⟨by unfold leafT; rw [List.length_cons, h1], leaf_Bt hb1⟩
  have H4 := Aside0.mk h4
  have HB4 := Aside0.mk hb4
  have HC4 := Aside0.mk hC4
  have HT0 : Aside0 (textsOf thing i n p = txtF 63 i n [leafT thing] (sha (leafT thing)) (p.drop 0)) := ⟨rfl⟩
  obtain ⟨T, hT⟩ : ∃ T, textsOf thing i n p = T := ⟨_, rfl⟩
  rw [hT] at HT0 ⊢
  have hn63 : n ≤ 2 ^ 63 := by omega
  have HP63 := Aside0.mk hn63
  clear h1 h4 hc1 hb1 hb4 hC1 hC4 hT hn63
  go_enter Tryd.func23, Tryd.ntmps23
  go_wp2_with (first
    | (go_at_call 58; (with_reducible refine HLF.out.mono ?_); rintro e w1 ⟨v1, rfl, ho, hb⟩; obtain ⟨A1', c1', e1⟩ := Kd.R_slice ho; subst e1; rw [HLT.out.1] at ho ⊢; have HO1 := Aside0.mk ho; have HB1 := Aside0.mk hb; have hB1s := HB1.out.size; clear ho hb)
    | (go_at_call 53; (with_reducible refine (HSU.out _ A1' c1' (n1 + 1) (leafT thing) HLT.out.1 HLT.out.2 (by omega) (Kd.R_reads' HO1.out).2.1 (by have h := (Kd.R_reads' HO1.out).2.2; rw [HLT.out.1] at h; exact Kd.C_below h (below_alloc (Below.refl _ _) _))).mono ?_); rintro e w2 ⟨v2, rfl, ho, hb⟩; have HO2 := Aside0.mk ho; have HB2 := Aside0.mk hb; clear ho hb)
    | fail)
  have HRL := Aside0.mk (Kd.R_below (row_lit w.heap.size _ _ HO1.out rfl HB1.out.size) HB2.out)
  have HBZ := Aside0.mk (below_then (below_alloc HB1.out (.cells #[.slice A1' (n1 + 1) c1'] 24)) (below_alloc HB1.out (.cells #[.slice A1' (n1 + 1) c1'] 24)).size HB2.out)
  have HS2 := Aside0.mk (Kd.R_lower HO2.out (below_alloc HB1.out (.cells #[.slice A1' (n1 + 1) c1'] 24)).size)
  clear HO1 HB1 HO2 HB2 HLF hB1s
  go_loopw [1, 2, 12, 13, 14] (fun v1 v2 v12 v13 v14 wr => ∃ (f i' n' k : Nat) (ts : List (List Int)) (s : List Int), v1 = .int .i64 (i' : Int) ∧ v2 = .int .i64 (n' : Int) ∧ v14 = .int .i64 (k : Int) ∧ i' < n' ∧ Aside0 (n' ≤ 2 ^ f) ∧ n' ≤ 1099511627776 ∧ k ≤ n4 ∧ ts.length + f ≤ 64 ∧ Aside0 (T = txtF f i' n' ts s (p.drop k)) ∧ Aside0 (Sm s) ∧ Aside0 (rowK.R 24 wr w.heap.size (fun _ => True) v12 ts) ∧ Aside0 ((Kd.int .u8).R 5 wr w.heap.size (fun _ => True) v13 s) ∧ Aside0 (Below w.heap.size w wr))
    (fun _ v2 _ _ _ _ => (intOf v2).toNat)
  case atStart => exact ⟨63, i, n, 0, [leafT thing], sha (leafT thing), rfl, rfl, rfl, hi, HP63, hn, Nat.zero_le _, by simp, HT0, ⟨sha_Sm _⟩, HRL, HS2, HBZ⟩
  case round =>
    clear HRL HS2 HBZ hi hn HP63 HT0
    obtain ⟨f, i', n', k, ts, s, rfl, rfl, rfl, hi, HF, hn, hk, htl, HT, HSM, HR, HS, HB⟩ := hrel
    obtain ⟨A12, c12, e12⟩ := Kd.R_slice HR.out
    obtain ⟨A13, c13, e13⟩ := Kd.R_slice HS.out
    rw [HSM.out.2] at e13
    subst e12 e13
    have hs13 := (Kd.R_reads' HS.out).2
    rw [HSM.out.2] at hs13
    have HS13 := Aside0.mk hs13
    clear hs13
    by_cases h1 : 1 < n'
    · have h1' : (1 : Int) < (n' : Int) := by omega
      obtain ⟨f, rfl⟩ : ∃ f', f = f' + 1 := by
        have h := HF.out
        cases f with
        | zero => rw [Nat.pow_zero] at h; omega
        | succ f => exact ⟨f, rfl⟩
      have HF2 : Aside0 ((n' + 1) / 2 ≤ 2 ^ f) := ⟨by have h := HF.out; rw [Nat.pow_succ] at h; omega⟩
      have hq1 : wrap64 ((i' : Int) / 2) = ((i' / 2 : Nat) : Int) := by rw [IntWalk.wrap64_in _ (by omega)]; omega
      have hq2 : wrap64 ((n' : Int) + 1) = (n' : Int) + 1 := by rw [IntWalk.wrap64_in _ (by omega)]
      have hq3 : wrap64 (((n' : Int) + 1) / 2) = (((n' + 1) / 2 : Nat) : Int) := by rw [IntWalk.wrap64_in _ (by omega)]; omega
      have hq4 : Int.tdiv ((n' : Int) + 1) 2 = ((n' : Int) + 1) / 2 := Int.tdiv_eq_ediv_of_nonneg (by omega)
      have hq5 : Int.tdiv (i' : Int) 2 = (i' : Int) / 2 := Int.tdiv_eq_ediv_of_nonneg (by omega)
      have hq6 : Int.tmod (i' : Int) 2 = (i' : Int) % 2 := Int.tmod_eq_emod_of_nonneg (by omega)
      by_cases hp : i' % 2 = 0
      · have hm0 : (i' : Int) % 2 = 0 := by omega
        by_cases hc : i' + 1 < n'
        · have hc' : (i' : Int) + 1 < (n' : Int) := by omega
          -- BEGIN EVEN
          by_cases hkn : k < n4
          · obtain ⟨ad4, Ax, cx, rfl, x0, x1, hxc, hxC⟩ := at_side (Kd.C_below HC4.out HB.out) k hkn
            have hkl : k < p.length := by rw [H4.out]; exact hkn
            have hdr := drop_cons' p k (false, []) hkl
            have hbx := HB4.out _ (show p.getD k (false, []) ∈ p by rw [List.getD_eq_getElem?_getD, List.getElem?_eq_getElem hkl]; exact List.getElem_mem hkl)
            obtain ⟨⟨r, x⟩, hq⟩ : ∃ q, p.getD k (false, []) = q := ⟨_, rfl⟩
            rw [hq] at x0 x1 hxc hxC hdr hbx
            dsimp only at x0 x1 hxc hxC hbx
            obtain ⟨nx, hnx⟩ : ∃ n, x.length = n := ⟨_, rfl⟩
            rw [hnx] at x1 hxc
            have hkm : (k : Int) < (n4 : Int) := by omega
            have hkm2 : ¬ (n4 : Int) ≤ (k : Int) := by omega
            rw [hdr] at HT
            by_cases h32 : nx = 32
            · subst h32
              have HXX : Aside0 (Sm x ∧ 32 ≤ cx ∧ Kd.C (Kd.int .u8) wr Ax 32 x) := ⟨⟨hbx, hnx⟩, hxc, by rw [hnx] at hxC; exact hxC⟩
              cases r with
              | true =>
                have HT2 : Aside0 (T = txtF f (i' / 2) ((n' + 1) / 2) (ts ++ [jointT s x]) (sha (jointT s x)) (p.drop (k + 1))) := ⟨by rw [HT.out, txtF_on f i' n' ts s _ x _ h1 (by omega) ⟨hnx, by simp [hp]⟩]; rfl⟩
                have HJL : Aside0 ((jointT s x).length = 65 ∧ (jointT x s).length = 65) := ⟨by rw [joint_len, hnx, HSM.out.2], by rw [joint_len, hnx, HSM.out.2]⟩
                have HJB : Aside0 (Bt (jointT s x)) := ⟨joint_Bt HSM.out.1 hbx⟩
                clear hbx hq hnx hxC hdr hkl HT
                go_wp2_with (first
                  | (go_at_call 59; (with_reducible refine (HJT.out _ Ax cx x A13 c13 s HXX.out.1 HSM.out HXX.out.2.1 HS13.out.1 HXX.out.2.2 HS13.out.2).mono ?_); rintro e w5 ⟨v5, rfl, ho, hb⟩; obtain ⟨A5, c5, e5⟩ := Kd.R_slice ho; subst e5; rw [HJL.out.2] at ho ⊢; have HO5 := Aside0.mk (Kd.R_lower ho HB.out.size); have HB5 := Aside0.mk (below_then HB.out HB.out.size hb); have HR5 := Aside0.mk (Kd.R_below HR.out hb); have HL5 := Aside0.mk hb; have z0 := pw_cell_below hb x0; have z1 := pw_cell_below hb x1; clear ho hb)
                  | (go_at_call 59; (with_reducible refine (HJT.out w5 A13 c13 s Ax cx x HSM.out HXX.out.1 HS13.out.1 HXX.out.2.1 (Kd.C_below HS13.out.2 HL5.out) (Kd.C_below HXX.out.2.2 HL5.out)).mono ?_); rintro e w6 ⟨v6, rfl, ho, hb⟩; obtain ⟨A6, c6, e6⟩ := Kd.R_slice ho; subst e6; rw [HJL.out.1] at ho ⊢; have HO6 := Aside0.mk (Kd.R_lower ho HB5.out.size); have HB6 := Aside0.mk (below_then HB5.out HB5.out.size hb); have HR6 := Aside0.mk (Kd.R_below HR5.out hb); clear ho hb)
                  | (at_builtin; refine Kd.R_append rowK (w0 := w) (W := w6) w.heap.size rfl (.tmp 75) (.tmp 77) 22 24 (.slice none 0 0) 24 rfl Tryd.underlying22 info24 rfl (by decide) (by decide) (.slice A12 ts.length c12) ts (jointT s x) [.slice A6 65 c6] (fun _ => True) _ rfl rfl ⟨_, rfl, sum_apart HO6.out HR6.out⟩ (fun k hk => ⟨trivial, hk⟩) (fun _ _ => trivial) HR6.out HB6.out HB6.out.size (by omega) ?_; intro v7 w7 ho7 hb7 hg7 hat7; obtain ⟨A7, c7, e7⟩ := Kd.R_slice ho7; rw [List.length_append, List.length_singleton] at e7; subst e7; have HR7 := Aside0.mk ho7; have HB7 := Aside0.mk hb7; have HO7 := Aside0.mk (Kd.R_grown (sum_apart HO6.out HR6.out) hg7 (fun k hk => hk)); clear ho7 hb7 hg7 hat7)
                  | (go_at_call 53; (with_reducible refine (HSU.out w7 A6 c6 65 (jointT s x) HJL.out.1 HJB.out (by omega) (Kd.R_reads' HO7.out).2.1 (by have h := (Kd.R_reads' HO7.out).2.2; rw [HJL.out.1] at h; exact h)).mono ?_); rintro e w8 ⟨v8, rfl, ho, hb⟩; have HO8 := Aside0.mk (Kd.R_lower ho HB7.out.size); have HB8 := Aside0.mk (below_then HB7.out HB7.out.size hb); have HR8 := Aside0.mk (Kd.R_below HR7.out hb); clear ho hb)
                  | fail)
                refine ⟨⟨f, i' / 2, (n' + 1) / 2, k + 1, ts ++ [jointT s x], sha (jointT s x), by congr 1, by congr 1, rfl, half_lt hi h1, HF2, by omega, hkn, by rw [List.length_append]; simp; omega, HT2, ⟨sha_Sm _⟩, HR8, HO8, HB8⟩, by simp [intOf]; omega⟩
              | false =>
                have HT2 : Aside0 (T = ([], [], false)) := ⟨by rw [HT.out, txtF_bad f i' n' ts s _ x _ h1 (by omega) (by simp [hp])]⟩
                clear hbx hq hnx hxC hdr hkl HT
                go_wp2
                exact bodyPost_ret (v := .tuple #[.slice none 0 0, .slice none 0 0, .bool false]) (by simp [results, Tryd.results23, go_sem]) rfl ⟨_, _, by rw [HT2.out], by rw [HT2.out]; exact Kd.R_nil _ _ _ _ _, by rw [HT2.out]; exact Kd.R_nil _ _ _ _ _, HB.out⟩
            · have hd : ((nx : Int) != 32) = true := by simp; omega
              have HT2 : Aside0 (T = ([], [], false)) := ⟨by rw [HT.out, txtF_bad f i' n' ts s _ x _ h1 (by omega) (fun h => h32 (by rw [← hnx]; exact h.1))]⟩
              clear hbx hq hnx hxC hdr hkl HT
              go_wp2
              exact bodyPost_ret (v := .tuple #[.slice none 0 0, .slice none 0 0, .bool false]) (by simp [results, Tryd.results23, go_sem]) rfl ⟨_, _, by rw [HT2.out], by rw [HT2.out]; exact Kd.R_nil _ _ _ _ _, by rw [HT2.out]; exact Kd.R_nil _ _ _ _ _, HB.out⟩
          · have hkm : (n4 : Int) ≤ (k : Int) := by omega
            have HT2 : Aside0 (T = ([], [], false)) := ⟨by rw [HT.out, List.drop_of_length_le (by rw [H4.out]; omega), txtF_nil f i' n' ts s h1 (by omega)]⟩
            go_wp2
            exact bodyPost_ret (v := .tuple #[.slice none 0 0, .slice none 0 0, .bool false]) (by simp [results, Tryd.results23, go_sem]) rfl ⟨_, _, by rw [HT2.out], by rw [HT2.out]; exact Kd.R_nil _ _ _ _ _, by rw [HT2.out]; exact Kd.R_nil _ _ _ _ _, HB.out⟩
          -- END EVEN
        · have hc' : ¬ (i' : Int) + 1 < (n' : Int) := by omega
          have HT2 : Aside0 (T = txtF f (i' / 2) ((n' + 1) / 2) ts s (p.drop k)) := ⟨by rw [HT.out, txtF_skip f i' n' ts s _ h1 (by omega)]⟩
          clear hp
          go_wp2
          exact ⟨⟨f, i' / 2, (n' + 1) / 2, k, ts, s, by congr 1, by congr 1, rfl, half_lt hi h1, HF2, by omega, hk, by omega, HT2, HSM, HR, HS, HB⟩, by simp [intOf]; omega⟩
      · have hm0 : (i' : Int) % 2 = 1 := by omega
        -- BEGIN ODD
        by_cases hkn : k < n4
        · obtain ⟨ad4, Ax, cx, rfl, x0, x1, hxc, hxC⟩ := at_side (Kd.C_below HC4.out HB.out) k hkn
          have hkl : k < p.length := by rw [H4.out]; exact hkn
          have hdr := drop_cons' p k (false, []) hkl
          have hbx := HB4.out _ (show p.getD k (false, []) ∈ p by rw [List.getD_eq_getElem?_getD, List.getElem?_eq_getElem hkl]; exact List.getElem_mem hkl)
          obtain ⟨⟨r, x⟩, hq⟩ : ∃ q, p.getD k (false, []) = q := ⟨_, rfl⟩
          rw [hq] at x0 x1 hxc hxC hdr hbx
          dsimp only at x0 x1 hxc hxC hbx
          obtain ⟨nx, hnx⟩ : ∃ n, x.length = n := ⟨_, rfl⟩
          rw [hnx] at x1 hxc
          have hkm : (k : Int) < (n4 : Int) := by omega
          have hkm2 : ¬ (n4 : Int) ≤ (k : Int) := by omega
          rw [hdr] at HT
          by_cases h32 : nx = 32
          · subst h32
            have HXX : Aside0 (Sm x ∧ 32 ≤ cx ∧ Kd.C (Kd.int .u8) wr Ax 32 x) := ⟨⟨hbx, hnx⟩, hxc, by rw [hnx] at hxC; exact hxC⟩
            cases r with
            | false =>
              have HT2 : Aside0 (T = txtF f (i' / 2) ((n' + 1) / 2) (ts ++ [jointT x s]) (sha (jointT x s)) (p.drop (k + 1))) := ⟨by rw [HT.out, txtF_on f i' n' ts s _ x _ h1 (by omega) ⟨hnx, by simp [hp]⟩]; rfl⟩
              have HJL : Aside0 ((jointT s x).length = 65 ∧ (jointT x s).length = 65) := ⟨by rw [joint_len, hnx, HSM.out.2], by rw [joint_len, hnx, HSM.out.2]⟩
              have HJB : Aside0 (Bt (jointT x s)) := ⟨joint_Bt hbx HSM.out.1⟩
              clear hbx hq hnx hxC hdr hkl HT
              go_wp2_with (first
                | (go_at_call 59; (with_reducible refine (HJT.out _ Ax cx x A13 c13 s HXX.out.1 HSM.out HXX.out.2.1 HS13.out.1 HXX.out.2.2 HS13.out.2).mono ?_); rintro e w5 ⟨v5, rfl, ho, hb⟩; obtain ⟨A5, c5, e5⟩ := Kd.R_slice ho; subst e5; rw [HJL.out.2] at ho ⊢; have HO5 := Aside0.mk (Kd.R_lower ho HB.out.size); have HB5 := Aside0.mk (below_then HB.out HB.out.size hb); have HR5 := Aside0.mk (Kd.R_below HR.out hb); have HL5 := Aside0.mk hb; have z0 := pw_cell_below hb x0; have z1 := pw_cell_below hb x1; clear ho hb)
                | (at_builtin; refine Kd.R_append rowK (w0 := w) (W := w5) w.heap.size rfl (.tmp 75) (.tmp 77) 22 24 (.slice none 0 0) 24 rfl Tryd.underlying22 info24 rfl (by decide) (by decide) (.slice A12 ts.length c12) ts (jointT x s) [.slice A5 65 c5] (fun _ => True) _ rfl rfl ⟨_, rfl, sum_apart HO5.out HR5.out⟩ (fun k hk => ⟨trivial, hk⟩) (fun _ _ => trivial) HR5.out HB5.out HB5.out.size (by omega) ?_; intro v7 w7 ho7 hb7 hg7 hat7; obtain ⟨A7, c7, e7⟩ := Kd.R_slice ho7; rw [List.length_append, List.length_singleton] at e7; subst e7; have HR7 := Aside0.mk ho7; have HB7 := Aside0.mk hb7; have HO7 := Aside0.mk (Kd.R_grown (sum_apart HO5.out HR5.out) hg7 (fun k hk => hk)); clear ho7 hb7 hg7 hat7)
                | (go_at_call 53; (with_reducible refine (HSU.out w7 A5 c5 65 (jointT x s) HJL.out.2 HJB.out (by omega) (Kd.R_reads' HO7.out).2.1 (by have h := (Kd.R_reads' HO7.out).2.2; rw [HJL.out.2] at h; exact h)).mono ?_); rintro e w8 ⟨v8, rfl, ho, hb⟩; have HO8 := Aside0.mk (Kd.R_lower ho HB7.out.size); have HB8 := Aside0.mk (below_then HB7.out HB7.out.size hb); have HR8 := Aside0.mk (Kd.R_below HR7.out hb); clear ho hb)
                | fail)
              refine ⟨⟨f, i' / 2, (n' + 1) / 2, k + 1, ts ++ [jointT x s], sha (jointT x s), by congr 1, by congr 1, rfl, half_lt hi h1, HF2, by omega, hkn, by rw [List.length_append]; simp; omega, HT2, ⟨sha_Sm _⟩, HR8, HO8, HB8⟩, by simp [intOf]; omega⟩
            | true =>
              have HT2 : Aside0 (T = ([], [], false)) := ⟨by rw [HT.out, txtF_bad f i' n' ts s _ x _ h1 (by omega) (by simp [hp])]⟩
              clear hbx hq hnx hxC hdr hkl HT
              go_wp2
              exact bodyPost_ret (v := .tuple #[.slice none 0 0, .slice none 0 0, .bool false]) (by simp [results, Tryd.results23, go_sem]) rfl ⟨_, _, by rw [HT2.out], by rw [HT2.out]; exact Kd.R_nil _ _ _ _ _, by rw [HT2.out]; exact Kd.R_nil _ _ _ _ _, HB.out⟩
          · have hd : ((nx : Int) != 32) = true := by simp; omega
            have HT2 : Aside0 (T = ([], [], false)) := ⟨by rw [HT.out, txtF_bad f i' n' ts s _ x _ h1 (by omega) (fun h => h32 (by rw [← hnx]; exact h.1))]⟩
            clear hbx hq hnx hxC hdr hkl HT
            go_wp2
            exact bodyPost_ret (v := .tuple #[.slice none 0 0, .slice none 0 0, .bool false]) (by simp [results, Tryd.results23, go_sem]) rfl ⟨_, _, by rw [HT2.out], by rw [HT2.out]; exact Kd.R_nil _ _ _ _ _, by rw [HT2.out]; exact Kd.R_nil _ _ _ _ _, HB.out⟩
        · have hkm : (n4 : Int) ≤ (k : Int) := by omega
          have HT2 : Aside0 (T = ([], [], false)) := ⟨by rw [HT.out, List.drop_of_length_le (by rw [H4.out]; omega), txtF_nil f i' n' ts s h1 (by omega)]⟩
          go_wp2
          exact bodyPost_ret (v := .tuple #[.slice none 0 0, .slice none 0 0, .bool false]) (by simp [results, Tryd.results23, go_sem]) rfl ⟨_, _, by rw [HT2.out], by rw [HT2.out]; exact Kd.R_nil _ _ _ _ _, by rw [HT2.out]; exact Kd.R_nil _ _ _ _ _, HB.out⟩
        -- END ODD
    · have h1' : ¬ (1 : Int) < (n' : Int) := by omega
      have HT2 : Aside0 (T = (ts, s, (p.drop k).isEmpty)) := ⟨by rw [HT.out, txtF_one f i' n' ts s _ h1]⟩
      have hem : (p.drop k).isEmpty = ((k : Int) == (n4 : Int)) := by
        by_cases h : k = n4
        · rw [List.drop_of_length_le (by rw [H4.out]; omega), h]; simp
        · have hl : 0 < (p.drop k).length := by rw [List.length_drop, H4.out]; omega
          have h2 : ((k : Int) == (n4 : Int)) = false := by simp; omega
          rw [h2]
          cases hd : p.drop k with
          | nil => rw [hd] at hl; simp at hl
          | cons _ _ => rfl
      have HEM := Aside0.mk hem
      clear hem
      go_wp2
      exact bodyPost_ret (v := .tuple #[.slice A12 ts.length c12, .slice A13 32 c13, .bool ((k : Int) == (n4 : Int))]) (by simp [results, Tryd.results23, go_sem]) rfl ⟨_, _, by rw [HT2.out, HEM.out], by rw [HT2.out]; exact HR.out, by rw [HT2.out]; exact HS.out, HB.out⟩
end Go.Proofs.YteapdhfeddgjbaaDoor.Dg
end
section
/- tree: awake. -/
namespace Go.Proofs.YteapdhfeddgjbaaDoor.Dg
set_option linter.unusedVariables false
set_option linter.unusedSimpArgs false
open Go.RowKit Go.Proofs.YteapdhfeddgjbaaDoor.PDj Go.Proofs.YteapdhfeddgjbaaDoor.Num Go.Proofs.YteapdhfeddgjbaaDoorW Go.Proofs.YteapdhfeddgjbaaDoorW.PrintWords Go.Proofs.YteapdhfeddgjbaaDoorW.PrintLast Go.Proofs.YteapdhfeddgjbaaDoorW.PrintMore

theorem rows_one (t : List Int) : rowsOf [t] = [[sha (leafT t)]] := by
  unfold rowsOf leavesOf
  rw [List.length_singleton, rowsF_succ]
  simp
theorem path_one (t : List Int) : pathOf [t] 0 = [] := by unfold pathOf; rw [rows_one]; rfl
theorem root_one (t : List Int) : rootOf [t] = sha (leafT t) := by unfold rootOf; rw [rows_one]; rfl
theorem root_none : rootOf [] = z32 := by decide
theorem check_one (t : List Int) : checkB (sha (leafT t)) t 0 1 [] = true := by
  unfold checkB sidesOf
  rw [show sidesF 63 0 1 = [] from by rw [sidesF]; simp, chkF_end]
  exact decide_eq_true rfl
set_option maxHeartbeats 6400000 in
set_option maxRecDepth 100000 in
theorem tawake_calls (w : World) (hK : Tab w 2 KK) : Calls Tryd.prog 20 #[] w (Tells (.bool true) w) := by
  have hb1 : Bt [(1 : Int)] := fun x hx => by rw [List.mem_singleton.1 hx]; omega
  obtain ⟨wa, hwa⟩ : ∃ wa, wa = (w.alloc (.cells #[.int .u8 1] 5)).alloc (.cells #[.slice (some ⟨w.heap.size, 0, none⟩) 1 1] 24) := ⟨_, rfl⟩
  have HWA := Aside0.mk hwa
  have HBA : Aside0 (Below w.heap.size w wa) := ⟨by rw [hwa]; exact below_alloc (below_alloc (Below.refl _ _) _) _⟩
  have hrl := row_lit (w1 := w.alloc (.cells #[.int .u8 1] 5)) w.heap.size (.slice (some ⟨w.heap.size, 0, none⟩) 1 1) [1] (lit_R w 1) rfl (by simp)
  rw [← hwa, show (w.alloc (.cells #[.int .u8 1] 5)).heap.size = w.heap.size + 1 from by simp] at hrl
  have HCT : Aside0 (rowK.C wa (some ⟨w.heap.size + 1, 0, none⟩) 1 [[1]]) := ⟨(Kd.R_reads' hrl).2.2⟩
  have HPA : Aside0 (∀ W', Below wa.heap.size wa W' → Calls Tryd.prog 25 #[.slice (some ⟨w.heap.size + 1, 0, none⟩) 1 1, .int .i64 0] W' (fun e w' => ∃ v, e = .returned (.tuple #[v, .int .i64 0]) ∧ sideK.R 62 w' W'.heap.size (fun _ => True) v [] ∧ Below W'.heap.size W' w')) := ⟨fun W' h => by
    have h2 := path_calls (some ⟨w.heap.size + 1, 0, none⟩) 1 1 [[1]] 0 (by omega) rfl (fun t ht => by rw [List.mem_singleton.1 ht]; exact ⟨hb1, by simp⟩) (by omega) W' (Kd.C_below HCT.out h) (hK.below (below_then HBA.out HBA.out.size h))
    rw [path_one] at h2
    exact h2⟩
  have HRO : Aside0 (∀ W', Below wa.heap.size wa W' → Calls Tryd.prog 24 #[.slice (some ⟨w.heap.size + 1, 0, none⟩) 1 1] W' (Own W' (sha (leafT [1])))) := ⟨fun W' h => by
    have h2 := root_calls (some ⟨w.heap.size + 1, 0, none⟩) 1 1 [[1]] rfl (fun t ht => by rw [List.mem_singleton.1 ht]; exact ⟨hb1, by simp⟩) (by omega) W' (Kd.C_below HCT.out h) (hK.below (below_then HBA.out HBA.out.size h))
    rw [root_one] at h2
    exact h2⟩
  have HRN : Aside0 (∀ W', Below wa.heap.size wa W' → Calls Tryd.prog 24 #[.slice none 0 0] W' (Own W' z32)) := ⟨fun W' h => by
    have h2 := root_calls none 0 0 [] rfl (fun t ht => by simp at ht) (by omega) W' (Kd.C_nil _ _) (hK.below (below_then HBA.out HBA.out.size h))
    rw [root_none] at h2
    exact h2⟩
  have HCK : Aside0 (∀ W' A c A4 c4, 32 ≤ c → Below wa.heap.size wa W' → Kd.C (Kd.int .u8) W' A 32 (sha (leafT [1])) → Calls Tryd.prog 22 #[.slice A 32 c, .slice (some ⟨W'.heap.size, 0, none⟩) 1 1, .int .i64 0, .int .i64 1, .slice A4 0 c4] (W'.alloc (.cells #[.int .u8 1] 5)) (Tells (.bool true) (W'.alloc (.cells #[.int .u8 1] 5)))) := ⟨fun W' A c A4 c4 hc h hC => by
    have h2 := tcheck_calls A 32 c (sha (leafT [1])) (some ⟨W'.heap.size, 0, none⟩) 1 1 [1] 0 1 A4 0 c4 [] (sha_len _) rfl rfl (by omega) (by omega) (by omega) hc (Nat.le_refl _) (sha_Bt _) hb1 (fun s hs => by simp at hs) (by omega) (by omega) (W'.alloc (.cells #[.int .u8 1] 5))
      (by rw [sha_len]; exact Kd.C_below hC (below_alloc (Below.refl _ _) _)) (Kd.R_reads' (lit_R W' 1)).2.2 ⟨rfl, Nat.zero_le _, fun h => absurd h (Nat.lt_irrefl 0)⟩ (hK.below (below_then HBA.out HBA.out.size (below_alloc h _)))
    rw [check_one] at h2
    exact h2⟩
  clear hb1 hwa hrl hK
  go_enter Tryd.func20, Tryd.ntmps20
  go_wp2_with (first
    | (go_at_call 25; rw [← HWA.out]; (with_reducible refine (HPA.out _ (Below.refl _ _)).mono ?_); rintro e w1 ⟨v1, rfl, ho, hb⟩; obtain ⟨A1, c1, e1⟩ := Kd.R_slice ho; subst e1; have HB1 := Aside0.mk hb; clear ho hb)
    | (go_at_call 24; (with_reducible refine (HRO.out _ HB1.out).mono ?_); rintro e w2 ⟨v2, rfl, ho, hb⟩; obtain ⟨A2, c2, e2⟩ := Kd.R_slice ho; subst e2; rw [sha_len] at ho ⊢; have hr2 := (Kd.R_reads' ho).2; rw [sha_len] at hr2; have HR2 := Aside0.mk hr2; have HB2 := Aside0.mk (below_then HB1.out HB1.out.size hb); clear ho hb hr2)
    | (go_at_call 22; (with_reducible refine (HCK.out w2 A2 c2 A1 c1 HR2.out.1 HB2.out HR2.out.2).mono ?_); rintro e w3 ⟨rfl, hb⟩; have HB3 := Aside0.mk (below_then (below_alloc HB2.out (.cells #[.int .u8 1] 5)) (below_alloc HB2.out (.cells #[.int .u8 1] 5)).size hb); clear hb)
    | (go_at_call 24; (with_reducible refine (HRN.out _ HB3.out).mono ?_); rintro e w4 ⟨v4, rfl, ho, hb⟩; obtain ⟨A4, c4, e4⟩ := Kd.R_slice ho; subst e4; have HB4 := Aside0.mk (below_then HB3.out HB3.out.size hb); clear ho hb)
    | fail)
  go_ret
  exact ⟨by simp [z32], below_then HBA.out HBA.out.size HB4.out⟩
end Go.Proofs.YteapdhfeddgjbaaDoor.Dg
end
section
/- tree: which paths check: the walk of TreeChecks. -/
namespace Go.Proofs.YteapdhfeddgjbaaDoor.Dg
set_option linter.unusedVariables false
set_option linter.unusedSimpArgs false
open Go.RowKit Go.Proofs.YteapdhfeddgjbaaDoor.PDj Go.Proofs.YteapdhfeddgjbaaDoor.Num Go.Proofs.YteapdhfeddgjbaaDoorW Go.Proofs.YteapdhfeddgjbaaDoorW.PrintWords Go.Proofs.YteapdhfeddgjbaaDoorW.PrintLast Go.Proofs.YteapdhfeddgjbaaDoorW.PrintMore

/-- What is shown, in a block. -/
def ShAt (W : World) (b : Nat) (v1 : Value) (i n : Int) (v4 : Value) : Prop :=
  W.cell? ⟨b, 0, none⟩ = some v1 ∧ W.cell? ⟨b, 1, none⟩ = some (.int .i64 i) ∧ W.cell? ⟨b, 2, none⟩ = some (.int .i64 n) ∧ W.cell? ⟨b, 3, none⟩ = some v4
theorem ShAt.below {W W2 : World} {b : Nat} {v1 v4 : Value} {i n : Int} (h : ShAt W b v1 i n v4) (hb : Below W.heap.size W W2) : ShAt W2 b v1 i n v4 :=
  ⟨pw_cell_below hb h.1, pw_cell_below hb h.2.1, pw_cell_below hb h.2.2.1, pw_cell_below hb h.2.2.2⟩
theorem ShAt.new (w : World) (v1 v4 : Value) (i n : Int) : ShAt (w.alloc (.cells #[v1, .int .i64 i, .int .i64 n, v4] 37)) w.heap.size v1 i n v4 := by
  refine ⟨?_, ?_, ?_, ?_⟩ <;> rw [World.cell?_alloc_new] <;> rfl
end Go.Proofs.YteapdhfeddgjbaaDoor.Dg
end
section
/- TreeChecks over what comes in. -/
namespace Go.Proofs.YteapdhfeddgjbaaDoor.Dg
set_option linter.unusedVariables false
open Go.RowKit Go.Proofs.YteapdhfeddgjbaaDoor.PDj Go.Proofs.YteapdhfeddgjbaaDoor.Num Go.Proofs.YteapdhfeddgjbaaDoorW Go.Proofs.YteapdhfeddgjbaaDoorW.PrintWords Go.Proofs.YteapdhfeddgjbaaDoor.Opn

/-- What is to be shown, as it comes in. -/
structure ShIn where
  A : Option Addr
  l : List Int
  c : Nat
  i : Int
  n : Int
  A4 : Option Addr
  p : List Sd
  c4 : Nat
/-- What is known of it. -/
def ShIn.ok (x : ShIn) (W : World) : Prop :=
  (x.l.length ≤ x.c ∧ Kd.C (Kd.int .u8) W x.A x.l.length x.l ∧ Bt x.l ∧ x.l.length ≤ maxLen) ∧ (-9223372036854775808 ≤ x.i ∧ x.i ≤ 9223372036854775807) ∧ (-9223372036854775808 ≤ x.n ∧ x.n ≤ 9223372036854775807) ∧ (x.p.length ≤ x.c4 ∧ Kd.C sideK W x.A4 x.p.length x.p ∧ (∀ s ∈ x.p, Bt s.2) ∧ x.p.length ≤ maxLen)
theorem open_shown {H : Type} {enc : TypeId × Value → H} {W : World} {fuel : Nat} {cs : Array Value} {x : DataW H × List MemPlace} (h : DataW.trod enc Tryd.prog W 0 (fun _ => true) true fuel 37 cs.toList = some x) :
    ∃ x : ShIn, cs = #[.slice x.A x.l.length x.c, .int .i64 x.i, .int .i64 x.n, .slice x.A4 x.p.length x.c4] ∧ x.ok W := by
  have hs := opens_struct (enc := enc) (W := W) (base := 0) (spare := fun _ => true) (held := true) Tryd.underlying62 (by kernel_rfl)
      (opensF_cons rfl (by kernel_rfl) (opens_bool Tryd.underlying4) (opensF_last rfl (by kernel_rfl) (opens_slice 5 Tryd.underlying24 (by kernel_rfl) (opens_int Tryd.underlying5))))
  have h37 := opens_struct (enc := enc) (W := W) (base := 0) (spare := fun _ => true) (held := true) Tryd.underlying37 (by kernel_rfl)
      (opensF_cons rfl (by kernel_rfl) (opens_slice 5 Tryd.underlying24 (by kernel_rfl) (opens_int Tryd.underlying5)) (opensF_cons rfl (by kernel_rfl) (opens_int Tryd.underlying3) (opensF_cons rfl (by kernel_rfl) (opens_int Tryd.underlying3) (opensF_last rfl (by kernel_rfl) (opens_slice 62 Tryd.underlying35 (by kernel_rfl) hs)))))
  obtain ⟨⟨l, i, n, p⟩, hk, h0, h1, h2, h3⟩ := h37 _ _ _ h
  obtain ⟨_, _, e, ⟨A, c, e0, e4, e5⟩, _, _, e', e1, _, _, e'', e2, A4, c4, e6, e7, e8⟩ := hk
  cases e0; cases e1; cases e2; subst e6 e'' e'
  exact ⟨⟨A, l, c, i, n, A4, p, c4⟩, by rw [← Array.toArray_toList (xs := cs), e]; rfl, ⟨e4, e5, fun y hy => wf_u8 (h0.2 y hy), h0.1⟩, wf_i64 h1, wf_i64 h2, ⟨e7, e8, fun s hs y hy => wf_u8 ((h3.2 s hs).2.2 y hy), h3.1⟩⟩
end Go.Proofs.YteapdhfeddgjbaaDoor.Dg
end
