/- cleromancylaw25.StakeMeets returns true for every input. No condition. -/
import Derived.Test.YtlngkcaaenpnaaaPStakeMeetsx2
namespace Go.Proofs.Ytlngkcaaenpnaaa.Pure
open Go.RowKit Go.Proofs.Ytlngkcaaenpnaaa.PStakeMeets Go.Proofs.YtlngkcaaenpnaaaW.PrintWords Go.Proofs.YtlngkcaaenpnaaaW.PrintLast Go.Proofs.YtlngkcaaenpnaaaW.PrintMore

/-! ### what stakes are together, on plain lists -/
def shr (x : Int) : Int := mn (mx x 0) 4096
theorem shr_range (x : Int) : 0 ≤ shr x ∧ shr x ≤ 4096 := by unfold shr mn mx; split <;> split <;> omega
def tot : List Int → Int
  | [] => 0
  | x :: r => shr x + tot r
theorem tot_range : ∀ l : List Int, 0 ≤ tot l ∧ tot l ≤ 4096 * l.length
  | [] => by simp [tot]
  | x :: r => by
    have := tot_range r
    have := shr_range x
    simp only [tot, List.length_cons]
    omega
theorem drop_cons_rd (l : List Int) (i : Nat) (h : i < l.length) : l.drop i = rd l (i : Int) :: l.drop (i + 1) := by
  rw [List.drop_eq_getElem_cons h]
  simp [rd, List.getD_eq_getElem?_getD, h]
theorem wrap_small (x : Int) (h0 : -9223372036854775808 ≤ x) (h1 : x ≤ 9223372036854775807) : wrap64 x = x := by unfold wrap64; omega

theorem all_go (l : List Int) (hl : l.length ≤ 100000) : ∀ (k i : Nat) (n : Int), i ≤ l.length → l.length - i < k → 0 ≤ n → n ≤ 4096 * i → stake_All.l0 k n l (l.length : Int) (i : Int) = some (n + tot (l.drop i))
  | 0, i, n, _, hk, _, _ => by omega
  | k + 1, i, n, hi, hk, h0, h1 => by
    rw [stake_All.l0]
    by_cases h : i < l.length
    · rw [if_pos (by omega), if_pos (by omega), if_pos (by omega), stake_share.f, Option.bind_some]
      have hs := shr_range (rd l i)
      change stake_All.l0 k (wrap64 (n + shr (rd l i))) l l.length (wrap64 ((i : Int) + 1)) = _
      rw [wrap_small _ (by omega) (by omega), wrap_small _ (by omega) (by omega)]
      have := all_go l hl k (i + 1) (n + shr (rd l i)) (by omega) (by omega) (by omega) (by push_cast; omega)
      rw [show (i : Int) + 1 = ((i + 1 : Nat) : Int) from by push_cast; rfl, this, drop_cons_rd l i h, tot]
      congr 1; omega
    · rw [if_neg (by omega), List.drop_of_length_le (by omega), tot]; simp
theorem all_is (l : List Int) (hl : l.length ≤ 100000) (k : Nat) (hk : l.length < k) : stake_All.f k l = some (tot l) := by
  have := all_go l hl k 0 0 (by omega) (by omega) (by omega) (by omega)
  simpa [stake_All.f] using this
theorem most_is (l : List Int) (hl : l.length ≤ 100000) (k : Nat) (hk : l.length < k) (n : Int) : stake_Most.f k l n = some (decide (2 * tot l < 3 * n)) := by
  have h := tot_range l
  rw [stake_Most.f, all_is l hl k hk, Option.bind_some, wrap_small (2 * tot l) (by omega) (by omega), Int.tdiv_eq_ediv_of_nonneg (by omega), wrap_small _ (by omega) (by omega)]
  congr 1
  exact decide_eq_decide.2 (by omega)
theorem some_is (l : List Int) (hl : l.length ≤ 100000) (k : Nat) (hk : l.length < k) (n : Int) : stake_Some.f k l n = some (decide (tot l < 3 * n)) := by
  have h := tot_range l
  rw [stake_Some.f, all_is l hl k hk, Option.bind_some, Int.tdiv_eq_ediv_of_nonneg (by omega), wrap_small _ (by omega) (by omega)]
  congr 1
  exact decide_eq_decide.2 (by omega)

/-- The sum of those that P picks, below n. -/
def wsum (l : List Int) (P : Nat → Bool) : Nat → Int
  | 0 => 0
  | n + 1 => wsum l P n + (if P n = true then shr (rd l n) else 0)
theorem wsum_congr (l : List Int) (P Q : Nat → Bool) : ∀ n, (∀ j, j < n → P j = Q j) → wsum l P n = wsum l Q n
  | 0, _ => rfl
  | n + 1, h => by rw [wsum, wsum, wsum_congr l P Q n (fun j hj => h j (by omega)), h n (by omega)]
theorem wsum_false (l : List Int) (P : Nat → Bool) : ∀ n, (∀ j, j < n → P j = false) → wsum l P n = 0
  | 0, _ => rfl
  | n + 1, h => by rw [wsum, wsum_false l P n (fun j hj => h j (by omega)), h n (by omega)]; rfl
theorem wsum_range (l : List Int) (P : Nat → Bool) : ∀ n, 0 ≤ wsum l P n ∧ wsum l P n ≤ 4096 * n
  | 0 => by simp [wsum]
  | n + 1 => by
    have := wsum_range l P n
    have := shr_range (rd l n)
    simp only [wsum]
    split <;> (push_cast; omega)
theorem wsum_one (l : List Int) (P Q : Nat → Bool) (x : Nat) (hp : P x = true) (hq : Q x = false) (h : ∀ j, j ≠ x → P j = Q j) : ∀ n, x < n → wsum l P n = wsum l Q n + shr (rd l x)
  | 0, hx => by omega
  | n + 1, hx => by
    by_cases e : x = n
    · subst e
      rw [wsum, wsum, hp, hq, wsum_congr l P Q x (fun j hj => h j (by omega))]
      simp
    · rw [wsum, wsum, wsum_one l P Q x hp hq h n (by omega), h n (by omega)]
      omega
theorem wsum_all (l : List Int) : wsum l (fun _ => true) l.length = tot l := by
  have : ∀ n, n ≤ l.length → wsum l (fun _ => true) n + tot (l.drop n) = tot l := by
    intro n
    induction n with
    | zero => intro _; simp [wsum]
    | succ n ih =>
      intro hn
      have h1 := ih (by omega)
      rw [drop_cons_rd l n (by omega), tot] at h1
      rw [wsum, if_pos rfl]
      omega
  have := this l.length (Nat.le_refl _)
  rw [List.drop_length, tot] at this
  omega

/-- What stake.Of comes to. -/
theorem of_go (l : List Int) : ∀ (r met : List Int) (n : Int), stake_Of.go l r met n = n + wsum l (fun j => r.contains (j : Int) && !met.contains (j : Int)) l.length
  | [], met, n => by rw [stake_Of.go, wsum_false l _ _ (fun j _ => by simp)]; omega
  | x :: r, met, n => by
    rw [stake_Of.go]
    by_cases h : met.contains x = true ∨ x < 0 ∨ (l.length : Int) ≤ x
    · rw [if_pos h, of_go l r met n]
      congr 1
      refine wsum_congr l _ _ _ (fun j hj => ?_)
      by_cases e : (j : Int) = x
      · rcases h with h | h | h
        · subst e; rw [h]; simp
        · omega
        · omega
      · have : ((j : Int) == x) = false := by simpa using e
        rw [List.contains_cons, this, Bool.false_or]
    · rw [if_neg h, of_go l r (met ++ [x]) _]
      have h1 : met.contains x = false := by cases e : met.contains x <;> simp_all
      obtain ⟨y, rfl⟩ : ∃ y : Nat, x = y := ⟨x.toNat, by omega⟩
      have := wsum_one l (fun j => ((y : Int) :: r).contains (j : Int) && !met.contains (j : Int)) (fun j => r.contains (j : Int) && !(met ++ [(y : Int)]).contains (j : Int)) y (by simp only [h1]; simp) (by simp) (fun j hj => by
        have : ((j : Int) == (y : Int)) = false := by simp; omega
        simp only [List.contains_cons, List.contains_append, this]; simp) l.length (by omega)
      rw [this]
      unfold shr
      omega
theorem of_is (l r : List Int) (hl : l.length ≤ 500) (hr : r.length ≤ 500) (hw : ∀ x ∈ r, (Lit.int .i64 x).wf = true) : stake_Of.f l r = some (wsum l (fun j => r.contains (j : Int)) l.length) := by
  rw [stake_Of.f, if_pos ⟨hl, hr, List.all_eq_true.2 hw⟩, of_go]
  congr 1
  rw [Int.zero_add]
  exact wsum_congr l _ _ _ (fun j _ => by simp)

/-- Is a number in a list? -/
theorem in_go (l : List Int) (x : Int) (hl : l.length ≤ 100000) : ∀ (k i : Nat), i ≤ l.length → l.length - i < k → cleromancyref25_In.l0 k l x (i : Int) = some ((l.drop i).contains x)
  | 0, i, _, hk => by omega
  | k + 1, i, hi, hk => by
    rw [cleromancyref25_In.l0]
    by_cases h : i < l.length
    · rw [if_pos (by omega), if_pos (by omega), drop_cons_rd l i h, List.contains_cons]
      by_cases e : rd l (i : Int) = x
      · rw [if_pos e, e]; simp
      · rw [if_neg e, wrap_small _ (by omega) (by omega), show (i : Int) + 1 = ((i + 1 : Nat) : Int) from by push_cast; rfl, in_go l x hl k (i + 1) (by omega) (by omega)]
        have : (x == rd l (i : Int)) = false := by simpa using fun h => e h.symm
        rw [this, Bool.false_or]
    · rw [if_neg (by omega), List.drop_of_length_le (by omega)]; simp
theorem in_is (l : List Int) (x : Int) (hl : l.length ≤ 100000) (k : Nat) (hk : l.length < k) : cleromancyref25_In.f k l x = some (l.contains x) := by
  have := in_go l x hl k 0 (by omega) (by omega)
  simpa [cleromancyref25_In.f] using this

theorem awake_is (k : Nat) (hk : 4 < k) : cleromancylaw25_awake.f k = some true := by
  have h1 : tot [1, 1, 1, 1] = 4 := by decide
  rw [cleromancylaw25_awake.f]
  simp [most_is, some_is, all_is, hk, h1]

theorem both_go (a b : List Int) (hb : b.length ≤ 500) (l0 l1 : List Int) (ha : a.length ≤ 500) : ∀ (k i : Nat) (out : List Int), i ≤ a.length → 2100 + (a.length - i) < k → out.length ≤ i →
    ∃ k', 1600 < k' ∧ cleromancylaw25_StakeMeets.l0 k l0 l1 b out a (a.length : Int) (i : Int) = cleromancylaw25_StakeMeets.l1 k' l0 l1 b (out ++ (a.drop i).filter (fun x => b.contains x)) [] (l0.length : Int) 0
  | 0, i, out, _, hk, _ => by omega
  | k + 1, i, out, hi, hk, ho => by
    rw [cleromancylaw25_StakeMeets.l0]
    by_cases h : i < a.length
    · rw [if_pos (by omega), if_pos (by omega), if_pos (by omega), in_is b _ (by omega) k (by omega), Option.bind_some, wrap_small ((i : Int) + 1) (by omega) (by omega), show (i : Int) + 1 = ((i + 1 : Nat) : Int) from by push_cast; rfl, drop_cons_rd a i h, List.filter_cons]
      by_cases e : b.contains (rd a (i : Int)) = true
      · rw [if_pos e, if_pos (by omega), if_pos e]
        obtain ⟨k', hk', ih⟩ := both_go a b hb l0 l1 ha k (i + 1) (out ++ [rd a (i : Int)]) (by omega) (by omega) (by simp; omega)
        exact ⟨k', hk', by rw [ih]; simp⟩
      · rw [if_neg e, if_neg e]
        exact both_go a b hb l0 l1 ha k (i + 1) out (by omega) (by omega) (by omega)
    · rw [if_neg (by omega), List.drop_of_length_le (by omega)]
      exact ⟨k, by omega, by simp⟩
/-- The places that a list doesn't name, below n. -/
def rest (a : List Int) : Nat → List Int
  | 0 => []
  | n + 1 => rest a n ++ (if a.contains (n : Int) = true then [] else [(n : Int)])
theorem rest_len (a : List Int) : ∀ n, (rest a n).length ≤ n
  | 0 => by simp [rest]
  | n + 1 => by
    have := rest_len a n
    simp only [rest, List.length_append]
    split <;> (simp; omega)
theorem rest_mem (a : List Int) (x : Int) : ∀ n, (rest a n).contains x = (decide (0 ≤ x ∧ x < (n : Int)) && !a.contains x)
  | 0 => by simp [rest]; intros; omega
  | n + 1 => by
    rw [rest, List.contains_append, rest_mem a x n]
    by_cases e : x = (n : Int)
    · subst e
      by_cases h : a.contains (n : Int) = true
      · simp only [h, if_true]; simp
      · have h' : a.contains (n : Int) = false := by simpa using h
        simp only [h']
        simp
        omega
    · have : (if a.contains (n : Int) = true then ([] : List Int) else [(n : Int)]).contains x = false := by split <;> simp [e]
      rw [this, Bool.or_false]
      congr 1
      exact decide_eq_decide.2 (by push_cast; omega)
theorem rest_go (a b both : List Int) (l0 : List Int) (hl : l0.length ≤ 500) (ha : a.length ≤ 500) : ∀ (k i : Nat), i ≤ l0.length → 1050 + (l0.length - i) < k →
    ∃ k', 550 < k' ∧ cleromancylaw25_StakeMeets.l1 k l0 a b both (rest a i) (l0.length : Int) (i : Int) = cleromancylaw25_StakeMeets.l1 k' l0 a b both (rest a l0.length) (l0.length : Int) (l0.length : Int)
  | 0, i, _, hk => by omega
  | k + 1, i, hi, hk => by
    by_cases h : i < l0.length
    · have hr := rest_len a i
      rw [cleromancylaw25_StakeMeets.l1, if_pos (by omega), in_is a _ (by omega) k (by omega), Option.bind_some, wrap_small ((i : Int) + 1) (by omega) (by omega), show (i : Int) + 1 = ((i + 1 : Nat) : Int) from by push_cast; rfl]
      obtain ⟨k', hk', ih⟩ := rest_go a b both l0 hl ha k (i + 1) (by omega) (by omega)
      refine ⟨k', hk', ?_⟩
      rw [← ih, rest]
      by_cases e : a.contains (i : Int) = true
      · rw [if_pos e, if_pos e, List.append_nil]
      · rw [if_neg e, if_neg e, if_pos (by omega)]
    · obtain rfl : i = l0.length := by omega
      exact ⟨k + 1, by omega, rfl⟩
theorem wsum_or (l : List Int) (P Q : Nat → Bool) : ∀ n, wsum l P n + wsum l Q n = wsum l (fun j => P j && Q j) n + wsum l (fun j => P j || Q j) n
  | 0 => rfl
  | n + 1 => by
    have := wsum_or l P Q n
    simp only [wsum]
    by_cases e : P n = true <;> by_cases f : Q n = true <;> simp [e, f] <;> omega
theorem wsum_le (l : List Int) (P Q : Nat → Bool) (h : ∀ j, P j = true → Q j = true) : ∀ n, wsum l P n ≤ wsum l Q n
  | 0 => by simp [wsum]
  | n + 1 => by
    have := wsum_le l P Q h n
    have := shr_range (rd l n)
    have := h n
    simp only [wsum]
    cases e : P n <;> cases f : Q n <;> simp_all <;> omega
theorem StakeMeets : cleromancylaw25_StakeMeets.Pure := by
  intro l a b _ _ hwl _ _ hwa _ _ hwb
  refine ⟨4000, ?_⟩
  rw [cleromancylaw25_StakeMeets.f, awake_is _ (by omega), Option.bind_some, if_pos rfl]
  by_cases h0 : (l.length : Int) > 500
  · rw [if_pos h0]; rw [show (4000 : Nat) = 3999 + 1 from rfl, cleromancylaw25_StakeMeets.j0, if_pos rfl]
  rw [if_neg h0]
  by_cases h1 : (a.length : Int) > 500
  · rw [if_pos h1]; rw [show (4000 : Nat) = 3999 + 1 from rfl, cleromancylaw25_StakeMeets.j0, if_pos rfl]
  rw [if_neg h1]
  by_cases h2 : (b.length : Int) > 500
  · rw [decide_eq_true h2]; rw [show (4000 : Nat) = 3999 + 1 from rfl, cleromancylaw25_StakeMeets.j0, if_pos rfl]
  rw [decide_eq_false h2, show (4000 : Nat) = 3999 + 1 from rfl, cleromancylaw25_StakeMeets.j0, if_neg (by decide)]
  obtain ⟨k1, hk1, e1⟩ := both_go a b (by omega) l a (by omega) 3999 0 [] (by omega) (by omega) (by simp)
  rw [show ((0 : Nat) : Int) = 0 from rfl] at e1
  rw [e1, List.drop_zero, List.nil_append]
  have hboth : ((a.filter fun x => b.contains x).length ≤ 500) := by have := List.length_filter_le (fun x => b.contains x) a; omega
  generalize hbo : (a.filter fun x => b.contains x) = both at hboth
  obtain ⟨k2, hk2, e2⟩ := rest_go a b both l (by omega) (by omega) k1 0 (by omega) (by omega)
  rw [rest, show ((0 : Nat) : Int) = 0 from rfl] at e2
  rw [e2]
  have hrl := rest_len a l.length
  have hrw : ∀ x ∈ rest a l.length, (Lit.int .i64 x).wf = true := fun x hx => by
    have h : (rest a l.length).contains x = true := by simpa using hx
    rw [rest_mem] at h
    simp only [Bool.and_eq_true, decide_eq_true_eq] at h
    exact WalkArith.wf_i64 (by omega)
  have hbw : ∀ x ∈ both, (Lit.int .i64 x).wf = true := fun x hx => hwa x (by rw [← hbo] at hx; exact (List.mem_filter.1 hx).1)
  obtain ⟨k, rfl⟩ : ∃ m, k2 = m + 1 := ⟨k2 - 1, by omega⟩
  rw [cleromancylaw25_StakeMeets.l1, if_neg (by omega), of_is l a (by omega) (by omega) hwa, Option.bind_some, of_is l b (by omega) (by omega) hwb, Option.bind_some]
  rw [most_is l (by omega) k (by omega), Option.bind_some, most_is l (by omega) k (by omega), Option.bind_some, of_is l both (by omega) hboth hbw, Option.bind_some, some_is l (by omega) k (by omega), Option.bind_some]
  have x1 : wsum l (fun j => both.contains (j : Int)) l.length = wsum l (fun j => a.contains (j : Int) && b.contains (j : Int)) l.length := wsum_congr l _ _ _ (fun j _ => by
    rw [← hbo]
    rw [Bool.eq_iff_iff]
    simp)
  have x2 : wsum l (fun j => (rest a l.length).contains (j : Int)) l.length = wsum l (fun j => !a.contains (j : Int)) l.length := wsum_congr l _ _ _ (fun j hj => by rw [rest_mem]; simp; omega)
  have x3 := wsum_or l (fun j => a.contains (j : Int)) (fun j => b.contains (j : Int)) l.length
  have x4 := wsum_le l (fun j => a.contains (j : Int) || b.contains (j : Int)) (fun _ => true) (fun _ _ => rfl) l.length
  have x5 := wsum_or l (fun j => a.contains (j : Int)) (fun j => !a.contains (j : Int)) l.length
  have x6 : wsum l (fun j => a.contains (j : Int) && !a.contains (j : Int)) l.length = 0 := wsum_false l _ _ (fun j _ => by simp)
  have x7 : wsum l (fun j => a.contains (j : Int) || !a.contains (j : Int)) l.length = wsum l (fun _ => true) l.length := wsum_congr l _ _ _ (fun j _ => by simp)
  have x8 := wsum_all l
  have x9 := tot_range l
  have xa := wsum_range l (fun j => a.contains (j : Int)) l.length
  have xb := wsum_range l (fun j => !a.contains (j : Int)) l.length
  rw [x1]
  rw [x6, x7, x8] at x5
  rw [x8] at x4
  generalize wsum l (fun j => a.contains (j : Int) && b.contains (j : Int)) l.length = vab at x3 ⊢
  generalize wsum l (fun j => a.contains (j : Int)) l.length = va at x3 x5 xa ⊢
  generalize wsum l (fun j => b.contains (j : Int)) l.length = vb at x3 ⊢
  have key : ∀ (c : Bool), c = false → cleromancylaw25_StakeMeets.j3 k l (rest a l.length) va c = some true := fun c hc => by
    obtain ⟨k3, rfl⟩ : ∃ m, k = m + 1 := ⟨k - 1, by omega⟩
    rw [cleromancylaw25_StakeMeets.j3, hc, if_neg (by decide), of_is l (rest a l.length) (by omega) (by omega) hrw, Option.bind_some, all_is l (by omega) k3 (by omega), Option.bind_some, x2]
    generalize wsum l (fun j => !a.contains (j : Int)) l.length = vl at x5 xb ⊢
    rw [wrap_small _ (by omega) (by omega), if_pos (by omega), some_is l (by omega) k3 (by omega), Option.bind_some, most_is l (by omega) k3 (by omega), Option.bind_some]
    by_cases c1 : tot l < 3 * vl
    · rw [decide_eq_true c1, if_pos rfl]
      have c2 : ¬ 2 * tot l < 3 * va := by omega
      rw [decide_eq_false c2, if_neg (by decide)]
      simp
    · rw [decide_eq_false c1, if_neg (by decide), Option.bind_some, wrap_small _ (by omega) (by omega)]
      by_cases c2 : 3 * vl < tot l
      · rw [if_pos c2]
      · rw [if_neg c2, decide_eq_false (by omega)]; rfl
  by_cases c1 : 2 * tot l < 3 * va
  · rw [decide_eq_true c1, if_pos rfl]
    by_cases c2 : 2 * tot l < 3 * vb
    · rw [decide_eq_true c2, if_pos rfl]
      exact key _ (by rw [decide_eq_true (by omega)]; rfl)
    · rw [decide_eq_false c2, if_neg (by decide)]
      exact key _ rfl
  · rw [decide_eq_false c1, if_neg (by decide)]
    exact key _ rfl

end Go.Proofs.Ytlngkcaaenpnaaa.Pure
