/- cleromancylaw25.StakeSums returns true for every input. No condition. -/
import Derived.Test.YtlngkcaaenpnaaaPStakeSumsx2
namespace Go.Proofs.Ytlngkcaaenpnaaa.Pure
open Go.RowKit Go.Proofs.Ytlngkcaaenpnaaa.PStakeSums Go.Proofs.YtlngkcaaenpnaaaW.PrintWords Go.Proofs.YtlngkcaaenpnaaaW.PrintLast Go.Proofs.YtlngkcaaenpnaaaW.PrintMore

/-! ### what stakes are together, on plain lists -/
def shr (x : Int) : Int := mn (mx x 0) 4096
theorem shr_range (x : Int) : 0 ≤ shr x ∧ shr x ≤ 4096 := by unfold shr mn mx; split <;> split <;> omega
def tot : List Int → Int
  | [] => 0
  | x :: r => shr x + tot r
theorem tot_range : ∀ l : List Int, 0 ≤ tot l ∧ tot l ≤ 4096 * l.length
  | [] => by simp [tot]
  | x :: r => by
    have := tot_range r
    have := shr_range x
    simp only [tot, List.length_cons]
    omega
theorem drop_cons_rd (l : List Int) (i : Nat) (h : i < l.length) : l.drop i = rd l (i : Int) :: l.drop (i + 1) := by
  rw [List.drop_eq_getElem_cons h]
  simp [rd, List.getD_eq_getElem?_getD, h]
theorem wrap_small (x : Int) (h0 : -9223372036854775808 ≤ x) (h1 : x ≤ 9223372036854775807) : wrap64 x = x := by unfold wrap64; omega

theorem all_go (l : List Int) (hl : l.length ≤ 100000) : ∀ (k i : Nat) (n : Int), i ≤ l.length → l.length - i < k → 0 ≤ n → n ≤ 4096 * i → stake_All.l0 k n l (l.length : Int) (i : Int) = some (n + tot (l.drop i))
  | 0, i, n, _, hk, _, _ => by omega
  | k + 1, i, n, hi, hk, h0, h1 => by
    rw [stake_All.l0]
    by_cases h : i < l.length
    · rw [if_pos (by omega), if_pos (by omega), if_pos (by omega), stake_share.f, Option.bind_some]
      have hs := shr_range (rd l i)
      change stake_All.l0 k (wrap64 (n + shr (rd l i))) l l.length (wrap64 ((i : Int) + 1)) = _
      rw [wrap_small _ (by omega) (by omega), wrap_small _ (by omega) (by omega)]
      have := all_go l hl k (i + 1) (n + shr (rd l i)) (by omega) (by omega) (by omega) (by push_cast; omega)
      rw [show (i : Int) + 1 = ((i + 1 : Nat) : Int) from by push_cast; rfl, this, drop_cons_rd l i h, tot]
      congr 1; omega
    · rw [if_neg (by omega), List.drop_of_length_le (by omega), tot]; simp
theorem all_is (l : List Int) (hl : l.length ≤ 100000) (k : Nat) (hk : l.length < k) : stake_All.f k l = some (tot l) := by
  have := all_go l hl k 0 0 (by omega) (by omega) (by omega) (by omega)
  simpa [stake_All.f] using this
theorem most_is (l : List Int) (hl : l.length ≤ 100000) (k : Nat) (hk : l.length < k) (n : Int) : stake_Most.f k l n = some (decide (2 * tot l < 3 * n)) := by
  have h := tot_range l
  rw [stake_Most.f, all_is l hl k hk, Option.bind_some, wrap_small (2 * tot l) (by omega) (by omega), Int.tdiv_eq_ediv_of_nonneg (by omega), wrap_small _ (by omega) (by omega)]
  congr 1
  exact decide_eq_decide.2 (by omega)
theorem some_is (l : List Int) (hl : l.length ≤ 100000) (k : Nat) (hk : l.length < k) (n : Int) : stake_Some.f k l n = some (decide (tot l < 3 * n)) := by
  have h := tot_range l
  rw [stake_Some.f, all_is l hl k hk, Option.bind_some, Int.tdiv_eq_ediv_of_nonneg (by omega), wrap_small _ (by omega) (by omega)]
  congr 1
  exact decide_eq_decide.2 (by omega)

/-- The sum of those that P picks, below n. -/
def wsum (l : List Int) (P : Nat → Bool) : Nat → Int
  | 0 => 0
  | n + 1 => wsum l P n + (if P n = true then shr (rd l n) else 0)
theorem wsum_congr (l : List Int) (P Q : Nat → Bool) : ∀ n, (∀ j, j < n → P j = Q j) → wsum l P n = wsum l Q n
  | 0, _ => rfl
  | n + 1, h => by rw [wsum, wsum, wsum_congr l P Q n (fun j hj => h j (by omega)), h n (by omega)]
theorem wsum_false (l : List Int) (P : Nat → Bool) : ∀ n, (∀ j, j < n → P j = false) → wsum l P n = 0
  | 0, _ => rfl
  | n + 1, h => by rw [wsum, wsum_false l P n (fun j hj => h j (by omega)), h n (by omega)]; rfl
theorem wsum_range (l : List Int) (P : Nat → Bool) : ∀ n, 0 ≤ wsum l P n ∧ wsum l P n ≤ 4096 * n
  | 0 => by simp [wsum]
  | n + 1 => by
    have := wsum_range l P n
    have := shr_range (rd l n)
    simp only [wsum]
    split <;> (push_cast; omega)
theorem wsum_one (l : List Int) (P Q : Nat → Bool) (x : Nat) (hp : P x = true) (hq : Q x = false) (h : ∀ j, j ≠ x → P j = Q j) : ∀ n, x < n → wsum l P n = wsum l Q n + shr (rd l x)
  | 0, hx => by omega
  | n + 1, hx => by
    by_cases e : x = n
    · subst e
      rw [wsum, wsum, hp, hq, wsum_congr l P Q x (fun j hj => h j (by omega))]
      simp
    · rw [wsum, wsum, wsum_one l P Q x hp hq h n (by omega), h n (by omega)]
      omega
theorem wsum_all (l : List Int) : wsum l (fun _ => true) l.length = tot l := by
  have : ∀ n, n ≤ l.length → wsum l (fun _ => true) n + tot (l.drop n) = tot l := by
    intro n
    induction n with
    | zero => intro _; simp [wsum]
    | succ n ih =>
      intro hn
      have h1 := ih (by omega)
      rw [drop_cons_rd l n (by omega), tot] at h1
      rw [wsum, if_pos rfl]
      omega
  have := this l.length (Nat.le_refl _)
  rw [List.drop_length, tot] at this
  omega

/-- What stake.Of comes to. -/
theorem of_go (l : List Int) : ∀ (r met : List Int) (n : Int), stake_Of.go l r met n = n + wsum l (fun j => r.contains (j : Int) && !met.contains (j : Int)) l.length
  | [], met, n => by rw [stake_Of.go, wsum_false l _ _ (fun j _ => by simp)]; omega
  | x :: r, met, n => by
    rw [stake_Of.go]
    by_cases h : met.contains x = true ∨ x < 0 ∨ (l.length : Int) ≤ x
    · rw [if_pos h, of_go l r met n]
      congr 1
      refine wsum_congr l _ _ _ (fun j hj => ?_)
      by_cases e : (j : Int) = x
      · rcases h with h | h | h
        · subst e; rw [h]; simp
        · omega
        · omega
      · have : ((j : Int) == x) = false := by simpa using e
        rw [List.contains_cons, this, Bool.false_or]
    · rw [if_neg h, of_go l r (met ++ [x]) _]
      have h1 : met.contains x = false := by cases e : met.contains x <;> simp_all
      obtain ⟨y, rfl⟩ : ∃ y : Nat, x = y := ⟨x.toNat, by omega⟩
      have := wsum_one l (fun j => ((y : Int) :: r).contains (j : Int) && !met.contains (j : Int)) (fun j => r.contains (j : Int) && !(met ++ [(y : Int)]).contains (j : Int)) y (by simp only [h1]; simp) (by simp) (fun j hj => by
        have : ((j : Int) == (y : Int)) = false := by simp; omega
        simp only [List.contains_cons, List.contains_append, this]; simp) l.length (by omega)
      rw [this]
      unfold shr
      omega
theorem of_is (l r : List Int) (hl : l.length ≤ 500) (hr : r.length ≤ 500) (hw : ∀ x ∈ r, (Lit.int .i64 x).wf = true) : stake_Of.f l r = some (wsum l (fun j => r.contains (j : Int)) l.length) := by
  rw [stake_Of.f, if_pos ⟨hl, hr, List.all_eq_true.2 hw⟩, of_go]
  congr 1
  rw [Int.zero_add]
  exact wsum_congr l _ _ _ (fun j _ => by simp)

/-- Is a number in a list? -/
theorem in_go (l : List Int) (x : Int) (hl : l.length ≤ 100000) : ∀ (k i : Nat), i ≤ l.length → l.length - i < k → cleromancyref25_In.l0 k l x (i : Int) = some ((l.drop i).contains x)
  | 0, i, _, hk => by omega
  | k + 1, i, hi, hk => by
    rw [cleromancyref25_In.l0]
    by_cases h : i < l.length
    · rw [if_pos (by omega), if_pos (by omega), drop_cons_rd l i h, List.contains_cons]
      by_cases e : rd l (i : Int) = x
      · rw [if_pos e, e]; simp
      · rw [if_neg e, wrap_small _ (by omega) (by omega), show (i : Int) + 1 = ((i + 1 : Nat) : Int) from by push_cast; rfl, in_go l x hl k (i + 1) (by omega) (by omega)]
        have : (x == rd l (i : Int)) = false := by simpa using fun h => e h.symm
        rw [this, Bool.false_or]
    · rw [if_neg (by omega), List.drop_of_length_le (by omega)]; simp
theorem in_is (l : List Int) (x : Int) (hl : l.length ≤ 100000) (k : Nat) (hk : l.length < k) : cleromancyref25_In.f k l x = some (l.contains x) := by
  have := in_go l x hl k 0 (by omega) (by omega)
  simpa [cleromancyref25_In.f] using this

theorem awake_is (k : Nat) (hk : 4 < k) : cleromancylaw25_awake.f k = some true := by
  have h1 : tot [1, 1, 1, 1] = 4 := by decide
  rw [cleromancylaw25_awake.f]
  simp [most_is, some_is, all_is, hk, h1]

theorem share_is (x : Int) : cleromancyref25_Share.f x = some (shr x) := by
  unfold cleromancyref25_Share.f shr mn mx
  repeat' split
  all_goals first | rfl | (congr 1; omega)
theorem rall_go (l : List Int) (hl : l.length ≤ 100000) : ∀ (k i : Nat) (n : Int), i ≤ l.length → l.length - i < k → 0 ≤ n → n ≤ 4096 * i → cleromancyref25_All.l0 k l n (i : Int) = some (n + tot (l.drop i))
  | 0, i, n, _, hk, _, _ => by omega
  | k + 1, i, n, hi, hk, h0, h1 => by
    rw [cleromancyref25_All.l0]
    by_cases h : i < l.length
    · have hs := shr_range (rd l i)
      rw [if_pos (by omega), if_pos (by omega), share_is, Option.bind_some, wrap_small _ (by omega) (by omega), wrap_small _ (by omega) (by omega)]
      have := rall_go l hl k (i + 1) (n + shr (rd l i)) (by omega) (by omega) (by omega) (by push_cast; omega)
      rw [show (i : Int) + 1 = ((i + 1 : Nat) : Int) from by push_cast; rfl, this, drop_cons_rd l i h, tot]
      congr 1; omega
    · rw [if_neg (by omega), List.drop_of_length_le (by omega), tot]; simp
theorem rall_is (l : List Int) (hl : l.length ≤ 100000) (k : Nat) (hk : l.length < k) : cleromancyref25_All.f k l = some (tot l) := by
  have := rall_go l hl k 0 0 (by omega) (by omega) (by omega) (by omega)
  simpa [cleromancyref25_All.f] using this
theorem rmost_is (l : List Int) (hl : l.length ≤ 100000) (k : Nat) (hk : l.length < k) (n : Int) : cleromancyref25_Most.f k l n = some (decide (2 * tot l < 3 * n)) := by
  have h := tot_range l
  rw [cleromancyref25_Most.f, rall_is l hl k hk, Option.bind_some]
  by_cases h1 : n > tot l
  · rw [if_pos h1]; congr 1; symm; simp; omega
  · rw [if_neg h1]
    by_cases h2 : n > 0
    · rw [if_pos h2, wrap_small _ (by omega) (by omega), wrap_small _ (by omega) (by omega)]
    · rw [if_neg h2]; congr 1; symm; simp; omega
theorem rsome_is (l : List Int) (hl : l.length ≤ 100000) (k : Nat) (hk : l.length < k) (n : Int) : cleromancyref25_Some.f k l n = some (decide (tot l < 3 * n)) := by
  have h := tot_range l
  rw [cleromancyref25_Some.f, rall_is l hl k hk, Option.bind_some]
  by_cases h1 : n > tot l
  · rw [if_pos h1]; congr 1; symm; simp; omega
  · rw [if_neg h1]
    by_cases h2 : n > 0
    · rw [if_pos h2, wrap_small _ (by omega) (by omega)]
    · rw [if_neg h2]; congr 1; symm; simp; omega
theorem rof_go (l r : List Int) (hl : l.length ≤ 500) (hr : r.length ≤ 500) : ∀ (k i : Nat), i ≤ l.length → 600 + (l.length - i) < k → cleromancyref25_Of.l0 k l r (wsum l (fun j => r.contains (j : Int)) i) (i : Int) = some (wsum l (fun j => r.contains (j : Int)) l.length)
  | 0, i, _, hk => by omega
  | k + 1, i, hi, hk => by
    rw [cleromancyref25_Of.l0]
    by_cases h : i < l.length
    · have hs := shr_range (rd l i)
      have hb := wsum_range l (fun j => r.contains (j : Int)) i
      have ih := rof_go l r hl hr k (i + 1) (by omega) (by omega)
      rw [if_pos (by omega), in_is r i (by omega) k (by omega), Option.bind_some, wrap_small ((i : Int) + 1) (by omega) (by omega), show (i : Int) + 1 = ((i + 1 : Nat) : Int) from by push_cast; rfl, ← ih, wsum]
      by_cases e : r.contains (i : Int) = true
      · rw [if_pos e, if_pos (by omega), share_is, Option.bind_some, if_pos e, wrap_small _ (by omega) (by omega)]
      · rw [if_neg e, if_neg e, Int.add_zero]
    · obtain rfl : i = l.length := by omega
      rw [if_neg (by omega)]
theorem rof_is (l r : List Int) (hl : l.length ≤ 500) (hr : r.length ≤ 500) (k : Nat) (hk : 1200 < k) : cleromancyref25_Of.f k l r = some (wsum l (fun j => r.contains (j : Int)) l.length) := by
  have := rof_go l r hl hr k 0 (by omega) (by omega)
  simpa [cleromancyref25_Of.f, wsum] using this

theorem StakeSums : cleromancylaw25_StakeSums.Pure := by
  intro l r n _ _ _ _ _ hw1 _
  refine ⟨2000, ?_⟩
  rw [cleromancylaw25_StakeSums.f, awake_is _ (by omega), Option.bind_some, if_pos rfl]
  by_cases h0 : (l.length : Int) > 500
  · rw [if_pos h0]; rfl
  rw [if_neg h0]
  by_cases h1 : (r.length : Int) > 500
  · rw [decide_eq_true h1]; rfl
  rw [decide_eq_false h1]
  rw [show (2000 : Nat) = 1999 + 1 from rfl, cleromancylaw25_StakeSums.j0, if_neg (by decide)]
  rw [all_is l (by omega) _ (by omega), rall_is l (by omega) _ (by omega), of_is l r (by omega) (by omega) hw1, rof_is l r (by omega) (by omega) _ (by omega), most_is l (by omega) _ (by omega), rmost_is l (by omega) _ (by omega), some_is l (by omega) _ (by omega), rsome_is l (by omega) _ (by omega)]
  simp

end Go.Proofs.Ytlngkcaaenpnaaa.Pure
