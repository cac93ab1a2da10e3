/- What the document's functions on numbers come to, in plain Lean. -/
import Derived.Test.YteapdhfeddgjbaaDoorSPDjx
namespace Go.Proofs.YteapdhfeddgjbaaDoor.Num
set_option linter.unusedVariables false
open Go.RowKit Go.Proofs.YteapdhfeddgjbaaDoor.PDj Go.Proofs.YteapdhfeddgjbaaDoorW Go.Proofs.YteapdhfeddgjbaaDoorW.PrintWords Go.Proofs.YteapdhfeddgjbaaDoorW.PrintLast Go.Proofs.YteapdhfeddgjbaaDoorW.PrintMore

/-! ### numbers as digits of 24 bits, on plain lists -/
theorem w64 (x : Int) (h0 : -9223372036854775808 ≤ x) (h1 : x ≤ 9223372036854775807) : wrap64 x = x := by unfold wrap64; omega
theorem natCast_succ' (i : Nat) : (i : Int) + 1 = ((i + 1 : Nat) : Int) := by push_cast; rfl
theorem rd_nat (l : List Int) (i : Nat) (h : i < l.length) : rd l (i : Int) = l[i] := by simp [rd, List.getD_eq_getElem?_getD, h]
theorem drop_rd (l : List Int) (i : Nat) (h : i < l.length) : l.drop i = rd l (i : Int) :: l.drop (i + 1) := by
  rw [List.drop_eq_getElem_cons h, rd_nat l i h]
theorem take_rd (l : List Int) (i : Nat) (h : i < l.length) : l.take (i + 1) = l.take i ++ [rd l (i : Int)] := by
  rw [rd_nat l i h, List.take_succ_eq_append_getElem h]

def vn : List Int → Nat
  | [] => 0
  | x :: r => x.toNat + 16777216 * vn r
def Dg (l : List Int) : Prop := ∀ x ∈ l, 0 ≤ x ∧ x < 16777216
theorem Dg.nil : Dg [] := fun _ h => by cases h
theorem Dg.cons {x : Int} {r : List Int} (h0 : 0 ≤ x ∧ x < 16777216) (h : Dg r) : Dg (x :: r) := fun y hy => by
  rcases List.mem_cons.1 hy with rfl | hy
  · exact h0
  · exact h y hy
theorem Dg.head {x : Int} {r : List Int} (h : Dg (x :: r)) : 0 ≤ x ∧ x < 16777216 := h x List.mem_cons_self
theorem Dg.tail {x : Int} {r : List Int} (h : Dg (x :: r)) : Dg r := fun y hy => h y (List.mem_cons_of_mem _ hy)
theorem Dg.append {a b : List Int} (ha : Dg a) (hb : Dg b) : Dg (a ++ b) := fun x hx => by
  rcases List.mem_append.1 hx with h | h
  · exact ha x h
  · exact hb x h
theorem Dg.rd {l : List Int} (h : Dg l) (i : Int) : 0 ≤ rd l i ∧ rd l i < 16777216 := by
  unfold PrintWords.rd
  rw [List.getD_eq_getElem?_getD]
  by_cases hi : i.toNat < l.length
  · rw [List.getElem?_eq_getElem hi]; exact h _ (List.getElem_mem hi)
  · rw [List.getElem?_eq_none (by omega)]; decide
theorem Dg.take {l : List Int} (h : Dg l) (n : Nat) : Dg (l.take n) := fun x hx => h x (List.mem_of_mem_take hx)
theorem Dg.drop {l : List Int} (h : Dg l) (n : Nat) : Dg (l.drop n) := fun x hx => h x (List.mem_of_mem_drop hx)
theorem vn_append : ∀ a b : List Int, vn (a ++ b) = vn a + 16777216 ^ a.length * vn b
  | [], b => by simp [vn]
  | x :: a, b => by
    rw [List.cons_append, vn, vn, vn_append a b, List.length_cons, Nat.pow_succ, Nat.mul_add, ← Nat.mul_assoc, Nat.mul_comm (16777216 ^ a.length) 16777216]; omega
theorem vn_lt : ∀ {l : List Int}, Dg l → vn l < 16777216 ^ l.length
  | [], _ => by simp [vn]
  | x :: r, h => by
    have h1 := h.head
    have h2 := vn_lt h.tail
    rw [vn, List.length_cons, Nat.pow_succ]
    omega

/-- The digits of a number, none of them nought at the end. -/
def dg (n : Nat) : List Int := if n = 0 then [] else ((n % 16777216 : Nat) : Int) :: dg (n / 16777216)
termination_by n
decreasing_by omega
theorem dg_zero : dg 0 = [] := by rw [dg]; rfl
theorem dg_pos {n : Nat} (h : n ≠ 0) : dg n = ((n % 16777216 : Nat) : Int) :: dg (n / 16777216) := by rw [dg, if_neg h]
theorem dg_Dg (n : Nat) : Dg (dg n) := by
  induction n using Nat.strongRecOn with
  | ind n ih =>
    by_cases h : n = 0
    · rw [h, dg_zero]; exact Dg.nil
    · rw [dg_pos h]; exact Dg.cons (by omega) (ih _ (by omega))
theorem vn_dg (n : Nat) : vn (dg n) = n := by
  induction n using Nat.strongRecOn with
  | ind n ih =>
    by_cases h : n = 0
    · rw [h, dg_zero]; rfl
    · rw [dg_pos h, vn, ih _ (by omega)]; omega
theorem dg_nil {n : Nat} : dg n = [] ↔ n = 0 := ⟨fun h => by rw [← vn_dg n, h]; rfl, fun h => by rw [h, dg_zero]⟩
theorem dg_cons (x : Int) (m : Nat) (h0 : 0 ≤ x ∧ x < 16777216) (h : x ≠ 0 ∨ m ≠ 0) : dg (x.toNat + 16777216 * m) = x :: dg m := by
  rw [dg_pos (by omega)]
  congr 1
  · omega
  · congr 1; omega
/-- Without noughts at the end. -/
def tr : List Int → List Int
  | [] => []
  | x :: r => if tr r = [] ∧ x = 0 then [] else x :: tr r
theorem tr_dg : ∀ {l : List Int}, Dg l → tr l = dg (vn l)
  | [], _ => by rw [tr, vn, dg_zero]
  | x :: r, h => by
    rw [tr, vn, tr_dg h.tail]
    have h0 := h.head
    by_cases hc : dg (vn r) = [] ∧ x = 0
    · rw [if_pos hc, dg_nil.1 hc.1, hc.2]; simp [dg_zero]
    · rw [if_neg hc, dg_cons x _ h0]
      by_cases hx : x = 0
      · exact Or.inr fun hm => hc ⟨dg_nil.2 hm, hx⟩
      · exact Or.inl hx
theorem tr_zero : ∀ l : List Int, tr (l ++ [0]) = tr l
  | [] => by simp [tr]
  | x :: r => by rw [List.cons_append, tr, tr, tr_zero r]
theorem tr_last : ∀ (l : List Int) (x : Int), x ≠ 0 → tr (l ++ [x]) = l ++ [x]
  | [], x, h => by simp [tr, h]
  | y :: r, x, h => by rw [List.cons_append, tr, tr_last r x h, if_neg (by simp)]
/-- What Trim comes to. -/
theorem trim_go (l : List Int) (hl : l.length ≤ 1000000000) : ∀ (k n : Nat), n ≤ l.length → n < k → cleromancyref01_Trim.l0 k l (n : Int) = some (tr (l.take n))
  | 0, n, _, hk => by omega
  | k + 1, 0, _, _ => by rw [cleromancyref01_Trim.l0, if_neg (by omega), if_pos (by omega), if_pos (by omega)]; simp [tr]
  | k + 1, n + 1, hn, hk => by
    rw [cleromancyref01_Trim.l0, if_pos (by omega), w64 _ (by omega) (by omega), show ((n + 1 : Nat) : Int) - 1 = (n : Int) from by omega, if_pos (by omega), if_pos (by omega), take_rd l n (by omega)]
    by_cases e : rd l (n : Int) = 0
    · rw [if_pos e, trim_go l hl k n (by omega) (by omega), e, tr_zero]
    · rw [if_neg e, if_pos (by omega), if_pos (by omega), tr_last _ _ e, ← take_rd l n (by omega)]
      congr 2
theorem trim_is (l : List Int) (hl : l.length ≤ 1000000000) (k : Nat) (hk : l.length < k) : cleromancyref01_Trim.f k l = some (tr l) := by
  rw [cleromancyref01_Trim.f, trim_go l hl k l.length (Nat.le_refl _) hk, List.take_length]
/-- A number's digits. -/
theorem int_go : ∀ (k n : Nat) (out : List Int), n < 16777216 ^ k → n ≤ 9223372036854775807 → out.length + k ≤ 1000 → cleromancyref01_Int.l0 (k + 1) (n : Int) out = some (out ++ dg n)
  | 0, n, out, hn, _, _ => by
    obtain rfl : n = 0 := by simpa using hn
    rw [cleromancyref01_Int.l0, if_neg (by omega), dg_zero, List.append_nil]
  | k + 1, n, out, hn, hm, ho => by
    rw [cleromancyref01_Int.l0]
    by_cases h : n = 0
    · subst h; rw [if_neg (by omega), dg_zero, List.append_nil]
    · rw [Nat.pow_succ] at hn
      rw [if_pos (by omega), if_pos (by omega), Int.tdiv_eq_ediv_of_nonneg (by omega), Int.tmod_eq_emod_of_nonneg (by omega), w64 _ (by omega) (by omega), show ((n : Int) / 16777216) = ((n / 16777216 : Nat) : Int) from by omega, int_go k (n / 16777216) _ (by omega) (by omega) (by simp; omega), dg_pos h, List.append_assoc, show ((n : Int) % 16777216) = ((n % 16777216 : Nat) : Int) from by omega]
      rfl
theorem int_is (n : Nat) (hn : n ≤ 9223372036854775807) (k : Nat) (hk : 3 < k) : cleromancyref01_Int.f k (n : Int) = some (dg n) := by
  have := int_go 3 n [] (by omega) hn (by simp)
  rw [List.nil_append] at this
  exact at_rounds (g := fun k => cleromancyref01_Int.f k (n : Int)) (fun j => cleromancyref01_Int.mono _ j) (by omega : 4 ≤ k) this
theorem rd_out (l : List Int) (i : Nat) (h : l.length ≤ i) : rd l (i : Int) = 0 := by simp [rd, List.getD_eq_getElem?_getD, h]
theorem vn_drop (l : List Int) (i : Nat) : vn (l.drop i) = (rd l (i : Int)).toNat + 16777216 * vn (l.drop (i + 1)) := by
  by_cases h : i < l.length
  · rw [drop_rd l i h, vn]
  · rw [rd_out l i (by omega), List.drop_of_length_le (by omega), List.drop_of_length_le (by omega)]; rfl
theorem vn_drop_all (l : List Int) (i : Nat) (h : l.length ≤ i) : vn (l.drop i) = 0 := by rw [List.drop_of_length_le h]; rfl
theorem dg_len_le (n : Nat) : ∀ m, n < 16777216 ^ m → (dg n).length ≤ m := by
  induction n using Nat.strongRecOn with
  | ind n ih =>
    intro m hm
    by_cases h : n = 0
    · rw [h, dg_zero]; simp
    · cases m with
      | zero => simp at hm; omega
      | succ m =>
        rw [dg_pos h, List.length_cons]
        have := ih (n / 16777216) (by omega) m (by rw [Nat.pow_succ] at hm; omega)
        omega
theorem Dg.tr {l : List Int} (h : Dg l) : Dg (tr l) := by rw [tr_dg h]; exact dg_Dg _
theorem add_go (a b : List Int) (ha : Dg a) (hb : Dg b) (N : Nat) (hla : a.length ≤ N) (hlb : b.length ≤ N) (hN : N ≤ 1000000) : ∀ (r k i : Nat) (c : Int) (out : List Int), i + r = N + 1 → 2 * r + 2 ≤ k → 0 ≤ c ∧ c ≤ 1 → (i ≤ N ∨ c = 0) → out.length ≤ i →
    ∃ z, Dg z ∧ vn z = vn (a.drop i) + vn (b.drop i) + c.toNat ∧ cleromancyref01_Add.l0 (k + N + 10) a b out c (i : Int) = some (tr (out ++ z))
  | 0, k, i, c, out, hi, hk, hc, hic, ho => by
    obtain rfl : c = 0 := by omega
    refine ⟨[], Dg.nil, by rw [vn_drop_all a i (by omega), vn_drop_all b i (by omega)]; rfl, ?_⟩
    obtain ⟨k, rfl⟩ : ∃ m, k = m + 2 := ⟨k - 2, by omega⟩
    rw [show k + 2 + N + 10 = (k + N + 10 + 1) + 1 from by omega, cleromancyref01_Add.l0, if_neg (by omega), if_neg (by omega), decide_eq_false (by omega), cleromancyref01_Add.j1, if_neg (by decide), trim_is out (by omega) _ (by omega), List.append_nil]
    rfl
  | r + 1, k, i, c, out, hi, hk, hc, hic, ho => by
    obtain ⟨k, rfl⟩ : ∃ m, k = m + 2 := ⟨k - 2, by omega⟩
    have da := ha.rd (i : Int)
    have db := hb.rd (i : Int)
    have va := vn_drop a i
    have vb := vn_drop b i
    by_cases hstop : a.length ≤ i ∧ b.length ≤ i ∧ c = 0
    · obtain ⟨h1, h2, rfl⟩ := hstop
      refine ⟨[], Dg.nil, by rw [vn_drop_all a i (by omega), vn_drop_all b i (by omega)]; rfl, ?_⟩
      rw [show k + 2 + N + 10 = (k + N + 10 + 1) + 1 from by omega, cleromancyref01_Add.l0, if_neg (by omega), if_neg (by omega), decide_eq_false (by omega), cleromancyref01_Add.j1, if_neg (by decide), trim_is out (by omega) _ (by omega), List.append_nil]
      rfl
    · obtain ⟨z, hz, vz, e⟩ := add_go a b ha hb N hla hlb hN r k (i + 1) ((c + rd a i + rd b i) / 16777216) (out ++ [(c + rd a i + rd b i) % 16777216]) (by omega) (by omega) (by omega) (by
        by_cases h : i + 1 ≤ N
        · exact Or.inl h
        · have e1 := rd_out a i (by omega)
          have e2 := rd_out b i (by omega)
          rw [e1, e2]; right; omega) (by simp; omega)
      refine ⟨(c + rd a i + rd b i) % 16777216 :: z, Dg.cons (by omega) hz, by rw [vn, vz, va, vb]; omega, ?_⟩
      have key : cleromancyref01_Add.j1 (k + N + 10 + 1) a b out c (i : Int) true = some (tr (out ++ (c + rd a i + rd b i) % 16777216 :: z)) := by
        rw [cleromancyref01_Add.j1, if_pos rfl]
        rw [List.append_assoc] at e
        rw [w64 ((i : Int) + 1) (by omega) (by omega), natCast_succ']
        by_cases h1 : i < a.length
        · rw [if_pos (by omega), if_pos (by omega)]
          by_cases h2 : i < b.length
          · rw [if_pos (by omega), if_pos (by omega), w64 (c + rd a i) (by omega) (by omega), w64 _ (by omega) (by omega), Int.tdiv_eq_ediv_of_nonneg (by omega), Int.tmod_eq_emod_of_nonneg (by omega), w64 _ (by omega) (by omega)]
            exact e
          · have e2 := rd_out b i (by omega)
            simp only [e2, Int.add_zero] at e ⊢
            rw [if_neg (by omega), if_pos (by omega), w64 (c + rd a i) (by omega) (by omega), Int.tdiv_eq_ediv_of_nonneg (by omega), Int.tmod_eq_emod_of_nonneg (by omega), w64 _ (by omega) (by omega)]
            exact e
        · have e1 := rd_out a i (by omega)
          simp only [e1, Int.add_zero] at e ⊢
          rw [if_neg (by omega)]
          by_cases h2 : i < b.length
          · rw [if_pos (by omega), if_pos (by omega), if_pos (by omega), w64 (c + rd b i) (by omega) (by omega), Int.tdiv_eq_ediv_of_nonneg (by omega), Int.tmod_eq_emod_of_nonneg (by omega), w64 _ (by omega) (by omega)]
            exact e
          · have e2 := rd_out b i (by omega)
            simp only [e2, Int.add_zero] at e ⊢
            rw [if_neg (by omega), if_pos (by omega), Int.tdiv_eq_ediv_of_nonneg (by omega), Int.tmod_eq_emod_of_nonneg (by omega), w64 _ (by omega) (by omega)]
            exact e
      rw [show k + 2 + N + 10 = (k + N + 10 + 1) + 1 from by omega, cleromancyref01_Add.l0]
      by_cases h1 : i < a.length
      · rw [if_pos (by omega)]; exact key
      · rw [if_neg (by omega)]
        by_cases h2 : i < b.length
        · rw [if_pos (by omega)]; exact key
        · rw [if_neg (by omega), decide_eq_true (by omega)]; exact key
theorem add_is (a b : List Int) (ha : Dg a) (hb : Dg b) (N : Nat) (hla : a.length ≤ N) (hlb : b.length ≤ N) (hN : N ≤ 1000000) (k : Nat) (hk : 4 * N + 30 ≤ k) : cleromancyref01_Add.f k a b = some (dg (vn a + vn b)) := by
  obtain ⟨z, hz, vz, e⟩ := add_go a b ha hb N hla hlb hN (N + 1) (k - N - 10) 0 0 [] (by omega) (by omega) (by omega) (by omega) (by simp)
  rw [show k - N - 10 + N + 10 = k from by omega] at e
  have e' : cleromancyref01_Add.l0 k a b [] 0 0 = _ := e
  rw [cleromancyref01_Add.f, e', List.nil_append, tr_dg hz, vz]
  simp

theorem pow2_go : ∀ (r k i n : Nat), i + r = n → n ≤ 62 → r < k → cleromancyref01_Pow2.l0 k (n : Int) ((2 ^ i : Nat) : Int) (i : Int) = some ((2 ^ n : Nat) : Int)
  | 0, k, i, n, hi, hn, hk => by
    obtain ⟨k, rfl⟩ : ∃ m, k = m + 1 := ⟨k - 1, by omega⟩
    obtain rfl : i = n := by omega
    rw [cleromancyref01_Pow2.l0, if_neg (by omega)]
  | r + 1, k, i, n, hi, hn, hk => by
    obtain ⟨k, rfl⟩ : ∃ m, k = m + 1 := ⟨k - 1, by omega⟩
    have h1 : 2 ^ i ≤ 2 ^ 61 := Nat.pow_le_pow_right (by omega) (by omega)
    have ih := pow2_go r k (i + 1) n (by omega) hn (by omega)
    rw [Nat.pow_succ] at ih
    generalize 2 ^ i = P at h1 ih ⊢
    rw [cleromancyref01_Pow2.l0, if_pos (by omega), w64 _ (by omega) (by omega), w64 _ (by omega) (by omega), natCast_succ', show (2 : Int) * (P : Int) = ((P * 2 : Nat) : Int) from by omega]
    exact ih
theorem pow2_is (n : Nat) (hn : n ≤ 62) (k : Nat) (hk : n < k) : cleromancyref01_Pow2.f k (n : Int) = some ((2 ^ n : Nat) : Int) := pow2_go n k 0 n (by omega) hn hk

theorem vn_set : ∀ (l : List Int) (p : Nat) (v : Int), p < l.length → vn (l.set p v) + 16777216 ^ p * (rd l (p : Int)).toNat = vn l + 16777216 ^ p * v.toNat
  | [], p, v, h => by simp at h
  | x :: r, 0, v, _ => by simp [vn, rd]; omega
  | x :: r, p + 1, v, h => by
    have ih := vn_set r p v (by simpa using h)
    have e : rd (x :: r) ((p + 1 : Nat) : Int) = rd r (p : Int) := by simp [rd]
    rw [List.set_cons_succ, vn, vn, e, Nat.pow_succ, Nat.mul_comm (16777216 ^ p) 16777216, Nat.mul_assoc, Nat.mul_assoc]
    omega
theorem rd_set (l : List Int) (p q : Nat) (v : Int) (h : p < l.length) : rd (l.set p v) (q : Int) = if p = q then v else rd l (q : Int) := by
  simp only [rd, List.getD_eq_getElem?_getD, Int.toNat_natCast, List.getElem?_set]
  split
  · simp [*]
  · rfl
theorem Dg.set {l : List Int} (h : Dg l) (p : Nat) {v : Int} (hv : 0 ≤ v ∧ v < 16777216) : Dg (l.set p v) := fun x hx => by
  rcases List.mem_or_eq_of_mem_set hx with h1 | rfl
  · exact h x h1
  · exact hv
theorem vn_take_succ (l : List Int) (i : Nat) : vn (l.take (i + 1)) = vn (l.take i) + 16777216 ^ i * (rd l (i : Int)).toNat := by
  by_cases h : i < l.length
  · rw [take_rd l i h, vn_append, vn, vn, show (l.take i).length = i from by simp; omega]; simp
  · rw [rd_out l i (by omega), List.take_of_length_le (by omega), List.take_of_length_le (by omega)]; simp
theorem mul_in (a b : List Int) (ha : Dg a) (hb : Dg b) (hl : a.length + b.length ≤ 1000000) (i : Nat) (hi : i < a.length) : ∀ (r k j : Nat) (c : Int) (out : List Int), j + r = b.length → 0 ≤ c ∧ c < 16777216 → out.length = a.length + b.length + 1 → Dg out → (∀ p, i + b.length ≤ p → rd out ((p : Nat) : Int) = 0) →
    vn out + 16777216 ^ (i + j) * c.toNat = vn (a.take i) * vn b + 16777216 ^ i * ((rd a (i : Int)).toNat * vn (b.take j)) →
    ∃ out', out'.length = a.length + b.length + 1 ∧ Dg out' ∧ (∀ p, i + 1 + b.length ≤ p → rd out' ((p : Nat) : Int) = 0) ∧ vn out' = vn (a.take (i + 1)) * vn b ∧
      cleromancyref01_Mul.l1 (k + r + 1) a b out (i : Int) c (j : Int) = cleromancyref01_Mul.l0 k a b out' ((i + 1 : Nat) : Int)
  | 0, k, j, c, out, hj, hc, ho, hd, hz, hv => by
    obtain rfl : j = b.length := by omega
    have hz0 := hz (i + b.length) (Nat.le_refl _)
    refine ⟨out.set (i + b.length) c, by rw [List.length_set, ho], hd.set _ hc, fun p hp => ?_, ?_, ?_⟩
    · rw [rd_set _ _ _ _ (by omega), if_neg (by omega)]; exact hz p (by omega)
    · have h1 := vn_set out (i + b.length) c (by omega)
      rw [hz0] at h1
      rw [List.take_length] at hv
      rw [vn_take_succ a i, Nat.add_mul]
      simp at h1
      rw [h1, hv, Nat.mul_assoc]
    · rw [show k + 0 + 1 = k + 1 from rfl, cleromancyref01_Mul.l1, if_neg (by omega), w64 ((i : Int) + _) (by omega) (by omega), if_pos (by omega), if_pos (by omega), show (i : Int) + (b.length : Int) = ((i + b.length : Nat) : Int) from by push_cast; rfl, hz0, w64 _ (by omega) (by omega), w64 _ (by omega) (by omega), natCast_succ', Int.toNat_natCast, Int.zero_add]
  | r + 1, k, j, c, out, hj, hc, ho, hd, hz, hv => by
    have da := ha.rd (i : Int)
    have db := hb.rd (j : Int)
    have dx := hd.rd ((i + j : Nat) : Int)
    have hp1 : 0 ≤ rd a (i : Int) * rd b (j : Int) := Int.mul_nonneg da.1 db.1
    have hp2 : rd a (i : Int) * rd b (j : Int) ≤ 16777215 * 16777215 := Int.mul_le_mul (by omega) (by omega) db.1 (by omega)
    have hp3 : (rd a (i : Int) * rd b (j : Int)).toNat = (rd a (i : Int)).toNat * (rd b (j : Int)).toNat := Int.toNat_mul da.1 db.1
    obtain ⟨t, ht⟩ : ∃ t, t = c + rd out ((i + j : Nat) : Int) + rd a (i : Int) * rd b (j : Int) := ⟨_, rfl⟩
    have hs := vn_set out (i + j) (t % 16777216) (by omega)
    have htn : t.toNat = c.toNat + (rd out ((i + j : Nat) : Int)).toNat + (rd a (i : Int)).toNat * (rd b (j : Int)).toNat := by rw [← hp3]; omega
    have hd1 : (t % 16777216).toNat + 16777216 * (t / 16777216).toNat = t.toNat := by omega
    obtain ⟨out', h1, h2, h3, h4, h5⟩ := mul_in a b ha hb hl i hi r k (j + 1) (t / 16777216) (out.set (i + j) (t % 16777216)) (by omega) (by omega) (by rw [List.length_set, ho]) (hd.set _ (by omega)) (fun p hp => by rw [rd_set _ _ _ _ (by omega), if_neg (by omega)]; exact hz p hp) (by
      rw [vn_take_succ b j]
      generalize vn (out.set (i + j) (t % 16777216)) = vo at hs ⊢
      generalize (rd a (i : Int)).toNat = x at hv htn ⊢
      generalize (rd b (j : Int)).toNat = y at htn ⊢
      generalize (rd out ((i + j : Nat) : Int)).toNat = z at hs htn
      generalize (t % 16777216).toNat = u at hs hd1
      generalize (t / 16777216).toNat = v at hd1 ⊢
      have e1 : 16777216 ^ (i + (j + 1)) = 16777216 ^ (i + j) * 16777216 := by rw [← Nat.add_assoc, Nat.pow_succ]
      have e2 : (16777216 : Nat) ^ (i + j) = 16777216 ^ i * 16777216 ^ j := Nat.pow_add ..
      have e3 : 16777216 ^ (i + j) * (u + 16777216 * v) = 16777216 ^ (i + j) * (c.toNat + z + x * y) := by rw [hd1, htn]
      rw [e1]
      rw [Nat.mul_add, Nat.mul_add, Nat.mul_add] at e3
      have e4 : 16777216 ^ i * (x * (vn (b.take j) + 16777216 ^ j * y)) = 16777216 ^ i * (x * vn (b.take j)) + 16777216 ^ (i + j) * (x * y) := by rw [e2]; grind
      rw [e4, Nat.mul_assoc]
      omega)
    refine ⟨out', h1, h2, h3, h4, ?_⟩
    rw [← h5, show k + (r + 1) + 1 = (k + r + 1) + 1 from by omega, cleromancyref01_Mul.l1, if_pos (by omega), w64 ((i : Int) + (j : Int)) (by omega) (by omega), show (i : Int) + (j : Int) = ((i + j : Nat) : Int) from by push_cast; rfl, if_pos (by omega), if_pos (by omega), if_pos (by omega), if_pos (by omega), if_pos (by omega), w64 ((j : Int) + 1) (by omega) (by omega), natCast_succ', w64 (rd a (i : Int) * rd b (j : Int)) (by omega) (by omega), w64 (c + _) (by omega) (by omega), w64 (c + _ + _) (by omega) (by omega), ← ht, Int.tmod_eq_emod_of_nonneg (by omega), Int.tdiv_eq_ediv_of_nonneg (by omega), w64 _ (by omega) (by omega), Int.toNat_natCast]
theorem mul_go (a b : List Int) (ha : Dg a) (hb : Dg b) (hl : a.length + b.length ≤ 1000000) : ∀ (r k i : Nat) (out : List Int), i + r = a.length → out.length = a.length + b.length + 1 → Dg out → (∀ p, i + b.length ≤ p → rd out ((p : Nat) : Int) = 0) → vn out = vn (a.take i) * vn b →
    cleromancyref01_Mul.l0 (k + 1000010 + r * (b.length + 2)) a b out (i : Int) = some (dg (vn a * vn b))
  | 0, k, i, out, hi, ho, hd, hz, hv => by
    obtain rfl : i = a.length := by omega
    rw [Nat.zero_mul, Nat.add_zero, cleromancyref01_Mul.l0, if_neg (by omega), trim_is out (by omega) _ (by omega), Option.bind_some, tr_dg hd, hv, List.take_length]
  | r + 1, k, i, out, hi, ho, hd, hz, hv => by
    obtain ⟨out', h1, h2, h3, h4, h5⟩ := mul_in a b ha hb hl i (by omega) b.length (k + 1000010 + r * (b.length + 2)) 0 0 out (by omega) (by omega) ho hd hz (by simp [hv, vn])
    have ih := mul_go a b ha hb hl r k (i + 1) out' (by omega) h1 h2 h3 h4
    rw [Nat.add_mul, Nat.one_mul, show k + 1000010 + (r * (b.length + 2) + (b.length + 2)) = (k + 1000010 + r * (b.length + 2) + b.length + 1) + 1 from by omega, cleromancyref01_Mul.l0, if_pos (by omega)]
    rw [← ih, ← h5]
    rfl
theorem Dg.zeros (n : Nat) : Dg (List.replicate n 0) := fun x hx => by rw [(List.mem_replicate.1 hx).2]; decide
theorem vn_zeros : ∀ n : Nat, vn (List.replicate n 0) = 0
  | 0 => rfl
  | n + 1 => by rw [List.replicate_succ, vn, vn_zeros n]; rfl
theorem mul_is (a b : List Int) (ha : Dg a) (hb : Dg b) (hl : a.length + b.length ≤ 1000000) (k : Nat) (hk : 1000010 + a.length * (b.length + 2) ≤ k) : cleromancyref01_Mul.f k a b = some (dg (vn a * vn b)) := by
  have := mul_go a b ha hb hl a.length (k - 1000010 - a.length * (b.length + 2)) 0 (List.replicate (a.length + b.length + 1) 0) (by omega) (by simp) (Dg.zeros _) (fun p _ => by simp [rd, List.getD_eq_getElem?_getD, List.getElem?_replicate]; split <;> rfl) (by simp [vn_zeros, vn])
  rw [show k - 1000010 - a.length * (b.length + 2) + 1000010 + a.length * (b.length + 2) = k from by omega] at this
  rw [cleromancyref01_Mul.f, w64 ((a.length : Int) + _) (by omega) (by omega), w64 _ (by omega) (by omega), if_pos (by omega), if_pos (by omega), show ((a.length : Int) + (b.length : Int) + 1).toNat = a.length + b.length + 1 from by omega]
  exact this
theorem Ev.then {α β : Type} {g : Nat → Option α} {f : Nat → α → Option β} {a : α} {r : β} (h : Ev g a) (k : Ev (fun n => f n a) r) : Ev (fun n => (g n).bind (f n)) r := Ev.bind h k
theorem Ev.at {α : Type} {g : Nat → Option α} {r : α} (K : Nat) (h : ∀ k, K ≤ k → g k = some r) : Ev g r := ⟨K, h⟩
theorem pow2_ev (n : Nat) (hn : n ≤ 62) : Ev (fun k => cleromancyref01_Pow2.f k (n : Int)) ((2 ^ n : Nat) : Int) := ⟨n + 1, fun k hk => pow2_is n hn k (by omega)⟩
theorem int_ev (n : Nat) (hn : n ≤ 9223372036854775807) : Ev (fun k => cleromancyref01_Int.f k (n : Int)) (dg n) := ⟨4, fun k hk => int_is n hn k (by omega)⟩
theorem trim_ev (l : List Int) (hd : Dg l) (hl : l.length ≤ 1000000) : Ev (fun k => cleromancyref01_Trim.f k l) (dg (vn l)) := ⟨l.length + 1, fun k hk => by show cleromancyref01_Trim.f k l = _; rw [trim_is l (by omega) k (by omega), tr_dg hd]⟩
theorem add_ev (a b : List Int) (ha : Dg a) (hb : Dg b) (hla : a.length ≤ 1000000) (hlb : b.length ≤ 1000000) : Ev (fun k => cleromancyref01_Add.f k a b) (dg (vn a + vn b)) := ⟨4000030, fun k hk => add_is a b ha hb 1000000 hla hlb (by omega) k (by omega)⟩
theorem mul_ev (a b : List Int) (ha : Dg a) (hb : Dg b) (hl : a.length + b.length ≤ 1000000) : Ev (fun k => cleromancyref01_Mul.f k a b) (dg (vn a * vn b)) := ⟨_, fun k hk => mul_is a b ha hb hl k hk⟩
theorem dg_len_small (n : Nat) (h : n ≤ 9223372036854775807) : (dg n).length ≤ 3 := dg_len_le n 3 (by omega)
theorem small_ev (a : List Int) (ha : Dg a) (hl : a.length ≤ 999000) (n : Nat) (hn : n ≤ 9223372036854775807) : Ev (fun k => cleromancyref01_Small.f k a (n : Int)) (dg (vn a * n)) := by
  have h3 := dg_len_small n hn
  refine Ev.congr (fun k => rfl) ?_
  unfold cleromancyref01_Small.f
  refine Ev.bind (int_ev n hn) ?_
  refine Ev.bind (mul_ev a (dg n) ha (dg_Dg n) (by omega)) ?_
  rw [vn_dg]
  exact Ev.now _
theorem shift_ev (a : List Int) (ha : Dg a) (n : Nat) (hn : n ≤ 400000) (hl : a.length ≤ 400000) : Ev (fun k => cleromancyref01_Shift.f k a (n : Int)) (dg (vn a * 2 ^ n)) := by
  unfold cleromancyref01_Shift.f
  by_cases h : a.length = 0
  · obtain rfl := List.eq_nil_of_length_eq_zero h
    refine Ev.congr (fun k => by rw [if_pos (by simp)]) ?_
    rw [vn, Nat.zero_mul, dg_zero]
    exact Ev.now _
  · have e1 : wrap64 (Int.tdiv (n : Int) 24) = ((n / 24 : Nat) : Int) := by rw [Int.tdiv_eq_ediv_of_nonneg (by omega), w64 _ (by omega) (by omega)]; omega
    have e2 : Int.tmod (n : Int) 24 = ((n % 24 : Nat) : Int) := by rw [Int.tmod_eq_emod_of_nonneg (by omega)]; omega
    refine Ev.congr (fun k => by rw [if_neg (by omega), e1, e2, if_pos (by omega), if_pos (by omega), Option.bind_some, if_pos (by simp; omega)]) ?_
    rw [Int.toNat_natCast]
    refine Ev.bind (pow2_ev (n % 24) (by omega)) ?_
    have hp : 2 ^ (n % 24) ≤ 2 ^ 23 := Nat.pow_le_pow_right (by omega) (by omega)
    refine Ev.bind (small_ev (List.replicate (n / 24) 0 ++ a) ((Dg.zeros _).append ha) (by simp; omega) (2 ^ (n % 24)) (by omega)) ?_
    rw [vn_append, vn_zeros, List.length_replicate, Nat.zero_add]
    have : 16777216 ^ (n / 24) * vn a * 2 ^ (n % 24) = vn a * 2 ^ n := by
      have h1 : (16777216 : Nat) ^ (n / 24) = 2 ^ (24 * (n / 24)) := by rw [Nat.pow_mul]
      have h2 : (2 : Nat) ^ n = 2 ^ (24 * (n / 24)) * 2 ^ (n % 24) := by rw [← Nat.pow_add]; congr 1; omega
      rw [h1, h2, Nat.mul_comm _ (vn a), Nat.mul_assoc]
    rw [this]
    exact Ev.now _

/-- How many bits a number has. -/
def bl (n : Nat) : Nat := if n = 0 then 0 else 1 + bl (n / 2)
termination_by n
decreasing_by omega
/-- So many words of 64 bits. -/
def wl : Nat → Nat → List Int
  | 0, _ => []
  | m + 1, v => ((v % 18446744073709551616 : Nat) : Int) :: wl m (v / 18446744073709551616)
/-- A number's words, none of them nought at the end. -/
def nw (n : Nat) : List Int := wl ((bl n + 63) / 64) n
/-- Words of 64 bits, the lowest first, as a number. -/
def wv : List Int → Nat
  | [] => 0
  | x :: r => x.toNat + 18446744073709551616 * wv r
def Wd (l : List Int) : Prop := ∀ x ∈ l, 0 ≤ x ∧ x < 18446744073709551616
theorem Wd.rd {l : List Int} (h : Wd l) (i : Int) : 0 ≤ rd l i ∧ rd l i < 18446744073709551616 := by
  unfold PrintWords.rd
  rw [List.getD_eq_getElem?_getD]
  by_cases hi : i.toNat < l.length
  · rw [List.getElem?_eq_getElem hi]; exact h _ (List.getElem_mem hi)
  · rw [List.getElem?_eq_none (by omega)]; decide
theorem wv_drop (l : List Int) (i : Nat) : wv (l.drop i) = (rd l (i : Int)).toNat + 18446744073709551616 * wv (l.drop (i + 1)) := by
  by_cases h : i < l.length
  · rw [drop_rd l i h, wv]
  · rw [rd_out l i (by omega), List.drop_of_length_le (by omega), List.drop_of_length_le (by omega)]; rfl
theorem wv_lt : ∀ {l : List Int}, Wd l → wv l < 2 ^ (64 * l.length)
  | [], _ => by simp [wv]
  | x :: r, h => by
    have h1 := h x List.mem_cons_self
    have h2 := wv_lt (l := r) (fun y hy => h y (List.mem_cons_of_mem _ hy))
    rw [wv, List.length_cons, show 64 * (r.length + 1) = 64 + 64 * r.length from by omega, Nat.pow_add]
    generalize 2 ^ (64 * r.length) = Z at h2 ⊢
    omega
theorem dg_len_bits (n m : Nat) (h : n < 2 ^ m) (k : Nat) (hk : m ≤ 24 * k) : (dg n).length ≤ k := dg_len_le n k (by rw [show (16777216 : Nat) ^ k = 2 ^ (24 * k) from by rw [Nat.pow_mul]]; exact Nat.lt_of_lt_of_le h (Nat.pow_le_pow_right (by omega) hk))
theorem words_go (l : List Int) (hw : Wd l) (hl : l.length ≤ 1000) : ∀ n, n ≤ l.length → Ev (fun k => cleromancyref01_Words.l0 k l (dg (wv (l.drop n))) ((n : Int) - 1)) (dg (wv l))
  | 0, _ => by
    have h1 := wv_lt hw
    refine Ev.step (fun k => by rw [cleromancyref01_Words.l0, if_neg (by omega)]) ?_
    rw [List.drop_zero]
    have h2 := dg_len_bits (wv l) _ h1 (3 * l.length) (by omega)
    refine Ev.bind (trim_ev (dg (wv l)) (dg_Dg _) (by omega)) ?_
    rw [vn_dg]
    exact Ev.now _
  | n + 1, hn => by
    have ih := words_go l hw hl n (by omega)
    have hx := hw.rd (n : Int)
    have e := wv_drop l n
    have h1 : wv (l.drop (n + 1)) < 2 ^ (64 * (l.drop (n + 1)).length) := wv_lt (fun x hx => hw x (List.mem_of_mem_drop hx))
    have h2 := dg_len_bits _ _ h1 (3 * (l.drop (n + 1)).length) (by omega)
    have h2' : (dg (wv (l.drop (n + 1)))).length ≤ 3000 := by rw [List.length_drop] at h2; omega
    have hs := shift_ev (dg (wv (l.drop (n + 1)))) (dg_Dg _) 64 (by omega) (by omega)
    rw [vn_dg] at hs
    have h3 : wv (l.drop (n + 1)) * 2 ^ 64 < 2 ^ (64 * (l.drop (n + 1)).length + 64) := by rw [Nat.pow_add]; exact Nat.mul_lt_mul_of_pos_right h1 (by decide)
    have h4 := dg_len_bits _ _ h3 (3 * (l.drop (n + 1)).length + 3) (by omega)
    have h4' : (dg (wv (l.drop (n + 1)) * 2 ^ 64)).length ≤ 4000 := by rw [List.length_drop] at h4; omega
    clear h1 h2 h3 h4
    refine Ev.step (fun k => by rw [cleromancyref01_Words.l0, show ((n + 1 : Nat) : Int) - 1 = (n : Int) from by omega, if_pos (by omega), if_pos (by omega), if_pos (by omega)]) ?_
    refine Ev.bind hs ?_
    generalize rd l (n : Int) = x at hx e ⊢
    have e1 : wrap64 (Int.tmod x 16777216) = x % 16777216 := by rw [Int.tmod_eq_emod_of_nonneg hx.1, w64 _ (by omega) (by omega)]
    have e2 : wrap64 (Int.tmod (IntKind.u64.wrap (Int.tdiv x 16777216)) 16777216) = x / 16777216 % 16777216 := by rw [Int.tdiv_eq_ediv_of_nonneg hx.1, IntWalk.u64_in _ (by omega), Int.tmod_eq_emod_of_nonneg (by omega), w64 _ (by omega) (by omega)]
    have e3 : wrap64 (IntKind.u64.wrap (Int.tdiv x 281474976710656)) = x / 281474976710656 := by rw [Int.tdiv_eq_ediv_of_nonneg hx.1, IntWalk.u64_in _ (by omega), w64 _ (by omega) (by omega)]
    refine Ev.congr (fun k => by rw [e1, e2, e3]) ?_
    clear e1 e2 e3
    have hd : Dg [x % 16777216, x / 16777216 % 16777216, x / 281474976710656] := Dg.cons (by omega) (Dg.cons (by omega) (Dg.cons (by omega) Dg.nil))
    have hv : vn [x % 16777216, x / 16777216 % 16777216, x / 281474976710656] = x.toNat := by simp only [vn]; omega
    have ha := add_ev (dg (wv (l.drop (n + 1)) * 2 ^ 64)) [x % 16777216, x / 16777216 % 16777216, x / 281474976710656] (dg_Dg _) hd (by omega) (by simp)
    rw [vn_dg, hv, show wv (l.drop (n + 1)) * 2 ^ 64 + x.toNat = wv (l.drop n) from by rw [e]; omega] at ha
    refine Ev.bind ha ?_
    refine Ev.congr (fun k => by rw [w64 _ (by omega) (by omega)]) ?_
    exact ih
theorem words_ev (l : List Int) (hw : Wd l) (hl : l.length ≤ 1000) : Ev (fun k => cleromancyref01_Words.f k l) (dg (wv l)) := by
  have := words_go l hw hl l.length (Nat.le_refl _)
  rw [List.drop_length, wv, dg_zero] at this
  unfold cleromancyref01_Words.f
  rw [w64 _ (by omega) (by omega)]
  exact this

def By (l : List Int) : Prop := ∀ x ∈ l, 0 ≤ x ∧ x < 256
theorem By.rd {l : List Int} (h : By l) (i : Int) : 0 ≤ rd l i ∧ rd l i < 256 := by
  unfold PrintWords.rd
  rw [List.getD_eq_getElem?_getD]
  by_cases hi : i.toNat < l.length
  · rw [List.getElem?_eq_getElem hi]; exact h _ (List.getElem_mem hi)
  · rw [List.getElem?_eq_none (by omega)]; decide
/-- So many bytes, the lowest first. -/
def le : Nat → Nat → List Int
  | 0, _ => []
  | m + 1, v => ((v % 256 : Nat) : Int) :: le m (v / 256)
theorem le_len : ∀ m v, (le m v).length = m
  | 0, _ => rfl
  | m + 1, v => by rw [le, List.length_cons, le_len]
theorem le_rd : ∀ (m v p : Nat), p < m → rd (le m v) (p : Int) = ((v / 256 ^ p % 256 : Nat) : Int)
  | m + 1, v, 0, _ => by simp [le, rd]
  | m + 1, v, p + 1, h => by
    have := le_rd m (v / 256) p (by omega)
    rw [show rd (le (m + 1) v) ((p + 1 : Nat) : Int) = rd (le m (v / 256)) (p : Int) from by simp [le, rd], this, Nat.div_div_eq_div_mul, Nat.pow_succ, Nat.mul_comm 256]
theorem digit_byte (a : List Int) (ha : Dg a) (j s : Nat) (hs : s < 3) : vn a / 256 ^ (3 * j + s) % 256 = (rd a (j : Int)).toNat / 256 ^ s % 256 := by
  have e1 : vn a = vn (a.take j) + 16777216 ^ (a.take j).length * vn (a.drop j) := by rw [← vn_append, List.take_append_drop]
  have l1 := vn_lt (ha.take j)
  have e2 : vn a / 16777216 ^ j = vn (a.drop j) := by
    by_cases h : j ≤ a.length
    · rw [show (a.take j).length = j from by simp; omega] at e1 l1
      rw [e1, Nat.add_comm, Nat.mul_add_div (Nat.pow_pos (by omega)), Nat.div_eq_of_lt l1, Nat.add_zero]
    · have hlt : vn a < 16777216 ^ j := Nat.lt_of_lt_of_le (vn_lt ha) (Nat.pow_le_pow_right (by omega) (by omega))
      rw [Nat.div_eq_of_lt hlt, vn_drop_all a j (by omega)]
  have e3 : vn a / 256 ^ (3 * j + s) = vn (a.drop j) / 256 ^ s := by rw [Nat.pow_add, show (256 : Nat) ^ (3 * j) = 16777216 ^ j from by rw [Nat.pow_mul], ← Nat.div_div_eq_div_mul, e2]
  rw [e3, vn_drop a j]
  have : s = 0 ∨ s = 1 ∨ s = 2 := by omega
  rcases this with rfl | rfl | rfl <;> simp <;> omega
theorem little_in (a : List Int) (n : Int) (out : List Int) (i : Nat) (hi : i < out.length) (hio : i ≤ 1000000) : ∀ (r s : Nat) (x : Nat), s + r = i % 3 → x < 16777216 → ∀ {R : List Int},
    Ev (fun k => cleromancyref01_ToLittle.l0 k a n (out.set i ((x / 256 ^ r % 256 : Nat) : Int)) ((i + 1 : Nat) : Int)) R →
    Ev (fun k => cleromancyref01_ToLittle.l1 k a n out (i : Int) (x : Int) (s : Int)) R
  | 0, s, x, hs, hx, R, h => by
    have e : Int.tmod (i : Int) 3 = (s : Int) := by rw [Int.tmod_eq_emod_of_nonneg (by omega)]; omega
    have e2 : Int.tmod (x : Int) 256 % 256 = ((x % 256 : Nat) : Int) := by rw [Int.tmod_eq_emod_of_nonneg (by omega)]; omega
    refine Ev.step (fun k => by rw [cleromancyref01_ToLittle.l1, if_neg (by rw [e]; omega), if_pos (by omega), if_pos (by omega), e2, w64 ((i : Int) + 1) (by omega) (by omega), natCast_succ', Int.toNat_natCast]) ?_
    simpa using h
  | r + 1, s, x, hs, hx, R, h => by
    have e : Int.tmod (i : Int) 3 = ((i % 3 : Nat) : Int) := by rw [Int.tmod_eq_emod_of_nonneg (by omega)]; omega
    have e2 : wrap64 (Int.tdiv (x : Int) 256) = ((x / 256 : Nat) : Int) := by rw [Int.tdiv_eq_ediv_of_nonneg (by omega), w64 _ (by omega) (by omega)]; omega
    refine Ev.step (fun k => by rw [cleromancyref01_ToLittle.l1, if_pos (by rw [e]; omega), e2, w64 ((s : Int) + 1) (by omega) (by omega), natCast_succ']) ?_
    refine little_in a n out i hi hio r (s + 1) (x / 256) (by omega) (by omega) ?_
    rw [Nat.div_div_eq_div_mul, show 256 * 256 ^ r = 256 ^ (r + 1) from by rw [Nat.pow_succ, Nat.mul_comm]]
    exact h
theorem set_zero_at (p : Nat) (m : Nat) (l : List Int) (x : Int) (hl : l.length = p) : (l ++ List.replicate (m + 1) 0).set p x = l ++ [x] ++ List.replicate m 0 := by
  rw [List.set_append_right _ _ (by omega), show p - l.length = 0 from by omega, List.replicate_succ, List.set_cons_zero, List.append_assoc]
  rfl
theorem little_go (a : List Int) (ha : Dg a) (hla : a.length ≤ 1000000) (n : Nat) (hn : n ≤ 1000000) : ∀ (r i : Nat), i + r = n → Ev (fun k => cleromancyref01_ToLittle.l0 k a (n : Int) ((le n (vn a)).take i ++ List.replicate r 0) (i : Int)) (le n (vn a))
  | 0, i, hi => by
    refine Ev.step (f := fun _ => _) (fun k => by rw [cleromancyref01_ToLittle.l0, if_neg (by omega)]) ?_
    rw [List.take_of_length_le (by rw [le_len]; omega), List.replicate_zero, List.append_nil]
    exact Ev.now _
  | r + 1, i, hi => by
    have ih := little_go a ha hla n hn r (i + 1) (by omega)
    have e : wrap64 (Int.tdiv (i : Int) 3) = ((i / 3 : Nat) : Int) := by rw [Int.tdiv_eq_ediv_of_nonneg (by omega), w64 _ (by omega) (by omega)]; omega
    have hb := digit_byte a ha (i / 3) (i % 3) (by omega)
    rw [show 3 * (i / 3) + i % 3 = i from by omega] at hb
    have hx := ha.rd ((i / 3 : Nat) : Int)
    have hr := le_rd n (vn a) i (by omega)
    rw [hb] at hr
    have ht : (le n (vn a)).take (i + 1) = (le n (vn a)).take i ++ [rd (le n (vn a)) (i : Int)] := take_rd _ _ (by rw [le_len]; omega)
    have hset := set_zero_at i r ((le n (vn a)).take i) (rd (le n (vn a)) (i : Int)) (by rw [List.length_take, le_len]; omega)
    rw [← ht] at hset
    by_cases h : i / 3 < a.length
    · refine Ev.step (fun k => by rw [cleromancyref01_ToLittle.l0, if_pos (by omega), e, if_pos (by omega), if_pos (by omega)]) ?_
      have hl : i < ((le n (vn a)).take i ++ List.replicate (r + 1) 0).length := by rw [List.length_append, List.length_take, le_len, List.length_replicate]; omega
      have := little_in a (n : Int) ((le n (vn a)).take i ++ List.replicate (r + 1) 0) i hl (by omega) (i % 3) 0 (rd a ((i / 3 : Nat) : Int)).toNat (by omega) (by omega) (R := le n (vn a)) (by rw [← hr, hset]; exact ih)
      rw [show (((rd a ((i / 3 : Nat) : Int)).toNat : Nat) : Int) = rd a ((i / 3 : Nat) : Int) from by omega] at this
      exact this
    · refine Ev.step (fun k => by rw [cleromancyref01_ToLittle.l0, if_pos (by omega), e, if_neg (by omega), w64 ((i : Int) + 1) (by omega) (by omega), natCast_succ']) ?_
      rw [rd_out a (i / 3) (by omega)] at hr
      have h0 : rd (le n (vn a)) (i : Int) = 0 := by rw [hr]; simp
      rw [ht, h0, List.append_assoc] at ih
      exact ih
theorem little_ev (a : List Int) (ha : Dg a) (hla : a.length ≤ 1000000) (n : Nat) (hn : n ≤ 1000000) : Ev (fun k => cleromancyref01_ToLittle.f k a (n : Int)) (le n (vn a)) := by
  have := little_go a ha hla n hn n 0 (by omega)
  rw [List.take_zero, List.nil_append] at this
  unfold cleromancyref01_ToLittle.f
  refine Ev.congr (fun k => by rw [if_pos (by omega), if_pos (by omega), Int.toNat_natCast]) ?_
  exact this
theorem turned_go (l : List Int) (hl : l.length ≤ 1000000) : ∀ n, n ≤ l.length → Ev (fun k => cleromancyref01_Turned.l0 k l (l.drop n).reverse ((n : Int) - 1)) l.reverse
  | 0, _ => by
    refine Ev.step (f := fun _ => _) (fun k => by rw [cleromancyref01_Turned.l0, if_neg (by omega)]) ?_
    rw [List.drop_zero]
    exact Ev.now _
  | n + 1, hn => by
    refine Ev.step (fun k => by rw [cleromancyref01_Turned.l0, show ((n + 1 : Nat) : Int) - 1 = (n : Int) from by omega, if_pos (by omega), if_pos (by omega), if_pos (by omega), if_pos (by simp; omega), w64 _ (by omega) (by omega)]) ?_
    have := turned_go l hl n (by omega)
    rw [drop_rd l n (by omega), List.reverse_cons] at this
    exact this
theorem turned_ev (l : List Int) (hl : l.length ≤ 1000000) : Ev (fun k => cleromancyref01_Turned.f k l) l.reverse := by
  have := turned_go l hl l.length (Nat.le_refl _)
  rw [List.drop_length, List.reverse_nil] at this
  unfold cleromancyref01_Turned.f
  rw [w64 _ (by omega) (by omega)]
  exact this
/-- So many bytes, the highest first. -/
def be (m v : Nat) : List Int := (le m v).reverse
theorem tobig_ev (a : List Int) (ha : Dg a) (hla : a.length ≤ 1000000) (n : Nat) (hn : n ≤ 1000000) : Ev (fun k => cleromancyref01_ToBig.f k a (n : Int)) (be n (vn a)) := by
  unfold cleromancyref01_ToBig.f
  refine Ev.bind (little_ev a ha hla n hn) ?_
  refine Ev.bind (turned_ev _ (by rw [le_len]; omega)) ?_
  exact Ev.now _
/-- Are two lists of bytes one? -/
theorem same_go (a b : List Int) (hlen : a.length = b.length) (hl : a.length ≤ 1000000) : ∀ (r i : Nat), i + r = a.length → Ev (fun k => cleromancyref01_Same.l0 k a b (i : Int)) (decide (a.drop i = b.drop i))
  | 0, i, hi => by
    refine Ev.step (f := fun _ => _) (fun k => by rw [cleromancyref01_Same.l0, if_neg (by omega)]) ?_
    rw [List.drop_of_length_le (by omega), List.drop_of_length_le (by omega)]
    exact Ev.now _
  | r + 1, i, hi => by
    have ih := same_go a b hlen hl r (i + 1) (by omega)
    rw [drop_rd a i (by omega), drop_rd b i (by omega)]
    by_cases h : rd a (i : Int) = rd b (i : Int)
    · refine Ev.step (fun k => by rw [cleromancyref01_Same.l0, if_pos (by omega), if_pos (by omega), if_pos (by omega), if_pos h, w64 _ (by omega) (by omega), natCast_succ']) ?_
      rw [h, show decide (rd b (i : Int) :: a.drop (i + 1) = rd b (i : Int) :: b.drop (i + 1)) = decide (a.drop (i + 1) = b.drop (i + 1)) from by simp]
      exact ih
    · refine Ev.step (f := fun _ => _) (fun k => by rw [cleromancyref01_Same.l0, if_pos (by omega), if_pos (by omega), if_pos (by omega), if_neg h]) ?_
      rw [decide_eq_false (by simp [h])]
      exact Ev.now _
theorem same_ev (a b : List Int) (hl : a.length ≤ 1000000) : Ev (fun k => cleromancyref01_Same.f k a b) (decide (a = b)) := by
  unfold cleromancyref01_Same.f
  by_cases h : (a.length : Int) = (b.length : Int)
  · refine Ev.congr (fun k => by rw [if_pos h]) ?_
    have := same_go a b (by omega) hl a.length 0 (by omega)
    rw [List.drop_zero, List.drop_zero] at this
    exact this
  · refine Ev.congr (fun k => by rw [if_neg h]) ?_
    rw [decide_eq_false (fun e => h (by rw [e]))]
    exact Ev.now _

end Go.Proofs.YteapdhfeddgjbaaDoor.Num
