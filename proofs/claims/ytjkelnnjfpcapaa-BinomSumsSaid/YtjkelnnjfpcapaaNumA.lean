/- Numbers as digits of 24 bits: what the reference's functions come to. -/
import Derived.Test.YtjkelnnjfpcapaaPNatx
namespace Go.Proofs.Ytjkelnnjfpcapaa.Num
open Go.RowKit Go.Proofs.Ytjkelnnjfpcapaa.PNat Go.Proofs.YtjkelnnjfpcapaaW Go.Proofs.YtjkelnnjfpcapaaW.PrintWords Go.Proofs.YtjkelnnjfpcapaaW.PrintLast Go.Proofs.YtjkelnnjfpcapaaW.PrintMore

/-! ### numbers as digits of 24 bits, on plain lists -/
theorem w64 (x : Int) (h0 : -9223372036854775808 ≤ x) (h1 : x ≤ 9223372036854775807) : wrap64 x = x := by unfold wrap64; omega
theorem natCast_succ' (i : Nat) : (i : Int) + 1 = ((i + 1 : Nat) : Int) := by push_cast; rfl
theorem rd_nat (l : List Int) (i : Nat) (h : i < l.length) : rd l (i : Int) = l[i] := by simp [rd, List.getD_eq_getElem?_getD, h]
theorem drop_rd (l : List Int) (i : Nat) (h : i < l.length) : l.drop i = rd l (i : Int) :: l.drop (i + 1) := by
  rw [List.drop_eq_getElem_cons h, rd_nat l i h]
theorem take_rd (l : List Int) (i : Nat) (h : i < l.length) : l.take (i + 1) = l.take i ++ [rd l (i : Int)] := by
  rw [rd_nat l i h, List.take_succ_eq_append_getElem h]

def vn : List Int → Nat
  | [] => 0
  | x :: r => x.toNat + 16777216 * vn r
def Dg (l : List Int) : Prop := ∀ x ∈ l, 0 ≤ x ∧ x < 16777216
theorem Dg.nil : Dg [] := fun _ h => by cases h
theorem Dg.cons {x : Int} {r : List Int} (h0 : 0 ≤ x ∧ x < 16777216) (h : Dg r) : Dg (x :: r) := fun y hy => by
  rcases List.mem_cons.1 hy with rfl | hy
  · exact h0
  · exact h y hy
theorem Dg.head {x : Int} {r : List Int} (h : Dg (x :: r)) : 0 ≤ x ∧ x < 16777216 := h x List.mem_cons_self
theorem Dg.tail {x : Int} {r : List Int} (h : Dg (x :: r)) : Dg r := fun y hy => h y (List.mem_cons_of_mem _ hy)
theorem Dg.append {a b : List Int} (ha : Dg a) (hb : Dg b) : Dg (a ++ b) := fun x hx => by
  rcases List.mem_append.1 hx with h | h
  · exact ha x h
  · exact hb x h
theorem Dg.rd {l : List Int} (h : Dg l) (i : Int) : 0 ≤ rd l i ∧ rd l i < 16777216 := by
  unfold PrintWords.rd
  rw [List.getD_eq_getElem?_getD]
  by_cases hi : i.toNat < l.length
  · rw [List.getElem?_eq_getElem hi]; exact h _ (List.getElem_mem hi)
  · rw [List.getElem?_eq_none (by omega)]; decide
theorem Dg.take {l : List Int} (h : Dg l) (n : Nat) : Dg (l.take n) := fun x hx => h x (List.mem_of_mem_take hx)
theorem Dg.drop {l : List Int} (h : Dg l) (n : Nat) : Dg (l.drop n) := fun x hx => h x (List.mem_of_mem_drop hx)
theorem vn_append : ∀ a b : List Int, vn (a ++ b) = vn a + 16777216 ^ a.length * vn b
  | [], b => by simp [vn]
  | x :: a, b => by
    rw [List.cons_append, vn, vn, vn_append a b, List.length_cons, Nat.pow_succ, Nat.mul_add, ← Nat.mul_assoc, Nat.mul_comm (16777216 ^ a.length) 16777216]; omega
theorem vn_lt : ∀ {l : List Int}, Dg l → vn l < 16777216 ^ l.length
  | [], _ => by simp [vn]
  | x :: r, h => by
    have h1 := h.head
    have h2 := vn_lt h.tail
    rw [vn, List.length_cons, Nat.pow_succ]
    omega

/-- The digits of a number, none of them nought at the end. -/
def dg (n : Nat) : List Int := if n = 0 then [] else ((n % 16777216 : Nat) : Int) :: dg (n / 16777216)
termination_by n
decreasing_by omega
theorem dg_zero : dg 0 = [] := by rw [dg]; rfl
theorem dg_pos {n : Nat} (h : n ≠ 0) : dg n = ((n % 16777216 : Nat) : Int) :: dg (n / 16777216) := by rw [dg, if_neg h]
theorem dg_Dg (n : Nat) : Dg (dg n) := by
  induction n using Nat.strongRecOn with
  | ind n ih =>
    by_cases h : n = 0
    · rw [h, dg_zero]; exact Dg.nil
    · rw [dg_pos h]; exact Dg.cons (by omega) (ih _ (by omega))
theorem vn_dg (n : Nat) : vn (dg n) = n := by
  induction n using Nat.strongRecOn with
  | ind n ih =>
    by_cases h : n = 0
    · rw [h, dg_zero]; rfl
    · rw [dg_pos h, vn, ih _ (by omega)]; omega
theorem dg_nil {n : Nat} : dg n = [] ↔ n = 0 := ⟨fun h => by rw [← vn_dg n, h]; rfl, fun h => by rw [h, dg_zero]⟩
theorem dg_cons (x : Int) (m : Nat) (h0 : 0 ≤ x ∧ x < 16777216) (h : x ≠ 0 ∨ m ≠ 0) : dg (x.toNat + 16777216 * m) = x :: dg m := by
  rw [dg_pos (by omega)]
  congr 1
  · omega
  · congr 1; omega
/-- Without noughts at the end. -/
def tr : List Int → List Int
  | [] => []
  | x :: r => if tr r = [] ∧ x = 0 then [] else x :: tr r
theorem tr_dg : ∀ {l : List Int}, Dg l → tr l = dg (vn l)
  | [], _ => by rw [tr, vn, dg_zero]
  | x :: r, h => by
    rw [tr, vn, tr_dg h.tail]
    have h0 := h.head
    by_cases hc : dg (vn r) = [] ∧ x = 0
    · rw [if_pos hc, dg_nil.1 hc.1, hc.2]; simp [dg_zero]
    · rw [if_neg hc, dg_cons x _ h0]
      by_cases hx : x = 0
      · exact Or.inr fun hm => hc ⟨dg_nil.2 hm, hx⟩
      · exact Or.inl hx
theorem tr_zero : ∀ l : List Int, tr (l ++ [0]) = tr l
  | [] => by simp [tr]
  | x :: r => by rw [List.cons_append, tr, tr, tr_zero r]
theorem tr_last : ∀ (l : List Int) (x : Int), x ≠ 0 → tr (l ++ [x]) = l ++ [x]
  | [], x, h => by simp [tr, h]
  | y :: r, x, h => by rw [List.cons_append, tr, tr_last r x h, if_neg (by simp)]
theorem vn_tr : ∀ l : List Int, vn (tr l) = vn l
  | [] => rfl
  | x :: r => by
    rw [tr, vn, ← vn_tr r]
    split
    · rename_i h; rw [h.1, h.2]; rfl
    · rfl
theorem tr_length : ∀ l : List Int, (tr l).length ≤ l.length
  | [] => by simp [tr]
  | x :: r => by
    have := tr_length r
    rw [tr]; split <;> simp; omega
/-- What Trim comes to. -/
theorem trim_go (l : List Int) (hl : l.length ≤ 1000000000) : ∀ (k n : Nat), n ≤ l.length → n < k → cleromancyref01_Trim.l0 k l (n : Int) = some (tr (l.take n))
  | 0, n, _, hk => by omega
  | k + 1, 0, _, _ => by rw [cleromancyref01_Trim.l0, if_neg (by omega), if_pos (by omega), if_pos (by omega)]; simp [tr]
  | k + 1, n + 1, hn, hk => by
    rw [cleromancyref01_Trim.l0, if_pos (by omega), w64 _ (by omega) (by omega), show ((n + 1 : Nat) : Int) - 1 = (n : Int) from by omega, if_pos (by omega), if_pos (by omega), take_rd l n (by omega)]
    by_cases e : rd l (n : Int) = 0
    · rw [if_pos e, trim_go l hl k n (by omega) (by omega), e, tr_zero]
    · rw [if_neg e, if_pos (by omega), if_pos (by omega), tr_last _ _ e, ← take_rd l n (by omega)]
      congr 2
theorem trim_is (l : List Int) (hl : l.length ≤ 1000000000) (k : Nat) (hk : l.length < k) : cleromancyref01_Trim.f k l = some (tr l) := by
  rw [cleromancyref01_Trim.f, trim_go l hl k l.length (Nat.le_refl _) hk, List.take_length]
/-- A number's digits. -/
theorem int_go : ∀ (k n : Nat) (out : List Int), n < 16777216 ^ k → n ≤ 9223372036854775807 → out.length + k ≤ 1000 → cleromancyref01_Int.l0 (k + 1) (n : Int) out = some (out ++ dg n)
  | 0, n, out, hn, _, _ => by
    obtain rfl : n = 0 := by simpa using hn
    rw [cleromancyref01_Int.l0, if_neg (by omega), dg_zero, List.append_nil]
  | k + 1, n, out, hn, hm, ho => by
    rw [cleromancyref01_Int.l0]
    by_cases h : n = 0
    · subst h; rw [if_neg (by omega), dg_zero, List.append_nil]
    · rw [Nat.pow_succ] at hn
      rw [if_pos (by omega), if_pos (by omega), Int.tdiv_eq_ediv_of_nonneg (by omega), Int.tmod_eq_emod_of_nonneg (by omega), w64 _ (by omega) (by omega), show ((n : Int) / 16777216) = ((n / 16777216 : Nat) : Int) from by omega, int_go k (n / 16777216) _ (by omega) (by omega) (by simp; omega), dg_pos h, List.append_assoc, show ((n : Int) % 16777216) = ((n % 16777216 : Nat) : Int) from by omega]
      rfl
theorem int_is (n : Nat) (hn : n ≤ 9223372036854775807) (k : Nat) (hk : 3 < k) : cleromancyref01_Int.f k (n : Int) = some (dg n) := by
  have := int_go 3 n [] (by omega) hn (by simp)
  rw [List.nil_append] at this
  exact at_rounds (g := fun k => cleromancyref01_Int.f k (n : Int)) (fun j => cleromancyref01_Int.mono _ j) (by omega : 4 ≤ k) this

end Go.Proofs.Ytjkelnnjfpcapaa.Num
