/- What the reference's functions on numbers come to, in plain Lean. -/
import Derived.Test.YtjkelnnjfpcapaaNumA
namespace Go.Proofs.Ytjkelnnjfpcapaa.Num
open Go.RowKit Go.Proofs.Ytjkelnnjfpcapaa.PNat Go.Proofs.YtjkelnnjfpcapaaW Go.Proofs.YtjkelnnjfpcapaaW.PrintWords Go.Proofs.YtjkelnnjfpcapaaW.PrintLast Go.Proofs.YtjkelnnjfpcapaaW.PrintMore

theorem rd_out (l : List Int) (i : Nat) (h : l.length ≤ i) : rd l (i : Int) = 0 := by simp [rd, List.getD_eq_getElem?_getD, h]
theorem vn_drop (l : List Int) (i : Nat) : vn (l.drop i) = (rd l (i : Int)).toNat + 16777216 * vn (l.drop (i + 1)) := by
  by_cases h : i < l.length
  · rw [drop_rd l i h, vn]
  · rw [rd_out l i (by omega), List.drop_of_length_le (by omega), List.drop_of_length_le (by omega)]; rfl
theorem vn_drop_all (l : List Int) (i : Nat) (h : l.length ≤ i) : vn (l.drop i) = 0 := by rw [List.drop_of_length_le h]; rfl
theorem dg_len_le (n : Nat) : ∀ m, n < 16777216 ^ m → (dg n).length ≤ m := by
  induction n using Nat.strongRecOn with
  | ind n ih =>
    intro m hm
    by_cases h : n = 0
    · rw [h, dg_zero]; simp
    · cases m with
      | zero => simp at hm; omega
      | succ m =>
        rw [dg_pos h, List.length_cons]
        have := ih (n / 16777216) (by omega) m (by rw [Nat.pow_succ] at hm; omega)
        omega
theorem dg_len_ge (n : Nat) : ∀ m, m < (dg n).length → 16777216 ^ m ≤ n := by
  induction n using Nat.strongRecOn with
  | ind n ih =>
    intro m hm
    by_cases h : n = 0
    · rw [h, dg_zero] at hm; simp at hm
    · cases m with
      | zero => simp; omega
      | succ m =>
        rw [dg_pos h, List.length_cons] at hm
        have := ih (n / 16777216) (by omega) m (by omega)
        rw [Nat.pow_succ]; omega
theorem Dg.tr {l : List Int} (h : Dg l) : Dg (tr l) := by rw [tr_dg h]; exact dg_Dg _
/-- Of a list of digits: its number's own are no more. -/
theorem dg_len_of {l : List Int} (h : Dg l) : (dg (vn l)).length ≤ l.length := by rw [← tr_dg h]; exact tr_length l

theorem add_go (a b : List Int) (ha : Dg a) (hb : Dg b) (N : Nat) (hla : a.length ≤ N) (hlb : b.length ≤ N) (hN : N ≤ 1000000) : ∀ (r k i : Nat) (c : Int) (out : List Int), i + r = N + 1 → 2 * r + 2 ≤ k → 0 ≤ c ∧ c ≤ 1 → (i ≤ N ∨ c = 0) → out.length ≤ i →
    ∃ z, Dg z ∧ vn z = vn (a.drop i) + vn (b.drop i) + c.toNat ∧ cleromancyref01_Add.l0 (k + N + 10) a b out c (i : Int) = some (tr (out ++ z))
  | 0, k, i, c, out, hi, hk, hc, hic, ho => by
    obtain rfl : c = 0 := by omega
    refine ⟨[], Dg.nil, by rw [vn_drop_all a i (by omega), vn_drop_all b i (by omega)]; rfl, ?_⟩
    obtain ⟨k, rfl⟩ : ∃ m, k = m + 2 := ⟨k - 2, by omega⟩
    rw [show k + 2 + N + 10 = (k + N + 10 + 1) + 1 from by omega, cleromancyref01_Add.l0, if_neg (by omega), if_neg (by omega), decide_eq_false (by omega), cleromancyref01_Add.j1, if_neg (by decide), trim_is out (by omega) _ (by omega), List.append_nil]
    rfl
  | r + 1, k, i, c, out, hi, hk, hc, hic, ho => by
    obtain ⟨k, rfl⟩ : ∃ m, k = m + 2 := ⟨k - 2, by omega⟩
    have da := ha.rd (i : Int)
    have db := hb.rd (i : Int)
    have va := vn_drop a i
    have vb := vn_drop b i
    by_cases hstop : a.length ≤ i ∧ b.length ≤ i ∧ c = 0
    · obtain ⟨h1, h2, rfl⟩ := hstop
      refine ⟨[], Dg.nil, by rw [vn_drop_all a i (by omega), vn_drop_all b i (by omega)]; rfl, ?_⟩
      rw [show k + 2 + N + 10 = (k + N + 10 + 1) + 1 from by omega, cleromancyref01_Add.l0, if_neg (by omega), if_neg (by omega), decide_eq_false (by omega), cleromancyref01_Add.j1, if_neg (by decide), trim_is out (by omega) _ (by omega), List.append_nil]
      rfl
    · obtain ⟨z, hz, vz, e⟩ := add_go a b ha hb N hla hlb hN r k (i + 1) ((c + rd a i + rd b i) / 16777216) (out ++ [(c + rd a i + rd b i) % 16777216]) (by omega) (by omega) (by omega) (by
        by_cases h : i + 1 ≤ N
        · exact Or.inl h
        · have e1 := rd_out a i (by omega)
          have e2 := rd_out b i (by omega)
          rw [e1, e2]; right; omega) (by simp; omega)
      refine ⟨(c + rd a i + rd b i) % 16777216 :: z, Dg.cons (by omega) hz, by rw [vn, vz, va, vb]; omega, ?_⟩
      have key : cleromancyref01_Add.j1 (k + N + 10 + 1) a b out c (i : Int) true = some (tr (out ++ (c + rd a i + rd b i) % 16777216 :: z)) := by
        rw [cleromancyref01_Add.j1, if_pos rfl]
        rw [List.append_assoc] at e
        rw [w64 ((i : Int) + 1) (by omega) (by omega), natCast_succ']
        by_cases h1 : i < a.length
        · rw [if_pos (by omega), if_pos (by omega)]
          by_cases h2 : i < b.length
          · rw [if_pos (by omega), if_pos (by omega), w64 (c + rd a i) (by omega) (by omega), w64 _ (by omega) (by omega), Int.tdiv_eq_ediv_of_nonneg (by omega), Int.tmod_eq_emod_of_nonneg (by omega), w64 _ (by omega) (by omega)]
            exact e
          · have e2 := rd_out b i (by omega)
            simp only [e2, Int.add_zero] at e ⊢
            rw [if_neg (by omega), if_pos (by omega), w64 (c + rd a i) (by omega) (by omega), Int.tdiv_eq_ediv_of_nonneg (by omega), Int.tmod_eq_emod_of_nonneg (by omega), w64 _ (by omega) (by omega)]
            exact e
        · have e1 := rd_out a i (by omega)
          simp only [e1, Int.add_zero] at e ⊢
          rw [if_neg (by omega)]
          by_cases h2 : i < b.length
          · rw [if_pos (by omega), if_pos (by omega), if_pos (by omega), w64 (c + rd b i) (by omega) (by omega), Int.tdiv_eq_ediv_of_nonneg (by omega), Int.tmod_eq_emod_of_nonneg (by omega), w64 _ (by omega) (by omega)]
            exact e
          · have e2 := rd_out b i (by omega)
            simp only [e2, Int.add_zero] at e ⊢
            rw [if_neg (by omega), if_pos (by omega), Int.tdiv_eq_ediv_of_nonneg (by omega), Int.tmod_eq_emod_of_nonneg (by omega), w64 _ (by omega) (by omega)]
            exact e
      rw [show k + 2 + N + 10 = (k + N + 10 + 1) + 1 from by omega, cleromancyref01_Add.l0]
      by_cases h1 : i < a.length
      · rw [if_pos (by omega)]; exact key
      · rw [if_neg (by omega)]
        by_cases h2 : i < b.length
        · rw [if_pos (by omega)]; exact key
        · rw [if_neg (by omega), decide_eq_true (by omega)]; exact key
theorem add_is (a b : List Int) (ha : Dg a) (hb : Dg b) (N : Nat) (hla : a.length ≤ N) (hlb : b.length ≤ N) (hN : N ≤ 1000000) (k : Nat) (hk : 4 * N + 30 ≤ k) : cleromancyref01_Add.f k a b = some (dg (vn a + vn b)) := by
  obtain ⟨z, hz, vz, e⟩ := add_go a b ha hb N hla hlb hN (N + 1) (k - N - 10) 0 0 [] (by omega) (by omega) (by omega) (by omega) (by simp)
  rw [show k - N - 10 + N + 10 = k from by omega] at e
  have e' : cleromancyref01_Add.l0 k a b [] 0 0 = _ := e
  rw [cleromancyref01_Add.f, e', List.nil_append, tr_dg hz, vz]
  simp

/-- Two numbers held against each other. -/
def cmp (m n : Nat) : Int := if m < n then -1 else if n < m then 1 else 0
theorem vn_take_lt {a b : List Int} {n : Nat} (h : vn (a.drop n) < vn (b.drop n)) (ha : Dg a) : vn a < vn b := by
  have e1 : vn a = vn (a.take n) + 16777216 ^ (a.take n).length * vn (a.drop n) := by rw [← vn_append, List.take_append_drop]
  have e2 : vn b = vn (b.take n) + 16777216 ^ (b.take n).length * vn (b.drop n) := by rw [← vn_append, List.take_append_drop]
  have l1 := vn_lt (ha.take n)
  by_cases hb : n ≤ b.length
  · have hb' : (b.take n).length = n := by simp; omega
    by_cases hn : n ≤ a.length
    · have ha' : (a.take n).length = n := by simp; omega
      rw [ha'] at e1 l1; rw [hb'] at e2
      have : 16777216 ^ n * (vn (a.drop n) + 1) ≤ 16777216 ^ n * vn (b.drop n) := Nat.mul_le_mul_left _ (by omega)
      rw [Nat.mul_add] at this; omega
    · have h0 := vn_drop_all a n (by omega)
      rw [h0] at e1 h
      have : 16777216 ^ (a.take n).length ≤ 16777216 ^ n := Nat.pow_le_pow_right (by omega) (by simp; omega)
      rw [hb'] at e2
      have : 16777216 ^ n * 1 ≤ 16777216 ^ n * vn (b.drop n) := Nat.mul_le_mul_left _ (by omega)
      omega
  · rw [vn_drop_all b n (by omega)] at h; omega
theorem cmp_go (a b : List Int) (ha : Dg a) (hb : Dg b) (hlen : a.length = b.length) (hl : a.length ≤ 1000000) : ∀ (k n : Nat), n ≤ a.length → n < k → a.drop n = b.drop n → cleromancyref01_Cmp.l0 k a b ((n : Int) - 1) = some (cmp (vn a) (vn b))
  | 0, n, _, hk, _ => by omega
  | k + 1, 0, _, _, he => by
    rw [List.drop_zero, List.drop_zero] at he
    subst he
    rw [cleromancyref01_Cmp.l0, if_neg (by omega), cmp, if_neg (by omega), if_neg (by omega)]
  | k + 1, n + 1, hn, hk, he => by
    rw [cleromancyref01_Cmp.l0, show ((n + 1 : Nat) : Int) - 1 = (n : Int) from by omega, if_pos (by omega), if_pos (by omega), if_pos (by omega), if_pos (by omega)]
    have da := ha.rd (n : Int)
    have db := hb.rd (n : Int)
    have va := vn_drop a n
    have vb := vn_drop b n
    rw [he] at va
    by_cases h1 : rd a (n : Int) < rd b (n : Int)
    · rw [if_pos h1]
      have := vn_take_lt (a := a) (b := b) (n := n) (by omega) ha
      rw [cmp, if_pos this]
    · rw [if_neg h1]
      by_cases h2 : rd a (n : Int) > rd b (n : Int)
      · rw [if_pos h2]
        have := vn_take_lt (a := b) (b := a) (n := n) (by omega) hb
        rw [cmp, if_neg (by omega), if_pos this]
      · rw [if_neg h2, w64 _ (by omega) (by omega)]
        exact cmp_go a b ha hb hlen hl k n (by omega) (by omega) (by rw [drop_rd a n (by omega), drop_rd b n (by omega), he, show rd a (n : Int) = rd b (n : Int) from by omega])
theorem cmp_is (m n : Nat) (hm : (dg m).length ≤ 1000000) (k : Nat) (hk : (dg m).length < k) : cleromancyref01_Cmp.f k (dg m) (dg n) = some (cmp m n) := by
  rw [cleromancyref01_Cmp.f]
  by_cases h1 : (dg m).length < (dg n).length
  · rw [if_pos (by omega)]
    have a1 := dg_len_ge n _ h1
    have a2 := vn_lt (dg_Dg m)
    rw [vn_dg] at a2
    rw [cmp, if_pos (by omega)]
  · rw [if_neg (by omega)]
    by_cases h2 : (dg n).length < (dg m).length
    · rw [if_pos (by omega)]
      have a1 := dg_len_ge m _ h2
      have a2 := vn_lt (dg_Dg n)
      rw [vn_dg] at a2
      rw [cmp, if_neg (by omega), if_pos (by omega)]
    · rw [if_neg (by omega), w64 _ (by omega) (by omega)]
      have := cmp_go (dg m) (dg n) (dg_Dg m) (dg_Dg n) (by omega) hm k (dg m).length (Nat.le_refl _) hk (by rw [List.drop_length, List.drop_of_length_le (by omega)])
      rw [vn_dg, vn_dg] at this
      exact this
/-- A difference. -/
theorem sub_go (a b : List Int) (ha : Dg a) (hb : Dg b) (hlen : b.length ≤ a.length) (hl : a.length ≤ 1000000) : ∀ (r k i : Nat) (c : Int) (out : List Int), i + r = a.length → r < k → 0 ≤ c ∧ c ≤ 1 → out.length ≤ i → vn (b.drop i) + c.toNat ≤ vn (a.drop i) →
    ∃ z, Dg z ∧ vn z + (vn (b.drop i) + c.toNat) = vn (a.drop i) ∧ z.length = r ∧ cleromancyref01_Sub.l0 (k + 1000010) a b out c (i : Int) = some (tr (out ++ z))
  | 0, k, i, c, out, hi, hk, hc, ho, hle => by
    rw [vn_drop_all a i (by omega)] at hle ⊢
    refine ⟨[], Dg.nil, by simp [vn]; omega, rfl, ?_⟩
    rw [cleromancyref01_Sub.l0, if_neg (by omega), trim_is out (by omega) _ (by omega), List.append_nil]
    rfl
  | r + 1, k, i, c, out, hi, hk, hc, ho, hle => by
    obtain ⟨k, rfl⟩ : ∃ m, k = m + 1 := ⟨k - 1, by omega⟩
    have da := ha.rd (i : Int)
    have db := hb.rd (i : Int)
    have va := vn_drop a i
    have vb := vn_drop b i
    have key : ∀ (d c' : Int), 0 ≤ d → d < 16777216 → (c' = 0 ∨ c' = 1) → d = rd a i - c - rd b i + 16777216 * c' → ∃ z, Dg z ∧ vn z + (vn (b.drop i) + c.toNat) = vn (a.drop i) ∧ z.length = r + 1 ∧ cleromancyref01_Sub.l0 (k + 1000010) a b (out ++ [d]) c' ((i + 1 : Nat) : Int) = some (tr (out ++ z)) := fun d c' h0 h1 h2 h3 => by
      obtain ⟨z, hz, vz, lz, e⟩ := sub_go a b ha hb hlen hl r k (i + 1) c' (out ++ [d]) (by omega) (by omega) (by omega) (by simp; omega) (by omega)
      exact ⟨d :: z, Dg.cons ⟨h0, h1⟩ hz, by rw [vn]; omega, by simp [lz], by rw [e, List.append_assoc]; rfl⟩
    rw [show k + 1 + 1000010 = (k + 1000010) + 1 from by omega, cleromancyref01_Sub.l0, if_pos (by omega), if_pos (by omega), w64 ((i : Int) + 1) (by omega) (by omega), natCast_succ', w64 (rd a i - c) (by omega) (by omega)]
    by_cases h1 : i < b.length
    · rw [if_pos (by omega), w64 (rd a i - c - rd b i) (by omega) (by omega)]
      by_cases h2 : rd a i - c - rd b i < 0
      · rw [if_pos h2, if_pos (by omega), w64 _ (by omega) (by omega)]
        exact key _ 1 (by omega) (by omega) (Or.inr rfl) (by omega)
      · rw [if_neg h2, if_pos (by omega)]
        exact key _ 0 (by omega) (by omega) (Or.inl rfl) (by omega)
    · have e2 := rd_out b i (by omega)
      rw [if_neg (by omega)]
      by_cases h2 : rd a i - c < 0
      · rw [if_pos h2, if_pos (by omega), w64 _ (by omega) (by omega)]
        exact key _ 1 (by omega) (by omega) (Or.inr rfl) (by omega)
      · rw [if_neg h2, if_pos (by omega)]
        exact key _ 0 (by omega) (by omega) (Or.inl rfl) (by omega)
theorem sub_is (a b : List Int) (ha : Dg a) (hb : Dg b) (hlen : b.length ≤ a.length) (hl : a.length ≤ 1000000) (hle : vn b ≤ vn a) (k : Nat) (hk : 2000020 ≤ k) : cleromancyref01_Sub.f k a b = some (dg (vn a - vn b)) := by
  obtain ⟨z, hz, vz, _, e⟩ := sub_go a b ha hb hlen hl a.length (k - 1000010) 0 0 [] (by omega) (by omega) (by omega) (by simp) (by simpa using hle)
  have e' : cleromancyref01_Sub.l0 (k - 1000010 + 1000010) a b [] 0 0 = _ := e
  rw [show k - 1000010 + 1000010 = k from by omega] at e'
  rw [List.drop_zero, List.drop_zero] at vz
  rw [cleromancyref01_Sub.f, e', List.nil_append, tr_dg hz]
  congr 2
  simp at vz
  omega
theorem dg_len_mono {m n : Nat} (h : m ≤ n) : (dg m).length ≤ (dg n).length := dg_len_le m _ (Nat.lt_of_le_of_lt h (by have := vn_lt (dg_Dg n); rwa [vn_dg] at this))
theorem subd_is (m n : Nat) (h : n ≤ m) (hl : (dg m).length ≤ 1000000) (k : Nat) (hk : 2000020 ≤ k) : cleromancyref01_Sub.f k (dg m) (dg n) = some (dg (m - n)) := by
  have := sub_is (dg m) (dg n) (dg_Dg m) (dg_Dg n) (dg_len_mono h) hl (by rw [vn_dg, vn_dg]; exact h) k hk
  rwa [vn_dg, vn_dg] at this

end Go.Proofs.Ytjkelnnjfpcapaa.Num
