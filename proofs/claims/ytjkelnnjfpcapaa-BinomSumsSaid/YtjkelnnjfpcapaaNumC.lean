/- What the reference's functions on numbers come to, in plain Lean. -/
import Derived.Test.YtjkelnnjfpcapaaNumB
namespace Go.Proofs.Ytjkelnnjfpcapaa.Num
open Go.RowKit Go.Proofs.Ytjkelnnjfpcapaa.PNat Go.Proofs.YtjkelnnjfpcapaaW Go.Proofs.YtjkelnnjfpcapaaW.PrintWords Go.Proofs.YtjkelnnjfpcapaaW.PrintLast Go.Proofs.YtjkelnnjfpcapaaW.PrintMore

theorem pow2_go : ∀ (r k i n : Nat), i + r = n → n ≤ 62 → r < k → cleromancyref01_Pow2.l0 k (n : Int) ((2 ^ i : Nat) : Int) (i : Int) = some ((2 ^ n : Nat) : Int)
  | 0, k, i, n, hi, hn, hk => by
    obtain ⟨k, rfl⟩ : ∃ m, k = m + 1 := ⟨k - 1, by omega⟩
    obtain rfl : i = n := by omega
    rw [cleromancyref01_Pow2.l0, if_neg (by omega)]
  | r + 1, k, i, n, hi, hn, hk => by
    obtain ⟨k, rfl⟩ : ∃ m, k = m + 1 := ⟨k - 1, by omega⟩
    have h1 : 2 ^ i ≤ 2 ^ 61 := Nat.pow_le_pow_right (by omega) (by omega)
    have ih := pow2_go r k (i + 1) n (by omega) hn (by omega)
    rw [Nat.pow_succ] at ih
    generalize 2 ^ i = P at h1 ih ⊢
    rw [cleromancyref01_Pow2.l0, if_pos (by omega), w64 _ (by omega) (by omega), w64 _ (by omega) (by omega), natCast_succ', show (2 : Int) * (P : Int) = ((P * 2 : Nat) : Int) from by omega]
    exact ih
theorem pow2_is (n : Nat) (hn : n ≤ 62) (k : Nat) (hk : n < k) : cleromancyref01_Pow2.f k (n : Int) = some ((2 ^ n : Nat) : Int) := pow2_go n k 0 n (by omega) hn hk

theorem vn_set : ∀ (l : List Int) (p : Nat) (v : Int), p < l.length → vn (l.set p v) + 16777216 ^ p * (rd l (p : Int)).toNat = vn l + 16777216 ^ p * v.toNat
  | [], p, v, h => by simp at h
  | x :: r, 0, v, _ => by simp [vn, rd]; omega
  | x :: r, p + 1, v, h => by
    have ih := vn_set r p v (by simpa using h)
    have e : rd (x :: r) ((p + 1 : Nat) : Int) = rd r (p : Int) := by simp [rd]
    rw [List.set_cons_succ, vn, vn, e, Nat.pow_succ, Nat.mul_comm (16777216 ^ p) 16777216, Nat.mul_assoc, Nat.mul_assoc]
    omega
theorem rd_set (l : List Int) (p q : Nat) (v : Int) (h : p < l.length) : rd (l.set p v) (q : Int) = if p = q then v else rd l (q : Int) := by
  simp only [rd, List.getD_eq_getElem?_getD, Int.toNat_natCast, List.getElem?_set]
  split
  · simp [*]
  · rfl
theorem Dg.set {l : List Int} (h : Dg l) (p : Nat) {v : Int} (hv : 0 ≤ v ∧ v < 16777216) : Dg (l.set p v) := fun x hx => by
  rcases List.mem_or_eq_of_mem_set hx with h1 | rfl
  · exact h x h1
  · exact hv
theorem vn_take_succ (l : List Int) (i : Nat) : vn (l.take (i + 1)) = vn (l.take i) + 16777216 ^ i * (rd l (i : Int)).toNat := by
  by_cases h : i < l.length
  · rw [take_rd l i h, vn_append, vn, vn, show (l.take i).length = i from by simp; omega]; simp
  · rw [rd_out l i (by omega), List.take_of_length_le (by omega), List.take_of_length_le (by omega)]; simp
theorem mul_in (a b : List Int) (ha : Dg a) (hb : Dg b) (hl : a.length + b.length ≤ 1000000) (i : Nat) (hi : i < a.length) : ∀ (r k j : Nat) (c : Int) (out : List Int), j + r = b.length → 0 ≤ c ∧ c < 16777216 → out.length = a.length + b.length + 1 → Dg out → (∀ p, i + b.length ≤ p → rd out ((p : Nat) : Int) = 0) →
    vn out + 16777216 ^ (i + j) * c.toNat = vn (a.take i) * vn b + 16777216 ^ i * ((rd a (i : Int)).toNat * vn (b.take j)) →
    ∃ out', out'.length = a.length + b.length + 1 ∧ Dg out' ∧ (∀ p, i + 1 + b.length ≤ p → rd out' ((p : Nat) : Int) = 0) ∧ vn out' = vn (a.take (i + 1)) * vn b ∧
      cleromancyref01_Mul.l1 (k + r + 1) a b out (i : Int) c (j : Int) = cleromancyref01_Mul.l0 k a b out' ((i + 1 : Nat) : Int)
  | 0, k, j, c, out, hj, hc, ho, hd, hz, hv => by
    obtain rfl : j = b.length := by omega
    have hz0 := hz (i + b.length) (Nat.le_refl _)
    refine ⟨out.set (i + b.length) c, by rw [List.length_set, ho], hd.set _ hc, fun p hp => ?_, ?_, ?_⟩
    · rw [rd_set _ _ _ _ (by omega), if_neg (by omega)]; exact hz p (by omega)
    · have h1 := vn_set out (i + b.length) c (by omega)
      rw [hz0] at h1
      rw [List.take_length] at hv
      rw [vn_take_succ a i, Nat.add_mul]
      simp at h1
      rw [h1, hv, Nat.mul_assoc]
    · rw [show k + 0 + 1 = k + 1 from rfl, cleromancyref01_Mul.l1, if_neg (by omega), w64 ((i : Int) + _) (by omega) (by omega), if_pos (by omega), if_pos (by omega), show (i : Int) + (b.length : Int) = ((i + b.length : Nat) : Int) from by push_cast; rfl, hz0, w64 _ (by omega) (by omega), w64 _ (by omega) (by omega), natCast_succ', Int.toNat_natCast, Int.zero_add]
  | r + 1, k, j, c, out, hj, hc, ho, hd, hz, hv => by
    have da := ha.rd (i : Int)
    have db := hb.rd (j : Int)
    have dx := hd.rd ((i + j : Nat) : Int)
    have hp1 : 0 ≤ rd a (i : Int) * rd b (j : Int) := Int.mul_nonneg da.1 db.1
    have hp2 : rd a (i : Int) * rd b (j : Int) ≤ 16777215 * 16777215 := Int.mul_le_mul (by omega) (by omega) db.1 (by omega)
    have hp3 : (rd a (i : Int) * rd b (j : Int)).toNat = (rd a (i : Int)).toNat * (rd b (j : Int)).toNat := Int.toNat_mul da.1 db.1
    obtain ⟨t, ht⟩ : ∃ t, t = c + rd out ((i + j : Nat) : Int) + rd a (i : Int) * rd b (j : Int) := ⟨_, rfl⟩
    have hs := vn_set out (i + j) (t % 16777216) (by omega)
    have htn : t.toNat = c.toNat + (rd out ((i + j : Nat) : Int)).toNat + (rd a (i : Int)).toNat * (rd b (j : Int)).toNat := by rw [← hp3]; omega
    have hd1 : (t % 16777216).toNat + 16777216 * (t / 16777216).toNat = t.toNat := by omega
    obtain ⟨out', h1, h2, h3, h4, h5⟩ := mul_in a b ha hb hl i hi r k (j + 1) (t / 16777216) (out.set (i + j) (t % 16777216)) (by omega) (by omega) (by rw [List.length_set, ho]) (hd.set _ (by omega)) (fun p hp => by rw [rd_set _ _ _ _ (by omega), if_neg (by omega)]; exact hz p hp) (by
      rw [vn_take_succ b j]
      generalize vn (out.set (i + j) (t % 16777216)) = vo at hs ⊢
      generalize (rd a (i : Int)).toNat = x at hv htn ⊢
      generalize (rd b (j : Int)).toNat = y at htn ⊢
      generalize (rd out ((i + j : Nat) : Int)).toNat = z at hs htn
      generalize (t % 16777216).toNat = u at hs hd1
      generalize (t / 16777216).toNat = v at hd1 ⊢
      have e1 : 16777216 ^ (i + (j + 1)) = 16777216 ^ (i + j) * 16777216 := by rw [← Nat.add_assoc, Nat.pow_succ]
      have e2 : (16777216 : Nat) ^ (i + j) = 16777216 ^ i * 16777216 ^ j := Nat.pow_add ..
      have e3 : 16777216 ^ (i + j) * (u + 16777216 * v) = 16777216 ^ (i + j) * (c.toNat + z + x * y) := by rw [hd1, htn]
      rw [e1]
      rw [Nat.mul_add, Nat.mul_add, Nat.mul_add] at e3
      have e4 : 16777216 ^ i * (x * (vn (b.take j) + 16777216 ^ j * y)) = 16777216 ^ i * (x * vn (b.take j)) + 16777216 ^ (i + j) * (x * y) := by rw [e2]; grind
      rw [e4, Nat.mul_assoc]
      omega)
    refine ⟨out', h1, h2, h3, h4, ?_⟩
    rw [← h5, show k + (r + 1) + 1 = (k + r + 1) + 1 from by omega, cleromancyref01_Mul.l1, if_pos (by omega), w64 ((i : Int) + (j : Int)) (by omega) (by omega), show (i : Int) + (j : Int) = ((i + j : Nat) : Int) from by push_cast; rfl, if_pos (by omega), if_pos (by omega), if_pos (by omega), if_pos (by omega), if_pos (by omega), w64 ((j : Int) + 1) (by omega) (by omega), natCast_succ', w64 (rd a (i : Int) * rd b (j : Int)) (by omega) (by omega), w64 (c + _) (by omega) (by omega), w64 (c + _ + _) (by omega) (by omega), ← ht, Int.tmod_eq_emod_of_nonneg (by omega), Int.tdiv_eq_ediv_of_nonneg (by omega), w64 _ (by omega) (by omega), Int.toNat_natCast]
theorem mul_go (a b : List Int) (ha : Dg a) (hb : Dg b) (hl : a.length + b.length ≤ 1000000) : ∀ (r k i : Nat) (out : List Int), i + r = a.length → out.length = a.length + b.length + 1 → Dg out → (∀ p, i + b.length ≤ p → rd out ((p : Nat) : Int) = 0) → vn out = vn (a.take i) * vn b →
    cleromancyref01_Mul.l0 (k + 1000010 + r * (b.length + 2)) a b out (i : Int) = some (dg (vn a * vn b))
  | 0, k, i, out, hi, ho, hd, hz, hv => by
    obtain rfl : i = a.length := by omega
    rw [Nat.zero_mul, Nat.add_zero, cleromancyref01_Mul.l0, if_neg (by omega), trim_is out (by omega) _ (by omega), Option.bind_some, tr_dg hd, hv, List.take_length]
  | r + 1, k, i, out, hi, ho, hd, hz, hv => by
    obtain ⟨out', h1, h2, h3, h4, h5⟩ := mul_in a b ha hb hl i (by omega) b.length (k + 1000010 + r * (b.length + 2)) 0 0 out (by omega) (by omega) ho hd hz (by simp [hv, vn])
    have ih := mul_go a b ha hb hl r k (i + 1) out' (by omega) h1 h2 h3 h4
    rw [Nat.add_mul, Nat.one_mul, show k + 1000010 + (r * (b.length + 2) + (b.length + 2)) = (k + 1000010 + r * (b.length + 2) + b.length + 1) + 1 from by omega, cleromancyref01_Mul.l0, if_pos (by omega)]
    rw [← ih, ← h5]
    rfl
theorem Dg.zeros (n : Nat) : Dg (List.replicate n 0) := fun x hx => by rw [(List.mem_replicate.1 hx).2]; decide
theorem vn_zeros : ∀ n : Nat, vn (List.replicate n 0) = 0
  | 0 => rfl
  | n + 1 => by rw [List.replicate_succ, vn, vn_zeros n]; rfl
theorem mul_is (a b : List Int) (ha : Dg a) (hb : Dg b) (hl : a.length + b.length ≤ 1000000) (k : Nat) (hk : 1000010 + a.length * (b.length + 2) ≤ k) : cleromancyref01_Mul.f k a b = some (dg (vn a * vn b)) := by
  have := mul_go a b ha hb hl a.length (k - 1000010 - a.length * (b.length + 2)) 0 (List.replicate (a.length + b.length + 1) 0) (by omega) (by simp) (Dg.zeros _) (fun p _ => by simp [rd, List.getD_eq_getElem?_getD, List.getElem?_replicate]; split <;> rfl) (by simp [vn_zeros, vn])
  rw [show k - 1000010 - a.length * (b.length + 2) + 1000010 + a.length * (b.length + 2) = k from by omega] at this
  rw [cleromancyref01_Mul.f, w64 ((a.length : Int) + _) (by omega) (by omega), w64 _ (by omega) (by omega), if_pos (by omega), if_pos (by omega), show ((a.length : Int) + (b.length : Int) + 1).toNat = a.length + b.length + 1 from by omega]
  exact this

end Go.Proofs.Ytjkelnnjfpcapaa.Num
