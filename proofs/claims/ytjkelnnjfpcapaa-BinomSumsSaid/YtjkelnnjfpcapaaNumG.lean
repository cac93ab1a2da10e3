/- What the reference's functions on numbers come to, in plain Lean. -/
import Derived.Test.YtjkelnnjfpcapaaNumF
namespace Go.Proofs.Ytjkelnnjfpcapaa.Num
open Go.RowKit Go.Proofs.Ytjkelnnjfpcapaa.PNat Go.Proofs.YtjkelnnjfpcapaaW Go.Proofs.YtjkelnnjfpcapaaW.PrintWords Go.Proofs.YtjkelnnjfpcapaaW.PrintLast Go.Proofs.YtjkelnnjfpcapaaW.PrintMore

/-- So many bytes, the lowest first. -/
def le : Nat → Nat → List Int
  | 0, _ => []
  | m + 1, v => ((v % 256 : Nat) : Int) :: le m (v / 256)
theorem le_len : ∀ m v, (le m v).length = m
  | 0, _ => rfl
  | m + 1, v => by rw [le, List.length_cons, le_len]
theorem le_By : ∀ m v, By (le m v)
  | 0, _ => fun _ h => by cases h
  | m + 1, v => fun x hx => by
    rw [le] at hx
    rcases List.mem_cons.1 hx with rfl | hx
    · omega
    · exact le_By m _ x hx
theorem le_rd : ∀ (m v p : Nat), p < m → rd (le m v) (p : Int) = ((v / 256 ^ p % 256 : Nat) : Int)
  | m + 1, v, 0, _ => by simp [le, rd]
  | m + 1, v, p + 1, h => by
    have := le_rd m (v / 256) p (by omega)
    rw [show rd (le (m + 1) v) ((p + 1 : Nat) : Int) = rd (le m (v / 256)) (p : Int) from by simp [le, rd], this, Nat.div_div_eq_div_mul, Nat.pow_succ, Nat.mul_comm 256]
theorem digit_byte (a : List Int) (ha : Dg a) (j s : Nat) (hs : s < 3) : vn a / 256 ^ (3 * j + s) % 256 = (rd a (j : Int)).toNat / 256 ^ s % 256 := by
  have e1 : vn a = vn (a.take j) + 16777216 ^ (a.take j).length * vn (a.drop j) := by rw [← vn_append, List.take_append_drop]
  have l1 := vn_lt (ha.take j)
  have e2 : vn a / 16777216 ^ j = vn (a.drop j) := by
    by_cases h : j ≤ a.length
    · rw [show (a.take j).length = j from by simp; omega] at e1 l1
      rw [e1, Nat.add_comm, Nat.mul_add_div (Nat.pow_pos (by omega)), Nat.div_eq_of_lt l1, Nat.add_zero]
    · have hlt : vn a < 16777216 ^ j := Nat.lt_of_lt_of_le (vn_lt ha) (Nat.pow_le_pow_right (by omega) (by omega))
      rw [Nat.div_eq_of_lt hlt, vn_drop_all a j (by omega)]
  have e3 : vn a / 256 ^ (3 * j + s) = vn (a.drop j) / 256 ^ s := by rw [Nat.pow_add, show (256 : Nat) ^ (3 * j) = 16777216 ^ j from by rw [Nat.pow_mul], ← Nat.div_div_eq_div_mul, e2]
  rw [e3, vn_drop a j]
  have : s = 0 ∨ s = 1 ∨ s = 2 := by omega
  rcases this with rfl | rfl | rfl <;> simp <;> omega
theorem little_in (a : List Int) (n : Int) (out : List Int) (i : Nat) (hi : i < out.length) (hio : i ≤ 1000000) : ∀ (r s : Nat) (x : Nat), s + r = i % 3 → x < 16777216 → ∀ {R : List Int},
    Ev (fun k => cleromancyref01_ToLittle.l0 k a n (out.set i ((x / 256 ^ r % 256 : Nat) : Int)) ((i + 1 : Nat) : Int)) R →
    Ev (fun k => cleromancyref01_ToLittle.l1 k a n out (i : Int) (x : Int) (s : Int)) R
  | 0, s, x, hs, hx, R, h => by
    have e : Int.tmod (i : Int) 3 = (s : Int) := by rw [Int.tmod_eq_emod_of_nonneg (by omega)]; omega
    have e2 : Int.tmod (x : Int) 256 % 256 = ((x % 256 : Nat) : Int) := by rw [Int.tmod_eq_emod_of_nonneg (by omega)]; omega
    refine Ev.step (fun k => by rw [cleromancyref01_ToLittle.l1, if_neg (by rw [e]; omega), if_pos (by omega), if_pos (by omega), e2, w64 ((i : Int) + 1) (by omega) (by omega), natCast_succ', Int.toNat_natCast]) ?_
    simpa using h
  | r + 1, s, x, hs, hx, R, h => by
    have e : Int.tmod (i : Int) 3 = ((i % 3 : Nat) : Int) := by rw [Int.tmod_eq_emod_of_nonneg (by omega)]; omega
    have e2 : wrap64 (Int.tdiv (x : Int) 256) = ((x / 256 : Nat) : Int) := by rw [Int.tdiv_eq_ediv_of_nonneg (by omega), w64 _ (by omega) (by omega)]; omega
    refine Ev.step (fun k => by rw [cleromancyref01_ToLittle.l1, if_pos (by rw [e]; omega), e2, w64 ((s : Int) + 1) (by omega) (by omega), natCast_succ']) ?_
    refine little_in a n out i hi hio r (s + 1) (x / 256) (by omega) (by omega) ?_
    rw [Nat.div_div_eq_div_mul, show 256 * 256 ^ r = 256 ^ (r + 1) from by rw [Nat.pow_succ, Nat.mul_comm]]
    exact h
theorem set_zero_at (p : Nat) (m : Nat) (l : List Int) (x : Int) (hl : l.length = p) : (l ++ List.replicate (m + 1) 0).set p x = l ++ [x] ++ List.replicate m 0 := by
  rw [List.set_append_right _ _ (by omega), show p - l.length = 0 from by omega, List.replicate_succ, List.set_cons_zero, List.append_assoc]
  rfl
theorem little_go (a : List Int) (ha : Dg a) (hla : a.length ≤ 1000000) (n : Nat) (hn : n ≤ 1000000) : ∀ (r i : Nat), i + r = n → Ev (fun k => cleromancyref01_ToLittle.l0 k a (n : Int) ((le n (vn a)).take i ++ List.replicate r 0) (i : Int)) (le n (vn a))
  | 0, i, hi => by
    refine Ev.step (f := fun _ => _) (fun k => by rw [cleromancyref01_ToLittle.l0, if_neg (by omega)]) ?_
    rw [List.take_of_length_le (by rw [le_len]; omega), List.replicate_zero, List.append_nil]
    exact Ev.now _
  | r + 1, i, hi => by
    have ih := little_go a ha hla n hn r (i + 1) (by omega)
    have e : wrap64 (Int.tdiv (i : Int) 3) = ((i / 3 : Nat) : Int) := by rw [Int.tdiv_eq_ediv_of_nonneg (by omega), w64 _ (by omega) (by omega)]; omega
    have hb := digit_byte a ha (i / 3) (i % 3) (by omega)
    rw [show 3 * (i / 3) + i % 3 = i from by omega] at hb
    have hx := ha.rd ((i / 3 : Nat) : Int)
    have hr := le_rd n (vn a) i (by omega)
    rw [hb] at hr
    have ht : (le n (vn a)).take (i + 1) = (le n (vn a)).take i ++ [rd (le n (vn a)) (i : Int)] := take_rd _ _ (by rw [le_len]; omega)
    have hset := set_zero_at i r ((le n (vn a)).take i) (rd (le n (vn a)) (i : Int)) (by rw [List.length_take, le_len]; omega)
    rw [← ht] at hset
    by_cases h : i / 3 < a.length
    · refine Ev.step (fun k => by rw [cleromancyref01_ToLittle.l0, if_pos (by omega), e, if_pos (by omega), if_pos (by omega)]) ?_
      have hl : i < ((le n (vn a)).take i ++ List.replicate (r + 1) 0).length := by rw [List.length_append, List.length_take, le_len, List.length_replicate]; omega
      have := little_in a (n : Int) ((le n (vn a)).take i ++ List.replicate (r + 1) 0) i hl (by omega) (i % 3) 0 (rd a ((i / 3 : Nat) : Int)).toNat (by omega) (by omega) (R := le n (vn a)) (by rw [← hr, hset]; exact ih)
      rw [show (((rd a ((i / 3 : Nat) : Int)).toNat : Nat) : Int) = rd a ((i / 3 : Nat) : Int) from by omega] at this
      exact this
    · refine Ev.step (fun k => by rw [cleromancyref01_ToLittle.l0, if_pos (by omega), e, if_neg (by omega), w64 ((i : Int) + 1) (by omega) (by omega), natCast_succ']) ?_
      rw [rd_out a (i / 3) (by omega)] at hr
      have h0 : rd (le n (vn a)) (i : Int) = 0 := by rw [hr]; simp
      rw [ht, h0, List.append_assoc] at ih
      exact ih
theorem little_ev (a : List Int) (ha : Dg a) (hla : a.length ≤ 1000000) (n : Nat) (hn : n ≤ 1000000) : Ev (fun k => cleromancyref01_ToLittle.f k a (n : Int)) (le n (vn a)) := by
  have := little_go a ha hla n hn n 0 (by omega)
  rw [List.take_zero, List.nil_append] at this
  unfold cleromancyref01_ToLittle.f
  refine Ev.congr (fun k => by rw [if_pos (by omega), if_pos (by omega), Int.toNat_natCast]) ?_
  exact this
theorem turned_go (l : List Int) (hl : l.length ≤ 1000000) : ∀ n, n ≤ l.length → Ev (fun k => cleromancyref01_Turned.l0 k l (l.drop n).reverse ((n : Int) - 1)) l.reverse
  | 0, _ => by
    refine Ev.step (f := fun _ => _) (fun k => by rw [cleromancyref01_Turned.l0, if_neg (by omega)]) ?_
    rw [List.drop_zero]
    exact Ev.now _
  | n + 1, hn => by
    refine Ev.step (fun k => by rw [cleromancyref01_Turned.l0, show ((n + 1 : Nat) : Int) - 1 = (n : Int) from by omega, if_pos (by omega), if_pos (by omega), if_pos (by omega), if_pos (by simp; omega), w64 _ (by omega) (by omega)]) ?_
    have := turned_go l hl n (by omega)
    rw [drop_rd l n (by omega), List.reverse_cons] at this
    exact this
theorem turned_ev (l : List Int) (hl : l.length ≤ 1000000) : Ev (fun k => cleromancyref01_Turned.f k l) l.reverse := by
  have := turned_go l hl l.length (Nat.le_refl _)
  rw [List.drop_length, List.reverse_nil] at this
  unfold cleromancyref01_Turned.f
  rw [w64 _ (by omega) (by omega)]
  exact this
/-- So many bytes, the highest first. -/
def be (m v : Nat) : List Int := (le m v).reverse
theorem be_len (m v : Nat) : (be m v).length = m := by rw [be, List.length_reverse, le_len]
theorem be_By (m v : Nat) : By (be m v) := fun x hx => le_By m v x (by simpa [be] using hx)
theorem tobig_ev (a : List Int) (ha : Dg a) (hla : a.length ≤ 1000000) (n : Nat) (hn : n ≤ 1000000) : Ev (fun k => cleromancyref01_ToBig.f k a (n : Int)) (be n (vn a)) := by
  unfold cleromancyref01_ToBig.f
  refine Ev.bind (little_ev a ha hla n hn) ?_
  refine Ev.bind (turned_ev _ (by rw [le_len]; omega)) ?_
  exact Ev.now _
theorem bv_be : ∀ (m v : Nat), v < 256 ^ m → bv (be m v) = v
  | 0, v, h => by simp at h; subst h; rfl
  | m + 1, v, h => by
    rw [be, le, List.reverse_cons, bv_snoc]
    have := bv_be m (v / 256) (by rw [Nat.pow_succ] at h; omega)
    rw [be] at this
    rw [this]
    omega
/-- Are two lists of bytes one? -/
theorem same_go (a b : List Int) (hlen : a.length = b.length) (hl : a.length ≤ 1000000) : ∀ (r i : Nat), i + r = a.length → Ev (fun k => cleromancyref01_Same.l0 k a b (i : Int)) (decide (a.drop i = b.drop i))
  | 0, i, hi => by
    refine Ev.step (f := fun _ => _) (fun k => by rw [cleromancyref01_Same.l0, if_neg (by omega)]) ?_
    rw [List.drop_of_length_le (by omega), List.drop_of_length_le (by omega)]
    exact Ev.now _
  | r + 1, i, hi => by
    have ih := same_go a b hlen hl r (i + 1) (by omega)
    rw [drop_rd a i (by omega), drop_rd b i (by omega)]
    by_cases h : rd a (i : Int) = rd b (i : Int)
    · refine Ev.step (fun k => by rw [cleromancyref01_Same.l0, if_pos (by omega), if_pos (by omega), if_pos (by omega), if_pos h, w64 _ (by omega) (by omega), natCast_succ']) ?_
      rw [h, show decide (rd b (i : Int) :: a.drop (i + 1) = rd b (i : Int) :: b.drop (i + 1)) = decide (a.drop (i + 1) = b.drop (i + 1)) from by simp]
      exact ih
    · refine Ev.step (f := fun _ => _) (fun k => by rw [cleromancyref01_Same.l0, if_pos (by omega), if_pos (by omega), if_pos (by omega), if_neg h]) ?_
      rw [decide_eq_false (by simp [h])]
      exact Ev.now _
theorem same_ev (a b : List Int) (hl : a.length ≤ 1000000) : Ev (fun k => cleromancyref01_Same.f k a b) (decide (a = b)) := by
  unfold cleromancyref01_Same.f
  by_cases h : (a.length : Int) = (b.length : Int)
  · refine Ev.congr (fun k => by rw [if_pos h]) ?_
    have := same_go a b (by omega) hl a.length 0 (by omega)
    rw [List.drop_zero, List.drop_zero] at this
    exact this
  · refine Ev.congr (fun k => by rw [if_neg h]) ?_
    rw [decide_eq_false (fun e => h (by rw [e]))]
    exact Ev.now _

end Go.Proofs.Ytjkelnnjfpcapaa.Num
