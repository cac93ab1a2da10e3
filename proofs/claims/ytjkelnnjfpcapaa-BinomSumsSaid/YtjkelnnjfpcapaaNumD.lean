/- What the reference's functions on numbers come to, in plain Lean. -/
import Derived.Test.YtjkelnnjfpcapaaNumC
namespace Go.Proofs.Ytjkelnnjfpcapaa.Num
open Go.RowKit Go.Proofs.Ytjkelnnjfpcapaa.PNat Go.Proofs.YtjkelnnjfpcapaaW Go.Proofs.YtjkelnnjfpcapaaW.PrintWords Go.Proofs.YtjkelnnjfpcapaaW.PrintLast Go.Proofs.YtjkelnnjfpcapaaW.PrintMore

theorem Ev.then {α β : Type} {g : Nat → Option α} {f : Nat → α → Option β} {a : α} {r : β} (h : Ev g a) (k : Ev (fun n => f n a) r) : Ev (fun n => (g n).bind (f n)) r := Ev.bind h k
theorem Ev.at {α : Type} {g : Nat → Option α} {r : α} (K : Nat) (h : ∀ k, K ≤ k → g k = some r) : Ev g r := ⟨K, h⟩
theorem pow2_ev (n : Nat) (hn : n ≤ 62) : Ev (fun k => cleromancyref01_Pow2.f k (n : Int)) ((2 ^ n : Nat) : Int) := ⟨n + 1, fun k hk => pow2_is n hn k (by omega)⟩
theorem int_ev (n : Nat) (hn : n ≤ 9223372036854775807) : Ev (fun k => cleromancyref01_Int.f k (n : Int)) (dg n) := ⟨4, fun k hk => int_is n hn k (by omega)⟩
theorem trim_ev (l : List Int) (hd : Dg l) (hl : l.length ≤ 1000000) : Ev (fun k => cleromancyref01_Trim.f k l) (dg (vn l)) := ⟨l.length + 1, fun k hk => by show cleromancyref01_Trim.f k l = _; rw [trim_is l (by omega) k (by omega), tr_dg hd]⟩
theorem add_ev (a b : List Int) (ha : Dg a) (hb : Dg b) (hla : a.length ≤ 1000000) (hlb : b.length ≤ 1000000) : Ev (fun k => cleromancyref01_Add.f k a b) (dg (vn a + vn b)) := ⟨4000030, fun k hk => add_is a b ha hb 1000000 hla hlb (by omega) k (by omega)⟩
theorem cmp_ev (m n : Nat) (hm : (dg m).length ≤ 1000000) : Ev (fun k => cleromancyref01_Cmp.f k (dg m) (dg n)) (cmp m n) := ⟨1000001, fun k hk => cmp_is m n hm k (by omega)⟩
theorem sub_ev (m n : Nat) (h : n ≤ m) (hl : (dg m).length ≤ 1000000) : Ev (fun k => cleromancyref01_Sub.f k (dg m) (dg n)) (dg (m - n)) := ⟨2000020, fun k hk => subd_is m n h hl k hk⟩
theorem mul_ev (a b : List Int) (ha : Dg a) (hb : Dg b) (hl : a.length + b.length ≤ 1000000) : Ev (fun k => cleromancyref01_Mul.f k a b) (dg (vn a * vn b)) := ⟨_, fun k hk => mul_is a b ha hb hl k hk⟩
theorem dg_len_small (n : Nat) (h : n ≤ 9223372036854775807) : (dg n).length ≤ 3 := dg_len_le n 3 (by omega)
theorem small_ev (a : List Int) (ha : Dg a) (hl : a.length ≤ 999000) (n : Nat) (hn : n ≤ 9223372036854775807) : Ev (fun k => cleromancyref01_Small.f k a (n : Int)) (dg (vn a * n)) := by
  have h3 := dg_len_small n hn
  refine Ev.congr (fun k => rfl) ?_
  unfold cleromancyref01_Small.f
  refine Ev.bind (int_ev n hn) ?_
  refine Ev.bind (mul_ev a (dg n) ha (dg_Dg n) (by omega)) ?_
  rw [vn_dg]
  exact Ev.now _
theorem shift_ev (a : List Int) (ha : Dg a) (n : Nat) (hn : n ≤ 400000) (hl : a.length ≤ 400000) : Ev (fun k => cleromancyref01_Shift.f k a (n : Int)) (dg (vn a * 2 ^ n)) := by
  unfold cleromancyref01_Shift.f
  by_cases h : a.length = 0
  · obtain rfl := List.eq_nil_of_length_eq_zero h
    refine Ev.congr (fun k => by rw [if_pos (by simp)]) ?_
    rw [vn, Nat.zero_mul, dg_zero]
    exact Ev.now _
  · have e1 : wrap64 (Int.tdiv (n : Int) 24) = ((n / 24 : Nat) : Int) := by rw [Int.tdiv_eq_ediv_of_nonneg (by omega), w64 _ (by omega) (by omega)]; omega
    have e2 : Int.tmod (n : Int) 24 = ((n % 24 : Nat) : Int) := by rw [Int.tmod_eq_emod_of_nonneg (by omega)]; omega
    refine Ev.congr (fun k => by rw [if_neg (by omega), e1, e2, if_pos (by omega), if_pos (by omega), Option.bind_some, if_pos (by simp; omega)]) ?_
    rw [Int.toNat_natCast]
    refine Ev.bind (pow2_ev (n % 24) (by omega)) ?_
    have hp : 2 ^ (n % 24) ≤ 2 ^ 23 := Nat.pow_le_pow_right (by omega) (by omega)
    refine Ev.bind (small_ev (List.replicate (n / 24) 0 ++ a) ((Dg.zeros _).append ha) (by simp; omega) (2 ^ (n % 24)) (by omega)) ?_
    rw [vn_append, vn_zeros, List.length_replicate, Nat.zero_add]
    have : 16777216 ^ (n / 24) * vn a * 2 ^ (n % 24) = vn a * 2 ^ n := by
      have h1 : (16777216 : Nat) ^ (n / 24) = 2 ^ (24 * (n / 24)) := by rw [Nat.pow_mul]
      have h2 : (2 : Nat) ^ n = 2 ^ (24 * (n / 24)) * 2 ^ (n % 24) := by rw [← Nat.pow_add]; congr 1; omega
      rw [h1, h2, Nat.mul_comm _ (vn a), Nat.mul_assoc]
    rw [this]
    exact Ev.now _

/-- How many bits a number has. -/
def bl (n : Nat) : Nat := if n = 0 then 0 else 1 + bl (n / 2)
termination_by n
decreasing_by omega
theorem bl_zero : bl 0 = 0 := by rw [bl]; rfl
theorem bl_pos {n : Nat} (h : n ≠ 0) : bl n = 1 + bl (n / 2) := by rw [bl, if_neg h]
theorem bl_le : ∀ (m n : Nat), bl n ≤ m ↔ n < 2 ^ m
  | 0, n => by
    by_cases h : n = 0
    · subst h; simp [bl_zero]
    · rw [bl_pos h]; simp; omega
  | m + 1, n => by
    by_cases h : n = 0
    · subst h; rw [bl_zero]; simp; exact Nat.pow_pos (by omega)
    · rw [bl_pos h, Nat.pow_succ]
      have := bl_le m (n / 2)
      omega
theorem bl_shift : ∀ (k low t : Nat), low < 2 ^ k → t ≠ 0 → bl (low + 2 ^ k * t) = k + bl t
  | 0, low, t, h, ht => by simp at h; subst h; simp
  | k + 1, low, t, h, ht => by
    have ht' : 1 ≤ t := by omega
    have hp : 2 ^ (k + 1) * 1 ≤ 2 ^ (k + 1) * t := Nat.mul_le_mul_left _ ht'
    have hq : 0 < 2 ^ (k + 1) := Nat.pow_pos (by omega)
    rw [bl_pos (by omega)]
    have e : (low + 2 ^ (k + 1) * t) / 2 = low / 2 + 2 ^ k * t := by rw [Nat.pow_succ, Nat.mul_comm (2 ^ k) 2, Nat.mul_assoc]; omega
    rw [e, bl_shift k (low / 2) t (by rw [Nat.pow_succ] at h; omega) ht]
    omega
theorem dg_top (n : Nat) : n ≠ 0 → rd (dg n) (((dg n).length - 1 : Nat) : Int) ≠ 0 := by
  induction n using Nat.strongRecOn with
  | ind n ih =>
    intro h
    rw [dg_pos h]
    by_cases h2 : n / 16777216 = 0
    · rw [h2, dg_zero]; simp [rd]; omega
    · have := ih (n / 16777216) (by omega) h2
      have h3 : 0 < (dg (n / 16777216)).length := by
        rcases Nat.eq_zero_or_pos (dg (n / 16777216)).length with h0 | h0
        · exact absurd (dg_nil.1 (List.eq_nil_of_length_eq_zero h0)) h2
        · exact h0
      obtain ⟨m, hm⟩ : ∃ m, (dg (n / 16777216)).length = m + 1 := ⟨_, (Nat.succ_pred_eq_of_pos h3).symm⟩
      rw [List.length_cons, hm]
      rw [hm] at this
      simpa [rd] using this
theorem bits_go : ∀ (m x : Nat) (n : Int), x < 2 ^ m → m ≤ 62 → 0 ≤ n → n + m ≤ 1000000100 → Ev (fun k => cleromancyref01_Bits.l0 k n (x : Int)) (n + (bl x : Int))
  | 0, x, n, hx, _, h0, h1 => by
    obtain rfl : x = 0 := by simpa using hx
    refine Ev.step (f := fun _ => some n) (fun k => by rw [cleromancyref01_Bits.l0, if_neg (by omega)]) ?_
    rw [bl_zero]; simpa using Ev.now n
  | m + 1, x, n, hx, hm, h0, h1 => by
    by_cases h : x = 0
    · subst h
      refine Ev.step (f := fun _ => some n) (fun k => by rw [cleromancyref01_Bits.l0, if_neg (by omega)]) ?_
      rw [bl_zero]; simpa using Ev.now n
    · have hb : x < 2 ^ 62 := Nat.lt_of_lt_of_le hx (Nat.pow_le_pow_right (by omega) (by omega))
      refine Ev.step (f := fun k => cleromancyref01_Bits.l0 k (n + 1) ((x / 2 : Nat) : Int)) (fun k => by rw [cleromancyref01_Bits.l0, if_pos (by omega), w64 _ (by omega) (by omega), Int.tdiv_eq_ediv_of_nonneg (by omega), w64 _ (by omega) (by omega)]; congr 1) ?_
      have := bits_go m (x / 2) (n + 1) (by rw [Nat.pow_succ] at hx; omega) (by omega) (by omega) (by omega)
      rw [bl_pos h]
      rw [show n + ((1 + bl (x / 2) : Nat) : Int) = n + 1 + (bl (x / 2) : Int) from by push_cast; omega]
      exact this
theorem bits_ev (n : Nat) (hl : (dg n).length ≤ 1000000) : Ev (fun k => cleromancyref01_Bits.f k (dg n)) (bl n : Int) := by
  unfold cleromancyref01_Bits.f
  by_cases h : n = 0
  · subst h
    refine Ev.congr (fun k => by rw [dg_zero, if_pos (by simp)]) ?_
    rw [bl_zero]; exact Ev.now _
  · have h0 : 0 < (dg n).length := by
      rcases Nat.eq_zero_or_pos (dg n).length with h0 | h0
      · exact absurd (dg_nil.1 (List.eq_nil_of_length_eq_zero h0)) h
      · exact h0
    obtain ⟨m, hm⟩ : ∃ m, (dg n).length = m + 1 := ⟨_, (Nat.succ_pred_eq_of_pos h0).symm⟩
    have ht := dg_top n h
    rw [hm, Nat.add_sub_cancel] at ht
    have hd := (dg_Dg n).rd (m : Int)
    have e1 : vn (dg n) = vn ((dg n).take m) + 16777216 ^ m * (rd (dg n) (m : Int)).toNat := by
      rw [← vn_take_succ, List.take_of_length_le (by omega)]
    rw [vn_dg] at e1
    have e2 := vn_lt ((dg_Dg n).take m)
    rw [show ((dg n).take m).length = m from by simp; omega, show (16777216 : Nat) ^ m = 2 ^ (24 * m) from by rw [Nat.pow_mul]] at e2
    rw [show (16777216 : Nat) ^ m = 2 ^ (24 * m) from by rw [Nat.pow_mul]] at e1
    have e3 := bl_shift (24 * m) _ (rd (dg n) (m : Int)).toNat e2 (by omega)
    rw [← e1] at e3
    refine Ev.congr (fun k => by rw [hm, if_neg (by omega), w64 _ (by omega) (by omega), show ((m + 1 : Nat) : Int) - 1 = (m : Int) from by omega, if_pos (by omega), if_pos (by omega), w64 _ (by omega) (by omega)]) ?_
    have := bits_go 24 (rd (dg n) (m : Int)).toNat (24 * (m : Int)) (by omega) (by omega) (by omega) (by omega)
    rw [show (((rd (dg n) (m : Int)).toNat : Nat) : Int) = rd (dg n) (m : Int) from by omega] at this
    rw [e3]
    push_cast
    exact this

end Go.Proofs.Ytjkelnnjfpcapaa.Num
