/- What the reference's functions on numbers come to, in plain Lean. -/
import Derived.Test.YtjkelnnjfpcapaaNumG
namespace Go.Proofs.Ytjkelnnjfpcapaa.Num
open Go.RowKit Go.Proofs.Ytjkelnnjfpcapaa.PNat Go.Proofs.YtjkelnnjfpcapaaW Go.Proofs.YtjkelnnjfpcapaaW.PrintWords Go.Proofs.YtjkelnnjfpcapaaW.PrintLast Go.Proofs.YtjkelnnjfpcapaaW.PrintMore

/-- Are two lists of words one? -/
theorem wsame_go (a b : List Int) (hlen : a.length = b.length) (hl : a.length ≤ 1000000) : ∀ (r i : Nat), i + r = a.length → Ev (fun k => cleromancyref02_Same.l0 k a b (i : Int)) (decide (a.drop i = b.drop i))
  | 0, i, hi => by
    refine Ev.step (f := fun _ => _) (fun k => by rw [cleromancyref02_Same.l0, if_neg (by omega)]) ?_
    rw [List.drop_of_length_le (by omega), List.drop_of_length_le (by omega)]
    exact Ev.now _
  | r + 1, i, hi => by
    have ih := wsame_go a b hlen hl r (i + 1) (by omega)
    rw [drop_rd a i (by omega), drop_rd b i (by omega)]
    by_cases h : rd a (i : Int) = rd b (i : Int)
    · refine Ev.step (fun k => by rw [cleromancyref02_Same.l0, if_pos (by omega), if_pos (by omega), if_pos (by omega), if_pos h, w64 _ (by omega) (by omega), natCast_succ']) ?_
      rw [h, show decide (rd b (i : Int) :: a.drop (i + 1) = rd b (i : Int) :: b.drop (i + 1)) = decide (a.drop (i + 1) = b.drop (i + 1)) from by simp]
      exact ih
    · refine Ev.step (f := fun _ => _) (fun k => by rw [cleromancyref02_Same.l0, if_pos (by omega), if_pos (by omega), if_pos (by omega), if_neg h]) ?_
      rw [decide_eq_false (by simp [h])]
      exact Ev.now _
theorem wsame_ev (a b : List Int) (hl : a.length ≤ 1000000) : Ev (fun k => cleromancyref02_Same.f k a b) (decide (a = b)) := by
  unfold cleromancyref02_Same.f
  by_cases h : (a.length : Int) = (b.length : Int)
  · refine Ev.congr (fun k => by rw [if_pos h]) ?_
    have := wsame_go a b (by omega) hl a.length 0 (by omega)
    rw [List.drop_zero, List.drop_zero] at this
    exact this
  · refine Ev.congr (fun k => by rw [if_neg h]) ?_
    rw [decide_eq_false (fun e => h (by rw [e]))]
    exact Ev.now _
/-- A number's power. -/
theorem dg_len_pow (v m : Nat) (hv : v < 2 ^ m) (n : Nat) : (dg (v ^ n)).length ≤ m * n + 1 := by
  by_cases hn : n = 0
  · subst hn; exact Nat.le_trans (dg_len_le (v ^ 0) 1 (by simp)) (by omega)
  · have : v ^ n < 2 ^ (m * n) := by rw [Nat.pow_mul]; exact Nat.pow_lt_pow_left hv hn
    exact Nat.le_trans (dg_len_bits _ _ this (m * n) (by omega)) (by omega)
theorem rpower_go (v m : Nat) (hv : v < 2 ^ m) (n : Nat) (hn : m * n ≤ 400000) : ∀ (r i : Nat), i + r = n → n ≤ 1000000 → m ≤ 100000 → Ev (fun k => cleromancyref02_Power.l0 k (dg v) (n : Int) (dg (v ^ i)) (i : Int)) (dg (v ^ n))
  | 0, i, hi, _, _ => by
    refine Ev.step (f := fun _ => _) (fun k => by rw [cleromancyref02_Power.l0, if_neg (by omega)]) ?_
    rw [show i = n from by omega]
    exact Ev.now _
  | r + 1, i, hi, h1, h2 => by
    have ih := rpower_go v m hv n hn r (i + 1) (by omega) h1 h2
    have l1 := dg_len_pow v m hv i
    have l2 : m * i ≤ m * n := Nat.mul_le_mul_left _ (by omega)
    have l3 := dg_len_bits v m hv m (by omega)
    refine Ev.step (fun k => by rw [cleromancyref02_Power.l0, if_pos (by omega)]) ?_
    have hm := mul_ev (dg (v ^ i)) (dg v) (dg_Dg _) (dg_Dg _) (by omega)
    rw [vn_dg, vn_dg, ← Nat.pow_succ] at hm
    refine Ev.bind hm ?_
    refine Ev.congr (fun k => by rw [w64 _ (by omega) (by omega), natCast_succ']) ?_
    exact ih
theorem rpower_ev (v m : Nat) (hv : v < 2 ^ m) (n : Nat) (hn : m * n ≤ 400000) (h1 : n ≤ 1000000) (h2 : m ≤ 100000) : Ev (fun k => cleromancyref02_Power.f k (dg v) (n : Int)) (dg (v ^ n)) := by
  have := rpower_go v m hv n hn n 0 (by omega) h1 h2
  rw [Nat.pow_zero, show dg 1 = [1] from by rw [dg_pos (by decide), show (1 / 16777216 : Nat) = 0 from by decide, dg_zero]; rfl] at this
  exact this
/-- A number's bytes. -/
def nb (n : Nat) : List Int := be ((bl n + 7) / 8) n
theorem bl_dg (n : Nat) : bl n ≤ 24 * (dg n).length := (bl_le _ n).2 (by
  have := vn_lt (dg_Dg n)
  rwa [vn_dg, show (16777216 : Nat) ^ (dg n).length = 2 ^ (24 * (dg n).length) from by rw [Nat.pow_mul]] at this)
theorem rbytes_ev (n : Nat) (hl : (dg n).length ≤ 300000) : Ev (fun k => cleromancyref02_Bytes.f k (dg n)) (nb n) := by
  unfold cleromancyref02_Bytes.f
  have hb := bl_dg n
  refine Ev.bind (bits_ev n (by omega)) ?_
  have e : wrap64 (Int.tdiv (wrap64 ((bl n : Int) + 7)) 8) = (((bl n + 7) / 8 : Nat) : Int) := by rw [w64 ((bl n : Int) + 7) (by omega) (by omega), Int.tdiv_eq_ediv_of_nonneg (by omega), w64 _ (by omega) (by omega)]; omega
  refine Ev.congr (fun k => by rw [e]) ?_
  refine Ev.bind (tobig_ev (dg n) (dg_Dg n) (by omega) _ (by omega)) ?_
  rw [vn_dg]
  exact Ev.now _

end Go.Proofs.Ytjkelnnjfpcapaa.Num
