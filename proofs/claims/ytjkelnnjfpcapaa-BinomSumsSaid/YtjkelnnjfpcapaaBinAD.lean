/- Several texts made one. -/
import Derived.Test.YtjkelnnjfpcapaaNumH
import Derived.RangeFuncNested
import Derived.RangeFuncBound
import Derived.RangeFuncCalls
import Derived.RangeFuncLeaves
import Derived.RangeFuncBox
import Derived.WalkKit
import Derived.Test.YtjkelnnjfpcapaaNatO
import Derived.Shelf.Abstract
import Derived.Shelf.RegionOpen
import Derived.OwnWalkIn
import Derived.TacticsInMore
import Derived.LoopNIn
import Derived.LoopIn
import Derived.WalkMore
import Derived.IntWalk
section
/- What the reference's functions on numbers come to, in plain Lean. -/
namespace Go.Proofs.Ytjkelnnjfpcapaa.Num
open Go.RowKit Go.Proofs.Ytjkelnnjfpcapaa.PNat Go.Proofs.YtjkelnnjfpcapaaW Go.Proofs.YtjkelnnjfpcapaaW.PrintWords Go.Proofs.YtjkelnnjfpcapaaW.PrintLast Go.Proofs.YtjkelnnjfpcapaaW.PrintMore

/-- How many ways there are to choose. -/
def ch : Nat → Nat → Nat
  | _, 0 => 1
  | 0, _ + 1 => 0
  | n + 1, k + 1 => ch n k + ch n (k + 1)
theorem ch_zero (n : Nat) : ch n 0 = 1 := by cases n <;> rfl
theorem ch_over : ∀ (n k : Nat), n < k → ch n k = 0
  | 0, k + 1, _ => rfl
  | n + 1, k + 1, h => by rw [ch, ch_over n k (by omega), ch_over n (k + 1) (by omega)]
theorem ch_self : ∀ n : Nat, ch n n = 1
  | 0 => rfl
  | n + 1 => by rw [ch, ch_self n, ch_over n (n + 1) (by omega)]
theorem ch_le : ∀ (n k : Nat), ch n k ≤ 2 ^ n
  | n, 0 => by rw [ch_zero]; exact Nat.pow_pos (by omega)
  | 0, k + 1 => by simp [ch]
  | n + 1, k + 1 => by
    have h1 := ch_le n k
    have h2 := ch_le n (k + 1)
    rw [ch, Nat.pow_succ]
    omega
/-- The next one out of the last: (k + 1) C(n, k + 1) = (n - k) C(n, k). -/
theorem ch_next : ∀ (n k : Nat), (k + 1) * ch n (k + 1) = (n - k) * ch n k
  | 0, k => by simp [ch]
  | n + 1, 0 => by
    have h := ch_next n 0
    have e : ch (n + 1) (0 + 1) = ch n 0 + ch n (0 + 1) := rfl
    rw [e, ch_zero, ch_zero]
    rw [ch_zero] at h
    omega
  | n + 1, k + 1 => by
    have h1 := ch_next n k
    have h2 := ch_next n (k + 1)
    rw [ch, ch]
    by_cases hk : k + 1 ≤ n
    · have e1 : n - k = (n - (k + 1)) + 1 := by omega
      have e2 : n + 1 - (k + 1) = (n - (k + 1)) + 1 := by omega
      rw [e1] at h1
      rw [e2]
      generalize n - (k + 1) = d at *
      generalize ch n k = a at *
      generalize ch n (k + 1) = b at *
      generalize ch n (k + 1 + 1) = c at *
      grind
    · have h3 := ch_over n (k + 1) (by omega)
      have h4 := ch_over n (k + 1 + 1) (by omega)
      rw [h3, h4]
      rw [show n + 1 - (k + 1) = 0 from by omega, Nat.zero_mul, Nat.add_zero, Nat.mul_zero]
/-- A term: C(w, k) tau^k rest^(w - k). -/
def tm (w k tau rest : Nat) : Nat := ch w k * (tau ^ k * rest ^ (w - k))
theorem tm_zero (w tau rest : Nat) : tm w 0 tau rest = rest ^ w := by simp [tm, ch_zero]
theorem tm_next (w k tau rest : Nat) (hr : 0 < rest) (hk : k ≤ w) : tm w k tau rest * ((w - k) * tau) / ((k + 1) * rest) = tm w (k + 1) tau rest := by
  by_cases hw : k = w
  · subst hw
    rw [Nat.sub_self, Nat.zero_mul, Nat.mul_zero, Nat.zero_div, tm, ch_over _ _ (by omega), Nat.zero_mul]
  · have h := ch_next w k
    have e1 : w - k = (w - (k + 1)) + 1 := by omega
    have e : tm w k tau rest * ((w - k) * tau) = tm w (k + 1) tau rest * ((k + 1) * rest) := by
      rw [tm, tm]
      have e2 : rest ^ (w - k) = rest ^ (w - (k + 1)) * rest := by rw [e1, Nat.pow_succ]
      rw [e2, Nat.pow_succ]
      generalize rest ^ (w - (k + 1)) = A at *
      generalize tau ^ k = B at *
      generalize ch w k = a at *
      generalize ch w (k + 1) = b at *
      generalize w - k = d at *
      have : a * (B * (A * rest)) * (d * tau) = (d * a) * (B * A * rest * tau) := by grind
      rw [this, ← h]
      grind
    rw [e]
    exact Nat.mul_div_cancel _ (Nat.mul_pos (by omega) hr)
theorem tm_le (w k tau rest : Nat) (m : Nat) (ht : tau ≤ 2 ^ m) (hr : rest ≤ 2 ^ m) (hk : k ≤ w) : tm w k tau rest ≤ 2 ^ (w + m * w) := by
  rw [tm, Nat.pow_add]
  refine Nat.mul_le_mul (ch_le w k) ?_
  have h1 : tau ^ k ≤ 2 ^ (m * k) := by rw [Nat.pow_mul]; exact Nat.pow_le_pow_left ht k
  have h2 : rest ^ (w - k) ≤ 2 ^ (m * (w - k)) := by rw [Nat.pow_mul]; exact Nat.pow_le_pow_left hr (w - k)
  have h3 := Nat.mul_le_mul h1 h2
  rw [← Nat.pow_add, ← Nat.mul_add, show k + (w - k) = w from by omega] at h3
  exact h3

def chrow (i : Nat) : List (List Int) := (List.range (i + 1)).map fun j => dg (ch i j)
theorem chrow_len (i : Nat) : (chrow i).length = i + 1 := by simp [chrow]
theorem chrow_rd (i j : Nat) (h : j ≤ i) : rd_L3 (chrow i) (j : Int) = dg (ch i j) := by
  simp [rd_L3, chrow, List.getD_eq_getElem?_getD, show j < i + 1 by omega]
theorem ch_digits (i j : Nat) (h : i ≤ 100) : (dg (ch i j)).length ≤ 1000 := dg_len_bits _ (i + 1) (Nat.lt_of_le_of_lt (ch_le i j) (Nat.pow_lt_pow_right (by omega) (by omega))) _ (by omega)
theorem dg_one : dg 1 = [1] := by rw [dg_pos (by decide)]; simp [dg_zero]
theorem choose_in (w k : Nat) (hw : w ≤ 100) (i : Nat) (hi : i < w) : ∀ (r j : Nat) (R : List Int), j + r = i + 1 → 1 ≤ j →
    Ev (fun f => cleromancyref20_Choose.l0 f (w : Int) (k : Int) (chrow (i + 1)) ((i + 1 : Nat) : Int)) R →
    Ev (fun f => cleromancyref20_Choose.l1 f (w : Int) (k : Int) (chrow i) (i : Int) ((List.range j).map fun j => dg (ch (i + 1) j)) (j : Int)) R
  | 0, j, R, hj, h1, h => by
    obtain rfl : j = i + 1 := by omega
    have e : ((List.range (i + 1)).map fun j => dg (ch (i + 1) j)) ++ [([1] : List Int)] = chrow (i + 1) := by
      rw [chrow, List.range_succ (n := i + 1), List.map_append, List.map_singleton, ch_self, dg_one]
    refine Ev.step (fun f => by rw [cleromancyref20_Choose.l1, if_neg (by rw [chrow_len]; omega), if_pos (by simp; omega), e, w64 _ (by omega) (by omega), natCast_succ']) ?_
    exact h
  | r + 1, j, R, hj, h1, h => by
    have ih := choose_in w k hw i hi r (j + 1) R (by omega) (by omega) h
    obtain ⟨j, rfl⟩ : ∃ m, j = m + 1 := ⟨j - 1, by omega⟩
    have ha := add_ev (dg (ch i j)) (dg (ch i (j + 1))) (dg_Dg _) (dg_Dg _) (Nat.le_trans (ch_digits i j (by omega)) (by omega)) (Nat.le_trans (ch_digits i (j + 1) (by omega)) (by omega))
    rw [vn_dg, vn_dg, show ch i j + ch i (j + 1) = ch (i + 1) (j + 1) from rfl] at ha
    refine Ev.step (fun f => by rw [cleromancyref20_Choose.l1, if_pos (by rw [chrow_len]; omega), w64 _ (by omega) (by omega), show (((j + 1 : Nat) : Int) - 1) = (j : Int) from by omega, if_pos (by omega), if_pos (by rw [chrow_len]; omega), if_pos (by omega), chrow_rd i j (by omega), chrow_rd i (j + 1) (by omega)]) ?_
    refine Ev.bind ha ?_
    have e : ((List.range (j + 1)).map fun j => dg (ch (i + 1) j)) ++ [dg (ch (i + 1) (j + 1))] = (List.range (j + 1 + 1)).map fun j => dg (ch (i + 1) j) := by
      rw [List.range_succ (n := j + 1), List.map_append, List.map_singleton]
    refine Ev.congr (fun f => by rw [if_pos (by simp; omega), w64 _ (by omega) (by omega), natCast_succ', e]) ?_
    exact ih
theorem choose_go (w k : Nat) (hw : w ≤ 100) (hk : k ≤ w) : ∀ (r i : Nat), i + r = w → Ev (fun f => cleromancyref20_Choose.l0 f (w : Int) (k : Int) (chrow i) (i : Int)) (dg (ch w k))
  | 0, i, hi => by
    obtain rfl : i = w := by omega
    refine Ev.step (f := fun _ => _) (fun f => by rw [cleromancyref20_Choose.l0, if_neg (by omega), if_pos (by omega), if_pos (by rw [chrow_len]; omega), chrow_rd _ _ hk]) ?_
    exact Ev.now _
  | r + 1, i, hi => by
    have ih := choose_go w k hw hk r (i + 1) (by omega)
    have h := choose_in w k hw i (by omega) i 1 _ (by omega) (by omega) ih
    have e : ((List.range 1).map fun j => dg (ch (i + 1) j)) = [([1] : List Int)] := by
      rw [show List.range 1 = [0] from rfl, List.map_singleton, ch_zero, dg_one]
    rw [e] at h
    refine Ev.step (fun f => by rw [cleromancyref20_Choose.l0, if_pos (by omega)]) ?_
    exact h
theorem choose_ev (w k : Nat) (hw : w ≤ 100) (hk : k ≤ w) : Ev (fun f => cleromancyref20_Choose.f f (w : Int) (k : Int)) (dg (ch w k)) := by
  have h := choose_go w k hw hk w 0 (by omega)
  have e : chrow 0 = [([1] : List Int)] := by rw [chrow, show List.range (0 + 1) = [0] from rfl, List.map_singleton, ch_zero, dg_one]
  rw [e] at h
  exact h
theorem term_ev (w k total tau : Nat) (hw : w ≤ 100) (hk : k ≤ w) (ht : tau ≤ total) (hT : total ≤ 1048576) : Ev (fun f => cleromancyref20_Term.f f (w : Int) (k : Int) (total : Int) (tau : Int)) (dg (tm w k tau (total - tau))) := by
  have hc := choose_ev w k hw hk
  have hi1 := int_ev tau (by omega)
  have hp1 := rpower_ev tau 21 (by omega) k (by omega) (by omega) (by omega)
  have hi2 := int_ev (total - tau) (by omega)
  have hp2 := rpower_ev (total - tau) 21 (by omega) (w - k) (by omega) (by omega) (by omega)
  have b1 := dg_len_pow tau 21 (by omega) k
  have b2 := dg_len_pow (total - tau) 21 (by omega) (w - k)
  have b3 := ch_digits w k hw
  have hm1 := mul_ev (dg (tau ^ k)) (dg ((total - tau) ^ (w - k))) (dg_Dg _) (dg_Dg _) (by omega)
  rw [vn_dg, vn_dg] at hm1
  have b4 : (dg (tau ^ k * (total - tau) ^ (w - k))).length ≤ 100000 := by
    have h1 : tau ^ k ≤ 2 ^ (20 * k) := by rw [Nat.pow_mul]; exact Nat.pow_le_pow_left (by omega) k
    have h2 : (total - tau) ^ (w - k) ≤ 2 ^ (20 * (w - k)) := by rw [Nat.pow_mul]; exact Nat.pow_le_pow_left (by omega) (w - k)
    have h3 := Nat.mul_le_mul h1 h2
    rw [← Nat.pow_add] at h3
    exact dg_len_bits _ (20 * k + 20 * (w - k) + 1) (Nat.lt_of_le_of_lt h3 (Nat.pow_lt_pow_right (by omega) (by omega))) _ (by omega)
  have hm2 := mul_ev (dg (ch w k)) (dg (tau ^ k * (total - tau) ^ (w - k))) (dg_Dg _) (dg_Dg _) (by omega)
  rw [vn_dg, vn_dg] at hm2
  unfold cleromancyref20_Term.f
  refine Ev.bind hc (Ev.bind hi1 (Ev.bind hp1 ?_))
  refine Ev.congr (fun f => by rw [w64 _ (by omega) (by omega), show (total : Int) - (tau : Int) = ((total - tau : Nat) : Int) from by omega, w64 _ (by omega) (by omega), show (w : Int) - (k : Int) = ((w - k : Nat) : Int) from by omega]) ?_
  exact Ev.bind hi2 (Ev.bind hp2 (Ev.bind hm1 (Ev.bind hm2 (Ev.now _))))

end Go.Proofs.Ytjkelnnjfpcapaa.Num
end
section
/- What the reference's functions on numbers come to, in plain Lean. -/
namespace Go.Proofs.Ytjkelnnjfpcapaa.Num
open Go.RowKit Go.Proofs.Ytjkelnnjfpcapaa.PNat Go.Proofs.YtjkelnnjfpcapaaW Go.Proofs.YtjkelnnjfpcapaaW.PrintWords Go.Proofs.YtjkelnnjfpcapaaW.PrintLast Go.Proofs.YtjkelnnjfpcapaaW.PrintMore

/-- The first terms together. -/
def sm (w tau rest : Nat) : Nat → Nat
  | 0 => 0
  | j + 1 => sm w tau rest j + tm w j tau rest
theorem sm_mono' (w tau rest i : Nat) : ∀ d : Nat, sm w tau rest i ≤ sm w tau rest (i + d)
  | 0 => Nat.le_refl _
  | d + 1 => Nat.le_trans (sm_mono' w tau rest i d) (by rw [← Nat.add_assoc, sm]; omega)
theorem sm_mono (w tau rest : Nat) {i j : Nat} (h : i ≤ j) : sm w tau rest i ≤ sm w tau rest j := by
  have := sm_mono' w tau rest i (j - i)
  rwa [show i + (j - i) = j from by omega] at this
theorem tm_over (w k tau rest : Nat) (h : w < k) : tm w k tau rest = 0 := by rw [tm, ch_over _ _ h, Nat.zero_mul]
theorem tm_step (n k t r : Nat) (hk : k ≤ n) : tm (n + 1) (k + 1) t r = t * tm n k t r + r * tm n (k + 1) t r := by
  rw [tm, tm, tm, ch, show n + 1 - (k + 1) = n - k from by omega]
  by_cases h : k = n
  · subst h
    rw [ch_over k (k + 1) (by omega), Nat.sub_self]
    simp only [Nat.pow_succ]
    grind
  · obtain ⟨d, hd⟩ : ∃ d, n - k = d + 1 := ⟨n - k - 1, by omega⟩
    rw [show n - (k + 1) = d from by omega, hd]
    simp only [Nat.pow_succ]
    generalize ch n k = a
    generalize ch n (k + 1) = b
    generalize t ^ k = x
    generalize r ^ d = y
    grind
theorem sm_step (n t r : Nat) : ∀ k, k ≤ n + 1 → sm (n + 1) t r (k + 1) = t * sm n t r k + r * sm n t r (k + 1)
  | 0, _ => by simp only [sm, tm_zero, Nat.pow_succ]; grind
  | k + 1, h => by
    rw [sm, sm_step n t r k (by omega), tm_step n k t r (by omega)]
    simp only [sm]
    grind
/-- All terms together. -/
theorem sm_all (t r : Nat) : ∀ n, sm n t r (n + 1) = (t + r) ^ n
  | 0 => by simp [sm, tm, ch]
  | n + 1 => by
    rw [sm_step n t r (n + 1) (Nat.le_refl _), sm_all t r n]
    rw [show sm n t r (n + 1 + 1) = sm n t r (n + 1) + tm n (n + 1) t r from rfl, tm_over _ _ _ _ (Nat.lt_succ_self n), sm_all t r n, Nat.pow_succ]
    grind
theorem sm_le (w tau rest j : Nat) (h : j ≤ w + 1) : sm w tau rest j ≤ (tau + rest) ^ w := by
  rw [← sm_all]; exact sm_mono _ _ _ h
theorem tm_le_all (w k tau rest : Nat) (h : k ≤ w) : tm w k tau rest ≤ (tau + rest) ^ w := by
  have := sm_le w tau rest (k + 1) (by omega)
  rw [sm] at this
  omega
theorem all_lt (tau rest w : Nat) (h : tau + rest ≤ 1048576) : (tau + rest) ^ w < 2 ^ (20 * w + 1) := by
  have h1 : (tau + rest) ^ w ≤ 2 ^ (20 * w) := by rw [Nat.pow_mul]; exact Nat.pow_le_pow_left h w
  exact Nat.lt_of_le_of_lt h1 (Nat.pow_lt_pow_right (by omega) (by omega))
/-- Where the terms so far are first more than the fraction. -/
def Drawn (u L w tau rest j : Nat) : Prop := j ≤ w ∧ (∀ i, i < j → sm w tau rest (i + 1) * 2 ^ L ≤ u) ∧ u < sm w tau rest (j + 1) * 2 ^ L
theorem Drawn.eq {u L w tau rest i j : Nat} (h : Drawn u L w tau rest i) (k : Drawn u L w tau rest j) : i = j := by
  obtain ⟨_, h1, h2⟩ := h
  obtain ⟨_, k1, k2⟩ := k
  rcases Nat.lt_trichotomy i j with e | e | e
  · have := k1 i e; omega
  · exact e
  · have := h1 j e; omega
theorem Drawn.iff {u L w tau rest j : Nat} (h : Drawn u L w tau rest j) (k : Nat) : u < sm w tau rest (k + 1) * 2 ^ L ↔ j ≤ k := by
  obtain ⟨_, h1, h2⟩ := h
  constructor
  · intro hu
    refine Nat.le_of_not_lt fun e => ?_
    have := h1 k e
    omega
  · intro hk
    exact Nat.lt_of_lt_of_le h2 (Nat.mul_le_mul_right _ (sm_mono _ _ _ (by omega)))
theorem Drawn.mono {u v L w tau rest i j : Nat} (h : Drawn u L w tau rest i) (k : Drawn v L w tau rest j) (huv : u ≤ v) : i ≤ j :=
  (h.iff j).1 (Nat.lt_of_le_of_lt huv k.2.2)
theorem sm_dg_len (w tau rest j : Nat) (hw : w ≤ 100) (hj : j ≤ w + 1) (h : tau + rest ≤ 1048576) : (dg (sm w tau rest j)).length ≤ 1000 :=
  dg_len_bits _ (20 * w + 1) (Nat.lt_of_le_of_lt (sm_le w tau rest j hj) (all_lt tau rest w h)) _ (by omega)
theorem cmp_neg {m n : Nat} : cmp m n < 0 ↔ m < n := by
  unfold cmp
  split
  · simp_all
  · split <;> simp_all
theorem rdraw_go (h : List Int) (hl : h.length ≤ 64) (w total tau u j : Nat) (hw : w ≤ 100) (ht : tau ≤ total) (hT : total ≤ 1048576) (hd : Drawn u (8 * h.length) w tau (total - tau) j) (hu : (dg u).length ≤ 1000000) :
    ∀ (r i : Nat), i + r = j → Ev (fun f => cleromancyref20_Draw.l0 f h (w : Int) (total : Int) (tau : Int) (dg u) (dg (sm w tau (total - tau) i)) (i : Int)) (j : Int)
  | r, i, hi => by
    have hj := hd.1
    have ht1 := term_ev w i total tau hw (by omega) ht hT
    have b1 := sm_dg_len w tau (total - tau) i hw (by omega) (by omega)
    have b2 : (dg (tm w i tau (total - tau))).length ≤ 1000 := dg_len_bits _ (20 * w + 1) (Nat.lt_of_le_of_lt (tm_le_all w i tau (total - tau) (by omega)) (all_lt tau (total - tau) w (by omega))) _ (by omega)
    have ha := add_ev (dg (sm w tau (total - tau) i)) (dg (tm w i tau (total - tau))) (dg_Dg _) (dg_Dg _) (by omega) (by omega)
    rw [vn_dg, vn_dg, show sm w tau (total - tau) i + tm w i tau (total - tau) = sm w tau (total - tau) (i + 1) from rfl] at ha
    have b3 := sm_dg_len w tau (total - tau) (i + 1) hw (by omega) (by omega)
    have hs := shift_ev (dg (sm w tau (total - tau) (i + 1))) (dg_Dg _) (8 * h.length) (by omega) (by omega)
    rw [vn_dg] at hs
    have hc := cmp_ev u (sm w tau (total - tau) (i + 1) * 2 ^ (8 * h.length)) hu
    refine Ev.step (fun f => by rw [cleromancyref20_Draw.l0, if_pos (by omega)]) ?_
    refine Ev.bind ht1 (Ev.bind ha ?_)
    refine Ev.congr (fun f => by rw [w64 _ (by omega) (by omega), show (8 : Int) * (h.length : Int) = ((8 * h.length : Nat) : Int) from by push_cast; rfl]) ?_
    refine Ev.bind hs (Ev.bind hc ?_)
    by_cases e : i = j
    · subst e
      refine Ev.congr (fun f => by rw [if_pos (cmp_neg.2 ((hd.iff i).2 (Nat.le_refl _)))]) ?_
      exact Ev.now _
    · obtain ⟨r, rfl⟩ : ∃ m, r = m + 1 := ⟨r - 1, by omega⟩
      refine Ev.congr (fun f => by rw [if_neg (fun hh => by have := (hd.iff i).1 (cmp_neg.1 hh); omega), w64 _ (by omega) (by omega), natCast_succ']) ?_
      exact rdraw_go h hl w total tau u j hw ht hT hd hu r (i + 1) (by omega)
termination_by r => r
theorem rdraw_ev (h : List Int) (hb : By h) (hl : h.length ≤ 64) (w total tau j : Nat) (hw : w ≤ 100) (ht : tau ≤ total) (hT : total ≤ 1048576) (hd : Drawn (bv h * total ^ w) (8 * h.length) w tau (total - tau) j) :
    Ev (fun f => cleromancyref20_Draw.f f h (w : Int) (total : Int) (tau : Int)) (j : Int) := by
  have h1 := big_ev h hb (by omega)
  have h2 := int_ev total (by omega)
  have h3 := rpower_ev total 21 (by omega) w (by omega) (by omega) (by omega)
  have l1 : bv h < 2 ^ (8 * h.length) := by have := bv_lt h hb h.length (Nat.le_refl _); rwa [List.take_length] at this
  have l2 : total ^ w < 2 ^ (20 * w + 1) := by have := all_lt total 0 w (by omega); simpa using this
  have b1 : (dg (bv h)).length ≤ 1000 := dg_len_bits _ _ l1 _ (by omega)
  have b2 : (dg (total ^ w)).length ≤ 1000 := dg_len_bits _ _ l2 _ (by omega)
  have h4 := mul_ev (dg (bv h)) (dg (total ^ w)) (dg_Dg _) (dg_Dg _) (by omega)
  rw [vn_dg, vn_dg] at h4
  have b3 : (dg (bv h * total ^ w)).length ≤ 1000000 := by
    refine dg_len_bits _ (8 * h.length + (20 * w + 1)) ?_ _ (by omega)
    rw [Nat.pow_add]
    exact Nat.mul_lt_mul_of_lt_of_lt l1 l2
  have h5 := rdraw_go h hl w total tau _ j hw ht hT hd b3 j 0 (by omega)
  rw [sm, dg_zero] at h5
  unfold cleromancyref20_Draw.f
  exact Ev.bind h1 (Ev.bind h2 (Ev.bind h3 (Ev.bind h4 h5)))
theorem rmay_is (w total tau : Int) : cleromancyref20_May.f w total tau = some (decide (1 ≤ total ∧ total ≤ 1048576 ∧ 1 ≤ tau ∧ tau ≤ total ∧ 0 ≤ w ∧ w ≤ 4096 ∧ w ≤ total)) := by
  unfold cleromancyref20_May.f
  by_cases h1 : total ≥ 1
  · rw [if_pos h1]
    by_cases h2 : total ≤ 1048576
    · rw [if_pos h2]
      by_cases h3 : tau ≥ 1
      · rw [if_pos h3]
        by_cases h4 : tau ≤ total
        · rw [if_pos h4]
          by_cases h5 : w ≥ 0
          · rw [if_pos h5]
            by_cases h6 : w ≤ 4096
            · rw [if_pos h6]
              congr 1
              rw [decide_eq_decide]
              omega
            · rw [if_neg h6, decide_eq_false (by omega)]
          · rw [if_neg h5, decide_eq_false (by omega)]
        · rw [if_neg h4, decide_eq_false (by omega)]
      · rw [if_neg h3, decide_eq_false (by omega)]
    · rw [if_neg h2, decide_eq_false (by omega)]
  · rw [if_neg h1, decide_eq_false (by omega)]

end Go.Proofs.Ytjkelnnjfpcapaa.Num
end
section
/- A range over a function whose iterator says something of memory at each round: one law. -/
namespace Go.Proofs.Ytjkelnnjfpcapaa.Rng
open Go.RowKit

/-- The contract of an iterator that says `Z` of what it hands to a round. -/
def SeqZ {α : Type} (F : Fence) (n : Nat) (P : Program) (g : Nat) (lb : Array Value) (encs : α → Array Value) (Kp : World → World → Prop) (Z : List α → α → World → Prop) (S Sp : List α → Prop) (w : World) : Prop :=
  ∀ (l : Nat) (J Jx : List α → World → Prop) (W : World), Below w.heap.size w W → AbidesFrom W.heap.size J → AbidesFrom W.heap.size Jx →
    (∀ pre x W1, J pre W1 → Z pre x W1 → YieldAt F (n - 1) P l (encs x) W1 fun e W' =>
      (e = .returned (.bool true) ∧ J (pre ++ [x]) W' ∧ Kp W1 W') ∨ (e = .returned (.bool false) ∧ Jx (pre ++ [x]) W')) →
    J [] W →
    CallsIn F n P g (#[.func (.yield l) #[] #[]] ++ lb) W fun e W' => (∃ v, e = .returned v) ∧ ((∃ xs, S xs ∧ J xs W') ∨ (∃ pre, Sp pre ∧ Jx pre W'))

variable {F : Fence} {n : Nat} {P : Program}

theorem range_law {α : Type} {g : Operand} {ps : Array Tmp} {assign body : Code} {Q : Exit → Act → World → Prop} {a : Act} {w : World}
    (hro : F.round = none) (h1 : 1 ≤ n) {gf : Nat} {lb : Array Value} (hg : a.eval g = .func (.func gf) #[] lb) (hFg : F.fn gf) (eg : ∀ args w, (callFunc gf args).run P w = .ok (.enter gf args) w)
    {encs : α → Array Value} {Kp : World → World → Prop} {Z : List α → α → World → Prop} {S Sp : List α → Prop} {w0 : World} (hseq : SeqZ F (n - 1) P gf lb encs Kp Z S Sp w0)
    (hKt : ∀ {A B C : World}, Kp A B → Kp B C → Kp A C) (hKb : ∀ (W : World) (l : Nat) (o o' : Obj), w.heap.size ≤ l → W.heap[l]? = some o → o.isCells = false → o.isWalk = false → Kp W (W.putObj l o'))
    (hZb : ∀ (pre : List α) (x : α) (W : World) (l : Nat) (o o' : Obj), W.heap[l]? = some o → o.isCells = false → Z pre x W → Z pre x (W.putObj l o'))
    (hb0 : Below w0.heap.size w0 w) (hps : ∀ x, (encs x).size = ps.size)
    (I : List α → World → Prop) (Ix : Code → List α → World → Prop) (hI : OwnFrom w.heap.size I) (hIx : ∀ c, OwnFrom w.heap.size (Ix c)) (h0 : I [] w) (a₁ : α → Act)
    (hassign : ∀ (l : Nat) (x : α) (W : World) (K : Act → World → Prop), K (a₁ x) W →
      assign.wpIn (F.inRound l) (n - 1 - 1) P (Exit.then K (fun _ _ _ => False)) { tmps := (ps.zip (encs x)).foldl (fun t (p, v) => t.setIfInBounds p v) a.tmps, defers := [] } W)
    (hbody : ∀ (l : Nat) (pre : List α) (x : α) (W : World), I pre W → Z pre x W → body.wpIn (F.inRound l) (n - 1 - 1) P (ownPostG w.heap.size Kp I Ix (pre ++ [x]) W) (a₁ x) W)
    (hdone : ∀ (D : Nat) (xs : List α) (W : World), w.heap.size ≤ D → S xs → I xs W → W.heap[D]? = some (.deferred (some [])) → Q .normal { a with defers := { target := .collected D, args := #[] } :: a.defers } W)
    (hstop : ∀ (D : Nat) (c : Code) (pre : List α) (W : World), w.heap.size ≤ D → Sp pre → Ix c pre W → W.heap[D]? = some (.deferred (some [])) → c.wpIn F n P Q { a with defers := { target := .collected D, args := #[] } :: a.defers } W) :
    (Code.rangeFunc g ps assign body).wpIn F n P Q a w := by
  refine wpIn_rangeFunc fun fn hfn => ?_
  rw [hro]
  -- the loop's record, as it stands through the rounds
  let rec_ : LoopState → Option Code → Loop := fun st pe => { state := st, pending := pe, fn, tmps := a.tmps, params := ps, assign, body, defers := w.heap.size }
  obtain ⟨rc, hrc⟩ : ∃ rc : LoopState → Option Code → Loop, rc = rec_ := ⟨_, rfl⟩
  obtain ⟨V, hV⟩ : ∃ V, (w.alloc (.deferred (some []))).alloc (.loop (rc .ready none)) = V := ⟨_, rfl⟩
  have hVl : V.heap[w.heap.size + 1]? = some (.loop (rc .ready none)) := by
    have := World.alloc_heap_new (w.alloc (.deferred (some []))) (.loop (rc .ready none))
    rw [World.size_alloc] at this
    rw [← hV]; exact this
  have hVd : V.heap[w.heap.size]? = some (.deferred (some [])) := by
    rw [← hV]; exact (Below.heap_alloc _ _ _ (by simp)).trans (World.alloc_heap_new w _)
  have hVI : I [] V := by rw [← hV]; exact hI.alloc _ (hI.alloc _ h0)
  have hVb : Below w0.heap.size w0 V := by
    rw [← hV]; exact hb0.trans ((((Below.refl _ w).alloc (Nat.le_refl _) _).alloc (by simp) _).mono hb0.size)
  have hVs : w.heap.size ≤ V.heap.size := by rw [← hV]; simp; omega
  refine ⟨w.heap.size + 1, [{ target := .collected w.heap.size, args := #[] }], V, { target := .fn (.func gf) lb, args := #[.func (.yield (w.heap.size + 1)) #[] #[]] }, V, gf,
    #[.func (.yield (w.heap.size + 1)) #[] #[]] ++ lb, V, ?_, ?_, ?_, ?_, fun _ => h1, ?_⟩
  · rw [← hV, hrc]; exact run_enterLoop_outer _ _ _ _ _
  · simp only [resolve, hg]
    simp [go_sem]
  · intro f' hf'; simp [Target.leads] at hf'; subst hf'; exact hFg
  · simp [invoke, go_sem, eg]
  have hwk : ∀ {A : World} {row : Option Nat}, (∀ r, row = some r → V.heap.size ≤ r ∧ ∃ o : Obj, A.heap[r]? = some o ∧ o.isWalk = true) → (∀ r, row = some r → w.heap.size ≤ r ∧ ∃ o : Obj, A.heap[r]? = some o ∧ o.isCells = false) :=
    fun hr r e => by obtain ⟨hB, o, ho, hw⟩ := hr r e; exact ⟨by omega, o, ho, Obj.not_cells_of_walk hw⟩
  refine (hseq (w.heap.size + 1)
    (fun pre W => I pre W ∧ W.heap[w.heap.size + 1]? = some (.loop (rc .ready none)) ∧ W.heap[w.heap.size]? = some (.deferred (some [])))
    (fun pre W => ∃ c, Ix c pre W ∧ W.heap[w.heap.size + 1]? = some (.loop (rc .done (some c))) ∧ W.heap[w.heap.size]? = some (.deferred (some [])))
    V hVb
    (fun s A B row hs hg' hr => ⟨hI s A B row hs.1 hg' (hwk hr), (grownBy_keeps hg' (fun r e => (hr r e).2) hs.2.1 rfl).trans hs.2.1, (grownBy_keeps hg' (fun r e => (hr r e).2) hs.2.2 rfl).trans hs.2.2⟩)
    (fun s A B row hs hg' hr => by
      obtain ⟨c, hc, hl, hk⟩ := hs
      exact ⟨c, hIx c s A B row hc hg' (hwk hr), (grownBy_keeps hg' (fun r e => (hr r e).2) hl rfl).trans hl, (grownBy_keeps hg' (fun r e => (hr r e).2) hk rfl).trans hk⟩)
    ?_ ⟨hVI, hVl, hVd⟩).mono ?_
  · -- one round
    rintro pre x W ⟨hi, hl, hk⟩ hz
    have hlt : w.heap.size + 1 < W.heap.size := (Array.getElem?_eq_some_iff.1 hl).1
    have hy := run_yield (P := P) (args := encs x) hl (by rw [hrc]; exact hps x)
    rw [hrc] at hy
    refine ⟨fn, _, assign, body, hy, roundIn_of_wpIn hfn (hassign _ x W _ ⟨_, run_beginRound hl (by rw [hrc]), ?_⟩)⟩
    obtain ⟨B, hB⟩ : ∃ B, W.putObj (w.heap.size + 1) (.loop { rc .ready none with state := .busy }) = B := ⟨_, rfl⟩
    have hl2 : B.heap[w.heap.size + 1]? = some (.loop { rc .ready none with state := .busy }) := by rw [← hB]; exact World.putObj_heap_same hlt
    have hk2 : B.heap[w.heap.size]? = some (.deferred (some [])) := by rw [← hB]; exact (World.putObj_heap_other (by omega)).trans hk
    have hw2 : Kp W B := by rw [← hB]; exact hKb _ _ _ _ (by omega) hl rfl rfl
    have hi2 : I pre B := by rw [← hB]; exact hI.putObj _ hi (by omega) hl rfl
    have hz2 : Z pre x B := by rw [← hB]; exact hZb _ _ _ _ _ _ hl rfl hz
    rw [show W.putObj (w.heap.size + 1) (.loop { rc .ready none with state := .busy }) = B from hB]
    refine wpIn_mono (hbody _ pre x B hi2 hz2) ?_
    have fin : ∀ (jump : Option Code) (Y : World), KeepsFrom w.heap.size B Y →
        (Instr.endRound (w.heap.size + 1) jump).run P Y = .ok (.bool jump.isNone) (Y.putObj (w.heap.size + 1) (.loop (rc (if jump.isNone then .ready else .done) jump))) ∧
        Y.heap[w.heap.size + 1]? = some (.loop { rc .ready none with state := .busy }) ∧
        (Y.putObj (w.heap.size + 1) (.loop (rc (if jump.isNone then .ready else .done) jump))).heap[w.heap.size + 1]? = some (.loop (rc (if jump.isNone then .ready else .done) jump)) ∧
        (Y.putObj (w.heap.size + 1) (.loop (rc (if jump.isNone then .ready else .done) jump))).heap[w.heap.size]? = some (.deferred (some [])) := fun jump Y hk3 => by
      have hl3 := hk3.same _ _ (by omega) hl2 rfl
      have he := run_endRound (P := P) jump hl3
      rw [hrc] at he ⊢
      exact ⟨he, by rw [hrc] at hl3; exact hl3, World.putObj_heap_same (Array.getElem?_eq_some_iff.1 hl3).1, (World.putObj_heap_other (by omega)).trans (hk3.same _ _ (Nat.le_refl _) hk2 rfl)⟩
    rintro e a3 Y hp
    cases e with
    | normal =>
      obtain ⟨hk3, hkp3, hi3⟩ := hp
      obtain ⟨hr, hl3, hl4, hk4⟩ := fin none Y hk3
      exact ⟨_, _, hr, .inl ⟨rfl, ⟨hI.putObj _ hi3 (by omega) hl3 rfl, hl4, hk4⟩, hKt (hKt hw2 hkp3) (hKb _ _ _ _ (by omega) hl3 rfl rfl)⟩⟩
    | ret =>
      obtain ⟨hk3, hi3⟩ := hp
      obtain ⟨hr, hl3, hl4, hk4⟩ := fin (some .ret) Y hk3
      exact ⟨_, _, hr, .inr ⟨rfl, .ret, (hIx _).putObj _ hi3 (by omega) hl3 rfl, hl4, hk4⟩⟩
    | exit id =>
      obtain ⟨hk3, hi3⟩ := hp
      obtain ⟨hr, hl3, hl4, hk4⟩ := fin (some (.exit id)) Y hk3
      exact ⟨_, _, hr, .inr ⟨rfl, .exit id, (hIx _).putObj _ hi3 (by omega) hl3 rfl, hl4, hk4⟩⟩
    | goto t =>
      obtain ⟨hk3, hi3⟩ := hp
      obtain ⟨hr, hl3, hl4, hk4⟩ := fin (some (.goto t)) Y hk3
      exact ⟨_, _, hr, .inr ⟨rfl, .goto t, (hIx _).putObj _ hi3 (by omega) hl3 rfl, hl4, hk4⟩⟩
    | panic ch => exact hp.elim
    | outgrown => exact hp.elim
  · -- behind the iterator
    rintro e Y ⟨⟨v, rfl⟩, (⟨xs, hS, hi, hl, hk⟩ | ⟨pre, hSp, c, hi, hl, hk⟩)⟩
    · exact ⟨none, _, by have he := run_endLoop (P := P) hl (by rw [hrc]; simp [rec_]); rw [hrc] at he; exact he, hdone _ xs _ (Nat.le_refl _) hS (hI.putObj _ hi (by omega) hl rfl) ((World.putObj_heap_other (by omega)).trans hk)⟩
    · exact ⟨some c, _, by have he := run_endLoop (P := P) hl (by rw [hrc]; simp [rec_]); rw [hrc] at he; exact he, hstop _ c pre _ (Nat.le_refl _) hSp ((hIx c).putObj _ hi (by omega) hl rfl) ((World.putObj_heap_other (by omega)).trans hk)⟩
end Go.Proofs.Ytjkelnnjfpcapaa.Rng
end
section
/- binom: the iterator of the terms. -/
namespace Go.Proofs.Ytjkelnnjfpcapaa.Num
set_option linter.unusedVariables false
open Go.RowKit Go.Shelf Go.Proofs.Ytjkelnnjfpcapaa.Rng Go.Proofs.Ytjkelnnjfpcapaa.PNat Go.Proofs.YtjkelnnjfpcapaaW Go.Proofs.YtjkelnnjfpcapaaW.PrintWords Go.Proofs.YtjkelnnjfpcapaaW.PrintLast Go.Proofs.YtjkelnnjfpcapaaW.PrintMore
attribute [local go_sem] Oper.semAt_some

/-- What a round is handed: its number, and where its term lies. -/
abbrev El := Nat × Option Addr × Nat
def bencs (w tau rest : Nat) (x : El) : Array Value := #[.int .i64 (x.1 : Int), .slice x.2.1 (nw (tm w x.1 tau rest)).length x.2.2]
def BZ (w tau rest : Nat) (pre : List El) (x : El) (W : World) : Prop :=
  x.1 = pre.length ∧ x.1 ≤ w ∧ (nw (tm w x.1 tau rest)).length ≤ x.2.2 ∧ Kd.C (Kd.int .u64) W x.2.1 (nw (tm w x.1 tau rest)).length (nw (tm w x.1 tau rest))
/-- What a round keeps: rows of words, and the coins' block. -/
def BK (B : Nat) (W W' : World) : Prop :=
  (∀ A l, Kd.C (Kd.int .u64) W A (l : List Int).length l → Kd.C (Kd.int .u64) W' A l.length l) ∧ (∀ o v, W.cell? ⟨B, o, none⟩ = some v → W'.cell? ⟨B, o, none⟩ = some v)
def Coins (B : Nat) (w T U : Int) (W : World) : Prop := W.cell? ⟨B, 0, none⟩ = some (.int .i64 w) ∧ W.cell? ⟨B, 1, none⟩ = some (.int .i64 T) ∧ W.cell? ⟨B, 2, none⟩ = some (.int .i64 U)
theorem Coins.below {B : Nat} {w T U : Int} {W W' : World} (h : Coins B w T U W) (hb : Below W.heap.size W W') : Coins B w T U W' :=
  ⟨pw_cell_below hb h.1, pw_cell_below hb h.2.1, pw_cell_below hb h.2.2⟩
theorem Coins.kept {B : Nat} {w T U : Int} {W W' : World} (h : Coins B w T U W) (hb : BK B W W') : Coins B w T U W' :=
  ⟨hb.2 _ _ h.1, hb.2 _ _ h.2.1, hb.2 _ _ h.2.2⟩
theorem cells_below0 {w0 W : World} {a : Addr} {v : Value} (hb : Below w0.heap.size w0 W) (h : w0.cell? a = some v) : W.cell? a = some v := pw_cell_below hb h
theorem nw_len_pow {n m : Nat} (h : n < 2 ^ m) (k : Nat) (hk : m ≤ 64 * k) : (nw n).length ≤ k := nw_len_le h hk
theorem tm_bits (w k tau rest : Nat) (hw : w ≤ 4096) (h : tau + rest ≤ 1048576) (m : Nat) (hm : m = 81921) : tm w k tau rest < 2 ^ m := by
  have hp : (0 : Nat) < 2 ^ m := Nat.pow_pos (by omega)
  by_cases hk : k ≤ w
  · exact Nat.lt_of_le_of_lt (tm_le_all w k tau rest hk) (Nat.lt_of_lt_of_le (all_lt tau rest w h) (Nat.pow_le_pow_right (by omega) (by omega)))
  · rw [tm_over _ _ _ _ (by omega)]; exact hp
theorem tm_len (w k tau rest : Nat) (hw : w ≤ 4096) (h : tau + rest ≤ 1048576) : (nw (tm w k tau rest)).length ≤ 1300 := nw_len_le (tm_bits w k tau rest hw h _ rfl) (by omega)
theorem wrap_mul (a b : Nat) (h : a ≤ 4097) (h2 : b ≤ 1048576) : IntKind.u64.wrap ((a : Int) * (b : Int)) = ((a * b : Nat) : Int) := by
  have : a * b ≤ 4097 * 1048576 := Nat.mul_le_mul h h2
  rw [← Int.natCast_mul]
  simp only [IntKind.wrap, IntKind.bits, IntKind.signed]
  generalize a * b = c at *
  simp
  omega
set_option maxHeartbeats 6400000 in
set_option maxRecDepth 100000 in
theorem terms_more (n w : Nat) (T U : Int) (hw : w ≤ 4096) (hU : 1 ≤ U) (hT : U < T) (hT2 : T ≤ 1048576) (B : Nat) (w0 : World) (hc : Coins B w T U w0) (hn : 2 ≤ n) :
    SeqZ Fence.wide n Try.prog 64 #[.pointer (some ⟨B, 0, none⟩)] (bencs w U.toNat (T - U).toNat) (BK B) (BZ w U.toNat (T - U).toNat) (fun xs => xs.length = w + 1) (fun _ => True) w0 := by
  intro l J Jx W hW hJ hJx hY h0
  have hcW : Coins B w T U W := ⟨pw_cell_below hW hc.1, pw_cell_below hW hc.2.1, pw_cell_below hW hc.2.2⟩
  clear hc
  obtain ⟨hc0, hc1, hc2⟩ := hcW
  have HPW : Aside0 (Calls Try.prog 21 #[.int .u64 (T - U), .int .i64 w] W (Res2 W ((T - U).toNat ^ w) 0)) := ⟨npower_calls (T - U) w (by omega) (by
    by_cases h2 : T - U < 2
    · exact .inl h2
    · refine .inr ?_
      have h3 : bl (T - U).toNat ≤ 20 := (bl_le _ _).2 (by omega)
      have h4 : 1 ≤ bl (T - U).toNat := by rw [bl_pos (by omega)]; omega
      generalize bl (T - U).toNat = b at *
      have : (13107 : Int) ≤ 262144 / (b : Int) := by rw [Int.le_ediv_iff_mul_le (by omega)]; omega
      omega) W⟩
  have HJ := Aside0.mk hJ
  have HJx := Aside0.mk hJx
  have HY := Aside0.mk hY
  have H0 := Aside0.mk h0
  have HW := Aside0.mk hW
  have hd1 : ((T - U) == 0) = false := by simp; omega
  clear hJ hJx hY h0 hW
  refine callsIn_of_wp Try.func64 rfl trivial ?_ rfl
  simp only [Try.ntmps64, List.size_toArray, List.length_cons, List.length_nil, Nat.reduceAdd, Nat.reduceSub, Array.replicate_succ, Array.replicate_zero, List.push_toArray, List.append_toArray, List.nil_append, List.cons_append]
  gi_wp2_with (first
    | (refine ⟨trivial, fun _ => by omega, ?_⟩; gi_at_call 21; (with_reducible refine (callsIn_wide.2 HPW.out).mono ?_); rintro e w1 ⟨A1, c1, rfl, h1, h2, h3⟩; have HC1 := Aside0.mk h2; have HB1 := Aside0.mk h3; clear h2 h3)
    | fail)
  have HJ1 := Aside0.mk (HJ.out [] W w1 none H0.out (grown_of_below HB1.out none) (fun r e => by cases e))
  have hcw1 : Coins B w T U w1 := Coins.below ⟨hc0, hc1, hc2⟩ HB1.out
  clear hc0 hc1 hc2
  have HCo := Aside0.mk hcw1
  clear hcw1
  rw [show (T - U).toNat ^ w = tm w 0 U.toNat (T - U).toNat from (tm_zero _ _ _).symm] at h1 HC1 ⊢
  gi_loopw [6, 8] (fun v6 v8 wr => ∃ (k : Nat) (pre : List El) (A : Option Addr) (c : Nat), v8 = .int .i64 k ∧ v6 = .slice A (nw (tm w k U.toNat (T - U).toNat)).length c ∧ k ≤ w + 1 ∧ pre.length = k ∧ (nw (tm w k U.toNat (T - U).toNat)).length ≤ c ∧ Aside0 (Kd.C (Kd.int .u64) wr A (nw (tm w k U.toNat (T - U).toNat)).length (nw (tm w k U.toNat (T - U).toNat))) ∧ Aside0 (J pre wr) ∧ Aside0 (Coins B w T U wr))
    (fun _ v8 _ => w + 1 - (intOf v8).toNat)
  case atStart => exact ⟨0, [], A1, c1, rfl, rfl, by omega, rfl, h1, HC1, HJ1, HCo⟩
  case round =>
    obtain ⟨k, pre, A, c, rfl, rfl, hk, hpre, hlc, HC, HJp, HCo2⟩ := hrel
    obtain ⟨hc0, hc1, hc2⟩ := HCo2.out
    by_cases hlt : k ≤ w
    · obtain ⟨fn, tmps, assign, body, hy, hR⟩ := HY.out pre (k, A, c) wr HJp.out ⟨hpre.symm, hlt, hlc, HC.out⟩
      dsimp only [bencs] at hy
      have HRR := Aside0.mk hR
      clear hR
      gi_wp2_with fail
      refine ⟨fun _ => by omega, HRR.out.mono ?_⟩
      clear HRR hy hc0 hc1 hc2
      rintro e w2 (⟨rfl, hJ2, hk2⟩ | ⟨rfl, hJx2⟩)
      · have HC2 := Aside0.mk (hk2.1 A _ HC.out)
        have hco := HCo2.out.kept hk2
        have HCo3 := Aside0.mk hco
        have HJ2 := Aside0.mk hJ2
        obtain ⟨hc0, hc1, hc2⟩ := hco
        clear hk2 hJ2
        obtain ⟨y1, hy1⟩ : ∃ y, IntKind.u64.wrap (((w : Int) - (k : Int)) * U) = y := ⟨_, rfl⟩
        obtain ⟨y2, hy2⟩ : ∃ y, IntKind.u64.wrap (((k : Int) + 1) * (T - U)) = y := ⟨_, rfl⟩
        have e1 : y1 = (((w - k) * U.toNat : Nat) : Int) := by
          rw [← wrap_mul (w - k) U.toNat (by omega) (by omega), ← hy1]
          congr 2
          · omega
          · omega
        have e2 : y2 = (((k + 1) * (T - U).toNat : Nat) : Int) := by
          rw [← wrap_mul (k + 1) (T - U).toNat (by omega) (by omega), ← hy2]
          congr 2
          omega
        have b1 : (w - k) * U.toNat ≤ 4097 * 1048576 := Nat.mul_le_mul (by omega) (by omega)
        have b2 : (k + 1) * (T - U).toNat ≤ 4097 * 1048576 := Nat.mul_le_mul (by omega) (by omega)
        have b3 : 0 < (k + 1) * (T - U).toNat := Nat.mul_pos (by omega) (by omega)
        have hlen := tm_len w k U.toNat (T - U).toNat hw (by omega)
        obtain ⟨mb, hmb⟩ : ∃ mb, mb = 81921 := ⟨_, rfl⟩
        have hbits := tm_bits w k U.toNat (T - U).toNat hw (by omega) mb hmb
        have hnext := tm_next w k U.toNat (T - U).toNat (by omega) hlt
        generalize (w - k) * U.toNat = m1 at *
        generalize (k + 1) * (T - U).toNat = m2 at *
        have HM := nmulw_calls A _ c (nw (tm w k U.toNat (T - U).toNat)) rfl y1 (by omega) w2 HC2.out (nw_Wd _) (by omega)
        rw [wv_nw, show y1.toNat = m1 from by omega] at HM
        have HM2 := Aside0.mk HM
        have hlen2 : (nw (tm w k U.toNat (T - U).toNat * m1)).length ≤ 2000 := nw_len_le (k := mb + 64) (by
          rw [Nat.pow_add]; exact Nat.mul_lt_mul_of_lt_of_lt hbits (by omega)) (by omega)
        have HN := Aside0.mk hnext
        have HY2 : Aside0 (y2.toNat = m2) := ⟨by omega⟩
        have hy2r : 0 < y2 ∧ y2 < 18446744073709551616 := by omega
        clear HM hnext b1 b2 b3 e1 e2 hbits hmb
        gi_wp2_with (first
          | (refine ⟨trivial, fun _ => by omega, ?_⟩; gi_at_call 38; (with_reducible refine (callsIn_wide.2 HM2.out).mono ?_); rintro e w3 ⟨A3, c3, rfl, h5, h6, h7⟩; have HC3 := Aside0.mk h6; have HB3 := Aside0.mk h7; clear h6 h7; have HCo4 := Aside0.mk (HCo3.out.below HB3.out))
          | (refine ⟨trivial, fun _ => by omega, ?_⟩; gi_at_call 33; (with_reducible refine (callsIn_wide.2 (ndiv_calls A3 _ c3 (nw (tm w k U.toNat (T - U).toNat * m1)) rfl y2 hy2r w3 HC3.out (nw_Wd _) (by omega))).mono ?_); rintro e w4 ⟨A4, c4, rfl, h8, h9, h10⟩; rw [wv_nw, HY2.out, HN.out] at h8 h9; rw [wv_nw, HY2.out, HN.out]; have HC4 := Aside0.mk h9; have HB4 := Aside0.mk h10; clear h9 h10; have HCo5 := Aside0.mk (HCo4.out.below HB4.out))
          | fail)
        have HJ3 := Aside0.mk (HJ.out _ w2 w3 none HJ2.out (grown_of_below HB3.out none) (fun r e => by cases e))
        have HJ4 := Aside0.mk (HJ.out _ w3 w4 none HJ3.out (grown_of_below HB4.out none) (fun r e => by cases e))
        refine ⟨⟨k + 1, _, A4, c4, by congr 1, rfl, by omega, by simp [hpre], h8, HC4, HJ4, HCo5⟩, ?_⟩
        simp [intOf] <;> omega
      · gi_wp2_with fail
        refine bodyPost_ret (results_none rfl _ _ _) rfl ?_
        exact ⟨⟨_, rfl⟩, .inr ⟨_, trivial, hJx2⟩⟩
    · obtain rfl : k = w + 1 := by omega
      gi_wp2_with fail
      go_end0
      exact ⟨⟨_, rfl⟩, .inl ⟨pre, hpre, HJp.out⟩⟩
theorem tm_none (w k tau : Nat) (h : k < w) : tm w k tau 0 = 0 := by rw [tm, Nat.zero_pow (by omega), Nat.mul_zero, Nat.mul_zero]
theorem tm_last (w tau : Nat) : tm w w tau 0 = tau ^ w := by rw [tm, Nat.sub_self, ch_self, Nat.pow_zero, Nat.mul_one, Nat.one_mul]
set_option maxHeartbeats 6400000 in
set_option maxRecDepth 100000 in
theorem terms_all (n w : Nat) (T : Int) (hw : w ≤ 4096) (hU : 1 ≤ T) (hT2 : T ≤ 1048576) (B : Nat) (w0 : World) (hc : Coins B w T T w0) (hn : 2 ≤ n) :
    SeqZ Fence.wide n Try.prog 64 #[.pointer (some ⟨B, 0, none⟩)] (bencs w T.toNat 0) (BK B) (BZ w T.toNat 0) (fun xs => xs.length = w + 1) (fun _ => True) w0 := by
  intro l J Jx W hW hJ hJx hY h0
  have hcW : Coins B w T T W := ⟨pw_cell_below hW hc.1, pw_cell_below hW hc.2.1, pw_cell_below hW hc.2.2⟩
  clear hc
  have HCo := Aside0.mk hcW
  obtain ⟨hc0, hc1, hc2⟩ := hcW
  have HPW : Aside0 (∀ W, Calls Try.prog 21 #[.int .u64 T, .int .i64 w] W (Res2 W (T.toNat ^ w) 0)) := ⟨fun W => npower_calls T w (by omega) (by
    by_cases h2 : T < 2
    · exact .inl h2
    · refine .inr ?_
      have h3 : bl T.toNat ≤ 21 := (bl_le _ _).2 (by omega)
      have h4 : 1 ≤ bl T.toNat := by rw [bl_pos (by omega)]; omega
      generalize bl T.toNat = b at *
      have : (12483 : Int) ≤ 262144 / (b : Int) := by rw [Int.le_ediv_iff_mul_le (by omega)]; omega
      omega) W⟩
  have HJ := Aside0.mk hJ
  have HJx := Aside0.mk hJx
  have HY := Aside0.mk hY
  have H0 := Aside0.mk h0
  have HW := Aside0.mk hW
  clear hJ hJx hY h0 hW
  refine callsIn_of_wp Try.func64 rfl trivial ?_ rfl
  simp only [Try.ntmps64, List.size_toArray, List.length_cons, List.length_nil, Nat.reduceAdd, Nat.reduceSub, Array.replicate_succ, Array.replicate_zero, List.push_toArray, List.append_toArray, List.nil_append, List.cons_append]
  gi_wp2_with fail
  clear hc0 hc1 hc2
  gi_loopw [20] (fun v20 wr => ∃ (k : Nat) (pre : List El), v20 = .int .i64 k ∧ k ≤ w + 1 ∧ pre.length = k ∧ Aside0 (J pre wr) ∧ Aside0 (Coins B w T T wr))
    (fun v20 _ => w + 1 - (intOf v20).toNat)
  case atStart => exact ⟨0, [], rfl, by omega, rfl, H0, HCo⟩
  case round =>
    obtain ⟨k, pre, rfl, hk, hpre, HJp, HCo2⟩ := hrel
    obtain ⟨hc0, hc1, hc2⟩ := HCo2.out
    by_cases hlt : k < w
    · obtain ⟨fn, tmps, assign, body, hy, hR⟩ := HY.out pre (k, none, 0) wr HJp.out ⟨hpre.symm, by omega, by rw [tm_none w k T.toNat hlt, nw_zero]; simp, by rw [tm_none w k T.toNat hlt, nw_zero]; exact Kd.C_nil _ _⟩
      dsimp only [bencs] at hy
      rw [tm_none w k T.toNat hlt, nw_zero] at hy
      have hkw : ((k : Int) == (w : Int)) = false := by simp; omega
      dsimp only [List.length_nil] at hy
      have HRR := Aside0.mk hR
      clear hR
      gi_wp2_with fail
      refine ⟨fun _ => by omega, HRR.out.mono ?_⟩
      clear HRR hy hc0 hc1 hc2
      rintro e w2 (⟨rfl, hJ2, hk2⟩ | ⟨rfl, hJx2⟩)
      · have HCo3 := Aside0.mk (HCo2.out.kept hk2)
        have HJ2 := Aside0.mk hJ2
        clear hk2 hJ2
        gi_wp2_with fail
        refine ⟨⟨k + 1, _, by congr 1, by omega, by simp [hpre], HJ2, HCo3⟩, ?_⟩
        simp [intOf] <;> omega
      · gi_wp2_with fail
        refine bodyPost_ret (results_none rfl _ _ _) rfl ?_
        exact ⟨⟨_, rfl⟩, .inr ⟨_, trivial, hJx2⟩⟩
    · by_cases heq : k = w
      · subst heq
        gi_wp2_with (first
          | (refine ⟨trivial, fun _ => by omega, ?_⟩; gi_at_call 21; (with_reducible refine (callsIn_wide.2 (HPW.out _)).mono ?_); rintro e w1 ⟨A1, c1, rfl, h1, h2, h3⟩; rw [← tm_last] at h1 h2; rw [← tm_last]; have HC1 := Aside0.mk h2; have HB1 := Aside0.mk h3; have hco := HCo2.out.below h3; have HCo3 := Aside0.mk hco; have HJ1 := Aside0.mk (HJ.out _ _ w1 none HJp.out (grown_of_below h3 none) (fun r e => by cases e)); clear h2 h3 hco; obtain ⟨fn, tmps, assign, body, hy, hR⟩ := HY.out pre (k, A1, c1) w1 HJ1.out ⟨hpre.symm, by omega, h1, HC1.out⟩; dsimp only [bencs] at hy; have HRR := Aside0.mk hR; clear hR)
          | fail)
        refine ⟨fun _ => by omega, HRR.out.mono ?_⟩
        clear HRR hy hc0 hc1 hc2
        rintro e w2 (⟨rfl, hJ2, hk2⟩ | ⟨rfl, hJx2⟩)
        · have HCo4 := Aside0.mk (HCo3.out.kept hk2)
          have HJ2 := Aside0.mk hJ2
          clear hk2 hJ2
          gi_wp2_with fail
          refine ⟨⟨k + 1, _, by congr 1, by omega, by simp [hpre], HJ2, HCo4⟩, ?_⟩
          simp [intOf] <;> omega
        · gi_wp2_with fail
          refine bodyPost_ret (results_none rfl _ _ _) rfl ?_
          exact ⟨⟨_, rfl⟩, .inr ⟨_, trivial, hJx2⟩⟩
      · obtain rfl : k = w + 1 := by omega
        gi_wp2_with fail
        refine bodyPost_ret (results_none rfl _ _ _) rfl ?_
        exact ⟨⟨_, rfl⟩, .inl ⟨pre, hpre, HJp.out⟩⟩
theorem terms_seq (n w : Nat) (T U : Int) (hw : w ≤ 4096) (hU : 1 ≤ U) (hT : U ≤ T) (hT2 : T ≤ 1048576) (B : Nat) (w0 : World) (hc : Coins B w T U w0) (hn : 2 ≤ n) :
    SeqZ Fence.wide n Try.prog 64 #[.pointer (some ⟨B, 0, none⟩)] (bencs w U.toNat (T - U).toNat) (BK B) (BZ w U.toNat (T - U).toNat) (fun xs => xs.length = w + 1) (fun _ => True) w0 := by
  by_cases h : U = T
  · subst h
    have := terms_all n w U hw hU hT2 B w0 hc hn
    rwa [show (U - U).toNat = 0 from by omega]
  · exact terms_more n w T U hw hU (by omega) hT2 B w0 hc hn
end Go.Proofs.Ytjkelnnjfpcapaa.Num
end
section
/- binom: what may be asked; the terms' maker. -/
namespace Go.Proofs.Ytjkelnnjfpcapaa.Num
set_option linter.unusedVariables false
set_option linter.unusedSimpArgs false
open Go.RowKit Go.Shelf Go.Proofs.Ytjkelnnjfpcapaa.Rng Go.Proofs.Ytjkelnnjfpcapaa.PNat Go.Proofs.YtjkelnnjfpcapaaW Go.Proofs.YtjkelnnjfpcapaaW.PrintWords Go.Proofs.YtjkelnnjfpcapaaW.PrintLast Go.Proofs.YtjkelnnjfpcapaaW.PrintMore

theorem ret_bool {a b : Bool} (h : a = b) : Ending.returned (.bool a) = .returned (.bool b) := by rw [h]
theorem bcell {W w1 : World} (hb : Below W.heap.size W w1) : (∀ b o, b < W.heap.size → w1.cell? ⟨b, o, none⟩ = W.cell? ⟨b, o, none⟩) ∧ (∀ b o, b < W.heap.size → w1.frozen? ⟨b, o, none⟩ = W.frozen? ⟨b, o, none⟩) :=
  ⟨fun b o h => hb.cell (p := ⟨b, o, none⟩) h, fun b o h => hb.frozen (p := ⟨b, o, none⟩) h⟩
def mayB (w T U : Int) : Bool := decide (1 ≤ T ∧ T ≤ 1048576 ∧ 1 ≤ U ∧ U ≤ T ∧ 0 ≤ w ∧ w ≤ 4096 ∧ w ≤ T)
theorem bterms_calls (w T U : Int) (W : World) : Calls Try.prog 58 #[.agg #[.int .i64 w, .int .i64 T, .int .i64 U]] W fun e w' => e = .returned (.func (.func 64) #[] #[.pointer (some ⟨W.heap.size, 0, none⟩)]) ∧ W.alloc (.cells #[.int .i64 w, .int .i64 T, .int .i64 U] 81) = w' := by
  go_enter Try.func58, Try.ntmps58
  go_wp2
  go_ret
  exact ⟨rfl, rfl⟩
set_option maxHeartbeats 3200000 in
set_option maxRecDepth 100000 in
theorem bmay_calls (w T U : Int) (W : World) : Calls Try.prog 57 #[.agg #[.int .i64 w, .int .i64 T, .int .i64 U]] W (Tells (.bool (mayB w T U)) W) := by
  obtain ⟨b, hb⟩ : ∃ b, mayB w T U = b := ⟨_, rfl⟩
  rw [hb]
  have HB := Aside0.mk hb
  clear hb
  go_enter Try.func57, Try.ntmps57
  go_wp2
  all_goals
    go_ret
    refine ⟨ret_bool ?_, below_alloc (Below.refl _ _) _⟩
    rw [← HB.out]
    unfold mayB
    first
      | (rw [decide_eq_decide]; omega)
      | (symm; apply decide_eq_true; omega)
      | (symm; apply decide_eq_false; omega)
set_option maxHeartbeats 6400000 in
set_option maxRecDepth 100000 in
theorem bterm_no (w k T U : Int) (W : World) (h : mayB w T U = false ∨ k < 0 ∨ w < k) : Calls Try.prog 43 #[.int .i64 w, .int .i64 k, .int .i64 T, .int .i64 U] W (Tells (.tuple #[.slice none 0 0, .int .i64 2]) W) := by
  have HM : ∀ W, Calls Try.prog 57 #[.agg #[.int .i64 w, .int .i64 T, .int .i64 U]] W (Tells (.bool (mayB w T U)) W) := bmay_calls w T U
  obtain ⟨b, hb⟩ : ∃ b, mayB w T U = b := ⟨_, rfl⟩
  rw [hb] at HM h
  clear hb
  have HM2 := Aside0.mk HM
  clear HM
  have HH := Aside0.mk h
  clear h
  cases b
  · clear HH
    go_enter Try.func43, Try.ntmps43
    go_wp2_with (first
      | (go_at_call 57; (with_reducible refine (HM2.out _).mono ?_); rintro e w1 ⟨rfl, hb1⟩; obtain ⟨hcc, hff⟩ := bcell hb1; have hz := hb1.size; have HB1 := Aside0.mk hb1; clear hb1)
      | fail)
    refine bodyPost_ret (v := .tuple #[.slice none 0 0, .int .i64 2]) (by simp [results, Try.results43, go_sem, hcc, hff, hz]) rfl ⟨rfl, ?_⟩
    exact ((below_step (below_alloc (below_alloc (below_alloc (below_alloc (Below.refl _ _) _) _) _) _) HB1.out).setCell (by simp) _).setCell (by simp [Nat.add_assoc]) _
  · rcases HH.out with h | h
    · cases h
    by_cases h' : k < 0
    · clear HH h
      go_enter Try.func43, Try.ntmps43
      go_wp2_with (first
        | (go_at_call 57; (with_reducible refine (HM2.out _).mono ?_); rintro e w1 ⟨rfl, hb1⟩; obtain ⟨hcc, hff⟩ := bcell hb1; have hz := hb1.size; have HB1 := Aside0.mk hb1; clear hb1)
        | fail)
      refine bodyPost_ret (v := .tuple #[.slice none 0 0, .int .i64 2]) (by simp [results, Try.results43, go_sem, hcc, hff, hz]) rfl ⟨rfl, ?_⟩
      exact ((below_step (below_alloc (below_alloc (below_alloc (below_alloc (Below.refl _ _) _) _) _) _) HB1.out).setCell (by simp) _).setCell (by simp [Nat.add_assoc]) _
    · clear HH
      have h2 : w < k := by omega
      clear h
      go_enter Try.func43, Try.ntmps43
      go_wp2_with (first
        | (go_at_call 57; (with_reducible refine (HM2.out _).mono ?_); rintro e w1 ⟨rfl, hb1⟩; obtain ⟨hcc, hff⟩ := bcell hb1; have hz := hb1.size; have HB1 := Aside0.mk hb1; clear hb1)
        | fail)
      refine bodyPost_ret (v := .tuple #[.slice none 0 0, .int .i64 2]) (by simp [results, Try.results43, go_sem, hcc, hff, hz]) rfl ⟨rfl, ?_⟩
      exact ((below_step (below_alloc (below_alloc (below_alloc (below_alloc (Below.refl _ _) _) _) _) _) HB1.out).setCell (by simp) _).setCell (by simp [Nat.add_assoc]) _

/-- A row of numbers lies where such cells are kept. -/
theorem C_move {k : IntKind} {W W' : World} {A : Option Addr} {l : List Int} (h : Kd.C (Kd.int k) W A l.length l) (hm : ∀ a v, W.cell? a = some (.int k v) → W'.cell? a = some (.int k v)) : Kd.C (Kd.int k) W' A l.length l := by
  have h' : ReadsOf (Value.int k) (0 : Int) W A l.length l := Kd.reads_of_C (h1 := fun _ => rfl) h
  refine Kd.C_of_reads (enc := Value.int k) (d := (0 : Int)) (h1 := fun _ => rfl) ⟨h'.1, h'.2.1, fun hp => ?_⟩
  obtain ⟨ad, e, hc⟩ := h'.2.2 hp
  exact ⟨ad, e, fun j hj => hm _ _ (hc j hj)⟩
theorem C_set {k : IntKind} {W : World} {A : Option Addr} {l : List Int} (h : Kd.C (Kd.int k) W A l.length l) {p : Addr} {v : Value} (hp : W.cell? p = some v) (hv : ∀ x, v ≠ .int k x) (u : Value) : Kd.C (Kd.int k) (W.setCell p u) A l.length l := by
  refine C_move h fun a x hx => ?_
  by_cases e : p = a
  · subst e; rw [hp] at hx; exact absurd (Option.some.inj hx) (hv x)
  · rw [World.cell?_setCell_other (h := e)]; exact hx
theorem C_row {k : IntKind} {W W' : World} {row : Option Nat} {A : Option Addr} {l : List Int} (h : Kd.C (Kd.int k) W A l.length l) (hg : W.grownBy W' row) (hr : ∀ r, row = some r → ∃ o : Obj, W.heap[r]? = some o ∧ o.isCells = false) : Kd.C (Kd.int k) W' A l.length l :=
  C_move h fun a x hx => cell_kept hx hg hr
theorem BK.refl (B : Nat) (W : World) : BK B W W := ⟨fun _ _ h => h, fun _ _ h => h⟩
theorem BK.trans {B : Nat} {X Y Z : World} (h : BK B X Y) (k : BK B Y Z) : BK B X Z := ⟨fun A l c => k.1 A l (h.1 A l c), fun o v c => k.2 o v (h.2 o v c)⟩
theorem BK.putObj {B : Nat} (W : World) (l : Nat) (o o' : Obj) (hl : W.heap[l]? = some o) (ho : o.isCells = false) : BK B W (W.putObj l o') := by
  have hr : ∀ r, some l = some r → ∃ o : Obj, W.heap[r]? = some o ∧ o.isCells = false := fun r e => by cases e; exact ⟨o, hl, ho⟩
  exact ⟨fun A l c => C_row c (grownBy_putObj' W _ o') hr, fun o v c => cell_kept c (grownBy_putObj' W _ o') hr⟩
theorem BZ.putObj {w tau rest : Nat} (pre : List El) (x : El) (W : World) (l : Nat) (o o' : Obj) (hl : W.heap[l]? = some o) (ho : o.isCells = false) (h : BZ w tau rest pre x W) : BZ w tau rest pre x (W.putObj l o') := by
  have hr : ∀ r, some l = some r → ∃ o : Obj, W.heap[r]? = some o ∧ o.isCells = false := fun r e => by cases e; exact ⟨o, hl, ho⟩
  exact ⟨h.1, h.2.1, h.2.2.1, C_row h.2.2.2 (grownBy_putObj' W _ o') hr⟩
attribute [local go_sem] Oper.semAt_some
set_option maxHeartbeats 6400000 in
set_option maxRecDepth 100000 in
theorem bterm_yes (w k : Nat) (T U : Int) (W : World) (h : mayB w T U = true) (hk : k ≤ w) : Calls Try.prog 43 #[.int .i64 w, .int .i64 k, .int .i64 T, .int .i64 U] W (Res2 W (tm w k U.toNat (T - U).toNat) 0) := by
  have HM : ∀ W, Calls Try.prog 57 #[.agg #[.int .i64 w, .int .i64 T, .int .i64 U]] W (Tells (.bool (mayB w T U)) W) := bmay_calls w T U
  rw [h] at HM
  have HM2 := Aside0.mk HM
  have HT : Aside0 (∀ W, Calls Try.prog 58 #[.agg #[.int .i64 w, .int .i64 T, .int .i64 U]] W fun e w' => e = .returned (.func (.func 64) #[] #[.pointer (some ⟨W.heap.size, 0, none⟩)]) ∧ W.alloc (.cells #[.int .i64 w, .int .i64 T, .int .i64 U] 81) = w') := ⟨bterms_calls w T U⟩
  clear HM
  have hm : 1 ≤ T ∧ T ≤ 1048576 ∧ 1 ≤ U ∧ U ≤ T ∧ (w : Int) ≤ 4096 := by
    have := of_decide_eq_true h; omega
  have HMM := Aside0.mk hm
  clear h hm
  have hk0 : decide ((k : Int) < 0) = false := decide_eq_false (by omega)
  refine (callsIn_wide (n := 9)).1 ?_
  refine callsIn_of_wp_marks Try.func43 rfl trivial ?_ rfl
  simp only [Try.ntmps43, List.size_toArray, List.length_cons, List.length_nil, Nat.reduceAdd, Nat.reduceSub, Array.replicate_succ, Array.replicate_zero, List.push_toArray, List.append_toArray, List.nil_append, List.cons_append]
  gi_wp2_with (first
    | (refine ⟨trivial, ?_⟩; gi_at_call 57; (with_reducible refine (callsIn_wide.2 (HM2.out _)).mono ?_); rintro e w1 ⟨rfl, hb1⟩; obtain ⟨hcc, hff⟩ := bcell hb1; have hz := hb1.size; have HB1 := Aside0.mk hb1; clear hb1)
    | (refine ⟨trivial, ?_⟩; gi_at_call 58; (with_reducible refine (callsIn_wide.2 (HT.out _)).mono ?_); rintro e w2 ⟨rfl, rfl⟩)
    | fail)
  obtain ⟨W2, hW2⟩ : ∃ W2, w1.alloc (.cells #[.int .i64 w, .int .i64 T, .int .i64 U] 81) = W2 := ⟨_, rfl⟩
  have hs2 : W2.heap.size = w1.heap.size + 1 := by rw [← hW2]; simp
  have hB2 : Below W.heap.size W W2 := by
    rw [← hW2]
    exact below_alloc (below_step (below_alloc (below_alloc (below_alloc (below_alloc (Below.refl _ _) _) _) _) _) HB1.out) _
  have hz' : W.heap.size + 4 ≤ w1.heap.size := by simp at hz; omega
  have hco : Coins w1.heap.size w T U W2 := by rw [← hW2]; exact ⟨by simp, by simp, by simp⟩
  have hq0 : W2.cell? ⟨W.heap.size, 0, none⟩ = some (.int .i64 k) := by
    rw [← hW2]; exact (pw_cell_below (below_alloc (Below.refl _ _) _) ((hcc W.heap.size 0 (by simp <;> omega)).trans (by go_simp)))
  have hq1 : W2.cell? ⟨W.heap.size + 1, 0, none⟩ = some (.slice none 0 0) := by
    rw [← hW2]; exact (pw_cell_below (below_alloc (Below.refl _ _) _) ((hcc (W.heap.size + 1) 0 (by simp <;> omega)).trans (by go_simp)))
  have hq2 : W2.cell? ⟨W.heap.size + 1 + 1, 0, none⟩ = some (.int .i64 0) := by
    rw [← hW2]; exact (pw_cell_below (below_alloc (Below.refl _ _) _) ((hcc (W.heap.size + 1 + 1) 0 (by simp <;> omega)).trans (by go_simp)))
  have hf1 : W2.frozen? ⟨W.heap.size + 1, 0, none⟩ = false := by
    rw [← hW2]; exact ((below_alloc (Below.refl _ _) _).frozen (by simp <;> omega)).trans ((hff (W.heap.size + 1) 0 (by simp <;> omega)).trans (by go_simp))
  have hf2 : W2.frozen? ⟨W.heap.size + 1 + 1, 0, none⟩ = false := by
    rw [← hW2]; exact ((below_alloc (Below.refl _ _) _).frozen (by simp <;> omega)).trans ((hff (W.heap.size + 1 + 1) 0 (by simp <;> omega)).trans (by go_simp))
  rw [hW2]
  clear hcc hff hz HB1 hW2
  have hm := HMM.out
  have hsq := terms_seq (9 - 1) w T U (by omega) hm.2.2.1 hm.2.2.2.1 hm.2.1 w1.heap.size W2 hco (by omega)
  clear hm
  refine range_law rfl (by omega) (gf := 64) (lb := #[.pointer (some ⟨w1.heap.size, 0, none⟩)]) rfl trivial (enters_of Try.func64 (by kernel_rfl) rfl) hsq
    (fun h k => BK.trans h k) (fun W l o o' _ hl ho _ => BK.putObj W l o o' hl ho) BZ.putObj (Below.refl _ _) (fun _ => rfl)
    (fun pre X => X.cell? ⟨W.heap.size, 0, none⟩ = some (.int .i64 k) ∧ X.cell? ⟨W.heap.size + 1, 0, none⟩ = some (.slice none 0 0) ∧ X.cell? ⟨W.heap.size + 1 + 1, 0, none⟩ = some (.int .i64 0) ∧ X.frozen? ⟨W.heap.size + 1, 0, none⟩ = false ∧ X.frozen? ⟨W.heap.size + 1 + 1, 0, none⟩ = false ∧ pre.length ≤ k ∧ Below W.heap.size W X)
    (fun c pre X => c = .ret ∧ ∃ A d, X.cell? ⟨W.heap.size + 1, 0, none⟩ = some (.slice A (nw (tm w k U.toNat (T - U).toNat)).length d) ∧ X.cell? ⟨W.heap.size + 1 + 1, 0, none⟩ = some (.int .i64 0) ∧ (nw (tm w k U.toNat (T - U).toNat)).length ≤ d ∧ Kd.C (Kd.int .u64) X A (nw (tm w k U.toNat (T - U).toNat)).length (nw (tm w k U.toNat (T - U).toNat)) ∧ Below W.heap.size W X)
    ?hI ?hIx ⟨hq0, hq1, hq2, hf1, hf2, Nat.zero_le _, hB2⟩
    (fun x => { tmps := #[.int .i64 w, .int .i64 k, .int .i64 T, .int .i64 U, undef, .pointer (some ⟨W.heap.size, 0, none⟩), undef, undef, .pointer (some ⟨W.heap.size + 1, 0, none⟩), .pointer (some ⟨W.heap.size + 1 + 1, 0, none⟩), .pointer (some ⟨W.heap.size + 1 + 1 + 1, 0, none⟩), .int .i64 (x.1 : Int), .slice x.2.1 (nw (tm w x.1 U.toNat (T - U).toNat)).length x.2.2, .int .i64 w, .int .i64 T, .int .i64 U, .agg #[.int .i64 w, .int .i64 T, .int .i64 U], .agg #[.int .i64 w, .int .i64 T, .int .i64 U], .bool true, .bool false, .bool false, .int .i64 k, .bool false, .bool false, .bool false, .int .i64 k, .int .i64 w, .bool false, .bool false, .agg #[.int .i64 w, .int .i64 T, .int .i64 U], .func (.func 64) #[] #[.pointer (some ⟨w1.heap.size, 0, none⟩)], .int .i64 (x.1 : Int), .slice x.2.1 (nw (tm w x.1 U.toNat (T - U).toNat)).length x.2.2, undef, undef, undef, undef], defers := [] }) ?assign ?body ?done ?stop
  case hI =>
    rintro s A B row ⟨h1, h2, h3, h4, h5, h6, h7⟩ hg hr
    have hr' : ∀ r, row = some r → ∃ o : Obj, A.heap[r]? = some o ∧ o.isCells = false := fun r e => (hr r e).2
    exact ⟨cell_kept h1 hg hr', cell_kept h2 hg hr', cell_kept h3 hg hr', (frozen_kept h2 hg hr').trans h4, (frozen_kept h3 hg hr').trans h5, h6, h7.grown hg h7.size (fun k e => by have := (hr k e).1; omega)⟩
  case hIx =>
    rintro c s A B row ⟨h0, A', d, h1, h2, h3, h4, h5⟩ hg hr
    have hr' : ∀ r, row = some r → ∃ o : Obj, A.heap[r]? = some o ∧ o.isCells = false := fun r e => (hr r e).2
    exact ⟨h0, A', d, cell_kept h1 hg hr', cell_kept h2 hg hr', h3, C_row h4 hg hr', h5.grown hg h5.size (fun k e => by have := (hr k e).1; omega)⟩
  case assign =>
    intro l x X K hK
    dsimp only [bencs]
    gi_wp2
    exact hK
  case body =>
    rintro l pre ⟨i, A, d⟩ X ⟨h1, h2, h3, h4, h5, h6, h7⟩ ⟨hx1, hx2, hx3, hx4⟩
    dsimp only at hx1 hx2 hx3 hx4 ⊢
    have HX1 := Aside0.mk hx1
    have H7 := Aside0.mk h7
    have HX := Aside0.mk hx4
    by_cases e : i = k
    · subst e
      have hee : ((i : Int) == (i : Int)) = true := by simp
      clear hx1 hx4 h7
      gi_wp2
      have g2 : (X.setCell ⟨W.heap.size + 1, 0, none⟩ (.slice A (nw (tm w i U.toNat (T - U).toNat)).length d)).cell? ⟨W.heap.size + 1 + 1, 0, none⟩ = some (.int .i64 0) := by
        rw [World.cell?_setCell_far _ _ _ _ (by simp)]; exact h3
      refine ⟨((KeepsOthers.setCell _ _ _).trans (KeepsOthers.setCell _ _ _)).from _, rfl, A, d, ?_, World.cell?_setCell_same' _ _ _ (by rw [g2]; rfl), hx3, C_set (C_set HX.out h2 (by simp) _) g2 (by simp) _, (H7.out.setCell (by simp) _).setCell (by simp [Nat.add_assoc]) _⟩
      rw [World.cell?_setCell_far _ _ _ _ (by simp)]; exact World.cell?_setCell_same' _ _ _ (by rw [h2]; rfl)
    · have hee : ((i : Int) == (k : Int)) = false := by simp; omega
      clear hx1 hx4 h7
      gi_wp2
      exact ⟨KeepsFrom.refl _ _, BK.refl _ _, h1, h2, h3, h4, h5, by have := HX1.out; simp; omega, H7.out⟩
  case done =>
    rintro D ys X hD hys ⟨h1, h2, h3, h4, h5, h6, h7⟩ hK
    omega
  case stop =>
    rintro D c pre X hD _ ⟨rfl, A, d, h1, h2, h3, h4, h5⟩ hK
    have hr' : ∀ r, some D = some r → ∃ o : Obj, X.heap[r]? = some o ∧ o.isCells = false := fun r e => by cases e; exact ⟨_, hK, rfl⟩
    have g1 := cell_kept h1 (grownBy_putObj' X D (.deferred none)) hr'
    have g2 := cell_kept h2 (grownBy_putObj' X D (.deferred none)) hr'
    have g4 := C_row h4 (grownBy_putObj' X D (.deferred none)) hr'
    have g5 := h5.grown (grownBy_putObj' X D (.deferred none)) h5.size (fun k e => by cases e; omega)
    gi_wp2
    refine ⟨by simp, .inl ⟨_, _, rfl, run_takeDeferred hK, ?_⟩⟩
    exact ⟨.tuple #[.slice A (nw (tm w k U.toNat (T - U).toNat)).length d, .int .i64 0], by simp [results, Try.results43, go_sem, g1, g2], A, d, rfl, h3, g4, g5⟩
end Go.Proofs.Ytjkelnnjfpcapaa.Num
end
section
/- binom: how many are drawn. -/
namespace Go.Proofs.Ytjkelnnjfpcapaa.Num
set_option linter.unusedVariables false
set_option linter.unusedSimpArgs false
open Go.RowKit Go.Shelf Go.Proofs.Ytjkelnnjfpcapaa.Rng Go.Proofs.Ytjkelnnjfpcapaa.PNat Go.Proofs.YtjkelnnjfpcapaaW Go.Proofs.YtjkelnnjfpcapaaW.PrintWords Go.Proofs.YtjkelnnjfpcapaaW.PrintLast Go.Proofs.YtjkelnnjfpcapaaW.PrintMore

theorem nleft_nw (A0 : Option Addr) (c0 v n : Nat) (hn : n ≤ 1000) (w : World) (hr0 : Kd.C (Kd.int .u64) w A0 (nw v).length (nw v)) (hc0 : (nw v).length ≤ c0) (hl0 : (nw v).length ≤ 1400) :
    Calls Try.prog 20 #[.slice A0 (nw v).length c0, .int .i64 n] w (Res2 w (v * 2 ^ n) 0) := by
  have hb : bl (wv (nw v)) ≤ 64 * (nw v).length := (bl_le _ _).2 (wv_lt (nw_Wd v))
  have e := wv_nw v
  by_cases hz : v = 0
  · have := nleft_zero A0 (nw v).length c0 (nw v) rfl n (by omega) w hr0 hc0 (nw_Wd v) (by omega) (by rw [e]; exact hz)
    rw [hz, Nat.zero_mul]
    rwa [hz] at this
  · have := nleft_calls A0 (nw v).length c0 (nw v) rfl n w hr0 hc0 (nw_Wd v) (by omega) (by rw [e]; exact hz) (by omega)
    rwa [e] at this
theorem nadd_nw (A0 : Option Addr) (c0 u : Nat) (A1 : Option Addr) (c1 v : Nat) (w : World) (hr0 : Kd.C (Kd.int .u64) w A0 (nw u).length (nw u)) (hr1 : Kd.C (Kd.int .u64) w A1 (nw v).length (nw v)) (hl0 : (nw u).length ≤ 100000) (hl1 : (nw v).length ≤ 100000) (x : Nat) (hx : u + v = x) :
    Calls Try.prog 28 #[.slice A0 (nw u).length c0, .slice A1 (nw v).length c1] w (Res w x) := by
  have := nadd_calls A0 c0 (nw u) A1 c1 (nw v) w hr0 hr1 (nw_Wd u) (nw_Wd v) hl0 hl1
  rwa [wv_nw, wv_nw, hx] at this
theorem nmul_nw (A0 : Option Addr) (c0 u : Nat) (A1 : Option Addr) (c1 v : Nat) (w : World) (hr0 : Kd.C (Kd.int .u64) w A0 (nw u).length (nw u)) (hr1 : Kd.C (Kd.int .u64) w A1 (nw v).length (nw v)) (hl0 : (nw u).length ≤ 100000) (hl1 : (nw v).length ≤ 100000) (x : Nat) (hx : u * v = x) :
    Calls Try.prog 36 #[.slice A0 (nw u).length c0, .slice A1 (nw v).length c1] w (Res w x) := by
  have := nmul_calls A0 c0 (nw u) A1 c1 (nw v) w hr0 hr1 (nw_Wd u) (nw_Wd v) hl0 hl1
  rwa [wv_nw, wv_nw, hx] at this
theorem ncmp_nw (A0 : Option Addr) (c0 u : Nat) (A1 : Option Addr) (c1 v : Nat) (w : World) (hr0 : Kd.C (Kd.int .u64) w A0 (nw u).length (nw u)) (hr1 : Kd.C (Kd.int .u64) w A1 (nw v).length (nw v)) (hl0 : (nw u).length ≤ 100000) (hl1 : (nw v).length ≤ 100000) :
    Calls Try.prog 30 #[.slice A0 (nw u).length c0, .slice A1 (nw v).length c1] w fun e w' => e = .returned (.int .i64 (cmp u v)) ∧ w = w' := by
  have := ncmp_calls A0 c0 (nw u) A1 c1 (nw v) w hr0 hr1 (nw_Wd u) (nw_Wd v) hl0 hl1
  rwa [wv_nw, wv_nw] at this
theorem npower_may (x : Int) (n : Nat) (hx : 0 ≤ x ∧ x ≤ 1048576) (hn : n ≤ 4096) (W : World) : Calls Try.prog 21 #[.int .u64 x, .int .i64 n] W (Res2 W (x.toNat ^ n) 0) :=
  npower_calls x n (by omega) (by
    by_cases h2 : x < 2
    · exact .inl h2
    · refine .inr ?_
      have h3 : bl x.toNat ≤ 21 := (bl_le _ _).2 (by omega)
      have h4 : 1 ≤ bl x.toNat := by rw [bl_pos (by omega)]; omega
      generalize bl x.toNat = b at *
      have : (12483 : Int) ≤ 262144 / (b : Int) := by rw [Int.le_ediv_iff_mul_le (by omega)]; omega
      omega) W
theorem scope_in {P : Program} {n : Nat} {c : Code} {Q : Exit → Act → World → Prop} {a : Act} {w : World} (h : c.wpIn Fence.wide n P (Exit.noGoto Q) a w) : (Code.scope c).wpIn Fence.wide n P Q a w :=
  wpIn_wide.2 (wp_scope_straight (wpIn_wide.1 h))
theorem BK.below {B : Nat} {X X' : World} (hb : Below X.heap.size X X') : BK B X X' := ⟨fun A l c => Kd.C_below c hb, fun o v c => pw_cell_below hb c⟩
theorem BK.set {B : Nat} {X : World} {p : Addr} {v : Value} (hp : X.cell? p = some v) (hv : ∀ x, v ≠ .int .u64 x) (hB : p.block ≠ B) (u : Value) : BK B X (X.setCell p u) :=
  ⟨fun A l c => C_set c hp hv u, fun o x c => by rw [World.cell?_setCell_far _ _ _ _ (by simpa using hB)]; exact c⟩
theorem set_far {X : World} {p a : Addr} {v u : Value} (hc : X.cell? a = some v) (hne : p.block ≠ a.block) : (X.setCell p u).cell? a = some v := by
  rw [World.cell?_setCell_far _ _ _ _ hne]; exact hc
theorem set_same {X : World} {p : Addr} {v u : Value} (hc : X.cell? p = some v) : (X.setCell p u).cell? p = some u := World.cell?_setCell_same' _ _ _ (by simp [hc])
theorem set_same' {X Y : World} {p : Addr} {v u : Value} (e : X.setCell p u = Y) (hc : X.cell? p = some v) : Y.cell? p = some u := e ▸ set_same hc
theorem set_far' {X Y : World} {p a : Addr} {v u : Value} (e : X.setCell p u = Y) (hc : X.cell? a = some v) (hne : p.block ≠ a.block) : Y.cell? a = some v := e ▸ set_far hc hne
theorem set_fro' {X Y : World} {p a : Addr} {b : Bool} {u : Value} (e : X.setCell p u = Y) (hf : X.frozen? a = b) : Y.frozen? a = b := by rw [← e, World.frozen?_setCell]; exact hf
theorem C_set' {k : IntKind} {X Y : World} {p : Addr} {v u : Value} (e : X.setCell p u = Y) {A : Option Addr} {l : List Int} (h : Kd.C (Kd.int k) X A l.length l) (hp : X.cell? p = some v) (hv : ∀ x, v ≠ .int k x) : Kd.C (Kd.int k) Y A l.length l := e ▸ C_set h hp hv u
theorem below_set' {X Y W : World} {B : Nat} {p : Addr} {u : Value} (e : X.setCell p u = Y) (h : Below B W X) (hB : B ≤ p.block) : Below B W Y := e ▸ h.setCell hB u
theorem keeps_set' {X Y W : World} {p : Addr} {u : Value} (e : X.setCell p u = Y) (h : KeepsOthers W X) : KeepsOthers W Y := e ▸ h.trans (KeepsOthers.setCell _ _ _)
theorem BK.set' {B : Nat} {X Y W : World} {p : Addr} {v u : Value} (e : X.setCell p u = Y) (h : BK B W X) (hp : X.cell? p = some v) (hv : ∀ x, v ≠ .int .u64 x) (hB : p.block ≠ B) : BK B W Y := e ▸ h.trans (BK.set hp hv hB u)
theorem keeps_below {X X' : World} (hb : Below X.heap.size X X') : KeepsOthers X X' := ⟨hb.size, fun k o hk _ => (hb.block k (Array.getElem?_eq_some_iff.1 hk).1).trans hk⟩
set_option maxHeartbeats 3200000 in
set_option maxRecDepth 100000 in
theorem bdraw_no (A0 : Option Addr) (n0 c0 : Nat) (w T U : Int) (W : World) (hn : (n0 : Int) ≤ 9223372036854775807) (h : n0 = 0 ∨ 64 < n0 ∨ mayB w T U = false) : Calls Try.prog 40 #[.slice A0 n0 c0, .int .i64 w, .int .i64 T, .int .i64 U] W (Tells (.tuple #[.int .i64 0, .int .i64 2]) W) := by
  have HM : ∀ W, Calls Try.prog 57 #[.agg #[.int .i64 w, .int .i64 T, .int .i64 U]] W (Tells (.bool (mayB w T U)) W) := bmay_calls w T U
  by_cases h0 : n0 = 0
  · subst h0
    clear h
    have HM2 := Aside0.mk HM
    clear HM
    go_enter Try.func40, Try.ntmps40
    go_wp2
    go_step3
    go_wp2
    try rw [Exit.noGoto_ret]
    go_ret2
    exact ⟨rfl, below_alloc (below_alloc (Below.refl _ _) _) _⟩
  · have e0 : (((n0 : Nat) : Int) == 0) = false := by simp; omega
    by_cases h1 : 64 < n0
    · clear h HM
      go_enter Try.func40, Try.ntmps40
      go_wp2
      go_step3
      go_wp2
      try rw [Exit.noGoto_ret]
      go_ret2
      exact ⟨rfl, below_alloc (below_alloc (Below.refl _ _) _) _⟩
    · have hm : mayB w T U = false := by rcases h with h | h | h <;> first | omega | exact h
      rw [hm] at HM
      have HM2 := Aside0.mk HM
      clear HM h
      go_enter Try.func40, Try.ntmps40
      go_wp2
      go_step3
      go_wp2_with (first
        | (go_at_call 57; (with_reducible refine (HM2.out _).mono ?_); rintro e w1 ⟨rfl, hb1⟩; have HB1 := Aside0.mk hb1; clear hb1)
        | fail)
      try rw [Exit.noGoto_ret]
      go_ret2
      exact ⟨rfl, below_step (below_alloc (below_alloc (Below.refl _ _) _) _) HB1.out⟩
/-- The two variables that a round may read: the bytes, the coins. -/
def DB (W X : World) (v : Value) (w T U : Int) : Prop := X.cell? ⟨W.heap.size, 0, none⟩ = some v ∧ X.cell? ⟨W.heap.size + 1, 0, none⟩ = some (.int .i64 w) ∧ X.cell? ⟨W.heap.size + 1, 1, none⟩ = some (.int .i64 T) ∧ X.cell? ⟨W.heap.size + 1, 2, none⟩ = some (.int .i64 U)
theorem DB.below {W X Y : World} {v : Value} {w T U : Int} (h : DB W X v w T U) (hb : Below X.heap.size X Y) : DB W Y v w T U :=
  ⟨pw_cell_below hb h.1, pw_cell_below hb h.2.1, pw_cell_below hb h.2.2.1, pw_cell_below hb h.2.2.2⟩
theorem DB.new (W : World) (v : Value) (w T U : Int) : DB W ((W.alloc (.cells #[v] 22)).alloc (.cells #[.int .i64 w, .int .i64 T, .int .i64 U] 81)) v w T U :=
  ⟨by go_simp, by go_simp, by go_simp, by go_simp⟩
theorem box3 (w : World) (v : Value) : ∃ X, ((w.alloc (.cells #[v] 23)).alloc (.cells #[.slice none 0 0] 23)).alloc (.cells #[.int .i64 0] 3) = X ∧ X.heap.size = w.heap.size + 3 ∧ Below w.heap.size w X ∧
    X.cell? ⟨w.heap.size, 0, none⟩ = some v ∧ X.cell? ⟨w.heap.size + 1, 0, none⟩ = some (.slice none 0 0) ∧ X.cell? ⟨w.heap.size + 1 + 1, 0, none⟩ = some (.int .i64 0) ∧
    X.frozen? ⟨w.heap.size + 1, 0, none⟩ = false ∧ X.frozen? ⟨w.heap.size + 1 + 1, 0, none⟩ = false :=
  ⟨_, rfl, by simp, below_alloc (below_alloc (below_alloc (Below.refl _ _) _) _) _, by go_simp, by go_simp, by go_simp, by go_simp, by go_simp⟩
/-- Between two rounds. -/
def DI (W : World) (b : Nat) (v : Value) (w : Nat) (T U : Int) (A4 : Option Addr) (d4 u L : Nat) (pre : List El) (X : World) : Prop :=
  ∃ As cs, X.cell? ⟨b + 1, 0, none⟩ = some (.slice As (nw (sm w U.toNat (T - U).toNat pre.length)).length cs) ∧ (nw (sm w U.toNat (T - U).toNat pre.length)).length ≤ cs ∧
    Kd.C (Kd.int .u64) X As (nw (sm w U.toNat (T - U).toNat pre.length)).length (nw (sm w U.toNat (T - U).toNat pre.length)) ∧
    X.cell? ⟨W.heap.size, 0, none⟩ = some v ∧ X.cell? ⟨b, 0, none⟩ = some (.slice A4 (nw u).length d4) ∧ Kd.C (Kd.int .u64) X A4 (nw u).length (nw u) ∧
    X.cell? ⟨b + 1 + 1, 0, none⟩ = some (.int .i64 ((pre.length - 1 : Nat) : Int)) ∧ X.frozen? ⟨b + 1, 0, none⟩ = false ∧ X.frozen? ⟨b + 1 + 1, 0, none⟩ = false ∧
    pre.length ≤ w + 1 ∧ (∀ i, i < pre.length → sm w U.toNat (T - U).toNat (i + 1) * 2 ^ L ≤ u) ∧ Below W.heap.size W X
theorem DI.own {W : World} {b : Nat} {v : Value} {w : Nat} {T U : Int} {A4 : Option Addr} {d4 u L B : Nat} (hB : W.heap.size ≤ B) : OwnFrom B (DI W b v w T U A4 d4 u L) := by
  rintro s X Y row ⟨As, cs, h1, h2, h3, h4, h5, h6, h7, h8, h9, h10, h11, h12⟩ hg hr
  have hr' : ∀ r, row = some r → ∃ o : Obj, X.heap[r]? = some o ∧ o.isCells = false := fun r e => (hr r e).2
  exact ⟨As, cs, cell_kept h1 hg hr', h2, C_row h3 hg hr', cell_kept h4 hg hr', cell_kept h5 hg hr', C_row h6 hg hr', cell_kept h7 hg hr', (frozen_kept h1 hg hr').trans h8, (frozen_kept h7 hg hr').trans h9, h10, h11, h12.grown hg h12.size (fun k e => by have := (hr k e).1; omega)⟩
/-- Behind a break. -/
def DX (W : World) (b w : Nat) (T U : Int) (u L : Nat) (c : Code) (pre : List El) (X : World) : Prop :=
  c = .exit 0 ∧ ∃ j : Nat, X.cell? ⟨b + 1 + 1, 0, none⟩ = some (.int .i64 (j : Int)) ∧ Drawn u L w U.toNat (T - U).toNat j ∧ Below W.heap.size W X
theorem DX.own {W : World} {b w : Nat} {T U : Int} {u L B : Nat} (hB : W.heap.size ≤ B) (c : Code) : OwnFrom B (DX W b w T U u L c) := by
  rintro s X Y row ⟨h0, j, h1, h2, h3⟩ hg hr
  have hr' : ∀ r, row = some r → ∃ o : Obj, X.heap[r]? = some o ∧ o.isCells = false := fun r e => (hr r e).2
  exact ⟨h0, j, cell_kept h1 hg hr', h2, h3.grown hg h3.size (fun k e => by have := (hr k e).1; omega)⟩
attribute [local go_sem] Oper.semAt_some
set_option maxHeartbeats 6400000 in
set_option maxRecDepth 100000 in
theorem bdraw_yes (A0 : Option Addr) (n0 c0 : Nat) (l0 : List Int) (hn0 : l0.length = n0) (w : Nat) (T U : Int) (W : World) (hr0 : Kd.C (Kd.int .u8) W A0 l0.length l0) (hby : By l0) (h1 : 1 ≤ n0) (h64 : n0 ≤ 64) (h : mayB w T U = true) :
    Calls Try.prog 40 #[.slice A0 n0 c0, .int .i64 w, .int .i64 T, .int .i64 U] W fun e w' => ∃ j : Nat, e = .returned (.tuple #[.int .i64 j, .int .i64 0]) ∧ Drawn (bv l0 * T.toNat ^ w) (8 * n0) w U.toNat (T - U).toNat j ∧ Below W.heap.size W w' := by
  have HM : ∀ W, Calls Try.prog 57 #[.agg #[.int .i64 w, .int .i64 T, .int .i64 U]] W (Tells (.bool (mayB w T U)) W) := bmay_calls w T U
  rw [h] at HM
  have HM2 := Aside0.mk HM
  have HT : Aside0 (∀ W, Calls Try.prog 58 #[.agg #[.int .i64 w, .int .i64 T, .int .i64 U]] W fun e w' => e = .returned (.func (.func 64) #[] #[.pointer (some ⟨W.heap.size, 0, none⟩)]) ∧ W.alloc (.cells #[.int .i64 w, .int .i64 T, .int .i64 U] 81) = w') := ⟨bterms_calls w T U⟩
  clear HM
  have hm : 1 ≤ T ∧ T ≤ 1048576 ∧ 1 ≤ U ∧ U ≤ T ∧ (w : Int) ≤ 4096 := by
    have := of_decide_eq_true h; omega
  have HMM := Aside0.mk hm
  have hw4 : w ≤ 4096 := by omega
  have hT1 : 0 ≤ T ∧ T ≤ 1048576 := by omega
  have HPW := Aside0.mk (npower_may T w hT1 (by omega))
  clear h hm
  have HN0 := Aside0.mk hn0
  have HR0 := Aside0.mk hr0
  have HBY := Aside0.mk hby
  clear hn0 hr0 hby
  have e0 : (((n0 : Nat) : Int) == 0) = false := by simp; omega
  have e64 : decide ((64 : Int) < (n0 : Int)) = false := decide_eq_false (by omega)
  obtain ⟨L, hL⟩ : ∃ L, L = 8 * n0 := ⟨_, rfl⟩
  have HL := Aside0.mk hL
  have hu1 : bv l0 < 2 ^ L := by
    have := bv_lt l0 HBY.out l0.length (Nat.le_refl _)
    rw [List.take_length, HN0.out] at this
    rwa [hL]
  have hu2 : T.toNat ^ w < 2 ^ (20 * w + 1) := by have := all_lt T.toNat 0 w (by omega); simpa using this
  have hl3 : (nw (bv l0)).length ≤ 100000 := nw_len_le hu1 (by omega)
  have hl2 : (nw (T.toNat ^ w)).length ≤ 100000 := nw_len_le hu2 (by omega)
  have hl4 : (nw (bv l0 * T.toNat ^ w)).length ≤ 100000 := nw_len_le (mul_lt_pow hu1 hu2) (by omega)
  have HU1 := Aside0.mk hu1
  clear hu1 hu2 hL
  refine (callsIn_wide (n := 9)).1 ?_
  refine callsIn_of_wp_marks Try.func40 rfl trivial ?_ rfl
  simp only [Try.ntmps40, List.size_toArray, List.length_cons, List.length_nil, Nat.reduceAdd, Nat.reduceSub, Array.replicate_succ, Array.replicate_zero, List.push_toArray, List.append_toArray, List.nil_append, List.cons_append]
  gi_wp2
  refine scope_in ?_
  gi_wp2_with (first
    | (refine ⟨trivial, ?_⟩; gi_at_call 57; (with_reducible refine (callsIn_wide.2 (HM2.out _)).mono ?_); rintro e w1 ⟨rfl, hb1⟩; have hz1 := hb1.size; have HB1 := Aside0.mk hb1; have HR1 := Aside0.mk (Kd.C_below (Kd.C_alloc (Kd.C_alloc HR0.out _) _) hb1); have D1 := Aside0.mk ((DB.new W _ _ _ _).below hb1); obtain ⟨q0, q1, q2, q3⟩ := D1.out; clear hb1)
    | (refine ⟨trivial, ?_⟩; gi_at_call 21; (with_reducible refine (callsIn_wide.2 (HPW.out _)).mono ?_); rintro e w2 ⟨A2, d2, rfl, h2, h3, h4⟩; have HP2 := Aside0.mk h3; have hz2 := h4.size; have HB2 := Aside0.mk h4; have HR2 := Aside0.mk (Kd.C_below HR1.out h4); have D2 := Aside0.mk (D1.out.below h4); clear q0 q1 q2 q3; obtain ⟨q0, q1, q2, q3⟩ := D2.out; clear h3 h4)
    | (refine ⟨trivial, ?_⟩; gi_at_call 13; (with_reducible refine (callsIn_wide.2 (nof_calls A0 n0 c0 l0 HN0.out w2 HR2.out HBY.out (by omega))).mono ?_); rintro e w3 ⟨A3, d3, rfl, h5, h6, h7⟩; have HP3 := Aside0.mk h6; have hz3 := h7.size; have HB3 := Aside0.mk h7; have HP2a := Aside0.mk (Kd.C_below HP2.out h7); have D3 := Aside0.mk (D2.out.below h7); clear q0 q1 q2 q3; obtain ⟨q0, q1, q2, q3⟩ := D3.out; clear h6 h7)
    | (refine ⟨trivial, ?_⟩; gi_at_call 36; (with_reducible refine (callsIn_wide.2 (nmul_nw A3 d3 (bv l0) A2 d2 (T.toNat ^ w) w3 HP3.out HP2a.out hl3 hl2 _ rfl)).mono ?_); rintro e w4 ⟨A4, d4, rfl, h8, h9, h10⟩; have HP4 := Aside0.mk h9; have hz4 := h10.size; have HB4 := Aside0.mk h10; have D4 := Aside0.mk (D3.out.below h10); clear q0 q1 q2 q3; obtain ⟨q0, q1, q2, q3⟩ := D4.out; clear h9 h10)
    | (refine ⟨trivial, ?_⟩; gi_at_call 58; (with_reducible refine (callsIn_wide.2 (HT.out _)).mono ?_); rintro e w5 ⟨rfl, hw5⟩; have HW5 := Aside0.mk hw5; clear hw5)
    | fail)
  refine wpIn_label ?_
  obtain ⟨W5, hW5, hs5, hb45, q4, q5, q6, f5, f6⟩ := box3 w4 (.slice A4 (nw (bv l0 * T.toNat ^ w)).length d4)
  have D5 := Aside0.mk (D4.out.below hb45)
  clear q0 q1 q2 q3
  obtain ⟨q0, q1, q2, q3⟩ := D5.out
  have HP5 := Aside0.mk (Kd.C_below HP4.out hb45)
  have hz : W.heap.size + 2 ≤ w4.heap.size := by simp at hz1; omega
  have hB4 : Below W.heap.size W w4 := below_step (below_step (below_step (below_step (below_alloc (below_alloc (Below.refl _ _) _) _) HB1.out) HB2.out) HB3.out) HB4.out
  have HB5 := Aside0.mk (below_step hB4 hb45)
  rw [hW5]
  clear hW5 hB4 hb45
  gi_wp2_with (first
    | (refine ⟨trivial, ?_⟩; gi_at_call 58; (with_reducible refine (callsIn_wide.2 (HT.out _)).mono ?_); rintro e w5 ⟨rfl, rfl⟩)
    | fail)
  obtain ⟨W6, hW6⟩ : ∃ W6, W5.alloc (.cells #[.int .i64 w, .int .i64 T, .int .i64 U] 81) = W6 := ⟨_, rfl⟩
  have hs6 : W6.heap.size = w4.heap.size + 4 := by rw [← hW6]; simp; omega
  have hb56 : Below W5.heap.size W5 W6 := by rw [← hW6]; exact below_alloc (Below.refl _ _) _
  have hco : Coins (w4.heap.size + 3) w T U W6 := by rw [← hs5, ← hW6]; exact ⟨by simp, by simp, by simp⟩
  have hI0 : DI W w4.heap.size (.slice A0 n0 c0) w T U A4 d4 (bv l0 * T.toNat ^ w) L [] W6 := by
    refine ⟨none, 0, ?_, ?_, ?_, pw_cell_below hb56 q0, pw_cell_below hb56 q4, Kd.C_below HP5.out hb56, pw_cell_below hb56 q6, (hb56.frozen (by simp; omega)).trans f5, (hb56.frozen (by simp; omega)).trans f6, Nat.zero_le _, fun i h => by simp at h, below_step HB5.out hb56⟩
    · rw [List.length_nil, sm, nw_zero]; exact pw_cell_below hb56 q5
    · rw [List.length_nil, sm, nw_zero]; simp
    · rw [List.length_nil, sm, nw_zero]; exact Kd.C_nil _ _
  rw [hW6]
  have hm := HMM.out
  have hsq := terms_seq (9 - 1) w T U hw4 hm.2.2.1 hm.2.2.2.1 hm.2.1 (w4.heap.size + 3) W6 hco (by omega)
  clear hm hW6 q0 q1 q2 q3 q4 q5 q6 f5 f6 hb56
  refine range_law rfl (by omega) (gf := 64) (lb := #[.pointer (some ⟨w4.heap.size + 3, 0, none⟩)]) rfl trivial (enters_of Try.func64 (by kernel_rfl) rfl) hsq
    (fun h k => BK.trans h k) (fun W l o o' _ hl ho _ => BK.putObj W l o o' hl ho) BZ.putObj (Below.refl _ _) (fun _ => rfl)
    (DI W w4.heap.size (.slice A0 n0 c0) w T U A4 d4 (bv l0 * T.toNat ^ w) L) (DX W w4.heap.size w T U (bv l0 * T.toNat ^ w) L)
    (DI.own (by omega)) (DX.own (by omega)) hI0
    (fun x => { tmps := #[.slice A0 n0 c0, .int .i64 w, .int .i64 T, .int .i64 U, .pointer (some ⟨W.heap.size, 0, none⟩), undef, undef, undef, .int .i64 0, .int .i64 0, .pointer (some ⟨W.heap.size + 1, 0, none⟩), .slice A2 (nw (T.toNat ^ w)).length d2, .int .i64 0, .pointer (some ⟨w4.heap.size, 0, none⟩), .pointer (some ⟨w4.heap.size + 1, 0, none⟩), .pointer (some ⟨w4.heap.size + 1 + 1, 0, none⟩), .int .i64 (x.1 : Int), .slice x.2.1 (nw (tm w x.1 U.toNat (T - U).toNat)).length x.2.2, undef, undef, .int .i64 w, .int .i64 T, .int .i64 U, .agg #[.int .i64 w, .int .i64 T, .int .i64 U], .slice A0 n0 c0, .int .i64 n0, .bool false, .bool false, .slice A0 n0 c0, .int .i64 n0, .bool false, .bool false, .bool false, .agg #[.int .i64 w, .int .i64 T, .int .i64 U], .bool true, .bool false, .bool false, .tuple #[.slice A2 (nw (T.toNat ^ w)).length d2, .int .i64 0], .int .i64 T, .int .u64 T, .int .i64 w, .tuple #[.slice A2 (nw (T.toNat ^ w)).length d2, .int .i64 0], .slice A2 (nw (T.toNat ^ w)).length d2, .int .i64 0, .slice A0 n0 c0, .slice A3 (nw (bv l0)).length d3, .slice A2 (nw (T.toNat ^ w)).length d2, .slice A4 (nw (bv l0 * T.toNat ^ w)).length d4, .agg #[.int .i64 w, .int .i64 T, .int .i64 U], .func (.func 64) #[] #[.pointer (some ⟨w4.heap.size + 3, 0, none⟩)], .int .i64 (x.1 : Int), .slice x.2.1 (nw (tm w x.1 U.toNat (T - U).toNat)).length x.2.2, undef, undef, undef, undef, undef, undef, undef, undef, undef, undef, undef, undef, undef, undef, undef, undef, undef], defers := [] }) ?assign ?body ?done ?stop
  case assign =>
    intro l x X K hK
    dsimp only [bencs]
    gi_wp2
    exact hK
  case body =>
    rintro l pre ⟨i, A, d⟩ X ⟨As, cs, h1, h2, h3, h4, h5, h6, h7, h8, h9, h10, h11, h12⟩ ⟨hx1, hx2, hx3, hx4⟩
    dsimp only at hx1 hx2 hx3 hx4 ⊢
    have hm := HMM.out
    rw [← hx1] at h1 h2 h3
    have ll1 : (nw (sm w U.toNat (T - U).toNat i)).length ≤ 1400 := nw_len_le (Nat.lt_of_le_of_lt (sm_le w U.toNat (T - U).toNat i (by omega)) (all_lt U.toNat (T - U).toNat w (by omega))) (by omega)
    have ll2 : (nw (sm w U.toNat (T - U).toNat (i + 1))).length ≤ 1400 := nw_len_le (Nat.lt_of_le_of_lt (sm_le w U.toNat (T - U).toNat (i + 1) (by omega)) (all_lt U.toNat (T - U).toNat w (by omega))) (by omega)
    have ll3 : (nw (tm w i U.toNat (T - U).toNat)).length ≤ 1400 := Nat.le_trans (tm_len w i U.toNat (T - U).toNat hw4 (by omega)) (by omega)
    have ll4 : (nw (sm w U.toNat (T - U).toNat (i + 1) * 2 ^ L)).length ≤ 100000 := nw_len_le (k := (20 * w + 1) + (L + 1)) (by
      rw [Nat.pow_add]
      exact Nat.mul_lt_mul_of_lt_of_lt (Nat.lt_of_le_of_lt (sm_le w U.toNat (T - U).toNat (i + 1) (by omega)) (all_lt U.toNat (T - U).toNat w (by omega))) (Nat.pow_lt_pow_right (by omega) (by omega))) (by have := HL.out; omega)
    clear hm
    -- the world behind 'j = k'
    obtain ⟨X1, hX1⟩ : ∃ X1, X.setCell ⟨w4.heap.size + 1 + 1, 0, none⟩ (.int .i64 (i : Int)) = X1 := ⟨_, rfl⟩
    have a1 : X1.cell? ⟨w4.heap.size + 1, 0, none⟩ = some (.slice As (nw (sm w U.toNat (T - U).toNat i)).length cs) := by rw [← hX1, World.cell?_setCell_far _ _ _ _ (by simp <;> omega)]; exact h1
    have a2 : X1.cell? ⟨W.heap.size, 0, none⟩ = some (.slice A0 n0 c0) := by rw [← hX1, World.cell?_setCell_far _ _ _ _ (by simp <;> omega)]; exact h4
    have a3 : X1.cell? ⟨w4.heap.size, 0, none⟩ = some (.slice A4 (nw (bv l0 * T.toNat ^ w)).length d4) := by rw [← hX1, World.cell?_setCell_far _ _ _ _ (by simp <;> omega)]; exact h5
    have a4 : X1.cell? ⟨w4.heap.size + 1 + 1, 0, none⟩ = some (.int .i64 (i : Int)) := by rw [← hX1]; exact set_same h7
    have a5 : X1.frozen? ⟨w4.heap.size + 1, 0, none⟩ = false := by rw [← hX1, World.frozen?_setCell]; exact h8
    have a6 : X1.frozen? ⟨w4.heap.size + 1 + 1, 0, none⟩ = false := by rw [← hX1, World.frozen?_setCell]; exact h9
    have cS1 : Kd.C (Kd.int .u64) X1 As (nw (sm w U.toNat (T - U).toNat i)).length (nw (sm w U.toNat (T - U).toNat i)) := by rw [← hX1]; exact C_set h3 h7 (by simp) _
    have cT1 : Kd.C (Kd.int .u64) X1 A (nw (tm w i U.toNat (T - U).toNat)).length (nw (tm w i U.toNat (T - U).toNat)) := by rw [← hX1]; exact C_set hx4 h7 (by simp) _
    have cW1 : Kd.C (Kd.int .u64) X1 A4 (nw (bv l0 * T.toNat ^ w)).length (nw (bv l0 * T.toNat ^ w)) := by rw [← hX1]; exact C_set h6 h7 (by simp) _
    have hB1 : Below W.heap.size W X1 := by rw [← hX1]; exact h12.setCell (by simp; omega) _
    have hK1 : KeepsOthers X X1 := by rw [← hX1]; exact KeepsOthers.setCell _ _ _
    have hBK1 : BK (w4.heap.size + 3) X X1 := by rw [← hX1]; exact BK.set h7 (by simp) (by simp) _
    have hlt1 : w4.heap.size + 1 < X1.heap.size := World.block_lt_of_cell? _ _ a1
    have HADD := Aside0.mk (nadd_nw As cs (sm w U.toNat (T - U).toNat i) A d (tm w i U.toNat (T - U).toNat) X1 cS1 cT1 (by omega) (by omega) (sm w U.toNat (T - U).toNat (i + 1)) rfl)
    have HC1 := Aside0.mk cW1
    have HBX1 := Aside0.mk hB1
    have HK1 := Aside0.mk hK1
    have HBK1 := Aside0.mk hBK1
    have HX1 := Aside0.mk hx1
    have H11 := Aside0.mk h11
    have b7 := h7
    have b9 := h9
    have hn1 : w4.heap.size + 1 ≠ W.heap.size := by omega
    have hn2 : w4.heap.size + 1 ≠ w4.heap.size := by omega
    have hn3 : w4.heap.size + 1 ≠ w4.heap.size + 1 + 1 := by omega
    have hLn : (8 : Int) * (n0 : Int) = (L : Int) := by have := HL.out; omega
    have hn5 : w4.heap.size + 1 ≠ w4.heap.size + 3 := by omega
    have hn4 : W.heap.size ≤ w4.heap.size + 1 := by omega
    clear cS1 cT1 cW1 hB1 hK1 hBK1 h1 h3 h4 h5 h6 h7 h8 h9 hx4 h11 h12 hx1
    gi_wp2_with (first
      | (refine ⟨trivial, ?_⟩; gi_at_call 28; (with_reducible refine (CallsIn.inRound l (callsIn_wide.2 (HADD.out))).mono ?_); rintro e w7 ⟨A7, c7, rfl, p1, p2, p3⟩; have b1 := pw_cell_below p3 a1; have b2 := pw_cell_below p3 a2; have b3 := pw_cell_below p3 a3; have b4 := pw_cell_below p3 a4; have b5 := (p3.frozen (p := ⟨w4.heap.size + 1, 0, none⟩) hlt1).trans a5; have b6 := (p3.frozen (p := ⟨w4.heap.size + 1 + 1, 0, none⟩) (World.block_lt_of_cell? _ _ a4)).trans a6; obtain ⟨X8, hX8⟩ : ∃ X8, w7.setCell ⟨w4.heap.size + 1, 0, none⟩ (.slice A7 (nw (sm w U.toNat (T - U).toNat (i + 1))).length c7) = X8 := ⟨_, rfl⟩; have e1 : X8.cell? ⟨w4.heap.size + 1, 0, none⟩ = some (.slice A7 (nw (sm w U.toNat (T - U).toNat (i + 1))).length c7) := set_same' hX8 b1; have e2 : X8.cell? ⟨W.heap.size, 0, none⟩ = some (.slice A0 n0 c0) := set_far' hX8 b2 hn1; have e3 : X8.cell? ⟨w4.heap.size, 0, none⟩ = some (.slice A4 (nw (bv l0 * T.toNat ^ w)).length d4) := set_far' hX8 b3 hn2; have e4 : X8.cell? ⟨w4.heap.size + 1 + 1, 0, none⟩ = some (.int .i64 (i : Int)) := set_far' hX8 b4 hn3; have e5 : X8.frozen? ⟨w4.heap.size + 1, 0, none⟩ = false := set_fro' hX8 b5; have e6 : X8.frozen? ⟨w4.heap.size + 1 + 1, 0, none⟩ = false := set_fro' hX8 b6; have HC8 := Aside0.mk (show Kd.C (Kd.int .u64) X8 A7 (nw (sm w U.toNat (T - U).toNat (i + 1))).length (nw (sm w U.toNat (T - U).toNat (i + 1))) from C_set' hX8 p2 b1 (fun x hx => by cases hx)); have HW8 := Aside0.mk (show Kd.C (Kd.int .u64) X8 A4 (nw (bv l0 * T.toNat ^ w)).length (nw (bv l0 * T.toNat ^ w)) from C_set' hX8 (Kd.C_below HC1.out p3) b1 (fun x hx => by cases hx)); have HBX8 := Aside0.mk (show Below W.heap.size W X8 from below_set' hX8 (below_step HBX1.out p3) hn4); have HK8 := Aside0.mk (show KeepsOthers X X8 from keeps_set' hX8 (HK1.out.trans (keeps_below p3))); have HBK8 := Aside0.mk (show BK (w4.heap.size + 3) X X8 from BK.set' hX8 (HBK1.out.trans (BK.below p3)) b1 (fun x hx => by cases hx) hn5); have HLEFT := Aside0.mk (nleft_nw A7 c7 (sm w U.toNat (T - U).toNat (i + 1)) L (by have := HL.out; omega) X8 HC8.out p1 ll2); have hlt8 : w4.heap.size + 1 < X8.heap.size := World.block_lt_of_cell? _ _ e1; clear p3 a1 a2 a3 a4 a5 a6 b2 b3 b4 b6 hX1)
      | (refine ⟨trivial, ?_⟩; gi_at_call 20; (with_reducible refine (CallsIn.inRound l (callsIn_wide.2 (HLEFT.out))).mono ?_); rintro e w9 ⟨A9, c9, rfl, r1, r2, r3⟩; have g1 := pw_cell_below r3 e1; have g2 := pw_cell_below r3 e2; have g3 := pw_cell_below r3 e3; have g4' := e4; have g4 := pw_cell_below r3 e4; have HCMP := Aside0.mk (ncmp_nw A4 d4 (bv l0 * T.toNat ^ w) A9 c9 (sm w U.toNat (T - U).toNat (i + 1) * 2 ^ L) w9 (Kd.C_below HW8.out r3) r2 hl4 ll4); have HR9 := Aside0.mk r3; clear r2 r3 e1 e2 e3)
      | (refine ⟨trivial, ?_⟩; gi_at_call 30; (with_reducible refine (CallsIn.inRound l (callsIn_wide.2 (HCMP.out))).mono ?_); rintro e w10 ⟨rfl, rfl⟩; skip)
      | fail)
    · have hc : cmp (bv l0 * T.toNat ^ w) (sm w U.toNat (T - U).toNat (i + 1) * 2 ^ L) < 0 := by assumption
      exact ⟨(HK8.out.trans (keeps_below HR9.out)).from _, rfl, i, g4, ⟨hx2, fun k hk => H11.out k (by have := HX1.out; omega), cmp_neg.1 hc⟩, below_step HBX8.out HR9.out⟩
    · have hc : 0 ≤ cmp (bv l0 * T.toNat ^ w) (sm w U.toNat (T - U).toNat (i + 1) * 2 ^ L) := by assumption
      have hu : sm w U.toNat (T - U).toNat (i + 1) * 2 ^ L ≤ bv l0 * T.toNat ^ w := Nat.le_of_not_lt fun h => by have := cmp_neg.2 h; omega
      have hl : (pre ++ [((i, A, d) : El)]).length = i + 1 := by have := HX1.out; simp; omega
      refine ⟨(HK8.out.trans (keeps_below HR9.out)).from _, HBK8.out.trans (BK.below HR9.out), ?_⟩
      unfold DI
      rw [hl]
      exact ⟨A7, c7, g1, p1, Kd.C_below HC8.out HR9.out, g2, g3, Kd.C_below HW8.out HR9.out, g4, (HR9.out.frozen (p := ⟨w4.heap.size + 1, 0, none⟩) hlt8).trans e5, (HR9.out.frozen (p := ⟨w4.heap.size + 1 + 1, 0, none⟩) (World.block_lt_of_cell? _ _ g4' )).trans e6, by omega, fun k hk => by
        by_cases e : k = i
        · subst e; exact hu
        · exact H11.out k (by have := HX1.out; omega), below_step HBX8.out HR9.out⟩
  case done =>
    rintro D ys X hD hys ⟨As, cs, h1, h2, h3, h4, h5, h6, h7, h8, h9, h10, h11, h12⟩ hK
    exfalso
    have hm := HMM.out
    have h := h11 w (by omega)
    rw [sm_all, show U.toNat + (T - U).toNat = T.toNat from by omega, Nat.mul_comm] at h
    have := Nat.le_of_mul_le_mul_right h (Nat.pow_pos (by omega))
    have := HU1.out
    omega
  case stop =>
    rintro D c pre X hD _ ⟨rfl, j, h1, h2, h3⟩ hK
    have hr' : ∀ r, some D = some r → ∃ o : Obj, X.heap[r]? = some o ∧ o.isCells = false := fun r e => by cases e; exact ⟨_, hK, rfl⟩
    have g1 := cell_kept h1 (grownBy_putObj' X D (.deferred none)) hr'
    have g5 := h3.grown (grownBy_putObj' X D (.deferred none)) h3.size (fun k e => by cases e; omega)
    gi_wp2
    rw [Exit.noGoto_ret]
    refine ⟨by simp, .inl ⟨_, _, rfl, run_takeDeferred hK, ?_⟩⟩
    exact ⟨.tuple #[.int .i64 j, .int .i64 0], by simp [results, Try.results40, go_sem], j, rfl, by rw [← HL.out]; exact h2, g5⟩
end Go.Proofs.Ytjkelnnjfpcapaa.Num
end
section
/- binom: the chapter's example; the laws of draws and of terms. -/
namespace Go.Proofs.Ytjkelnnjfpcapaa.Num
set_option linter.unusedVariables false
set_option linter.unusedSimpArgs false
open Go.RowKit Go.Shelf Go.Proofs.Ytjkelnnjfpcapaa.Rng Go.Proofs.Ytjkelnnjfpcapaa.PNat Go.Proofs.YtjkelnnjfpcapaaW Go.Proofs.YtjkelnnjfpcapaaW.PrintWords Go.Proofs.YtjkelnnjfpcapaaW.PrintLast Go.Proofs.YtjkelnnjfpcapaaW.PrintMore

theorem bdraw_at (A0 : Option Addr) (n0 c0 : Nat) (l0 : List Int) (hn0 : l0.length = n0) (w : Nat) (T U : Int) (W : World) (hr0 : Kd.C (Kd.int .u8) W A0 l0.length l0) (hby : By l0) (h1 : 1 ≤ n0) (h64 : n0 ≤ 64) (h : mayB w T U = true) (j : Nat) (hj : Drawn (bv l0 * T.toNat ^ w) (8 * n0) w U.toNat (T - U).toNat j) :
    Calls Try.prog 40 #[.slice A0 n0 c0, .int .i64 w, .int .i64 T, .int .i64 U] W (Tells (.tuple #[.int .i64 j, .int .i64 0]) W) :=
  (bdraw_yes A0 n0 c0 l0 hn0 w T U W hr0 hby h1 h64 h).mono fun e w' ⟨i, he, hi, hb⟩ => ⟨by rw [he, hi.eq hj], hb⟩
theorem litb_C (W : World) (x : Int) : Kd.C (Kd.int .u8) (W.alloc (.cells #[.int .u8 x] 5)) (some ⟨W.heap.size, 0, none⟩) [x].length [x] := by
  have := own_lit W W.heap.size 5 .u8 [x] (Nat.le_refl _) (by simp)
  exact (Kd.R_reads' (Kd.R_of_own (enc := Value.int .u8) (h1 := fun _ => rfl) (ok := fun _ => True) this (fun _ _ => trivial))).2.2
theorem By.one {x : Int} (h : 0 ≤ x ∧ x < 256) : By [x] := fun y hy => by
  simp only [List.mem_singleton] at hy
  subst hy; exact h
theorem drawn_a : Drawn (127 * 2 ^ 1) 8 1 1 1 0 := ⟨by decide, fun i h => by omega, by decide⟩
theorem drawn_b : Drawn (128 * 2 ^ 1) 8 1 1 1 1 := ⟨by decide, fun i h => by
  obtain rfl : i = 0 := by omega
  decide, by decide⟩
set_option maxHeartbeats 1600000 in
set_option maxRecDepth 100000 in
theorem bawake_calls (W : World) : Calls Try.prog 39 #[] W (Tells (.bool true) W) := by
  have HA : ∀ W : World, Calls Try.prog 40 #[.slice (some ⟨W.heap.size, 0, none⟩) 1 1, .int .i64 1, .int .i64 2, .int .i64 1] (W.alloc (.cells #[.int .u8 127] 5)) (Tells (.tuple #[.int .i64 (0 : Int), .int .i64 0]) (W.alloc (.cells #[.int .u8 127] 5))) := fun W =>
    bdraw_at (some ⟨W.heap.size, 0, none⟩) 1 1 [127] rfl 1 2 1 _ (litb_C W 127) (By.one (by decide)) (by omega) (by omega) rfl 0 drawn_a
  have HB : ∀ W : World, Calls Try.prog 40 #[.slice (some ⟨W.heap.size, 0, none⟩) 1 1, .int .i64 1, .int .i64 2, .int .i64 1] (W.alloc (.cells #[.int .u8 128] 5)) (Tells (.tuple #[.int .i64 (1 : Int), .int .i64 0]) (W.alloc (.cells #[.int .u8 128] 5))) := fun W =>
    bdraw_at (some ⟨W.heap.size, 0, none⟩) 1 1 [128] rfl 1 2 1 _ (litb_C W 128) (By.one (by decide)) (by omega) (by omega) rfl 1 drawn_b
  go_enter Try.func39, Try.ntmps39
  go_wp2_with fail
  (with_reducible refine (HA _).mono ?_)
  rintro e w1 ⟨rfl, hb1⟩
  have HB1 := Aside0.mk hb1
  clear hb1
  go_wp2_with fail
  (with_reducible refine (HB _).mono ?_)
  rintro e w2 ⟨rfl, hb2⟩
  have HB2 := Aside0.mk hb2
  clear hb2
  go_wp2
  go_ret
  exact ⟨rfl, below_step (below_alloc (below_step (below_alloc (Below.refl _ _) _) HB1.out) _) HB2.out⟩
theorem rmay_calls (w T U : Int) (W : World) : Calls Try.prog 41 #[.int .i64 w, .int .i64 T, .int .i64 U] W (Tells (.bool (mayB w T U)) W) :=
  (cleromancyref20_May.calls w T U _ W (rmay_is w T U)).mono fun e w' h => ⟨by rw [h.1]; rfl, h.2.below⟩
theorem rdraw_calls (A0 : Option Addr) (n0 c0 : Nat) (l0 : List Int) (hn0 : l0.length = n0) (w : Nat) (T U : Int) (W : World) (hr0 : Kd.C (Kd.int .u8) W A0 l0.length l0) (hc0 : n0 ≤ c0) (hby : By l0) (h64 : n0 ≤ 64) (h : mayB w T U = true) (hw : w ≤ 24) (j : Nat) (hj : Drawn (bv l0 * T.toNat ^ w) (8 * n0) w U.toNat (T - U).toNat j) :
    Calls Try.prog 42 #[.slice A0 n0 c0, .int .i64 w, .int .i64 T, .int .i64 U] W (Tells (.int .i64 j) W) := by
  subst hn0
  have hm := of_decide_eq_true h
  obtain ⟨K, hK⟩ := rdraw_ev l0 hby h64 w T.toNat U.toNat j (by omega) (by omega) (by omega) (by rw [show T.toNat - U.toNat = (T - U).toNat from by omega]; exact hj)
  rw [show ((T.toNat : Nat) : Int) = T from by omega, show ((U.toNat : Nat) : Int) = U from by omega] at hK
  exact cleromancyref20_Draw.calls K A0 c0 l0 _ _ _ _ W hr0 hc0 (hK K (Nat.le_refl _))
theorem bPair (W : World) (T U : Int) : (W.alloc (.cells #[.int .i64 T, .int .i64 U] 60)).cell? ⟨W.heap.size, 0, none⟩ = some (.int .i64 T) ∧ (W.alloc (.cells #[.int .i64 T, .int .i64 U] 60)).cell? ⟨W.heap.size, 1, none⟩ = some (.int .i64 U) := ⟨by go_simp, by go_simp⟩
set_option maxHeartbeats 6400000 in
set_option maxRecDepth 100000 in
theorem bdraws_no (A0 : Option Addr) (n0 c0 : Nat) (w T U : Int) (W : World) (hn : (n0 : Int) ≤ 9223372036854775807) (h200 : n0 ≤ 200) (h : n0 = 0 ∨ 64 < n0 ∨ mayB w T U = false) :
    Calls Try.prog 8 #[.slice A0 n0 c0, .int .i64 w, .agg #[.int .i64 T, .int .i64 U]] W (Tells (.bool true) W) := by
  have HD : ∀ W, Calls Try.prog 40 #[.slice A0 n0 c0, .int .i64 w, .int .i64 T, .int .i64 U] W (Tells (.tuple #[.int .i64 0, .int .i64 2]) W) := fun W => bdraw_no A0 n0 c0 w T U W hn h
  have HD2 := Aside0.mk HD
  have HM : ∀ W, Calls Try.prog 41 #[.int .i64 w, .int .i64 T, .int .i64 U] W (Tells (.bool (mayB w T U)) W) := rmay_calls w T U
  clear HD
  have e200 : decide ((200 : Int) < (n0 : Int)) = false := decide_eq_false (by omega)
  by_cases h0 : n0 = 0
  · subst h0
    clear h HM
    go_enter Try.func8, Try.ntmps8
    go_wp2_with (first
      | (go_at_call 39; (with_reducible refine (bawake_calls _).mono ?_); rintro e w1 ⟨rfl, hb1⟩; have q0 := pw_cell_below hb1 (bPair W T U).1; have q1 := pw_cell_below hb1 (bPair W T U).2; have HB1 := Aside0.mk (below_step (below_alloc (Below.refl _ _) _) hb1); clear hb1)
      | (go_at_call 40; (with_reducible refine (HD2.out _).mono ?_); rintro e w2 ⟨rfl, hb2⟩; have r0 := pw_cell_below hb2 q0; have r1 := pw_cell_below hb2 q1; clear q0 q1; have HB2 := Aside0.mk (below_step HB1.out hb2); clear hb2)
      | (go_at_call 41; (with_reducible refine (HM2.out _).mono ?_); rintro e w3 ⟨rfl, hb3⟩; have HB3 := Aside0.mk (below_step HB2.out hb3); clear hb3)
      | fail)
    go_ret
    exact ⟨rfl, HB2.out⟩
  · have e0 : (((n0 : Nat) : Int) == 0) = false := by simp; omega
    by_cases h1 : 64 < n0
    · have e64 : decide ((64 : Int) < (n0 : Int)) = true := decide_eq_true (by omega)
      clear h HM h0
      go_enter Try.func8, Try.ntmps8
      go_wp2_with (first
        | (go_at_call 39; (with_reducible refine (bawake_calls _).mono ?_); rintro e w1 ⟨rfl, hb1⟩; have q0 := pw_cell_below hb1 (bPair W T U).1; have q1 := pw_cell_below hb1 (bPair W T U).2; have HB1 := Aside0.mk (below_step (below_alloc (Below.refl _ _) _) hb1); clear hb1)
        | (go_at_call 40; (with_reducible refine (HD2.out _).mono ?_); rintro e w2 ⟨rfl, hb2⟩; have r0 := pw_cell_below hb2 q0; have r1 := pw_cell_below hb2 q1; clear q0 q1; have HB2 := Aside0.mk (below_step HB1.out hb2); clear hb2)
        | (go_at_call 41; (with_reducible refine (HM2.out _).mono ?_); rintro e w3 ⟨rfl, hb3⟩; have HB3 := Aside0.mk (below_step HB2.out hb3); clear hb3)
        | fail)
      go_ret
      exact ⟨rfl, HB2.out⟩
    · have e64 : decide ((64 : Int) < (n0 : Int)) = false := decide_eq_false (by omega)
      have hm : mayB w T U = false := by rcases h with h | h | h <;> first | omega | exact h
      rw [hm] at HM
      have HM2 := Aside0.mk HM
      clear h HM h0 hm
      go_enter Try.func8, Try.ntmps8
      go_wp2_with (first
        | (go_at_call 39; (with_reducible refine (bawake_calls _).mono ?_); rintro e w1 ⟨rfl, hb1⟩; have q0 := pw_cell_below hb1 (bPair W T U).1; have q1 := pw_cell_below hb1 (bPair W T U).2; have HB1 := Aside0.mk (below_step (below_alloc (Below.refl _ _) _) hb1); clear hb1)
        | (go_at_call 40; (with_reducible refine (HD2.out _).mono ?_); rintro e w2 ⟨rfl, hb2⟩; have r0 := pw_cell_below hb2 q0; have r1 := pw_cell_below hb2 q1; clear q0 q1; have HB2 := Aside0.mk (below_step HB1.out hb2); clear hb2)
        | (go_at_call 41; (with_reducible refine (HM2.out _).mono ?_); rintro e w3 ⟨rfl, hb3⟩; have HB3 := Aside0.mk (below_step HB2.out hb3); clear hb3)
        | fail)
      go_ret
      exact ⟨rfl, HB3.out⟩
set_option maxHeartbeats 6400000 in
set_option maxRecDepth 100000 in
theorem bdraws_big (A0 : Option Addr) (n0 c0 : Nat) (w T U : Int) (W : World) (hn : (n0 : Int) ≤ 9223372036854775807) (h200 : 200 < n0) :
    Calls Try.prog 8 #[.slice A0 n0 c0, .int .i64 w, .agg #[.int .i64 T, .int .i64 U]] W (Tells (.bool true) W) := by
  have e200 : decide ((200 : Int) < (n0 : Int)) = true := decide_eq_true (by omega)
  go_enter Try.func8, Try.ntmps8
  go_wp2_with (first
    | (go_at_call 39; (with_reducible refine (bawake_calls _).mono ?_); rintro e w1 ⟨rfl, hb1⟩; have HB1 := Aside0.mk (below_step (below_alloc (Below.refl _ _) _) hb1); clear hb1)
    | fail)
  go_ret
  exact ⟨rfl, HB1.out⟩
set_option maxHeartbeats 6400000 in
set_option maxRecDepth 100000 in
theorem bdraws_yes (A0 : Option Addr) (n0 c0 : Nat) (l0 : List Int) (hn0 : l0.length = n0) (w : Nat) (T U : Int) (W : World) (hr0 : Kd.C (Kd.int .u8) W A0 l0.length l0) (hc0 : n0 ≤ c0) (hby : By l0) (h1 : 1 ≤ n0) (h64 : n0 ≤ 64) (h : mayB w T U = true) :
    Calls Try.prog 8 #[.slice A0 n0 c0, .int .i64 w, .agg #[.int .i64 T, .int .i64 U]] W (Tells (.bool true) W) := by
  have HM : ∀ W, Calls Try.prog 41 #[.int .i64 w, .int .i64 T, .int .i64 U] W (Tells (.bool (mayB w T U)) W) := rmay_calls w T U
  rw [h] at HM
  have HM2 := Aside0.mk HM
  have HR0 := Aside0.mk hr0
  have HN0 := Aside0.mk hn0
  have HBY := Aside0.mk hby
  have HH := Aside0.mk h
  have e200 : decide ((200 : Int) < (n0 : Int)) = false := decide_eq_false (by omega)
  have e0 : (((n0 : Nat) : Int) == 0) = false := by simp; omega
  have e64 : decide ((64 : Int) < (n0 : Int)) = false := decide_eq_false (by omega)
  clear HM hr0 hby h hn0
  by_cases h24 : 24 < w
  · have e24 : decide ((24 : Int) < (w : Int)) = true := decide_eq_true (by omega)
    go_enter Try.func8, Try.ntmps8
    go_wp2_with (first
      | (go_at_call 39; (with_reducible refine (bawake_calls _).mono ?_); rintro e w1 ⟨rfl, hb1⟩; have q0 := pw_cell_below hb1 (bPair W T U).1; have q1 := pw_cell_below hb1 (bPair W T U).2; have HR1 := Aside0.mk (Kd.C_below (Kd.C_alloc HR0.out _) hb1); have HB1 := Aside0.mk (below_step (below_alloc (Below.refl _ _) _) hb1); clear hb1)
      | (go_at_call 40; (with_reducible refine (bdraw_yes A0 n0 c0 l0 HN0.out w T U _ HR1.out HBY.out h1 h64 HH.out).mono ?_); rintro e w2 ⟨j, rfl, hj, hb2⟩; have r0 := pw_cell_below hb2 q0; have r1 := pw_cell_below hb2 q1; clear q0 q1; have HB2 := Aside0.mk (below_step HB1.out hb2); clear hb2 hj)
      | (go_at_call 41; (with_reducible refine (HM2.out _).mono ?_); rintro e w3 ⟨rfl, hb3⟩; have HB3 := Aside0.mk (below_step HB2.out hb3); clear hb3)
      | fail)
    go_ret
    exact ⟨rfl, HB3.out⟩
  · have e24 : decide ((24 : Int) < (w : Int)) = false := decide_eq_false (by omega)
    go_enter Try.func8, Try.ntmps8
    go_wp2_with (first
      | (go_at_call 39; (with_reducible refine (bawake_calls _).mono ?_); rintro e w1 ⟨rfl, hb1⟩; have q0 := pw_cell_below hb1 (bPair W T U).1; have q1 := pw_cell_below hb1 (bPair W T U).2; have HR1 := Aside0.mk (Kd.C_below (Kd.C_alloc HR0.out _) hb1); have HB1 := Aside0.mk (below_step (below_alloc (Below.refl _ _) _) hb1); clear hb1)
      | (go_at_call 40; (with_reducible refine (bdraw_yes A0 n0 c0 l0 HN0.out w T U _ HR1.out HBY.out h1 h64 HH.out).mono ?_); rintro e w2 ⟨j, rfl, hj, hb2⟩; have r0 := pw_cell_below hb2 q0; have r1 := pw_cell_below hb2 q1; clear q0 q1; have HB2 := Aside0.mk (below_step HB1.out hb2); have HR2 := Aside0.mk (Kd.C_below HR1.out hb2); have HJ := Aside0.mk hj; clear hb2 hj)
      | (go_at_call 41; (with_reducible refine (HM2.out _).mono ?_); rintro e w3 ⟨rfl, hb3⟩; have s0 := pw_cell_below hb3 r0; have s1 := pw_cell_below hb3 r1; clear r0 r1; have HB3 := Aside0.mk (below_step HB2.out hb3); have HR3 := Aside0.mk (Kd.C_below HR2.out hb3); clear hb3)
      | (go_at_call 42; (with_reducible refine (rdraw_calls A0 n0 c0 l0 HN0.out w T U _ HR3.out hc0 HBY.out h64 HH.out (by omega) j HJ.out).mono ?_); rintro e w4 ⟨rfl, hb4⟩; have HB4 := Aside0.mk (below_step HB3.out hb4); clear hb4)
      | fail)
    go_ret
    exact ⟨rfl, HB4.out⟩
set_option maxHeartbeats 6400000 in
set_option maxRecDepth 100000 in
theorem bterms_no (w k T U : Int) (W : World) (h : mayB w T U = false ∨ k < 0 ∨ w < k) :
    Calls Try.prog 9 #[.int .i64 w, .int .i64 k, .agg #[.int .i64 T, .int .i64 U]] W (Tells (.bool true) W) := by
  have HD : ∀ W, Calls Try.prog 43 #[.int .i64 w, .int .i64 k, .int .i64 T, .int .i64 U] W (Tells (.tuple #[.slice none 0 0, .int .i64 2]) W) := fun W => bterm_no w k T U W h
  have HD2 := Aside0.mk HD
  have HM : ∀ W, Calls Try.prog 41 #[.int .i64 w, .int .i64 T, .int .i64 U] W (Tells (.bool (mayB w T U)) W) := rmay_calls w T U
  clear HD
  by_cases hm : mayB w T U = false
  · rw [hm] at HM
    have HM2 := Aside0.mk HM
    clear h HM hm
    go_enter Try.func9, Try.ntmps9
    go_wp2_with (first
      | (go_at_call 39; (with_reducible refine (bawake_calls _).mono ?_); rintro e w1 ⟨rfl, hb1⟩; have q0 := pw_cell_below hb1 (bPair W T U).1; have q1 := pw_cell_below hb1 (bPair W T U).2; have HB1 := Aside0.mk (below_step (below_alloc (Below.refl _ _) _) hb1); clear hb1)
      | (go_at_call 43; (with_reducible refine (HD2.out _).mono ?_); rintro e w2 ⟨rfl, hb2⟩; have r0 := pw_cell_below hb2 q0; have r1 := pw_cell_below hb2 q1; clear q0 q1; have HB2 := Aside0.mk (below_step HB1.out hb2); clear hb2)
      | (go_at_call 41; (with_reducible refine (HM2.out _).mono ?_); rintro e w3 ⟨rfl, hb3⟩; have s0 := pw_cell_below hb3 r0; have s1 := pw_cell_below hb3 r1; clear r0 r1; have HB3 := Aside0.mk (below_step HB2.out hb3); clear hb3)
      | fail)
    go_ret
    exact ⟨rfl, HB3.out⟩
  · have hm' : mayB w T U = true := by simpa using hm
    rw [hm'] at HM
    have HM2 := Aside0.mk HM
    by_cases hk : k < 0
    · have ek : decide (k < 0) = true := decide_eq_true hk
      clear h HM hm hm'
      go_enter Try.func9, Try.ntmps9
      go_wp2_with (first
        | (go_at_call 39; (with_reducible refine (bawake_calls _).mono ?_); rintro e w1 ⟨rfl, hb1⟩; have q0 := pw_cell_below hb1 (bPair W T U).1; have q1 := pw_cell_below hb1 (bPair W T U).2; have HB1 := Aside0.mk (below_step (below_alloc (Below.refl _ _) _) hb1); clear hb1)
        | (go_at_call 43; (with_reducible refine (HD2.out _).mono ?_); rintro e w2 ⟨rfl, hb2⟩; have r0 := pw_cell_below hb2 q0; have r1 := pw_cell_below hb2 q1; clear q0 q1; have HB2 := Aside0.mk (below_step HB1.out hb2); clear hb2)
        | (go_at_call 41; (with_reducible refine (HM2.out _).mono ?_); rintro e w3 ⟨rfl, hb3⟩; have s0 := pw_cell_below hb3 r0; have s1 := pw_cell_below hb3 r1; clear r0 r1; have HB3 := Aside0.mk (below_step HB2.out hb3); clear hb3)
        | fail)
      go_ret
      exact ⟨rfl, HB3.out⟩
    · have ek : decide (k < 0) = false := decide_eq_false hk
      have hw : w < k := by rcases h with h | h | h <;> first | exact h | omega | (exact absurd h hm)
      have ew : decide (w < k) = true := decide_eq_true hw
      clear h HM hm hm'
      go_enter Try.func9, Try.ntmps9
      go_wp2_with (first
        | (go_at_call 39; (with_reducible refine (bawake_calls _).mono ?_); rintro e w1 ⟨rfl, hb1⟩; have q0 := pw_cell_below hb1 (bPair W T U).1; have q1 := pw_cell_below hb1 (bPair W T U).2; have HB1 := Aside0.mk (below_step (below_alloc (Below.refl _ _) _) hb1); clear hb1)
        | (go_at_call 43; (with_reducible refine (HD2.out _).mono ?_); rintro e w2 ⟨rfl, hb2⟩; have r0 := pw_cell_below hb2 q0; have r1 := pw_cell_below hb2 q1; clear q0 q1; have HB2 := Aside0.mk (below_step HB1.out hb2); clear hb2)
        | (go_at_call 41; (with_reducible refine (HM2.out _).mono ?_); rintro e w3 ⟨rfl, hb3⟩; have s0 := pw_cell_below hb3 r0; have s1 := pw_cell_below hb3 r1; clear r0 r1; have HB3 := Aside0.mk (below_step HB2.out hb3); clear hb3)
        | fail)
      go_ret
      exact ⟨rfl, HB3.out⟩
theorem rterm_calls (w k : Nat) (T U : Int) (W : World) (h : mayB w T U = true) (hw : w ≤ 24) (hk : k ≤ w) :
    Calls Try.prog 44 #[.int .i64 w, .int .i64 k, .int .i64 T, .int .i64 U] W (Got .i64 W (dg (tm w k U.toNat (T - U).toNat))) := by
  have hm := of_decide_eq_true h
  obtain ⟨K, hK⟩ := term_ev w k T.toNat U.toNat (by omega) hk (by omega) (by omega)
  rw [show T.toNat - U.toNat = (T - U).toNat from by omega] at hK
  rw [show ((T.toNat : Nat) : Int) = T from by omega, show ((U.toNat : Nat) : Int) = U from by omega] at hK
  exact (cleromancyref20_Term.calls K _ _ _ _ _ W (hK K (Nat.le_refl _))).mono fun e w' h => Got.of h
set_option maxHeartbeats 6400000 in
set_option maxRecDepth 100000 in
theorem bterms_yes (w k : Nat) (T U : Int) (W : World) (h : mayB w T U = true) (hk : k ≤ w) :
    Calls Try.prog 9 #[.int .i64 w, .int .i64 k, .agg #[.int .i64 T, .int .i64 U]] W (Tells (.bool true) W) := by
  have HD2 : Aside0 (∀ W, Calls Try.prog 43 #[.int .i64 w, .int .i64 k, .int .i64 T, .int .i64 U] W (Res2 W (tm w k U.toNat (T - U).toNat) 0)) := ⟨fun W => bterm_yes w k T U W h hk⟩
  have HM : ∀ W, Calls Try.prog 41 #[.int .i64 w, .int .i64 T, .int .i64 U] W (Tells (.bool (mayB w T U)) W) := rmay_calls w T U
  rw [h] at HM
  have HM2 := Aside0.mk HM
  have HH := Aside0.mk h
  have hm := of_decide_eq_true h
  have ek : decide ((k : Int) < 0) = false := decide_eq_false (by omega)
  have ew : decide ((w : Int) < (k : Int)) = false := decide_eq_false (by omega)
  have hlen : (nw (tm w k U.toNat (T - U).toNat)).length ≤ 1300 := tm_len w k U.toNat (T - U).toNat (by omega) (by omega)
  have hdl : w ≤ 24 → (dg (tm w k U.toNat (T - U).toNat)).length ≤ 1000 := fun hw => dg_len_bits _ (20 * w + 1) (Nat.lt_of_le_of_lt (tm_le_all w k U.toNat (T - U).toNat hk) (all_lt U.toNat (T - U).toNat w (by omega))) _ (by omega)
  have HDL := Aside0.mk hdl
  clear HM h hm hdl
  by_cases h24 : 24 < w
  · have e24 : decide ((24 : Int) < (w : Int)) = true := decide_eq_true (by omega)
    go_enter Try.func9, Try.ntmps9
    go_wp2_with (first
      | (go_at_call 39; (with_reducible refine (bawake_calls _).mono ?_); rintro e w1 ⟨rfl, hb1⟩; have q0 := pw_cell_below hb1 (bPair W T U).1; have q1 := pw_cell_below hb1 (bPair W T U).2; have HB1 := Aside0.mk (below_step (below_alloc (Below.refl _ _) _) hb1); clear hb1)
      | (go_at_call 43; (with_reducible refine (HD2.out _).mono ?_); rintro e w2 ⟨A2, c2, rfl, h2, h3, hb2⟩; have r0 := pw_cell_below hb2 q0; have r1 := pw_cell_below hb2 q1; clear q0 q1; have HB2 := Aside0.mk (below_step HB1.out hb2); have HT2 := Aside0.mk h3; clear hb2 h3)
      | (go_at_call 41; (with_reducible refine (HM2.out _).mono ?_); rintro e w3 ⟨rfl, hb3⟩; have s0 := pw_cell_below hb3 r0; have s1 := pw_cell_below hb3 r1; clear r0 r1; have HB3 := Aside0.mk (below_step HB2.out hb3); clear hb3)
      | fail)
    go_ret
    exact ⟨rfl, HB3.out⟩
  · have e24 : decide ((24 : Int) < (w : Int)) = false := decide_eq_false (by omega)
    have hdl := HDL.out (by omega)
    go_enter Try.func9, Try.ntmps9
    go_wp2_with (first
      | (go_at_call 39; (with_reducible refine (bawake_calls _).mono ?_); rintro e w1 ⟨rfl, hb1⟩; have q0 := pw_cell_below hb1 (bPair W T U).1; have q1 := pw_cell_below hb1 (bPair W T U).2; have HB1 := Aside0.mk (below_step (below_alloc (Below.refl _ _) _) hb1); clear hb1)
      | (go_at_call 43; (with_reducible refine (HD2.out _).mono ?_); rintro e w2 ⟨A2, c2, rfl, h2, h3, hb2⟩; have r0 := pw_cell_below hb2 q0; have r1 := pw_cell_below hb2 q1; clear q0 q1; have HB2 := Aside0.mk (below_step HB1.out hb2); have HT2 := Aside0.mk h3; clear hb2 h3)
      | (go_at_call 41; (with_reducible refine (HM2.out _).mono ?_); rintro e w3 ⟨rfl, hb3⟩; have s0 := pw_cell_below hb3 r0; have s1 := pw_cell_below hb3 r1; clear r0 r1; have HB3 := Aside0.mk (below_step HB2.out hb3); have HT3 := Aside0.mk (Kd.C_below HT2.out hb3); clear hb3)
      | (go_at_call 44; (with_reducible refine (rterm_calls w k T U _ HH.out (by omega) hk).mono ?_); rintro e w4 ⟨A4, c4, rfl, h5, h6, hb4⟩; have HB4 := Aside0.mk (below_step HB3.out hb4); have HT4 := Aside0.mk (Kd.C_below HT3.out hb4); have HG4 := Aside0.mk h6; clear hb4 h6)
      | (go_at_call 14; (with_reducible refine (rwords_calls A4 _ c4 (tm w k U.toNat (T - U).toNat) rfl _ HG4.out h5 (by omega)).mono ?_); rintro e w5 ⟨A5, c5, rfl, h8, h9, hb5⟩; have HB5 := Aside0.mk (below_step HB4.out hb5); have HT5 := Aside0.mk (Kd.C_below HT4.out hb5); have HG5 := Aside0.mk h9; clear hb5 h9)
      | (go_at_call 12; (with_reducible refine (wsame_calls A2 _ c2 (nw (tm w k U.toNat (T - U).toNat)) rfl A5 _ c5 (nw (tm w k U.toNat (T - U).toNat)) rfl _ HT5.out h2 HG5.out h8 (by omega)).mono ?_); rw [decide_eq_true (rfl : nw (tm w k U.toNat (T - U).toNat) = nw (tm w k U.toNat (T - U).toNat))]; rintro e w6 ⟨rfl, hb6⟩; have HB6 := Aside0.mk (below_step HB5.out hb6); clear hb6)
      | fail)
    go_ret
    exact ⟨rfl, HB6.out⟩
/-- The law of draws, as its row asks it. -/
theorem binomDraws_walk (a0 : Option Addr) (len0 cap0 : Nat) (z0 : List Int) (x a b : Int) (w : World) (w0 : (a0 = none ∧ len0 = 0 ∧ cap0 = 0 ∧ z0 = []) ∨ ∃ x, a0 = some x ∧ len0 ≤ cap0 ∧ cap0 ≤ maxLen ∧ z0.length = cap0 ∧ (∀ i, i < z0.length → w.cell? (x.add i) = some (.int .u8 (z0.getD i 0))) ∧ ∀ n ∈ z0, (Lit.int .u8 n).wf = true) (y0 : len0 * 1 ≤ 140737488351232) (w1 : (Lit.int .i64 x).wf = true) (w2 : (Lit.int .i64 a).wf = true) (wb2 : (Lit.int .i64 b).wf = true) :
    Calls Try.prog 8 #[.slice a0 len0 cap0, .int .i64 x, .agg #[.int .i64 a, .int .i64 b]] w fun e w' => e = .returned (.bool true) ∧ Below w.heap.size w w' := by
  obtain ⟨l0, rfl, hr0, hm0, hw0, hc0⟩ := ReadsInt.ofRowC w0
  by_cases hbig : 200 < l0.length
  · exact bdraws_big a0 _ cap0 x a b w (by omega) hbig
  · by_cases h : l0.length = 0 ∨ 64 < l0.length ∨ mayB x a b = false
    · exact bdraws_no a0 _ cap0 x a b w (by omega) (by omega) h
    · have hm : mayB x a b = true := by
        cases e : mayB x a b
        · exact absurd (.inr (.inr e)) h
        · rfl
      have hx := of_decide_eq_true hm
      obtain ⟨n, rfl⟩ : ∃ n : Nat, x = (n : Int) := ⟨x.toNat, by omega⟩
      have h1 : ¬ l0.length = 0 := fun e => h (.inl e)
      have h2 : ¬ 64 < l0.length := fun e => h (.inr (.inl e))
      exact bdraws_yes a0 _ cap0 l0 rfl n a b w (Kd.C_of_reads (d := (0 : Int)) (h1 := fun _ => rfl) hr0) hc0 (fun x hx => wf_u8 (hw0 x hx)) (by omega) (by omega) hm
/-- The law of terms, as its row asks it. -/
theorem binomTerms_walk (x k a b : Int) (w : World) (w0 : (Lit.int .i64 x).wf = true) (w1 : (Lit.int .i64 k).wf = true) (w2 : (Lit.int .i64 a).wf = true) (wb2 : (Lit.int .i64 b).wf = true) :
    Calls Try.prog 9 #[.int .i64 x, .int .i64 k, .agg #[.int .i64 a, .int .i64 b]] w fun e w' => e = .returned (.bool true) ∧ Below w.heap.size w w' := by
  by_cases h : mayB x a b = false ∨ k < 0 ∨ x < k
  · exact bterms_no x k a b w h
  · have hm : mayB x a b = true := by
      cases e : mayB x a b
      · exact absurd (.inl e) h
      · rfl
    have hk : 0 ≤ k ∧ k ≤ x := by omega
    obtain ⟨n, rfl⟩ : ∃ n : Nat, x = (n : Int) := ⟨x.toNat, by omega⟩
    obtain ⟨j, rfl⟩ : ∃ j : Nat, k = (j : Int) := ⟨k.toNat, by omega⟩
    exact bterms_yes n j a b w hm (by omega)
end Go.Proofs.Ytjkelnnjfpcapaa.Num
end
