/- digest: the program's turns, and its words as they come to be: plain. -/
import Derived.Test.YteapdhfeddgjbaaDoorSDgB
namespace Go.Proofs.YteapdhfeddgjbaaDoor.Dg
open Go.RowKit Go.Proofs.YteapdhfeddgjbaaDoor.PDb Go.Proofs.YteapdhfeddgjbaaDoorW Go.Proofs.YteapdhfeddgjbaaDoorW.PrintWords
theorem or_comm32 (a b : Int) : Go.bits .or .u32 a b = Go.bits .or .u32 b a := by
  unfold Go.bits
  simp only [BitVec.or_comm]
theorem or8 (y x : Int) (hx : 0 ≤ x ∧ x < 256) : Go.bits .or .u32 (y * 256 % 4294967296) x = (y * 256 + x) % 4294967296 := by
  rw [bits_join .u32 32 (by decide) (fun n h0 h1 => by rw [IntKind.wrap_u32]; omega) 8 _ _ (by omega) (by omega) (by omega) (by omega) (by omega) (by omega)]
  omega
theorem dturn_is (x n m : Int) (he : Go.bits .and .u64 (IntKind.u64.wrap (wrap64 (-n))) 31 = m) (h0 : 0 ≤ m) (hm : IntKind.u64.wrap (32 - m) = n) (hn : 0 ≤ n) (e : 32 - n = m) : digest_turn.f x n = some (trn x n) := by
  unfold digest_turn.f bits_RotateLeft32.f trn
  rw [he, if_pos h0, hm, if_pos hn, Option.bind_some, or_comm32, e]
theorem list8 (V : List Int) (h : V.length = 8) : V = [rd V 0, rd V 1, rd V 2, rd V 3, rd V 4, rd V 5, rd V 6, rd V 7] := by
  match V, h with
  | [a0, a1, a2, a3, a4, a5, a6, a7], _ => rfl
theorem mod_ab (a b : Int) : (a % 4294967296 + b % 4294967296) % 4294967296 = (a + b) % 4294967296 := by omega
theorem mod_xa (x a : Int) : (x + a % 4294967296) % 4294967296 = (x + a) % 4294967296 := by omega
/-- The words as they are added up, one by one. -/
def GL (hs V : List Int) (i : Nat) : List Int := adds hs V i ++ hs.drop i
theorem GL_len (hs V : List Int) (hh : hs.length = 8) (i : Nat) (h : i ≤ 8) : (GL hs V i).length = 8 := by
  unfold GL
  rw [List.length_append, adds_len, List.length_drop, hh]; omega
/-- Which turns are met. -/
def Tn (n : Int) : Prop := n = 7 ∨ n = 18 ∨ n = 17 ∨ n = 19 ∨ n = 6 ∨ n = 11 ∨ n = 25 ∨ n = 2 ∨ n = 13 ∨ n = 22
theorem dturn (x n : Int) (h : Tn n) : digest_turn.f x n = some (trn x n) := by
  rcases h with h | h | h | h | h | h | h | h | h | h <;> subst h
  · exact dturn_is x 7 25 (by decide +kernel) (by decide) (by decide) (by decide) (by decide)
  · exact dturn_is x 18 14 (by decide +kernel) (by decide) (by decide) (by decide) (by decide)
  · exact dturn_is x 17 15 (by decide +kernel) (by decide) (by decide) (by decide) (by decide)
  · exact dturn_is x 19 13 (by decide +kernel) (by decide) (by decide) (by decide) (by decide)
  · exact dturn_is x 6 26 (by decide +kernel) (by decide) (by decide) (by decide) (by decide)
  · exact dturn_is x 11 21 (by decide +kernel) (by decide) (by decide) (by decide) (by decide)
  · exact dturn_is x 25 7 (by decide +kernel) (by decide) (by decide) (by decide) (by decide)
  · exact dturn_is x 2 30 (by decide +kernel) (by decide) (by decide) (by decide) (by decide)
  · exact dturn_is x 13 19 (by decide +kernel) (by decide) (by decide) (by decide) (by decide)
  · exact dturn_is x 22 10 (by decide +kernel) (by decide) (by decide) (by decide) (by decide)
theorem rd_set (l : List Int) (i j : Nat) (x : Int) (h : i < l.length) : rd (l.set i x) (j : Int) = if i = j then x else rd l (j : Int) := by
  unfold rd
  rw [Int.toNat_natCast, List.getD_eq_getElem?_getD, List.getD_eq_getElem?_getD, List.getElem?_set]
  by_cases e : i = j
  · subst e; rw [if_pos rfl, if_pos rfl, if_pos h]; rfl
  · rw [if_neg e, if_neg e]
theorem rd_app1 (l m : List Int) (j : Nat) (h : j < l.length) : rd (l ++ m) (j : Int) = rd l (j : Int) := by
  unfold rd
  rw [Int.toNat_natCast, List.getD_eq_getElem?_getD, List.getD_eq_getElem?_getD, List.getElem?_append_left h]
theorem rd_app2 (l m : List Int) (j : Nat) (h : l.length ≤ j) : rd (l ++ m) (j : Int) = rd m ((j - l.length : Nat) : Int) := by
  unfold rd
  rw [Int.toNat_natCast, Int.toNat_natCast, List.getD_eq_getElem?_getD, List.getD_eq_getElem?_getD, List.getElem?_append_right h]
theorem rd_wds (b : List Int) : ∀ n i : Nat, i < n → rd (wds b n) (i : Int) = wpart b i 4
  | n + 1, i, h => by
    rw [wds]
    by_cases e : i < n
    · rw [rd_app1 _ _ _ (by rw [wds_len]; exact e)]; exact rd_wds b n i e
    · have : i = n := by omega
      subst this
      rw [rd_app2 _ _ _ (by rw [wds_len]; exact Nat.le_refl _), wds_len, Nat.sub_self]; rfl
theorem GL_rd (hs V : List Int) (i : Nat) : rd (GL hs V i) (i : Int) = rd hs (i : Int) := by
  unfold GL
  rw [rd_app2 _ _ _ (by rw [adds_len]; exact Nat.le_refl _), adds_len, Nat.sub_self]
  unfold rd
  rw [Int.toNat_natCast, Int.toNat_natCast, List.getD_eq_getElem?_getD, List.getD_eq_getElem?_getD, List.getElem?_drop, Nat.add_zero]
theorem GL_next (hs V : List Int) (hh : hs.length = 8) (i : Nat) (h : i < 8) : (GL hs V i).set i ((rd hs (i : Int) + rd V (i : Int)) % 4294967296) = GL hs V (i + 1) := by
  unfold GL
  rw [List.set_append_right _ _ (by rw [adds_len]; exact Nat.le_refl _), adds_len, Nat.sub_self, List.drop_eq_getElem_cons (by omega), List.set_cons_zero, adds, List.append_assoc]
  rfl
theorem GL_end (hs V : List Int) (hh : hs.length = 8) : GL hs V 8 = adds hs V 8 := by
  unfold GL
  rw [List.drop_of_length_le (by omega), List.append_nil]
/-- The words as they come to be, byte by byte. -/
def AL (b : List Int) : Nat → List Int
  | 0 => List.replicate 64 0
  | k + 1 => (AL b k).set (k / 4) (wpart b (k / 4) (k % 4 + 1))
theorem AL_len (b : List Int) : ∀ k, (AL b k).length = 64
  | 0 => by simp [AL]
  | k + 1 => by rw [AL, List.length_set, AL_len b k]
theorem AL_rd (b : List Int) : ∀ k, k ≤ 64 → ∀ j : Nat, rd (AL b k) (j : Int) = if 4 * j + 4 ≤ k then wpart b j 4 else if 4 * j ≤ k then wpart b j (k - 4 * j) else 0
  | 0, _, j => by
    have h0 : rd (AL b 0) (j : Int) = 0 := by
      unfold AL rd
      rw [Int.toNat_natCast, List.getD_eq_getElem?_getD, List.getElem?_replicate]
      split <;> rfl
    rw [h0, if_neg (by omega)]
    split
    · rename_i h; have : j = 0 := by omega
      subst this; rfl
    · rfl
  | k + 1, h, j => by
    have ih := AL_rd b k (by omega) j
    rw [AL, rd_set _ _ _ _ (by rw [AL_len]; omega)]
    by_cases e : k / 4 = j
    · rw [if_pos e]
      by_cases h4 : k % 4 = 3
      · rw [if_pos (by omega), e, h4]
      · rw [if_neg (by omega), if_pos (by omega), e, show k + 1 - 4 * j = k % 4 + 1 from by omega]
    · rw [if_neg e, ih]
      by_cases h1 : 4 * j + 4 ≤ k
      · rw [if_pos h1, if_pos (by omega)]
      · rw [if_neg h1]
        by_cases h2 : 4 * j ≤ k
        · omega
        · rw [if_neg h2, if_neg (by omega)]
          by_cases h3 : 4 * j ≤ k + 1
          · rw [if_pos h3]
            have : k + 1 - 4 * j = 0 := by omega
            rw [this]; rfl
          · rw [if_neg h3]
theorem list_eq (l m : List Int) (h : l.length = m.length) (hr : ∀ j : Nat, j < l.length → rd l (j : Int) = rd m (j : Int)) : l = m := by
  apply List.ext_getElem h
  intro i h1 h2
  have := hr i h1
  unfold rd at this
  rw [Int.toNat_natCast, List.getD_eq_getElem?_getD, List.getD_eq_getElem?_getD, List.getElem?_eq_getElem h1, List.getElem?_eq_getElem h2] at this
  exact this
theorem AL_next (b : List Int) (k q : Nat) (hq : k / 4 = q) (y x : Int) (hy : wpart b q (k - 4 * q) = y) (hx : rd b (k : Int) = x) (hb : 0 ≤ x ∧ x < 256) : AL b (k + 1) = (AL b k).set q (Go.bits .or .u32 (y * 256 % 4294967296) x) := by
  have e1 : k % 4 = k - 4 * q := by omega
  rw [AL, hq, e1, wpart, hy, show 4 * q + (k - 4 * q) = k from by omega, hx, or8 y x hb]
/-- The words, and what is still nought. -/
def ML (b : List Int) (j : Nat) : List Int := sch b j ++ List.replicate (48 - j) 0
theorem ML_len (b : List Int) (j : Nat) (h : j ≤ 48) : (ML b j).length = 64 := by
  unfold ML
  rw [List.length_append, sch_len, List.length_replicate]; omega
theorem AL_ML (b : List Int) : AL b 64 = ML b 0 := by
  apply list_eq _ _ (by rw [AL_len, ML_len b 0 (by omega)])
  intro j hj
  rw [AL_len] at hj
  rw [AL_rd b 64 (Nat.le_refl _)]
  unfold ML
  by_cases h : j < 16
  · rw [if_pos (by omega), rd_app1 _ _ _ (by rw [sch_len]; omega), sch, rd_wds b 16 j h]
  · rw [if_neg (by omega), rd_app2 _ _ _ (by rw [sch_len]; omega)]
    have h0 : ∀ m i : Nat, rd (List.replicate m (0 : Int)) (i : Int) = 0 := by
      intro m i
      unfold rd
      rw [Int.toNat_natCast, List.getD_eq_getElem?_getD, List.getElem?_replicate]
      split <;> rfl
    rw [h0]
    by_cases h2 : 4 * j ≤ 64
    · rw [if_pos h2]
      have : j = 16 := by omega
      subst this; rfl
    · rw [if_neg h2]
theorem ML_rd (b : List Int) (j i : Nat) (h : i < 16 + j) : rd (ML b j) (i : Int) = rd (sch b j) (i : Int) := by
  unfold ML
  rw [rd_app1 _ _ _ (by rw [sch_len]; exact h)]
theorem ML_next (b : List Int) (j : Nat) (h : j < 48) : (ML b j).set (16 + j) (nw (sch b j) (16 + j)) = ML b (j + 1) := by
  unfold ML
  rw [List.set_append_right _ _ (by rw [sch_len]; omega), sch_len, Nat.sub_self, show 48 - j = (48 - (j + 1)) + 1 from by omega, List.replicate_succ, List.set_cons_zero, sch, List.append_assoc]
  rfl
end Go.Proofs.YteapdhfeddgjbaaDoor.Dg
