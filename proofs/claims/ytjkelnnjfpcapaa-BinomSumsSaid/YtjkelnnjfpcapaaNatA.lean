/- nat: sums of words, at, Trim: the calls do what plain functions on lists say. -/
import Derived.Test.YtjkelnnjfpcapaaNumH
import Derived.Shelf.Spec.BitsCarry
namespace Go.Proofs.Ytjkelnnjfpcapaa.Num
open Go.RowKit Go.Shelf Go.Proofs.Ytjkelnnjfpcapaa.PNat Go.Proofs.YtjkelnnjfpcapaaW Go.Proofs.YtjkelnnjfpcapaaW.PrintWords Go.Proofs.YtjkelnnjfpcapaaW.PrintLast Go.Proofs.YtjkelnnjfpcapaaW.PrintMore
attribute [local go_sem] max2_int min2_int max_two min_two max_three min_three max_four min_four

def ren25 : Ren := ⟨fun | 25 => 62 | 26 => 51 | n => n, fun | 22 => 35 | n => n, fun | n => n⟩
theorem lays25 : Lays7.n25 Try.prog ren25 := {
  mixed := by kernel_rfl
  f25 := Try.func62.trans (congrArg some (by kernel_rfl))
  t22 := Try.underlying35
  a22 := Try.isAgg35
  z22 := Try.sizeOf35
  v22 := Try.zeroValue35
  i22 := info35 }
theorem lays26 : Lays7.n26 Try.prog ren25 := {
  mixed := by kernel_rfl
  f26 := Try.func51.trans (congrArg some (by kernel_rfl))
  t22 := Try.underlying35
  a22 := Try.isAgg35
  z22 := Try.sizeOf35
  v22 := Try.zeroValue35
  i22 := info35 }
theorem add64 (x y : Int) (hx : 0 ≤ x ∧ x < 18446744073709551616) (hy : 0 ≤ y ∧ y < 18446744073709551616) : ∃ s o : Int, s + 18446744073709551616 * o = x + y ∧ 0 ≤ s ∧ s < 18446744073709551616 ∧ 0 ≤ o ∧ o ≤ 1 ∧
    ∀ W, (callFunc 62 #[.int .u64 x, .int .u64 y, .int .u64 0]).run Try.prog W = .ok (.value (.tuple #[.int .u64 s, .int .u64 o])) W := by
  obtain ⟨x, rfl⟩ : ∃ n : Nat, x = n := ⟨x.toNat, by omega⟩
  obtain ⟨y, rfl⟩ : ∃ n : Nat, y = n := ⟨y.toNat, by omega⟩
  exact ⟨((x + y + 0) % 18446744073709551616 : Nat), ((x + y + 0) / 18446744073709551616 : Nat), by omega, by omega, by omega, by omega, by omega, fun W => Any7.bits_Add64 lays25 x y 0 (by omega) W⟩
theorem sub64 (x y b : Int) (hx : 0 ≤ x ∧ x < 18446744073709551616) (hy : 0 ≤ y ∧ y < 18446744073709551616) (hb : 0 ≤ b ∧ b ≤ 1) : ∃ s o : Int, s - 18446744073709551616 * o = x - y - b ∧ 0 ≤ s ∧ s < 18446744073709551616 ∧ 0 ≤ o ∧ o ≤ 1 ∧
    ∀ W, (callFunc 51 #[.int .u64 x, .int .u64 y, .int .u64 b]).run Try.prog W = .ok (.value (.tuple #[.int .u64 s, .int .u64 o])) W := by
  obtain ⟨x, rfl⟩ : ∃ n : Nat, x = n := ⟨x.toNat, by omega⟩
  obtain ⟨y, rfl⟩ : ∃ n : Nat, y = n := ⟨y.toNat, by omega⟩
  obtain ⟨b, rfl⟩ : ∃ n : Nat, b = n := ⟨b.toNat, by omega⟩
  exact ⟨((x + 18446744073709551616 - y - b) % 18446744073709551616 : Nat), ((if x < y + b then 1 else 0 : Nat) : Int), by split <;> omega, by omega, by omega, by omega, by split <;> omega, fun W => Any7.bits_Sub64 lays26 x y b (by omega) W⟩

/-- A sum of words. -/
def sI : List Int → Int
  | [] => 0
  | x :: r => x + sI r
theorem sI_append (a b : List Int) : sI (a ++ b) = sI a + sI b := by
  induction a with
  | nil => simp [sI]
  | cons x r ih => rw [List.cons_append, sI, sI, ih]; omega

set_option maxHeartbeats 800000 in
set_option maxRecDepth 100000 in
theorem sum_calls (A0 : Option Addr) (c0 : Nat) (l0 : List Int) (w : World) (hr0 : Kd.C (Kd.int .u64) w A0 l0.length l0) (hw : Wd l0) (hl : l0.length ≤ 1000) :
    Calls Try.prog 53 #[.slice A0 l0.length c0] w fun e w' => ∃ s o : Int, e = .returned (.tuple #[.int .u64 s, .int .u64 o]) ∧ w = w' ∧ s + 18446744073709551616 * o = sI l0 ∧ 0 ≤ s ∧ s < 18446744073709551616 ∧ 0 ≤ o ∧ o ≤ l0.length := by
  have HR0 := Aside0.mk hr0
  have HW := Aside0.mk hw
  clear hr0 hw
  go_enter Try.func53, Try.ntmps53
  go_wp2
  go_loop [4, 5, 11] (fun v4 v5 v11 => ∃ (k : Nat) (s o : Int), k ≤ l0.length ∧ 0 ≤ o ∧ o ≤ k ∧ v11 = .int .i64 k ∧ v4 = .int .u64 s ∧ v5 = .int .u64 o ∧ Aside0 (s + 18446744073709551616 * o = sI (l0.take k) ∧ 0 ≤ s ∧ s < 18446744073709551616))
    (fun _ _ v11 => l0.length - (intOf v11).toNat)
  case atStart => exact ⟨0, 0, 0, Nat.zero_le _, by omega, by omega, rfl, rfl, rfl, ⟨by simp [sI], by omega, by omega⟩⟩
  case round =>
    obtain ⟨k, s, o, hk, ho0, ho1, rfl, rfl, rfl, HS⟩ := hrel
    by_cases hlt : k < l0.length
    · have hx := HW.out.rd (k : Int)
      obtain ⟨ad, e, hc⟩ := Kd.at_int HR0.out (k : Int) (by omega) (by omega)
      cases e
      rw [Int.toNat_natCast] at hc
      have ht := take_rd l0 k hlt
      generalize rd l0 (k : Int) = x at hx hc ht
      obtain ⟨s', o', h1, h2, h3, h4, h5, hrun⟩ := add64 s x HS.out.2 hx
      have HN : Aside0 (s' + 18446744073709551616 * (o + o') = sI (l0.take (k + 1)) ∧ 0 ≤ s' ∧ s' < 18446744073709551616) := ⟨by rw [ht, sI_append, ← HS.out.1]; simp only [sI]; omega, h2, h3⟩
      clear hx ht h1 h2 h3 HS
      go_wp2
      go_round
      case rel => exact ⟨k + 1, s', o + o', by omega, by omega, by push_cast; omega, by go_num, rfl, rfl, HN⟩
      case measure => simp [intOf]; omega
    · go_wp2
      have hkl : k = l0.length := by omega
      subst hkl
      rw [List.take_length] at HS
      go_ret2
      exact ⟨s, o, rfl, rfl, HS.out.1, HS.out.2.1, HS.out.2.2, ho0, ho1⟩

theorem wl_of : ∀ l : List Int, Wd l → wl l.length (wv l) = l
  | [], _ => rfl
  | x :: r, h => by
    have h0 := h x List.mem_cons_self
    have ih := wl_of r (fun y hy => h y (List.mem_cons_of_mem _ hy))
    rw [List.length_cons, wl, wv]
    congr 1
    · omega
    · rw [show (x.toNat + 18446744073709551616 * wv r) / 18446744073709551616 = wv r from by omega, ih]
theorem wv_wl : ∀ m v, v < 2 ^ (64 * m) → wv (wl m v) = v
  | 0, v, h => by simp at h; subst h; rfl
  | m + 1, v, h => by
    rw [show 64 * (m + 1) = 64 + 64 * m from by omega, Nat.pow_add] at h
    generalize hz : 2 ^ (64 * m) = Z at h
    rw [wl, wv, wv_wl m (v / 18446744073709551616) (by rw [hz]; omega)]
    omega
theorem Wd_wl : ∀ m v, Wd (wl m v)
  | 0, _ => fun _ h => by cases h
  | m + 1, v => fun x hx => by
    rw [wl] at hx
    rcases List.mem_cons.1 hx with rfl | hx
    · omega
    · exact Wd_wl m _ x hx
theorem wv_tr : ∀ l : List Int, wv (tr l) = wv l
  | [] => rfl
  | x :: r => by
    rw [tr, wv, ← wv_tr r]
    split
    · rename_i h; rw [h.1, h.2]; rfl
    · rfl
theorem tr_mem : ∀ (l : List Int), ∀ x ∈ tr l, x ∈ l
  | [], x, h => by cases h
  | y :: r, x, h => by
    rw [tr] at h
    split at h
    · cases h
    · rcases List.mem_cons.1 h with rfl | h
      · exact List.mem_cons_self
      · exact List.mem_cons_of_mem _ (tr_mem r x h)
theorem tr_top : ∀ (l : List Int), tr l = [] ∨ ∃ a x, tr l = a ++ [x] ∧ x ≠ 0
  | [] => Or.inl rfl
  | y :: r => by
    rw [tr]
    split
    · exact Or.inl rfl
    · rename_i h
      rcases tr_top r with e | ⟨a, x, e, hx⟩
      · exact Or.inr ⟨[], y, by rw [e]; rfl, fun hy => h ⟨e, hy⟩⟩
      · exact Or.inr ⟨y :: a, x, by rw [e]; rfl, hx⟩
theorem wv_append : ∀ a b : List Int, wv (a ++ b) = wv a + 2 ^ (64 * a.length) * wv b
  | [], b => by simp [wv]
  | x :: a, b => by
    rw [List.cons_append, wv, wv, wv_append a b, List.length_cons, show 64 * (a.length + 1) = 64 + 64 * a.length from by omega, Nat.pow_add, Nat.mul_add, Nat.mul_assoc]
    omega
theorem bl_ge (n m : Nat) : m < bl n ↔ 2 ^ m ≤ n := by
  have := bl_le m n
  omega
/-- Words without noughts at the end are their number's. -/
theorem tr_nw (l : List Int) (h : Wd l) : tr l = nw (wv l) := by
  have ht : Wd (tr l) := fun x hx => h x (tr_mem l x hx)
  have e1 := wl_of (tr l) ht
  rw [wv_tr] at e1
  have e2 : (bl (wv l) + 63) / 64 = (tr l).length := by
    rcases tr_top l with e | ⟨a, x, e, hx⟩
    · rw [← wv_tr l, e, wv, bl_zero]; rfl
    · have hlt := wv_lt ht
      have hge : 2 ^ (64 * a.length) ≤ wv (tr l) := by
        rw [e, wv_append, wv, wv]
        have := ht x (by rw [e]; simp)
        exact Nat.le_trans (Nat.le_mul_of_pos_right _ (show 0 < x.toNat + 18446744073709551616 * 0 by omega)) (Nat.le_add_left _ _)
      rw [wv_tr] at hlt hge
      have b1 := (bl_le _ _).2 hlt
      have b2 := (bl_ge _ _).2 hge
      have : (tr l).length = a.length + 1 := by rw [e]; simp
      omega
  rw [nw, e2]
  exact e1.symm
theorem nw_Wd (n : Nat) : Wd (nw n) := Wd_wl _ _
theorem wv_nw (n : Nat) : wv (nw n) = n := wv_wl _ _ ((bl_le _ _).1 (by omega))
theorem nw_len (n : Nat) : (nw n).length = (bl n + 63) / 64 := wl_len _ _
theorem tr_take (l : List Int) : tr l = l.take (tr l).length := by
  induction l with
  | nil => rfl
  | cons x r ih =>
    rw [tr]
    split
    · rfl
    · rw [List.length_cons, List.take_succ_cons, ← ih]
theorem tr_drop (l : List Int) (n : Nat) (h : ∀ x ∈ l.drop n, x = 0) : tr (l.take n) = tr l := by
  have : ∀ (r : List Int), (∀ x ∈ r, x = 0) → ∀ a, tr (a ++ r) = tr a := by
    intro r hr a
    induction r generalizing a with
    | nil => simp
    | cons y r ih =>
      have hy := hr y List.mem_cons_self
      subst hy
      rw [show a ++ 0 :: r = (a ++ [0]) ++ r from by simp, ih (fun x hx => hr x (List.mem_cons_of_mem _ hx)), tr_zero]
  conv => rhs; rw [← List.take_append_drop n l]
  exact (this _ h _).symm

set_option maxHeartbeats 800000 in
set_option maxRecDepth 100000 in
theorem trim_calls (A0 : Option Addr) (c0 : Nat) (l0 : List Int) (w : World) (hr0 : Kd.C (Kd.int .u64) w A0 l0.length l0) (hc0 : l0.length ≤ c0) (hl : l0.length ≤ 1000000) :
    Calls Try.prog 31 #[.slice A0 l0.length c0] w fun e w' => e = .returned (.slice A0 (tr l0).length (tr l0).length) ∧ w = w' := by
  have HR0 := Aside0.mk hr0
  clear hr0
  go_enter Try.func31, Try.ntmps31
  go_wp2
  go_loop [3] (fun v3 => ∃ k : Nat, k ≤ l0.length ∧ v3 = .int .i64 k ∧ Aside0 (tr (l0.take k) = tr l0)) (fun v3 => (intOf v3).toNat)
  case atStart => exact ⟨l0.length, Nat.le_refl _, rfl, ⟨by rw [List.take_length]⟩⟩
  case round =>
    obtain ⟨k, hk, rfl, HT⟩ := hrel
    cases k with
    | zero =>
      go_wp2
      go_ret
      have e : (tr l0).length = 0 := by have := HT.out; rw [List.take_zero] at this; rw [← this]; rfl
      exact ⟨by rw [e]; rfl, rfl⟩
    | succ j =>
      obtain ⟨ad, e, hc⟩ := Kd.at_int HR0.out (j : Int) (by omega) (by omega)
      cases e
      rw [Int.toNat_natCast] at hc
      have ht := take_rd l0 j (by omega)
      generalize rd l0 (j : Int) = x at hc ht
      by_cases hx : x = 0
      · subst hx
        have HT2 : Aside0 (tr (l0.take j) = tr l0) := ⟨by have := HT.out; rw [ht, tr_zero] at this; exact this⟩
        clear ht HT
        go_wp2
        go_round
        case rel => exact ⟨j, by omega, by go_num, HT2⟩
        case measure => simp [intOf]
      · have hx1 : (x == 0) = false := beq_eq_false_iff_ne.2 hx
        have HN : Aside0 (j + 1 = (tr l0).length) := ⟨by have := HT.out; rw [ht, tr_last _ _ hx] at this; rw [← this]; simp; omega⟩
        clear ht HT
        go_wp2
        go_ret
        exact ⟨by rw [← HN.out]; rfl, rfl⟩
theorem trim_of (A0 : Option Addr) (n c0 : Nat) (l0 : List Int) (hn : l0.length = n) (w : World) (hr0 : Kd.C (Kd.int .u64) w A0 l0.length l0) (hc0 : n ≤ c0) (hl : n ≤ 1000000) :
    Calls Try.prog 31 #[.slice A0 n c0] w fun e w' => e = .returned (.slice A0 (tr l0).length (tr l0).length) ∧ w = w' := by
  subst hn
  exact trim_calls A0 c0 l0 w hr0 hc0 hl
end Go.Proofs.Ytjkelnnjfpcapaa.Num
