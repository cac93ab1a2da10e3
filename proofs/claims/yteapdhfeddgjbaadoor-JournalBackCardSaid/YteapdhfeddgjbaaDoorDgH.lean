/- digest: what the document's Sum comes to, in plain Lean. -/
import Derived.Test.YteapdhfeddgjbaaDoorNumD
import Derived.Test.YteapdhfeddgjbaaDoorDgG
namespace Go.Proofs.YteapdhfeddgjbaaDoor.Dg
set_option linter.unusedVariables false
open Go.RowKit Go.Proofs.YteapdhfeddgjbaaDoor.PDj Go.Proofs.YteapdhfeddgjbaaDoor.Num Go.Proofs.YteapdhfeddgjbaaDoorW Go.Proofs.YteapdhfeddgjbaaDoorW.PrintWords Go.Proofs.YteapdhfeddgjbaaDoorW.PrintLast Go.Proofs.YteapdhfeddgjbaaDoorW.PrintMore

theorem be8 (v : Nat) : be 8 v = b8 v := by
  simp only [be, le, b8, List.reverse_cons, List.reverse_nil, List.nil_append, List.cons_append, Nat.div_div_eq_div_mul]
theorem be4 (x : Int) (h0 : 0 ≤ x) : be 4 x.toNat = w4 x := by
  simp only [be, le, w4, List.reverse_cons, List.reverse_nil, List.nil_append, List.cons_append, Nat.div_div_eq_div_mul]
  congr 1
  · omega
  · congr 1
    · omega
    · congr 1
      · omega
      · congr 1
        omega
def W32 (l : List Int) : Prop := ∀ x ∈ l, 0 ≤ x ∧ x < 4294967296
theorem adds_W32 (h v : List Int) : ∀ i, W32 (adds h v i)
  | 0 => fun x hx => by cases hx
  | i + 1 => fun x hx => by
    rw [adds, List.mem_append] at hx
    rcases hx with hx | hx
    · exact adds_W32 h v i x hx
    · rw [List.mem_singleton.1 hx]; omega
theorem blk_W32 (h b : List Int) : W32 (blk h b) := adds_W32 _ _ _
theorem BB_W32 : W32 BB := by unfold W32 BB; decide
theorem run_W32 : ∀ n h m, W32 h → W32 (run h n m)
  | 0, _, _, hh => hh
  | n + 1, h, m, hh => run_W32 n _ _ (blk_W32 _ _)
theorem outs_append : ∀ a b : List Int, outs (a ++ b) = outs a ++ outs b
  | [], b => rfl
  | x :: a, b => by rw [List.cons_append, outs, outs, outs_append a b, List.append_assoc]
theorem dsum2 (H : List Int) (hl : H.length = 8) (hw : W32 H) : ∀ r i, i + r = 8 → Ev (fun k => cleromancyref05_Sum.l2 k H (outs (H.take i)) (i : Int)) (outs H)
  | 0, i, hi => by
    refine Ev.step (f := fun _ => _) (fun k => by rw [cleromancyref05_Sum.l2, if_neg (by omega)]) ?_
    rw [List.take_of_length_le (by omega)]
    exact Ev.now _
  | r + 1, i, hi => by
    have ih := dsum2 H hl hw r (i + 1) (by omega)
    have hx : 0 ≤ rd H (i : Int) ∧ rd H (i : Int) < 4294967296 := by rw [rd_nat H i (by omega)]; exact hw _ (List.getElem_mem _)
    have e1 : IntKind.u64.wrap (rd H (i : Int)) = rd H (i : Int) := by unfold IntKind.wrap; simp [IntKind.bits, IntKind.signed]; omega
    refine Ev.step (fun k => by rw [cleromancyref05_Sum.l2, if_pos (by omega), if_pos (by omega), if_pos (by omega), e1]) ?_
    have hwd : Wd [rd H (i : Int)] := fun y hy => by rw [List.mem_singleton.1 hy]; omega
    refine Ev.bind (words_ev [rd H (i : Int)] hwd (by simp)) ?_
    have hv : vn (dg (wv [rd H (i : Int)])) = (rd H (i : Int)).toNat := by rw [vn_dg]; simp [wv]
    refine Ev.bind (tobig_ev (dg (wv [rd H (i : Int)])) (dg_Dg _) (Nat.le_trans (dg_len_le _ 10 (by simp [wv]; omega)) (by omega)) 4 (by omega)) ?_
    rw [hv, be4 _ hx.1]
    have e2 : outs (H.take i) ++ w4 (rd H (i : Int)) = outs (H.take (i + 1)) := by
      rw [take_rd H i (by omega), outs_append]; simp [outs]
    refine Ev.congr (fun k => by rw [if_pos (by simp [outs_len, w4]; omega), e2, w64 _ (by omega) (by omega), natCast_succ']) ?_
    exact ih
theorem seg_len (M : List Int) (i r : Nat) (h : 64 * (i + (r + 1)) = M.length) : ((M.drop (64 * i)).take 64).length = 64 := by simp; omega
theorem dsum1 (M : List Int) (hb : By M) (hM : M.length ≤ 2000000) : ∀ r i, 64 * (i + r) = M.length → Ev (fun k => cleromancyref05_Sum.l1 k M (run BB i M) ((64 * i : Nat) : Int)) (outs (run BB (M.length / 64) M))
  | 0, i, hi => by
    refine Ev.step (fun k => by rw [cleromancyref05_Sum.l1, if_neg (by omega)]) ?_
    rw [show M.length / 64 = i from by omega]
    exact dsum2 _ (run_len BB rfl _ _) (run_W32 _ _ _ BB_W32) 8 0 rfl
  | r + 1, i, hi => by
    have ih := dsum1 M hb hM r (i + 1) (by omega)
    have e1 : wrap64 (((64 * i : Nat) : Int) + 64) = ((64 * (i + 1) : Nat) : Int) := by rw [w64 _ (by omega) (by omega)]; omega
    have e2 : ((M.take (((64 * (i + 1) : Nat) : Int)).toNat).drop (((64 * i : Nat) : Int)).toNat) = (M.drop (64 * i)).take 64 := by
      rw [Int.toNat_natCast, Int.toNat_natCast, List.drop_take, show 64 * (i + 1) - 64 * i = 64 from by omega]
    have e3 : cleromancyref05_block.f (run BB i M) ((M.drop (64 * i)).take 64) = some (run BB (i + 1) M) := by
      unfold cleromancyref05_block.f blkO
      rw [if_pos ⟨run_len BB rfl _ _, seg_len M i r hi, fun x hx => hb x (List.mem_of_mem_drop (List.mem_of_mem_take hx))⟩, run_next]
    refine Ev.step (fun k => by rw [cleromancyref05_Sum.l1, if_pos (by omega), if_pos (by omega), e1, if_pos (by omega), if_pos (by omega), e2, e3, Option.bind_some]) ?_
    exact ih
theorem By_append {a b : List Int} (ha : By a) (hb : By b) : By (a ++ b) := fun x hx => by
  rcases List.mem_append.1 hx with h | h
  · exact ha x h
  · exact hb x h
theorem tail_By (d : List Int) : By (tailOf d) := by
  unfold tailOf
  refine By_append (By_append ?_ ?_) ?_
  · intro x hx; rw [List.mem_singleton.1 hx]; omega
  · intro x hx; rw [List.eq_of_mem_replicate hx]; omega
  · intro x hx
    rw [b8] at hx
    simp only [List.mem_cons, List.not_mem_nil, or_false] at hx
    have key : ∀ n : Nat, 0 ≤ ((n % 256 : Nat) : Int) ∧ ((n % 256 : Nat) : Int) < 256 := fun n => by omega
    rcases hx with h | h | h | h | h | h | h | h <;> (rw [h]; exact key _)
theorem pad_mod (d : List Int) (i : Nat) (h : i < zs d.length) : ¬ (((d ++ [128] ++ List.replicate i 0).length : Int) % 64 = 56) := by
  rw [List.length_append, List.length_append, List.length_replicate]
  simp only [List.length_cons, List.length_nil]
  unfold zs at h
  omega
theorem pad_end (d : List Int) : (((d ++ [128] ++ List.replicate (zs d.length) 0).length : Int) % 64 = 56) := by
  have := (zs_is d.length).1
  rw [List.length_append, List.length_append, List.length_replicate]
  simp only [List.length_cons, List.length_nil]
  omega
theorem dsum0 (d : List Int) (hb : By d) (hd : d.length ≤ 1500000) : ∀ r i, i + r = zs d.length → Ev (fun k => cleromancyref05_Sum.l0 k d (d ++ [128] ++ List.replicate i 0)) (sha d)
  | 0, i, hi => by
    obtain rfl : i = zs d.length := by omega
    have h8 : wrap64 (8 * (d.length : Int)) = ((8 * d.length : Nat) : Int) := by rw [w64 _ (by omega) (by omega)]; omega
    refine Ev.step (fun k => by rw [cleromancyref05_Sum.l0, if_pos (pad_end d), h8]) ?_
    refine Ev.bind (int_ev (8 * d.length) (by omega)) ?_
    refine Ev.bind (tobig_ev (dg (8 * d.length)) (dg_Dg _) (Nat.le_trans (dg_len_le _ 10 (by omega)) (by omega)) 8 (by omega)) ?_
    rw [vn_dg, be8]
    have e1 : d ++ [128] ++ List.replicate (zs d.length) 0 ++ b8 (8 * d.length) = d ++ tailOf d := by unfold tailOf; simp [List.append_assoc]
    have e2 := tail_len d
    have e3 := (zs_is d.length).2
    have e4 : (d ++ [128] ++ List.replicate (zs d.length) 0).length = d.length + 1 + zs d.length := by simp; omega
    refine Ev.congr (fun k => by rw [if_pos (by rw [e4]; show _ + 8 < _; omega), e1]) ?_
    refine Ev.congr (fun k => by rw [show cleromancyref05_Begin.f = some BB from rfl, Option.bind_some]) ?_
    have := dsum1 (d ++ tailOf d) (By_append hb (tail_By d)) (by rw [List.length_append, e2.2]; omega) ((d ++ tailOf d).length / 64) 0 (by omega)
    exact this
  | r + 1, i, hi => by
    have ih := dsum0 d hb hd r (i + 1) (by omega)
    have e4 : (d ++ [128] ++ List.replicate i 0).length = d.length + 1 + i := by simp; omega
    have e3 := (zs_is d.length).2
    refine Ev.step (fun k => by rw [cleromancyref05_Sum.l0, if_neg (pad_mod d i (by omega)), if_pos (by rw [e4]; omega), List.append_assoc, ← List.replicate_succ']) ?_
    exact ih
theorem dsum_ev (d : List Int) (hb : By d) (hd : d.length ≤ 1500000) : Ev (fun k => cleromancyref05_Sum.f k d) (sha d) := by
  unfold cleromancyref05_Sum.f
  refine Ev.congr (fun k => by rw [List.nil_append, if_pos (by simp; omega), Option.bind_some, if_pos (by omega)]) ?_
  have := dsum0 d hb hd (zs d.length) 0 (by omega)
  rw [List.replicate_zero, List.append_nil] at this
  exact this
theorem sha_By (d : List Int) : By (sha d) := by
  unfold sha
  generalize run BB _ _ = l
  induction l with
  | nil => intro x hx; cases hx
  | cons y l ih =>
    rw [outs]
    refine By_append ?_ ih
    intro x hx
    rw [w4] at hx
    simp only [List.mem_cons, List.not_mem_nil, or_false] at hx
    rcases hx with h | h | h | h <;> (rw [h]; exact byte_lt _)
end Go.Proofs.YteapdhfeddgjbaaDoor.Dg
