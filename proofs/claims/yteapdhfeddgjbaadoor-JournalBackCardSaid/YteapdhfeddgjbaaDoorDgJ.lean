/- journal: check, Frame; slices.Clone, by the program's text. -/
import Derived.Test.YteapdhfeddgjbaaDoorDgI
namespace Go.Proofs.YteapdhfeddgjbaaDoor.Dg
set_option linter.unusedVariables false
set_option linter.unusedSimpArgs false
open Go.RowKit Go.Proofs.YteapdhfeddgjbaaDoor.PDb Go.Proofs.YteapdhfeddgjbaaDoorW Go.Proofs.YteapdhfeddgjbaaDoorW.PrintWords Go.Proofs.YteapdhfeddgjbaaDoorW.PrintLast Go.Proofs.YteapdhfeddgjbaaDoorW.PrintMore

/-- Bytes. -/
def Bt (l : List Int) : Prop := ∀ x ∈ l, 0 ≤ x ∧ x < 256
theorem Bt.rd {l : List Int} (h : Bt l) (i : Int) : 0 ≤ PrintWords.rd l i ∧ PrintWords.rd l i < 256 := by
  unfold PrintWords.rd
  rw [List.getD_eq_getElem?_getD]
  by_cases hi : i.toNat < l.length
  · rw [List.getElem?_eq_getElem hi, Option.getD_some]; exact h _ (List.getElem_mem hi)
  · rw [List.getElem?_eq_none (by omega), Option.getD_none]; omega
theorem Bt.append {a b : List Int} (ha : Bt a) (hb : Bt b) : Bt (a ++ b) := fun x hx => by
  rcases List.mem_append.1 hx with h | h
  · exact ha x h
  · exact hb x h
theorem w4_Bt (x : Int) : Bt (w4 x) := fun y hy => by
  rw [w4] at hy
  simp only [List.mem_cons, List.not_mem_nil, or_false] at hy
  rcases hy with h | h | h | h <;> (rw [h]; exact byte_lt _)
theorem outs_Bt : ∀ l, Bt (outs l)
  | [] => fun x hx => by cases hx
  | y :: l => by rw [outs]; exact (w4_Bt y).append (outs_Bt l)
theorem sha_Bt (d : List Int) : Bt (sha d) := outs_Bt _
theorem Bt.take {l : List Int} (h : Bt l) (n : Nat) : Bt (l.take n) := fun x hx => h x (List.mem_of_mem_take hx)
theorem Bt.drop {l : List Int} (h : Bt l) (n : Nat) : Bt (l.drop n) := fun x hx => h x (List.mem_of_mem_drop hx)
/-- A frame's eight bytes. -/
def chk (s r : List Int) : List Int := (sha (s ++ r)).take 8
theorem chk_len (s r : List Int) : (chk s r).length = 8 := by unfold chk; rw [List.length_take, sha_len]; rfl
/-- A frame. -/
def frm (r : List Int) : List Int := w4 (r.length : Int) ++ (chk (w4 (r.length : Int)) r ++ r)
theorem frm_len (r : List Int) : (frm r).length = 12 + r.length := by
  unfold frm; rw [List.length_append, List.length_append, chk_len]; show 4 + (8 + r.length) = _; omega
set_option maxHeartbeats 4000000 in
set_option maxRecDepth 100000 in
theorem check_calls (A0 : Option Addr) (n0 c0 : Nat) (s : List Int) (A1 : Option Addr) (n1 c1 : Nat) (r : List Int) (hs : s.length = n0) (hr : r.length = n1) (h0 : n0 < 60) (h1 : n1 ≤ 900000) (hc0 : n0 ≤ c0) (hc1 : n1 ≤ c1) (hbs : Bt s) (hbr : Bt r) (w : World)
    (hS : Kd.C (Kd.int .u8) w A0 s.length s) (hR : Kd.C (Kd.int .u8) w A1 r.length r) (hK : Tab w 2 KK) :
    Calls Tryd.prog 47 #[.slice A0 n0 c0, .slice A1 n1 c1] w fun e w' => ∃ A c, e = .returned (.slice A 8 c) ∧ 8 ≤ c ∧ Kd.C (Kd.int .u8) w' A (chk s r).length (chk s r) ∧ Below w.heap.size w w' := by
  have HW1 : Aside0 (∀ g w1, Below w.heap.size w w1 → IsHs w1 w.heap.size g [] → Calls Tryd.prog 71 #[.pointer (some ⟨g, 0, none⟩), .slice A0 n0 c0] w1 fun e w' => ∃ v, e = .returned v ∧ IsHb w' w.heap.size g s ∧ (s.length < 64 → IsHs w' w.heap.size g s) ∧ Below w.heap.size w w') := ⟨fun g w1 hb hh => write_calls g [] A0 n0 c0 s hs hc0 (by omega) (fun i => by rw [List.nil_append]; exact hbs.rd i) w w1 hb hS hK hh⟩
  have HW2 : Aside0 (∀ g w1, Below w.heap.size w w1 → IsHs w1 w.heap.size g s → Calls Tryd.prog 71 #[.pointer (some ⟨g, 0, none⟩), .slice A1 n1 c1] w1 fun e w' => ∃ v, e = .returned v ∧ IsHb w' w.heap.size g (s ++ r) ∧ ((s ++ r).length < 64 → IsHs w' w.heap.size g (s ++ r)) ∧ Below w.heap.size w w') := ⟨fun g w1 hb hh => write_calls g s A1 n1 c1 r hr hc1 (by omega) (fun i => (hbs.append hbr).rd i) w w1 hb hR hK hh⟩
  have HSU : Aside0 (∀ g w1, Below w.heap.size w w1 → IsHb w1 w.heap.size g (s ++ r) → Calls Tryd.prog 72 #[.pointer (some ⟨g, 0, none⟩)] w1 fun e w' => ∃ v, e = .returned v ∧ Kd.R (Kd.int .u8) 5 w' w1.heap.size (fun _ => True) v (sha (s ++ r)) ∧ Below w1.heap.size w1 w') := ⟨fun g w1 hb hh => sum_calls w.heap.size g (s ++ r) (by rw [List.length_append]; omega) w1 hh (hK.below hb) (hbs.append hbr)⟩
  have HS := Aside0.mk hs
  have H0 := Aside0.mk h0
  clear hs hr h0 h1 hc0 hc1 hbs hbr hS hR hK
  go_enter Tryd.func47, Tryd.ntmps47
  go_wp2_with (first
    | (go_at_call 70; (with_reducible refine (new_calls _).mono ?_); rintro e w1 ⟨g, rfl, hh, hb⟩; have HH := Aside0.mk hh; have HB := Aside0.mk hb; clear hh hb)
    | (go_at_call 71; (with_reducible refine (HW1.out g w1 HB.out HH.out).mono ?_); rintro e w2 ⟨v2, rfl, -, hh, hb⟩; have HH2 := Aside0.mk (hh (by have := HS.out; have := H0.out; omega)); have HB2 := Aside0.mk hb; clear hh hb)
    | (go_at_call 71; (with_reducible refine (HW2.out g w2 HB2.out HH2.out).mono ?_); rintro e w3 ⟨v3, rfl, hh, -, hb⟩; have HH3 := Aside0.mk hh; have HB3 := Aside0.mk hb; clear hh hb)
    | (go_at_call 72; (with_reducible refine (HSU.out g w3 HB3.out HH3.out).mono ?_); rintro e w4 ⟨v4, rfl, ho, hb⟩; obtain ⟨A4, c4, e4⟩ := Kd.R_slice ho; subst e4; have HO := Aside0.mk ho; have HB4 := Aside0.mk hb; obtain ⟨ad, ea⟩ := C_some (Kd.R_reads' ho).2.2 (by rw [sha_len]; omega); subst ea; have hcc := (Kd.R_reads' ho).2.1; rw [sha_len] at hcc HO ⊢; have HE := ad_add0 ad; clear ho hb)
    | fail)
  go_ret
  refine ⟨_, _, rfl, by omega, ?_, ?_⟩
  · have h := Kd.R_take (m := 8) HO.out (by rw [sha_len]; omega)
    exact (Kd.R_reads' h).2.2
  · exact below_then HB3.out HB3.out.size HB4.out
end Go.Proofs.YteapdhfeddgjbaaDoor.Dg
