/- Several texts made one. -/
import Derived.Test.YteapdhfeddgjbaaDoorSTrXb
import Derived.Deep.RegionHeld3
section
/- tree: the document's Rows. -/
namespace Go.Proofs.YteapdhfeddgjbaaDoor.Dg
set_option linter.unusedVariables false
set_option linter.unusedSimpArgs false
open Go.RowKit Go.Shelf Go.Proofs.YteapdhfeddgjbaaDoor.Rny Go.Proofs.YteapdhfeddgjbaaDoor.PDj Go.Proofs.YteapdhfeddgjbaaDoor.Num Go.Proofs.YteapdhfeddgjbaaDoorW Go.Proofs.YteapdhfeddgjbaaDoorW.PrintWords Go.Proofs.YteapdhfeddgjbaaDoorW.PrintLast Go.Proofs.YteapdhfeddgjbaaDoorW.PrintMore
attribute [local go_sem] Oper.semAt_some

abbrev rowsK : Kd (List (List Int)) := Kd.slice 24 rowK
/-- A row inside is none of a row of another type. -/
theorem R_apart {α β : Type} {d : Kd α} {D : Kd β} {e e2 : Nat} (hne : e2 ∉ e :: d.E) {w : World} {B B2 : Nat} {ok ok' : Nat → Prop} {u v : Value} {xs : List α} {ys : List β} (hu : d.R e w B ok' u xs) (h : D.R e2 w B2 ok v ys) : d.R e w B (fun k => some k ≠ v.ownBlock) u xs :=
  Kd.R_mono (Kd.R_bound hu) fun k hk he => by
    obtain ⟨_, _, _, q, hq, cs, hc⟩ := hk
    obtain ⟨inner, ho⟩ := Kd.R_own h
    obtain ⟨cs', hc'⟩ := own_typed ho k he.symm
    rw [hc] at hc'
    cases hc'
    exact hne hq
theorem info22 : (Tryd.prog.info? 22).map (fun i => (i.zero, i.size, i.bytes)) = some (some (.slice none 0 0), 1, 24) := by kernel_rfl
/-- append(rows, row). -/
theorem rows_push {w1 : World} (B : Nat) (v : Value) (xs : List (List (List Int))) (hR : rowsK.R 22 w1 B (fun _ => True) v xs) (u : Value) (p : List (List Int)) {ok' : Nat → Prop} (hu : rowK.R 24 w1 B ok' u p) (hB : B ≤ w1.heap.size) (hl : xs.length ≤ 200000) :
    ∃ v5 w5, (Builtin.append_ #[109, 109] 109 #[v, .slice (some ⟨w1.heap.size, 0, none⟩) 1 1]).run Tryd.prog (w1.alloc (.cells #[u] 22)) = .ok v5 w5 ∧ rowsK.R 22 w5 B (fun _ => True) v5 (xs ++ [p]) ∧ w1.grownBy w5 v.ownBlock ∧ (v5.ownBlock = v.ownBlock ∨ ∃ b, v5.ownBlock = some b ∧ w1.heap.size ≤ b) :=
  R_append_run (P := Tryd.prog) rowsK (W := w1) B 109 109 22 (.slice none 0 0) 24 Tryd.underlying109 info22 rfl (by decide) (by decide) v xs p [u] (fun _ => True) _ ⟨u, rfl, R_apart (by decide) hu hR⟩ (fun k hk => ⟨trivial, hk⟩) (fun _ _ => trivial) hR hB (by omega)
theorem rows_lit {w1 : World} (B : Nat) (u : Value) (p : List (List Int)) {ok : Nat → Prop} (hu : rowK.R 24 w1 B ok u p) (h1 : u.oneCell' = true) (hB : B ≤ w1.heap.size) : rowsK.R 22 (w1.alloc (.cells #[u] 22)) B (fun _ => True) (.slice (some ⟨w1.heap.size, 0, none⟩) 1 1) [p] := by
  refine ⟨fun _ _ => trivial, [u], World.ownsRow_lit w1 #[u] 1 hB (by simp [maxLen]) rfl, ?_⟩
  have h := Reps.snoc (R := rowsK.M (w1.alloc (.cells #[u] 22)) B (fun k => True ∧ some k ≠ (Value.slice (some ⟨w1.heap.size, 0, none⟩) 1 1).ownBlock)) (size := 1) (ps := []) (cs := []) (c := [u]) (p := p) (Reps.none _ _) ⟨u, rfl, Kd.R_mono (Kd.R_below (Kd.R_bound hu) (below_alloc (Below.refl _ _) _)) (fun k hk => ⟨trivial, fun e => by have h2 := hk.2.2.1; simp [Value.ownBlock] at e; omega⟩)⟩ rfl
  exact h
theorem rows_own {w : World} {B : Nat} {ok : Nat → Prop} {v : Value} {xs : List (List (List Int))} (h : rowsK.R 22 w B ok v xs) : ∀ r, v.ownBlock = some r → B ≤ r ∧ ∃ cs, w.heap[r]? = some (.cells cs 22 (0, 0)) := fun r hr => by
  obtain ⟨inner, ho⟩ := Kd.R_own h
  exact ⟨own_base ho r hr, own_typed ho r hr⟩
set_option maxHeartbeats 6400000 in
set_option maxRecDepth 100000 in
theorem rrows_calls (A : Option Addr) (N c : Nat) (ts : List (List Int)) (hN : ts.length = N) (hb : ∀ t ∈ ts, Bt t ∧ t.length ≤ 800000) (hN1 : N ≤ 100000) (w : World) (hC : rowK.C w A N ts) :
    Calls Tryd.prog 61 #[.slice A N c] w (fun e w' => ∃ v, e = .returned v ∧ rowsK.R 22 w' w.heap.size (fun _ => True) v (rowsOf ts) ∧ Below w.heap.size w w') := by
  have HC := Aside0.mk hC
  have HN := Aside0.mk hN
  have HBT := Aside0.mk hb
  have HN9 : Aside0 (1 ≤ 9) := ⟨by omega⟩
  have HSU : Aside0 (∀ W' A c m l, l.length = m → Bt l → m ≤ 900000 → m ≤ c → Kd.C (Kd.int .u8) W' A m l → Calls Tryd.prog 53 #[.slice A m c] W' (Own W' (sha l))) := ⟨fun W' A c m l e hb hm hc hC => dsum_calls A m c l e hb hm hc W' hC⟩
  clear hC hN hb
  refine (callsIn_wide (n := 9)).1 ?_
  refine callsIn_of_wp Tryd.func61 rfl trivial ?_ rfl
  simp only [Tryd.ntmps61, List.size_toArray, List.length_cons, List.length_nil, Nat.reduceAdd, Nat.reduceSub, Array.replicate_succ, Array.replicate_zero, List.push_toArray, List.append_toArray, List.nil_append, List.cons_append]
  gi_wp2_with fail
  gi_loopw [3, 4] (fun v3 v4 wr => ∃ i : Nat, v4 = .int .i64 (i : Int) ∧ i ≤ N ∧ Aside0 (rowK.R 24 wr w.heap.size (fun _ => True) v3 ((leavesOf ts).take i)) ∧ Aside0 (Below w.heap.size w wr))
    (fun _ v4 _ => N - (intOf v4).toNat)
  case atStart => exact ⟨0, rfl, Nat.zero_le _, ⟨Kd.R_nil _ _ _ _ _⟩, ⟨Below.refl _ _⟩⟩
  case round =>
    obtain ⟨i, rfl, hi, HR, HBr⟩ := hrel
    obtain ⟨A5, c5, e5⟩ := Kd.R_slice HR.out
    obtain ⟨N5, hN5⟩ : ∃ N5, ((leavesOf ts).take i).length = N5 := ⟨_, rfl⟩
    rw [hN5] at e5
    subst e5
    by_cases hlt : i < N
    · obtain ⟨ad0, A2, c2, rfl, hc2, hl2, hC2⟩ := at_row (Kd.C_below HC.out HBr.out) i hlt
      have hbt := HBT.out _ (mem_gd ts i (by rw [HN.out]; exact hlt))
      have htk : (leavesOf ts).take (i + 1) = (leavesOf ts).take i ++ [sha (leafT (ts.getD i []))] := by
        have hll : i < (leavesOf ts).length := by unfold leavesOf; rw [List.length_map, HN.out]; exact hlt
        rw [take_gd _ i hll, List.getD_eq_getElem?_getD, List.getD_eq_getElem?_getD]
        unfold leavesOf
        rw [List.getElem?_map, List.getElem?_eq_getElem (by rw [HN.out]; exact hlt)]
        rfl
      obtain ⟨t, ht⟩ : ∃ t, ts.getD i [] = t := ⟨_, rfl⟩
      rw [ht] at hc2 hl2 hC2 hbt htk
      obtain ⟨m, hm⟩ : ∃ m, t.length = m := ⟨_, rfl⟩
      rw [hm] at hc2 hl2 hC2
      have HLF := Aside0.mk (rleaf_calls A2 m c2 t hm (by have := hbt.2; omega) hl2 wr hC2)
      have HLT : Aside0 ((leafT t).length = m + 1 ∧ Bt (leafT t) ∧ m + 1 ≤ 900000) := ⟨by unfold leafT; rw [List.length_cons, hm], leaf_Bt hbt.1, by have := hbt.2; omega⟩
      have HTK := Aside0.mk htk
      have HTL : Aside0 (((leavesOf ts).take i).length ≤ 200000) := ⟨by rw [List.length_take]; omega⟩
      have hid : (i : Int) < (N : Int) := by omega
      clear ht hm hbt htk hC2 hl2
      gi_wp2_with (first
        | (refine ⟨trivial, ?_⟩; gi_at_call 58; (with_reducible refine (callsIn_wide.2 HLF.out).mono ?_); rintro e w1 ⟨v1, rfl, ho, hb⟩; obtain ⟨A1, c1, e1⟩ := Kd.R_slice ho; subst e1; rw [HLT.out.1] at ho ⊢; have HO := Aside0.mk ho; have HB1 := Aside0.mk hb; clear ho hb)
        | (refine ⟨trivial, ?_⟩; gi_at_call 53; (with_reducible refine (callsIn_wide.2 (HSU.out w1 A1 c1 (m + 1) (leafT t) HLT.out.1 HLT.out.2.1 HLT.out.2.2 (Kd.R_reads' HO.out).2.1 (by have h := (Kd.R_reads' HO.out).2.2; rw [HLT.out.1] at h; exact h))).mono ?_); rintro e w2 ⟨v2, rfl, ho, hb⟩; obtain ⟨A2', c2', e2⟩ := Kd.R_slice ho; subst e2; rw [sha_len] at ho ⊢; have HO2 := Aside0.mk (Kd.R_lower ho (Nat.le_trans HBr.out.size HB1.out.size)); have HB2 := Aside0.mk (below_then (below_then HBr.out HBr.out.size HB1.out) (Nat.le_trans HBr.out.size HB1.out.size) hb); have HR1 := Aside0.mk (Kd.R_below (Kd.R_below HR.out HB1.out) hb); clear ho hb)
        | (gi_at_builtin; obtain ⟨v5, w5, hrun, hR5, hg5, hat5⟩ := row_push w.heap.size _ _ HR1.out _ _ HO2.out HB2.out.size HTL.out; refine append_in (.tmp 14) (.tmp 21) 22 rfl rfl hrun ?_)
        | fail)
      exact ⟨⟨i + 1, rfl, hlt, ⟨by rw [HTK.out]; exact hR5⟩, ⟨HB2.out.grown hg5 HB2.out.size (fun k hk => (row_own HR1.out k hk).1)⟩⟩, meas_nat hlt⟩
    · obtain rfl : i = N := by omega
      have htk : (leavesOf ts).take i = leavesOf ts := List.take_of_length_le (by unfold leavesOf; rw [List.length_map, HN.out]; exact Nat.le_refl _)
      rw [htk] at HR hN5
      have HL5 : Aside0 ((leavesOf ts).length = i) := ⟨by unfold leavesOf; rw [List.length_map, HN.out]⟩
      have hNi : N5 = i := by rw [← hN5]; exact HL5.out
      subst hNi
      have hid : ¬ (N5 : Int) < (N5 : Int) := by omega
      clear htk hlt hi hN5
      gi_wp2_with fail
      gi_loopw [3, 5] (fun v3 v5 wr2 => ∃ (k : Nat) (pre : List (List (List Int))) (xs : List (List Int)), Aside0 (rowsOf ts = pre ++ rowsF k xs) ∧ xs.length < k ∧ xs.length ≤ 100000 ∧ pre.length + k ≤ 100001 ∧ Aside0 (∀ x ∈ xs, Sm x) ∧ Aside0 (rowK.R 24 wr2 w.heap.size (fun _ => True) v3 xs) ∧ Aside0 (rowsK.R 22 wr2 w.heap.size (fun _ => True) v5 (pre ++ [xs])) ∧ Aside0 (Below w.heap.size w wr2))
        (fun v3 _ _ => lenOf v3)
      case atStart =>
        refine ⟨ts.length + 1, [], leavesOf ts, ⟨rfl⟩, by rw [HL5.out, HN.out]; omega, by rw [HL5.out]; exact hN1, by rw [HN.out]; simp; omega, ⟨leaves_Sm ts⟩, ⟨Kd.R_below HR.out (below_alloc (Below.refl _ _) _)⟩, ⟨?_⟩, ⟨below_alloc HBr.out _⟩⟩
        exact rows_lit w.heap.size _ _ HR.out rfl HBr.out.size
      case round =>
        clear HR HBr HL5
        obtain ⟨k, pre, xs, HF, hk, hx, hpk, HSM, HR, HX, HB⟩ := hrel
        obtain ⟨A3, c3, e3⟩ := Kd.R_slice HR.out
        subst e3
        obtain ⟨Ao, co, eo⟩ := Kd.R_slice HX.out
        rw [List.length_append, List.length_singleton] at eo
        subst eo
        obtain ⟨m, hm⟩ : ∃ m, xs.length = m := ⟨_, rfl⟩
        obtain ⟨k, rfl⟩ : ∃ k', k = k' + 1 := ⟨k - 1, by omega⟩
        rw [rowsF_succ] at HF
        have HM := Aside0.mk hm
        have HRm : Aside0 (rowK.R 24 wr w.heap.size (fun _ => True) (.slice A3 m c3) xs) := ⟨by rw [← hm]; exact HR.out⟩
        rw [hm] at hk hx ⊢
        clear hm HR
        by_cases h1 : 1 < m
        · have h1' : (1 : Int) < (m : Int) := by omega
          rw [HM.out, if_pos h1] at HF
          obtain ⟨S0, hS0⟩ : ∃ S0, wr.heap.size = S0 := ⟨_, rfl⟩
          have HS4 : Aside0 (w.heap.size ≤ S0) := ⟨by rw [← hS0]; exact HB.out.size⟩
          have HS0 := Aside0.mk hS0
          clear hS0
          gi_wp2_with fail
          gi_loopw [6, 7] (fun v6 v7 wr3 => ∃ i : Nat, v7 = .int .i64 ((2 * i : Nat) : Int) ∧ 2 * i ≤ m + 1 ∧ Aside0 (rowK.R 24 wr3 w.heap.size (fun _ => True) v6 (up (xs.take (2 * i)))) ∧ Aside0 (∀ r, v6.ownBlock = some r → S0 ≤ r) ∧ Aside0 (rowK.R 24 wr3 w.heap.size (fun k => k < S0) (.slice A3 m c3) xs) ∧ Aside0 (rowsK.R 22 wr3 w.heap.size (fun k => k < S0) (.slice Ao (pre.length + 1) co) (pre ++ [xs])) ∧ Aside0 (Below w.heap.size w wr3) ∧ Aside0 (S0 ≤ wr3.heap.size))
            (fun _ v7 _ => m + 1 - (intOf v7).toNat)
          case atStart => exact ⟨0, rfl, Nat.zero_le _, ⟨Kd.R_nil _ _ _ _ _⟩, ⟨fun r h => by simp [Value.ownBlock] at h⟩, ⟨Kd.R_mono (Kd.R_bound HRm.out) (fun k hk => by have := hk.2.2.1; have := HS0.out; omega)⟩, ⟨Kd.R_mono (Kd.R_bound HX.out) (fun k hk => by have := hk.2.2.1; have := HS0.out; omega)⟩, HB, ⟨by rw [HS0.out]; exact Nat.le_refl _⟩⟩
          case round =>
            clear HRm HX HB HS0
            obtain ⟨i, rfl, hi, HR6, HO6, HR4, HX4, HB4, HZ4⟩ := hrel
            obtain ⟨j, hj⟩ : ∃ j, 2 * i = j := ⟨_, rfl⟩
            rw [hj] at hi HR6 ⊢
            have HJJ := Aside0.mk hj
            by_cases hlt : j < m
            · by_cases hl2 : j + 1 < m
              · obtain ⟨ad, B1, d1, e1, hc1, hR1⟩ := row_elem HR4.out j hlt
                subst e1
                obtain ⟨ad', B2, d2, e2, hc2, hR2⟩ := row_elem HR4.out (j + 1) hl2
                cases e2
                have hs1 := HSM.out _ (mem_gd xs j (by rw [HM.out]; exact hlt))
                have hs2 := HSM.out _ (mem_gd xs (j + 1) (by rw [HM.out]; exact hl2))
                have HUP : Aside0 (up (xs.take (2 * (i + 1))) = up (xs.take j) ++ [sha (jointT (xs.getD j []) (xs.getD (j + 1) []))]) := ⟨by rw [← hj]; exact up_take xs i (by rw [hj, HM.out]; exact hl2)⟩
                obtain ⟨s, hs⟩ : ∃ s, xs.getD j [] = s := ⟨_, rfl⟩
                obtain ⟨r, hr⟩ : ∃ r, xs.getD (j + 1) [] = r := ⟨_, rfl⟩
                rw [hs] at hs1 hc1 hR1 HUP
                rw [hr] at hs2 hc2 hR2 HUP
                rw [hs1.2] at hc1 hR1
                rw [hs2.2] at hc2 hR2
                have HJT : Aside0 (∀ W', Below wr.heap.size wr W' → Calls Tryd.prog 59 #[.slice B1 32 d1, .slice B2 32 d2] W' (Own W' (jointT s r))) := ⟨fun W' h => by
                  have g1 := (Kd.R_reads' hR1).2
                  have g2 := (Kd.R_reads' hR2).2
                  rw [hs1.2] at g1
                  rw [hs2.2] at g2
                  exact rjoint_calls B1 32 d1 s B2 32 d2 r hs1.2 hs2.2 (by omega) (by omega) g1.1 g2.1 W' (Kd.C_below g1.2 h) (Kd.C_below g2.2 h)⟩
                have HJL : Aside0 ((jointT s r).length = 65) := ⟨by rw [joint_len, hs1.2, hs2.2]⟩
                have HJB : Aside0 (Bt (jointT s r)) := ⟨joint_Bt hs1.1 hs2.1⟩
                obtain ⟨A6, c6, e6⟩ := Kd.R_slice HR6.out
                obtain ⟨m6, hm6⟩ : ∃ m6, (up (xs.take j)).length = m6 := ⟨_, rfl⟩
                rw [hm6] at e6
                subst e6
                have hm6b : (up (xs.take j)).length ≤ 200000 := by rw [up_len, List.length_take]; omega
                have HML := Aside0.mk hm6b
                obtain ⟨j1, hj1⟩ : ∃ j1, j + 1 = j1 := ⟨_, rfl⟩
                rw [hj1] at hc2
                have hd1 : (j : Int) + 1 < (m : Int) := by omega
                have hd2 : (j : Int) < (m : Int) := by omega
                have hd3 : (j1 : Int) < (m : Int) := by omega
                have hw1 : IntKind.i64.wrap ((j : Int) + 1) = (j1 : Int) := by
                  have h := IntWalk.wrap64_in ((j : Int) + 1) (by omega)
                  rw [i64_w, h]; omega
                clear hs hr hs1 hs2 hR1 hR2 hm6b hm6 hj hj1 hl2
                gi_wp2_with fail
                refine wpIn_region_any (by kernel_rfl) ?_
                (try change wpAnyIn _ _ _ _ _ _ _ _ _ (World.drew _))
                -- BEGIN region
                refine wpAnyIn_take (i := 0) (v := ?_) rfl rfl (by kernel_rfl) (by kernel_rfl) (by kernel_rfl) (fun _ _ _ h => h) ⟨Or.inl ⟨by rfl, ?_⟩, fun _ => rfl⟩ ?_
                rotate_left
                · first | (intro w; go_simp; done) | (intro w; go_simp; with_reducible rfl)
                refine wpAnyIn_take (i := 1) (v := ?_) rfl rfl (by kernel_rfl) (by kernel_rfl) (by kernel_rfl) (fun _ _ _ h => h) ⟨Or.inl ⟨by rfl, ?_⟩, fun _ => rfl⟩ ?_
                rotate_left
                · first | (intro w; go_simp; done) | (intro w; go_simp; with_reducible rfl)
                refine wpAnyIn_take (i := 2) (v := ?_) rfl rfl (by kernel_rfl) (by kernel_rfl) (by kernel_rfl) (fun _ _ _ h => h) ⟨Or.inl ⟨by rfl, ?_⟩, fun _ => rfl⟩ ?_
                rotate_left
                · first | (intro w; go_simp; done) | (intro w; go_simp; with_reducible rfl)
                refine wpAnyIn_take (i := 3) (v := ?_) rfl rfl (by kernel_rfl) (by kernel_rfl) (by kernel_rfl) (fun _ _ _ h => h) ⟨Or.inl ⟨by rfl, ?_⟩, fun _ => rfl⟩ ?_
                rotate_left
                · first | (intro w; go_simp; done) | (intro w; go_simp; with_reducible rfl)
                refine wpAnyIn_take (i := 5) (v := ?_) rfl rfl (by kernel_rfl) (by kernel_rfl) (by kernel_rfl) (fun _ _ _ h => h) ⟨Or.inl ⟨by rfl, ?_⟩, fun _ => rfl⟩ ?_
                rotate_left
                · first | (intro w; go_simp; done) | (intro w; go_simp; with_reducible rfl)
                refine wpAnyIn_take (i := 6) (v := ?_) rfl rfl (by kernel_rfl) (by kernel_rfl) (by kernel_rfl) (fun _ _ _ h => h) ⟨Or.inl ⟨by rfl, ?_⟩, fun _ => rfl⟩ ?_
                rotate_left
                · first | (intro w; go_simp; done) | (intro w; go_simp; with_reducible rfl)
                refine wpAnyIn_take (i := 7) (v := ?_) rfl rfl (by kernel_rfl) (by kernel_rfl) (by kernel_rfl) (fun _ _ _ h => h) ⟨Or.inl ⟨by rfl, ?_⟩, fun _ => rfl⟩ ?_
                rotate_left
                · first | (intro w; go_simp; done) | (intro w; go_simp; with_reducible rfl)
                refine wpAnyIn_take (i := 8) (v := ?_) rfl rfl (by kernel_rfl) (by kernel_rfl) (by kernel_rfl) (fun _ _ _ h => h) ⟨Or.inl ⟨by rfl, ?_⟩, fun _ => rfl⟩ ?_
                rotate_left
                · first | (intro w; go_simp; done) | (intro w; go_simp; with_reducible rfl)
                refine wpAnyIn_ready (rs := [4, 9]) (by decide +kernel) (by simp) ?_
                refine AllReadyIn.cons rfl (fun K hK => ?_) ?_
                · go_simp
                  refine hK _ _ ?_
                  clear hK K
                  refine wpAnyIn_ready (rs := [9]) (by decide +kernel) (by simp) ?_
                  refine AllReadyIn.cons rfl (fun K hK => ?_) AllReadyIn.nil
                  go_simp
                  refine hK _ _ ?_
                  clear hK K
                  refine wpAnyIn_ready (rs := [10]) (by decide +kernel) (by simp) ?_
                  refine AllReadyIn.cons rfl (fun K hK => ?_) AllReadyIn.nil
                  go_simp
                  refine ⟨trivial, ?_⟩; gi_at_call 59; (with_reducible refine (callsIn_wide.2 (HJT.out _ (below_drew (Below.refl _ _)))).mono ?_); rintro e w5 ⟨v5, rfl, ho, hb⟩; obtain ⟨A7, c7, e7⟩ := Kd.R_slice ho; subst e7; rw [HJL.out] at ho ⊢; have HO5 := Aside0.mk ho; have HB5 := Aside0.mk (below_then (below_drew (Below.refl wr.heap.size wr)) (below_drew (Below.refl wr.heap.size wr)).size hb); clear ho hb
                  refine hK _ _ ?_
                  clear hK K
                  refine wpAnyIn_ready (rs := [11]) (by decide +kernel) (by simp) ?_
                  refine AllReadyIn.cons rfl (fun K hK => ?_) AllReadyIn.nil
                  go_simp
                  refine ⟨trivial, ?_⟩; gi_at_call 53; (with_reducible refine (callsIn_wide.2 (HSU.out w5 A7 c7 65 (jointT s r) HJL.out HJB.out (by omega) (Kd.R_reads' HO5.out).2.1 (by have h := (Kd.R_reads' HO5.out).2.2; rw [HJL.out] at h; exact h))).mono ?_); rintro e w5b ⟨v5b, rfl, ho, hb⟩; obtain ⟨A7b, c7b, e7b⟩ := Kd.R_slice ho; subst e7b; rw [sha_len] at ho ⊢; have HB6 := Aside0.mk (below_then HB5.out HB5.out.size hb); have HR65 := Aside0.mk (Kd.R_below HR6.out HB6.out); have HZ5 := Aside0.mk (Nat.le_trans HZ4.out HB6.out.size); obtain ⟨v1, w6, hrun, hR7, hg7, hat7⟩ := row_push w.heap.size _ _ HR65.out _ _ (Kd.R_lower ho (Nat.le_trans HS4.out (Nat.le_trans HZ4.out HB5.out.size))) (Nat.le_trans HS4.out HZ5.out) HML.out; obtain ⟨A8, c8, e8⟩ := Kd.R_slice hR7; rw [List.length_append, List.length_singleton] at e8; subst e8; clear ho hb
                  refine hK _ _ ?_
                  clear hK K
                  refine wpAnyIn_ready (rs := [12]) (by decide +kernel) (by simp) ?_
                  refine AllReadyIn.cons rfl (fun K hK => ?_) AllReadyIn.nil
                  go_simp
                  refine hK _ _ ?_
                  clear hK K
                  refine wpAnyIn_ready (rs := [13]) (by decide +kernel) (by simp) ?_
                  refine AllReadyIn.cons rfl (fun K hK => ?_) AllReadyIn.nil
                  refine step_run_in (.tmp 39) (.tmp 51) 22 rfl rfl hrun ?_
                  refine hK _ _ ?_
                  clear hK K
                  refine wpAnyIn_ready (rs := [14]) (by decide +kernel) (by simp) ?_
                  refine AllReadyIn.cons rfl (fun K hK => ?_) AllReadyIn.nil
                  go_simp
                  refine hK _ _ ?_
                  clear hK K
                  refine wpAnyIn_done (by decide +kernel) ?_ _
                  gi_wp2_with fail
                  refine ⟨⟨i + 1, by rw [show ((2 * (i + 1) : Nat) : Int) = (j : Int) + 2 from by have := HJJ.out; omega], by have := HJJ.out; omega, ⟨by rw [HUP.out]; exact hR7⟩, ⟨fun r hr => ?_⟩, ⟨Kd.R_grown (Kd.R_below HR4.out HB6.out) hg7 (fun k hk e => by have := HO6.out k e.symm; omega)⟩, ⟨Kd.R_grown (Kd.R_below HX4.out HB6.out) hg7 (fun k hk e => by have := HO6.out k e.symm; omega)⟩, ⟨(below_then HB4.out HB4.out.size HB6.out).grown hg7 (Nat.le_trans HS4.out HZ5.out) (fun k hk => (row_own HR65.out k hk).1)⟩, ⟨Nat.le_trans HZ5.out hg7.size⟩⟩, by simp [intOf]; omega⟩
                  rcases hat7 with e | ⟨b, e, hb⟩
                  · rw [e] at hr; exact HO6.out r hr
                  · rw [e] at hr; cases hr; exact Nat.le_trans HZ5.out hb
                refine AllReadyIn.cons rfl (fun K hK => ?_) ?_
                · go_simp
                  refine hK _ _ ?_
                  clear hK K
                  refine wpAnyIn_ready (rs := [4]) (by decide +kernel) (by simp) ?_
                  refine AllReadyIn.cons rfl (fun K hK => ?_) AllReadyIn.nil
                  go_simp
                  refine hK _ _ ?_
                  clear hK K
                  refine wpAnyIn_ready (rs := [10]) (by decide +kernel) (by simp) ?_
                  refine AllReadyIn.cons rfl (fun K hK => ?_) AllReadyIn.nil
                  go_simp
                  refine ⟨trivial, ?_⟩; gi_at_call 59; (with_reducible refine (callsIn_wide.2 (HJT.out _ (below_drew (Below.refl _ _)))).mono ?_); rintro e w5 ⟨v5, rfl, ho, hb⟩; obtain ⟨A7, c7, e7⟩ := Kd.R_slice ho; subst e7; rw [HJL.out] at ho ⊢; have HO5 := Aside0.mk ho; have HB5 := Aside0.mk (below_then (below_drew (Below.refl wr.heap.size wr)) (below_drew (Below.refl wr.heap.size wr)).size hb); clear ho hb
                  refine hK _ _ ?_
                  clear hK K
                  refine wpAnyIn_ready (rs := [11]) (by decide +kernel) (by simp) ?_
                  refine AllReadyIn.cons rfl (fun K hK => ?_) AllReadyIn.nil
                  go_simp
                  refine ⟨trivial, ?_⟩; gi_at_call 53; (with_reducible refine (callsIn_wide.2 (HSU.out w5 A7 c7 65 (jointT s r) HJL.out HJB.out (by omega) (Kd.R_reads' HO5.out).2.1 (by have h := (Kd.R_reads' HO5.out).2.2; rw [HJL.out] at h; exact h))).mono ?_); rintro e w5b ⟨v5b, rfl, ho, hb⟩; obtain ⟨A7b, c7b, e7b⟩ := Kd.R_slice ho; subst e7b; rw [sha_len] at ho ⊢; have HB6 := Aside0.mk (below_then HB5.out HB5.out.size hb); have HR65 := Aside0.mk (Kd.R_below HR6.out HB6.out); have HZ5 := Aside0.mk (Nat.le_trans HZ4.out HB6.out.size); obtain ⟨v1, w6, hrun, hR7, hg7, hat7⟩ := row_push w.heap.size _ _ HR65.out _ _ (Kd.R_lower ho (Nat.le_trans HS4.out (Nat.le_trans HZ4.out HB5.out.size))) (Nat.le_trans HS4.out HZ5.out) HML.out; obtain ⟨A8, c8, e8⟩ := Kd.R_slice hR7; rw [List.length_append, List.length_singleton] at e8; subst e8; clear ho hb
                  refine hK _ _ ?_
                  clear hK K
                  refine wpAnyIn_ready (rs := [12]) (by decide +kernel) (by simp) ?_
                  refine AllReadyIn.cons rfl (fun K hK => ?_) AllReadyIn.nil
                  go_simp
                  refine hK _ _ ?_
                  clear hK K
                  refine wpAnyIn_ready (rs := [13]) (by decide +kernel) (by simp) ?_
                  refine AllReadyIn.cons rfl (fun K hK => ?_) AllReadyIn.nil
                  refine step_run_in (.tmp 39) (.tmp 51) 22 rfl rfl hrun ?_
                  refine hK _ _ ?_
                  clear hK K
                  refine wpAnyIn_ready (rs := [14]) (by decide +kernel) (by simp) ?_
                  refine AllReadyIn.cons rfl (fun K hK => ?_) AllReadyIn.nil
                  go_simp
                  refine hK _ _ ?_
                  clear hK K
                  refine wpAnyIn_done (by decide +kernel) ?_ _
                  gi_wp2_with fail
                  refine ⟨⟨i + 1, by rw [show ((2 * (i + 1) : Nat) : Int) = (j : Int) + 2 from by have := HJJ.out; omega], by have := HJJ.out; omega, ⟨by rw [HUP.out]; exact hR7⟩, ⟨fun r hr => ?_⟩, ⟨Kd.R_grown (Kd.R_below HR4.out HB6.out) hg7 (fun k hk e => by have := HO6.out k e.symm; omega)⟩, ⟨Kd.R_grown (Kd.R_below HX4.out HB6.out) hg7 (fun k hk e => by have := HO6.out k e.symm; omega)⟩, ⟨(below_then HB4.out HB4.out.size HB6.out).grown hg7 (Nat.le_trans HS4.out HZ5.out) (fun k hk => (row_own HR65.out k hk).1)⟩, ⟨Nat.le_trans HZ5.out hg7.size⟩⟩, by simp [intOf]; omega⟩
                  rcases hat7 with e | ⟨b, e, hb⟩
                  · rw [e] at hr; exact HO6.out r hr
                  · rw [e] at hr; cases hr; exact Nat.le_trans HZ5.out hb
                exact AllReadyIn.nil
                -- END region
              · obtain ⟨ad, B1, d1, e1, hc1, hR1⟩ := row_elem HR4.out j hlt
                subst e1
                have hs1 := HSM.out _ (mem_gd xs j (by rw [HM.out]; exact hlt))
                have HUP : Aside0 (up (xs.take (2 * (i + 1))) = up (xs.take j) ++ [xs.getD j []]) := ⟨by
                  rw [List.take_of_length_le (by rw [HM.out]; omega), ← hj]
                  exact up_take_last xs i (by rw [HM.out]; omega)⟩
                obtain ⟨s, hs⟩ : ∃ s, xs.getD j [] = s := ⟨_, rfl⟩
                rw [hs] at hs1 hc1 hR1 HUP
                rw [hs1.2] at hc1 hR1
                obtain ⟨A6, c6, e6⟩ := Kd.R_slice HR6.out
                obtain ⟨m6, hm6⟩ : ∃ m6, (up (xs.take j)).length = m6 := ⟨_, rfl⟩
                rw [hm6] at e6
                subst e6
                have hm6b : (up (xs.take j)).length ≤ 200000 := by rw [up_len, List.length_take]; omega
                have HML := Aside0.mk hm6b
                have HE1 := Aside0.mk hR1
                have hd1 : ¬ (j : Int) + 1 < (m : Int) := by omega
                have hd2 : (j : Int) < (m : Int) := by omega
                clear hs hs1 hR1 hm6b hm6 hj hl2
                gi_wp2_with (first
                  | (gi_at_builtin; obtain ⟨v1, w6, hrun, hR7, hg7, hat7⟩ := row_push w.heap.size _ _ HR6.out _ _ HE1.out (Nat.le_trans HS4.out HZ4.out) HML.out; obtain ⟨A8, c8, e8⟩ := Kd.R_slice hR7; rw [List.length_append, List.length_singleton] at e8; subst e8; refine append_in (.tmp 53) (.tmp 58) 22 rfl rfl hrun ?_)
                  | fail)
                refine ⟨⟨i + 1, by rw [show ((2 * (i + 1) : Nat) : Int) = (j : Int) + 2 from by have := HJJ.out; omega], by have := HJJ.out; omega, ⟨by rw [HUP.out]; exact hR7⟩, ⟨fun r hr => ?_⟩, ⟨Kd.R_grown HR4.out hg7 (fun k hk e => by have := HO6.out k e.symm; omega)⟩, ⟨Kd.R_grown HX4.out hg7 (fun k hk e => by have := HO6.out k e.symm; omega)⟩, ⟨HB4.out.grown hg7 (Nat.le_trans HS4.out HZ4.out) (fun k hk => (row_own HR6.out k hk).1)⟩, ⟨Nat.le_trans HZ4.out hg7.size⟩⟩, by simp [intOf]; omega⟩
                rcases hat7 with e | ⟨b, e, hb⟩
                · rw [e] at hr; exact HO6.out r hr
                · rw [e] at hr; cases hr; exact Nat.le_trans HZ4.out hb
            · have hd2 : ¬ (j : Int) < (m : Int) := by omega
              have HUP : Aside0 (up (xs.take j) = up xs) := ⟨by rw [List.take_of_length_le (by rw [HM.out]; omega)]⟩
              have HUL : Aside0 ((up xs).length = (m + 1) / 2) := ⟨by rw [up_len, HM.out]⟩
              rw [HUP.out] at HR6
              obtain ⟨A6, c6, e6⟩ := Kd.R_slice HR6.out
              subst e6
              have HXT := Aside0.mk (Kd.R_mono HX4.out (fun _ _ => trivial : ∀ k, k < S0 → True))
              have HPL : Aside0 ((pre ++ [xs]).length ≤ 200000) := ⟨by rw [List.length_append]; simp; omega⟩
              clear hj hlt
              gi_wp2_with (first
                | (gi_at_builtin; obtain ⟨v1, w6, hrun, hR7, hg7, hat7⟩ := rows_push w.heap.size _ _ HXT.out _ _ HR6.out (Nat.le_trans HS4.out HZ4.out) HPL.out; refine append_in (.tmp 61) (.tmp 63) 109 rfl rfl hrun ?_)
                | fail)
              refine ⟨⟨k, pre ++ [xs], up xs, ⟨by rw [HF.out, List.append_assoc]; rfl⟩, by rw [HUL.out]; omega, by rw [HUL.out]; omega, by rw [List.length_append]; simp; omega, ⟨up_Sm xs HSM.out⟩, ⟨Kd.R_mono (Kd.R_grown (R_apart (by decide) HR6.out HXT.out) hg7 (fun k hk => hk)) (fun _ _ => trivial)⟩, ⟨hR7⟩, ⟨HB4.out.grown hg7 (Nat.le_trans HS4.out HZ4.out) (fun k hk => (rows_own HXT.out k hk).1)⟩⟩, ?_⟩
              show (up xs).length < m
              rw [HUL.out]; omega
        · have h1' : ¬ (1 : Int) < (m : Int) := by omega
          rw [HM.out, if_neg h1] at HF
          gi_wp2_with fail
          refine bodyPost_ret (v := .slice Ao (pre.length + 1) co) (by simp [results, Tryd.results61, go_sem]) rfl ⟨_, rfl, ?_, HB.out⟩
          rw [HF.out]
          exact HX.out
end Go.Proofs.YteapdhfeddgjbaaDoor.Dg
end
section
/- tree: each thing's path checks; a path that checks for another thing makes two texts of one sum: plain. -/
namespace Go.Proofs.YteapdhfeddgjbaaDoor.Dg
set_option linter.unusedVariables false
set_option linter.unusedSimpArgs false
open Go.RowKit Go.Proofs.YteapdhfeddgjbaaDoorW Go.Proofs.YteapdhfeddgjbaaDoorW.PrintWords

/-- The last row. -/
def topF : Nat → List (List Int) → List (List Int)
  | 0, r => r
  | k + 1, r => if 1 < r.length then topF k (up r) else r
theorem top_len : ∀ (f : Nat) (r : List (List Int)), r.length ≤ 2 ^ f → 0 < r.length → (topF f r).length = 1
  | 0, r, h, h0 => by rw [topF]; rw [Nat.pow_zero] at h; omega
  | f + 1, r, h, h0 => by
    rw [topF]
    by_cases h1 : 1 < r.length
    · rw [if_pos h1]
      have hu := up_len r
      refine top_len f (up r) ?_ (by omega)
      rw [Nat.pow_succ] at h
      omega
    · rw [if_neg h1]; omega
theorem root_fold : ∀ (k f : Nat) (r : List (List Int)) (o : List Int), r.length < k → r.length ≤ 2 ^ f → 0 < r.length → (rowsF k r).foldl (fun o r => if r.length = 1 then r.getD 0 [] else o) o = (topF f r).getD 0 []
  | 0, f, r, o, h, _, _ => absurd h (Nat.not_lt_zero _)
  | k + 1, f, r, o, h, hf, h0 => by
    rw [rowsF_succ, List.foldl_cons]
    by_cases h1 : 1 < r.length
    · cases f with
      | zero => rw [Nat.pow_zero] at hf; omega
      | succ f =>
        rw [if_pos h1, if_neg (by omega), topF, if_pos h1]
        have hu := up_len r
        refine root_fold k f (up r) o (by omega) ?_ (by omega)
        rw [Nat.pow_succ] at hf
        omega
    · rw [if_neg h1, if_pos (by omega)]
      cases f with
      | zero => rfl
      | succ f => rw [topF, if_neg h1]; rfl
theorem leaves_len (ts : List (List Int)) : (leavesOf ts).length = ts.length := by unfold leavesOf; rw [List.length_map]
theorem root_top (ts : List (List Int)) (f : Nat) (hf : ts.length ≤ 2 ^ f) (h0 : 0 < ts.length) : rootOf ts = (topF f (leavesOf ts)).getD 0 [] := by
  unfold rootOf rootF rowsOf
  exact root_fold (ts.length + 1) f (leavesOf ts) z32 (by rw [leaves_len]; omega) (by rw [leaves_len]; exact hf) (by rw [leaves_len]; exact h0)
/-- A place's own sum above. -/
theorem up_get : ∀ (r : List (List Int)) (i : Nat), i < r.length → (up r).getD (i / 2) [] = if oth i < r.length then (if i % 2 = 0 then sha (jointT (r.getD i []) (r.getD (oth i) [])) else sha (jointT (r.getD (oth i) []) (r.getD i []))) else r.getD i []
  | [], i, h => absurd h (Nat.not_lt_zero _)
  | [a], i, h => by
    have : i = 0 := by simp at h; exact h
    subst this
    simp [up, oth]
  | a :: b :: l, 0, h => by simp [up, oth]
  | a :: b :: l, 1, h => by simp [up, oth]
  | a :: b :: l, i + 2, h => by
    have hi : i < l.length := by simp at h; omega
    have ho : oth (i + 2) = oth i + 2 := by unfold oth; split <;> split <;> omega
    have e1 : (i + 2) / 2 = i / 2 + 1 := by omega
    have e2 : (i + 2) % 2 = i % 2 := by omega
    rw [up, e1, List.getD_cons_succ, up_get l i hi, ho, e2]
    simp only [List.length_cons, List.getD_cons_succ]
    by_cases h1 : oth i < l.length
    · have h3 : oth i + 2 < l.length + 1 + 1 := by omega
      rw [if_pos h1, if_pos h3]
    · have h3 : ¬ oth i + 2 < l.length + 1 + 1 := by omega
      rw [if_neg h1, if_neg h3]
/-- What is summed above a row. -/
def pairs : List (List Int) → List (List Int)
  | a :: b :: l => jointT a b :: pairs l
  | _ => []
theorem pairs_mem : ∀ (r : List (List Int)) (i : Nat), i < r.length → oth i < r.length → (if i % 2 = 0 then jointT (r.getD i []) (r.getD (oth i) []) else jointT (r.getD (oth i) []) (r.getD i [])) ∈ pairs r
  | [], i, h, _ => absurd h (Nat.not_lt_zero _)
  | [a], i, h, h2 => by
    have : i = 0 := by simp at h; exact h
    subst this
    simp [oth] at h2
  | a :: b :: l, 0, h, _ => by simp [pairs, oth]
  | a :: b :: l, 1, h, _ => by simp [pairs, oth]
  | a :: b :: l, i + 2, h, h2 => by
    have hi : i < l.length := by simp at h; omega
    have ho : oth (i + 2) = oth i + 2 := by unfold oth; split <;> split <;> omega
    have e2 : (i + 2) % 2 = i % 2 := by omega
    rw [ho] at h2 ⊢
    rw [pairs, e2]
    simp only [List.getD_cons_succ]
    exact List.mem_cons_of_mem _ (pairs_mem l i hi (by simp at h2; omega))
def jointsF : Nat → List (List Int) → List (List Int)
  | 0, _ => []
  | k + 1, r => if 1 < r.length then pairs r ++ jointsF k (up r) else []
theorem joints_same : ∀ (k f : Nat) (r : List (List Int)), r.length < k → r.length ≤ 2 ^ f → jointsF k r = jointsF f r
  | 0, f, r, h, _ => absurd h (Nat.not_lt_zero _)
  | k + 1, f, r, h, hf => by
    rw [jointsF]
    by_cases h1 : 1 < r.length
    · cases f with
      | zero => rw [Nat.pow_zero] at hf; omega
      | succ f =>
        rw [if_pos h1, jointsF, if_pos h1]
        have hu := up_len r
        rw [joints_same k f (up r) (by omega) (by rw [Nat.pow_succ] at hf; omega)]
    · rw [if_neg h1]
      cases f with
      | zero => rfl
      | succ f => rw [jointsF, if_neg h1]
/-- All that is summed for things. -/
def allOf (ts : List (List Int)) : List (List Int) := ts.map leafT ++ jointsF (ts.length + 1) (leavesOf ts)
/-- A thing's path. -/
def pathR : Nat → Nat → List (List Int) → List Sd
  | 0, _, _ => []
  | f + 1, i, r => if 1 < r.length then (if oth i < r.length then [(decide (i < oth i), r.getD (oth i) [])] else []) ++ pathR f (i / 2) (up r) else []
theorem path_fold : ∀ (k f : Nat) (r : List (List Int)) (i : Nat) (out : List Sd), r.length < k → r.length ≤ 2 ^ f → ((rowsF k r).foldl pathStep (i, out)).2 = out ++ pathR f i r
  | 0, f, r, i, out, h, _ => absurd h (Nat.not_lt_zero _)
  | k + 1, f, r, i, out, h, hf => by
    rw [rowsF_succ, List.foldl_cons]
    by_cases h1 : 1 < r.length
    · cases f with
      | zero => rw [Nat.pow_zero] at hf; omega
      | succ f =>
        have hu := up_len r
        rw [if_pos h1, pathR, if_pos h1]
        have e : pathStep (i, out) r = (i / 2, out ++ (if oth i < r.length then [(decide (i < oth i), r.getD (oth i) [])] else [])) := by
          unfold pathStep
          dsimp only
          by_cases h2 : oth i < r.length
          · rw [if_pos ⟨h2, h1⟩, if_pos h2]
          · rw [if_neg (fun h => h2 h.1), if_neg h2, List.append_nil]
        rw [e, path_fold k f (up r) (i / 2) _ (by omega) (by rw [Nat.pow_succ] at hf; omega), List.append_assoc]
    · rw [if_neg h1]
      have e : pathStep (i, out) r = (i / 2, out) := by
        unfold pathStep
        dsimp only
        rw [if_neg (fun h => h1 h.2)]
      rw [e, List.foldl_nil]
      cases f with
      | zero => rw [pathR, List.append_nil]
      | succ f => rw [pathR, if_neg h1, List.append_nil]
theorem path_is (ts : List (List Int)) (i f : Nat) (hf : ts.length ≤ 2 ^ f) : pathOf ts i = pathR f i (leavesOf ts) := by
  unfold pathOf pathF rowsOf
  rw [path_fold (ts.length + 1) f (leavesOf ts) i [] (by rw [leaves_len]; omega) (by rw [leaves_len]; exact hf), List.nil_append]
theorem getD_Sm {r : List (List Int)} (h : ∀ x ∈ r, Sm x) {i : Nat} (hi : i < r.length) : Sm (r.getD i []) := h _ (mem_gd r i hi)
/-- A thing's path leads to the top. -/
theorem path_chk : ∀ (f i : Nat) (r : List (List Int)), i < r.length → r.length ≤ 2 ^ f → (∀ x ∈ r, Sm x) → chkF (r.getD i []) (sidesF f i r.length) (pathR f i r) = some ((topF f r).getD 0 [])
  | 0, i, r, hi, hf, hs => by
    rw [Nat.pow_zero] at hf
    have : i = 0 := by omega
    subst this
    rw [sidesF, pathR, topF, chkF]
  | f + 1, i, r, hi, hf, hs => by
    rw [sidesF, pathR, topF]
    by_cases h1 : 1 < r.length
    · have hu := up_len r
      have hi2 : i / 2 < (up r).length := by rw [hu]; exact half_lt hi h1
      have hf2 : (up r).length ≤ 2 ^ f := by rw [Nat.pow_succ] at hf; omega
      have ih := path_chk f (i / 2) (up r) hi2 hf2 (up_Sm r hs)
      rw [up_get r i hi, hu] at ih
      rw [if_pos h1, if_pos h1, if_pos h1]
      by_cases h2 : oth i < r.length
      · rw [if_pos h2] at ih
        rw [if_pos h2, if_pos h2, List.singleton_append, List.singleton_append, chkF, if_pos ⟨(getD_Sm hs h2).2, rfl⟩]
        by_cases hp : i % 2 = 0
        · rw [if_pos hp] at ih
          rw [if_pos (decide_eq_true ((oth_gt i).2 hp))]
          exact ih
        · rw [if_neg hp] at ih
          rw [if_neg (fun h => hp ((oth_gt i).1 (of_decide_eq_true h)))]
          exact ih
      · rw [if_neg h2] at ih
        rw [if_neg h2, if_neg h2, List.nil_append, List.nil_append]
        exact ih
    · rw [if_neg h1, if_neg h1, if_neg h1]
      have : i = 0 := by omega
      subst this
      rw [chkF]
/-- Each thing's path checks. -/
theorem shows_own (ts : List (List Int)) (i : Nat) (hi : i < ts.length) (hn : ts.length ≤ 2 ^ 63) : checkB (rootOf ts) (ts.getD i []) i ts.length (pathOf ts i) = true := by
  have h := path_chk 63 i (leavesOf ts) (by rw [leaves_len]; exact hi) (by rw [leaves_len]; exact hn) (leaves_Sm ts)
  have e : (leavesOf ts).getD i [] = sha (leafT (ts.getD i [])) := by
    unfold leavesOf
    rw [List.getD_eq_getElem?_getD, List.getElem?_map, List.getD_eq_getElem?_getD, List.getElem?_eq_getElem hi]
    rfl
  rw [e, leaves_len] at h
  unfold checkB sidesOf
  rw [path_is ts i 63 hn, h, root_top ts 63 hn (by omega)]
  exact decide_eq_true rfl
theorem txt_keeps : ∀ (f i n : Nat) (ts : List (List Int)) (s : List Int) (p : List Sd) (T : List (List Int)) (S : List Int), txtF f i n ts s p = (T, S, true) → ∀ y ∈ ts, y ∈ T
  | 0, i, n, ts, s, p, T, S, h => by
    rw [txtF, Prod.mk.injEq, Prod.mk.injEq] at h
    obtain ⟨rfl, rfl, _⟩ := h
    exact fun y hy => hy
  | f + 1, i, n, ts, s, p, T, S, h => by
    by_cases h1 : 1 < n
    · by_cases h2 : i % 2 = 1 ∨ i + 1 < n
      · cases p with
        | nil => rw [txtF_nil f i n ts s h1 h2] at h; cases h
        | cons q p =>
          obtain ⟨r, x⟩ := q
          by_cases h3 : x.length = 32 ∧ r = decide (i % 2 = 0)
          · rw [txtF_on f i n ts s r x p h1 h2 h3] at h
            exact fun y hy => txt_keeps f _ _ _ _ _ T S h y (List.mem_append_left _ hy)
          · rw [txtF_bad f i n ts s r x p h1 h2 h3] at h; cases h
      · rw [txtF_skip f i n ts s p h1 h2] at h
        exact txt_keeps f _ _ _ _ _ T S h
    · rw [txtF_one _ i n ts s p h1, Prod.mk.injEq, Prod.mk.injEq] at h
      obtain ⟨rfl, rfl, _⟩ := h
      exact fun y hy => hy
theorem joint_inj {a b c d : List Int} (h : jointT a b = jointT c d) (hl : a.length = c.length) : a = c ∧ b = d := by
  unfold jointT at h
  injection h with _ h
  exact List.append_inj h hl
/-- Another sum that comes to the same top makes two texts of one sum. -/
theorem clash_up : ∀ (f i : Nat) (r ts : List (List Int)) (s : List Int) (p : List Sd) (T : List (List Int)) (S : List Int), i < r.length → r.length ≤ 2 ^ f → (∀ x ∈ r, Sm x) → s.length = 32 → s ≠ r.getD i [] →
    txtF f i r.length ts s p = (T, S, true) → S = (topF f r).getD 0 [] → ∃ t ∈ T, ∃ t' ∈ jointsF f r, t ≠ t' ∧ sha t = sha t'
  | 0, i, r, ts, s, p, T, S, hi, hf, hs, hsl, hne, h, hS => by
    rw [Nat.pow_zero] at hf
    have : i = 0 := by omega
    subst this
    rw [txtF, Prod.mk.injEq, Prod.mk.injEq] at h
    obtain ⟨rfl, rfl, _⟩ := h
    exact absurd hS hne
  | f + 1, i, r, ts, s, p, T, S, hi, hf, hs, hsl, hne, h, hS => by
    by_cases h1 : 1 < r.length
    · have hu := up_len r
      have hi2 : i / 2 < (up r).length := by rw [hu]; exact half_lt hi h1
      have hf2 : (up r).length ≤ 2 ^ f := by rw [Nat.pow_succ] at hf; omega
      rw [topF, if_pos h1] at hS
      rw [jointsF, if_pos h1]
      have hug := up_get r i hi
      by_cases h2 : i % 2 = 1 ∨ i + 1 < r.length
      · have ho : oth i < r.length := (oth_lt hi).2 h2
        have hpm := pairs_mem r i hi ho
        rw [if_pos ho] at hug
        cases p with
        | nil => rw [txtF_nil f i _ ts s h1 h2] at h; cases h
        | cons q p =>
          obtain ⟨b, x⟩ := q
          by_cases h3 : x.length = 32 ∧ b = decide (i % 2 = 0)
          · rw [txtF_on f i _ ts s b x p h1 h2 h3] at h
            obtain ⟨t, ht⟩ : ∃ t, (if b = true then jointT s x else jointT x s) = t := ⟨_, rfl⟩
            obtain ⟨t', ht'⟩ : ∃ t', (if i % 2 = 0 then jointT (r.getD i []) (r.getD (oth i) []) else jointT (r.getD (oth i) []) (r.getD i [])) = t' := ⟨_, rfl⟩
            have hug2 : (up r).getD (i / 2) [] = sha t' := by rw [hug, ← ht']; split <;> rfl
            rw [ht] at h
            rw [ht'] at hpm
            have hne2 : t ≠ t' := by
              rw [← ht, ← ht', h3.2]
              by_cases hp : i % 2 = 0
              · rw [if_pos (decide_eq_true hp), if_pos hp]
                intro e
                exact hne (joint_inj e (by rw [hsl, (getD_Sm hs hi).2])).1
              · rw [if_neg (fun h => hp (of_decide_eq_true h)), if_neg hp]
                intro e
                exact hne (joint_inj e (by rw [h3.1, (getD_Sm hs ho).2])).2
            by_cases hsh : sha t = sha t'
            · exact ⟨t, txt_keeps f _ _ _ _ _ T S h t (List.mem_append_right _ (List.mem_singleton.2 rfl)), t', List.mem_append_left _ hpm, hne2, hsh⟩
            · rw [← hu] at h
              obtain ⟨y, hy, y', hy', g1, g2⟩ := clash_up f (i / 2) (up r) _ (sha t) p T S hi2 hf2 (up_Sm r hs) (sha_len _) (by rw [hug2]; exact hsh) h hS
              exact ⟨y, hy, y', List.mem_append_right _ hy', g1, g2⟩
          · rw [txtF_bad f i _ ts s b x p h1 h2 h3] at h; cases h
      · have ho : ¬ oth i < r.length := fun h => h2 ((oth_lt hi).1 h)
        rw [if_neg ho] at hug
        rw [txtF_skip f i _ ts s p h1 h2, ← hu] at h
        obtain ⟨y, hy, y', hy', g1, g2⟩ := clash_up f (i / 2) (up r) ts s p T S hi2 hf2 (up_Sm r hs) hsl (by rw [hug]; exact hne) h hS
        exact ⟨y, hy, y', List.mem_append_right _ hy', g1, g2⟩
    · have : i = 0 := by omega
      subst this
      rw [txtF_one _ 0 _ ts s p h1, Prod.mk.injEq, Prod.mk.injEq] at h
      obtain ⟨rfl, rfl, _⟩ := h
      rw [topF, if_neg h1] at hS
      exact absurd hS hne
/-- Two unlike texts of one sum. -/
def HasClash (L : List (List Int)) : Prop := ∃ x ∈ L, ∃ y ∈ L, x ≠ y ∧ sha x = sha y
theorem shows_clash (ts : List (List Int)) (thing : List Int) (i : Nat) (p : List Sd) (hi : i < ts.length) (hn : ts.length ≤ 2 ^ 63) (hne : thing ≠ ts.getD i []) (h : checkB (rootOf ts) thing i ts.length p = true) : HasClash (allOf ts ++ (textsOf thing i ts.length p).1) := by
  rw [check_texts _ _ _ _ _ hi, Bool.and_eq_true] at h
  obtain ⟨hok, hsum⟩ := h
  have hsum := of_decide_eq_true hsum
  obtain ⟨⟨T, S, ok⟩, hT⟩ : ∃ q, textsOf thing i ts.length p = q := ⟨_, rfl⟩
  rw [hT] at hok hsum ⊢
  dsimp only at hok hsum ⊢
  subst hok
  have hT2 : txtF 63 i (leavesOf ts).length [leafT thing] (sha (leafT thing)) p = (T, S, true) := by rw [leaves_len]; exact hT
  have hlm : leafT (ts.getD i []) ∈ allOf ts := List.mem_append_left _ (List.mem_map.2 ⟨_, mem_gd ts i hi, rfl⟩)
  have hle : leafT thing ≠ leafT (ts.getD i []) := fun e => hne (by unfold leafT at e; injection e)
  have hlT : leafT thing ∈ T := txt_keeps _ _ _ _ _ _ T S hT2 _ (List.mem_singleton.2 rfl)
  have e : (leavesOf ts).getD i [] = sha (leafT (ts.getD i [])) := by
    unfold leavesOf
    rw [List.getD_eq_getElem?_getD, List.getElem?_map, List.getD_eq_getElem?_getD, List.getElem?_eq_getElem hi]
    rfl
  by_cases hsh : sha (leafT thing) = sha (leafT (ts.getD i []))
  · exact ⟨_, List.mem_append_right _ hlT, _, List.mem_append_left _ hlm, hle, hsh⟩
  · obtain ⟨t, ht, t', ht', g1, g2⟩ := clash_up 63 i (leavesOf ts) [leafT thing] (sha (leafT thing)) p T S (by rw [leaves_len]; exact hi) (by rw [leaves_len]; exact hn) (leaves_Sm ts) (sha_len _) (by rw [e]; exact hsh) hT2 (by rw [hsum]; exact root_top ts 63 hn (by omega))
    refine ⟨t, List.mem_append_right _ ht, t', List.mem_append_left _ (List.mem_append_right _ ?_), g1, g2⟩
    rw [joints_same (ts.length + 1) 63 (leavesOf ts) (by rw [leaves_len]; omega) (by rw [leaves_len]; exact hn)]
    exact ht'
end Go.Proofs.YteapdhfeddgjbaaDoor.Dg
end
section
/- tree: all that the document sums. -/
namespace Go.Proofs.YteapdhfeddgjbaaDoor.Dg
set_option linter.unusedVariables false
set_option linter.unusedSimpArgs false
open Go.RowKit Go.Shelf Go.Proofs.YteapdhfeddgjbaaDoor.Rny Go.Proofs.YteapdhfeddgjbaaDoor.PDj Go.Proofs.YteapdhfeddgjbaaDoor.Num Go.Proofs.YteapdhfeddgjbaaDoorW Go.Proofs.YteapdhfeddgjbaaDoorW.PrintWords Go.Proofs.YteapdhfeddgjbaaDoorW.PrintLast Go.Proofs.YteapdhfeddgjbaaDoorW.PrintMore
attribute [local go_sem] Oper.semAt_some

/-- A row in rows of one's own. -/
theorem rows_elem {w : World} {B : Nat} {ok : Nat → Prop} {A : Option Addr} {n c : Nat} {xs : List (List (List Int))} (h : rowsK.R 22 w B ok (.slice A n c) xs) (i : Nat) (hi : i < n) :
    ∃ ad A' c', A = some ad ∧ w.cell? (ad.add i) = some (.slice A' (xs.getD i []).length c') ∧ rowK.R 24 w B ok (.slice A' (xs.getD i []).length c') (xs.getD i []) := by
  obtain ⟨ad, cs, e, ⟨v, rfl, hM⟩, hcell⟩ := R_elem h [] i hi
  obtain ⟨A', c', e'⟩ := Kd.R_slice hM
  subst e'
  refine ⟨ad, A', c', e, ?_, Kd.R_mono hM (fun k hk => hk.1)⟩
  have := hcell 0 _ rfl
  simpa [Kd.slice] using this
theorem pairs_len : ∀ r : List (List Int), (pairs r).length = r.length / 2
  | [] => rfl
  | [a] => by simp [pairs]
  | a :: b :: l => by rw [pairs, List.length_cons, pairs_len l, List.length_cons, List.length_cons]; omega
theorem pairs_at : ∀ (r : List (List Int)) (q : Nat), 2 * q + 1 < r.length → (pairs r).getD q [] = jointT (r.getD (2 * q) []) (r.getD (2 * q + 1) [])
  | [], q, h => by simp at h
  | [a], q, h => by simp at h
  | a :: b :: l, 0, h => by simp [pairs]
  | a :: b :: l, q + 1, h => by
    have e1 : 2 * (q + 1) = 2 * q + 1 + 1 := by omega
    have e2 : 2 * (q + 1) + 1 = 2 * q + 1 + 1 + 1 := by omega
    rw [pairs, List.getD_cons_succ, pairs_at l q (by simp at h; omega), e2, e1]
    simp only [List.getD_cons_succ]
theorem pairs_take (r : List (List Int)) (q : Nat) (h : 2 * q + 1 < r.length) : (pairs r).take (q + 1) = (pairs r).take q ++ [jointT (r.getD (2 * q) []) (r.getD (2 * q + 1) [])] := by
  rw [take_gd _ q (by rw [pairs_len]; omega), pairs_at r q h]
theorem flat_len (M : Nat) : ∀ l : List (List (List Int)), (∀ r ∈ l, r.length ≤ M) → (l.flatMap pairs).length ≤ l.length * M
  | [], _ => by simp
  | r :: l, h => by
    have h1 := flat_len M l (fun x hx => h x (by simp [hx]))
    have h2 := h r (by simp)
    have h3 := pairs_len r
    rw [List.flatMap_cons, List.length_append, List.length_cons, Nat.succ_mul]
    omega
theorem rowsF_le : ∀ (k M : Nat) (r : List (List Int)), r.length ≤ M → ∀ x ∈ rowsF k r, x.length ≤ M
  | 0, M, r, h => fun x hx => by simp [rowsF] at hx
  | k + 1, M, r, h => fun x hx => by
    rw [rowsF_succ] at hx
    rcases List.mem_cons.1 hx with e | e
    · rw [e]; exact h
    · by_cases h1 : 1 < r.length
      · rw [if_pos h1] at e
        exact rowsF_le k M (up r) (by have := up_len r; omega) x e
      · rw [if_neg h1] at e; simp at e
theorem rowsF_Sm : ∀ (k : Nat) (r : List (List Int)), (∀ x ∈ r, Sm x) → ∀ x ∈ rowsF k r, ∀ y ∈ x, Sm y
  | 0, r, h => fun x hx => by simp [rowsF] at hx
  | k + 1, r, h => fun x hx => by
    rw [rowsF_succ] at hx
    rcases List.mem_cons.1 hx with e | e
    · rw [e]; exact h
    · by_cases h1 : 1 < r.length
      · rw [if_pos h1] at e
        exact rowsF_Sm k (up r) (up_Sm r h) x e
      · rw [if_neg h1] at e; simp at e
theorem flat_joints : ∀ (k : Nat) (r : List (List Int)), r.length < k → (rowsF k r).dropLast.flatMap pairs = jointsF k r
  | 0, r, h => absurd h (Nat.not_lt_zero _)
  | k + 1, r, h => by
    rw [rowsF_succ, jointsF]
    by_cases h1 : 1 < r.length
    · have hu := up_len r
      have hk : (up r).length < k := by omega
      rw [if_pos h1, if_pos h1, ← flat_joints k (up r) hk]
      obtain ⟨k', rfl⟩ : ∃ k', k = k' + 1 := ⟨k - 1, by omega⟩
      rw [rowsF_succ, List.dropLast_cons_cons, List.flatMap_cons]
    · rw [if_neg h1, if_neg h1]; rfl
theorem rowsOf_pos (ts : List (List Int)) : 0 < (rowsOf ts).length := by unfold rowsOf; rw [rowsF_succ, List.length_cons]; omega
theorem allOf_is (ts : List (List Int)) : allOf ts = ts.map leafT ++ ((rowsOf ts).take ((rowsOf ts).length - 1)).flatMap pairs := by
  unfold allOf
  rw [← flat_joints (ts.length + 1) (leavesOf ts) (by rw [leaves_len]; omega), ← List.dropLast_eq_take]
  rfl
theorem flat_snoc (l : List (List (List Int))) (k : Nat) (h : k < l.length) : (l.take (k + 1)).flatMap pairs = (l.take k).flatMap pairs ++ pairs (l.getD k []) := by
  rw [List.take_succ_eq_append_getElem h, List.flatMap_append, List.getD_eq_getElem?_getD, List.getElem?_eq_getElem h]
  simp
theorem mem_gdr (rs : List (List (List Int))) (i : Nat) (h : i < rs.length) : rs.getD i [] ∈ rs := by
  rw [List.getD_eq_getElem?_getD, List.getElem?_eq_getElem h]; exact List.getElem_mem h
set_option maxHeartbeats 6400000 in
set_option maxRecDepth 100000 in
theorem rall_calls (A : Option Addr) (N c : Nat) (ts : List (List Int)) (hN : ts.length = N) (hb : ∀ t ∈ ts, Bt t ∧ t.length ≤ 800000) (hN1 : N ≤ 100) (w : World) (hC : rowK.C w A N ts) :
    Calls Tryd.prog 27 #[.slice A N c] w (fun e w' => ∃ v, e = .returned v ∧ rowK.R 24 w' w.heap.size (fun _ => True) v (allOf ts) ∧ Below w.heap.size w w') := by
  have HC := Aside0.mk hC
  have HN := Aside0.mk hN
  have HBT := Aside0.mk hb
  have HRW : Aside0 (∀ W', Below w.heap.size w W' → Calls Tryd.prog 61 #[.slice A N c] W' (fun e w' => ∃ v, e = .returned v ∧ rowsK.R 22 w' W'.heap.size (fun _ => True) v (rowsOf ts) ∧ Below W'.heap.size W' w')) := ⟨fun W' h => rrows_calls A N c ts hN hb (by omega) W' (Kd.C_below hC h)⟩
  obtain ⟨M, hM⟩ : ∃ M, (rowsOf ts).length = M := ⟨_, rfl⟩
  have HM := Aside0.mk hM
  have hM0 : 0 < M := by rw [← hM]; exact rowsOf_pos ts
  have hM1 : M ≤ 101 := by rw [← hM]; have := rowsF_len (ts.length + 1) (leavesOf ts); have h2 : (rowsOf ts).length ≤ ts.length + 1 := this; omega
  have HRL : Aside0 (∀ r ∈ rowsOf ts, r.length ≤ 100) := ⟨rowsF_le _ 100 _ (by rw [leaves_len]; omega)⟩
  have HRS : Aside0 (∀ r ∈ rowsOf ts, ∀ y ∈ r, Sm y) := ⟨rowsF_Sm _ _ (leaves_Sm ts)⟩
  have HAL := Aside0.mk (allOf_is ts)
  clear hC hN hb hM
  refine (callsIn_wide (n := 9)).1 ?_
  refine callsIn_of_wp Tryd.func27 rfl trivial ?_ rfl
  simp only [Tryd.ntmps27, List.size_toArray, List.length_cons, List.length_nil, Nat.reduceAdd, Nat.reduceSub, Array.replicate_succ, Array.replicate_zero, List.push_toArray, List.append_toArray, List.nil_append, List.cons_append]
  gi_wp2_with fail
  gi_loopw [3, 4] (fun v3 v4 wr => ∃ i : Nat, v4 = .int .i64 (i : Int) ∧ i ≤ N ∧ Aside0 (rowK.R 24 wr w.heap.size (fun _ => True) v3 ((ts.map leafT).take i)) ∧ Aside0 (Below w.heap.size w wr))
    (fun _ v4 _ => N - (intOf v4).toNat)
  case atStart => exact ⟨0, rfl, Nat.zero_le _, ⟨Kd.R_nil _ _ _ _ _⟩, ⟨Below.refl _ _⟩⟩
  case round =>
    obtain ⟨i, rfl, hi, HR, HBr⟩ := hrel
    obtain ⟨A5, c5, e5⟩ := Kd.R_slice HR.out
    obtain ⟨N5, hN5⟩ : ∃ N5, ((ts.map leafT).take i).length = N5 := ⟨_, rfl⟩
    rw [hN5] at e5
    subst e5
    by_cases hlt : i < N
    · obtain ⟨ad0, A2, c2, rfl, hc2, hl2, hC2⟩ := at_row (Kd.C_below HC.out HBr.out) i hlt
      have hbt := HBT.out _ (mem_gd ts i (by rw [HN.out]; exact hlt))
      have htk : (ts.map leafT).take (i + 1) = (ts.map leafT).take i ++ [leafT (ts.getD i [])] := by
        have hll : i < (ts.map leafT).length := by rw [List.length_map, HN.out]; exact hlt
        rw [take_gd _ i hll, List.getD_eq_getElem?_getD, List.getD_eq_getElem?_getD, List.getElem?_map, List.getElem?_eq_getElem (by rw [HN.out]; exact hlt)]
        rfl
      obtain ⟨t, ht⟩ : ∃ t, ts.getD i [] = t := ⟨_, rfl⟩
      rw [ht] at hc2 hl2 hC2 hbt htk
      obtain ⟨m, hm⟩ : ∃ m, t.length = m := ⟨_, rfl⟩
      rw [hm] at hc2 hl2 hC2
      have HLF := Aside0.mk (rleaf_calls A2 m c2 t hm (by have := hbt.2; omega) hl2 wr hC2)
      have HLT : Aside0 ((leafT t).length = m + 1) := ⟨by unfold leafT; rw [List.length_cons, hm]⟩
      have HTK := Aside0.mk htk
      have HTL : Aside0 (((ts.map leafT).take i).length ≤ 200000) := ⟨by rw [List.length_take]; omega⟩
      have hid : (i : Int) < (N : Int) := by omega
      clear ht hm hbt htk hC2 hl2
      gi_wp2_with (first
        | (refine ⟨trivial, ?_⟩; gi_at_call 58; (with_reducible refine (callsIn_wide.2 HLF.out).mono ?_); rintro e w1 ⟨v1, rfl, ho, hb⟩; obtain ⟨A1, c1, e1⟩ := Kd.R_slice ho; subst e1; rw [HLT.out] at ho ⊢; have HO := Aside0.mk (Kd.R_lower ho HBr.out.size); have HB1 := Aside0.mk (below_then HBr.out HBr.out.size hb); have HR1 := Aside0.mk (Kd.R_below HR.out hb); clear ho hb)
        | (gi_at_builtin; obtain ⟨v5, w5, hrun, hR5, hg5, hat5⟩ := row_push w.heap.size _ _ HR1.out _ _ HO.out HB1.out.size HTL.out; refine append_in (.tmp 14) (.tmp 20) 22 rfl rfl hrun ?_)
        | fail)
      exact ⟨⟨i + 1, rfl, hlt, ⟨by rw [HTK.out]; exact hR5⟩, ⟨HB1.out.grown hg5 HB1.out.size (fun k hk => (row_own HR1.out k hk).1)⟩⟩, meas_nat hlt⟩
    · obtain rfl : i = N := by omega
      have htk : (ts.map leafT).take i = ts.map leafT := List.take_of_length_le (by rw [List.length_map, HN.out]; exact Nat.le_refl _)
      rw [htk] at HR hN5
      have hNi : N5 = i := by rw [← hN5, List.length_map, HN.out]
      subst hNi
      have hid : ¬ (N5 : Int) < (N5 : Int) := by omega
      obtain ⟨S1, hS1⟩ : ∃ S1, wr.heap.size = S1 := ⟨_, rfl⟩
      have HS1 := Aside0.mk hS1
      clear htk hlt hi hN5 hS1
      gi_wp2_with (first
        | (refine ⟨trivial, ?_⟩; gi_at_call 61; (with_reducible refine (callsIn_wide.2 (HRW.out _ HBr.out)).mono ?_); rintro e w2 ⟨v2, rfl, ho, hb⟩; obtain ⟨Ar, cr, er⟩ := Kd.R_slice ho; subst er; rw [HM.out] at ho ⊢; have HX2 := Aside0.mk ho; have HB2 := Aside0.mk (below_then HBr.out HBr.out.size hb); have HR2 := Aside0.mk (Kd.R_below HR.out hb); have HW2 := Aside0.mk hb; clear ho hb)
        | fail)
      obtain ⟨S2, hS2⟩ : ∃ S2, w2.heap.size = S2 := ⟨_, rfl⟩
      have HS12 : Aside0 (S1 ≤ S2 ∧ w.heap.size ≤ S1) := ⟨by have h1 := HW2.out.size; have h2 := HBr.out.size; have := HS1.out; omega⟩
      have HX : Aside0 (rowsK.R 22 w2 w.heap.size (fun k => S1 ≤ k ∧ k < S2) (.slice Ar M cr) (rowsOf ts)) := ⟨Kd.R_lower (Kd.R_mono (Kd.R_bound HX2.out) (fun k hk => by have h1 := hk.2.1; have h2 := hk.2.2.1; have := HS1.out; omega)) HBr.out.size⟩
      have HO0 : Aside0 (∀ r, (Value.slice A5 N5 c5).ownBlock = some r → r < S1 ∨ S2 ≤ r) := ⟨fun r hr => .inl (by have := row_own_lt HR.out r hr; have := HS1.out; omega)⟩
      have HZ2 : Aside0 (S2 ≤ w2.heap.size) := ⟨by omega⟩
      clear hS2 HX2 HW2 HR HBr HS1
      gi_loopw [3, 6] (fun v3 v6 wr => ∃ k : Nat, v6 = .int .i64 (k : Int) ∧ k + 1 ≤ M ∧ Aside0 (rowK.R 24 wr w.heap.size (fun _ => True) v3 (ts.map leafT ++ ((rowsOf ts).take k).flatMap pairs)) ∧ Aside0 (∀ r, v3.ownBlock = some r → r < S1 ∨ S2 ≤ r) ∧ Aside0 (rowsK.R 22 wr w.heap.size (fun k => S1 ≤ k ∧ k < S2) (.slice Ar M cr) (rowsOf ts)) ∧ Aside0 (Below w.heap.size w wr) ∧ Aside0 (S2 ≤ wr.heap.size))
        (fun _ v6 _ => M - (intOf v6).toNat)
      case atStart => exact ⟨0, rfl, hM0, ⟨by rw [List.take_zero, List.flatMap_nil, List.append_nil]; exact HR2.out⟩, HO0, HX, HB2, HZ2⟩
      case round =>
        clear HR2 HO0 HX HB2 HZ2
        obtain ⟨k, rfl, hk, HR, HO, HX, HB, HZ⟩ := hrel
        obtain ⟨A3, c3, e3⟩ := Kd.R_slice HR.out
        subst e3
        by_cases hkm : k + 1 < M
        · have hk1 : (k : Int) + 1 < (M : Int) := by omega
          have hk2 : (k : Int) < (M : Int) := by omega
          have hml := HRL.out _ (mem_gdr (rowsOf ts) k (by rw [HM.out]; omega))
          have hms := HRS.out _ (mem_gdr (rowsOf ts) k (by rw [HM.out]; omega))
          have hfs := flat_snoc (rowsOf ts) k (by rw [HM.out]; omega)
          obtain ⟨row, hrow⟩ : ∃ r, (rowsOf ts).getD k [] = r := ⟨_, rfl⟩
          rw [hrow] at hml hms hfs
          obtain ⟨m, hm⟩ : ∃ m, row.length = m := ⟨_, rfl⟩
          rw [hm] at hml
          obtain ⟨pre, hpre⟩ : ∃ p, ts.map leafT ++ ((rowsOf ts).take k).flatMap pairs = p := ⟨_, rfl⟩
          have hpl : pre.length ≤ 20000 := by
            have h1 := flat_len 100 ((rowsOf ts).take k) (fun r hr => HRL.out r (List.mem_of_mem_take hr))
            rw [List.length_take, HM.out] at h1
            rw [← hpre, List.length_append, List.length_map, HN.out]
            have h2 : min k M * 100 ≤ 101 * 100 := Nat.mul_le_mul_right _ (by omega)
            omega
          rw [hpre] at HR HO ⊢
          have HFS : Aside0 (ts.map leafT ++ ((rowsOf ts).take (k + 1)).flatMap pairs = pre ++ pairs row) := ⟨by rw [hfs, ← List.append_assoc, hpre]⟩
          have HROW := Aside0.mk hrow
          have HMR := Aside0.mk hm
          have HMS := Aside0.mk hms
          have HPL := Aside0.mk hpl
          clear hfs hrow hms hpre hm hpl
          gi_wp2_with fail
          gi_loopw [3, 7] (fun v3 v7 wr3 => ∃ q : Nat, v7 = .int .i64 ((2 * q : Nat) : Int) ∧ 2 * q ≤ m + 1 ∧ Aside0 (rowK.R 24 wr3 w.heap.size (fun _ => True) v3 (pre ++ (pairs row).take q)) ∧ Aside0 (∀ r, v3.ownBlock = some r → r < S1 ∨ S2 ≤ r) ∧ Aside0 (rowsK.R 22 wr3 w.heap.size (fun k => S1 ≤ k ∧ k < S2) (.slice Ar M cr) (rowsOf ts)) ∧ Aside0 (Below w.heap.size w wr3) ∧ Aside0 (S2 ≤ wr3.heap.size))
            (fun _ v7 _ => m + 2 - (intOf v7).toNat)
          case atStart => exact ⟨0, rfl, Nat.zero_le _, ⟨by rw [List.take_zero, List.append_nil]; exact HR.out⟩, HO, HX, HB, HZ⟩
          case round =>
            clear HR HO HX HB HZ
            obtain ⟨q, rfl, hq, HR6, HO6, HX4, HB4, HZ4⟩ := hrel
            obtain ⟨j, hj⟩ : ∃ j, 2 * q = j := ⟨_, rfl⟩
            rw [hj] at hq ⊢
            have HJJ := Aside0.mk hj
            obtain ⟨adr, Ak, ck, e1, hcr, hRk⟩ := rows_elem HX4.out k (by omega)
            subst e1
            rw [HROW.out, HMR.out] at hcr
            rw [HROW.out, HMR.out] at hRk
            have hm6b : (pre ++ (pairs row).take q).length ≤ 200000 := by have := HPL.out; rw [List.length_append, List.length_take, pairs_len, HMR.out]; omega
            obtain ⟨L6, hL6⟩ : ∃ L, pre ++ (pairs row).take q = L := ⟨_, rfl⟩
            rw [hL6] at HR6 hm6b
            have HL6 := Aside0.mk hL6
            obtain ⟨A6, c6, e6⟩ := Kd.R_slice HR6.out
            subst e6
            clear hL6
            by_cases hlt : j + 1 < m
            · obtain ⟨ad, B1, d1, e1, hc1, hR1⟩ := row_elem hRk j (by omega)
              subst e1
              obtain ⟨ad', B2, d2, e2, hc2, hR2⟩ := row_elem hRk (j + 1) hlt
              cases e2
              have hs1 := HMS.out _ (mem_gd row j (by rw [HMR.out]; omega))
              have hs2 := HMS.out _ (mem_gd row (j + 1) (by rw [HMR.out]; exact hlt))
              have HUP : Aside0 (pre ++ (pairs row).take (q + 1) = L6 ++ [jointT (row.getD j []) (row.getD (j + 1) [])]) := ⟨by rw [pairs_take row q (by rw [hj, HMR.out]; exact hlt), hj, ← HL6.out, List.append_assoc]⟩
              obtain ⟨s, hs⟩ : ∃ s, row.getD j [] = s := ⟨_, rfl⟩
              obtain ⟨r, hr⟩ : ∃ r, row.getD (j + 1) [] = r := ⟨_, rfl⟩
              rw [hs] at hs1 hc1 hR1 HUP
              rw [hr] at hs2 hc2 hR2 HUP
              rw [hs1.2] at hc1 hR1
              rw [hs2.2] at hc2 hR2
              have HJT : Aside0 (∀ W', Below wr.heap.size wr W' → Calls Tryd.prog 59 #[.slice B1 32 d1, .slice B2 32 d2] W' (Own W' (jointT s r))) := ⟨fun W' h => by
                have g1 := (Kd.R_reads' hR1).2
                have g2 := (Kd.R_reads' hR2).2
                rw [hs1.2] at g1
                rw [hs2.2] at g2
                exact rjoint_calls B1 32 d1 s B2 32 d2 r hs1.2 hs2.2 (by omega) (by omega) g1.1 g2.1 W' (Kd.C_below g1.2 h) (Kd.C_below g2.2 h)⟩
              have HJL : Aside0 ((jointT s r).length = 65) := ⟨by rw [joint_len, hs1.2, hs2.2]⟩
              have HML := Aside0.mk hm6b
              obtain ⟨j1, hj1⟩ : ∃ j1, j + 1 = j1 := ⟨_, rfl⟩
              rw [hj1] at hc2
              have hd1 : (j : Int) + 1 < (m : Int) := by omega
              have hd2 : (j : Int) < (m : Int) := by omega
              have hd3 : (j1 : Int) < (m : Int) := by omega
              have hw1 : IntKind.i64.wrap ((j : Int) + 1) = (j1 : Int) := by
                have h := IntWalk.wrap64_in ((j : Int) + 1) (by omega)
                rw [i64_w, h]; omega
              clear hs hr hs1 hs2 hR1 hR2 hm6b hj hj1 hRk
              gi_wp2_with fail
              refine wpIn_region_any (by kernel_rfl) ?_
              (try change wpAnyIn _ _ _ _ _ _ _ _ _ (World.drew _))
              -- BEGIN region
              refine wpAnyIn_take (i := 0) (v := ?_) rfl rfl (by kernel_rfl) (by kernel_rfl) (by kernel_rfl) (fun _ _ _ h => h) ⟨Or.inl ⟨by rfl, ?_⟩, fun _ => rfl⟩ ?_
              rotate_left
              · first | (intro w; go_simp; done) | (intro w; go_simp; with_reducible rfl)
              refine wpAnyIn_take (i := 1) (v := ?_) rfl rfl (by kernel_rfl) (by kernel_rfl) (by kernel_rfl) (fun _ _ _ h => h) ⟨Or.inl ⟨by rfl, ?_⟩, fun _ => rfl⟩ ?_
              rotate_left
              · first | (intro w; go_simp; done) | (intro w; go_simp; with_reducible rfl)
              refine wpAnyIn_take (i := 2) (v := ?_) rfl rfl (by kernel_rfl) (by kernel_rfl) (by kernel_rfl) (fun _ _ _ h => h) ⟨Or.inl ⟨by rfl, ?_⟩, fun _ => rfl⟩ ?_
              rotate_left
              · first | (intro w; go_simp; done) | (intro w; go_simp; with_reducible rfl)
              refine wpAnyIn_take (i := 3) (v := ?_) rfl rfl (by kernel_rfl) (by kernel_rfl) (by kernel_rfl) (fun _ _ _ h => h) ⟨Or.inl ⟨by rfl, ?_⟩, fun _ => rfl⟩ ?_
              rotate_left
              · first | (intro w; go_simp; done) | (intro w; go_simp; with_reducible rfl)
              refine wpAnyIn_take (i := 5) (v := ?_) rfl rfl (by kernel_rfl) (by kernel_rfl) (by kernel_rfl) (fun _ _ _ h => h) ⟨Or.inl ⟨by rfl, ?_⟩, fun _ => rfl⟩ ?_
              rotate_left
              · first | (intro w; go_simp; done) | (intro w; go_simp; with_reducible rfl)
              refine wpAnyIn_take (i := 8) (v := ?_) rfl rfl (by kernel_rfl) (by kernel_rfl) (by kernel_rfl) (fun _ _ _ h => h) ⟨Or.inl ⟨by rfl, ?_⟩, fun _ => rfl⟩ ?_
              rotate_left
              · first | (intro w; go_simp; done) | (intro w; go_simp; with_reducible rfl)
              refine wpAnyIn_take (i := 9) (v := ?_) rfl rfl (by kernel_rfl) (by kernel_rfl) (by kernel_rfl) (fun _ _ _ h => h) ⟨Or.inl ⟨by rfl, ?_⟩, fun _ => rfl⟩ ?_
              rotate_left
              · first | (intro w; go_simp; done) | (intro w; go_simp; with_reducible rfl)
              refine wpAnyIn_take (i := 10) (v := ?_) rfl rfl (by kernel_rfl) (by kernel_rfl) (by kernel_rfl) (fun _ _ _ h => h) ⟨Or.inl ⟨by rfl, ?_⟩, fun _ => rfl⟩ ?_
              rotate_left
              · first | (intro w; go_simp; done) | (intro w; go_simp; with_reducible rfl)
              refine wpAnyIn_take (i := 12) (v := ?_) rfl rfl (by kernel_rfl) (by kernel_rfl) (by kernel_rfl) (fun _ _ _ h => h) ⟨Or.inl ⟨by rfl, ?_⟩, fun _ => rfl⟩ ?_
              rotate_left
              · first | (intro w; go_simp; done) | (intro w; go_simp; with_reducible rfl)
              refine wpAnyIn_take (i := 13) (v := ?_) rfl rfl (by kernel_rfl) (by kernel_rfl) (by kernel_rfl) (fun _ _ _ h => h) ⟨Or.inl ⟨by rfl, ?_⟩, fun _ => rfl⟩ ?_
              rotate_left
              · first | (intro w; go_simp; done) | (intro w; go_simp; with_reducible rfl)
              refine wpAnyIn_ready (rs := [4, 11]) (by decide +kernel) (by simp) ?_
              refine AllReadyIn.cons rfl (fun K hK => ?_) ?_
              · go_simp
                refine hK _ _ ?_
                clear hK K
                refine wpAnyIn_take (i := 6) (v := ?_) rfl rfl (by kernel_rfl) (by kernel_rfl) (by kernel_rfl) (fun _ _ _ h => h) ⟨Or.inl ⟨by rfl, ?_⟩, fun _ => rfl⟩ ?_
                rotate_left
                · first | (intro w; go_simp; done) | (intro w; go_simp; with_reducible rfl)
                refine wpAnyIn_ready (rs := [7, 11]) (by decide +kernel) (by simp) ?_
                refine AllReadyIn.cons rfl (fun K hK => ?_) ?_
                · go_simp
                  refine hK _ _ ?_
                  clear hK K
                  refine wpAnyIn_ready (rs := [11]) (by decide +kernel) (by simp) ?_
                  refine AllReadyIn.cons rfl (fun K hK => ?_) AllReadyIn.nil
                  go_simp
                  refine hK _ _ ?_
                  clear hK K
                  refine wpAnyIn_take (i := 14) (v := ?_) rfl rfl (by kernel_rfl) (by kernel_rfl) (by kernel_rfl) (fun _ _ _ h => h) ⟨Or.inl ⟨by rfl, ?_⟩, fun _ => rfl⟩ ?_
                  rotate_left
                  · first | (intro w; go_simp; done) | (intro w; go_simp; with_reducible rfl)
                  refine wpAnyIn_ready (rs := [15]) (by decide +kernel) (by simp) ?_
                  refine AllReadyIn.cons rfl (fun K hK => ?_) AllReadyIn.nil
                  go_simp
                  refine hK _ _ ?_
                  clear hK K
                  refine wpAnyIn_ready (rs := [16]) (by decide +kernel) (by simp) ?_
                  refine AllReadyIn.cons rfl (fun K hK => ?_) AllReadyIn.nil
                  go_simp
                  refine ⟨trivial, ?_⟩; gi_at_call 59; (with_reducible refine (callsIn_wide.2 (HJT.out _ (below_drew (Below.refl _ _)))).mono ?_); rintro e w5 ⟨v5, rfl, ho, hb⟩; obtain ⟨A7, c7, e7⟩ := Kd.R_slice ho; subst e7; rw [HJL.out] at ho ⊢; have HB5 := Aside0.mk (below_then (below_drew (Below.refl wr.heap.size wr)) (below_drew (Below.refl wr.heap.size wr)).size hb); have HR65 := Aside0.mk (Kd.R_below HR6.out HB5.out); have HZ5 := Aside0.mk (Nat.le_trans HZ4.out HB5.out.size); obtain ⟨v1, w6, hrun, hR7, hg7, hat7⟩ := row_push w.heap.size _ _ HR65.out _ _ (Kd.R_lower ho HB4.out.size) (Nat.le_trans HB4.out.size HB5.out.size) HML.out; obtain ⟨A8, c8, e8⟩ := Kd.R_slice hR7; rw [List.length_append, List.length_singleton] at e8; subst e8; clear ho hb
                  refine hK _ _ ?_
                  clear hK K
                  refine wpAnyIn_ready (rs := [17]) (by decide +kernel) (by simp) ?_
                  refine AllReadyIn.cons rfl (fun K hK => ?_) AllReadyIn.nil
                  go_simp
                  refine hK _ _ ?_
                  clear hK K
                  refine wpAnyIn_ready (rs := [18]) (by decide +kernel) (by simp) ?_
                  refine AllReadyIn.cons rfl (fun K hK => ?_) AllReadyIn.nil
                  refine step_run_in (.tmp 41) (.tmp 58) 22 rfl rfl hrun ?_
                  refine hK _ _ ?_
                  clear hK K
                  refine wpAnyIn_ready (rs := [19]) (by decide +kernel) (by simp) ?_
                  refine AllReadyIn.cons rfl (fun K hK => ?_) AllReadyIn.nil
                  go_simp
                  refine hK _ _ ?_
                  clear hK K
                  refine wpAnyIn_done (by decide +kernel) ?_ _
                  gi_wp2_with fail
                  refine ⟨⟨q + 1, by rw [show ((2 * (q + 1) : Nat) : Int) = (j : Int) + 2 from by have := HJJ.out; omega], by have := HJJ.out; omega, ⟨by rw [HUP.out]; exact hR7⟩, ⟨fun r hr => ?_⟩, ⟨Kd.R_grown (Kd.R_below HX4.out HB5.out) hg7 (fun k hk e => by have := HO6.out k e.symm; omega)⟩, ⟨(below_then HB4.out HB4.out.size HB5.out).grown hg7 (Nat.le_trans HB4.out.size HB5.out.size) (fun k hk => (row_own HR65.out k hk).1)⟩, ⟨Nat.le_trans HZ5.out hg7.size⟩⟩, by simp [intOf]; omega⟩
                  rcases hat7 with e | ⟨b, e, hb⟩
                  · rw [e] at hr; exact HO6.out r hr
                  · rw [e] at hr; cases hr; exact .inr (Nat.le_trans HZ5.out hb)
                refine AllReadyIn.cons rfl (fun K hK => ?_) ?_
                · go_simp
                  refine hK _ _ ?_
                  clear hK K
                  refine wpAnyIn_take (i := 14) (v := ?_) rfl rfl (by kernel_rfl) (by kernel_rfl) (by kernel_rfl) (fun _ _ _ h => h) ⟨Or.inl ⟨by rfl, ?_⟩, fun _ => rfl⟩ ?_
                  rotate_left
                  · first | (intro w; go_simp; done) | (intro w; go_simp; with_reducible rfl)
                  refine wpAnyIn_ready (rs := [7, 15]) (by decide +kernel) (by simp) ?_
                  refine AllReadyIn.cons rfl (fun K hK => ?_) ?_
                  · go_simp
                    refine hK _ _ ?_
                    clear hK K
                    refine wpAnyIn_ready (rs := [15]) (by decide +kernel) (by simp) ?_
                    refine AllReadyIn.cons rfl (fun K hK => ?_) AllReadyIn.nil
                    go_simp
                    refine hK _ _ ?_
                    clear hK K
                    refine wpAnyIn_ready (rs := [16]) (by decide +kernel) (by simp) ?_
                    refine AllReadyIn.cons rfl (fun K hK => ?_) AllReadyIn.nil
                    go_simp
                    refine ⟨trivial, ?_⟩; gi_at_call 59; (with_reducible refine (callsIn_wide.2 (HJT.out _ (below_drew (Below.refl _ _)))).mono ?_); rintro e w5 ⟨v5, rfl, ho, hb⟩; obtain ⟨A7, c7, e7⟩ := Kd.R_slice ho; subst e7; rw [HJL.out] at ho ⊢; have HB5 := Aside0.mk (below_then (below_drew (Below.refl wr.heap.size wr)) (below_drew (Below.refl wr.heap.size wr)).size hb); have HR65 := Aside0.mk (Kd.R_below HR6.out HB5.out); have HZ5 := Aside0.mk (Nat.le_trans HZ4.out HB5.out.size); obtain ⟨v1, w6, hrun, hR7, hg7, hat7⟩ := row_push w.heap.size _ _ HR65.out _ _ (Kd.R_lower ho HB4.out.size) (Nat.le_trans HB4.out.size HB5.out.size) HML.out; obtain ⟨A8, c8, e8⟩ := Kd.R_slice hR7; rw [List.length_append, List.length_singleton] at e8; subst e8; clear ho hb
                    refine hK _ _ ?_
                    clear hK K
                    refine wpAnyIn_ready (rs := [17]) (by decide +kernel) (by simp) ?_
                    refine AllReadyIn.cons rfl (fun K hK => ?_) AllReadyIn.nil
                    go_simp
                    refine hK _ _ ?_
                    clear hK K
                    refine wpAnyIn_ready (rs := [18]) (by decide +kernel) (by simp) ?_
                    refine AllReadyIn.cons rfl (fun K hK => ?_) AllReadyIn.nil
                    refine step_run_in (.tmp 41) (.tmp 58) 22 rfl rfl hrun ?_
                    refine hK _ _ ?_
                    clear hK K
                    refine wpAnyIn_ready (rs := [19]) (by decide +kernel) (by simp) ?_
                    refine AllReadyIn.cons rfl (fun K hK => ?_) AllReadyIn.nil
                    go_simp
                    refine hK _ _ ?_
                    clear hK K
                    refine wpAnyIn_done (by decide +kernel) ?_ _
                    gi_wp2_with fail
                    refine ⟨⟨q + 1, by rw [show ((2 * (q + 1) : Nat) : Int) = (j : Int) + 2 from by have := HJJ.out; omega], by have := HJJ.out; omega, ⟨by rw [HUP.out]; exact hR7⟩, ⟨fun r hr => ?_⟩, ⟨Kd.R_grown (Kd.R_below HX4.out HB5.out) hg7 (fun k hk e => by have := HO6.out k e.symm; omega)⟩, ⟨(below_then HB4.out HB4.out.size HB5.out).grown hg7 (Nat.le_trans HB4.out.size HB5.out.size) (fun k hk => (row_own HR65.out k hk).1)⟩, ⟨Nat.le_trans HZ5.out hg7.size⟩⟩, by simp [intOf]; omega⟩
                    rcases hat7 with e | ⟨b, e, hb⟩
                    · rw [e] at hr; exact HO6.out r hr
                    · rw [e] at hr; cases hr; exact .inr (Nat.le_trans HZ5.out hb)
                  refine AllReadyIn.cons rfl (fun K hK => ?_) ?_
                  · go_simp
                    refine hK _ _ ?_
                    clear hK K
                    refine wpAnyIn_ready (rs := [7]) (by decide +kernel) (by simp) ?_
                    refine AllReadyIn.cons rfl (fun K hK => ?_) AllReadyIn.nil
                    go_simp
                    refine hK _ _ ?_
                    clear hK K
                    refine wpAnyIn_ready (rs := [16]) (by decide +kernel) (by simp) ?_
                    refine AllReadyIn.cons rfl (fun K hK => ?_) AllReadyIn.nil
                    go_simp
                    refine ⟨trivial, ?_⟩; gi_at_call 59; (with_reducible refine (callsIn_wide.2 (HJT.out _ (below_drew (Below.refl _ _)))).mono ?_); rintro e w5 ⟨v5, rfl, ho, hb⟩; obtain ⟨A7, c7, e7⟩ := Kd.R_slice ho; subst e7; rw [HJL.out] at ho ⊢; have HB5 := Aside0.mk (below_then (below_drew (Below.refl wr.heap.size wr)) (below_drew (Below.refl wr.heap.size wr)).size hb); have HR65 := Aside0.mk (Kd.R_below HR6.out HB5.out); have HZ5 := Aside0.mk (Nat.le_trans HZ4.out HB5.out.size); obtain ⟨v1, w6, hrun, hR7, hg7, hat7⟩ := row_push w.heap.size _ _ HR65.out _ _ (Kd.R_lower ho HB4.out.size) (Nat.le_trans HB4.out.size HB5.out.size) HML.out; obtain ⟨A8, c8, e8⟩ := Kd.R_slice hR7; rw [List.length_append, List.length_singleton] at e8; subst e8; clear ho hb
                    refine hK _ _ ?_
                    clear hK K
                    refine wpAnyIn_ready (rs := [17]) (by decide +kernel) (by simp) ?_
                    refine AllReadyIn.cons rfl (fun K hK => ?_) AllReadyIn.nil
                    go_simp
                    refine hK _ _ ?_
                    clear hK K
                    refine wpAnyIn_ready (rs := [18]) (by decide +kernel) (by simp) ?_
                    refine AllReadyIn.cons rfl (fun K hK => ?_) AllReadyIn.nil
                    refine step_run_in (.tmp 41) (.tmp 58) 22 rfl rfl hrun ?_
                    refine hK _ _ ?_
                    clear hK K
                    refine wpAnyIn_ready (rs := [19]) (by decide +kernel) (by simp) ?_
                    refine AllReadyIn.cons rfl (fun K hK => ?_) AllReadyIn.nil
                    go_simp
                    refine hK _ _ ?_
                    clear hK K
                    refine wpAnyIn_done (by decide +kernel) ?_ _
                    gi_wp2_with fail
                    refine ⟨⟨q + 1, by rw [show ((2 * (q + 1) : Nat) : Int) = (j : Int) + 2 from by have := HJJ.out; omega], by have := HJJ.out; omega, ⟨by rw [HUP.out]; exact hR7⟩, ⟨fun r hr => ?_⟩, ⟨Kd.R_grown (Kd.R_below HX4.out HB5.out) hg7 (fun k hk e => by have := HO6.out k e.symm; omega)⟩, ⟨(below_then HB4.out HB4.out.size HB5.out).grown hg7 (Nat.le_trans HB4.out.size HB5.out.size) (fun k hk => (row_own HR65.out k hk).1)⟩, ⟨Nat.le_trans HZ5.out hg7.size⟩⟩, by simp [intOf]; omega⟩
                    rcases hat7 with e | ⟨b, e, hb⟩
                    · rw [e] at hr; exact HO6.out r hr
                    · rw [e] at hr; cases hr; exact .inr (Nat.le_trans HZ5.out hb)
                  exact AllReadyIn.nil
                exact AllReadyIn.nil
              refine AllReadyIn.cons rfl (fun K hK => ?_) ?_
              · go_simp
                refine hK _ _ ?_
                clear hK K
                refine wpAnyIn_take (i := 14) (v := ?_) rfl rfl (by kernel_rfl) (by kernel_rfl) (by kernel_rfl) (fun _ _ _ h => h) ⟨Or.inl ⟨by rfl, ?_⟩, fun _ => rfl⟩ ?_
                rotate_left
                · first | (intro w; go_simp; done) | (intro w; go_simp; with_reducible rfl)
                refine wpAnyIn_ready (rs := [4, 15]) (by decide +kernel) (by simp) ?_
                refine AllReadyIn.cons rfl (fun K hK => ?_) ?_
                · go_simp
                  refine hK _ _ ?_
                  clear hK K
                  refine wpAnyIn_take (i := 6) (v := ?_) rfl rfl (by kernel_rfl) (by kernel_rfl) (by kernel_rfl) (fun _ _ _ h => h) ⟨Or.inl ⟨by rfl, ?_⟩, fun _ => rfl⟩ ?_
                  rotate_left
                  · first | (intro w; go_simp; done) | (intro w; go_simp; with_reducible rfl)
                  refine wpAnyIn_ready (rs := [7, 15]) (by decide +kernel) (by simp) ?_
                  refine AllReadyIn.cons rfl (fun K hK => ?_) ?_
                  · go_simp
                    refine hK _ _ ?_
                    clear hK K
                    refine wpAnyIn_ready (rs := [15]) (by decide +kernel) (by simp) ?_
                    refine AllReadyIn.cons rfl (fun K hK => ?_) AllReadyIn.nil
                    go_simp
                    refine hK _ _ ?_
                    clear hK K
                    refine wpAnyIn_ready (rs := [16]) (by decide +kernel) (by simp) ?_
                    refine AllReadyIn.cons rfl (fun K hK => ?_) AllReadyIn.nil
                    go_simp
                    refine ⟨trivial, ?_⟩; gi_at_call 59; (with_reducible refine (callsIn_wide.2 (HJT.out _ (below_drew (Below.refl _ _)))).mono ?_); rintro e w5 ⟨v5, rfl, ho, hb⟩; obtain ⟨A7, c7, e7⟩ := Kd.R_slice ho; subst e7; rw [HJL.out] at ho ⊢; have HB5 := Aside0.mk (below_then (below_drew (Below.refl wr.heap.size wr)) (below_drew (Below.refl wr.heap.size wr)).size hb); have HR65 := Aside0.mk (Kd.R_below HR6.out HB5.out); have HZ5 := Aside0.mk (Nat.le_trans HZ4.out HB5.out.size); obtain ⟨v1, w6, hrun, hR7, hg7, hat7⟩ := row_push w.heap.size _ _ HR65.out _ _ (Kd.R_lower ho HB4.out.size) (Nat.le_trans HB4.out.size HB5.out.size) HML.out; obtain ⟨A8, c8, e8⟩ := Kd.R_slice hR7; rw [List.length_append, List.length_singleton] at e8; subst e8; clear ho hb
                    refine hK _ _ ?_
                    clear hK K
                    refine wpAnyIn_ready (rs := [17]) (by decide +kernel) (by simp) ?_
                    refine AllReadyIn.cons rfl (fun K hK => ?_) AllReadyIn.nil
                    go_simp
                    refine hK _ _ ?_
                    clear hK K
                    refine wpAnyIn_ready (rs := [18]) (by decide +kernel) (by simp) ?_
                    refine AllReadyIn.cons rfl (fun K hK => ?_) AllReadyIn.nil
                    refine step_run_in (.tmp 41) (.tmp 58) 22 rfl rfl hrun ?_
                    refine hK _ _ ?_
                    clear hK K
                    refine wpAnyIn_ready (rs := [19]) (by decide +kernel) (by simp) ?_
                    refine AllReadyIn.cons rfl (fun K hK => ?_) AllReadyIn.nil
                    go_simp
                    refine hK _ _ ?_
                    clear hK K
                    refine wpAnyIn_done (by decide +kernel) ?_ _
                    gi_wp2_with fail
                    refine ⟨⟨q + 1, by rw [show ((2 * (q + 1) : Nat) : Int) = (j : Int) + 2 from by have := HJJ.out; omega], by have := HJJ.out; omega, ⟨by rw [HUP.out]; exact hR7⟩, ⟨fun r hr => ?_⟩, ⟨Kd.R_grown (Kd.R_below HX4.out HB5.out) hg7 (fun k hk e => by have := HO6.out k e.symm; omega)⟩, ⟨(below_then HB4.out HB4.out.size HB5.out).grown hg7 (Nat.le_trans HB4.out.size HB5.out.size) (fun k hk => (row_own HR65.out k hk).1)⟩, ⟨Nat.le_trans HZ5.out hg7.size⟩⟩, by simp [intOf]; omega⟩
                    rcases hat7 with e | ⟨b, e, hb⟩
                    · rw [e] at hr; exact HO6.out r hr
                    · rw [e] at hr; cases hr; exact .inr (Nat.le_trans HZ5.out hb)
                  refine AllReadyIn.cons rfl (fun K hK => ?_) ?_
                  · go_simp
                    refine hK _ _ ?_
                    clear hK K
                    refine wpAnyIn_ready (rs := [7]) (by decide +kernel) (by simp) ?_
                    refine AllReadyIn.cons rfl (fun K hK => ?_) AllReadyIn.nil
                    go_simp
                    refine hK _ _ ?_
                    clear hK K
                    refine wpAnyIn_ready (rs := [16]) (by decide +kernel) (by simp) ?_
                    refine AllReadyIn.cons rfl (fun K hK => ?_) AllReadyIn.nil
                    go_simp
                    refine ⟨trivial, ?_⟩; gi_at_call 59; (with_reducible refine (callsIn_wide.2 (HJT.out _ (below_drew (Below.refl _ _)))).mono ?_); rintro e w5 ⟨v5, rfl, ho, hb⟩; obtain ⟨A7, c7, e7⟩ := Kd.R_slice ho; subst e7; rw [HJL.out] at ho ⊢; have HB5 := Aside0.mk (below_then (below_drew (Below.refl wr.heap.size wr)) (below_drew (Below.refl wr.heap.size wr)).size hb); have HR65 := Aside0.mk (Kd.R_below HR6.out HB5.out); have HZ5 := Aside0.mk (Nat.le_trans HZ4.out HB5.out.size); obtain ⟨v1, w6, hrun, hR7, hg7, hat7⟩ := row_push w.heap.size _ _ HR65.out _ _ (Kd.R_lower ho HB4.out.size) (Nat.le_trans HB4.out.size HB5.out.size) HML.out; obtain ⟨A8, c8, e8⟩ := Kd.R_slice hR7; rw [List.length_append, List.length_singleton] at e8; subst e8; clear ho hb
                    refine hK _ _ ?_
                    clear hK K
                    refine wpAnyIn_ready (rs := [17]) (by decide +kernel) (by simp) ?_
                    refine AllReadyIn.cons rfl (fun K hK => ?_) AllReadyIn.nil
                    go_simp
                    refine hK _ _ ?_
                    clear hK K
                    refine wpAnyIn_ready (rs := [18]) (by decide +kernel) (by simp) ?_
                    refine AllReadyIn.cons rfl (fun K hK => ?_) AllReadyIn.nil
                    refine step_run_in (.tmp 41) (.tmp 58) 22 rfl rfl hrun ?_
                    refine hK _ _ ?_
                    clear hK K
                    refine wpAnyIn_ready (rs := [19]) (by decide +kernel) (by simp) ?_
                    refine AllReadyIn.cons rfl (fun K hK => ?_) AllReadyIn.nil
                    go_simp
                    refine hK _ _ ?_
                    clear hK K
                    refine wpAnyIn_done (by decide +kernel) ?_ _
                    gi_wp2_with fail
                    refine ⟨⟨q + 1, by rw [show ((2 * (q + 1) : Nat) : Int) = (j : Int) + 2 from by have := HJJ.out; omega], by have := HJJ.out; omega, ⟨by rw [HUP.out]; exact hR7⟩, ⟨fun r hr => ?_⟩, ⟨Kd.R_grown (Kd.R_below HX4.out HB5.out) hg7 (fun k hk e => by have := HO6.out k e.symm; omega)⟩, ⟨(below_then HB4.out HB4.out.size HB5.out).grown hg7 (Nat.le_trans HB4.out.size HB5.out.size) (fun k hk => (row_own HR65.out k hk).1)⟩, ⟨Nat.le_trans HZ5.out hg7.size⟩⟩, by simp [intOf]; omega⟩
                    rcases hat7 with e | ⟨b, e, hb⟩
                    · rw [e] at hr; exact HO6.out r hr
                    · rw [e] at hr; cases hr; exact .inr (Nat.le_trans HZ5.out hb)
                  exact AllReadyIn.nil
                refine AllReadyIn.cons rfl (fun K hK => ?_) ?_
                · go_simp
                  refine hK _ _ ?_
                  clear hK K
                  refine wpAnyIn_ready (rs := [4]) (by decide +kernel) (by simp) ?_
                  refine AllReadyIn.cons rfl (fun K hK => ?_) AllReadyIn.nil
                  go_simp
                  refine hK _ _ ?_
                  clear hK K
                  refine wpAnyIn_take (i := 6) (v := ?_) rfl rfl (by kernel_rfl) (by kernel_rfl) (by kernel_rfl) (fun _ _ _ h => h) ⟨Or.inl ⟨by rfl, ?_⟩, fun _ => rfl⟩ ?_
                  rotate_left
                  · first | (intro w; go_simp; done) | (intro w; go_simp; with_reducible rfl)
                  refine wpAnyIn_ready (rs := [7]) (by decide +kernel) (by simp) ?_
                  refine AllReadyIn.cons rfl (fun K hK => ?_) AllReadyIn.nil
                  go_simp
                  refine hK _ _ ?_
                  clear hK K
                  refine wpAnyIn_ready (rs := [16]) (by decide +kernel) (by simp) ?_
                  refine AllReadyIn.cons rfl (fun K hK => ?_) AllReadyIn.nil
                  go_simp
                  refine ⟨trivial, ?_⟩; gi_at_call 59; (with_reducible refine (callsIn_wide.2 (HJT.out _ (below_drew (Below.refl _ _)))).mono ?_); rintro e w5 ⟨v5, rfl, ho, hb⟩; obtain ⟨A7, c7, e7⟩ := Kd.R_slice ho; subst e7; rw [HJL.out] at ho ⊢; have HB5 := Aside0.mk (below_then (below_drew (Below.refl wr.heap.size wr)) (below_drew (Below.refl wr.heap.size wr)).size hb); have HR65 := Aside0.mk (Kd.R_below HR6.out HB5.out); have HZ5 := Aside0.mk (Nat.le_trans HZ4.out HB5.out.size); obtain ⟨v1, w6, hrun, hR7, hg7, hat7⟩ := row_push w.heap.size _ _ HR65.out _ _ (Kd.R_lower ho HB4.out.size) (Nat.le_trans HB4.out.size HB5.out.size) HML.out; obtain ⟨A8, c8, e8⟩ := Kd.R_slice hR7; rw [List.length_append, List.length_singleton] at e8; subst e8; clear ho hb
                  refine hK _ _ ?_
                  clear hK K
                  refine wpAnyIn_ready (rs := [17]) (by decide +kernel) (by simp) ?_
                  refine AllReadyIn.cons rfl (fun K hK => ?_) AllReadyIn.nil
                  go_simp
                  refine hK _ _ ?_
                  clear hK K
                  refine wpAnyIn_ready (rs := [18]) (by decide +kernel) (by simp) ?_
                  refine AllReadyIn.cons rfl (fun K hK => ?_) AllReadyIn.nil
                  refine step_run_in (.tmp 41) (.tmp 58) 22 rfl rfl hrun ?_
                  refine hK _ _ ?_
                  clear hK K
                  refine wpAnyIn_ready (rs := [19]) (by decide +kernel) (by simp) ?_
                  refine AllReadyIn.cons rfl (fun K hK => ?_) AllReadyIn.nil
                  go_simp
                  refine hK _ _ ?_
                  clear hK K
                  refine wpAnyIn_done (by decide +kernel) ?_ _
                  gi_wp2_with fail
                  refine ⟨⟨q + 1, by rw [show ((2 * (q + 1) : Nat) : Int) = (j : Int) + 2 from by have := HJJ.out; omega], by have := HJJ.out; omega, ⟨by rw [HUP.out]; exact hR7⟩, ⟨fun r hr => ?_⟩, ⟨Kd.R_grown (Kd.R_below HX4.out HB5.out) hg7 (fun k hk e => by have := HO6.out k e.symm; omega)⟩, ⟨(below_then HB4.out HB4.out.size HB5.out).grown hg7 (Nat.le_trans HB4.out.size HB5.out.size) (fun k hk => (row_own HR65.out k hk).1)⟩, ⟨Nat.le_trans HZ5.out hg7.size⟩⟩, by simp [intOf]; omega⟩
                  rcases hat7 with e | ⟨b, e, hb⟩
                  · rw [e] at hr; exact HO6.out r hr
                  · rw [e] at hr; cases hr; exact .inr (Nat.le_trans HZ5.out hb)
                exact AllReadyIn.nil
              exact AllReadyIn.nil
              -- END region
            · have hd1 : ¬ (j : Int) + 1 < (m : Int) := by omega
              have HUP : Aside0 ((pairs row).take q = pairs row) := ⟨List.take_of_length_le (by rw [pairs_len, HMR.out]; omega)⟩
              clear hj hlt hm6b hRk
              gi_wp2_with fail
              refine ⟨⟨k + 1, rfl, by omega, ⟨by rw [HFS.out, ← HUP.out, HL6.out]; exact HR6.out⟩, HO6, HX4, HB4, HZ4⟩, by simp [intOf]; omega⟩
        · have hk1 : ¬ (k : Int) + 1 < (M : Int) := by omega
          have HEQ : Aside0 (ts.map leafT ++ ((rowsOf ts).take k).flatMap pairs = allOf ts) := ⟨by rw [HAL.out, HM.out, show M - 1 = k from by omega]⟩
          gi_wp2_with fail
          refine bodyPost_ret (v := .slice A3 (ts.map leafT ++ ((rowsOf ts).take k).flatMap pairs).length c3) (by simp [results, Tryd.results27, go_sem]) rfl ⟨_, rfl, ?_, HB.out⟩
          rw [← HEQ.out]
          exact HR.out
end Go.Proofs.YteapdhfeddgjbaaDoor.Dg
end
section
/- tree: two unlike texts of one sum: the walk. -/
namespace Go.Proofs.YteapdhfeddgjbaaDoor.Dg
set_option linter.unusedVariables false
set_option linter.unusedSimpArgs false
open Go.RowKit Go.Proofs.YteapdhfeddgjbaaDoor.PDj Go.Proofs.YteapdhfeddgjbaaDoor.Num Go.Proofs.YteapdhfeddgjbaaDoorW Go.Proofs.YteapdhfeddgjbaaDoorW.PrintWords Go.Proofs.YteapdhfeddgjbaaDoorW.PrintLast Go.Proofs.YteapdhfeddgjbaaDoorW.PrintMore

/-- Two at places of one sum. -/
def ClashAt (L : List (List Int)) (i k : Nat) : Prop := L.getD i [] ≠ L.getD k [] ∧ sha (L.getD i []) = sha (L.getD k [])
theorem no_clash (L : List (List Int)) (h : ∀ i k, k < i → i < L.length → ¬ ClashAt L i k) : ¬ HasClash L := by
  rintro ⟨x, hx, y, hy, hne, hs⟩
  obtain ⟨i, hi, ex⟩ := List.getElem_of_mem hx
  obtain ⟨k, hk, ey⟩ := List.getElem_of_mem hy
  have gx : L.getD i [] = x := by rw [List.getD_eq_getElem?_getD, List.getElem?_eq_getElem hi, ← ex]; rfl
  have gy : L.getD k [] = y := by rw [List.getD_eq_getElem?_getD, List.getElem?_eq_getElem hk, ← ey]; rfl
  rcases Nat.lt_trichotomy i k with hlt | heq | hgt
  · exact h k i hlt hk ⟨by rw [gx, gy]; exact fun e => hne e.symm, by rw [gx, gy]; exact hs.symm⟩
  · subst heq
    rw [gx] at gy
    exact hne gy
  · exact h i k hgt hi ⟨by rw [gx, gy]; exact hne, by rw [gx, gy]; exact hs⟩
theorem same_quiet (A0 : Option Addr) (n0 c0 : Nat) (l0 : List Int) (A1 : Option Addr) (n1 c1 : Nat) (l1 : List Int) (e0 : l0.length = n0) (e1 : l1.length = n1) (hl : n0 ≤ 1000000) (hc0 : n0 ≤ c0) (hc1 : n1 ≤ c1) (w : World) (hC0 : Kd.C (Kd.int .u8) w A0 l0.length l0) (hC1 : Kd.C (Kd.int .u8) w A1 l1.length l1) :
    Calls Tryd.prog 14 #[.slice A0 n0 c0, .slice A1 n1 c1] w (fun e w' => e = .returned (.bool (decide (l0 = l1))) ∧ ∃ m, w' = w.drewN m) := by
  subst e0 e1
  obtain ⟨k, hk⟩ := Ev.rounds (same_ev l0 l1 hl)
  refine (cleromancyref01_Same.calls k A0 c0 l0 A1 c1 l1 _ w hC0 hc0 hC1 hc1 hk).mono ?_
  rintro e w' ⟨h1, h2⟩
  exact ⟨h1, h2.out⟩
set_option maxHeartbeats 6400000 in
set_option maxRecDepth 100000 in
theorem clash_calls (A : Option Addr) (N c : Nat) (L : List (List Int)) (hN : L.length = N) (hb : ∀ t ∈ L, Bt t ∧ t.length ≤ 900000) (hN1 : N ≤ 100000) (w : World) (hC : rowK.C w A N L) :
    Calls Tryd.prog 26 #[.slice A N c] w (fun e w' => ∃ r : Bool, e = .returned (.bool r) ∧ (HasClash L → r = true) ∧ Below w.heap.size w w') := by
  have HC := Aside0.mk hC
  have HN := Aside0.mk hN
  have HBT := Aside0.mk hb
  clear hC hN hb
  go_enter Tryd.func26, Tryd.ntmps26
  go_wp2_with fail
  go_loopw [3] (fun v3 wr => ∃ i : Nat, v3 = .int .i64 (i : Int) ∧ i ≤ N ∧ Aside0 (∀ a b, b < a → a < i → ¬ ClashAt L a b) ∧ Aside0 (Below w.heap.size w wr))
    (fun v3 _ => N - (intOf v3).toNat)
  case atStart => exact ⟨0, rfl, Nat.zero_le _, ⟨fun a b h1 h2 => absurd h2 (Nat.not_lt_zero _)⟩, ⟨Below.refl _ _⟩⟩
  case round =>
    obtain ⟨i, rfl, hi, HX, HB⟩ := hrel
    by_cases hlt : i < N
    · have hid : (i : Int) < (N : Int) := by omega
      go_wp2_with fail
      go_loopw [4] (fun v4 wr2 => ∃ k : Nat, v4 = .int .i64 (k : Int) ∧ k ≤ i ∧ Aside0 (∀ b, b < k → ¬ ClashAt L i b) ∧ Aside0 (Below w.heap.size w wr2))
        (fun v4 _ => i - (intOf v4).toNat)
      case atStart => exact ⟨0, rfl, Nat.zero_le _, ⟨fun b h => absurd h (Nat.not_lt_zero _)⟩, HB⟩
      case round =>
        clear HB
        obtain ⟨k, rfl, hk, HY, HB⟩ := hrel
        by_cases hlk : k < i
        · have hkd : (k : Int) < (i : Int) := by omega
          have hkn : (k : Int) < (N : Int) := by omega
          obtain ⟨ad, B1, d1, rfl, x1, hd1, hC1⟩ := at_row (Kd.C_below HC.out HB.out) i hlt
          obtain ⟨ad', B2, d2, e2, x2, hd2, hC2⟩ := at_row (Kd.C_below HC.out HB.out) k (by omega)
          cases e2
          have hb1 := HBT.out _ (mem_gd L i (by rw [HN.out]; exact hlt))
          have hb2 := HBT.out _ (mem_gd L k (by rw [HN.out]; omega))
          have hcl : ClashAt L i k ↔ (L.getD i [] ≠ L.getD k [] ∧ sha (L.getD i []) = sha (L.getD k [])) := Iff.rfl
          obtain ⟨x, hx⟩ : ∃ x, L.getD i [] = x := ⟨_, rfl⟩
          obtain ⟨y, hy⟩ : ∃ y, L.getD k [] = y := ⟨_, rfl⟩
          rw [hx] at x1 hd1 hC1 hb1 hcl
          rw [hy] at x2 hd2 hC2 hb2 hcl
          obtain ⟨n1, hn1⟩ : ∃ n, x.length = n := ⟨_, rfl⟩
          obtain ⟨n2, hn2⟩ : ∃ n, y.length = n := ⟨_, rfl⟩
          rw [hn1] at x1 hd1
          rw [hn2] at x2 hd2
          have hsa : ∀ W', Below wr.heap.size wr W' → Calls Tryd.prog 14 #[.slice B1 n1 d1, .slice B2 n2 d2] W' (Tells (.bool (decide (x = y))) W') := fun W' h => same_calls B1 n1 d1 x B2 n2 d2 y hn1 hn2 (by rw [← hn1]; omega) hd1 hd2 W' (Kd.C_below hC1 h) (Kd.C_below hC2 h)
          have hsq : ∀ W', Below wr.heap.size wr W' → Calls Tryd.prog 14 #[.slice B1 n1 d1, .slice B2 n2 d2] W' (fun e w' => e = .returned (.bool (decide (x = y))) ∧ ∃ m, w' = W'.drewN m) := fun W' h => same_quiet B1 n1 d1 x B2 n2 d2 y hn1 hn2 (by rw [← hn1]; omega) hd1 hd2 W' (Kd.C_below hC1 h) (Kd.C_below hC2 h)
          have HSX : Aside0 (∀ W', Below wr.heap.size wr W' → Calls Tryd.prog 53 #[.slice B1 n1 d1] W' (Own W' (sha x))) := ⟨fun W' h => dsum_calls B1 n1 d1 x hn1 hb1.1 (by rw [← hn1]; exact hb1.2) hd1 W' (by rw [← hn1]; exact Kd.C_below hC1 h)⟩
          have HSY : Aside0 (∀ W', Below wr.heap.size wr W' → Calls Tryd.prog 53 #[.slice B2 n2 d2] W' (Own W' (sha y))) := ⟨fun W' h => dsum_calls B2 n2 d2 y hn2 hb2.1 (by rw [← hn2]; exact hb2.2) hd2 W' (by rw [← hn2]; exact Kd.C_below hC2 h)⟩
          have hkl : k + 1 ≤ i := hlk
          have HNX : Aside0 (¬ ClashAt L i k → ∀ b, b < k + 1 → ¬ ClashAt L i b) := ⟨fun h b hb => by
            by_cases e : b = k
            · rw [e]; exact h
            · exact HY.out b (by omega)⟩
          have hki : (k : Int) + 1 ≤ 100000 := by omega
          clear hx hy hb1 hb2 hC1 hC2 hn1 hn2 hd1 hd2
          by_cases hxy : x = y
          · have HSQ : Aside0 (∀ W', Below wr.heap.size wr W' → Calls Tryd.prog 14 #[.slice B1 n1 d1, .slice B2 n2 d2] W' (fun e w' => e = .returned (.bool true) ∧ ∃ m, w' = W'.drewN m)) := ⟨by rw [decide_eq_true hxy] at hsq; exact hsq⟩
            have HNC : Aside0 (¬ ClashAt L i k) := ⟨fun h => (hcl.1 h).1 hxy⟩
            clear hsa hsq hcl hxy
            go_wp2_with fail
            go_quiet (first
              | exact Calls.quiet_of (HSQ.out _ (pw_below_drewN (Below.refl _ _) _))
              | fail)
            go_wp2_with fail
            exact ⟨⟨k + 1, rfl, hkl, ⟨HNX.out HNC.out⟩, ⟨pw_below_drewN HB.out nq⟩⟩, meas_nat hlk⟩
          · have HSA : Aside0 (∀ W', Below wr.heap.size wr W' → Calls Tryd.prog 14 #[.slice B1 n1 d1, .slice B2 n2 d2] W' (Tells (.bool false) W')) := ⟨by rw [decide_eq_false hxy] at hsa; exact hsa⟩
            have HS2 : Aside0 (∀ W' A c A' c', 32 ≤ c → 32 ≤ c' → Kd.C (Kd.int .u8) W' A 32 (sha x) → Kd.C (Kd.int .u8) W' A' 32 (sha y) → Calls Tryd.prog 14 #[.slice A 32 c, .slice A' 32 c'] W' (Tells (.bool (decide (sha x = sha y))) W')) := ⟨fun W' A c A' c' h1 h2 h3 h4 => same_calls A 32 c (sha x) A' 32 c' (sha y) (sha_len _) (sha_len _) (by omega) h1 h2 W' (by rw [sha_len]; exact h3) (by rw [sha_len]; exact h4)⟩
            clear hsa hsq
            by_cases hs : sha x = sha y
            · rw [decide_eq_true hs] at HS2
              clear hcl hxy hs
              go_wp2_with fail
              first | (go_region_held3 (fun W => W.cell? (ad.add i) = some (.slice B1 n1 d1) ∧ W.cell? (ad.add k) = some (.slice B2 n2 d2)) (first | exact ⟨x1, x2⟩ | exact HS4.out | exact HS5.out | exact HS6.out | exact HS7.out) (first
                | (go_at_call 14; (with_reducible refine (HSA.out _ (below_drew (Below.refl _ _))).mono ?_); rintro e w4 ⟨rfl, hb⟩; have HB4 := Aside0.mk (below_then (below_drew (Below.refl wr.heap.size wr)) (below_drew (Below.refl wr.heap.size wr)).size hb); have HS4 := Aside0.mk (And.intro (pw_cell_below HB4.out x1) (pw_cell_below HB4.out x2)); clear hb)
                | (go_at_call 53; (with_reducible refine (HSX.out _ HB4.out).mono ?_); rintro e w5 ⟨v5, rfl, ho, hb⟩; obtain ⟨A5, c5, e5⟩ := Kd.R_slice ho; subst e5; rw [sha_len] at ho ⊢; have HB5 := Aside0.mk (below_then HB4.out HB4.out.size hb); have HS5 := Aside0.mk (And.intro (pw_cell_below HB5.out x1) (pw_cell_below HB5.out x2)); have hr := (Kd.R_reads' ho).2; rw [sha_len] at hr; have HX5 := Aside0.mk hr; clear ho hb hr)
                | (go_at_call 53; (with_reducible refine (HSY.out _ HB5.out).mono ?_); rintro e w6 ⟨v6, rfl, ho, hb⟩; obtain ⟨A6, c6, e6⟩ := Kd.R_slice ho; subst e6; rw [sha_len] at ho ⊢; have HB6 := Aside0.mk (below_then HB5.out HB5.out.size hb); have HS6 := Aside0.mk (And.intro (pw_cell_below HB6.out x1) (pw_cell_below HB6.out x2)); have hr := (Kd.R_reads' ho).2; rw [sha_len] at hr; have HY6 := Aside0.mk hr; have HX6 := Aside0.mk (Kd.C_below HX5.out.2 hb); clear ho hb hr)
                | (go_at_call 14; (with_reducible refine (HS2.out w6 A5 c5 A6 c6 HX5.out.1 HY6.out.1 HX6.out HY6.out.2).mono ?_); rintro e w7 ⟨rfl, hb⟩; have HB7 := Aside0.mk (below_then HB6.out HB6.out.size hb); have HS7 := Aside0.mk (And.intro (pw_cell_below HB7.out x1) (pw_cell_below HB7.out x2)); clear hb)
                | fail)) | fail
              all_goals (refine (‹∀ (a : Act) (w_1 : World), Code.wp _ _ _ a w_1 → _› _ _ ?_); go_wp2_with fail)
              all_goals go_ret
              all_goals exact ⟨true, rfl, fun _ => rfl, below_then HB.out HB.out.size HB7.out⟩
            · rw [decide_eq_false hs] at HS2
              have HNC : Aside0 (¬ ClashAt L i k) := ⟨fun h => hs (hcl.1 h).2⟩
              clear hcl hxy hs
              go_wp2_with fail
              first | (go_region_held3 (fun W => W.cell? (ad.add i) = some (.slice B1 n1 d1) ∧ W.cell? (ad.add k) = some (.slice B2 n2 d2)) (first | exact ⟨x1, x2⟩ | exact HS4.out | exact HS5.out | exact HS6.out | exact HS7.out) (first
                | (go_at_call 14; (with_reducible refine (HSA.out _ (below_drew (Below.refl _ _))).mono ?_); rintro e w4 ⟨rfl, hb⟩; have HB4 := Aside0.mk (below_then (below_drew (Below.refl wr.heap.size wr)) (below_drew (Below.refl wr.heap.size wr)).size hb); have HS4 := Aside0.mk (And.intro (pw_cell_below HB4.out x1) (pw_cell_below HB4.out x2)); clear hb)
                | (go_at_call 53; (with_reducible refine (HSX.out _ HB4.out).mono ?_); rintro e w5 ⟨v5, rfl, ho, hb⟩; obtain ⟨A5, c5, e5⟩ := Kd.R_slice ho; subst e5; rw [sha_len] at ho ⊢; have HB5 := Aside0.mk (below_then HB4.out HB4.out.size hb); have HS5 := Aside0.mk (And.intro (pw_cell_below HB5.out x1) (pw_cell_below HB5.out x2)); have hr := (Kd.R_reads' ho).2; rw [sha_len] at hr; have HX5 := Aside0.mk hr; clear ho hb hr)
                | (go_at_call 53; (with_reducible refine (HSY.out _ HB5.out).mono ?_); rintro e w6 ⟨v6, rfl, ho, hb⟩; obtain ⟨A6, c6, e6⟩ := Kd.R_slice ho; subst e6; rw [sha_len] at ho ⊢; have HB6 := Aside0.mk (below_then HB5.out HB5.out.size hb); have HS6 := Aside0.mk (And.intro (pw_cell_below HB6.out x1) (pw_cell_below HB6.out x2)); have hr := (Kd.R_reads' ho).2; rw [sha_len] at hr; have HY6 := Aside0.mk hr; have HX6 := Aside0.mk (Kd.C_below HX5.out.2 hb); clear ho hb hr)
                | (go_at_call 14; (with_reducible refine (HS2.out w6 A5 c5 A6 c6 HX5.out.1 HY6.out.1 HX6.out HY6.out.2).mono ?_); rintro e w7 ⟨rfl, hb⟩; have HB7 := Aside0.mk (below_then HB6.out HB6.out.size hb); have HS7 := Aside0.mk (And.intro (pw_cell_below HB7.out x1) (pw_cell_below HB7.out x2)); clear hb)
                | fail)) | fail
              all_goals (refine (‹∀ (a : Act) (w_1 : World), Code.wp _ _ _ a w_1 → _› _ _ ?_); go_wp2_with fail)
              all_goals exact ⟨⟨k + 1, rfl, hkl, ⟨HNX.out HNC.out⟩, ⟨below_then HB.out HB.out.size HB7.out⟩⟩, meas_nat hlk⟩
        · have hkd : ¬ (k : Int) < (i : Int) := by omega
          obtain rfl : k = i := by omega
          have HX2 : Aside0 (∀ a b, b < a → a < k + 1 → ¬ ClashAt L a b) := ⟨fun a b h1 h2 => by
            by_cases e : a = k
            · subst e; exact HY.out b h1
            · exact HX.out a b h1 (by omega)⟩
          go_wp2_with fail
          exact ⟨⟨k + 1, rfl, hlt, HX2, HB⟩, meas_nat hlt⟩
    · obtain rfl : i = N := by omega
      have hid : ¬ (i : Int) < (i : Int) := by omega
      have HNC : Aside0 (¬ HasClash L) := ⟨no_clash L (fun a b h1 h2 => HX.out a b h1 (by rw [HN.out] at h2; exact h2))⟩
      go_wp2_with fail
      go_ret
      exact .inl ⟨rfl, HNC.out, HB.out⟩
end Go.Proofs.YteapdhfeddgjbaaDoor.Dg
end
section
/- tree: TreeShows: what is known of the texts; the walk. -/
namespace Go.Proofs.YteapdhfeddgjbaaDoor.Dg
set_option linter.unusedVariables false
set_option linter.unusedSimpArgs false
open Go.RowKit Go.Proofs.YteapdhfeddgjbaaDoor.PDj Go.Proofs.YteapdhfeddgjbaaDoor.Num Go.Proofs.YteapdhfeddgjbaaDoorW Go.Proofs.YteapdhfeddgjbaaDoorW.PrintWords Go.Proofs.YteapdhfeddgjbaaDoorW.PrintLast Go.Proofs.YteapdhfeddgjbaaDoorW.PrintMore

/-- A text: bytes, not too many. -/
def Tx (x : List Int) : Prop := Bt x ∧ x.length ≤ 900000
theorem joint_Tx {a b : List Int} (ha : Sm a) (hb : Sm b) : Tx (jointT a b) := ⟨joint_Bt ha.1 hb.1, by rw [joint_len, ha.2, hb.2]; omega⟩
theorem leaf_Tx {t : List Int} (hb : Bt t) (hl : t.length ≤ 800000) : Tx (leafT t) := ⟨leaf_Bt hb, by unfold leafT; rw [List.length_cons]; omega⟩
theorem pairs_Tx : ∀ r : List (List Int), (∀ x ∈ r, Sm x) → ∀ y ∈ pairs r, Tx y
  | [], _ => fun y h => by simp [pairs] at h
  | [a], _ => fun y h => by simp [pairs] at h
  | a :: b :: l, hs => fun y h => by
    rw [pairs] at h
    rcases List.mem_cons.1 h with e | e
    · rw [e]; exact joint_Tx (hs a (by simp)) (hs b (by simp))
    · exact pairs_Tx l (fun x hx => hs x (by simp [hx])) y e
theorem joints_Tx : ∀ (k : Nat) (r : List (List Int)), (∀ x ∈ r, Sm x) → ∀ y ∈ jointsF k r, Tx y
  | 0, r, hs => fun y h => by simp [jointsF] at h
  | k + 1, r, hs => fun y h => by
    rw [jointsF] at h
    by_cases h1 : 1 < r.length
    · rw [if_pos h1] at h
      rcases List.mem_append.1 h with e | e
      · exact pairs_Tx r hs y e
      · exact joints_Tx k (up r) (up_Sm r hs) y e
    · rw [if_neg h1] at h; simp at h
theorem all_Tx (ts : List (List Int)) (hb : ∀ t ∈ ts, Bt t ∧ t.length ≤ 800000) : ∀ y ∈ allOf ts, Tx y := fun y h => by
  unfold allOf at h
  rcases List.mem_append.1 h with e | e
  · obtain ⟨t, ht, rfl⟩ := List.mem_map.1 e
    exact leaf_Tx (hb t ht).1 (hb t ht).2
  · exact joints_Tx _ _ (leaves_Sm ts) y e
theorem all_len (ts : List (List Int)) (h : ts.length ≤ 100) : (allOf ts).length ≤ 20000 := by
  rw [allOf_is, List.length_append, List.length_map]
  have h1 := flat_len 100 ((rowsOf ts).take ((rowsOf ts).length - 1)) (fun r hr => rowsF_le _ 100 _ (by rw [leaves_len]; omega) r (List.mem_of_mem_take hr))
  have h2 : (rowsOf ts).length ≤ ts.length + 1 := rowsF_len (ts.length + 1) (leavesOf ts)
  rw [List.length_take] at h1
  have h3 : min ((rowsOf ts).length - 1) (rowsOf ts).length * 100 ≤ 100 * 100 := Nat.mul_le_mul_right _ (by omega)
  omega
theorem txt_Tx : ∀ (f i n : Nat) (ts : List (List Int)) (s : List Int) (p : List Sd), (∀ y ∈ ts, Tx y) → Sm s → (∀ q ∈ p, Bt q.2) → (∀ y ∈ (txtF f i n ts s p).1, Tx y) ∧ (txtF f i n ts s p).1.length ≤ ts.length + f
  | 0, i, n, ts, s, p, h, hs, hp => ⟨h, Nat.le_refl _⟩
  | f + 1, i, n, ts, s, p, h, hs, hp => by
    by_cases h1 : 1 < n
    · by_cases h2 : i % 2 = 1 ∨ i + 1 < n
      · cases p with
        | nil => rw [txtF_nil f i n ts s h1 h2]; exact ⟨fun y hy => by simp at hy, by simp⟩
        | cons q p =>
          obtain ⟨r, x⟩ := q
          by_cases h3 : x.length = 32 ∧ r = decide (i % 2 = 0)
          · rw [txtF_on f i n ts s r x p h1 h2 h3]
            have hx : Sm x := ⟨hp (r, x) (by simp), h3.1⟩
            have ht : Tx (if r = true then jointT s x else jointT x s) := by split <;> first | exact joint_Tx hs hx | exact joint_Tx hx hs
            have ih := txt_Tx f (i / 2) ((n + 1) / 2) (ts ++ [if r = true then jointT s x else jointT x s]) (sha (if r = true then jointT s x else jointT x s)) p (fun y hy => by
              rcases List.mem_append.1 hy with e | e
              · exact h y e
              · rw [List.mem_singleton.1 e]; exact ht) (sha_Sm _) (fun q hq => hp q (by simp [hq]))
            refine ⟨ih.1, ?_⟩
            have := ih.2
            rw [List.length_append, List.length_singleton] at this
            omega
          · rw [txtF_bad f i n ts s r x p h1 h2 h3]; exact ⟨fun y hy => by simp at hy, by simp⟩
      · rw [txtF_skip f i n ts s p h1 h2]
        have ih := txt_Tx f (i / 2) ((n + 1) / 2) ts s p h hs hp
        exact ⟨ih.1, by have := ih.2; omega⟩
    · rw [txtF_one _ i n ts s p h1]
      exact ⟨h, by show ts.length ≤ _; omega⟩
theorem texts_Tx (thing : List Int) (i n : Nat) (p : List Sd) (hb : Bt thing) (hl : thing.length ≤ 800000) (hp : ∀ q ∈ p, Bt q.2) : (∀ y ∈ (textsOf thing i n p).1, Tx y) ∧ (textsOf thing i n p).1.length ≤ 64 :=
  txt_Tx 63 i n [leafT thing] (sha (leafT thing)) p (fun y hy => by rw [List.mem_singleton.1 hy]; exact leaf_Tx hb hl) (sha_Sm _) hp
theorem pathR_Sm : ∀ (f i : Nat) (r : List (List Int)), (∀ x ∈ r, Sm x) → (∀ s ∈ pathR f i r, Bt s.2) ∧ (pathR f i r).length ≤ f
  | 0, i, r, hs => ⟨fun s h => by simp [pathR] at h, Nat.le_refl _⟩
  | f + 1, i, r, hs => by
    rw [pathR]
    by_cases h1 : 1 < r.length
    · have ih := pathR_Sm f (i / 2) (up r) (up_Sm r hs)
      rw [if_pos h1]
      refine ⟨fun s h => ?_, ?_⟩
      · rcases List.mem_append.1 h with e | e
        · by_cases h2 : oth i < r.length
          · rw [if_pos h2] at e
            rw [List.mem_singleton.1 e]
            exact (getD_Sm hs h2).1
          · rw [if_neg h2] at e; simp at e
        · exact ih.1 s e
      · rw [List.length_append]
        have := ih.2
        split <;> simp <;> omega
    · rw [if_neg h1]; exact ⟨fun s h => by simp at h, by simp⟩
theorem path_Bt (ts : List (List Int)) (i : Nat) (h : ts.length ≤ 2 ^ 63) : (∀ s ∈ pathOf ts i, Bt s.2) ∧ (pathOf ts i).length ≤ 63 := by
  rw [path_is ts i 63 h]
  exact pathR_Sm 63 i _ (leaves_Sm ts)
/-- Rows of sums, as they may be appended to a row. -/
theorem row_news {W : World} {B B' : Nat} {ok ok' : Nat → Prop} {v : Value} {xs ys : List (List Int)} {A : Option Addr} {m c : Nat} (hv : rowK.R 24 W B ok v xs) (hu : rowK.R 24 W B' ok' (.slice A m c) ys) (hB : B ≤ B') : ReadsRow (rowK.M W B (fun k => some k ≠ v.ownBlock)) 1 W A m ys := by
  obtain ⟨A', c', he, hl, hr⟩ := OwnRow.reads hu.2
  obtain ⟨rfl, rfl, rfl⟩ : A = A' ∧ m = ys.length ∧ c = c' := by injection he with h1 h2 h3; exact ⟨h1, h2, h3⟩
  refine hr.imp_ (Below.refl _ _) (fun y cs hp => ?_)
  obtain ⟨u, rfl, hR⟩ := hp
  exact ⟨u, rfl, Kd.R_lower (R_apart (by decide) hR hv) hB⟩
end Go.Proofs.YteapdhfeddgjbaaDoor.Dg
end
section
/- tree: TreeShows: the walk. -/
namespace Go.Proofs.YteapdhfeddgjbaaDoor.Dg
set_option linter.unusedVariables false
set_option linter.unusedSimpArgs false
open Go.RowKit Go.Proofs.YteapdhfeddgjbaaDoor.PDj Go.Proofs.YteapdhfeddgjbaaDoor.Num Go.Proofs.YteapdhfeddgjbaaDoorW Go.Proofs.YteapdhfeddgjbaaDoorW.PrintWords Go.Proofs.YteapdhfeddgjbaaDoorW.PrintLast Go.Proofs.YteapdhfeddgjbaaDoorW.PrintMore

theorem top_Sm : ∀ (f : Nat) (r : List (List Int)), (∀ x ∈ r, Sm x) → ∀ x ∈ topF f r, Sm x
  | 0, r, h => h
  | f + 1, r, h => by
    rw [topF]
    by_cases h1 : 1 < r.length
    · rw [if_pos h1]; exact top_Sm f (up r) (up_Sm r h)
    · rw [if_neg h1]; exact h
theorem root_Sm (ts : List (List Int)) (h : ts.length ≤ 2 ^ 63) : Sm (rootOf ts) := by
  by_cases h0 : 0 < ts.length
  · rw [root_top ts 63 h h0]
    exact getD_Sm (top_Sm 63 _ (leaves_Sm ts)) (by rw [top_len 63 _ (by rw [leaves_len]; exact h) (by rw [leaves_len]; exact h0)]; omega)
  · have : ts = [] := List.eq_nil_of_length_eq_zero (by omega)
    subst this
    rw [root_none]
    exact ⟨fun x hx => by unfold z32 at hx; rw [List.eq_of_mem_replicate hx]; omega, by unfold z32; simp⟩
set_option maxHeartbeats 6400000 in
set_option maxRecDepth 100000 in
theorem tree_shows_walk (A0 : Option Addr) (n0 c0 : Nat) (ts : List (List Int)) (A1 : Option Addr) (n1 c1 : Nat) (thing : List Int) (i n : Int) (A4 : Option Addr) (n4 c4 : Nat) (p : List Sd) (w : World) (h0 : ts.length = n0) (h1 : thing.length = n1) (h4 : p.length = n4) (hc0 : n0 ≤ c0) (hm0 : n0 ≤ maxLen) (hc1 : n1 ≤ c1) (hc4 : n4 ≤ c4) (hm4 : n4 ≤ maxLen) (hb0 : ∀ t ∈ ts, Bt t) (hb1 : Bt thing) (hb4 : ∀ s ∈ p, Bt s.2) (hi : -9223372036854775808 ≤ i ∧ i ≤ 9223372036854775807)
    (hC0 : rowK.C w A0 n0 ts) (hC1 : Kd.C (Kd.int .u8) w A1 thing.length thing) (hC4 : Kd.C sideK w A4 n4 p) (hK : Tab w 2 KK) :
    Calls Tryd.prog 6 #[.slice A0 n0 c0, .agg #[.slice A1 n1 c1, .int .i64 i, .int .i64 n, .slice A4 n4 c4]] w (Tells (.bool true) w) := by
  obtain ⟨wa, hwa⟩ : ∃ wa, wa = w.alloc (.cells #[.slice A1 n1 c1, .int .i64 i, .int .i64 n, .slice A4 n4 c4] 37) := ⟨_, rfl⟩
  have HBA : Aside0 (Below w.heap.size w wa) := ⟨by rw [hwa]; exact below_alloc (Below.refl _ _) _⟩
  have HSH : Aside0 (ShAt wa w.heap.size (.slice A1 n1 c1) i n (.slice A4 n4 c4)) := ⟨by rw [hwa]; exact ShAt.new _ _ _ _ _⟩
  have HAW : Aside0 (Calls Tryd.prog 20 #[] (w.alloc (.cells #[.slice A1 n1 c1, .int .i64 i, .int .i64 n, .slice A4 n4 c4] 37)) (Tells (.bool true) wa)) := ⟨by rw [← hwa]; exact tawake_calls wa (hK.below HBA.out)⟩
  have HSM : Aside0 (∀ W', Below w.heap.size w W' → Calls Tryd.prog 21 #[.slice A0 n0 c0, .slice A4 n4 c4] W' fun e w' => e = .returned (.bool (smallB ts p)) ∧ Below W'.heap.size W' w') := ⟨fun W' h => small_calls A0 n0 c0 ts A4 n4 c4 p h0 h4 hm0 hm4 hc0 hc4 W' (Kd.C_below hC0 h) (Kd.C_below hC4 h)⟩
  clear hwa
  cases hs : smallB ts p with
  | false =>
    rw [hs] at HSM
    clear h0 h1 h4 hc0 hc1 hc4 hm4 hb0 hb1 hb4 hC0 hC1 hC4 hK hs hm0
    go_enter Tryd.func6, Tryd.ntmps6
    go_wp2_with (first
      | (go_at_call 20; (with_reducible refine HAW.out.mono ?_); rintro e w1 ⟨rfl, hb⟩; have HB1 := Aside0.mk (below_then HBA.out HBA.out.size hb); have HS1 := Aside0.mk (HSH.out.below hb); obtain ⟨s0, s1, s2, s3⟩ := HS1.out; clear hb)
      | (go_at_call 21; (with_reducible refine (HSM.out _ HB1.out).mono ?_); rintro e w2 ⟨rfl, hb⟩; have HB2 := Aside0.mk (below_then HB1.out HB1.out.size hb); have HS2 := Aside0.mk (HS1.out.below hb); clear s0 s1 s2 s3; obtain ⟨s0, s1, s2, s3⟩ := HS2.out; clear hb)
      | fail)
    go_ret
    exact ⟨rfl, HB2.out⟩
  | true =>
    rw [hs] at HSM
    by_cases hbig : 100 < n1
    · have hbg : (100 : Int) < (n1 : Int) := by omega
      clear h0 h1 h4 hc0 hc1 hc4 hm4 hb0 hb1 hb4 hC0 hC1 hC4 hK hs hm0 hbig
      go_enter Tryd.func6, Tryd.ntmps6
      go_wp2_with (first
        | (go_at_call 20; (with_reducible refine HAW.out.mono ?_); rintro e w1 ⟨rfl, hb⟩; have HB1 := Aside0.mk (below_then HBA.out HBA.out.size hb); have HS1 := Aside0.mk (HSH.out.below hb); obtain ⟨s0, s1, s2, s3⟩ := HS1.out; clear hb)
        | (go_at_call 21; (with_reducible refine (HSM.out _ HB1.out).mono ?_); rintro e w2 ⟨rfl, hb⟩; have HB2 := Aside0.mk (below_then HB1.out HB1.out.size hb); have HS2 := Aside0.mk (HS1.out.below hb); clear s0 s1 s2 s3; obtain ⟨s0, s1, s2, s3⟩ := HS2.out; clear hb)
        | fail)
      go_ret
      exact ⟨rfl, HB2.out⟩
    · have hbg : ¬ (100 : Int) < (n1 : Int) := by omega
      obtain ⟨hl, hp, hn20, hp70⟩ := of_decide_eq_true hs
      have hb00 : ∀ t ∈ ts, Bt t ∧ t.length ≤ 800000 := fun t ht => ⟨hb0 t ht, by have := hl t ht; omega⟩
      have hn63 : ts.length ≤ 2 ^ 63 := by omega
      have HRO : Aside0 (∀ W', Below w.heap.size w W' → Calls Tryd.prog 24 #[.slice A0 n0 c0] W' (Own W' (rootOf ts))) := ⟨fun W' h => root_calls A0 n0 c0 ts h0 (fun t ht => ⟨hb0 t ht, by have := hl t ht; omega⟩) (by omega) W' (Kd.C_below hC0 h) (hK.below h)⟩
      have HRS := Aside0.mk (root_Sm ts hn63)
      have HPA : Aside0 (∀ k, k < n0 → ∀ W', Below w.heap.size w W' → Calls Tryd.prog 25 #[.slice A0 n0 c0, .int .i64 (k : Int)] W' (fun e w' => ∃ v, e = .returned (.tuple #[v, .int .i64 0]) ∧ sideK.R 62 w' W'.heap.size (fun _ => True) v (pathOf ts k) ∧ Below W'.heap.size W' w')) := ⟨fun k hk W' h => path_calls A0 n0 c0 ts k hk h0 (fun t ht => ⟨hb0 t ht, by have := hl t ht; omega⟩) (by omega) W' (Kd.C_below hC0 h) (hK.below h)⟩
      have HPB := Aside0.mk (fun k => path_Bt ts k hn63)
      have HCK : Aside0 (∀ k, k < n0 → ∀ W' Ar cr At mt ct Ap np cp q t, t.length = mt → mt ≤ 100 → Bt t → mt ≤ ct → q.length = np → np ≤ 100 → (∀ s ∈ q, Bt s.2) → 32 ≤ cr → Below w.heap.size w W' → Kd.C (Kd.int .u8) W' Ar 32 (rootOf ts) → Kd.C (Kd.int .u8) W' At t.length t → Kd.C sideK W' Ap np q → Calls Tryd.prog 22 #[.slice Ar 32 cr, .slice At mt ct, .int .i64 (k : Int), .int .i64 (n0 : Int), .slice Ap np cp] W' (Tells (.bool (checkB (rootOf ts) t k n0 q)) W')) :=
        ⟨fun k hk W' Ar cr At mt ct Ap np cp q t e1 e2 e3 e4 e5 e6 e7 e8 h g1 g2 g3 => tcheck_calls Ar 32 cr (rootOf ts) At mt ct t k n0 Ap np cp q HRS.out.2 e1 e5 (by omega) (by omega) (by omega) e8 e4 HRS.out.1 e3 e7 hk (by omega) W' (by rw [HRS.out.2]; exact g1) g2 g3 (hK.below h)⟩
      have HSO : Aside0 (∀ k, k < n0 → checkB (rootOf ts) (ts.getD k []) k n0 (pathOf ts k) = true) := ⟨fun k hk => by rw [← h0]; exact shows_own ts k (by omega) hn63⟩
      have HC0 := Aside0.mk hC0
      have HC1 := Aside0.mk hC1
      have HC4 := Aside0.mk hC4
      have H0 := Aside0.mk h0
      have H1 := Aside0.mk h1
      have H4 := Aside0.mk h4
      have HLT := Aside0.mk hl
      have HBT := Aside0.mk hb0
      have HB1T := Aside0.mk hb1
      have HB4T := Aside0.mk hb4
      have HCC : Aside0 (n1 ≤ c1 ∧ n0 ≤ 20 ∧ n4 ≤ 70 ∧ n1 ≤ 100) := ⟨by omega⟩
      have HALL : Aside0 (∀ W', Below w.heap.size w W' → Calls Tryd.prog 27 #[.slice A0 n0 c0] W' (fun e w' => ∃ v, e = .returned v ∧ rowK.R 24 w' W'.heap.size (fun _ => True) v (allOf ts) ∧ Below W'.heap.size W' w')) := ⟨fun W' h => rall_calls A0 n0 c0 ts h0 hb00 (by omega) W' (Kd.C_below hC0 h)⟩
      have hn20' : n0 ≤ 20 := by omega
      have HALT : Aside0 ((∀ y ∈ allOf ts, Tx y) ∧ (allOf ts).length ≤ 20000) := ⟨all_Tx ts hb00, all_len ts (by omega)⟩
      clear h0 h1 h4 hc0 hc1 hc4 hm4 hb0 hb1 hb4 hC0 hC1 hC4 hK hs hm0 hbig hl hp hn20 hp70 hb00 hn63
      go_enter Tryd.func6, Tryd.ntmps6
      go_wp2_with (first
        | (go_at_call 20; (with_reducible refine HAW.out.mono ?_); rintro e w1 ⟨rfl, hb⟩; have HB1 := Aside0.mk (below_then HBA.out HBA.out.size hb); have HS1 := Aside0.mk (HSH.out.below hb); obtain ⟨s0, s1, s2, s3⟩ := HS1.out; clear hb)
        | (go_at_call 21; (with_reducible refine (HSM.out _ HB1.out).mono ?_); rintro e w2 ⟨rfl, hb⟩; have HB2 := Aside0.mk (below_then HB1.out HB1.out.size hb); have HS2 := Aside0.mk (HS1.out.below hb); clear s0 s1 s2 s3; obtain ⟨s0, s1, s2, s3⟩ := HS2.out; clear hb)
        | (go_at_call 24; (with_reducible refine (HRO.out _ HB2.out).mono ?_); rintro e w3 ⟨v3, rfl, ho, hb⟩; obtain ⟨A5, c5, e5⟩ := Kd.R_slice ho; subst e5; rw [HRS.out.2] at ho ⊢; have HB3 := Aside0.mk (below_then HB2.out HB2.out.size hb); have HS3 := Aside0.mk (HS2.out.below hb); have hr := (Kd.R_reads' ho).2; rw [HRS.out.2] at hr; have HR3 := Aside0.mk hr; clear ho hb hr s0 s1 s2 s3)
        | fail)
      go_loopw [30] (fun v30 wr => ∃ k : Nat, v30 = .int .i64 (k : Int) ∧ k ≤ n0 ∧ Aside0 (Below w3.heap.size w3 wr))
        (fun v30 _ => n0 - (intOf v30).toNat)
      case atStart => exact ⟨0, rfl, Nat.zero_le _, ⟨Below.refl _ _⟩⟩
      case round =>
        obtain ⟨k, rfl, hk, HBr⟩ := hrel
        have HBW := Aside0.mk (below_then HB3.out HB3.out.size HBr.out)
        by_cases hlt : k < n0
        · have hkd : (k : Int) < (n0 : Int) := by omega
          obtain ⟨ad, B1, d1, rfl, x1, hd1, hx1⟩ := at_row (Kd.C_below HC0.out HBW.out) k hlt
          have hkl : k < ts.length := by rw [H0.out]; exact hlt
          have hbt := HBT.out _ (mem_gd ts k hkl)
          have hlt2 := HLT.out _ (mem_gd ts k hkl)
          have hso := HSO.out k hlt
          have HPk := Aside0.mk (HPA.out k hlt wr HBW.out)
          obtain ⟨q, hq⟩ : ∃ q, pathOf ts k = q := ⟨_, rfl⟩
          have hqb := HPB.out k
          rw [hq] at HPk hso hqb
          obtain ⟨t, ht⟩ : ∃ t, ts.getD k [] = t := ⟨_, rfl⟩
          rw [ht] at x1 hd1 hx1 hbt hlt2 hso
          obtain ⟨mt, hmt⟩ : ∃ m, t.length = m := ⟨_, rfl⟩
          rw [hmt] at x1 hd1 hlt2
          obtain ⟨np, hnp⟩ : ∃ m, q.length = m := ⟨_, rfl⟩
          have HQL := Aside0.mk hnp
          have HCk : Aside0 (∀ W' Ap cp, Below w3.heap.size w3 W' → Below wr.heap.size wr W' → Kd.C sideK W' Ap np q → Calls Tryd.prog 22 #[.slice A5 32 c5, .slice B1 mt d1, .int .i64 (k : Int), .int .i64 (n0 : Int), .slice Ap np cp] W' (Tells (.bool true) W')) := ⟨fun W' Ap cp h3 hr hC => by
            have h := HCK.out k hlt W' A5 c5 B1 mt d1 Ap np cp q t hmt hlt2 hbt hd1 hnp (by have := hqb.2; omega) hqb.1 HR3.out.1 (below_then HB3.out HB3.out.size h3) (Kd.C_below HR3.out.2 h3) (Kd.C_below hx1 hr) hC
            rw [hso] at h
            exact h⟩
          clear hkl hbt hlt2 hso hq hqb ht hmt hnp hx1 hd1
          go_wp2_with (first
            | (go_at_call 25; (with_reducible refine HPk.out.mono ?_); rintro e w4 ⟨v4, rfl, ho, hb⟩; obtain ⟨A6, c6, e6⟩ := Kd.R_slice ho; subst e6; rw [HQL.out] at ho ⊢; have HB4 := Aside0.mk hb; have hr := (Kd.R_reads' ho).2.2; rw [HQL.out] at hr; have HQ4 := Aside0.mk hr; clear ho hb hr)
            | (go_at_call 22; (with_reducible refine (HCk.out w4 A6 c6 (below_then HBr.out HBr.out.size HB4.out) HB4.out HQ4.out).mono ?_); rintro e w5 ⟨rfl, hb⟩; have HB5 := Aside0.mk (below_then (below_then HBr.out HBr.out.size HB4.out) (Nat.le_trans HBr.out.size HB4.out.size) hb); clear hb)
            | fail)
          exact ⟨⟨k + 1, rfl, hlt, HB5⟩, meas_nat hlt⟩
        · obtain rfl : k = n0 := by omega
          have hkd : ¬ (k : Int) < (k : Int) := by omega
          have HSr := Aside0.mk (HS3.out.below HBr.out)
          obtain ⟨s0, s1, s2, s3⟩ := HSr.out
          by_cases hin : 0 ≤ i ∧ i < (k : Int)
          · obtain ⟨i, rfl⟩ := Int.eq_ofNat_of_zero_le hin.1
            have hik : i < k := by omega
            have hi0 : ¬ (i : Int) < 0 := by omega
            have hi1 : ¬ (k : Int) ≤ (i : Int) := by omega
            have hi2 : (i : Int) < (k : Int) := by omega
            have hi3 : decide ((i : Int) < 0) = false := decide_eq_false hi0
            have hi4 : decide ((k : Int) ≤ (i : Int)) = false := decide_eq_false hi1
            have hi5 : decide (k ≤ i) = false := decide_eq_false (by omega)
            have hi6 : ¬ k ≤ i := by omega
            obtain ⟨ad, B1, d1, rfl, x1, hd1, hx1⟩ := at_row (Kd.C_below HC0.out HBW.out) i hik
            have hsc := fun (hne : thing ≠ ts.getD i []) (h : checkB (rootOf ts) thing i ts.length p = true) => shows_clash ts thing i p (by rw [H0.out]; exact hik) (by rw [H0.out]; have := HCC.out; omega) hne h
            rw [H0.out] at hsc
            have HLB := Aside0.mk (HLT.out _ (mem_gd ts i (by rw [H0.out]; exact hik)))
            obtain ⟨t, ht⟩ : ∃ t, ts.getD i [] = t := ⟨_, rfl⟩
            rw [ht] at x1 hd1 hx1 hsc HLB
            obtain ⟨mt, hmt⟩ : ∃ m, t.length = m := ⟨_, rfl⟩
            rw [hmt] at x1 hd1
            have HSC := Aside0.mk hsc
            have hsq : ∀ W', Below wr.heap.size wr W' → Calls Tryd.prog 14 #[.slice A1 n1 c1, .slice B1 mt d1] W' (fun e w' => e = .returned (.bool (decide (thing = t))) ∧ ∃ m, w' = W'.drewN m) := fun W' h => same_quiet A1 n1 c1 thing B1 mt d1 t H1.out hmt (by have := HCC.out; omega) HCC.out.1 hd1 W' (Kd.C_below HC1.out (below_then HBW.out HBW.out.size h)) (Kd.C_below hx1 h)
            clear hmt ht hx1 hd1 hsc hin
            by_cases hxy : thing = t
            · have HSQ : Aside0 (∀ W', Below wr.heap.size wr W' → Calls Tryd.prog 14 #[.slice A1 n1 c1, .slice B1 mt d1] W' (fun e w' => e = .returned (.bool true) ∧ ∃ m, w' = W'.drewN m)) := ⟨by rw [decide_eq_true hxy] at hsq; exact hsq⟩
              clear hsq hxy
              go_wp2_with fail
              go_quiet (first
                | exact Calls.quiet_of (HSQ.out _ (pw_below_drewN (Below.refl _ _) _))
                | fail)
              go_wp2_with fail
              go_ret
              exact ⟨rfl, pw_below_drewN HBW.out nq⟩
            · have HSA : Aside0 (∀ W', Below wr.heap.size wr W' → Calls Tryd.prog 14 #[.slice A1 n1 c1, .slice B1 mt d1] W' (Tells (.bool false) W')) := ⟨fun W' h => by
                have h2 := hsq W' h
                rw [decide_eq_false hxy] at h2
                refine h2.mono ?_
                rintro e w' ⟨g1, m, g2⟩
                exact ⟨g1, by rw [g2]; exact pw_below_drewN (Below.refl _ _) m⟩⟩
              obtain ⟨cb, hcb⟩ : ∃ b, checkB (rootOf ts) thing i k p = b := ⟨_, rfl⟩
              have HCX : Aside0 (∀ W', Below wr.heap.size wr W' → Calls Tryd.prog 22 #[.slice A5 32 c5, .slice A1 n1 c1, .int .i64 (i : Int), .int .i64 (k : Int), .slice A4 n4 c4] W' (Tells (.bool cb) W')) := ⟨fun W' h => by
                have h3 := below_then HBr.out HBr.out.size h
                have h2 := HCK.out i hik W' A5 c5 A1 n1 c1 A4 n4 c4 p thing H1.out HCC.out.2.2.2 HB1T.out HCC.out.1 H4.out (by have := HCC.out; omega) HB4T.out HR3.out.1 (below_then HB3.out HB3.out.size h3) (Kd.C_below HR3.out.2 h3) (Kd.C_below HC1.out (below_then HBW.out HBW.out.size h)) (Kd.C_below HC4.out (below_then HBW.out HBW.out.size h))
                rw [hcb] at h2
                exact h2⟩
              clear hsq
              cases cb with
              | false =>
                clear hxy hcb
                go_wp2_with fail
                first | (go_region_held3 (fun W => (W.cell? ⟨w.heap.size, 0, none⟩ = some (.slice A1 n1 c1) ∧ W.cell? ⟨w.heap.size, 1, none⟩ = some (.int .i64 (i : Int)) ∧ W.cell? ⟨w.heap.size, 2, none⟩ = some (.int .i64 n) ∧ W.cell? ⟨w.heap.size, 3, none⟩ = some (.slice A4 n4 c4)) ∧ W.cell? (ad.add i) = some (.slice B1 mt d1)) (first | exact ⟨⟨s0, s1, s2, s3⟩, x1⟩ | exact HS4.out | exact HS5.out) (first
                  | (go_at_call 14; (with_reducible refine (HSA.out _ (below_drew (Below.refl _ _))).mono ?_); rintro e w4 ⟨rfl, hb⟩; have HB4 := Aside0.mk (below_then (below_drew (Below.refl wr.heap.size wr)) (below_drew (Below.refl wr.heap.size wr)).size hb); have HS4 := Aside0.mk (And.intro (HSr.out.below HB4.out) (pw_cell_below HB4.out x1)); clear hb)
                  | (go_at_call 22; (with_reducible refine (HCX.out _ HB4.out).mono ?_); rintro e w5 ⟨rfl, hb⟩; have HB5 := Aside0.mk (below_then HB4.out HB4.out.size hb); have HS5 := Aside0.mk (And.intro (HSr.out.below HB5.out) (pw_cell_below HB5.out x1)); obtain ⟨⟨z0, z1, z2, z3⟩, z4⟩ := HS5.out; clear hb)
                  | fail)) | fail
                all_goals (refine (‹∀ (a : Act) (w_1 : World), Code.wp _ _ _ a w_1 → _› _ _ ?_); go_wp2_with fail)
                all_goals go_ret
                all_goals exact ⟨rfl, below_then HBW.out HBW.out.size HB5.out⟩
              | true =>
                have HCL := Aside0.mk (HSC.out hxy hcb)
                have htx := texts_Tx thing i k p HB1T.out (by have := HCC.out; have := H1.out; omega) HB4T.out
                have HTX : Aside0 (∀ W', Below w.heap.size w W' → Calls Tryd.prog 23 #[.slice A1 n1 c1, .int .i64 (i : Int), .int .i64 (k : Int), .slice A4 n4 c4] W' (TxtTold W' (textsOf thing i k p))) := ⟨fun W' h => texts_calls A1 n1 c1 thing i k A4 n4 c4 p H1.out H4.out (by have := HCC.out; omega) (by have := HCC.out; omega) HCC.out.1 HB1T.out HB4T.out hik (by omega) W' (by rw [← H1.out]; exact Kd.C_below HC1.out h) (Kd.C_below HC4.out h)⟩
                obtain ⟨⟨T, S, ok⟩, hT⟩ : ∃ q, textsOf thing i k p = q := ⟨_, rfl⟩
                rw [hT] at HTX HCL htx
                dsimp only at HCL htx
                have HTT := Aside0.mk htx
                obtain ⟨L, hL⟩ : ∃ L, allOf ts ++ T = L := ⟨_, rfl⟩
                rw [hL] at HCL
                have HLL : Aside0 (L.length ≤ 100000 ∧ ∀ t ∈ L, Bt t ∧ t.length ≤ 900000) := ⟨by
                  rw [← hL]
                  refine ⟨by rw [List.length_append]; have := HALT.out.2; have := htx.2; omega, fun t ht => ?_⟩
                  rcases List.mem_append.1 ht with e | e
                  · exact HALT.out.1 t e
                  · exact htx.1 t e⟩
                have HL := Aside0.mk hL
                obtain ⟨Ln, hLn⟩ : ∃ n, L.length = n := ⟨_, rfl⟩
                have HLN := Aside0.mk hLn
                clear hxy hcb hT htx hL hLn
                go_wp2_with fail
                first | (go_region_held3 (fun W => (W.cell? ⟨w.heap.size, 0, none⟩ = some (.slice A1 n1 c1) ∧ W.cell? ⟨w.heap.size, 1, none⟩ = some (.int .i64 (i : Int)) ∧ W.cell? ⟨w.heap.size, 2, none⟩ = some (.int .i64 n) ∧ W.cell? ⟨w.heap.size, 3, none⟩ = some (.slice A4 n4 c4)) ∧ W.cell? (ad.add i) = some (.slice B1 mt d1)) (first | exact ⟨⟨s0, s1, s2, s3⟩, x1⟩ | exact HS4.out | exact HS5.out) (first
                  | (go_at_call 14; (with_reducible refine (HSA.out _ (below_drew (Below.refl _ _))).mono ?_); rintro e w4 ⟨rfl, hb⟩; have HB4 := Aside0.mk (below_then (below_drew (Below.refl wr.heap.size wr)) (below_drew (Below.refl wr.heap.size wr)).size hb); have HS4 := Aside0.mk (And.intro (HSr.out.below HB4.out) (pw_cell_below HB4.out x1)); clear hb)
                  | (go_at_call 22; (with_reducible refine (HCX.out _ HB4.out).mono ?_); rintro e w5 ⟨rfl, hb⟩; have HB5 := Aside0.mk (below_then HB4.out HB4.out.size hb); have HS5 := Aside0.mk (And.intro (HSr.out.below HB5.out) (pw_cell_below HB5.out x1)); obtain ⟨⟨z0, z1, z2, z3⟩, z4⟩ := HS5.out; clear hb)
                  | fail)) | fail
                all_goals (refine (‹∀ (a : Act) (w_1 : World), Code.wp _ _ _ a w_1 → _› _ _ ?_))
                go_wp2_with (first
                  | (go_at_call 23; (with_reducible refine (HTX.out _ (below_then HBW.out HBW.out.size HB5.out)).mono ?_); rintro e w6 ⟨v6, vs6, rfl, ho, ho2, hb⟩; obtain ⟨A6, c6, e6⟩ := Kd.R_slice ho; dsimp only at e6 ho ho2; subst e6; have HB6 := Aside0.mk (below_then (below_then HBW.out HBW.out.size HB5.out) (below_then HBW.out HBW.out.size HB5.out).size hb); have HT6 := Aside0.mk (Kd.R_lower ho (below_then HBW.out HBW.out.size HB5.out).size); clear ho ho2 hb)
                  | (go_at_call 27; (with_reducible refine (HALL.out _ HB6.out).mono ?_); rintro e w7 ⟨v7, rfl, ho, hb⟩; obtain ⟨A7, c7, e7⟩ := Kd.R_slice ho; subst e7; have HB7 := Aside0.mk (below_then HB6.out HB6.out.size hb); have HA7 := Aside0.mk (Kd.R_lower ho HB6.out.size); have HT7 := Aside0.mk (Kd.R_below HT6.out hb); clear ho hb)
                  | (at_builtin; refine Kd.R_append_rows rowK (w0 := w) (W := w7) w.heap.size rfl (.tmp 101) (.tmp 102) 22 24 (.slice none 0 0) 24 rfl Tryd.underlying22 info24 rfl (by decide) (by decide) (.slice A7 (allOf ts).length c7) (allOf ts) T A6 T.length c6 (fun _ => True) (fun k => some k ≠ (Value.slice A7 (allOf ts).length c7).ownBlock) rfl rfl HA7.out (row_news HA7.out HT7.out (Nat.le_refl _)) (fun _ _ h => h) (fun k hk => ⟨trivial, hk⟩) (fun _ _ => trivial) HB7.out HB7.out.size (by have := HALT.out.2; have := HTT.out.2; omega) ?_; intro v8 w8 ho hb8 hg8 hat8; rw [HL.out] at ho; obtain ⟨A8, c8, e8⟩ := Kd.R_slice ho; subst e8; rw [HLN.out]; have HC8 := Aside0.mk ((Kd.R_reads' ho).2.2); have HB8 := Aside0.mk hb8; clear ho hb8 hg8 hat8)
                  | (go_at_call 26; (with_reducible refine (clash_calls A8 Ln c8 L HLN.out HLL.out.2 (by have := HLL.out.1; have := HLN.out; omega) w8 (by rw [← HLN.out]; exact HC8.out)).mono ?_); rintro e w9 ⟨r9, rfl, hr9, hb⟩; obtain rfl := hr9 HCL.out; have HB9 := Aside0.mk (below_then HB8.out HB8.out.size hb); clear hb)
                  | fail)
                all_goals go_ret
                all_goals exact ⟨rfl, HB9.out⟩
          · by_cases hi0 : i < 0
            · have hi3 : decide (i < 0) = true := decide_eq_true hi0
              clear hin
              go_wp2_with fail
              go_quiet (fail)
              go_wp2_with fail
              go_ret
              exact ⟨rfl, pw_below_drewN HBW.out nq⟩
            · have hi1 : (k : Int) ≤ i := by omega
              have hi3 : decide (i < 0) = false := decide_eq_false hi0
              have hi4 : decide ((k : Int) ≤ i) = true := decide_eq_true hi1
              clear hin
              go_wp2_with fail
              go_quiet (fail)
              go_wp2_with fail
              go_ret
              exact ⟨rfl, pw_below_drewN HBW.out nq⟩
end Go.Proofs.YteapdhfeddgjbaaDoor.Dg
end
section
/- TreeShows over what comes in. -/
namespace Go.Proofs.YteapdhfeddgjbaaDoor.Dg
set_option linter.unusedVariables false
open Go.RowKit Go.Proofs.YteapdhfeddgjbaaDoor.PDj Go.Proofs.YteapdhfeddgjbaaDoor.Num Go.Proofs.YteapdhfeddgjbaaDoorW Go.Proofs.YteapdhfeddgjbaaDoorW.PrintWords Go.Proofs.YteapdhfeddgjbaaDoor.Opn

theorem open_things {H : Type} {enc : TypeId × Value → H} {W : World} {fuel : Nat} {a : Option Addr} {len cap : Nat} {x : DataW H × List MemPlace} (h : DataW.trod enc Tryd.prog W 0 (fun _ => true) true fuel 22 [.slice a len cap] = some x) :
    ∃ l : List (List Int), l.length = len ∧ len ≤ cap ∧ len ≤ maxLen ∧ (Kd.slice 5 (Kd.int .u8)).C W a l.length l ∧ ∀ r ∈ l, Bt r := by
  obtain ⟨l, h1, h2, h3, h4, h5⟩ := opens_row 24 Tryd.underlying22 (by kernel_rfl) (opens_slice 5 Tryd.underlying24 (by kernel_rfl) (opens_int Tryd.underlying5)) h
  exact ⟨l, h1, h2, h3, h4, fun r hr x hx => wf_u8 ((h5 r hr).2 x hx)⟩
theorem tree_shows_run (A0 : Option Addr) (c0 : Nat) (ts : List (List Int)) (x : ShIn) (W : World) (hT : Tab W 2 KK)
    (h0 : (Kd.slice 5 (Kd.int .u8)).C W A0 ts.length ts) (y0 : ts.length ≤ c0) (m0 : ts.length ≤ maxLen) (w0 : ∀ r ∈ ts, Bt r) (w1 : x.ok W) :
    Calls Tryd.prog 6 #[.slice A0 ts.length c0, .agg #[.slice x.A x.l.length x.c, .int .i64 x.i, .int .i64 x.n, .slice x.A4 x.p.length x.c4]] W fun e W' => e = .returned (.bool true) ∧ Below W.heap.size W W' :=
  tree_shows_walk A0 ts.length c0 ts x.A x.l.length x.c x.l x.i x.n x.A4 x.p.length x.c4 x.p W rfl rfl rfl y0 m0 w1.1.1 w1.2.2.2.1 w1.2.2.2.2.2.2 w0 w1.1.2.2.1 w1.2.2.2.2.2.1 w1.2.1 h0 w1.1.2.1 w1.2.2.2.2.1 hT
end Go.Proofs.YteapdhfeddgjbaaDoor.Dg
end
