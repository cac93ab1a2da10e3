/- Several texts made one. -/
import Derived.Test.YteapdhfeddgjbaaDoorQDgXa
import Derived.Test.YteapdhfeddgjbaaDoorQDgXd
import Derived.Test.YteapdhfeddgjbaaDoorQWNEv
section
/- recall: All. -/
namespace Go.Proofs.YteapdhfeddgjbaaDoor.Dg
set_option linter.unusedVariables false
set_option linter.unusedSimpArgs false
open Go.RowKit Go.Proofs.YteapdhfeddgjbaaDoor.PDj Go.Proofs.YteapdhfeddgjbaaDoor.Num Go.Proofs.YteapdhfeddgjbaaDoorW Go.Proofs.YteapdhfeddgjbaaDoorW.PrintWords Go.Proofs.YteapdhfeddgjbaaDoorW.PrintLast Go.Proofs.YteapdhfeddgjbaaDoorW.PrintMore
open Go.Proofs.YteapdhfeddgjbaaDoor.Wire (TakeTold NewB rdev rdq mayb rtake_ok rtake_no rtake_bad)

abbrev Evt := Int × Int × Int × List Int
def evK : Kd Evt := Kd.pair (Kd.int .i64) (Kd.pair (Kd.int .i64) (Kd.pair (Kd.int .i64) (Kd.slice 5 (Kd.int .u8))))
/-- May the event of bytes be? -/
def okr (r : List Int) : Bool := decide (rdq r < 0) && mayb (rdev r).1.1 (rdev r).1.2.1 (rdev r).1.2.2.1 (rdev r).1.2.2.2
def evr (r : List Int) : Evt := (rdev r).1
theorem take_no_calls (A : Option Addr) (n c : Nat) (hn : n ≤ 1000000) (hc : n ≤ c) (l : List Int) (hl : l.length = n) (hby : Bt l) (w : World) (hr : Kd.C (Kd.int .u8) w A l.length l) (h : okr l = false) :
    Calls Tryd.prog 45 #[.slice A n c] w fun e w' => ∃ p err : Int, ((err == 0) = false) ∧ TakeTold w 0 0 0 [] p err e w' := by
  by_cases hq : 0 ≤ rdq l
  · exact (rtake_bad A n c hn hc l hl hby w hr hq).mono fun e w' h => ⟨_, 20, rfl, h⟩
  · have hm : mayb (rdev l).1.1 (rdev l).1.2.1 (rdev l).1.2.2.1 (rdev l).1.2.2.2 = false := by
      unfold okr at h
      rw [decide_eq_true (by omega), Bool.true_and] at h
      exact h
    exact (rtake_no A n c hn hc l hl hby w hr (by omega) hm).mono fun e w' h => ⟨_, 2, rfl, h⟩
theorem take_ok_calls (A : Option Addr) (n c : Nat) (hn : n ≤ 1000000) (hc : n ≤ c) (l : List Int) (hl : l.length = n) (hby : Bt l) (w : World) (hr : Kd.C (Kd.int .u8) w A l.length l) (h : okr l = true) :
    Calls Tryd.prog 45 #[.slice A n c] w (TakeTold w (evr l).1 (evr l).2.1 (evr l).2.2.1 (evr l).2.2.2 0 0) := by
  unfold okr at h
  rw [Bool.and_eq_true] at h
  exact rtake_ok A n c hn hc l hl hby w hr (of_decide_eq_true h.1) h.2
theorem C_block {W W' : World} {B : Option Addr} {l : List Int} (h : Kd.C (Kd.int .u8) W B l.length l) (hb : ∀ ad, B = some ad → 0 < l.length → W'.heap[ad.block]? = W.heap[ad.block]?) : Kd.C (Kd.int .u8) W' B l.length l := by
  refine ⟨h.1, h.2.1, fun hn => ?_⟩
  obtain ⟨ad, e, hc⟩ := h.2.2 hn
  refine ⟨ad, e, fun j q hq => ?_⟩
  obtain ⟨c, h1, h2, h3⟩ := hc j q hq
  refine ⟨c, h1, h2, fun i u hu => ?_⟩
  rw [← h3 i u hu]
  have hbk : ∀ m, (ad.add m).block = ad.block := fun m => by unfold Addr.add; split <;> rfl
  unfold World.cell?
  rw [hbk, hb ad e hn]
theorem ev_FK {W : World} {B : Option Addr} {d : Nat} {l : List Int} {k now fr : Int} (hl : l.length ≤ d) (hC : Kd.C (Kd.int .u8) W B l.length l) (okp : Nat → Prop) (hB : ∀ ad, B = some ad → 0 < l.length → okp ad.block) :
    Kd.FK evK W okp (k, now, fr, l) [.int .i64 k, .int .i64 now, .int .i64 fr, .slice B l.length d] := fun W' hW => by
  refine ⟨[_], [_, _, _], rfl, rfl, [_], [_, _], rfl, rfl, [_], [_], rfl, rfl, B, d, rfl, hl, C_block hC fun ad e hp => hW _ (hB ad e hp) ?_⟩
  have hp' : 0 < l.length := hp
  obtain ⟨ad', e', hc⟩ := Kd.at_int hC 0 (Int.le_refl 0) (by omega)
  rw [e] at e'
  cases e'
  rw [show ((0 : Int).toNat) = 0 from rfl, ad_add0] at hc
  exact World.block_lt_of_cell? _ _ hc
theorem take_getD' (rs : List (List Int)) (i : Nat) (h : i < rs.length) : rs.take (i + 1) = rs.take i ++ [rs.getD i []] := by
  rw [List.take_succ_eq_append_getElem h, List.getD_eq_getElem?_getD, List.getElem?_eq_getElem h]; rfl
theorem mem_getD' (rs : List (List Int)) (i : Nat) (h : i < rs.length) : rs.getD i [] ∈ rs := by
  rw [List.getD_eq_getElem?_getD, List.getElem?_eq_getElem h]; exact List.getElem_mem h
theorem while_at (p : List Int → Bool) : ∀ (rs : List (List Int)) (i : Nat), (∀ r ∈ rs.take i, p r = true) → i ≤ rs.length → (i < rs.length → p (rs.getD i []) = false) → rs.takeWhile p = rs.take i
  | [], i, _, _, _ => by simp
  | r :: rs, 0, _, _, h => by
    have := h (by simp)
    simp at this
    simp [List.takeWhile_cons, this]
  | r :: rs, i + 1, h1, h2, h3 => by
    rw [List.takeWhile_cons, h1 r (by simp), if_pos rfl, List.take_succ_cons, while_at p rs i (fun x hx => h1 x (by simp [hx])) (by simpa using h2) (fun hi => by have := h3 (by simpa using hi); simpa using this)]
theorem info85 : (Tryd.prog.info? 85).map (fun i => (i.zero, i.size, i.bytes)) = some (some (.agg #[.int .i64 0, .int .i64 0, .int .i64 0, .slice none 0 0]), 4, 48) := by kernel_rfl
/-- The records ahead of the first that is no event. -/
def pref (rs : List (List Int)) : List (List Int) := rs.takeWhile okr
def usedOf (rs : List (List Int)) : Nat := (rs.map fun r => 12 + r.length).sum
theorem usedOf_snoc (rs : List (List Int)) (r : List Int) : usedOf (rs ++ [r]) = usedOf rs + (12 + r.length) := by unfold usedOf; simp
set_option maxHeartbeats 6400000 in
set_option maxRecDepth 100000 in
theorem all_calls (A : Option Addr) (N c : Nat) (b : List Int) (hN : b.length = N) (hb : Bt b) (hN1 : N ≤ 100000) (hc : N ≤ c) (hu : ∀ i, usedOf ((recsOf b).take i) ≤ 100000) (hbr : ∀ r ∈ recsOf b, Bt r ∧ r.length ≤ 100000) (hM : (recsOf b).length ≤ 100000) (w : World) (hC : Kd.C (Kd.int .u8) w A b.length b) (hK : Tab w 2 KK) :
    Calls Tryd.prog 40 #[.slice A N c] w fun e w' => ∃ v, e = .returned (.tuple #[v, .int .i64 ((usedOf (pref (recsOf b)) : Nat) : Int)]) ∧ Kd.N evK 85 w' w.heap.size (fun _ => True) v ((pref (recsOf b)).map evr) ∧ Below w.heap.size w w' := by
  have HSC := Aside0.mk (scan_calls A N c b hN hb (by omega) hc w hC hK)
  obtain ⟨rs, hrs⟩ : ∃ rs, recsOf b = rs := ⟨_, rfl⟩
  rw [hrs] at HSC hu hbr hM ⊢
  obtain ⟨U, hU⟩ : ∃ U : Nat, (ends2 (endsOf b)).2 = U := ⟨_, rfl⟩
  rw [hU] at HSC
  obtain ⟨M, hMM⟩ : ∃ M, rs.length = M := ⟨_, rfl⟩
  have HU := Aside0.mk hu
  have HBR := Aside0.mk hbr
  have HM := Aside0.mk hMM
  rw [hMM] at hM
  have HM5 := Aside0.mk hM
  have HK := Aside0.mk hK
  clear hN hb hN1 hc hu hbr hM hC hK hrs hU hMM
  go_enter Tryd.func40, Tryd.ntmps40
  go_wp2
  go_step3
  go_wp2_with (first
    | (go_at_call 15; (with_reducible refine HSC.out.mono ?_); rintro e w2 ⟨v2, rfl, ho, hb⟩; obtain ⟨A2, c2, e2⟩ := Kd.R_slice ho; subst e2; rw [HM.out] at ho ⊢; have HL2 := Aside0.mk (Kd.R_reads' ho).2.2; have HB2 := Aside0.mk hb; clear ho hb)
    | fail)
  go_step3
  go_wp2
  go_loopw [6, 7, 20] (fun v6 v7 v20 wr => ∃ i : Nat, v7 = .int .i64 ((usedOf (rs.take i) : Nat) : Int) ∧ v20 = .int .i64 (i : Int) ∧ Aside0 (i ≤ M) ∧ Aside0 (∀ r ∈ rs.take i, okr r = true) ∧ Aside0 (Kd.N evK 85 wr w2.heap.size (fun _ => True) v6 ((rs.take i).map evr)) ∧ Aside0 (Below w2.heap.size w2 wr))
    (fun _ _ v20 _ => M - (intOf v20).toNat)
  case atStart => exact ⟨0, rfl, rfl, ⟨Nat.zero_le _⟩, ⟨by simp⟩, ⟨Kd.N_nil _ _ _ _ _⟩, ⟨Below.refl _ _⟩⟩
  case round =>
    obtain ⟨i, rfl, rfl, HI, HS, HR, HB⟩ := hrel
    have HBW := Aside0.mk (below_then HB2.out HB2.out.size HB.out)
    have hi := HI.out
    have hM5 := HM5.out
    by_cases hlt : i < M
    · have hlt' : (i : Int) < (M : Int) := by omega
      obtain ⟨ad0, A3, c3, rfl, hc3w, hl3, hC3w⟩ := at_row HL2.out i (by rw [HM.out]; exact hlt)
      have hbr := HBR.out _ (mem_getD' rs i (by rw [HM.out]; exact hlt))
      have htk := take_getD' rs i (by rw [HM.out]; exact hlt)
      have HWA := Aside0.mk (while_at okr rs i HS.out (by rw [HM.out]; exact hi))
      obtain ⟨r, hr⟩ : ∃ r, rs.getD i [] = r := ⟨_, rfl⟩
      rw [hr] at hc3w hl3 hC3w hbr htk HWA
      obtain ⟨n, hn⟩ : ∃ n, r.length = n := ⟨_, rfl⟩
      rw [hn] at hc3w hl3
      have hc3 := pw_cell_below HB.out hc3w
      have hC3 := Kd.C_below hC3w HB.out
      have hn5 : n ≤ 100000 := by rw [← hn]; exact hbr.2
      cases hok : okr r with
      | false =>
        have HTK := Aside0.mk (take_no_calls A3 n c3 (by omega) hl3 r hn hbr.1 wr hC3 hok)
        have HPF : Aside0 (pref rs = rs.take i) := ⟨HWA.out (fun _ => hok)⟩
        clear hr hn hbr htk hl3 hC3 hok hn5 HWA hC3w hc3w
        go_wp2_with (first
          | (go_at_call 45; (with_reducible refine HTK.out.mono ?_); rintro e w4 ⟨p, err, herr, B, d, rfl, -, -, hb⟩; have HB4 := Aside0.mk (below_then HBW.out HBW.out.size hb); have HR4 := Aside0.mk (Kd.N_below HR.out hb); clear hb)
          | fail)
        try rw [Exit.noGoto_ret]
        go_ret2
        exact ⟨u6, by rw [HPF.out]; rfl, by rw [HPF.out]; exact Kd.N_lower (Kd.N_alloc HR4.out _) HB2.out.size, below_alloc HB4.out _⟩
      | true =>
        have HTK := Aside0.mk (take_ok_calls A3 n c3 (by omega) hl3 r hn hbr.1 wr hC3 hok)
        have HRN : Aside0 (Bt r ∧ r.length = n ∧ n ≤ c3 ∧ Kd.C (Kd.int .u8) w2 A3 r.length r) := ⟨⟨hbr.1, hn, hl3, hC3w⟩⟩
        have HTT := Aside0.mk htk
        have HS2 : Aside0 (∀ x ∈ rs.take (i + 1), okr x = true) := ⟨by
          rw [htk]
          intro x hx
          rcases List.mem_append.1 hx with hx | hx
          · exact HS.out x hx
          · rw [List.mem_singleton.1 hx]; exact hok⟩
        have hu1 := HU.out i
        have hu2 := usedOf_snoc (rs.take i) r
        rw [← htk, hn] at hu2
        have HUS := Aside0.mk hu2
        obtain ⟨ev, hev⟩ : ∃ ev, evr r = ev := ⟨_, rfl⟩
        have HEV : Aside0 ((rs.take (i + 1)).map evr = (rs.take i).map evr ++ [ev]) := ⟨by rw [htk, List.map_append, List.map_cons, List.map_nil, hev]⟩
        have HLEN : Aside0 (((rs.take i).map evr).length = i) := ⟨by rw [List.length_map, List.length_take, HM.out]; omega⟩
        rw [hev] at HTK
        obtain ⟨k, now, fr, l⟩ := ev
        obtain ⟨B6, d6, e6⟩ := Kd.N_slice HR.out
        rw [HLEN.out] at e6
        subst e6
        generalize usedOf (rs.take i) = u at hu1 HUS ⊢
        clear hr hn hbr htk hl3 hC3 hok HWA hC3w hc3w hev hu2
        go_wp2_with (first
          | (go_at_call 45; (with_reducible refine HTK.out.mono ?_); rintro e w4 ⟨B, d, rfl, hd, hC, hb⟩; have HB4 := Aside0.mk (below_then HB.out HB.out.size hb); have HR4 := Aside0.mk (Kd.N_below HR.out hb)
             have HFK := Aside0.mk (ev_FK (k := k) (now := now) (fr := fr) hd.1 (Kd.C_below hC (below_alloc (Below.refl w4.heap.size w4) (.cells #[.int .i64 k, .int .i64 now, .int .i64 fr, .slice B l.length d] 85))) (fun x => some x ≠ (Value.slice B6 i d6).ownBlock) (fun ad e _ he => by have h1 := hd.2 ad e; have h2 := Kd.N_lt HR.out _ he.symm; omega))
             have HSZ : Aside0 (w2.heap.size ≤ w4.heap.size) := ⟨HB4.out.size⟩
             clear hb hd hC)
          | (at_builtin; refine Kd.N_append evK (w0 := w2) (W := w4.alloc (.cells #[.int .i64 k, .int .i64 now, .int .i64 fr, .slice B l.length d] 85)) w2.heap.size rfl _ _ 81 85 (.agg #[.int .i64 0, .int .i64 0, .int .i64 0, .slice none 0 0]) 48 rfl Tryd.underlying81 info85 rfl (by decide) (by decide) (.slice B6 i d6) ((rs.take i).map evr) (k, now, fr, l) [.int .i64 k, .int .i64 now, .int .i64 fr, .slice B l.length d] (fun _ => True) _ rfl (by show Value.slice (some ⟨w4.heap.size + 1, 0, none⟩) 1 1 = _; simp) HFK.out (fun x hx => ⟨trivial, hx⟩) (fun _ _ => trivial) (Kd.N_alloc HR4.out _) (below_alloc HB4.out _) (by have := HSZ.out; simp; omega) (by rw [HLEN.out]; have := HM5.out; omega) ?_; intro v5 w5 hN5 hb5 hg5 hat5; have HN5 := Aside0.mk hN5; have HB5 := Aside0.mk hb5; have HFR := Aside0.mk (frame_calls A3 n c3 r HRN.out.2.1 (by omega) HRN.out.2.2.1 HRN.out.1 w5 (Kd.C_below HRN.out.2.2.2 hb5) (HK.out.below (below_then HB2.out HB2.out.size hb5))); clear hN5 hb5 hg5 hat5)
          | (go_at_call 12; (with_reducible refine HFR.out.mono ?_); rintro e w6 ⟨v6, rfl, ho6, hb6⟩; obtain ⟨A6, c6, e6⟩ := Kd.R_slice ho6; subst e6; rw [frm_len, HRN.out.2.1]; have HB6 := Aside0.mk (below_then HB5.out HB5.out.size hb6); have HN6 := Aside0.mk (Kd.N_below HN5.out hb6); clear ho6 hb6)
          | fail)
        exact ⟨⟨i + 1, by rw [HUS.out]; rfl, rfl, ⟨hlt⟩, HS2, ⟨by rw [HEV.out]; exact HN6.out⟩, HB6⟩, meas_nat hlt⟩
    · have he : i = M := by omega
      subst he
      have HPF : Aside0 (pref rs = rs.take i) := ⟨while_at okr rs i HS.out (by rw [HM.out]; exact Nat.le_refl _) (fun h => by rw [HM.out] at h; omega)⟩
      go_wp2
      try rw [Exit.noGoto_ret]
      go_ret2
      exact ⟨u6, by rw [HPF.out]; rfl, by rw [HPF.out]; exact Kd.N_lower HR.out HB2.out.size, HBW.out⟩
end Go.Proofs.YteapdhfeddgjbaaDoor.Dg
end
section
/- recall: any journal has the document's events: the walk. -/
namespace Go.Proofs.YteapdhfeddgjbaaDoor.Dg
set_option linter.unusedVariables false
set_option linter.unusedSimpArgs false
open Go.RowKit Go.Proofs.YteapdhfeddgjbaaDoor.PDj Go.Proofs.YteapdhfeddgjbaaDoor.Num Go.Proofs.YteapdhfeddgjbaaDoorW Go.Proofs.YteapdhfeddgjbaaDoorW.PrintWords Go.Proofs.YteapdhfeddgjbaaDoorW.PrintLast Go.Proofs.YteapdhfeddgjbaaDoorW.PrintMore
open Go.Proofs.YteapdhfeddgjbaaDoor.Wire (TakeTold NewB rdev rdq mayb rtake_ok rtake_no rtake_bad qtake_calls esame_calls recall_awake_calls refmay_is EvAt)

theorem usedOf_cons (r : List Int) (rs : List (List Int)) : usedOf (r :: rs) = 12 + r.length + usedOf rs := by unfold usedOf; simp
theorem fra_used (b : List Int) : ∀ k a, a ≤ b.length → a + usedOf ((fra b k a).map (·.2)) ≤ b.length := by
  intro k
  induction k with
  | zero => intro a h; exact h
  | succ k ih =>
    intro a h
    cases e : nxt (b.drop a) with
    | none => rw [fra_none e]; exact h
    | some n =>
      rw [fra_some e, List.map_cons, usedOf_cons]
      have hle := (nxt_le e).1
      rw [List.length_drop] at hle
      have h2 := ih (a + (12 + n)) (by omega)
      have h3 : (((b.drop a).drop 12).take n).length = n := by rw [List.length_take, List.length_drop, List.length_drop]; omega
      rw [h3]
      omega
theorem usedOf_take : ∀ (rs : List (List Int)) (i : Nat), usedOf (rs.take i) ≤ usedOf rs
  | [], i => by simp
  | r :: rs, 0 => by rw [List.take_zero]; exact Nat.zero_le _
  | r :: rs, i + 1 => by rw [List.take_succ_cons, usedOf_cons, usedOf_cons]; have := usedOf_take rs i; omega
theorem used_all (b : List Int) (i : Nat) : usedOf ((recsOf b).take i) ≤ b.length := by
  have h := fra_used b (b.length + 1) 0 (Nat.zero_le _)
  have h2 := usedOf_take (recsOf b) i
  unfold recsOf frames at h2 ⊢
  omega
theorem fra_Bt (b : List Int) (hb : Bt b) : ∀ k a, ∀ r ∈ (fra b k a).map (·.2), Bt r := by
  intro k
  induction k with
  | zero => intro a r h; simp [fra] at h
  | succ k ih =>
    intro a r h
    cases e : nxt (b.drop a) with
    | none => rw [fra_none e] at h; simp at h
    | some n =>
      rw [fra_some e, List.map_cons] at h
      rcases List.mem_cons.1 h with h | h
      · rw [h]; intro x hx; exact hb x (List.mem_of_mem_drop (List.mem_of_mem_drop (List.mem_of_mem_take hx)))
      · exact ih _ r h
theorem recs_facts (b : List Int) (hb : Bt b) : ∀ r ∈ recsOf b, Bt r ∧ r.length ≤ b.length := fun r hr => by
  refine ⟨fra_Bt b hb _ _ r hr, ?_⟩
  obtain ⟨p, hp, e⟩ := List.mem_map.1 hr
  rw [← e]
  exact fra_rec b _ _ p hp
theorem while_ge (p : List Int → Bool) : ∀ (rs : List (List Int)) (i : Nat), (∀ r ∈ rs.take i, p r = true) → i ≤ rs.length → i ≤ (rs.takeWhile p).length
  | [], i, _, h => h
  | r :: rs, 0, _, _ => Nat.zero_le _
  | r :: rs, i + 1, h1, h2 => by
    rw [List.takeWhile_cons, h1 r (by simp), if_pos rfl, List.length_cons]
    exact Nat.succ_le_succ (while_ge p rs i (fun x hx => h1 x (by simp [hx])) (by simpa using h2))
theorem while_get (p : List Int → Bool) (z : List Int) : ∀ (rs : List (List Int)) (i : Nat), i < (rs.takeWhile p).length → (rs.takeWhile p).getD i z = rs.getD i z
  | [], i, h => by simp at h
  | r :: rs, i, h => by
    rw [List.takeWhile_cons] at h ⊢
    by_cases hp : p r = true
    · rw [if_pos hp] at h ⊢
      cases i with
      | zero => rfl
      | succ i => exact while_get p z rs i (by simpa using h)
    · rw [if_neg hp] at h; simp at h
theorem pref_at (rs : List (List Int)) (i : Nat) (h : i < (pref rs).length) (z : Evt) : ((pref rs).map evr).getD i z = evr (rs.getD i []) := by
  rw [← while_get okr [] rs i h, List.getD_eq_getElem?_getD, List.getElem?_map, List.getElem?_eq_getElem h]
  show evr (pref rs)[i] = evr ((pref rs).getD i [])
  rw [List.getD_eq_getElem?_getD, List.getElem?_eq_getElem h]; rfl
theorem recs_pre {b : List Int} {pre x : List (Nat × List Int)} {i : Nat} (h : frames b = pre ++ x) (hi : pre.length = i) : (recsOf b).take i = pre.map (·.2) := by
  unfold recsOf
  subst hi
  rw [h, List.map_append, List.take_append_of_le_length (by simp), List.take_of_length_le (by simp)]
theorem rdev_len' (l : List Int) : (rdev l).1.2.2.2.length ≤ l.length := by
  unfold rdev
  split
  · exact Nat.zero_le _
  · split
    · show ((Go.Proofs.YteapdhfeddgjbaaDoor.Wire.bstep _ _ l _ _).1).length ≤ l.length
      unfold Go.Proofs.YteapdhfeddgjbaaDoor.Wire.bstep
      split
      · exact Nat.zero_le _
      · split
        · exact Nat.zero_le _
        · show ((l.drop _).take _).length ≤ l.length
          rw [List.length_take, List.length_drop]; omega
    · exact Nat.zero_le _
theorem ev_at {W : World} {e base : Nat} {ok : Nat → Prop} {g n cap : Nat} {xs : List Evt} (h : Kd.N evK e W base ok (.slice (some ⟨g, 0, none⟩) n cap) xs) (i : Nat) (hi : i < n) (k now fr : Int) (l : List Int) (hx : xs.getD i (0, 0, 0, []) = (k, now, fr, l)) :
    ∃ B d, W.cell? ⟨g, i * 4, none⟩ = some (.int .i64 k) ∧ W.cell? ⟨g, i * 4 + 1, none⟩ = some (.int .i64 now) ∧ W.cell? ⟨g, i * 4 + 2, none⟩ = some (.int .i64 fr) ∧ W.cell? ⟨g, i * 4 + 3, none⟩ = some (.slice B l.length d) ∧ l.length ≤ d ∧ Kd.C (Kd.int .u8) W B l.length l := by
  obtain ⟨c, hc, hF, hcell, _⟩ := Kd.N_elem h (0, 0, 0, []) (i : Int) (by omega) (by omega)
  rw [Int.toNat_natCast] at hF hcell
  rw [hx] at hF
  obtain ⟨ca, cb, rfl, rfl, cc, cd, rfl, rfl, ce, cf, rfl, rfl, B, d, rfl, hl, hC⟩ := Kd.FK_now hF
  exact ⟨B, d, hcell 0 _ rfl, hcell 1 _ rfl, hcell 2 _ rfl, hcell 3 _ rfl, hl, hC⟩
set_option maxHeartbeats 6400000 in
set_option maxRecDepth 100000 in
theorem recall_all_walk (A0 : Option Addr) (n0 c0 : Nat) (b : List Int) (w : World) (hn0 : b.length = n0) (hc0 : n0 ≤ c0) (hb : Bt b) (hC0 : Kd.C (Kd.int .u8) w A0 b.length b) (hK : Tab w 2 KK) :
    Calls Tryd.prog 9 #[.slice A0 n0 c0] w (Tells (.bool true) w) := by
  have HAW := Aside0.mk (recall_awake_calls w)
  by_cases h0 : 3000 < n0
  · clear hC0 hK hb hn0
    have h0' : (3000 : Int) < (n0 : Int) := by omega
    go_enter Tryd.func9, Tryd.ntmps9
    go_wp2_with (first
      | (go_at_call 39; (with_reducible refine HAW.out.mono ?_); rintro e w1 ⟨rfl, hb1⟩; have HB1 := Aside0.mk hb1; clear hb1)
      | fail)
    go_ret
    exact ⟨rfl, HB1.out⟩
  · have h0' : ¬ (3000 : Int) < (n0 : Int) := by omega
    obtain ⟨rs, hrs⟩ : ∃ rs, recsOf b = rs := ⟨_, rfl⟩
    obtain ⟨L, hL⟩ : ∃ L, ((pref rs).map evr).length = L := ⟨_, rfl⟩
    obtain ⟨U, hU⟩ : ∃ U, usedOf (pref rs) = U := ⟨_, rfl⟩
    have HAL : Aside0 (∀ W', Below w.heap.size w W' → Calls Tryd.prog 40 #[.slice A0 n0 c0] W' fun e w' => ∃ v, e = .returned (.tuple #[v, .int .i64 (U : Int)]) ∧ Kd.N evK 85 w' W'.heap.size (fun _ => True) v ((pref rs).map evr) ∧ Below W'.heap.size W' w') :=
      ⟨by
        rw [← hU, ← hrs]
        exact fun W' h => all_calls A0 n0 c0 b hn0 hb (by omega) hc0 (fun i => Nat.le_trans (used_all b i) (by omega)) (fun r hr => ⟨(recs_facts b hb r hr).1, Nat.le_trans (recs_facts b hb r hr).2 (by omega)⟩)
          (by unfold recsOf; rw [List.length_map]; exact Nat.le_trans (fra_len b (b.length + 1) 0) (by omega)) W' (Kd.C_below hC0 h) (hK.below h)⟩
    have HEN : Aside0 (∀ W', Below w.heap.size w W' → Calls Tryd.prog 17 #[.slice A0 n0 c0] W' fun e w' => ∃ v, e = .returned v ∧ Kd.R (Kd.int .i64) 3 w' W'.heap.size (fun _ => True) v ((endsOf b).map (fun n : Nat => (n : Int))) ∧ Below W'.heap.size W' w') :=
      ⟨fun W' h => ends_calls A0 n0 c0 b hn0 hb (by omega) hc0 W' (Kd.C_below hC0 h)⟩
    have HRS := Aside0.mk hrs
    have HLL := Aside0.mk hL
    have HUU := Aside0.mk hU
    have HN0 := Aside0.mk hn0
    have HC0 := Aside0.mk hC0
    have HCC0 := Aside0.mk hc0
    have HBT := Aside0.mk hb
    have HN3 : Aside0 (n0 ≤ 3000) := ⟨by omega⟩
    have HMB0 : Aside0 ((frames b).length ≤ 3001) := ⟨Nat.le_trans (fra_len b (b.length + 1) 0) (by omega)⟩
    have HUA : Aside0 (∀ i, usedOf ((recsOf b).take i) ≤ n0) := ⟨fun i => by rw [← hn0]; exact used_all b i⟩
    have HFA : Aside0 (∀ r ∈ recsOf b, Bt r ∧ r.length ≤ n0) := ⟨by rw [← hn0]; exact recs_facts b hb⟩
    clear hrs hL hU hn0 hc0 hb hC0 hK
    obtain ⟨M, HM, HMB, HMR, HME⟩ : ∃ M, Aside0 ((frames b).length = M) ∧ Aside0 (M ≤ 3001) ∧ Aside0 (rs.length = M) ∧ Aside0 (((endsOf b).map (fun n : Nat => (n : Int))).length = M) :=
      ⟨_, ⟨rfl⟩, HMB0, ⟨by rw [← HRS.out]; unfold recsOf; rw [List.length_map]⟩, ⟨by unfold endsOf; rw [List.length_map, List.length_map]⟩⟩
    go_enter Tryd.func9, Tryd.ntmps9
    go_wp2_with (first
      | (go_at_call 39; (with_reducible refine HAW.out.mono ?_); rintro e w1 ⟨rfl, hb1⟩; have HB1 := Aside0.mk hb1; clear hb1)
      | (go_at_call 40; (with_reducible refine (HAL.out _ HB1.out).mono ?_); rintro e w2 ⟨v2, rfl, ho, hb⟩; obtain ⟨A2, c2, e2⟩ := Kd.N_slice ho; subst e2; rw [HLL.out] at ho ⊢; have HL2 := Aside0.mk ho; have HB2 := Aside0.mk (below_then HB1.out HB1.out.size hb); clear ho hb)
      | (go_at_call 17; (with_reducible refine (HEN.out _ HB2.out).mono ?_); rintro e w3 ⟨v3, rfl, ho, hb⟩; obtain ⟨A3, c3, e3⟩ := Kd.R_slice ho; subst e3; rw [HME.out] at ho ⊢; have HE3 := Aside0.mk (Kd.R_reads' ho).2.2; have HL3 := Aside0.mk (Kd.N_below HL2.out hb); have HB3 := Aside0.mk (below_then HB2.out HB2.out.size hb); clear ho hb)
      | fail)
    go_loopw [5, 6, 24] (fun v5 v6 v24 wr => ∃ (at_ i q : Nat) (pre : List (Nat × List Int)), v5 = .int .i64 (at_ : Int) ∧ v6 = .int .i64 (i : Int) ∧ v24 = .int .i64 (i : Int) ∧ i ≤ M ∧ Aside0 (pre.length = i) ∧ Aside0 (frames b = pre ++ fra b q at_) ∧ Aside0 (usedOf (pre.map (·.2)) = at_) ∧ Aside0 (∀ r ∈ pre.map (·.2), okr r = true) ∧ Aside0 (Below w3.heap.size w3 wr))
      (fun _ _ v24 _ => M - (intOf v24).toNat)
    case atStart => exact ⟨0, 0, b.length + 1, [], rfl, rfl, rfl, Nat.zero_le _, ⟨rfl⟩, ⟨rfl⟩, ⟨rfl⟩, ⟨fun r h => by simp at h⟩, ⟨Below.refl _ _⟩⟩
    case round =>
      obtain ⟨at_, i, q, pre, rfl, rfl, rfl, hi, HP, HF, HUP, HS, HBr⟩ := hrel
      have HBW := Aside0.mk (below_then HB3.out HB3.out.size HBr.out)
      have HTI := Aside0.mk (recs_pre HF.out HP.out)
      have HSI : Aside0 (∀ r ∈ rs.take i, okr r = true) := ⟨by rw [← HRS.out, HTI.out]; exact HS.out⟩
      have HUI : Aside0 (usedOf (rs.take i) = at_) := ⟨by rw [← HRS.out, HTI.out]; exact HUP.out⟩
      by_cases hlt : i < M
      · obtain ⟨n, f, HQ1, HQ2, HQ3, HQ4, HQ5⟩ := next_frame b pre q at_ i M HP.out HF.out HM.out hlt
        obtain ⟨ad3, ea3, hc3⟩ := Kd.at_int (Kd.C_below HE3.out HBr.out) (i : Int) (by omega) (by rw [HME.out]; omega)
        rw [HQ3.out, Int.toNat_natCast] at hc3
        subst ea3
        have hn0 := HN0.out
        have hen : at_ + (12 + n) ≤ n0 := by have := HQ1.out; omega
        have hn3 := HN3.out
        have hC9 := C_drop (C_take HC0.out (at_ + (12 + n)) HQ1.out) (at_ + 12) c0 (by rw [List.length_take]; omega) (by rw [List.length_take]; have := HCC0.out; omega)
        have hfn : f.length = n := by rw [HQ2.out]; exact cut_len b at_ n HQ1.out
        rw [drop_mid, ← HQ2.out] at hC9
        have hcc : n ≤ c0 - (at_ + 12) := by have := HCC0.out; omega
        have hrf : rs.getD i [] = f := by rw [← HRS.out]; exact HQ4.out
        have hfb : Bt f := (HFA.out f (by rw [← hrf, HRS.out]; exact mem_getD' rs i (by rw [HMR.out]; exact hlt))).1
        obtain ⟨p2, hp2⟩ : ∃ p2, at_ + 12 = p2 := ⟨_, rfl⟩
        rw [hp2] at hC9 hcc
        obtain ⟨A9, hA9⟩ : ∃ A9, (if c0 = p2 then A0 else Option.map (fun x => x.add p2) A0) = A9 := ⟨_, rfl⟩
        rw [hA9] at hC9
        have hrd := qtake_calls A9 n (c0 - p2) (by omega) hcc f hfn hfb wr (Kd.C_below hC9 HBW.out)
        have HWA := Aside0.mk (while_at okr rs i HSI.out (by rw [HMR.out]; exact hi))
        rw [hrf] at HWA
        have hok2 : okr f = (decide (rdq f < 0) && mayb (rdev f).1.1 (rdev f).1.2.1 (rdev f).1.2.2.1 (rdev f).1.2.2.2) := rfl
        have hev2 : evr f = (rdev f).1 := rfl
        have hlen2 : (rdev f).1.2.2.2.length ≤ f.length := rdev_len' f
        obtain ⟨qq, hqq⟩ : ∃ qq, rdq f = qq := ⟨_, rfl⟩
        obtain ⟨⟨k2, now2, fr2, l2⟩, hev⟩ : ∃ r, (rdev f).1 = r := ⟨_, rfl⟩
        rw [hev, hqq] at hok2 hrd
        rw [hev] at hev2 hlen2
        dsimp only at hok2 hrd hlen2
        obtain ⟨n2, hn2⟩ : ∃ m, l2.length = m := ⟨_, rfl⟩
        have hrd2 : Calls Tryd.prog 41 #[.slice A9 n (c0 - p2)] wr (fun e w' => ∃ B d, e = .returned (.tuple #[.agg #[.int .i64 k2, .int .i64 now2, .int .i64 fr2, .slice B n2 d], .int .i64 qq]) ∧ n2 ≤ d ∧ Kd.C (Kd.int .u8) w' B l2.length l2 ∧ Below wr.heap.size wr w') := by rw [← hn2]; exact hrd
        have HRD := Aside0.mk hrd2
        have hMY : ∀ (r : Bool), mayb k2 now2 fr2 l2 = r → ∀ (B : Option Addr) (d : Nat) (W : World), Kd.C (Kd.int .u8) W B l2.length l2 → n2 ≤ d → Calls Tryd.prog 42 #[.agg #[.int .i64 k2, .int .i64 now2, .int .i64 fr2, .slice B n2 d]] W (fun e w' => e = .returned (.bool r) ∧ Below W.heap.size W w') := fun r h => by rw [← hn2]; exact fun B d W hC hd => cleromancyref32_May.calls k2 now2 fr2 B d l2 r W hC hd (by rw [refmay_is]; exact congrArg some h)
        obtain ⟨e, he⟩ : ∃ e, at_ + (12 + n) = e := ⟨_, rfl⟩
        rw [he] at hc3 HQ5
        have hiM : (i : Int) < (M : Int) := by omega
        have hq1 : (at_ : Int) + 12 ≤ (e : Int) := by omega
        have hq2 : (e : Int) ≤ (c0 : Int) := by have := HCC0.out; omega
        have hq3 : (0 : Int) ≤ (at_ : Int) + 12 := by omega
        have hq4 : ((at_ : Int) + 12).toNat = p2 := by omega
        have hq5 : e - p2 = n := by omega
        have HWAP : Aside0 (wrap64 ((at_ : Int) + 12) = (at_ : Int) + 12) := ⟨IntWalk.wrap64_in _ (by omega)⟩
        have hu79 := Tryd.underlying85
        have HPE : Aside0 (okr f = false → (i = L ∧ at_ = U)) := ⟨fun h => by
          have h1 := HWA.out (fun _ => h)
          have h2 : pref rs = rs.take i := h1
          have h3 := HLL.out
          have h4 := HUU.out
          rw [h2] at h3 h4
          rw [HUI.out] at h4
          rw [List.length_map, List.length_take, HMR.out] at h3
          omega⟩
        by_cases hq0 : 0 ≤ qq
        · have hof : okr f = false := by rw [hok2, decide_eq_false (by omega)]; rfl
          obtain ⟨rfl, rfl⟩ := HPE.out hof
          clear hC9 hcc hfn hrf hfb hp2 hrd hok2 hev2 hlen2 hqq hev hn2 hrd2 hMY he hn0 hen hn3 hof
          have hwa := HWAP.out
          go_wp2_with (first
            | (go_at_call 41; (with_reducible refine HRD.out.mono ?_); rintro e w5 ⟨B, d, rfl, -, -, hb⟩; have HB5 := Aside0.mk (below_then HBW.out HBW.out.size hb); clear hb)
            | fail)
          go_ret
          exact ⟨rfl, below_alloc HB5.out _⟩
        · by_cases hmy : mayb k2 now2 fr2 l2 = true
          · have hof : okr f = true := by rw [hok2, decide_eq_true (by omega), hmy]; rfl
            have HMY := Aside0.mk (hMY true hmy)
            have hqn : ¬ 0 ≤ qq := hq0
            have hLi : i < L := by
              have h1 := take_getD' rs i (by rw [HMR.out]; exact hlt)
              have h2 := while_ge okr rs (i + 1) (by
                rw [h1, hrf]
                intro x hx
                rcases List.mem_append.1 hx with hx | hx
                · exact HSI.out x hx
                · rw [List.mem_singleton.1 hx]; exact hof) (by rw [HMR.out]; exact hlt)
              have h3 := HLL.out
              rw [List.length_map] at h3
              have h4 : (pref rs).length = (rs.takeWhile okr).length := rfl
              omega
            have hat : ((pref rs).map evr).getD i (0, 0, 0, []) = (k2, now2, fr2, l2) := by
              rw [pref_at rs i (by have h3 := HLL.out; rw [List.length_map] at h3; omega), hrf, hev2]
            obtain ⟨g, cap, hg, -, -, -⟩ := Kd.N_form HL3.out (by rw [HLL.out]; omega)
            rw [HLL.out] at hg
            cases hg
            obtain ⟨B8, d8, hx0, hx1, hx2, hx3, hx4, hx5⟩ := ev_at (Kd.N_below HL3.out HBr.out) i hLi k2 now2 fr2 l2 hat
            rw [hn2] at hx3 hx4
            have HX : Aside0 (∀ W, Below wr.heap.size wr W → W.cell? ⟨g, i * 4, none⟩ = some (.int .i64 k2) ∧ W.cell? ⟨g, i * 4 + 1, none⟩ = some (.int .i64 now2) ∧ W.cell? ⟨g, i * 4 + 2, none⟩ = some (.int .i64 fr2) ∧ W.cell? ⟨g, i * 4 + 3, none⟩ = some (.slice B8 n2 d8) ∧ Kd.C (Kd.int .u8) W B8 l2.length l2) := ⟨fun W h => ⟨pw_cell_below h hx0, pw_cell_below h hx1, pw_cell_below h hx2, pw_cell_below h hx3, Kd.C_below hx5 h⟩⟩
            have HD8 := Aside0.mk hx4
            have HN2 := Aside0.mk hn2
            have HL9 : Aside0 (n2 ≤ 1000000) := ⟨by omega⟩
            have hiL : (i : Int) < (L : Int) := by omega
            have HUS := Aside0.mk (usedOf_snoc (pre.map (·.2)) f)
            rw [HUP.out, hfn, he] at HUS
            have HSN : Aside0 (∀ r ∈ (pre ++ [(e, f)]).map (·.2), okr r = true) := ⟨by
              rw [List.map_append, List.map_cons, List.map_nil]
              intro x hx
              rcases List.mem_append.1 hx with hx | hx
              · exact HS.out x hx
              · rw [List.mem_singleton.1 hx]; exact hof⟩
            have HPL : Aside0 ((pre ++ [(e, f)]).length = i + 1) := ⟨by rw [List.length_append, HP.out]; rfl⟩
            clear hC9 hcc hfn hrf hfb hp2 hrd hok2 hev2 hlen2 hqq hev hn2 hrd2 hMY he hn0 hen hn3 hof hmy hat hx0 hx1 hx2 hx3 hx4 hx5
            have hwa := HWAP.out
            go_wp2_with (first
              | (go_at_call 41; (with_reducible refine HRD.out.mono ?_); rintro e w5 ⟨B, d, rfl, hd, hC, hb⟩; have HE5 := Aside0.mk (EvAt.new w5 k2 now2 fr2 (.slice B n2 d)); have HB5 := Aside0.mk (below_alloc hb (.cells #[.int .i64 k2, .int .i64 now2, .int .i64 fr2, .slice B n2 d] 85)); have HC5 := Aside0.mk (Kd.C_alloc hC (.cells #[.int .i64 k2, .int .i64 now2, .int .i64 fr2, .slice B n2 d] 85)); have HD5 := Aside0.mk hd; obtain ⟨-, y0, y1, y2, y3, -⟩ := HE5.out; clear hb hC hd)
              | (go_at_call 42; (with_reducible refine (HMY.out B d _ HC5.out HD5.out).mono ?_); rintro e w6 ⟨rfl, hb⟩; have HB6 := Aside0.mk (below_then HB5.out HB5.out.size hb); have HC6 := Aside0.mk (Kd.C_below HC5.out hb); obtain ⟨-, z0, z1, z2, z3, -⟩ := HE5.out.below hb; obtain ⟨x0, x1, x2, x3, hC8⟩ := HX.out w6 HB6.out; have HC8 := Aside0.mk hC8; clear hb hC8 y0 y1 y2 y3)
              | fail)
            have hg1 : decide ((L : Int) ≤ (i : Int)) = false := decide_eq_false (by omega)
            have hg2 : ¬ ((L : Int) ≤ (i : Int)) := by omega
            have hg3 : ¬ (L ≤ i) := by omega
            have hg4 : decide (L ≤ i) = false := decide_eq_false (by omega)
            have hg5 : decide ((i : Int) ≥ (L : Int)) = false := decide_eq_false (by omega)
            first | (go_region_held3 (fun W => (W.cell? ⟨g, i * 4, none⟩ = some (.int .i64 k2) ∧ W.cell? ⟨g, i * 4 + 1, none⟩ = some (.int .i64 now2) ∧ W.cell? ⟨g, i * 4 + 2, none⟩ = some (.int .i64 fr2) ∧ W.cell? ⟨g, i * 4 + 3, none⟩ = some (.slice B8 n2 d8)) ∧ W.cell? ⟨w5.heap.size, 0, none⟩ = some (.int .i64 k2) ∧ W.cell? ⟨w5.heap.size, 1, none⟩ = some (.int .i64 now2) ∧ W.cell? ⟨w5.heap.size, 2, none⟩ = some (.int .i64 fr2) ∧ W.cell? ⟨w5.heap.size, 3, none⟩ = some (.slice B n2 d)) (first | exact ⟨⟨x0, x1, x2, x3⟩, z0, z1, z2, z3⟩ | exact HS7.out) (first
              | (go_at_call 43; (with_reducible refine (esame_calls k2 now2 fr2 B8 n2 d8 l2 HN2.out k2 now2 fr2 B n2 d l2 HN2.out HL9.out _ (Kd.C_below HC8.out (below_drew (Below.refl _ _))) HD8.out (Kd.C_below HC6.out (below_drew (Below.refl _ _))) HD5.out).mono ?_); rintro e9 w7 ⟨rfl, hb⟩; have hse : decide (k2 = k2 ∧ now2 = now2 ∧ fr2 = fr2 ∧ l2 = l2) = true := decide_eq_true ⟨rfl, rfl, rfl, rfl⟩; have HB7 := Aside0.mk (below_then (below_drew HB6.out) (below_drew HB6.out).size hb); have HS7 := Aside0.mk (And.intro (And.intro (pw_cell_below hb x0) (And.intro (pw_cell_below hb x1) (And.intro (pw_cell_below hb x2) (pw_cell_below hb x3)))) (And.intro (pw_cell_below hb z0) (And.intro (pw_cell_below hb z1) (And.intro (pw_cell_below hb z2) (pw_cell_below hb z3))))); clear hb)
              | fail)) | fail
            all_goals (refine (‹∀ (a : Act) (w_1 : World), Code.wp _ _ _ a w_1 → _› _ _ ?_); go_wp2_with fail)
            all_goals
              refine ⟨⟨e, i + 1, q - 1, _, rfl, by rw [wrap_succ (k := M) hlt (by have := HMB.out; omega)]; rfl, by rw [wrap_succ (k := M) hlt (by have := HMB.out; omega)]; rfl, hlt, HPL, HQ5, ⟨by rw [List.map_append, List.map_cons, List.map_nil]; exact HUS.out⟩, HSN, ⟨below_then HBr.out HBr.out.size HB7.out⟩⟩, ?_⟩
              rw [wrap_succ (k := M) hlt (by have := HMB.out; omega)]
              exact meas_nat hlt
          · have hmf : mayb k2 now2 fr2 l2 = false := by simpa using hmy
            have hof : okr f = false := by rw [hok2, hmf, Bool.and_false]
            obtain ⟨rfl, rfl⟩ := HPE.out hof
            have HMY := Aside0.mk (hMY false hmf)
            have hqn : ¬ 0 ≤ qq := hq0
            clear hC9 hcc hfn hrf hfb hp2 hrd hok2 hev2 hlen2 hqq hev hn2 hrd2 hMY he hn0 hen hn3 hof hmy hmf
            have hwa := HWAP.out
            go_wp2_with (first
              | (go_at_call 41; (with_reducible refine HRD.out.mono ?_); rintro e w5 ⟨B, d, rfl, hd, hC, hb⟩; have HE5 := Aside0.mk (EvAt.new w5 k2 now2 fr2 (.slice B n2 d)); have HB5 := Aside0.mk (below_alloc (below_then HBW.out HBW.out.size hb) (.cells #[.int .i64 k2, .int .i64 now2, .int .i64 fr2, .slice B n2 d] 85)); have HC5 := Aside0.mk (Kd.C_alloc hC (.cells #[.int .i64 k2, .int .i64 now2, .int .i64 fr2, .slice B n2 d] 85)); have HD5 := Aside0.mk hd; obtain ⟨-, y0, y1, y2, y3, -⟩ := HE5.out; clear hb hC hd)
              | (go_at_call 42; (with_reducible refine (HMY.out B d _ HC5.out HD5.out).mono ?_); rintro e w6 ⟨rfl, hb⟩; have HB6 := Aside0.mk (below_then HB5.out HB5.out.size hb); clear hb)
              | fail)
            go_ret
            exact ⟨rfl, HB6.out⟩
      · have he : frames b = pre := by
          have h1 := HF.out
          have h2 := congrArg List.length h1
          rw [HM.out, List.length_append, HP.out] at h2
          have h3 : (fra b q at_).length = 0 := by omega
          rw [h1, List.eq_nil_of_length_eq_zero h3, List.append_nil]
        obtain ⟨rfl, rfl⟩ : i = L ∧ at_ = U := by
          have h2 : pref rs = rs.take i := while_at okr rs i HSI.out (by rw [HMR.out]; exact hi) (fun h => by rw [HMR.out] at h; omega)
          have h3 := HLL.out
          have h4 := HUU.out
          rw [h2] at h3 h4
          rw [HUI.out] at h4
          rw [List.length_map, List.length_take, HMR.out] at h3
          omega
        have hnl : ¬ (i : Int) < (M : Int) := by omega
        clear he
        go_wp2_with fail
        go_ret
        exact ⟨rfl, HBW.out⟩
end Go.Proofs.YteapdhfeddgjbaaDoor.Dg
end
section
/- RecallAll over what comes in. -/
namespace Go.Proofs.YteapdhfeddgjbaaDoor.Dg
set_option linter.unusedVariables false
open Go.RowKit Go.Proofs.YteapdhfeddgjbaaDoor.PDj Go.Proofs.YteapdhfeddgjbaaDoor.Num Go.Proofs.YteapdhfeddgjbaaDoorW Go.Proofs.YteapdhfeddgjbaaDoorW.PrintWords Go.Proofs.YteapdhfeddgjbaaDoor.Opn

theorem recall_all_run (A0 : Option Addr) (c0 : Nat) (b : List Int) (W : World) (hT : Tab W 2 KK)
    (h0 : Kd.C (Kd.int .u8) W A0 b.length b) (y0 : b.length ≤ c0) (m0 : b.length ≤ maxLen) (w0 : Bt b) :
    Calls Tryd.prog 9 #[.slice A0 b.length c0] W fun e W' => e = .returned (.bool true) ∧ Below W.heap.size W W' :=
  recall_all_walk A0 b.length c0 b W rfl y0 w0 h0 hT
end Go.Proofs.YteapdhfeddgjbaaDoor.Dg
end
