/- Several texts made one. -/
import Derived.Test.YteapdhfeddgjbaaDoorVDgXa
import Derived.Test.YteapdhfeddgjbaaDoorVDgXd
import Derived.Test.YteapdhfeddgjbaaDoorVWNEv
import Derived.Test.YteapdhfeddgjbaaDoorVDgXb
section
/- recall: All. -/
namespace Go.Proofs.YteapdhfeddgjbaaDoor.Dg
set_option linter.unusedVariables false
set_option linter.unusedSimpArgs false
open Go.RowKit Go.Proofs.YteapdhfeddgjbaaDoor.PDj Go.Proofs.YteapdhfeddgjbaaDoor.Num Go.Proofs.YteapdhfeddgjbaaDoorW Go.Proofs.YteapdhfeddgjbaaDoorW.PrintWords Go.Proofs.YteapdhfeddgjbaaDoorW.PrintLast Go.Proofs.YteapdhfeddgjbaaDoorW.PrintMore
open Go.Proofs.YteapdhfeddgjbaaDoor.Wire (TakeTold NewB rdev rdq mayb rtake_ok rtake_no rtake_bad)

abbrev Evt := Int × Int × Int × List Int
def evK : Kd Evt := Kd.pair (Kd.int .i64) (Kd.pair (Kd.int .i64) (Kd.pair (Kd.int .i64) (Kd.slice 5 (Kd.int .u8))))
/-- May the event of bytes be? -/
def okr (r : List Int) : Bool := decide (rdq r < 0) && mayb (rdev r).1.1 (rdev r).1.2.1 (rdev r).1.2.2.1 (rdev r).1.2.2.2
def evr (r : List Int) : Evt := (rdev r).1
theorem take_no_calls (A : Option Addr) (n c : Nat) (hn : n ≤ 1000000) (hc : n ≤ c) (l : List Int) (hl : l.length = n) (hby : Bt l) (w : World) (hr : Kd.C (Kd.int .u8) w A l.length l) (h : okr l = false) :
    Calls Tryd.prog 45 #[.slice A n c] w fun e w' => ∃ p err : Int, ((err == 0) = false) ∧ TakeTold w 0 0 0 [] p err e w' := by
  by_cases hq : 0 ≤ rdq l
  · exact (rtake_bad A n c hn hc l hl hby w hr hq).mono fun e w' h => ⟨_, 20, rfl, h⟩
  · have hm : mayb (rdev l).1.1 (rdev l).1.2.1 (rdev l).1.2.2.1 (rdev l).1.2.2.2 = false := by
      unfold okr at h
      rw [decide_eq_true (by omega), Bool.true_and] at h
      exact h
    exact (rtake_no A n c hn hc l hl hby w hr (by omega) hm).mono fun e w' h => ⟨_, 2, rfl, h⟩
theorem take_ok_calls (A : Option Addr) (n c : Nat) (hn : n ≤ 1000000) (hc : n ≤ c) (l : List Int) (hl : l.length = n) (hby : Bt l) (w : World) (hr : Kd.C (Kd.int .u8) w A l.length l) (h : okr l = true) :
    Calls Tryd.prog 45 #[.slice A n c] w (TakeTold w (evr l).1 (evr l).2.1 (evr l).2.2.1 (evr l).2.2.2 0 0) := by
  unfold okr at h
  rw [Bool.and_eq_true] at h
  exact rtake_ok A n c hn hc l hl hby w hr (of_decide_eq_true h.1) h.2
theorem C_block {W W' : World} {B : Option Addr} {l : List Int} (h : Kd.C (Kd.int .u8) W B l.length l) (hb : ∀ ad, B = some ad → 0 < l.length → W'.heap[ad.block]? = W.heap[ad.block]?) : Kd.C (Kd.int .u8) W' B l.length l := by
  refine ⟨h.1, h.2.1, fun hn => ?_⟩
  obtain ⟨ad, e, hc⟩ := h.2.2 hn
  refine ⟨ad, e, fun j q hq => ?_⟩
  obtain ⟨c, h1, h2, h3⟩ := hc j q hq
  refine ⟨c, h1, h2, fun i u hu => ?_⟩
  rw [← h3 i u hu]
  have hbk : ∀ m, (ad.add m).block = ad.block := fun m => by unfold Addr.add; split <;> rfl
  unfold World.cell?
  rw [hbk, hb ad e hn]
theorem ev_FK {W : World} {B : Option Addr} {d : Nat} {l : List Int} {k now fr : Int} (hl : l.length ≤ d) (hC : Kd.C (Kd.int .u8) W B l.length l) (okp : Nat → Prop) (hB : ∀ ad, B = some ad → 0 < l.length → okp ad.block) :
    Kd.FK evK W okp (k, now, fr, l) [.int .i64 k, .int .i64 now, .int .i64 fr, .slice B l.length d] := fun W' hW => by
  refine ⟨[_], [_, _, _], rfl, rfl, [_], [_, _], rfl, rfl, [_], [_], rfl, rfl, B, d, rfl, hl, C_block hC fun ad e hp => hW _ (hB ad e hp) ?_⟩
  have hp' : 0 < l.length := hp
  obtain ⟨ad', e', hc⟩ := Kd.at_int hC 0 (Int.le_refl 0) (by omega)
  rw [e] at e'
  cases e'
  rw [show ((0 : Int).toNat) = 0 from rfl, ad_add0] at hc
  exact World.block_lt_of_cell? _ _ hc
theorem take_getD' (rs : List (List Int)) (i : Nat) (h : i < rs.length) : rs.take (i + 1) = rs.take i ++ [rs.getD i []] := by
  rw [List.take_succ_eq_append_getElem h, List.getD_eq_getElem?_getD, List.getElem?_eq_getElem h]; rfl
theorem mem_getD' (rs : List (List Int)) (i : Nat) (h : i < rs.length) : rs.getD i [] ∈ rs := by
  rw [List.getD_eq_getElem?_getD, List.getElem?_eq_getElem h]; exact List.getElem_mem h
theorem while_at (p : List Int → Bool) : ∀ (rs : List (List Int)) (i : Nat), (∀ r ∈ rs.take i, p r = true) → i ≤ rs.length → (i < rs.length → p (rs.getD i []) = false) → rs.takeWhile p = rs.take i
  | [], i, _, _, _ => by simp
  | r :: rs, 0, _, _, h => by
    have := h (by simp)
    simp at this
    simp [List.takeWhile_cons, this]
  | r :: rs, i + 1, h1, h2, h3 => by
    rw [List.takeWhile_cons, h1 r (by simp), if_pos rfl, List.take_succ_cons, while_at p rs i (fun x hx => h1 x (by simp [hx])) (by simpa using h2) (fun hi => by have := h3 (by simpa using hi); simpa using this)]
theorem info85 : (Tryd.prog.info? 85).map (fun i => (i.zero, i.size, i.bytes)) = some (some (.agg #[.int .i64 0, .int .i64 0, .int .i64 0, .slice none 0 0]), 4, 48) := by kernel_rfl
/-- The records ahead of the first that is no event. -/
def pref (rs : List (List Int)) : List (List Int) := rs.takeWhile okr
def usedOf (rs : List (List Int)) : Nat := (rs.map fun r => 12 + r.length).sum
theorem usedOf_snoc (rs : List (List Int)) (r : List Int) : usedOf (rs ++ [r]) = usedOf rs + (12 + r.length) := by unfold usedOf; simp
set_option maxHeartbeats 6400000 in
set_option maxRecDepth 100000 in
theorem all_calls (A : Option Addr) (N c : Nat) (b : List Int) (hN : b.length = N) (hb : Bt b) (hN1 : N ≤ 100000) (hc : N ≤ c) (hu : ∀ i, usedOf ((recsOf b).take i) ≤ 100000) (hbr : ∀ r ∈ recsOf b, Bt r ∧ r.length ≤ 100000) (hM : (recsOf b).length ≤ 100000) (w : World) (hC : Kd.C (Kd.int .u8) w A b.length b) (hK : Tab w 2 KK) :
    Calls Tryd.prog 40 #[.slice A N c] w fun e w' => ∃ v, e = .returned (.tuple #[v, .int .i64 ((usedOf (pref (recsOf b)) : Nat) : Int)]) ∧ Kd.N evK 85 w' w.heap.size (fun _ => True) v ((pref (recsOf b)).map evr) ∧ Below w.heap.size w w' := by
  have HSC := Aside0.mk (scan_calls A N c b hN hb (by omega) hc w hC hK)
  obtain ⟨rs, hrs⟩ : ∃ rs, recsOf b = rs := ⟨_, rfl⟩
  rw [hrs] at HSC hu hbr hM ⊢
  obtain ⟨U, hU⟩ : ∃ U : Nat, (ends2 (endsOf b)).2 = U := ⟨_, rfl⟩
  rw [hU] at HSC
  obtain ⟨M, hMM⟩ : ∃ M, rs.length = M := ⟨_, rfl⟩
  have HU := Aside0.mk hu
  have HBR := Aside0.mk hbr
  have HM := Aside0.mk hMM
  rw [hMM] at hM
  have HM5 := Aside0.mk hM
  have HK := Aside0.mk hK
  clear hN hb hN1 hc hu hbr hM hC hK hrs hU hMM
  go_enter Tryd.func40, Tryd.ntmps40
  go_wp2
  go_step3
  go_wp2_with (first
    | (go_at_call 15; (with_reducible refine HSC.out.mono ?_); rintro e w2 ⟨v2, rfl, ho, hb⟩; obtain ⟨A2, c2, e2⟩ := Kd.R_slice ho; subst e2; rw [HM.out] at ho ⊢; have HL2 := Aside0.mk (Kd.R_reads' ho).2.2; have HB2 := Aside0.mk hb; clear ho hb)
    | fail)
  go_step3
  go_wp2
  go_loopw [6, 7, 20] (fun v6 v7 v20 wr => ∃ i : Nat, v7 = .int .i64 ((usedOf (rs.take i) : Nat) : Int) ∧ v20 = .int .i64 (i : Int) ∧ Aside0 (i ≤ M) ∧ Aside0 (∀ r ∈ rs.take i, okr r = true) ∧ Aside0 (Kd.N evK 85 wr w2.heap.size (fun _ => True) v6 ((rs.take i).map evr)) ∧ Aside0 (Below w2.heap.size w2 wr))
    (fun _ _ v20 _ => M - (intOf v20).toNat)
  case atStart => exact ⟨0, rfl, rfl, ⟨Nat.zero_le _⟩, ⟨by simp⟩, ⟨Kd.N_nil _ _ _ _ _⟩, ⟨Below.refl _ _⟩⟩
  case round =>
    obtain ⟨i, rfl, rfl, HI, HS, HR, HB⟩ := hrel
    have HBW := Aside0.mk (below_then HB2.out HB2.out.size HB.out)
    have hi := HI.out
    have hM5 := HM5.out
    by_cases hlt : i < M
    · have hlt' : (i : Int) < (M : Int) := by omega
      obtain ⟨ad0, A3, c3, rfl, hc3w, hl3, hC3w⟩ := at_row HL2.out i (by rw [HM.out]; exact hlt)
      have hbr := HBR.out _ (mem_getD' rs i (by rw [HM.out]; exact hlt))
      have htk := take_getD' rs i (by rw [HM.out]; exact hlt)
      have HWA := Aside0.mk (while_at okr rs i HS.out (by rw [HM.out]; exact hi))
      obtain ⟨r, hr⟩ : ∃ r, rs.getD i [] = r := ⟨_, rfl⟩
      rw [hr] at hc3w hl3 hC3w hbr htk HWA
      obtain ⟨n, hn⟩ : ∃ n, r.length = n := ⟨_, rfl⟩
      rw [hn] at hc3w hl3
      have hc3 := pw_cell_below HB.out hc3w
      have hC3 := Kd.C_below hC3w HB.out
      have hn5 : n ≤ 100000 := by rw [← hn]; exact hbr.2
      cases hok : okr r with
      | false =>
        have HTK := Aside0.mk (take_no_calls A3 n c3 (by omega) hl3 r hn hbr.1 wr hC3 hok)
        have HPF : Aside0 (pref rs = rs.take i) := ⟨HWA.out (fun _ => hok)⟩
        clear hr hn hbr htk hl3 hC3 hok hn5 HWA hC3w hc3w
        go_wp2_with (first
          | (go_at_call 45; (with_reducible refine HTK.out.mono ?_); rintro e w4 ⟨p, err, herr, B, d, rfl, -, -, hb⟩; have HB4 := Aside0.mk (below_then HBW.out HBW.out.size hb); have HR4 := Aside0.mk (Kd.N_below HR.out hb); clear hb)
          | fail)
        try rw [Exit.noGoto_ret]
        go_ret2
        exact ⟨u6, by rw [HPF.out]; rfl, by rw [HPF.out]; exact Kd.N_lower (Kd.N_alloc HR4.out _) HB2.out.size, below_alloc HB4.out _⟩
      | true =>
        have HTK := Aside0.mk (take_ok_calls A3 n c3 (by omega) hl3 r hn hbr.1 wr hC3 hok)
        have HRN : Aside0 (Bt r ∧ r.length = n ∧ n ≤ c3 ∧ Kd.C (Kd.int .u8) w2 A3 r.length r) := ⟨⟨hbr.1, hn, hl3, hC3w⟩⟩
        have HTT := Aside0.mk htk
        have HS2 : Aside0 (∀ x ∈ rs.take (i + 1), okr x = true) := ⟨by
          rw [htk]
          intro x hx
          rcases List.mem_append.1 hx with hx | hx
          · exact HS.out x hx
          · rw [List.mem_singleton.1 hx]; exact hok⟩
        have hu1 := HU.out i
        have hu2 := usedOf_snoc (rs.take i) r
        rw [← htk, hn] at hu2
        have HUS := Aside0.mk hu2
        obtain ⟨ev, hev⟩ : ∃ ev, evr r = ev := ⟨_, rfl⟩
        have HEV : Aside0 ((rs.take (i + 1)).map evr = (rs.take i).map evr ++ [ev]) := ⟨by rw [htk, List.map_append, List.map_cons, List.map_nil, hev]⟩
        have HLEN : Aside0 (((rs.take i).map evr).length = i) := ⟨by rw [List.length_map, List.length_take, HM.out]; omega⟩
        rw [hev] at HTK
        obtain ⟨k, now, fr, l⟩ := ev
        obtain ⟨B6, d6, e6⟩ := Kd.N_slice HR.out
        rw [HLEN.out] at e6
        subst e6
        generalize usedOf (rs.take i) = u at hu1 HUS ⊢
        clear hr hn hbr htk hl3 hC3 hok HWA hC3w hc3w hev hu2
        go_wp2_with (first
          | (go_at_call 45; (with_reducible refine HTK.out.mono ?_); rintro e w4 ⟨B, d, rfl, hd, hC, hb⟩; have HB4 := Aside0.mk (below_then HB.out HB.out.size hb); have HR4 := Aside0.mk (Kd.N_below HR.out hb)
             have HFK := Aside0.mk (ev_FK (k := k) (now := now) (fr := fr) hd.1 (Kd.C_below hC (below_alloc (Below.refl w4.heap.size w4) (.cells #[.int .i64 k, .int .i64 now, .int .i64 fr, .slice B l.length d] 85))) (fun x => some x ≠ (Value.slice B6 i d6).ownBlock) (fun ad e _ he => by have h1 := hd.2 ad e; have h2 := Kd.N_lt HR.out _ he.symm; omega))
             have HSZ : Aside0 (w2.heap.size ≤ w4.heap.size) := ⟨HB4.out.size⟩
             clear hb hd hC)
          | (at_builtin; refine Kd.N_append evK (w0 := w2) (W := w4.alloc (.cells #[.int .i64 k, .int .i64 now, .int .i64 fr, .slice B l.length d] 85)) w2.heap.size rfl _ _ 81 85 (.agg #[.int .i64 0, .int .i64 0, .int .i64 0, .slice none 0 0]) 48 rfl Tryd.underlying81 info85 rfl (by decide) (by decide) (.slice B6 i d6) ((rs.take i).map evr) (k, now, fr, l) [.int .i64 k, .int .i64 now, .int .i64 fr, .slice B l.length d] (fun _ => True) _ rfl (by show Value.slice (some ⟨w4.heap.size + 1, 0, none⟩) 1 1 = _; simp) HFK.out (fun x hx => ⟨trivial, hx⟩) (fun _ _ => trivial) (Kd.N_alloc HR4.out _) (below_alloc HB4.out _) (by have := HSZ.out; simp; omega) (by rw [HLEN.out]; have := HM5.out; omega) ?_; intro v5 w5 hN5 hb5 hg5 hat5; have HN5 := Aside0.mk hN5; have HB5 := Aside0.mk hb5; have HFR := Aside0.mk (frame_calls A3 n c3 r HRN.out.2.1 (by omega) HRN.out.2.2.1 HRN.out.1 w5 (Kd.C_below HRN.out.2.2.2 hb5) (HK.out.below (below_then HB2.out HB2.out.size hb5))); clear hN5 hb5 hg5 hat5)
          | (go_at_call 12; (with_reducible refine HFR.out.mono ?_); rintro e w6 ⟨v6, rfl, ho6, hb6⟩; obtain ⟨A6, c6, e6⟩ := Kd.R_slice ho6; subst e6; rw [frm_len, HRN.out.2.1]; have HB6 := Aside0.mk (below_then HB5.out HB5.out.size hb6); have HN6 := Aside0.mk (Kd.N_below HN5.out hb6); clear ho6 hb6)
          | fail)
        exact ⟨⟨i + 1, by rw [HUS.out]; rfl, rfl, ⟨hlt⟩, HS2, ⟨by rw [HEV.out]; exact HN6.out⟩, HB6⟩, meas_nat hlt⟩
    · have he : i = M := by omega
      subst he
      have HPF : Aside0 (pref rs = rs.take i) := ⟨while_at okr rs i HS.out (by rw [HM.out]; exact Nat.le_refl _) (fun h => by rw [HM.out] at h; omega)⟩
      go_wp2
      try rw [Exit.noGoto_ret]
      go_ret2
      exact ⟨u6, by rw [HPF.out]; rfl, by rw [HPF.out]; exact Kd.N_lower HR.out HB2.out.size, HBW.out⟩
end Go.Proofs.YteapdhfeddgjbaaDoor.Dg
end
section
/- recall: any journal has the document's events: the walk. -/
namespace Go.Proofs.YteapdhfeddgjbaaDoor.Dg
set_option linter.unusedVariables false
set_option linter.unusedSimpArgs false
open Go.RowKit Go.Proofs.YteapdhfeddgjbaaDoor.PDj Go.Proofs.YteapdhfeddgjbaaDoor.Num Go.Proofs.YteapdhfeddgjbaaDoorW Go.Proofs.YteapdhfeddgjbaaDoorW.PrintWords Go.Proofs.YteapdhfeddgjbaaDoorW.PrintLast Go.Proofs.YteapdhfeddgjbaaDoorW.PrintMore
open Go.Proofs.YteapdhfeddgjbaaDoor.Wire (TakeTold NewB rdev rdq mayb rtake_ok rtake_no rtake_bad qtake_calls esame_calls recall_awake_calls refmay_is EvAt)

theorem usedOf_cons (r : List Int) (rs : List (List Int)) : usedOf (r :: rs) = 12 + r.length + usedOf rs := by unfold usedOf; simp
theorem fra_used (b : List Int) : ∀ k a, a ≤ b.length → a + usedOf ((fra b k a).map (·.2)) ≤ b.length := by
  intro k
  induction k with
  | zero => intro a h; exact h
  | succ k ih =>
    intro a h
    cases e : nxt (b.drop a) with
    | none => rw [fra_none e]; exact h
    | some n =>
      rw [fra_some e, List.map_cons, usedOf_cons]
      have hle := (nxt_le e).1
      rw [List.length_drop] at hle
      have h2 := ih (a + (12 + n)) (by omega)
      have h3 : (((b.drop a).drop 12).take n).length = n := by rw [List.length_take, List.length_drop, List.length_drop]; omega
      rw [h3]
      omega
theorem usedOf_take : ∀ (rs : List (List Int)) (i : Nat), usedOf (rs.take i) ≤ usedOf rs
  | [], i => by simp
  | r :: rs, 0 => by rw [List.take_zero]; exact Nat.zero_le _
  | r :: rs, i + 1 => by rw [List.take_succ_cons, usedOf_cons, usedOf_cons]; have := usedOf_take rs i; omega
theorem used_all (b : List Int) (i : Nat) : usedOf ((recsOf b).take i) ≤ b.length := by
  have h := fra_used b (b.length + 1) 0 (Nat.zero_le _)
  have h2 := usedOf_take (recsOf b) i
  unfold recsOf frames at h2 ⊢
  omega
theorem fra_Bt (b : List Int) (hb : Bt b) : ∀ k a, ∀ r ∈ (fra b k a).map (·.2), Bt r := by
  intro k
  induction k with
  | zero => intro a r h; simp [fra] at h
  | succ k ih =>
    intro a r h
    cases e : nxt (b.drop a) with
    | none => rw [fra_none e] at h; simp at h
    | some n =>
      rw [fra_some e, List.map_cons] at h
      rcases List.mem_cons.1 h with h | h
      · rw [h]; intro x hx; exact hb x (List.mem_of_mem_drop (List.mem_of_mem_drop (List.mem_of_mem_take hx)))
      · exact ih _ r h
theorem recs_facts (b : List Int) (hb : Bt b) : ∀ r ∈ recsOf b, Bt r ∧ r.length ≤ b.length := fun r hr => by
  refine ⟨fra_Bt b hb _ _ r hr, ?_⟩
  obtain ⟨p, hp, e⟩ := List.mem_map.1 hr
  rw [← e]
  exact fra_rec b _ _ p hp
theorem rdev_len' (l : List Int) : (rdev l).1.2.2.2.length ≤ l.length := by
  unfold rdev
  split
  · exact Nat.zero_le _
  · split
    · show ((Go.Proofs.YteapdhfeddgjbaaDoor.Wire.bstep _ _ l _ _).1).length ≤ l.length
      unfold Go.Proofs.YteapdhfeddgjbaaDoor.Wire.bstep
      split
      · exact Nat.zero_le _
      · split
        · exact Nat.zero_le _
        · show ((l.drop _).take _).length ≤ l.length
          rw [List.length_take, List.length_drop]; omega
    · exact Nat.zero_le _
end Go.Proofs.YteapdhfeddgjbaaDoor.Dg
end
section
/- recall: what is written is read, what is read has these bytes: plain. -/
namespace Go.Proofs.YteapdhfeddgjbaaDoor.Wire
set_option linter.unusedVariables false
set_option linter.unusedSimpArgs false
open Go.RowKit Go.Proofs.YteapdhfeddgjbaaDoor.PDj Go.Proofs.YteapdhfeddgjbaaDoor.Num Go.Proofs.YteapdhfeddgjbaaDoorW
open Go.Proofs.YteapdhfeddgjbaaDoor.Dg (okr evr)

theorem bes_snoc : ∀ (m : Nat) (v x : Int), 0 ≤ x → x < 256 → bes (m + 1) (256 * v + x) = bes m v ++ [x]
  | 0, v, x, h0, h1 => by
    rw [bes, bes, bes, Int.pow_zero, Int.ediv_one, List.nil_append]
    congr 1
    omega
  | m + 1, v, x, h0, h1 => by
    have e : (256 * v + x) / 256 ^ (m + 1) = v / 256 ^ m := by
      rw [Int.pow_succ, Int.mul_comm (256 ^ m) 256, ← Int.ediv_ediv_of_nonneg (by omega)]
      congr 1
      omega
    rw [bes, bes_snoc m v x h0 h1, bes, List.cons_append, e]
theorem bes_bv : ∀ (n : Nat) (l : List Int), l.length = n → By l → bes n (bv l : Int) = l
  | 0, l, h, _ => by rw [List.eq_nil_of_length_eq_zero h]; rfl
  | n + 1, l, h, hb => by
    have hne : l ≠ [] := fun e => by rw [e] at h; simp at h
    have hs := List.dropLast_concat_getLast hne
    obtain ⟨d, hd⟩ : ∃ d, l.dropLast = d := ⟨_, rfl⟩
    obtain ⟨x, hx⟩ : ∃ x, l.getLast hne = x := ⟨_, rfl⟩
    rw [hd, hx] at hs
    have hbx : 0 ≤ x ∧ x < 256 := hb x (by rw [← hs]; simp)
    have hdl : d.length = n := by rw [← hd, List.length_dropLast]; omega
    rw [← hs, bv_snoc]
    have e : ((256 * bv d + x.toNat : Nat) : Int) = 256 * (bv d : Int) + x := by omega
    rw [e, bes_snoc n _ x hbx.1 hbx.2, bes_bv n d hdl (fun y hy => hb y (by rw [← hs]; simp [hy]))]
theorem bv_bes (N : Nat) (x : Int) (h0 : 0 ≤ x) (h1 : x < 256 ^ N) : (bv (bes N x) : Int) = x := by
  obtain ⟨v, rfl⟩ : ∃ v : Nat, x = (v : Int) := ⟨x.toNat, by omega⟩
  rw [bes_be, bv_be N v (by have : ((v : Nat) : Int) < ((256 ^ N : Nat) : Int) := by rw [Int.natCast_pow]; exact h1
                            exact Int.ofNat_lt.1 this)]
theorem step_on {N : Nat} {lim x : Int} {L p r : List Int} {at_ : Nat} {bad : Int} (hL : L = p ++ (bes N x ++ r)) (hp : p.length = at_) (h0 : 0 ≤ x) (h1 : x < 256 ^ N) (h2 : x ≤ lim) (hb : bad < 0) : step N lim L at_ bad = (x, at_ + N, bad) := by
  have ht : (L.drop at_).take N = bes N x := by
    rw [hL, ← hp, List.drop_left, List.take_append_of_le_length (by rw [bes_len]; exact Nat.le_refl _), List.take_of_length_le (by rw [bes_len]; exact Nat.le_refl _)]
  rw [step_ok hb (by rw [hL, List.length_append, List.length_append, bes_len, hp]; omega) (by rw [ht, bv_bes N x h0 h1]; exact h2), ht, bv_bes N x h0 h1]
theorem put_read (k now fr : Int) (l : List Int) (hm : mayb k now fr l = true) (hl : l.length ≤ 1000000) : okr (putb k now fr l) = true ∧ evr (putb k now fr l) = (k, now, fr, l) := by
  have h := of_decide_eq_true hm
  rcases h with ⟨rfl, h1, h2, rfl, h4⟩ | ⟨rfl, h1, h2, h3, rfl⟩
  · have hl0 : l = [] := List.eq_nil_of_length_eq_zero h4
    subst hl0
    have hp : putb 1 now 0 [] = [] ++ (bes 1 1 ++ bes 8 now) := by
      unfold putb
      rw [if_pos rfl, if_neg (by omega)]; rfl
    obtain ⟨L, hL⟩ : ∃ L, putb 1 now 0 [] = L := ⟨_, rfl⟩
    rw [hL] at hp ⊢
    have s1 : step 1 255 L 0 (-1) = (1, 1, -1) := step_on hp rfl (by omega) (by omega) (by omega) (by omega)
    have s2 : step 8 9223372036854775807 L 1 (-1) = (now, 9, -1) := step_on (p := bes 1 1) (r := []) (by rw [hp, List.append_nil, List.nil_append]) rfl h1 (by omega) (by omega) (by omega)
    have hr : rdev L = ((1, now, 0, []), 9, -1) := by
      unfold rdev
      rw [s1]
      dsimp only
      rw [if_pos rfl, s2]
    have hlen : L.length = 9 := by rw [hp, List.length_append, List.length_append, bes_len, bes_len]; rfl
    refine ⟨?_, by unfold evr; rw [hr]⟩
    unfold okr rdq
    rw [hr]
    dsimp only
    rw [hlen, hm, Bool.and_true]
    rfl
  · have hp : putb 2 0 fr l = [] ++ (bes 1 2 ++ (bes 8 fr ++ (bes 4 (l.length : Int) ++ l))) := by
      unfold putb
      rw [if_neg (by omega), if_neg (by omega)]; rfl
    obtain ⟨L, hL⟩ : ∃ L, putb 2 0 fr l = L := ⟨_, rfl⟩
    rw [hL] at hp ⊢
    have s1 : step 1 255 L 0 (-1) = (2, 1, -1) := step_on hp rfl (by omega) (by omega) (by omega) (by omega)
    have s2 : step 8 9223372036854775807 L 1 (-1) = (fr, 9, -1) := step_on (p := bes 1 2) (r := bes 4 (l.length : Int) ++ l) (by rw [hp, List.nil_append]) rfl h1 (by omega) (by omega) (by omega)
    have s3 : step 4 1048576 L 9 (-1) = ((l.length : Int), 13, -1) := step_on (p := bes 1 2 ++ bes 8 fr) (r := l) (by rw [hp, List.nil_append, List.append_assoc]) (by rw [List.length_append, bes_len, bes_len]) (by omega) (by omega) (by omega) (by omega)
    have hlen : L.length = 13 + l.length := by rw [hp]; simp only [List.length_append, bes_len, List.length_nil]; omega
    have hd : L.drop 13 = l := by
      rw [hp, List.nil_append, ← List.append_assoc, ← List.append_assoc]
      exact List.drop_left' (by simp only [List.length_append, bes_len])
    have s4 : bstep 0 1048576 L 9 (-1) = (l, 13 + l.length, -1) := by
      unfold bstep
      rw [s3]
      dsimp only
      rw [if_neg (by omega), if_neg (by omega), hd, Int.toNat_natCast, List.take_of_length_le (Nat.le_refl _)]
    have hr : rdev L = ((2, 0, fr, l), 13 + l.length, -1) := by
      unfold rdev
      rw [s1]
      dsimp only
      rw [if_neg (by omega), if_pos rfl, s2]
      dsimp only
      rw [s4]
    refine ⟨?_, by unfold evr; rw [hr]⟩
    unfold okr rdq
    rw [hr]
    dsimp only
    rw [hm, Bool.and_true, decide_eq_true_eq]
    unfold qfin
    rw [if_neg (by omega), if_neg (by omega)]
    omega
theorem step_bad_le {N : Nat} {lim : Int} {l : List Int} {at_ : Nat} {bad : Int} (h : at_ ≤ l.length) (hb : bad ≤ l.length) : (step N lim l at_ bad).2.2 ≤ (l.length : Int) := by
  unfold step
  split
  · exact hb
  · split
    · show (at_ : Int) ≤ _; omega
    · split
      · show (at_ : Int) ≤ _; omega
      · exact hb
theorem bstep_le {m M : Int} {l : List Int} {at_ : Nat} {bad : Int} (h : at_ ≤ l.length) (hb : bad ≤ l.length) : (bstep m M l at_ bad).2.1 ≤ l.length ∧ (bstep m M l at_ bad).2.2 ≤ (l.length : Int) := by
  have h1 := step_at (N := 4) (lim := M) (bad := bad) h
  have h2 := step_bad_le (N := 4) (lim := M) h hb
  unfold bstep
  split
  · exact ⟨h1, h2⟩
  · split
    · exact ⟨h, by show (at_ : Int) ≤ _; omega⟩
    · rename_i h3 h4
      refine ⟨?_, h2⟩
      show (step 4 M l at_ bad).2.1 + (step 4 M l at_ bad).1.toNat ≤ l.length
      omega
theorem rdq_le (b : List Int) : rdq b ≤ (b.length : Int) := by
  have a1 := step_at (N := 1) (lim := 255) (bad := (-1 : Int)) (Nat.zero_le b.length)
  have a2 := step_bad_le (N := 1) (lim := 255) (bad := (-1 : Int)) (Nat.zero_le b.length) (by omega)
  have b1 := step_at (N := 8) (lim := 9223372036854775807) (bad := (step 1 255 b 0 (-1)).2.2) a1
  have b2 := step_bad_le (N := 8) (lim := 9223372036854775807) a1 a2
  have c := bstep_le (m := 0) (M := 1048576) b1 b2
  have key : ∀ (n a : Nat) (x : Int), a ≤ n → x ≤ (n : Int) → qfin n a x ≤ (n : Int) := fun n a x h1 h2 => by
    unfold qfin
    split
    · exact h2
    · split <;> omega
  unfold rdq rdev
  split
  · exact key _ _ _ b1 b2
  · split
    · exact key _ _ _ c.1 c.2
    · exact key _ _ _ a1 a2
theorem read_put (b : List Int) (hb : By b) (h : okr b = true) : putb (evr b).1 (evr b).2.1 (evr b).2.2.1 (evr b).2.2.2 = b := by
  unfold okr at h
  rw [Bool.and_eq_true] at h
  have hq := of_decide_eq_true h.1
  have hm := of_decide_eq_true h.2
  clear h
  have fin0 : ∀ (n a : Nat) (x : Int), qfin n a x < 0 → x < 0 ∧ n ≤ a := fun n a x h => by
    unfold qfin at h
    split at h
    · omega
    · split at h <;> omega
  have bt : ∀ i n, By ((b.drop i).take n) := fun i n x hx => hb x (List.mem_of_mem_drop (List.mem_of_mem_take hx))
  have bb : ∀ i n, i + n ≤ b.length → bes n (bv ((b.drop i).take n) : Int) = (b.drop i).take n := fun i n h => bes_bv n _ (by rw [List.length_take, List.length_drop]; omega) (bt i n)
  unfold evr
  unfold rdq at hq
  revert hq hm
  unfold rdev
  by_cases k1 : (step 1 255 b 0 (-1)).1 = 1
  · rw [if_pos k1]
    dsimp only
    intro hq hm
    obtain ⟨q1, q2⟩ := fin0 _ _ _ hq
    obtain ⟨r1, r2, r3, r4, r5, r6⟩ := step_at' q1
    obtain ⟨t1, t2, t3, t4, t5, t6⟩ := step_at' r5
    rw [r2, t2] at q2
    rw [t2] at r1
    unfold putb
    rw [if_pos rfl, if_neg (by omega), r4, t2]
    have e1 : bes 1 (1 % 256) = (b.drop 0).take 1 := by
      rw [← bb 0 1 t1, ← t4, k1]; rfl
    rw [e1, bb (0 + 1) 8 r1, List.drop_zero]
    have e2 : (b.drop 1).take 8 = b.drop 1 := List.take_of_length_le (by rw [List.length_drop]; omega)
    show b.take 1 ++ (b.drop 1).take 8 = b
    rw [e2, List.take_append_drop]
  · rw [if_neg k1]
    by_cases k2 : (step 1 255 b 0 (-1)).1 = 2
    · rw [if_pos k2]
      dsimp only
      intro hq hm
      obtain ⟨q1, q2⟩ := fin0 _ _ _ hq
      clear hq
      generalize hs1 : step 1 255 b 0 (-1) = s1 at *
      generalize hs2 : step 8 9223372036854775807 b s1.2.1 s1.2.2 = s2 at *
      have hb4 : (step 4 1048576 b s2.2.1 s2.2.2).2.2 < 0 ∧ ¬ ((step 4 1048576 b s2.2.1 s2.2.2).1 < 0 ∨ (b.length : Int) - ((step 4 1048576 b s2.2.1 s2.2.2).2.1 : Int) < (step 4 1048576 b s2.2.1 s2.2.2).1) := by
        unfold bstep at q1
        split at q1
        · rename_i h0; exact absurd q1 (by show ¬ (step 4 1048576 b s2.2.1 s2.2.2).2.2 < 0; omega)
        · split at q1
          · exact absurd q1 (by show ¬ (s2.2.1 : Int) < 0; omega)
          · rename_i h0 h1; exact ⟨by omega, h1⟩
      have hbs : bstep 0 1048576 b s2.2.1 s2.2.2 = ((b.drop (step 4 1048576 b s2.2.1 s2.2.2).2.1).take (step 4 1048576 b s2.2.1 s2.2.2).1.toNat, (step 4 1048576 b s2.2.1 s2.2.2).2.1 + (step 4 1048576 b s2.2.1 s2.2.2).1.toNat, (step 4 1048576 b s2.2.1 s2.2.2).2.2) := by
        unfold bstep
        rw [if_neg (by omega), if_neg hb4.2]
      obtain ⟨u1, u2, u3, u4, u5, u6⟩ := step_at' hb4.1
      have v5 : (step 8 9223372036854775807 b s1.2.1 s1.2.2).2.2 < 0 := by rw [hs2]; exact u5
      obtain ⟨r1, r2, r3, r4, r5, r6⟩ := step_at' v5
      have v6 : (step 1 255 b 0 (-1)).2.2 < 0 := by rw [hs1]; exact r5
      obtain ⟨t1, t2, t3, t4, t5, t6⟩ := step_at' v6
      rw [hs1] at t2 t3 t4
      rw [hs2] at r2 r3 r4
      rw [hbs] at q2 ⊢
      dsimp only at q2 ⊢
      generalize hs3 : step 4 1048576 b s2.2.1 s2.2.2 = s3 at *
      have hn := hb4.2
      have g2 : s2.2.1 = 0 + 1 + 8 := by rw [r2, t2]
      rw [t2] at r1 r4
      rw [g2] at u1 u2 u4
      rw [u2] at q2 hn ⊢
      obtain ⟨x, hx3⟩ : ∃ x, s3.1 = x := ⟨_, rfl⟩
      rw [hx3] at q2 hn u3 u4 ⊢
      have hx : 0 ≤ x := by omega
      have hlen : ((b.drop (0 + 1 + 8 + 4)).take x.toNat).length = x.toNat := by rw [List.length_take, List.length_drop]; omega
      unfold putb
      rw [if_neg (by omega), if_neg (by omega), hlen, Int.toNat_of_nonneg hx]
      have e1 : bes 1 (2 % 256) = (b.drop 0).take 1 := by
        rw [← bb 0 1 t1, ← t4, k2]; rfl
      have e2 : bes 8 s2.1 = (b.drop (0 + 1)).take 8 := by rw [r4]; exact bb (0 + 1) 8 r1
      have e3 : bes 4 x = (b.drop (0 + 1 + 8)).take 4 := by rw [u4]; exact bb (0 + 1 + 8) 4 u1
      rw [e1, e2, e3]
      have e4 : (b.drop (0 + 1 + 8 + 4)).take x.toNat = b.drop (0 + 1 + 8 + 4) := List.take_of_length_le (by rw [List.length_drop]; omega)
      rw [e4]
      show (b.drop 0).take 1 ++ ((b.drop 1).take 8 ++ ((b.drop 9).take 4 ++ b.drop 13)) = b
      have f1 : (b.drop 9).take 4 ++ b.drop 13 = b.drop 9 := by
        have h := List.take_append_drop 4 (b.drop 9)
        rwa [List.drop_drop] at h
      have f2 : (b.drop 1).take 8 ++ b.drop 9 = b.drop 1 := by
        have h := List.take_append_drop 8 (b.drop 1)
        rwa [List.drop_drop] at h
      rw [f1, f2, List.drop_zero, List.take_append_drop]
    · rw [if_neg k2]
      dsimp only
      intro hq hm
      exact absurd hm (by omega)
end Go.Proofs.YteapdhfeddgjbaaDoor.Wire
end
section
/- recall: what is written is read; what is read has just these bytes; events one behind the other are all told: the walk. -/
namespace Go.Proofs.YteapdhfeddgjbaaDoor.Dg
set_option linter.unusedVariables false
set_option linter.unusedSimpArgs false
open Go.RowKit Go.Proofs.YteapdhfeddgjbaaDoor.PDj Go.Proofs.YteapdhfeddgjbaaDoor.Num Go.Proofs.YteapdhfeddgjbaaDoorW Go.Proofs.YteapdhfeddgjbaaDoorW.PrintWords Go.Proofs.YteapdhfeddgjbaaDoorW.PrintLast Go.Proofs.YteapdhfeddgjbaaDoorW.PrintMore
open Go.Proofs.YteapdhfeddgjbaaDoor.Wire (TakeTold NewB rdev rdq mayb putb PutTold rput_calls rtake_ok rtake_no rtake_bad esame_calls recall_awake_calls EvAt put_read read_put rdq_le)

/-- An event as it comes in: its numbers fit, its bytes are bytes. -/
def EvOk (e : Evt) : Prop := (-9223372036854775808 ≤ e.2.1 ∧ e.2.1 ≤ 9223372036854775807) ∧ (-9223372036854775808 ≤ e.2.2.1 ∧ e.2.2.1 ≤ 9223372036854775807) ∧ Bt e.2.2.2
def mayE (e : Evt) : Bool := mayb e.1 e.2.1 e.2.2.1 e.2.2.2
def putE (e : Evt) : List Int := putb e.1 e.2.1 e.2.2.1 e.2.2.2
/-- The records of the events that may be. -/
def recsE (es : List Evt) : List (List Int) := (es.filter mayE).map putE
theorem take_getE (es : List Evt) (i : Nat) (h : i < es.length) : es.take (i + 1) = es.take i ++ [es.getD i (0, 0, 0, [])] := by
  rw [List.take_succ_eq_append_getElem h, List.getD_eq_getElem?_getD, List.getElem?_eq_getElem h]; rfl
theorem mem_getE (es : List Evt) (i : Nat) (h : i < es.length) : es.getD i (0, 0, 0, []) ∈ es := by
  rw [List.getD_eq_getElem?_getD, List.getElem?_eq_getElem h]; exact List.getElem_mem h
theorem recsE_snoc (es : List Evt) (e : Evt) : recsE (es ++ [e]) = recsE es ++ (if mayE e = true then [putE e] else []) := by
  unfold recsE
  rw [List.filter_append, List.map_append]
  congr 1
  by_cases h : mayE e = true
  · rw [if_pos h, List.filter_cons_of_pos h]; rfl
  · rw [if_neg h, List.filter_cons_of_neg h]; rfl
theorem recsE_len (es : List Evt) : (recsE es).length ≤ es.length := by
  unfold recsE
  rw [List.length_map]
  exact List.length_filter_le _ _
theorem pref_all (rs : List (List Int)) (h : ∀ r ∈ rs, okr r = true) : pref rs = rs := by
  unfold pref
  induction rs with
  | nil => rfl
  | cons r rs ih => rw [List.takeWhile_cons, h r (by simp), if_pos rfl, ih (fun x hx => h x (by simp [hx]))]
theorem usedOf_cat (rs : List (List Int)) : usedOf rs = (cat rs).length := by
  induction rs with
  | nil => rfl
  | cons r rs ih => rw [usedOf_cons, cat, List.length_append, frm_len, ih]
theorem add_off (ad : Addr) (m j : Nat) (h : j ≠ 0) : ad.add (m + j) = ⟨(ad.add m).block, (ad.add m).off + j, none⟩ := by
  unfold Addr.add
  rw [if_neg (by omega)]
  by_cases hm : m = 0
  · subst hm; rw [if_pos rfl, Nat.zero_add]
  · rw [if_neg hm]; simp [Nat.add_assoc]
theorem bes_Bt : ∀ (m : Nat) (x : Int), Bt (Go.Proofs.YteapdhfeddgjbaaDoor.Wire.bes m x)
  | 0, x, y, h => by simp [Go.Proofs.YteapdhfeddgjbaaDoor.Wire.bes] at h
  | m + 1, x, y, h => by
    rw [Go.Proofs.YteapdhfeddgjbaaDoor.Wire.bes] at h
    rcases List.mem_cons.1 h with h | h
    · rw [h]; omega
    · exact bes_Bt m x y h
theorem putb_len (k now fr : Int) (l : List Int) : (putb k now fr l).length ≤ 13 + l.length := by
  unfold putb; split <;> simp only [List.length_append, Go.Proofs.YteapdhfeddgjbaaDoor.Wire.bes_len] <;> omega
theorem putb_Bt (k now fr : Int) (l : List Int) (h : Bt l) : Bt (putb k now fr l) := by
  unfold putb; split
  · exact (bes_Bt _ _).append (bes_Bt _ _)
  · exact (bes_Bt _ _).append ((bes_Bt _ _).append ((bes_Bt _ _).append h))
theorem recsE_facts (es : List Evt) (he : ∀ e ∈ es, EvOk e) (hs : ∀ e ∈ es, e.2.2.2.length ≤ 500) : ∀ r ∈ recsE es, okr r = true ∧ Bt r ∧ r.length ≤ 513 := by
  intro r hr
  unfold recsE at hr
  obtain ⟨e, h1, h2⟩ := List.mem_map.1 hr
  obtain ⟨h3, h4⟩ := List.mem_filter.1 h1
  obtain ⟨k, now, fr, l⟩ := e
  have hl : l.length ≤ 500 := hs _ h3
  subst h2
  exact ⟨(put_read k now fr l h4 (by omega)).1, putb_Bt _ _ _ _ (he _ h3).2.2, Nat.le_trans (putb_len k now fr l) (by omega)⟩
theorem take_no2 (l : List Int) (hby : Bt l) (h : okr l = false) : ∃ p err : Int, ((err == 0) = false) ∧ 0 ≤ p ∧ p ≤ (l.length : Int) ∧ ∀ (A : Option Addr) (n c : Nat), n ≤ 1000000 → n ≤ c → l.length = n → ∀ w : World, Kd.C (Kd.int .u8) w A l.length l →
    Calls Tryd.prog 45 #[.slice A n c] w (TakeTold w 0 0 0 [] p err) := by
  by_cases hq : 0 ≤ rdq l
  · exact ⟨_, 20, rfl, hq, rdq_le l, fun A n c hn hc hl w hr => rtake_bad A n c hn hc l hl hby w hr hq⟩
  · have hm : mayb (rdev l).1.1 (rdev l).1.2.1 (rdev l).1.2.2.1 (rdev l).1.2.2.2 = false := by
      unfold okr at h
      rw [decide_eq_true (by omega), Bool.true_and] at h
      exact h
    exact ⟨0, 2, rfl, Int.le_refl _, by omega, fun A n c hn hc hl w hr => rtake_no A n c hn hc l hl hby w hr (by omega) hm⟩
/-- What may be has numbers in their bounds. -/
theorem may_bnd (k now fr : Int) (l : List Int) (h : mayb k now fr l = true) : (-9223372036854775808 ≤ now ∧ now ≤ 9223372036854775807) ∧ (-9223372036854775808 ≤ fr ∧ fr ≤ 9223372036854775807) := by
  have h2 := of_decide_eq_true h
  omega
set_option maxHeartbeats 6400000 in
set_option maxRecDepth 100000 in
theorem recall_back_walk (A0 : Option Addr) (n0 c0 : Nat) (es : List Evt) (A1 : Option Addr) (n1 c1 : Nat) (b : List Int) (w : World) (hn0 : es.length = n0) (hc0 : n0 ≤ c0) (he : ∀ e ∈ es, EvOk e) (hC0 : Kd.C evK w A0 es.length es)
    (hn1 : b.length = n1) (hc1 : n1 ≤ c1) (hb : Bt b) (hC1 : Kd.C (Kd.int .u8) w A1 b.length b) (hK : Tab w 2 KK) :
    Calls Tryd.prog 10 #[.slice A0 n0 c0, .slice A1 n1 c1] w (Tells (.bool true) w) := by
  have HAW := Aside0.mk (recall_awake_calls w)
  by_cases hbig : 20 < n0 ∨ 2000 < n1
  · clear hC0 hC1 hK hb he hn0 hn1
    by_cases h0 : 20 < n0
    · have h0' : (20 : Int) < (n0 : Int) := by omega
      clear hbig
      go_enter Tryd.func10, Tryd.ntmps10
      go_wp2_with (first
        | (go_at_call 39; (with_reducible refine HAW.out.mono ?_); rintro e w1 ⟨rfl, hb1⟩; have HB1 := Aside0.mk hb1; clear hb1)
        | fail)
      go_ret
      exact ⟨rfl, HB1.out⟩
    · have h0' : ¬ (20 : Int) < (n0 : Int) := by omega
      have h1' : (2000 : Int) < (n1 : Int) := by omega
      clear hbig
      go_enter Tryd.func10, Tryd.ntmps10
      go_wp2_with (first
        | (go_at_call 39; (with_reducible refine HAW.out.mono ?_); rintro e w1 ⟨rfl, hb1⟩; have HB1 := Aside0.mk hb1; clear hb1)
        | fail)
      go_ret
      exact ⟨rfl, HB1.out⟩
  · have h0' : ¬ (20 : Int) < (n0 : Int) := by omega
    have h1' : ¬ (2000 : Int) < (n1 : Int) := by omega
    have HN0 := Aside0.mk hn0
    have HCC0 := Aside0.mk hc0
    have HEO := Aside0.mk he
    have HC0 := Aside0.mk hC0
    have HN1 := Aside0.mk hn1
    have HCC1 := Aside0.mk hc1
    have HBT := Aside0.mk hb
    have HC1 := Aside0.mk hC1
    have HK := Aside0.mk hK
    have HNN : Aside0 (n0 ≤ 20 ∧ n1 ≤ 2000) := ⟨by omega⟩
    clear hn0 hc0 he hC0 hn1 hc1 hb hC1 hK hbig
    go_enter Tryd.func10, Tryd.ntmps10
    go_wp2_with (first
      | (go_at_call 39; (with_reducible refine HAW.out.mono ?_); rintro e w1 ⟨rfl, hb1⟩; have HB1 := Aside0.mk hb1; clear hb1)
      | fail)
    go_loopw [5, 6, 33] (fun v5 v6 v33 wr => ∃ i : Nat, v6 = .int .i64 (((recsE (es.take i)).length : Nat) : Int) ∧ v33 = .int .i64 (i : Int) ∧ Aside0 (i ≤ n0) ∧ Aside0 (∀ e ∈ es.take i, e.2.2.2.length ≤ 500) ∧ Aside0 (Kd.R (Kd.int .u8) 5 wr w1.heap.size (fun _ => True) v5 (cat (recsE (es.take i)))) ∧ Aside0 (Below w1.heap.size w1 wr))
      (fun _ _ v33 _ => n0 - (intOf v33).toNat)
    case atStart => exact ⟨0, rfl, rfl, ⟨Nat.zero_le _⟩, ⟨by simp⟩, ⟨Kd.R_nil _ _ _ _ _⟩, ⟨Below.refl _ _⟩⟩
    case round =>
      obtain ⟨i, rfl, rfl, HI, HS, HR, HB⟩ := hrel
      have HBW := Aside0.mk (below_then HB1.out HB1.out.size HB.out)
      have hi := HI.out
      have hn20 := HNN.out.1
      by_cases hlt : i < n0
      · obtain ⟨ad0, cs, rfl, hcl, hKe, hcell⟩ := Kd.C_get (Kd.C_below HC0.out HBW.out) (0, 0, 0, []) (i : Int) (by omega) (by rw [HN0.out]; omega)
        rw [Int.toNat_natCast] at hKe hcell
        have HTT := Aside0.mk (take_getE es i (by rw [HN0.out]; exact hlt))
        have hok := HEO.out _ (mem_getE es i (by rw [HN0.out]; exact hlt))
        obtain ⟨ev, hev⟩ : ∃ ev, es.getD i (0, 0, 0, []) = ev := ⟨_, rfl⟩
        rw [hev] at hKe HTT hok
        obtain ⟨k, now, fr, l⟩ := ev
        obtain ⟨ca, cb, rfl, rfl, cc, cd, rfl, rfl, ce, cf, rfl, rfl, B, d, rfl, hld, hCl⟩ := hKe
        have x0 := hcell 0 _ rfl
        have x1 := hcell 1 _ rfl
        have x2 := hcell 2 _ rfl
        have x3 := hcell 3 _ rfl
        rw [show evK.sz = 4 from rfl] at x0 x1 x2 x3
        rw [add_off _ _ _ (by decide)] at x1 x2 x3
        rw [Nat.add_zero] at x0
        have hld : l.length ≤ d := hld
        have hCl : Kd.C (Kd.int .u8) wr B l.length l := hCl
        clear hcell hcl hev
        by_cases hbg : 500 < l.length
        · have hbg' : (500 : Int) < (l.length : Int) := by omega
          clear hCl hld hok hi
          go_wp2_with fail
          go_ret
          exact ⟨rfl, below_alloc HBW.out _⟩
        · have hbg' : ¬ (500 : Int) < (l.length : Int) := by omega
          obtain ⟨n, hn⟩ : ∃ n, l.length = n := ⟨_, rfl⟩
          obtain ⟨W, hW⟩ : ∃ W, W = wr.alloc (.cells #[.int .i64 k, .int .i64 now, .int .i64 fr, .slice B l.length d] 85) := ⟨_, rfl⟩
          have HW := Aside0.mk hW
          have HBa : Aside0 (Below w1.heap.size w1 W) := ⟨by rw [hW]; exact below_alloc HB.out _⟩
          have HE0 : Aside0 (EvAt W wr.heap.size k now fr (.slice B l.length d)) := ⟨by rw [hW]; exact EvAt.new _ _ _ _ _⟩
          have hCW : Kd.C (Kd.int .u8) W B l.length l := by rw [hW]; exact Kd.C_alloc hCl _
          have hRW : Aside0 (Kd.R (Kd.int .u8) 5 W w1.heap.size (fun _ => True) u5 (cat (recsE (es.take i)))) := ⟨by rw [hW]; exact Kd.R_below HR.out (below_alloc (Below.refl _ _) _)⟩
          have hS2 : ∀ e ∈ es.take (i + 1), e.2.2.2.length ≤ 500 := by
            rw [HTT.out]
            intro e he
            rcases List.mem_append.1 he with he | he
            · exact HS.out e he
            · rw [List.mem_singleton.1 he]; show l.length ≤ 500; omega
          have HS2 := Aside0.mk hS2
          clear hS2
          have HBND : Aside0 ((-9223372036854775808 ≤ now ∧ now ≤ 9223372036854775807) ∧ (-9223372036854775808 ≤ fr ∧ fr ≤ 9223372036854775807) ∧ By l) := ⟨hok⟩
          have hput := rput_calls k now fr B n d l hn (by omega) (by omega) W hCW HBND.out.1 HBND.out.2.1
          cases hm : mayb k now fr l with
          | false =>
            rw [hm, if_neg (by decide), if_neg (by decide)] at hput
            have HPUT : Aside0 (Calls Tryd.prog 44 #[.agg #[.int .i64 k, .int .i64 now, .int .i64 fr, .slice B n d]] (wr.alloc (.cells #[.int .i64 k, .int .i64 now, .int .i64 fr, .slice B n d] 85)) (PutTold W [] 2)) := ⟨by rw [← hn] at hput ⊢; rw [← hW]; exact hput⟩
            have HRE : Aside0 (recsE (es.take (i + 1)) = recsE (es.take i)) := ⟨by
              rw [HTT.out, recsE_snoc, if_neg (by unfold mayE; rw [hm]; decide), List.append_nil]⟩
            rw [hn] at x3 hbg' hbg
            clear hCl hld hok hi hW hCW hput hm hn
            go_wp2_with (first
              | (go_at_call 44; (with_reducible refine HPUT.out.mono ?_); rintro e w2 ⟨A2, c2, rfl, -, -, hb⟩; have HB2 := Aside0.mk (below_then HBa.out HBa.out.size hb); have HR2 := Aside0.mk (Kd.R_below hRW.out hb); clear hb)
              | fail)
            exact ⟨⟨i + 1, by rw [HRE.out], rfl, ⟨hlt⟩, HS2, ⟨by rw [HRE.out]; exact HR2.out⟩, HB2⟩, meas_nat hlt⟩
          | true =>
            rw [hm, if_pos rfl, if_pos rfl] at hput
            have hpr := put_read k now fr l hm (by omega)
            have hpl := putb_len k now fr l
            have hpb := putb_Bt k now fr l hok.2.2
            have HRE0 : recsE (es.take (i + 1)) = recsE (es.take i) ++ [putE (k, now, fr, l)] := by
              rw [HTT.out, recsE_snoc, if_pos (by unfold mayE; exact hm)]
            have hpe : putE (k, now, fr, l) = putb k now fr l := rfl
            obtain ⟨Q, hQ⟩ : ∃ Q, putb k now fr l = Q := ⟨_, rfl⟩
            rw [hpe] at HRE0
            rw [hQ] at hput hpr hpl hpb HRE0
            have HRE := Aside0.mk HRE0
            obtain ⟨q, hq⟩ : ∃ q, Q.length = q := ⟨_, rfl⟩
            have HQ9 := Aside0.mk hq
            have HQB := Aside0.mk hpb
            have hq5 : q ≤ 513 := by omega
            have HPUT : Aside0 (Calls Tryd.prog 44 #[.agg #[.int .i64 k, .int .i64 now, .int .i64 fr, .slice B n d]] (wr.alloc (.cells #[.int .i64 k, .int .i64 now, .int .i64 fr, .slice B n d] 85)) (fun e w' => ∃ A c, e = .returned (.tuple #[.slice A q c, .int .i64 0]) ∧ q ≤ c ∧ Kd.C (Kd.int .u8) w' A Q.length Q ∧ Below W.heap.size W w')) := ⟨by rw [← hn, ← hq] at *; rw [← hW]; exact hput⟩
            have HTK : Aside0 (∀ W' A c, q ≤ c → Kd.C (Kd.int .u8) W' A Q.length Q → Calls Tryd.prog 45 #[.slice A q c] W' (fun e w' => ∃ B d, e = .returned (.tuple #[.agg #[.int .i64 k, .int .i64 now, .int .i64 fr, .slice B n d], .int .i64 0, .int .i64 0]) ∧ n ≤ d ∧ Kd.C (Kd.int .u8) w' B l.length l ∧ Below W'.heap.size W' w')) := ⟨fun W' A c h1 h2 => by
              have h := take_ok_calls A q c (by omega) h1 Q hq hpb W' h2 hpr.1
              rw [hpr.2] at h
              refine h.mono ?_
              rintro e w' ⟨B, d, h3, h4, h5, h6⟩
              exact ⟨B, d, by rw [← hn]; exact h3, by rw [← hn]; exact h4.1, h5, h6⟩⟩
            have HFR : Aside0 (∀ W' A c, q ≤ c → Kd.C (Kd.int .u8) W' A Q.length Q → Calls Tryd.prog 18 #[.slice A q c] W' (Own W' (frm Q))) := ⟨fun W' A c h1 h2 => dframe_calls A q c Q hq hpb (by omega) h1 W' h2⟩
            have HFL : Aside0 ((frm Q).length = 12 + q) := ⟨by rw [frm_len, hq]⟩
            have HE1 : Aside0 (EvAt W wr.heap.size k now fr (.slice B n d)) := ⟨by rw [← hn]; exact HE0.out⟩
            have HNL := Aside0.mk hn
            have HCL : Aside0 (Kd.C (Kd.int .u8) W B l.length l) := ⟨hCW⟩
            have HND : Aside0 (n ≤ d ∧ n ≤ 1000000) := ⟨by omega⟩
            obtain ⟨A5, c5, e5⟩ := Kd.R_slice hRW.out
            obtain ⟨N5, hN5⟩ : ∃ N5, (cat (recsE (es.take i))).length = N5 := ⟨_, rfl⟩
            rw [hN5] at e5
            subst e5
            have HN5 := Aside0.mk hN5
            obtain ⟨m6, hm6⟩ : ∃ m, (recsE (es.take i)).length = m := ⟨_, rfl⟩
            have hm6b : m6 ≤ 20 := by
              have h := recsE_len (es.take i)
              rw [hm6, List.length_take] at h
              omega
            have HM6 := Aside0.mk hm6
            have HN5b : Aside0 (N5 ≤ 100000) := ⟨by
              have hrf := recsE_facts (es.take i) (fun e h => HEO.out e (List.mem_of_mem_take h)) HS.out
              have h1 := cat_le (recsE (es.take i)) 513 (fun r h => (hrf r h).2.2)
              rw [hN5, hm6] at h1
              have h2 : m6 * (12 + 513) ≤ 20 * 525 := Nat.mul_le_mul hm6b (by omega)
              omega⟩
            rw [hm6]
            rw [hn] at x3 hbg' hbg
            clear hCl hld hok hi hW hCW hput hm hn hpr hpl hpb HRE0 hQ hpe hq hN5 hm6
            go_wp2_with (first
              | (go_at_call 44; (with_reducible refine HPUT.out.mono ?_); rintro e w2 ⟨A2, c2, rfl, hd, hC, hb⟩; have HE2 := Aside0.mk (HE1.out.below hb); have HB2 := Aside0.mk (below_then HBa.out HBa.out.size hb); have HC2 := Aside0.mk hC; have HD2 := Aside0.mk hd; have HL2 := Aside0.mk (Kd.C_below HCL.out hb); have HR2 := Aside0.mk (Kd.R_below hRW.out hb); obtain ⟨-, p0, p1, p2, p3, -⟩ := HE2.out; clear hb hC hd)
              | (go_at_call 45; (with_reducible refine (HTK.out w2 A2 c2 HD2.out HC2.out).mono ?_); rintro e w3 ⟨B3, d3, rfl, hd, hC, hb⟩; have HE3 := Aside0.mk ((HE2.out.below hb).below (below_alloc (Below.refl _ _) (.cells #[.int .i64 k, .int .i64 now, .int .i64 fr, .slice B3 n d3] 85))); have HF3 := Aside0.mk (EvAt.new w3 k now fr (.slice B3 n d3)); have HB3 := Aside0.mk (below_alloc (below_then HB2.out HB2.out.size hb) (.cells #[.int .i64 k, .int .i64 now, .int .i64 fr, .slice B3 n d3] 85)); have HX3 := Aside0.mk (Kd.C_alloc hC (.cells #[.int .i64 k, .int .i64 now, .int .i64 fr, .slice B3 n d3] 85)); have HC3 := Aside0.mk (Kd.C_alloc (Kd.C_below HC2.out hb) (.cells #[.int .i64 k, .int .i64 now, .int .i64 fr, .slice B3 n d3] 85)); have HL3 := Aside0.mk (Kd.C_alloc (Kd.C_below HL2.out hb) (.cells #[.int .i64 k, .int .i64 now, .int .i64 fr, .slice B3 n d3] 85)); have HR3 := Aside0.mk (Kd.R_below (Kd.R_below HR2.out hb) (below_alloc (Below.refl _ _) (.cells #[.int .i64 k, .int .i64 now, .int .i64 fr, .slice B3 n d3] 85))); have HD3 := Aside0.mk hd; clear p0 p1 p2 p3; obtain ⟨-, p0, p1, p2, p3, -⟩ := HE3.out; obtain ⟨-, g0, g1, g2, g3, -⟩ := HF3.out; clear hb hC hd)
              | (go_at_call 43; (with_reducible refine (esame_calls k now fr B3 n d3 l HNL.out k now fr B n d l HNL.out HND.out.2 _ HX3.out HD3.out HL3.out HND.out.1).mono ?_); rintro e w4 ⟨rfl, hb⟩; have hse : decide (k = k ∧ now = now ∧ fr = fr ∧ l = l) = true := decide_eq_true ⟨rfl, rfl, rfl, rfl⟩; have HB4 := Aside0.mk (below_then HB3.out HB3.out.size hb); have HC4 := Aside0.mk (Kd.C_below HC3.out hb); have HR4 := Aside0.mk (Kd.R_below HR3.out hb); clear p0 p1 p2 p3 g0 g1 g2 g3; clear hb)
              | (go_at_call 18; (with_reducible refine (HFR.out w4 A2 c2 HD2.out HC4.out).mono ?_); rintro e w5 ⟨v5, rfl, ho, hb⟩; obtain ⟨A4, c4, e4⟩ := Kd.R_slice ho; subst e4; have hr := (Kd.R_reads' ho).2; rw [HFL.out] at hr ⊢; have HO5 := Aside0.mk hr.1; have HO6 := Aside0.mk hr.2; have HR5 := Aside0.mk (Kd.R_below HR4.out hb); have HB5 := Aside0.mk (below_then HB4.out HB4.out.size hb); clear ho hb hr)
              | (at_builtin; refine Kd.R_append_row (Value.int .u8) (0 : Int) (h1 := fun _ => rfl) (w0 := w1) (W := w5) w1.heap.size rfl _ _ 24 5 (.int .u8 0) 1 rfl Tryd.underlying24 info5 rfl (by decide) (.slice A5 N5 c5) (cat (recsE (es.take i))) (frm Q) A4 (12 + q) c4 (fun _ => True) rfl rfl (fun _ _ => trivial) HR5.out HO6.out HB5.out HB5.out.size (by rw [HN5.out]; have := HN5b.out; omega) ?_; intro v6 w6 ho hb6 hg6 hat6; have HO := Aside0.mk ho; have HB6 := Aside0.mk hb6; clear ho hb6 hg6 hat6)
              | fail)
            exact ⟨⟨i + 1, by rw [HRE.out, List.length_append, HM6.out]; rfl, rfl, ⟨hlt⟩, HS2, ⟨by rw [HRE.out, cat_snoc]; exact HO.out⟩, HB6⟩, meas_nat hlt⟩
      · obtain rfl : i = n0 := by omega
        obtain ⟨A5, c5, e5⟩ := Kd.R_slice HR.out
        have htk : es.take i = es := List.take_of_length_le (by rw [HN0.out]; exact Nat.le_refl _)
        rw [htk] at HS HR e5
        rw [htk]
        obtain ⟨rs, hrs⟩ : ∃ rs, recsE es = rs := ⟨_, rfl⟩
        have hrf := recsE_facts es HEO.out HS.out
        have hrl := recsE_len es
        rw [hrs] at hrf hrl HR e5
        rw [hrs]
        rw [HN0.out] at hrl
        obtain ⟨N5, hN5⟩ : ∃ N5, (cat rs).length = N5 := ⟨_, rfl⟩
        rw [hN5] at e5
        subst e5
        obtain ⟨m6, hm6⟩ : ∃ m, rs.length = m := ⟨_, rfl⟩
        rw [hm6]
        have hN5b : N5 ≤ 100000 := by
          have h1 := cat_le rs 513 (fun r h => (hrf r h).2.2)
          rw [hN5] at h1
          have h2 : rs.length * (12 + 513) ≤ 20 * 525 := Nat.mul_le_mul (by omega) (by omega)
          omega
        have hall := (all_recs rs (fun r h => Nat.le_trans (hrf r h).2.2 (by omega))).1
        have hpf := pref_all rs (fun r h => (hrf r h).1)
        have hrr := (Kd.R_reads' HR.out).2
        have hcb := cat_Bt rs (fun r h => (hrf r h).2.1)
        have hu := used_all (cat rs)
        have hbr := recs_facts (cat rs) hcb
        have HAL : Aside0 (∀ W', Below wr.heap.size wr W' → Calls Tryd.prog 40 #[.slice A5 N5 c5] W' fun e w' => ∃ A c, e = .returned (.tuple #[.slice A m6 c, .int .i64 (N5 : Int)]) ∧ Below W'.heap.size W' w') := ⟨fun W' h => by
          have h2 := all_calls A5 N5 c5 (cat rs) hN5 hcb hN5b hrr.1 (fun i => Nat.le_trans (hu i) (by omega)) (fun r hr => ⟨(hbr r hr).1, Nat.le_trans (hbr r hr).2 (by omega)⟩) (by rw [hall]; omega) W' (Kd.C_below hrr.2 h) (HK.out.below (below_then HBW.out HBW.out.size h))
          rw [hall, hpf, usedOf_cat, hN5] at h2
          refine h2.mono ?_
          rintro e w' ⟨v, h3, h4, h5⟩
          obtain ⟨A, c, h6⟩ := Kd.N_slice h4
          rw [List.length_map, hm6] at h6
          subst h6
          exact ⟨A, c, h3, h5⟩⟩
        have hm6b : m6 ≤ 20 := by omega
        have hn1b : n1 ≤ 2000 := HNN.out.2
        clear hall hpf hrr hcb hu hbr hrf hrl hrs htk hN5 hm6 hlt hi
        cases hob : okr b with
        | false =>
          obtain ⟨p, err, herr, hp0, hp1, htb⟩ := take_no2 b HBT.out hob
          rw [HN1.out] at hp1
          have HTB : Aside0 (∀ W', Below w.heap.size w W' → Calls Tryd.prog 45 #[.slice A1 n1 c1] W' (fun e w' => ∃ B d, e = .returned (.tuple #[.agg #[.int .i64 0, .int .i64 0, .int .i64 0, .slice B 0 d], .int .i64 p, .int .i64 err]) ∧ Below W'.heap.size W' w')) := ⟨fun W' h => (htb A1 n1 c1 (by omega) HCC1.out HN1.out W' (Kd.C_below HC1.out h)).mono (by
            rintro e w' ⟨B, d, h3, h4, h5, h6⟩
            exact ⟨B, d, h3, h6⟩)⟩
          clear hob htb
          go_wp2_with (first
            | (go_at_call 40; (with_reducible refine (HAL.out _ (Below.refl _ _)).mono ?_); rintro e w2 ⟨A2, c2, rfl, hb⟩; have HB2 := Aside0.mk (below_then HBW.out HBW.out.size hb); clear hb)
            | (go_at_call 45; (with_reducible refine (HTB.out _ HB2.out).mono ?_); rintro e w3 ⟨B3, d3, rfl, hb⟩; have HB3 := Aside0.mk (below_alloc (below_then HB2.out HB2.out.size hb) (.cells #[.int .i64 0, .int .i64 0, .int .i64 0, .slice B3 0 d3] 85)); clear hb)
            | fail)
          go_ret
          exact ⟨by simp [hp0, hp1], HB3.out⟩
        | true =>
          have hrp := read_put b HBT.out hob
          have hmy : mayb (evr b).1 (evr b).2.1 (evr b).2.2.1 (evr b).2.2.2 = true := by
            unfold okr at hob
            rw [Bool.and_eq_true] at hob
            exact hob.2
          have hlen : (evr b).2.2.2.length ≤ b.length := rdev_len' b
          have hbd := may_bnd _ _ _ _ hmy
          have htk : ∀ W', Below w.heap.size w W' → _ := fun W' h => take_ok_calls A1 n1 c1 (by omega) HCC1.out b HN1.out HBT.out W' (Kd.C_below HC1.out h) hob
          obtain ⟨⟨k2, now2, fr2, l2⟩, hev⟩ : ∃ r, evr b = r := ⟨_, rfl⟩
          rw [hev] at hrp hmy hlen hbd htk
          dsimp only at hrp hmy hlen hbd htk
          rw [HN1.out] at hlen
          obtain ⟨n2, hn2⟩ : ∃ m, l2.length = m := ⟨_, rfl⟩
          have HTB : Aside0 (∀ W', Below w.heap.size w W' → Calls Tryd.prog 45 #[.slice A1 n1 c1] W' (fun e w' => ∃ B d, e = .returned (.tuple #[.agg #[.int .i64 k2, .int .i64 now2, .int .i64 fr2, .slice B n2 d], .int .i64 0, .int .i64 0]) ∧ n2 ≤ d ∧ Kd.C (Kd.int .u8) w' B l2.length l2 ∧ Below W'.heap.size W' w')) := ⟨fun W' h => (htk W' h).mono (by
            rintro e w' ⟨B, d, h3, h4, h5, h6⟩
            exact ⟨B, d, by rw [← hn2]; exact h3, by rw [← hn2]; exact h4.1, h5, h6⟩)⟩
          have HPT : Aside0 (∀ W' B d, n2 ≤ d → Kd.C (Kd.int .u8) W' B l2.length l2 → Calls Tryd.prog 44 #[.agg #[.int .i64 k2, .int .i64 now2, .int .i64 fr2, .slice B n2 d]] W' (fun e w' => ∃ A c, e = .returned (.tuple #[.slice A n1 c, .int .i64 0]) ∧ n1 ≤ c ∧ Kd.C (Kd.int .u8) w' A b.length b ∧ Below W'.heap.size W' w')) := ⟨fun W' B d h1 h2 => by
            have h := rput_calls k2 now2 fr2 B n2 d l2 hn2 h1 (by omega) W' h2 hbd.1 hbd.2
            rw [hmy, if_pos rfl, if_pos rfl, hrp] at h
            refine h.mono ?_
            rintro e w' ⟨A, c, h3, h4, h5, h6⟩
            rw [HN1.out] at h3 h4
            exact ⟨A, c, h3, h4, h5, h6⟩⟩
          clear hob htk hmy hrp hbd hev hlen hn2
          go_wp2_with (first
            | (go_at_call 40; (with_reducible refine (HAL.out _ (Below.refl _ _)).mono ?_); rintro e w2 ⟨A2, c2, rfl, hb⟩; have HB2 := Aside0.mk (below_then HBW.out HBW.out.size hb); clear hb)
            | (go_at_call 45; (with_reducible refine (HTB.out _ HB2.out).mono ?_); rintro e w3 ⟨B3, d3, rfl, hd, hC, hb⟩; have HF3 := Aside0.mk (EvAt.new w3 k2 now2 fr2 (.slice B3 n2 d3)); have HB3 := Aside0.mk (below_alloc (below_then HB2.out HB2.out.size hb) (.cells #[.int .i64 k2, .int .i64 now2, .int .i64 fr2, .slice B3 n2 d3] 85)); have HX3 := Aside0.mk (Kd.C_alloc hC (.cells #[.int .i64 k2, .int .i64 now2, .int .i64 fr2, .slice B3 n2 d3] 85)); have HD3 := Aside0.mk hd; clear hb hC hd)
            | (go_at_call 44; (with_reducible refine (HPT.out _ B3 d3 HD3.out HX3.out).mono ?_); rintro e w4 ⟨A4, c4, rfl, hd, hC, hb⟩; have HB4 := Aside0.mk (below_then HB3.out HB3.out.size hb); have HX4 := Aside0.mk hC; have HD4 := Aside0.mk hd; clear hb hC hd)
            | (go_at_call 14; (with_reducible refine (same_calls A4 n1 c4 b A1 n1 c1 b HN1.out HN1.out (by have := HNN.out; omega) HD4.out HCC1.out w4 HX4.out (Kd.C_below HC1.out HB4.out)).mono ?_); rintro e w5 ⟨rfl, hb⟩; have hse : decide (b = b) = true := decide_eq_true rfl; have HB5 := Aside0.mk (below_then HB4.out HB4.out.size hb); clear hb)
            | fail)
          go_ret
          exact ⟨by simp, HB5.out⟩
end Go.Proofs.YteapdhfeddgjbaaDoor.Dg
end
section
/- RecallBack over what comes in. -/
namespace Go.Proofs.YteapdhfeddgjbaaDoor.Dg
set_option linter.unusedVariables false
open Go.RowKit Go.Proofs.YteapdhfeddgjbaaDoor.PDj Go.Proofs.YteapdhfeddgjbaaDoor.Num Go.Proofs.YteapdhfeddgjbaaDoorW Go.Proofs.YteapdhfeddgjbaaDoorW.PrintWords Go.Proofs.YteapdhfeddgjbaaDoor.Opn

theorem open_events {H : Type} {enc : TypeId × Value → H} {W : World} {fuel : Nat} {a : Option Addr} {len cap : Nat} {x : DataW H × List MemPlace} (h : DataW.trod enc Tryd.prog W 0 (fun _ => true) true fuel 81 [.slice a len cap] = some x) :
    ∃ l : List Evt, l.length = len ∧ len ≤ cap ∧ len ≤ maxLen ∧ evK.C W a l.length l ∧ ∀ r ∈ l, EvOk r := by
  obtain ⟨l, h1, h2, h3, h4, h5⟩ := opens_row 85 Tryd.underlying81 (by kernel_rfl) (opens_struct Tryd.underlying85 (by kernel_rfl)
      (opensF_cons rfl (by kernel_rfl) (opens_int Tryd.underlying3) (opensF_cons rfl (by kernel_rfl) (opens_int Tryd.underlying3) (opensF_cons rfl (by kernel_rfl) (opens_int Tryd.underlying3) (opensF_last rfl (by kernel_rfl) (opens_slice 5 Tryd.underlying24 (by kernel_rfl) (opens_int Tryd.underlying5))))))) h
  exact ⟨l, h1, h2, h3, h4, fun r hr => ⟨wf_i64 (h5 r hr).2.1, wf_i64 (h5 r hr).2.2.1, fun x hx => wf_u8 ((h5 r hr).2.2.2.2 x hx)⟩⟩
theorem recall_back_run (A0 : Option Addr) (c0 : Nat) (es : List Evt) (A1 : Option Addr) (c1 : Nat) (b : List Int) (W : World) (hT : Tab W 2 KK)
    (h0 : evK.C W A0 es.length es) (y0 : es.length ≤ c0) (m0 : es.length ≤ maxLen) (w0 : ∀ r ∈ es, EvOk r)
    (h1 : Kd.C (Kd.int .u8) W A1 b.length b) (y1 : b.length ≤ c1) (m1 : b.length ≤ maxLen) (w1 : Bt b) :
    Calls Tryd.prog 10 #[.slice A0 es.length c0, .slice A1 b.length c1] W fun e W' => e = .returned (.bool true) ∧ Below W.heap.size W W' :=
  recall_back_walk A0 es.length c0 es A1 b.length c1 b W rfl y0 w0 h0 rfl y1 w1 h1 hT
end Go.Proofs.YteapdhfeddgjbaaDoor.Dg
end
