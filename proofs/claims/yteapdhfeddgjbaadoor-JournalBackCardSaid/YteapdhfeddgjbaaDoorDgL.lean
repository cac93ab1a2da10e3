/- journal: whole frames, plain; bytes.Equal. -/
import Derived.Test.YteapdhfeddgjbaaDoorDgK
import Derived.Test.YteapdhfeddgjbaaDoorPDex1
import Derived.Lib.Bytes
import Derived.Laws.BitsLemmas
namespace Go.Proofs.YteapdhfeddgjbaaDoor.Dg
set_option linter.unusedVariables false
set_option linter.unusedSimpArgs false
open Go.RowKit Go.Proofs.YteapdhfeddgjbaaDoor.PDb Go.Proofs.YteapdhfeddgjbaaDoorW Go.Proofs.YteapdhfeddgjbaaDoorW.PrintWords Go.Proofs.YteapdhfeddgjbaaDoorW.PrintLast Go.Proofs.YteapdhfeddgjbaaDoorW.PrintMore

theorem u8_inj {a b : Int} (ha : 0 ≤ a ∧ a < 256) (hb : 0 ≤ b ∧ b < 256) (h : UInt8.ofNat a.toNat = UInt8.ofNat b.toNat) : a = b := by
  have h2 := congrArg UInt8.toNat h
  simp at h2
  omega
theorem map_inj : ∀ {a b : List Int}, Bt a → Bt b → a.map (fun n => UInt8.ofNat n.toNat) = b.map (fun n => UInt8.ofNat n.toNat) → a = b
  | [], [], _, _, _ => rfl
  | [], _ :: _, _, _, h => by simp at h
  | _ :: _, [], _, _, h => by simp at h
  | x :: a, y :: b, ha, hb, h => by
    simp only [List.map_cons, List.cons.injEq] at h
    rw [u8_inj (ha x List.mem_cons_self) (hb y List.mem_cons_self) h.1, map_inj (fun z hz => ha z (List.mem_cons_of_mem _ hz)) (fun z hz => hb z (List.mem_cons_of_mem _ hz)) h.2]
theorem beq_bytes {a b : List Int} (ha : Bt a) (hb : Bt b) : ((strOfNums a).toList == (strOfNums b).toList) = decide (a = b) := by
  by_cases h : a = b
  · subst h; simp
  · rw [decide_eq_false h]
    rw [beq_eq_false_iff_ne]
    intro e
    rw [ByteArray.toList_eq, ByteArray.toList_eq, strOfNums_data, strOfNums_data] at e
    exact h (map_inj ha hb e)
theorem equal_calls (A0 : Option Addr) (n0 c0 : Nat) (l0 : List Int) (A1 : Option Addr) (n1 c1 : Nat) (l1 : List Int) (e0 : l0.length = n0) (e1 : l1.length = n1) (w : World) (hr0 : Kd.C (Kd.int .u8) w A0 l0.length l0) (hc0 : n0 ≤ c0) (hr1 : Kd.C (Kd.int .u8) w A1 l1.length l1) (hc1 : n1 ≤ c1) (b0 : Bt l0) (b1 : Bt l1) :
    Calls Tryd.prog 57 #[.slice A0 n0 c0, .slice A1 n1 c1] w fun e w' => e = .returned (.bool (decide (l0 = l1))) ∧ Below w.heap.size w w' := by
  subst e0 e1
  refine (PDe.bytes_Equal.calls A0 c0 l0 A1 c1 l1 _ w hr0 hc0 hr1 hc1 (by unfold PDe.bytes_Equal.f; rw [beq_bytes b0 b1])).mono ?_
  rintro e w' ⟨h1, h2⟩
  exact ⟨h1, h2.below⟩

/-! ### whole frames -/
def hdN (f : List Int) : Nat := (rd f 0).toNat * 16777216 + (rd f 1).toNat * 65536 + (rd f 2).toNat * 256 + (rd f 3).toNat
/-- The first whole frame's record: how long it is. -/
def nxt (f : List Int) : Option Nat :=
  if 12 ≤ f.length ∧ hdN f ≤ 16777216 ∧ hdN f + 12 ≤ f.length ∧ (f.drop 4).take 8 = chk (f.take 4) ((f.drop 12).take (hdN f)) then some (hdN f) else none
theorem nxt_le {f : List Int} {n : Nat} (h : nxt f = some n) : n + 12 ≤ f.length ∧ n = hdN f := by
  unfold nxt at h
  split at h
  · rename_i h2; cases h; exact ⟨h2.2.2.1, rfl⟩
  · cases h
/-- Where whole frames end, and their records. -/
def fra (b : List Int) : Nat → Nat → List (Nat × List Int)
  | 0, _ => []
  | k + 1, a => match nxt (b.drop a) with
    | none => []
    | some n => (a + (12 + n), ((b.drop a).drop 12).take n) :: fra b k (a + (12 + n))
def frames (b : List Int) : List (Nat × List Int) := fra b (b.length + 1) 0
theorem fra_none {b : List Int} {k a : Nat} (h : nxt (b.drop a) = none) : fra b k a = [] := by
  cases k with
  | zero => rfl
  | succ k => rw [fra, h]
theorem fra_some {b : List Int} {k a n : Nat} (h : nxt (b.drop a) = some n) : fra b (k + 1) a = (a + (12 + n), ((b.drop a).drop 12).take n) :: fra b k (a + (12 + n)) := by
  rw [fra, h]
theorem bt4 {f : List Int} (h : Bt f) : hdN f < 4294967296 := by
  have h0 := h.rd 0
  have h1 := h.rd 1
  have h2 := h.rd 2
  have h3 := h.rd 3
  unfold hdN
  omega
theorem i64_nat (n : Int) (h0 : 0 ≤ n) (h1 : n < 2 ^ 62) : IntKind.i64.wrap n = n := by
  rw [IntKind.wrap_i64]
  have : (2 : Int) ^ 62 = 4611686018427387904 := by decide
  omega
theorem or24 (a b : Int) (ha : 0 ≤ a ∧ a < 256) (hb : 0 ≤ b ∧ b < 256) : Go.bits .or .i64 (a * 16777216) (b * 65536) = a * 16777216 + b * 65536 :=
  bits_join .i64 62 (by decide) i64_nat 24 _ _ (by omega) (by omega) (by omega) (by omega) (by omega) (by omega)
theorem or16 (a b c : Int) (ha : 0 ≤ a ∧ a < 256) (hb : 0 ≤ b ∧ b < 256) (hc : 0 ≤ c ∧ c < 256) : Go.bits .or .i64 (a * 16777216 + b * 65536) (c * 256) = a * 16777216 + b * 65536 + c * 256 :=
  bits_join .i64 62 (by decide) i64_nat 16 _ _ (by omega) (by omega) (by omega) (by omega) (by omega) (by omega)
theorem or8b (a b c d : Int) (ha : 0 ≤ a ∧ a < 256) (hb : 0 ≤ b ∧ b < 256) (hc : 0 ≤ c ∧ c < 256) (hd : 0 ≤ d ∧ d < 256) : Go.bits .or .i64 (a * 16777216 + b * 65536 + c * 256) d = a * 16777216 + b * 65536 + c * 256 + d :=
  bits_join .i64 62 (by decide) i64_nat 8 _ _ (by omega) (by omega) (by omega) (by omega) (by omega) (by omega)
end Go.Proofs.YteapdhfeddgjbaaDoor.Dg
