/-
  The comparator of chapter 12, as an abstract machine; what lies in memory for it.
-/
import Derived.Test.YtamgaaakmldlbaaBase2
import Derived.Test.YtamgaaakmldlbaaObj
import Derived.Laws.StructEq
import Derived.ChangeKeysEq
import Derived.Test.YtamgaaakmldlbaaProg
import Derived.Deep.QuietTactic
import Derived.BigQuiet
namespace Go.Proofs.Ytamgaaakmldlbaa
open Go.RowKit

/-- a frame: cycle, epoch, proceed, points -/
structure Frm where
  c : Int
  e : Int
  p : Int
  q : Int
deriving DecidableEq
structure VSt where
  p0 : Option Frm
  p1 : Option Frm
  shown : Option Frm
  last : Int
  stopped : Bool
def VSt.stop (s : VSt) : VSt := ⟨none, none, none, s.last, true⟩
def VSt.reset (s : VSt) : VSt := ⟨none, none, none, s.last, false⟩
def VSt.own (s : VSt) (ch : Int) : Option Frm := if ch = 0 then s.p0 else s.p1
def VSt.oth (s : VSt) (ch : Int) : Option Frm := if ch = 0 then s.p1 else s.p0
def VSt.lay (s : VSt) (ch : Int) (f : Frm) : VSt := if ch = 0 then ⟨some f, s.p1, s.shown, s.last, s.stopped⟩ else ⟨s.p0, some f, s.shown, s.last, s.stopped⟩
def VSt.put (s : VSt) (ch : Int) (f : Frm) : VSt × Int :=
  if ch ≠ 0 ∧ ch ≠ 1 then (s, 2)
  else if s.stopped then (s, 220)
  else if (s.own ch).isSome then (s.stop, 220)
  else if f.c ≤ s.last then (s.stop, 220)
  else match s.oth ch with
    | some g => if g ≠ f then (s.stop, 220) else (⟨none, none, some f, f.c, false⟩, 0)
    | none => (s.lay ch f, 0)
def VSt.fin (s : VSt) : VSt × Int := if s.p0.isSome ∨ s.p1.isSome then (s.stop, 220) else if s.stopped then (s, 220) else (s, 0)

/-- a pointer to a frame, or none -/
def PtrAt (w : World) (x : Option Frm) (v : Value) : Prop :=
  match x with
  | none => v = .pointer none
  | some f => ∃ b fr, v = .pointer (some ⟨b, 0, none⟩) ∧ w.heap[b]? = some (Obj.cells #[.int .i64 f.c, .int .i64 f.e, .int .u64 f.p, .int .u32 f.q] 27 fr)
def VoteAt (w : World) (g : Nat) (s : VSt) : Prop :=
  ∃ v0 v1 v2, w.heap[g]? = some (.cells #[v0, v1, v2, .int .i64 s.last, .bool s.stopped] 56 (0, 0)) ∧ PtrAt w s.p0 v0 ∧ PtrAt w s.p1 v1 ∧ PtrAt w s.shown v2
theorem PtrAt.keep {w w' : World} {x : Option Frm} {v : Value} (h : PtrAt w x v) (hk : ∀ (b : Nat) (f : Frm) (fr : Nat × Nat), w.heap[b]? = some (Obj.cells #[.int .i64 f.c, .int .i64 f.e, .int .u64 f.p, .int .u32 f.q] 27 fr) → w'.heap[b]? = some (Obj.cells #[.int .i64 f.c, .int .i64 f.e, .int .u64 f.p, .int .u32 f.q] 27 fr)) : PtrAt w' x v := by
  cases x with
  | none => exact h
  | some f => obtain ⟨b, fr, h1, h2⟩ := h; exact ⟨b, fr, h1, hk b f fr h2⟩
theorem PtrAt.only {w w' : World} {x : Option Frm} {v : Value} {g : Nat} {C : Array Value} {t : TypeId} {fr : Nat × Nat} (hg : w.heap[g]? = some (.cells C t fr)) (hC : C.size ≠ 4) (ho : Only g w w') (h : PtrAt w x v) : PtrAt w' x v :=
  h.keep fun b f fr hb => ho.keep (by rintro rfl; rw [hg] at hb; cases hb; exact hC rfl) hb
theorem VoteAt.below {w w' : World} {g : Nat} {s : VSt} (hb : Below w.heap.size w w') (h : VoteAt w g s) : VoteAt w' g s := by
  obtain ⟨v0, v1, v2, h0, h1, h2, h3⟩ := h
  exact ⟨v0, v1, v2, blk_keep hb h0, h1.keep fun _ _ _ h => blk_keep hb h, h2.keep fun _ _ _ h => blk_keep hb h, h3.keep fun _ _ _ h => blk_keep hb h⟩
theorem VoteAt.only {w w' : World} {g k : Nat} {s : VSt} {C : Array Value} {t : TypeId} {fr : Nat × Nat} (hk : w.heap[k]? = some (.cells C t fr)) (h4 : C.size ≠ 4) (h5 : C.size ≠ 5) (ho : Only k w w') (h : VoteAt w g s) : VoteAt w' g s := by
  obtain ⟨v0, v1, v2, h0, h1, h2, h3⟩ := h
  exact ⟨v0, v1, v2, ho.keep (by rintro rfl; rw [hk] at h0; cases h0; exact h5 rfl) h0, h1.only hk h4 ho, h2.only hk h4 ho, h3.only hk h4 ho⟩
theorem VoteAt.lt {w : World} {g : Nat} {s : VSt} (h : VoteAt w g s) : g < w.heap.size := by
  obtain ⟨v0, v1, v2, h0, _⟩ := h; exact blk_lt h0

/-! ### equality of frames -/
theorem out_plain : Try.prog.stoodInHeld 25 = false := by kernel_rfl
theorem frm_plain : Try.prog.stoodInHeld 27 = false := by kernel_rfl
theorem frm_guard : Try.prog.eqGuardType Try.prog.depth 27 = false := by kernel_rfl
theorem out_fields : (Try.prog.fieldsOf 25).toList.map (fun f => (f.name, f.type, f.offset)) = [("Proceed", 22, 0), ("Points", 23, 1)] := by kernel_rfl
theorem frm_fields : (Try.prog.fieldsOf 27).toList.map (fun f => (f.name, f.type, f.offset)) = [("Cycle", 2, 0), ("Epoch", 2, 1), ("Out", 25, 2)] := by kernel_rfl
theorem out_equal (w : World) (p1 q1 p2 q2 : Int) : (Op.equalIn 9999 25 (.agg #[.int .u64 p1, .int .u32 q1]) (.agg #[.int .u64 p2, .int .u32 q2])).run Try.prog w = .ok (p1 == p2 && q1 == q2) w := by
  rw [run_equalIn_agg w 9998 25 _ _ (by kernel_rfl) out_plain]
  have h := out_fields
  obtain ⟨f, L1, hL, hf, h1⟩ := List.map_eq_cons_iff.1 h
  obtain ⟨g, L2, hL1, hg, h2⟩ := List.map_eq_cons_iff.1 h1
  obtain rfl := List.map_eq_nil_iff.1 h2
  simp only [Prod.mk.injEq] at hf hg
  obtain ⟨a1, a2, a3⟩ := hf
  obtain ⟨b1, b2, b3⟩ := hg
  rw [hL, hL1]
  cases hk : p1 == p2 <;> cases hn : q1 == q2
  all_goals simp [Op.eqFields, a1, a2, a3, b1, b2, b3, part, go_sem, hk, hn]
theorem frm_equal (w : World) (c1 e1 p1 q1 c2 e2 p2 q2 : Int) : (Op.equalIn 10000 27 (.agg #[.int .i64 c1, .int .i64 e1, .int .u64 p1, .int .u32 q1]) (.agg #[.int .i64 c2, .int .i64 e2, .int .u64 p2, .int .u32 q2])).run Try.prog w = .ok (c1 == c2 && (e1 == e2 && (p1 == p2 && q1 == q2))) w := by
  rw [run_equalIn_agg w 9999 27 _ _ (by kernel_rfl) frm_plain]
  have h := frm_fields
  have ho := out_equal
  obtain ⟨f, L1, hL, hf, h1⟩ := List.map_eq_cons_iff.1 h
  obtain ⟨g, L2, hL1, hg, h2⟩ := List.map_eq_cons_iff.1 h1
  obtain ⟨k, L3, hL2, hk, h3⟩ := List.map_eq_cons_iff.1 h2
  obtain rfl := List.map_eq_nil_iff.1 h3
  simp only [Prod.mk.injEq] at hf hg hk
  obtain ⟨a1, a2, a3⟩ := hf
  obtain ⟨b1, b2, b3⟩ := hg
  obtain ⟨k1, k2, k3⟩ := hk
  rw [hL, hL1, hL2]
  cases hc : c1 == c2 <;> cases he : e1 == e2 <;> cases hp : p1 == p2 <;> cases hq : q1 == q2
  all_goals simp [Op.eqFields, a1, a2, a3, b1, b2, b3, k1, k2, k3, part, go_sem, hc, he, hp, hq, ho]
theorem frm_beq (f g : Frm) : (f.c == g.c && (f.e == g.e && (f.p == g.p && f.q == g.q))) = decide (f = g) := by
  rw [Bool.eq_iff_iff]
  cases f; cases g
  simp [Frm.mk.injEq]
theorem neq_frm (f g : Frm) (w : World) : (binOp .neq 27 (.agg #[.int .i64 f.c, .int .i64 f.e, .int .u64 f.p, .int .u32 f.q]) (.agg #[.int .i64 g.c, .int .i64 g.e, .int .u64 g.p, .int .u32 g.q])).run Try.prog w = .ok (.bool (!decide (f = g))) w := by
  rw [run_neq_struct, frm_equal, frm_beq]; rfl
theorem eql_frm (f g : Frm) (w : World) : (binOp .eql 27 (.agg #[.int .i64 f.c, .int .i64 f.e, .int .u64 f.p, .int .u32 f.q]) (.agg #[.int .i64 g.c, .int .i64 g.e, .int .u64 g.p, .int .u32 g.q])).run Try.prog w = .ok (.bool (decide (f = g))) w := by
  rw [run_eql_struct, frm_equal, frm_beq]; rfl
end Go.Proofs.Ytamgaaakmldlbaa
