/-
  Chapter 26: a switch that is not there; the closed statement's row of calls.
-/
import Derived.Test.YtoedipajcmmhjaaSwM
import Derived.Test.YtoedipajcmmhjaaSwL
import Derived.Test.YtoedipajcmmhjaaAppend
namespace Go.Proofs.Ytoedipajcmmhjaa
open Go.RowKit

theorem nil_tick (t : Int) (w : World) : Calls Try.prog 9 #[.pointer none, .int .i64 t] w fun e w' => e = .returned (.int .u8 0) ∧ Below w.heap.size w w' := by
  go_enter Try.func9, Try.ntmps9
  go_wp2_with fail
  go_ret
  exact ⟨rfl, Below.refl _ _⟩
theorem nil_granted (a b : Int) (w : World) : Calls Try.prog 14 #[.pointer none, .agg #[.int .i64 a, .int .i64 b]] w fun e w' => e = .returned (.int .i64 1) ∧ Below w.heap.size w w' := by
  go_enter Try.func14, Try.ntmps14
  go_wp2_with fail
  go_ret
  exact ⟨rfl, below1 _ _⟩
theorem nil_refused (w : World) : Calls Try.prog 15 #[.pointer none] w fun e w' => e = .returned (.int .u8 0) ∧ Below w.heap.size w w' := by
  go_enter Try.func15, Try.ntmps15
  go_wp2_with fail
  go_ret
  exact ⟨rfl, Below.refl _ _⟩
theorem nil_beat (t : Int) (w : World) : Calls Try.prog 11 #[.pointer none, .int .i64 t] w fun e w' => e = .returned (.int .u8 0) ∧ Below w.heap.size w w' := by
  go_enter Try.func11, Try.ntmps11
  go_wp2_with fail
  go_ret
  exact ⟨rfl, Below.refl _ _⟩
theorem nil_role (w : World) : Calls Try.prog 8 #[.pointer none] w fun e w' => e = .returned (.int .u8 0) ∧ Below w.heap.size w w' := by
  go_enter Try.func8, Try.ntmps8
  go_wp2_with fail
  go_ret
  exact ⟨rfl, Below.refl _ _⟩
theorem nil_epoch (w : World) : Calls Try.prog 12 #[.pointer none] w fun e w' => e = .returned (.int .i64 0) ∧ Below w.heap.size w w' := by
  go_enter Try.func12, Try.ntmps12
  go_wp2_with fail
  go_ret
  exact ⟨rfl, Below.refl _ _⟩
theorem nil_known (w : World) : Calls Try.prog 16 #[.pointer none] w fun e w' => e = .returned (.int .i64 0) ∧ Below w.heap.size w w' := by
  go_enter Try.func16, Try.ntmps16
  go_wp2_with fail
  go_ret
  exact ⟨rfl, Below.refl _ _⟩
theorem nil_holds (t : Int) (w : World) : Calls Try.prog 13 #[.pointer none, .int .i64 t] w fun e w' => e = .returned (.bool false) ∧ Below w.heap.size w w' := by
  go_enter Try.func13, Try.ntmps13
  go_wp2_with fail
  go_quiet (fail)
  go_wp2_with fail
  go_ret
  exact ⟨rfl, below_drewN (Below.refl _ w) _⟩
/-- calls as cells -/
def clCells : List Cl → List Value
  | [] => []
  | c :: l => .int .u8 (c.k : Int) :: .int .i64 c.n :: .int .i64 c.a :: .int .i64 c.b :: clCells l
theorem clCells_length (l : List Cl) : (clCells l).length = l.length * 4 := by
  induction l with
  | nil => rfl
  | cons c l ih => simp [clCells, ih]; omega
theorem clCells_append (l m : List Cl) : clCells (l ++ m) = clCells l ++ clCells m := by
  induction l with
  | nil => rfl
  | cons c l ih => simp [clCells, ih]
theorem clCells_get (l : List Cl) : ∀ (i : Nat) (c : Cl), l[i]? = some c → (clCells l)[i * 4]? = some (.int .u8 (c.k : Int)) ∧ (clCells l)[i * 4 + 1]? = some (.int .i64 c.n) ∧ (clCells l)[i * 4 + 2]? = some (.int .i64 c.a) ∧ (clCells l)[i * 4 + 3]? = some (.int .i64 c.b) := by
  induction l with
  | nil => intro i c h; simp at h
  | cons d l ih =>
    intro i c h
    cases i with
    | zero => simp at h; subst h; exact ⟨rfl, rfl, rfl, rfl⟩
    | succ i =>
      have := ih i c (by simpa using h)
      rw [show (i + 1) * 4 = i * 4 + 1 + 1 + 1 + 1 by omega]
      exact ⟨by simpa [clCells] using this.1, by simpa [clCells] using this.2.1, by simpa [clCells] using this.2.2.1, by simpa [clCells] using this.2.2.2⟩
theorem clCells_one (l : List Cl) : ∀ u ∈ clCells l, u.oneCell' = true := by
  induction l with
  | nil => intro u h; simp [clCells] at h
  | cons c l ih =>
    intro u h
    rcases List.mem_cons.1 h with rfl | h
    · rfl
    rcases List.mem_cons.1 h with rfl | h
    · rfl
    rcases List.mem_cons.1 h with rfl | h
    · rfl
    rcases List.mem_cons.1 h with rfl | h
    · rfl
    · exact ih u h
/-- a block that holds just these cells is a source of them -/
theorem src_lit {w : World} {g : Nat} {t : TypeId} {fr : Nat × Nat} {C : Array Value} {l : List Value} (c : Nat) (h1 : ∀ u ∈ l, u.oneCell' = true) (hC : C.toList = l) (hg : w.heap[g]? = some (.cells C t fr)) : SrcAt w (some ⟨g, 0, none⟩) c l := by
  refine ⟨fun h => (by cases h), h1, fun ad had j u hu => ?_⟩
  obtain rfl := Option.some.inj had
  rw [Addr.add_lit, Nat.zero_add]
  subst hC
  exact blk_cell hg j u (by rw [← Array.getElem?_toList]; exact hu)
theorem own_cls {w : World} {base : Nat} {e : TypeId} {v : Value} {n : Nat} {l : List Cl} (hb : ∀ c ∈ l, c.k < 256) (hn : l.length = n) (h : w.ownsRow base e 4 v n (clCells l)) :
    ∃ a cap, v = .slice a n cap ∧ ClsAt w a l := by
  rcases h.2 with ⟨rfl, rfl⟩ | ⟨g, cap, cur, rfl, hg, hheap, hncap, hcm, hsz, htake⟩
  · exact ⟨none, 0, rfl, hb, .inl (List.eq_nil_of_length_eq_zero hn)⟩
  · refine ⟨some ⟨g, 0, none⟩, cap, rfl, hb, .inr ⟨g, 0, rfl, fun i c hi => ?_⟩⟩
    have hil : i < l.length := (List.getElem?_eq_some_iff.1 hi).1
    obtain ⟨g1, g2, g3, g4⟩ := clCells_get l i c hi
    have hcur : ∀ j v, j < n * 4 → (clCells l)[j]? = some v → w.cell? ⟨g, 0 + j, none⟩ = some v := fun j v hj hv => by
      rw [Nat.zero_add]
      refine blk_cell hheap j v ?_
      rw [← Array.getElem?_toList, ← hv, ← htake, List.getElem?_take, if_pos hj]
    exact ⟨hcur _ _ (by omega) g1, hcur _ _ (by omega) g2, hcur _ _ (by omega) g3, hcur _ _ (by omega) g4⟩
theorem info_cl : (Try.prog.info? 46).map (fun i => (i.zero, i.size, i.bytes)) = some (some (.agg #[.int .u8 0, .int .i64 0, .int .i64 0, .int .i64 0]), 4, 32) := by kernel_rfl
/-- the first six calls -/
def firsts : Nat → List Cl
  | 0 => []
  | n + 1 => firsts n ++ [⟨0, n, 0, 0⟩]
theorem firsts_len (n : Nat) : (firsts n).length = n := by
  induction n with
  | zero => rfl
  | succ n ih => simp [firsts, ih]
def rests : List Cl := [⟨2, 0, 0, 9⟩, ⟨2, 0, 1099511627777, 9⟩, ⟨2, 0, 1, -1⟩, ⟨3, 0, 0, 0⟩, ⟨2, 0, 2, 20⟩, ⟨0, 14, 0, 0⟩, ⟨0, 15, 0, 0⟩, ⟨0, 16, 0, 0⟩, ⟨0, 18, 0, 0⟩, ⟨2, 0, 2, 24⟩, ⟨2, 0, 1, 40⟩, ⟨4, 2, 0, 0⟩, ⟨4, 3, 0, 0⟩, ⟨2, 0, 2, 50⟩, ⟨4, 9, 0, 0⟩, ⟨2, 0, 8, 50⟩, ⟨2, 0, 9, 50⟩, ⟨4, 1, 0, 0⟩, ⟨4, 1099511627777, 0, 0⟩, ⟨3, 0, 0, 0⟩, ⟨2, 0, 1099511627776, 1099511627776⟩, ⟨0, -1, 0, 0⟩, ⟨4, 1099511627776, 0, 0⟩, ⟨0, 4611686018427387904, 0, 0⟩]
theorem rests_len : rests.length = 24 := rfl
theorem calls_ok : ∀ c ∈ firsts 6 ++ rests, c.k < 256 := by simp [firsts, rests]
def steps : List Stp := [⟨5, 0⟩, ⟨0, 0⟩, ⟨5, 1⟩, ⟨2, 0⟩, ⟨4, 0⟩, ⟨5, 0⟩, ⟨0, 0⟩, ⟨0, 0⟩, ⟨0, 0⟩, ⟨0, 0⟩, ⟨0, 0⟩, ⟨0, 0⟩, ⟨0, 0⟩, ⟨0, 0⟩, ⟨0, 0⟩, ⟨5, 1⟩, ⟨2, 0⟩]
def stpCells : List Stp → List Value
  | [] => []
  | c :: l => .int .u8 (c.k : Int) :: .int .u8 (c.p : Int) :: stpCells l
theorem stpCells_get (l : List Stp) : ∀ (i : Nat) (c : Stp), l[i]? = some c → (stpCells l)[i * 2]? = some (.int .u8 (c.k : Int)) ∧ (stpCells l)[i * 2 + 1]? = some (.int .u8 (c.p : Int)) := by
  induction l with
  | nil => intro i c h; simp at h
  | cons d l ih =>
    intro i c h
    cases i with
    | zero => simp at h; subst h; exact ⟨rfl, rfl⟩
    | succ i =>
      have := ih i c (by simpa using h)
      rw [show (i + 1) * 2 = i * 2 + 1 + 1 by omega]
      exact ⟨by simpa [stpCells] using this.1, by simpa [stpCells] using this.2⟩
theorem steps_lit {w : World} {g : Nat} {t : TypeId} {fr : Nat × Nat} {C : Array Value} (l : List Stp) (hl : ∀ c ∈ l, c.k < 256 ∧ c.p < 256) (hC : C.toList = stpCells l) (hg : w.heap[g]? = some (.cells C t fr)) : StpsAt w (some ⟨g, 0, none⟩) l := by
  refine ⟨hl, .inr ⟨g, 0, rfl, fun i c hi => ?_⟩⟩
  obtain ⟨g1, g2⟩ := stpCells_get l i c hi
  rw [← hC, Array.getElem?_toList] at g1 g2
  rw [Nat.zero_add]
  exact ⟨blk_cell hg _ _ g1, blk_cell hg _ _ g2⟩
theorem steps_ok : ∀ c ∈ steps, c.k < 256 ∧ c.p < 256 := by simp [steps]
end Go.Proofs.Ytoedipajcmmhjaa
