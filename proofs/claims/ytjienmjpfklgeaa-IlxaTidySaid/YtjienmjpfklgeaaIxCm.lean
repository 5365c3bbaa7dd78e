/-
  Layer 10: rows of commands.
-/
import Derived.Test.YtjienmjpfklgeaaMA
import Derived.RegionTactic
import Derived.Deep.QuietTactic
import Derived.BigQuiet
namespace Go.Proofs.Ytjienmjpfklgeaa
open Go.RowKit

/-- a row of commands that lies in memory -/
def CmdsAt (w : World) (a : Option Addr) (l : List (Nat × Int)) : Prop :=
  (∀ c ∈ l, c.1 < 256 ∧ -9223372036854775808 ≤ c.2 ∧ c.2 ≤ 9223372036854775807) ∧
  (l = [] ∨ ∃ b off, a = some ⟨b, off, none⟩ ∧ ∀ i c, l[i]? = some c → w.cell? ⟨b, off + i * 2, none⟩ = some (.int .u8 (c.1 : Int)) ∧ w.cell? ⟨b, off + i * 2 + 1, none⟩ = some (.int .i64 c.2))
theorem CmdsAt.below {w w' : World} {a : Option Addr} {l : List (Nat × Int)} (hb : Below w.heap.size w w') (h : CmdsAt w a l) : CmdsAt w' a l := by
  refine ⟨h.1, h.2.imp id ?_⟩
  rintro ⟨b, off, rfl, hc⟩
  exact ⟨b, off, rfl, fun i c hi => ⟨cell_later hb (hc i c hi).1, cell_later hb (hc i c hi).2⟩⟩
theorem CmdsAt.at {w : World} {a : Option Addr} {l : List (Nat × Int)} (h : CmdsAt w a l) {i : Nat} (hi : i < l.length) :
    ∃ b off k n, a = some ⟨b, off, none⟩ ∧ l[i]? = some (k, n) ∧ k < 256 ∧ (-9223372036854775808 ≤ n ∧ n ≤ 9223372036854775807) ∧ w.cell? ⟨b, off + i * 2, none⟩ = some (.int .u8 (k : Int)) ∧ w.cell? ⟨b, off + i * 2 + 1, none⟩ = some (.int .i64 n) := by
  obtain ⟨b, off, rfl, hc⟩ := h.2.resolve_left (by rintro rfl; simp at hi)
  have hg := List.getElem?_eq_getElem hi
  have hm := h.1 _ (List.getElem_mem hi)
  obtain ⟨h1, h2⟩ := hc i _ hg
  exact ⟨b, off, l[i].1, l[i].2, rfl, hg, hm.1, hm.2, h1, h2⟩

theorem cmd_guard : Try.prog.eqGuardType Try.prog.depth 74 = false := by kernel_rfl
theorem cmd_plain : Try.prog.stoodInHeld 74 = false := by kernel_rfl
theorem cmd_fields : (Try.prog.fieldsOf 74).toList.map (fun f => (f.name, f.type, f.offset)) = [("Kind", 5, 0), ("N", 3, 1)] := by kernel_rfl
theorem cmd_equal (w : World) (k1 k2 n1 n2 : Int) : (Op.equalIn 10000 74 (.agg #[.int .u8 k1, .int .i64 n1]) (.agg #[.int .u8 k2, .int .i64 n2])).run Try.prog w = .ok (k1 == k2 && n1 == n2) w := by
  rw [run_equalIn_agg w 9999 74 _ _ (by kernel_rfl) cmd_plain]
  have h := cmd_fields
  obtain ⟨f, L1, hL, hf, h1⟩ := List.map_eq_cons_iff.1 h
  obtain ⟨g, L2, hL1, hg, h2⟩ := List.map_eq_cons_iff.1 h1
  obtain rfl := List.map_eq_nil_iff.1 h2
  simp only [Prod.mk.injEq] at hf hg
  obtain ⟨a1, a2, a3⟩ := hf
  obtain ⟨b1, b2, b3⟩ := hg
  rw [hL, hL1]
  cases hk : k1 == k2 <;> cases hn : n1 == n2
  all_goals simp [Op.eqFields, a1, a2, a3, b1, b2, b3, part, go_sem, hk, hn]
theorem neq_cmd (k1 k2 n1 n2 : Int) (w : World) : (binOp .neq 74 (.agg #[.int .u8 k1, .int .i64 n1]) (.agg #[.int .u8 k2, .int .i64 n2])).run Try.prog w = .ok (.bool (!(k1 == k2 && n1 == n2))) w := by
  rw [run_neq_struct, cmd_equal]; rfl

theorem cmd_diff {la lb : List (Nat × Int)} {k k1 k2 : Nat} {n1 n2 : Int} (h1 : la[k]? = some (k1, n1)) (h2 : lb[k]? = some (k2, n2)) (h : (!(k1 : Int) == (k2 : Int)) = true ∨ (!n1 == n2) = true) : decide (la = lb) = false := by
  apply decide_eq_false
  rintro rfl
  rw [h1] at h2
  simp only [Option.some.injEq, Prod.mk.injEq] at h2
  obtain ⟨rfl, rfl⟩ := h2
  simp at h
theorem cmd_same {la lb : List (Nat × Int)} {k k1 k2 : Nat} {n1 n2 : Int} (h1 : la[k]? = some (k1, n1)) (h2 : lb[k]? = some (k2, n2)) (h : (!(k1 : Int) == (k2 : Int)) = false ∧ (!n1 == n2) = false) (ht : la.take k = lb.take k) : la.take (k + 1) = lb.take (k + 1) := by
  have e1 : (k1 : Int) = k2 := by simpa using h.1
  have e2 : n1 = n2 := by simpa using h.2
  rw [List.take_add_one, List.take_add_one, ht, h1, h2, show k1 = k2 by omega, e2]
theorem cmd_all {la lb : List (Nat × Int)} {n : Nat} (h1 : la.length = n) (h2 : lb.length = n) (ht : la.take n = lb.take n) : decide (la = lb) = true := by
  apply decide_eq_true
  rw [← List.take_of_length_le (Nat.le_of_eq h1), ht, List.take_of_length_le (Nat.le_of_eq h2)]
theorem cmd_len {la lb : List (Nat × Int)} {n m : Nat} (h1 : la.length = n) (h2 : lb.length = m) (h : ¬ n = m) : decide (la = lb) = false := by
  apply decide_eq_false
  rintro rfl
  omega

end Go.Proofs.Ytjienmjpfklgeaa
