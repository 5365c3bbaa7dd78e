/-
  Walks of package layout: the book of names; below; may.
-/
import Derived.Test.YtdkcpejlojdijaaToA
import Derived.Test.YtdkcpejlojdijaaObj
import Derived.MapKept
import Derived.Deep.DeepCutAuto
import Derived.Deep.CutBlock
import Derived.Deep.LoopGhost
namespace Go.Proofs.Ytdkcpejlojdijaa
open Go.RowKit
attribute [local irreducible] signB rgo rightS

/-- block r is a map whose keys are these texts -/
def NmsAt (w : World) (r : Nat) (L : List BA) : Prop := ∃ es clock, w.heap[r]? = some (.map es clock) ∧ es.toList.map (·.key) = L.map Value.string
theorem NmsAt.below {w w' : World} {r : Nat} {L : List BA} (h : NmsAt w r L) (hb : Below w.heap.size w w') : NmsAt w' r L := by
  obtain ⟨es, clock, h1, h2⟩ := h
  exact ⟨es, clock, blk_keep hb h1, h2⟩
theorem nm_keys {es : List MapEntry} {L : List BA} (h : es.map (·.key) = L.map Value.string) : ∀ x ∈ es, MapKept.IsKey .string x.key := by
  intro x hx
  have : x.key ∈ L.map Value.string := by rw [← h]; exact List.mem_map.2 ⟨x, hx, rfl⟩
  obtain ⟨s, _, hs⟩ := List.mem_map.1 this
  rw [← hs]
  exact trivial
theorem nm_no {es : List MapEntry} {L : List BA} {s : BA} (h : es.map (·.key) = L.map Value.string) (hs : s ∉ L) : Instr.findNow .string (.string s) es 0 = some none := by
  rcases MapKept.findNow_spec (d := .string) (k := .string s) trivial es 0 (nm_keys h) with ⟨h1, _⟩ | ⟨j, e, _, h2, h3⟩
  · exact h1
  · exfalso
    apply hs
    have : e.key ∈ L.map Value.string := by rw [← h]; exact List.mem_map.2 ⟨e, List.mem_of_getElem? h2, rfl⟩
    obtain ⟨t, ht, he⟩ := List.mem_map.1 this
    rw [h3] at he
    cases he
    exact ht
theorem nm_yes {es : List MapEntry} {L : List BA} {s : BA} (h : es.map (·.key) = L.map Value.string) (hs : s ∈ L) : ∃ j v, Instr.findNow .string (.string s) es 0 = some (some (j, v)) := by
  rcases MapKept.findNow_spec (d := .string) (k := .string s) trivial es 0 (nm_keys h) with ⟨_, h2⟩ | ⟨j, e, h1, _, _⟩
  · exfalso
    have : Value.string s ∈ es.map (·.key) := by rw [h]; exact List.mem_map.2 ⟨s, hs, rfl⟩
    obtain ⟨x, hx, he⟩ := List.mem_map.1 this
    exact h2 x hx he
  · exact ⟨_, _, h1⟩
theorem info_any : (Try.prog.info? 20).map (fun i => (i.zero, i.size, i.bytes)) = some (some .nilIface, 1, 16) := by kernel_rfl
theorem run_nm_yes {w : World} {r : Nat} {L : List BA} {s : BA} (h : NmsAt w r L) (hs : s ∈ L) : ∃ v, (Instr.lookup 63 (.map (some r)) (.string s) true).run Try.prog w = .ok (.tuple #[v, .bool true]) w := by
  obtain ⟨es, clock, h1, h2⟩ := h
  obtain ⟨j, v, h3⟩ := nm_yes h2 hs
  have hc : (Instr.checkKey es.isEmpty 10000 9 (.string s)).run Try.prog w = .ok () w := MapKept.run_checkKey (k := .string s) Try.underlying9 (by simp [MapKept.IsKey]) es.isEmpty 9999
  exact ⟨v, by simp [Instr.lookup, run_underlying Try.underlying63, MapKept.run_getObj_map h1, hc, MapKept.run_findKey Try.underlying9 h3, Result.andThen]⟩
theorem run_nm_no {w : World} {r : Nat} {L : List BA} {s : BA} (h : NmsAt w r L) (hs : s ∉ L) : (Instr.lookup 63 (.map (some r)) (.string s) true).run Try.prog w = .ok (.tuple #[.nilIface, .bool false]) w := by
  obtain ⟨es, clock, h1, h2⟩ := h
  have h3 := nm_no h2 hs
  have hc : (Instr.checkKey es.isEmpty 10000 9 (.string s)).run Try.prog w = .ok () w := MapKept.run_checkKey (k := .string s) Try.underlying9 (by simp [MapKept.IsKey]) es.isEmpty 9999
  obtain ⟨i0, hi, hz0, _, _⟩ := info_parts info_any
  have hz : (zeroValue 20).run Try.prog w = .ok .nilIface w := by simp [zeroValue, typeInfo, hi, hz0, Result.andThen]
  simp [Instr.lookup, run_underlying Try.underlying63, MapKept.run_getObj_map h1, hc, MapKept.run_findKey Try.underlying9 h3, hz, Result.andThen]
theorem run_nm_put {w : World} {r : Nat} {L : List BA} {s : BA} (v : Value) (h : NmsAt w r L) (hs : s ∉ L) : ∃ w', (Instr.mapUpdate 63 (.map (some r)) (.string s) v).run Try.prog w = .ok () w' ∧ NmsAt w' r (L ++ [s]) ∧ Only r w w' := by
  obtain ⟨es, clock, h1, h2⟩ := h
  have h3 := nm_no h2 hs
  have hc : (Instr.checkKey false 10000 9 (.string s)).run Try.prog w = .ok () w := MapKept.run_checkKey (k := .string s) Try.underlying9 (by simp [MapKept.IsKey]) false 9999
  refine ⟨{ w with heap := w.heap.setIfInBounds r (.map (es.push { key := .string s, val := v, born := clock }) (clock + 1)) }, ?_, ?_, ?_⟩
  · simp [Instr.mapUpdate, run_underlying Try.underlying63, MapKept.run_getObj_map h1, hc, MapKept.run_findKey Try.underlying9 h3, MapKept.run_setObj_map _ h1, Result.andThen]
  · exact ⟨_, _, (MapKept.heap_set h1).1, by rw [Array.toList_push, List.map_append, h2, List.map_append]; rfl⟩
  · exact ⟨rfl, rfl, rfl, by simp, fun k _ hk => (MapKept.heap_set h1).2 k hk⟩
/-- block gb is a book with the names L, which lie in block r -/
structure BookAt (w : World) (gb r : Nat) (L : List BA) : Prop where
  b : ∃ v0 v1 v2 v3 : Value, w.heap[gb]? = some (.cells #[v0, v1, v2, v3, .map (some r)] 65)
  n : NmsAt w r L
  ne : gb ≠ r
theorem BookAt.below {w w' : World} {gb r : Nat} {L : List BA} (h : BookAt w gb r L) (hb : Below w.heap.size w w') : BookAt w' gb r L := by
  obtain ⟨⟨v0, v1, v2, v3, h1⟩, h2, h3⟩ := h
  exact ⟨⟨v0, v1, v2, v3, blk_keep hb h1⟩, h2.below hb, h3⟩
theorem fresh_yes (gb r : Nat) (L : List BA) (s : BA) (v : Value) (w : World) (h : BookAt w gb r L) (hs : s ∉ L) :
    Calls Try.prog 35 #[.pointer (some ⟨gb, 0, none⟩), .string s, v] w fun e w' => e = .returned (.bool true) ∧ BookAt w' gb r (L ++ [s]) ∧ Only r w w' := by
  obtain ⟨⟨v0, v1, v2, v3, h1⟩, h2, h3⟩ := h
  have c4 := blk_cell h1 4 _ rfl
  have hlk := run_nm_no h2 hs
  obtain ⟨w1, hup, hn, ho⟩ := run_nm_put v h2 hs
  have HE : Hid (BookAt w1 gb r (L ++ [s]) ∧ Only r w w1) := Lib.hid ⟨⟨⟨v0, v1, v2, v3, ho.keep h3 h1⟩, hn, h3⟩, ho⟩
  clear h1 h2 h3 hn ho hs
  go_enter Try.func35, Try.ntmps35
  go_wp2_with fail
  go_ret
  exact ⟨rfl, HE.out.1, HE.out.2⟩
theorem fresh_no (gb r : Nat) (L : List BA) (s : BA) (v : Value) (w : World) (h : BookAt w gb r L) (hs : s ∈ L) :
    Calls Try.prog 35 #[.pointer (some ⟨gb, 0, none⟩), .string s, v] w fun e w' => e = .returned (.bool false) ∧ w = w' := by
  obtain ⟨⟨v0, v1, v2, v3, h1⟩, h2, h3⟩ := h
  have c4 := blk_cell h1 4 _ rfl
  obtain ⟨u, hlk⟩ := run_nm_yes h2 hs
  clear h1 h2 h3 hs
  go_enter Try.func35, Try.ntmps35
  go_wp2_with fail
  go_ret
  exact ⟨rfl, rfl⟩
/-- are all numbers from 0 up to n, n left out? -/
def belowB (n : Nat) (l : List Int) : Bool := l.all fun x => decide (0 ≤ x ∧ x < (n : Int))
theorem belowB_snoc (n : Nat) (l : List Int) (x : Int) : belowB n (l ++ [x]) = (belowB n l && decide (0 ≤ x ∧ x < (n : Int))) := by unfold belowB; rw [List.all_append]; simp
theorem belowB_take {n : Nat} {l : List Int} {k : Nat} {x : Int} (h : l[k]? = some x) : belowB n (l.take (k + 1)) = (belowB n (l.take k) && decide (0 ≤ x ∧ x < (n : Int))) := by
  rw [List.take_add_one, h]; exact belowB_snoc _ _ _
theorem belowB_false {n : Nat} {l : List Int} {k : Nat} {x : Int} (h : l[k]? = some x) (hx : ¬ (0 ≤ x ∧ x < (n : Int))) : belowB n l = false := by
  unfold belowB
  rw [List.all_eq_false]
  exact ⟨x, List.mem_of_getElem? h, by simp; omega⟩
attribute [local irreducible] belowB
theorem below_is (n : Nat) (x : Option Addr) (m c : Nat) (l : List Int) (w : World) (hn : l.length = m) (hm : m ≤ 9223372036854775807) (hl : RowAt 1 intC w x l) :
    Calls Try.prog 36 #[.int .i64 (n : Int), .slice x m c] w fun e w' => e = .returned (.bool (belowB n l)) ∧ w = w' := by
  have HN := Lib.hid hn
  clear hn
  go_enter Try.func36, Try.ntmps36
  go_wp2_with fail
  go_loopg [6, 9] m (fun g _ i wr => ∃ k : Nat, k + g = m ∧ i = .int .i64 (k : Int) ∧ belowB n (l.take k) = true ∧ w = wr)
  case atStart => exact ⟨0, by omega, rfl, by unfold belowB; rfl, rfl⟩
  case round =>
    obtain ⟨k, hk, rfl, hb, rfl⟩ := hrel
    have HB := Lib.hid hb
    clear hb
    by_cases hlt : k < m
    · obtain ⟨y, hy⟩ : ∃ y, l[k]? = some y := ⟨_, List.getElem?_eq_getElem (by rw [HN.out]; exact hlt)⟩
      rcases hl with rfl | ⟨b, off, rfl, hc⟩
      · simp at hy
      have z0 := hc k y hy 0 _ rfl
      rw [Nat.add_zero, Nat.mul_one] at z0
      have HY := Lib.hid hy
      have d1 : (0 : Int) ≤ k := by omega
      have d2 : (k : Int) < m := by omega
      have e1 : wrap64 ((k : Int) + 1) = (k : Int) + 1 := by unfold wrap64; omega
      have HK := Lib.hid hk
      clear hc hy hk
      by_cases h1 : y < 0
      · have HF := Lib.hid (belowB_false (n := n) HY.out (by omega))
        go_wp2_with fail
        go_ret
        exact ⟨by rw [HF.out]; rfl, rfl⟩
      by_cases h2 : (n : Int) ≤ y
      · have HF := Lib.hid (belowB_false (n := n) HY.out (by omega))
        go_wp2_with fail
        go_ret
        exact ⟨by rw [HF.out]; rfl, rfl⟩
      · have HT : Hid (belowB n (l.take (k + 1)) = true) := Lib.hid (by rw [belowB_take HY.out, HB.out, decide_eq_true (by omega)]; rfl)
        go_wp2_with fail
        go_roundg (m - (k + 1))
        case rel => exact ⟨k + 1, by have := HK.out; omega, by go_num, HT.out, rfl⟩
        case measure => have := HK.out; omega
    · obtain rfl : k = m := by omega
      have HT : Hid (belowB n l = true) := Lib.hid (by have := HB.out; rwa [List.take_of_length_le (by rw [HN.out]; exact Nat.le_refl _)] at this)
      go_wp2_with fail
      go_ret
      exact ⟨by rw [HT.out]; rfl, rfl⟩
end Go.Proofs.Ytdkcpejlojdijaa
