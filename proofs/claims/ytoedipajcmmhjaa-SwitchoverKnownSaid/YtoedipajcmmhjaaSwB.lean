/-
  Walks of package switchover: lead, Holds, Beat, Tick.
-/
import Derived.Test.YtoedipajcmmhjaaSwA
import Derived.Carry
import Derived.Deep.RegionWith
namespace Go.Proofs.Ytoedipajcmmhjaa
open Go.RowKit
attribute [local irreducible] takeR holdsB tm

theorem tholds_is (B : Bool) (p ge gu t : Int) (w : World) (hB : holdsB ge gu t = B) (h : -9223372036854775806 ≤ gu) (h2 : gu ≤ 9223372036854775807) :
    Calls Try.prog 24 #[.agg #[.int .i64 p, .int .i64 ge, .int .i64 gu], .int .i64 t] w fun e w' => e = .returned (.bool B) ∧ Below w.heap.size w w' := hB ▸ holds_any p ge gu t w h h2
theorem lead_is (s : Sw) (g : Nat) (t : Int) (w : World) (hs : s.ok) (h1 : 0 ≤ t) (h2 : t ≤ 1099511627776) (h : SwAt w g s) : Calls Try.prog 19 #[.pointer (some ⟨g, 0, none⟩), .int .i64 t] w fun e w' => e = .returned (.int .u8 (leadR s t).2) ∧ SwAt w' g (leadR s t).1 ∧ Only g w w' := by
  have HS := Lib.hid hs
  have HL := Lib.hid (show -9223372036854775806 ≤ s.gu ∧ s.gu ≤ 9223372036854775807 by have := hs.u1; have := hs.u2; omega)
  have hw : wrap64 (s.gu - t) = s.gu - t := by have := hs.u1; have := hs.u2; unfold wrap64; omega
  have c0 := blk_cell h 0 _ rfl
  have c1 := blk_cell h 1 _ rfl
  have c2 := blk_cell h 2 _ rfl
  have H := Lib.hid h
  clear h hs h1 h2
  cases hb : holdsB s.ge s.gu t with
  | false =>
    have HB := Lib.hid hb
    have HP : Hid (leadR s t = (s.back, 3)) := Lib.hid (by unfold leadR; rw [if_pos hb])
    clear hb
    go_enter Try.func19, Try.ntmps19
    go_wp2_with fail
    refine (tholds_is false _ _ _ _ _ HB.out HL.out.1 HL.out.2).mono ?_
    rintro e w1 ⟨rfl, hb1⟩
    have H1 := Lib.hid (H.out.below hb1)
    have HO := Lib.hid (Only.of_below (g := g) hb1)
    clear c0 c1 c2 hb1 H
    go_wp2_with fail
    refine (back_is s g _ H1.out).mono ?_
    rintro e w2 ⟨rfl, hs2, ho2⟩
    have HO2 := Lib.hid (HO.out.trans ho2)
    clear ho2 HO
    go_wp2_with fail
    go_ret
    rw [HP.out]
    exact ⟨rfl, hs2, HO2.out⟩
  | true =>
    have HB := Lib.hid hb
    have hn : ¬ holdsB s.ge s.gu t = false := by rw [hb]; decide
    by_cases h4 : s.gu - t ≤ 4
    · have HP : Hid (leadR s t = (s, 2)) := Lib.hid (by unfold leadR; rw [if_neg hn, if_pos h4])
      clear hb hn
      go_enter Try.func19, Try.ntmps19
      go_wp2_with fail
      refine (tholds_is true _ _ _ _ _ HB.out HL.out.1 HL.out.2).mono ?_
      rintro e w1 ⟨rfl, hb1⟩
      have h1 := H.out.below hb1
      have c2 := blk_cell h1 2 _ rfl
      have H1 := Lib.hid h1
      have HO := Lib.hid (Only.of_below (g := g) hb1)
      clear c0 c1 hb1 H h1
      go_wp2_with fail
      go_ret
      rw [HP.out]
      exact ⟨rfl, H1.out, HO.out⟩
    · have HP : Hid (leadR s t = (s, 0)) := Lib.hid (by unfold leadR; rw [if_neg hn, if_neg h4])
      clear hb hn
      go_enter Try.func19, Try.ntmps19
      go_wp2_with fail
      refine (tholds_is true _ _ _ _ _ HB.out HL.out.1 HL.out.2).mono ?_
      rintro e w1 ⟨rfl, hb1⟩
      have h1 := H.out.below hb1
      have c2 := blk_cell h1 2 _ rfl
      have H1 := Lib.hid h1
      have HO := Lib.hid (Only.of_below (g := g) hb1)
      clear c0 c1 hb1 H h1
      go_wp2_with fail
      go_ret
      rw [HP.out]
      exact ⟨rfl, H1.out, HO.out⟩
set_option maxHeartbeats 1000000 in
theorem beat_is (s : Sw) (g : Nat) (e : Int) (w : World) (h : SwAt w g s) : Calls Try.prog 11 #[.pointer (some ⟨g, 0, none⟩), .int .i64 e] w fun x w' => x = .returned (.int .u8 (beatR s e).2) ∧ SwAt w' g (beatR s e).1 ∧ Only g w w' := by
  have c1 := blk_cell h 1 _ rfl
  have c3 := blk_cell h 3 _ rfl
  have c4 := blk_cell h 4 _ rfl
  have c5 := blk_cell h 5 _ rfl
  have hf := blk_free h
  have H := Lib.hid h
  clear h
  by_cases h1 : e < 1
  · have HP : Hid (beatR s e = (s, 0)) := Lib.hid (by unfold beatR; rw [if_pos (.inl h1)])
    go_enter Try.func11, Try.ntmps11
    go_wp2_with fail
    go_ret
    rw [HP.out]
    exact ⟨rfl, H.out, Only.refl g w⟩
  by_cases h2 : 1099511627776 < e
  · have HP : Hid (beatR s e = (s, 0)) := Lib.hid (by unfold beatR; rw [if_pos (.inr (.inl h2))])
    go_enter Try.func11, Try.ntmps11
    go_wp2_with fail
    go_ret
    rw [HP.out]
    exact ⟨rfl, H.out, Only.refl g w⟩
  by_cases h3 : e < s.kn
  · have HP : Hid (beatR s e = (s, 0)) := Lib.hid (by unfold beatR; rw [if_pos (.inr (.inr h3))])
    go_enter Try.func11, Try.ntmps11
    go_wp2_with fail
    go_ret
    rw [HP.out]
    exact ⟨rfl, H.out, Only.refl g w⟩
  have hn : ¬ (e < 1 ∨ 1099511627776 < e ∨ e < s.kn) := by omega
  cases ha : s.ac with
  | false =>
    rw [show rol s.ac = 0 by rw [ha]; rfl] at c3
    have HP : Hid (beatR s e = ({ s with kn := e, qu := 0 }, 0)) := Lib.hid (by unfold beatR; rw [if_neg hn, if_pos ha])
    clear hn ha
    go_enter Try.func11, Try.ntmps11
    go_wp2_with fail
    go_ret
    rw [HP.out]
    exact ⟨rfl, blk_set (blk_set H.out 4 _) 5 _, ((Only.refl g w).setCell rfl _).setCell rfl _⟩
  | true =>
    rw [show rol s.ac = 1 by rw [ha]; rfl] at c3
    have hna : ¬ s.ac = false := by rw [ha]; decide
    by_cases h4 : s.ge < e
    · have HP : Hid (beatR s e = (({ s with kn := e } : Sw).back, 3)) := Lib.hid (by unfold beatR; rw [if_neg hn, if_neg hna, if_pos h4])
      clear hn ha hna
      go_enter Try.func11, Try.ntmps11
      go_wp2_with fail
      refine (back_is { s with kn := e } g _ (blk_set H.out 4 _)).mono ?_
      rintro x w1 ⟨rfl, hs, ho⟩
      have HO := Lib.hid (((Only.refl g w).setCell (p := ⟨g, 4, none⟩) rfl (.int .i64 e)).trans ho)
      clear ho
      go_wp2_with fail
      go_ret
      rw [HP.out]
      exact ⟨rfl, hs, HO.out⟩
    · have HP : Hid (beatR s e = ({ s with kn := e }, 0)) := Lib.hid (by unfold beatR; rw [if_neg hn, if_neg hna, if_neg h4])
      clear hn ha hna
      go_enter Try.func11, Try.ntmps11
      go_wp2_with fail
      go_ret
      rw [HP.out]
      exact ⟨rfl, blk_set H.out 4 _, (Only.refl g w).setCell rfl _⟩
/-! ### the row of two functions -/
def m0 : Array MapEntry := #[]
def m1 (p : Value) : Array MapEntry := #[{ key := .int .u8 0, val := .func (.func 18) #[p] #[], born := 0 }]
def m2 (p : Value) : Array MapEntry := #[{ key := .int .u8 0, val := .func (.func 18) #[p] #[], born := 0 }, { key := .int .u8 1, val := .func (.func 19) #[p] #[], born := 1 }]
theorem heap_set (w : World) (a b : Obj) : ({ (w.alloc a) with heap := (w.alloc a).heap.setIfInBounds w.heap.size b } : World) = w.alloc b := by
  show ({ w with heap := (w.heap.push a).setIfInBounds w.heap.size b } : World) = { w with heap := w.heap.push b }
  congr 1
  apply Array.ext_getElem?
  intro i
  rw [Array.getElem?_setIfInBounds, Array.getElem?_push, Array.getElem?_push]
  by_cases hi : w.heap.size = i
  · subst hi; simp
  · rw [if_neg hi, if_neg (fun h => hi h.symm), if_neg (fun h => hi h.symm)]
theorem run_put (es : Array MapEntry) (clock r : Nat) (k : Int) (v : Value) (w : World) (hb : w.heap[r]? = some (.map es clock)) (hf : Instr.findNow (.int .u8) (.int .u8 k) es.toList 0 = some none) :
    (Instr.mapUpdate 52 (.map (some r)) (.int .u8 k) v).run Try.prog w = .ok () { w with heap := w.heap.setIfInBounds r (.map (es.push { key := .int .u8 k, val := v, born := clock }) (clock + 1)) } := by
  have hc : (Instr.checkKey false 10000 5 (.int .u8 k)).run Try.prog w = .ok () w := MapKept.run_checkKey (k := .int .u8 k) Try.underlying5 (by simp [MapKept.IsKey]) false 9999
  simp [Instr.mapUpdate, run_underlying Try.underlying52, MapKept.run_getObj_map hb, hc, MapKept.run_findKey Try.underlying5 hf, MapKept.run_setObj_map _ hb, Result.andThen]
theorem run_get (es : Array MapEntry) (clock r i : Nat) (k : Int) (v : Value) (w : World) (hb : w.heap[r]? = some (.map es clock)) (hf : Instr.findNow (.int .u8) (.int .u8 k) es.toList 0 = some (some (i, v))) :
    (Instr.lookup 52 (.map (some r)) (.int .u8 k) false).run Try.prog w = .ok v w := by
  have hc : (Instr.checkKey es.isEmpty 10000 5 (.int .u8 k)).run Try.prog w = .ok () w := MapKept.run_checkKey (k := .int .u8 k) Try.underlying5 (by simp [MapKept.IsKey]) es.isEmpty 9999
  simp [Instr.lookup, run_underlying Try.underlying52, MapKept.run_getObj_map hb, hc, MapKept.run_findKey Try.underlying5 hf, Result.andThen]
theorem run_put0 (p : Value) (w : World) : (Instr.mapUpdate 52 (.map (some w.heap.size)) (.int .u8 0) (.func (.func 18) #[p] #[])).run Try.prog (w.alloc (.map #[] 0)) = .ok () (w.alloc (.map (m1 p) 1)) := by
  rw [run_put #[] 0 _ 0 _ _ (alloc1 w _ (Below.refl _ _)) rfl, heap_set]; rfl
theorem run_put1 (p : Value) (w : World) : (Instr.mapUpdate 52 (.map (some w.heap.size)) (.int .u8 1) (.func (.func 19) #[p] #[])).run Try.prog (w.alloc (.map (m1 p) 1)) = .ok () (w.alloc (.map (m2 p) 2)) := by
  rw [run_put (m1 p) 1 _ 1 _ _ (alloc1 w _ (Below.refl _ _)) rfl, heap_set]; rfl
theorem run_get0 (p : Value) (w : World) : (Instr.lookup 52 (.map (some w.heap.size)) (.int .u8 0) false).run Try.prog (w.alloc (.map (m2 p) 2)) = .ok (.func (.func 18) #[p] #[]) (w.alloc (.map (m2 p) 2)) :=
  run_get (m2 p) 2 _ 0 0 _ _ (alloc1 w _ (Below.refl _ _)) rfl
theorem run_get1 (p : Value) (w : World) : (Instr.lookup 52 (.map (some w.heap.size)) (.int .u8 1) false).run Try.prog (w.alloc (.map (m2 p) 2)) = .ok (.func (.func 19) #[p] #[]) (w.alloc (.map (m2 p) 2)) :=
  run_get (m2 p) 2 _ 1 1 _ _ (alloc1 w _ (Below.refl _ _)) rfl
end Go.Proofs.Ytoedipajcmmhjaa
