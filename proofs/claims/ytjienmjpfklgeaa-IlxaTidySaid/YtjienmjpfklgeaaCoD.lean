/-
  Layer 06: the map of sides (numbers to sides).
-/
import Derived.Test.YtjienmjpfklgeaaCoB
import Derived.MapKept
namespace Go.Proofs.Ytjienmjpfklgeaa
open Go.RowKit
set_option maxRecDepth 100000

/-- block r is a map that tells of each number what f tells -/
def SdAt (w : World) (r : Nat) (f : Int → Option Bool) : Prop := ∃ es clock K, w.heap[r]? = some (.map es clock) ∧ es.toList.map (fun e => (e.key, e.val)) = K.map (fun (n : Int × Bool) => (Value.int .i64 n.1, Value.bool n.2)) ∧ (K.map (·.1)).Nodup ∧ ∀ p, ndAt K p = f p
theorem SdAt.below {w w' : World} {r : Nat} {f : Int → Option Bool} (h : SdAt w r f) (hb : Below w.heap.size w w') : SdAt w' r f := by
  obtain ⟨es, clock, K, h1, h2⟩ := h
  exact ⟨es, clock, K, blk_keep hb h1, h2⟩
theorem sd_key {es : List MapEntry} {K : List (Int × Bool)} (h : es.map (fun e => (e.key, e.val)) = K.map (fun (n : Int × Bool) => (Value.int .i64 n.1, Value.bool n.2))) : ∀ x ∈ es, MapKept.IsKey (.int .i64) x.key := by
  intro x hx
  have : (x.key, x.val) ∈ K.map (fun (n : Int × Bool) => (Value.int .i64 n.1, Value.bool n.2)) := by rw [← h]; exact List.mem_map.2 ⟨x, hx, rfl⟩
  obtain ⟨s, _, hs⟩ := List.mem_map.1 this
  injection hs with h1 h2
  rw [← h1]
  simp [MapKept.IsKey]
theorem ndAt_none {l : List (Int × Bool)} {p : Int} (h : ∀ v, (p, v) ∉ l) : ndAt l p = none := by
  cases hn : ndAt l p with
  | none => rfl
  | some v => exact absurd (ndAt_some hn) (h v)
theorem sd_find {es : List MapEntry} {K : List (Int × Bool)} {p : Int} (h : es.map (fun e => (e.key, e.val)) = K.map (fun (n : Int × Bool) => (Value.int .i64 n.1, Value.bool n.2))) (hn : (K.map (·.1)).Nodup) :
    (ndAt K p = none ∧ (∀ v, (p, v) ∉ K) ∧ Instr.findNow (.int .i64) (.int .i64 p) es 0 = some none) ∨ ∃ j b e, ndAt K p = some b ∧ K[j]? = some (p, b) ∧ es[j]? = some e ∧ e.key = .int .i64 p ∧ e.val = .bool b ∧ Instr.findNow (.int .i64) (.int .i64 p) es 0 = some (some (j, .bool b)) := by
  rcases MapKept.findNow_spec (d := .int .i64) (k := .int .i64 p) (by simp [MapKept.IsKey]) es 0 (sd_key h) with ⟨h1, h2⟩ | ⟨j, e, h1, h2, h3⟩
  · have h4 : ∀ v, (p, v) ∉ K := by
      intro v hv
      have : (Value.int .i64 p, Value.bool v) ∈ es.map (fun e => (e.key, e.val)) := by rw [h]; exact List.mem_map.2 ⟨(p, v), hv, rfl⟩
      obtain ⟨x, hx, he⟩ := List.mem_map.1 this
      injection he with he1 he2
      exact h2 x hx he1
    exact .inl ⟨ndAt_none h4, h4, h1⟩
  · have h5 : (es.map (fun e => (e.key, e.val)))[j]? = some (e.key, e.val) := by rw [List.getElem?_map, h2]; rfl
    rw [h, List.getElem?_map] at h5
    cases hk : K[j]? with
    | none => rw [hk] at h5; cases h5
    | some n =>
      rw [hk] at h5
      obtain ⟨n1, n2⟩ := n
      injection h5 with h5
      injection h5 with h6 h7
      rw [h3] at h6
      injection h6 with _ h6
      dsimp only at h6 h7
      subst h6
      refine .inr ⟨j, n2, e, ndAt_mem hn (List.mem_of_getElem? hk), hk, h2, h3, h7.symm, ?_⟩
      rw [h1, Nat.zero_add, ← h7]
theorem info_bool : (Try.prog.info? 4).map (fun i => (i.zero, i.size, i.bytes)) = some (some (.bool false), 1, 1) := by kernel_rfl
theorem run_sd_get {w : World} {r : Nat} {f : Int → Option Bool} {p : Int} (h : SdAt w r f) : (Instr.lookup 146 (.map (some r)) (.int .i64 p) true).run Try.prog w = .ok (.tuple #[.bool ((f p).getD false), .bool (f p).isSome]) w := by
  obtain ⟨es, clock, K, h1, h2, h3, h4⟩ := h
  have hc : (Instr.checkKey es.isEmpty 10000 3 (.int .i64 p)).run Try.prog w = .ok () w := MapKept.run_checkKey (k := .int .i64 p) Try.underlying3 (by simp [MapKept.IsKey]) es.isEmpty 9999
  rw [← h4 p]
  rcases sd_find (p := p) h2 h3 with ⟨g1, _, g2⟩ | ⟨j, b, e, g1, _, _, _, _, g2⟩
  · obtain ⟨i0, hi, hz0, _, _⟩ := info_parts info_bool
    have hz : (zeroValue 4).run Try.prog w = .ok (.bool false) w := by simp [zeroValue, typeInfo, hi, hz0, Result.andThen]
    rw [g1]
    simp [Instr.lookup, run_underlying Try.underlying146, MapKept.run_getObj_map h1, hc, MapKept.run_findKey Try.underlying3 g2, hz, Result.andThen]
  · rw [g1]
    simp [Instr.lookup, run_underlying Try.underlying146, MapKept.run_getObj_map h1, hc, MapKept.run_findKey Try.underlying3 g2, Result.andThen]
theorem ndAt_set : ∀ (K : List (Int × Bool)) (j : Nat) (p q : Int) (b v : Bool), K[j]? = some (p, b) → (K.map (·.1)).Nodup → ndAt (K.set j (p, v)) q = if q = p then some v else ndAt K q := by
  intro K
  induction K with
  | nil => intro j p q b v h; simp at h
  | cons n K ih =>
    intro j p q b v h hn
    rw [List.map_cons, List.nodup_cons] at hn
    cases j with
    | zero =>
      simp at h
      subst h
      rw [List.set_cons_zero]
      show (if p = q then some v else ndAt K q) = if q = p then some v else (if p = q then some b else ndAt K q)
      by_cases hq : q = p
      · rw [if_pos hq, if_pos hq.symm]
      · rw [if_neg hq, if_neg (fun e => hq e.symm), if_neg (fun e => hq e.symm)]
    | succ j =>
      have h' : K[j]? = some (p, b) := by simpa using h
      rw [List.set_cons_succ]
      show (if n.1 = q then some n.2 else ndAt (K.set j (p, v)) q) = if q = p then some v else (if n.1 = q then some n.2 else ndAt K q)
      rw [ih j p q b v h' hn.2]
      by_cases hq : q = p
      · subst hq
        have hne : n.1 ≠ q := fun e => hn.1 (List.mem_map.2 ⟨(q, b), List.mem_of_getElem? h', e.symm⟩)
        rw [if_pos rfl, if_neg hne, if_pos rfl]
      · rw [if_neg hq, if_neg hq]
theorem ndAt_snoc (K : List (Int × Bool)) (p q : Int) (v : Bool) (h : ∀ b, (p, b) ∉ K) : ndAt (K ++ [(p, v)]) q = if q = p then some v else ndAt K q := by
  rw [ndAt_append]
  show (ndAt K q).or (if p = q then some v else none) = _
  by_cases hq : q = p
  · subst hq
    rw [ndAt_none h]
    simp
  · rw [if_neg hq, if_neg (fun e => hq e.symm)]
    cases ndAt K q <;> rfl
theorem run_sd_put {w : World} {r : Nat} {f : Int → Option Bool} {p : Int} (v : Bool) (h : SdAt w r f) : ∃ w', (Instr.mapUpdate 146 (.map (some r)) (.int .i64 p) (.bool v)).run Try.prog w = .ok () w' ∧ SdAt w' r (fun q => if q = p then some v else f q) ∧ Only r w w' := by
  obtain ⟨es, clock, K, h1, h2, h3, h4⟩ := h
  have hc : (Instr.checkKey false 10000 3 (.int .i64 p)).run Try.prog w = .ok () w := MapKept.run_checkKey (k := .int .i64 p) Try.underlying3 (by simp [MapKept.IsKey]) false 9999
  rcases sd_find (p := p) h2 h3 with ⟨g1, g0, g2⟩ | ⟨j, b, e, g1, gk, ge, gek, gev, g2⟩
  · refine ⟨{ w with heap := w.heap.setIfInBounds r (.map (es.push { key := .int .i64 p, val := .bool v, born := clock }) (clock + 1)) }, ?_, ?_, ?_⟩
    · simp [Instr.mapUpdate, run_underlying Try.underlying146, MapKept.run_getObj_map h1, hc, MapKept.run_findKey Try.underlying3 g2, MapKept.run_setObj_map _ h1, Result.andThen]
    · refine ⟨_, _, K ++ [(p, v)], (MapKept.heap_set h1).1, by rw [Array.toList_push, List.map_append, h2, List.map_append]; rfl, ?_, fun q => ?_⟩
      · rw [List.map_append]
        refine List.nodup_append.2 ⟨h3, by simp, ?_⟩
        intro a ha c hc2
        simp at hc2
        subst hc2
        intro e
        subst e
        obtain ⟨n, hn, hh⟩ := List.mem_map.1 ha
        exact g0 n.2 (by rw [← hh]; exact hn)
      · rw [ndAt_snoc K p q v g0, h4]
    · exact ⟨rfl, rfl, rfl, by simp, fun k _ hk => (MapKept.heap_set h1).2 k hk⟩
  · have hj : es[j]? = some e := by simpa using ge
    refine ⟨{ w with heap := w.heap.setIfInBounds r (.map (es.modify j fun e' => { e' with key := .int .i64 p, val := .bool v }) clock) }, ?_, ?_, ?_⟩
    · simp [Instr.mapUpdate, run_underlying Try.underlying146, MapKept.run_getObj_map h1, hc, MapKept.run_findKey Try.underlying3 g2, hj, gek, MapKept.run_keyThatStays (d := .int .i64) (k := .int .i64 p) (by simp [MapKept.IsKey]), MapKept.run_setObj_map _ h1, Result.andThen]
    · refine ⟨_, _, K.set j (p, v), (MapKept.heap_set h1).1, ?_, ?_, fun q => ?_⟩
      · rw [Array.toList_modify]
        apply List.ext_getElem?
        intro i
        have h5 : (es.toList.map (fun e => (e.key, e.val)))[i]? = (K.map (fun (n : Int × Bool) => (Value.int .i64 n.1, Value.bool n.2)))[i]? := by rw [h2]
        rw [List.getElem?_map, List.getElem?_map] at h5
        rw [List.getElem?_map, List.getElem?_map, List.getElem?_modify, List.getElem?_set]
        by_cases hij : j = i
        · subst hij
          have hlt : j < K.length := (List.getElem?_eq_some_iff.1 gk).1
          rw [if_pos rfl, if_pos hlt, ge]
          simp
        · rw [if_neg hij]
          simp only [hij, if_false]
          rw [← h5]
          simp
      · have : (K.set j (p, v)).map (·.1) = K.map (·.1) := by
          rw [List.map_set]
          apply List.ext_getElem?
          intro i
          rw [List.getElem?_set]
          by_cases hij : j = i
          · subst hij
            have hlt : j < (K.map (·.1)).length := by rw [List.length_map]; exact (List.getElem?_eq_some_iff.1 gk).1
            rw [if_pos rfl, if_pos hlt, List.getElem?_map, gk]
            rfl
          · rw [if_neg hij]
        rw [this]
        exact h3
      · rw [ndAt_set K j p q b v gk h3, h4]
    · exact ⟨rfl, rfl, rfl, by simp, fun k _ hk => (MapKept.heap_set h1).2 k hk⟩
end Go.Proofs.Ytjienmjpfklgeaa
