/-
  Walks: the chapter's small layout.
-/
import Derived.Test.YtdkcpejlojdijaaTpA
namespace Go.Proofs.Ytdkcpejlojdijaa
open Go.RowKit
theorem allocs_below : ∀ (os : List Obj) (w : World), Below w.heap.size w (os.foldl World.alloc w) := by
  intro os
  induction os with
  | nil => exact fun w => Below.refl _ _
  | cons o os ih => exact fun w => below_on (below1 w o) (ih (w.alloc o))
theorem allocs_at : ∀ (os : List Obj) (w : World) (i : Nat) (o : Obj), os[i]? = some o → (os.foldl World.alloc w).heap[w.heap.size + i]? = some o := by
  intro os
  induction os with
  | nil => intro w i o h; simp at h
  | cons p os ih =>
    intro w i o h
    cases i with
    | zero =>
      simp at h
      subst h
      exact alloc1 w p (allocs_below os (w.alloc p))
    | succ i =>
      have := ih (w.alloc p) i o (by simpa using h)
      have e : (w.alloc p).heap.size = w.heap.size + 1 := by simp
      rw [e, show w.heap.size + 1 + i = w.heap.size + (i + 1) by omega] at this
      exact this
theorem row_blk {α : Type} {sz : Nat} {f : α → List Value} (hf : ∀ c, (f c).length = sz) {w : World} {g : Nat} {cs : Array Value} {t : TypeId} {fr : Nat × Nat} {l : List α} (h : w.heap[g]? = some (.cells cs t fr)) (hcs : cs.toList = l.flatMap f) : RowAt sz f w (some ⟨g, 0, none⟩) l := by
  refine .inr ⟨g, 0, rfl, fun i c hi j v hv => ?_⟩
  rw [Nat.zero_add]
  refine blk_cell h _ _ ?_
  rw [← Array.getElem?_toList, hcs]
  exact flat_get hf l i c j v hi hv
theorem sl_blk {α : Type} {sz : Nat} {f : α → List Value} (hf : ∀ c, (f c).length = sz) {w : World} {g n : Nat} {cs : Array Value} {t : TypeId} {fr : Nat × Nat} {l : List α} (h : w.heap[g]? = some (.cells cs t fr)) (hcs : cs.toList = l.flatMap f) (hn : l.length = n) (hm : n ≤ maxLen) : SlAt sz f w ⟨some ⟨g, 0, none⟩, n, l⟩ :=
  ⟨row_blk hf h hcs, by dsimp only; omega, hm, fun h => by cases h⟩
theorem pt_len (c : BA × Int) : (ptC c).length = 2 := rfl
theorem rt_len (c : Rt) : (rtC c).length = 6 := rfl
theorem sl_none {α : Type} {sz : Nat} {f : α → List Value} {w : World} : SlAt sz f w ⟨none, 0, []⟩ := ⟨.inl rfl, Nat.le_refl _, Nat.zero_le _, fun _ => rfl⟩
theorem name_last {P : World → Prop} {os : List Obj} {w0 w : World} (hw : os.foldl World.alloc w0 = w) (h : ∀ W : World, (∀ i o, os[i]? = some o → W.heap[w0.heap.size + i]? = some o) → Below w0.heap.size w0 W → P W) : P w :=
  h w (fun i o hi => hw ▸ allocs_at os w0 i o hi) (hw ▸ allocs_below os w0)
attribute [local irreducible] Sl.v
set_option maxHeartbeats 2000000 in
theorem small_is (r : Rt) (w : World) (hr : RtAt w r) :
    Calls Try.prog 23 #[.agg #[.string r.nm, .int .i64 r.sg, r.pa.v, r.po.v, r.ov.v, r.fl.v]] w fun e w' => ∃ x1 x2 x3 x4, e = .returned (.agg #[.slice (some ⟨x1, 0, none⟩) 2 2, .slice (some ⟨x2, 0, none⟩) 1 1, .slice (some ⟨x3, 0, none⟩) 1 1, .slice (some ⟨x4, 0, none⟩) 1 1]) ∧ LayAt w' (smallL x1 x2 x3 x4 r) ∧ Below w.heap.size w w' := by
  obtain ⟨m1, hm1⟩ : ∃ n, r.pa.l.length = n := ⟨_, rfl⟩
  obtain ⟨m2, hm2⟩ : ∃ n, r.po.l.length = n := ⟨_, rfl⟩
  obtain ⟨m3, hm3⟩ : ∃ n, r.ov.l.length = n := ⟨_, rfl⟩
  obtain ⟨m4, hm4⟩ : ∃ n, r.fl.l.length = n := ⟨_, rfl⟩
  have HV := Lib.hid (And.intro (slv hm1) (And.intro (slv hm2) (And.intro (slv hm3) (slv hm4))))
  have HR := Lib.hid hr
  rw [slv hm1, slv hm2, slv hm3, slv hm4]
  clear hm1 hm2 hm3 hm4 hr
  go_enter Try.func23, Try.ntmps23
  go_wp2_with fail
  refine name_last (os := [_, _, _, _, _, _]) (w0 := w) rfl ?_
  intro W hat hbw
  have q1 := hat 1 _ rfl
  have q2 := hat 2 _ rfl
  have q3 := hat 3 _ rfl
  have q4 := hat 4 _ rfl
  have q5 := hat 5 _ rfl
  have e0 := blk_cell q1 0 _ rfl
  have e1 := blk_cell q1 1 _ rfl
  have e2 := blk_cell q1 2 _ rfl
  have e3 := blk_cell q1 3 _ rfl
  refine bodyPost_ret (v := .agg #[.slice (some ⟨w.heap.size + 1 + 1, 0, none⟩) 2 2, .slice (some ⟨w.heap.size + 1 + 1 + 1, 0, none⟩) 1 1, .slice (some ⟨w.heap.size + 1 + 1 + 1 + 1, 0, none⟩) 1 1, .slice (some ⟨w.heap.size + 1 + 1 + 1 + 1 + 1, 0, none⟩) 1 1]) (by simp [results, Try.results23, go_sem, e0, e1, e2, e3]) rfl ?_
  refine ⟨w.heap.size + 2, w.heap.size + 3, w.heap.size + 4, w.heap.size + 5, rfl, ?_, hbw⟩
  obtain ⟨v1, v2, v3, v4⟩ := HV.out
  refine ⟨sl_blk str_len q2 rfl rfl (by decide), sl_blk pt_len q3 rfl rfl (by decide), sl_blk pt_len q4 rfl rfl (by decide), sl_blk rt_len q5 ?_ rfl (by decide), ?_, ?_, ?_, ?_⟩
  · show _ = [Value.string _, .int .i64 r.sg, r.pa.v, r.po.v, r.ov.v, r.fl.v]
    rw [v1, v2, v3, v4]
  · intro s hs
    simp [smallL] at hs
    rcases hs with rfl | rfl <;> decide
  · intro s hs
    simp [smallL] at hs
    subst hs
    decide
  · intro s hs
    simp [smallL] at hs
    subst hs
    decide
  · intro s hs
    simp [smallL] at hs
    subst hs
    have h := HR.out.below hbw
    exact ⟨by show (⟨#[82]⟩ : BA).size ≤ maxLen; decide, h.pa, h.po, h.ov, h.fl⟩
end Go.Proofs.Ytdkcpejlojdijaa
