/-
  What a small Weight says of a layout's rows.
-/
import Derived.Test.YtififkielmddpaaMC
import Derived.Test.YtififkielmddpaaReadZ
namespace Go.Proofs.Ytififkielmddpaa
open Go.RowKit
set_option maxRecDepth 100000
theorem wtF_over {α : Type} {t : Int} {f : Int → α → Int} {z : Int} (l : List α) (h : t < z) : wtF t f z l = z := by
  cases l with
  | nil => rfl
  | cons y l => show (if z ≤ t then _ else _) = _; rw [if_neg (by omega)]
theorem wtF_le {α : Type} {t : Int} {f : Int → α → Int} (c : α → Int) : ∀ (l : List α) (z : Int), (∀ z y, y ∈ l → 0 ≤ z → z ≤ t → z < f z y ∧ (f z y ≤ t → z + c y < f z y)) → 0 ≤ z → wtF t f z l ≤ t → z + (l.length : Int) ≤ wtF t f z l ∧ (∀ y ∈ l, c y ≤ t) ∧ z ≤ wtF t f z l := by
  intro l
  induction l with
  | nil => intro z _ hz h; exact ⟨by simp [wtF], by simp, Int.le_refl _⟩
  | cons y l ih =>
    intro z hf hz h
    by_cases hzt : z ≤ t
    · have e : wtF t f z (y :: l) = wtF t f (f z y) l := by show (if z ≤ t then _ else _) = _; rw [if_pos hzt]
      rw [e] at h ⊢
      obtain ⟨h1, h2⟩ := hf z y List.mem_cons_self hz hzt
      by_cases hft : f z y ≤ t
      · obtain ⟨g1, g2, g3⟩ := ih (f z y) (fun z y hy => hf z y (List.mem_cons_of_mem _ hy)) (by omega) h
        have h3 := h2 hft
        refine ⟨by simp only [List.length_cons]; omega, fun x hx => ?_, by omega⟩
        rcases List.mem_cons.1 hx with rfl | hx
        · omega
        · exact g2 x hx
      · rw [wtF_over l (by omega)] at h
        omega
    · rw [wtF_over _ (by omega)] at h
      omega
theorem reach_le : reachBytes ≤ 140737488355328 := Nat.le_of_lt reachBytes_lt
theorem wtS_le {z : Int} {s : BA} (hs : s.size ≤ reachBytes) (h0 : 0 ≤ z) (h1 : z ≤ 1000) : wtS z s = z + 1 + (s.size : Int) := by
  have := reach_le
  unfold wtS wrap64
  omega
theorem wtR_at {z : Int} {r : Rt} (hr : RtZ r) (h0 : 0 ≤ z) (h1 : z ≤ 1000) : z < wtR 1000 z r ∧ (wtR 1000 z r ≤ 1000 → z + ((r.pa.l.length : Int) + r.po.l.length + r.ov.l.length + r.fl.l.length) < wtR 1000 z r) := by
  have hb := reach_le
  have b1 := hr.nm
  have b2 := hr.pa
  have b3 := hr.po
  have b4 := hr.ov
  have b5 := hr.fl
  obtain ⟨y, hy⟩ : ∃ y, y = z + 1 + (r.nm.size : Int) + (r.pa.l.length : Int) + (r.po.l.length : Int) := ⟨_, rfl⟩
  have e : wrap64 (wrap64 (wrap64 (wrap64 (z + 1) + (r.nm.size : Int)) + (r.pa.l.length : Int)) + (r.po.l.length : Int)) = y := by
    have e1 : wrap64 (z + 1) = z + 1 := by unfold wrap64; omega
    have e2 : wrap64 (z + 1 + (r.nm.size : Int)) = z + 1 + (r.nm.size : Int) := by unfold wrap64; omega
    have e3 : wrap64 (z + 1 + (r.nm.size : Int) + (r.pa.l.length : Int)) = z + 1 + (r.nm.size : Int) + (r.pa.l.length : Int) := by unfold wrap64; omega
    have e4 : wrap64 (z + 1 + (r.nm.size : Int) + (r.pa.l.length : Int) + (r.po.l.length : Int)) = z + 1 + (r.nm.size : Int) + (r.pa.l.length : Int) + (r.po.l.length : Int) := by unfold wrap64; omega
    rw [e1, e2, e3, e4, hy]
  unfold wtR
  simp only
  rw [e]
  by_cases hc : y ≤ 1000
  · have f1 : wrap64 (y + (r.ov.l.length : Int)) = y + (r.ov.l.length : Int) := by unfold wrap64; omega
    have f2 : wrap64 (y + (r.ov.l.length : Int) + (r.fl.l.length : Int)) = y + (r.ov.l.length : Int) + (r.fl.l.length : Int) := by unfold wrap64; omega
    rw [if_pos hc, f1, f2]
    omega
  · rw [if_neg hc]
    omega
/-- a layout that weighs little has short rows -/
structure Short (L : Lay) : Prop where
  se : L.se.l.length ≤ 1000
  po : L.po.l.length ≤ 1000
  sg : L.sg.l.length ≤ 1000
  rt : L.rt.l.length ≤ 1000
  el : ∀ r ∈ L.rt.l, r.pa.l.length ≤ 1000 ∧ r.po.l.length ≤ 1000 ∧ r.ov.l.length ≤ 1000 ∧ r.fl.l.length ≤ 1000
theorem wtF_nonneg {α : Type} {t : Int} {f : Int → α → Int} : ∀ (l : List α) (z : Int), (∀ z y, y ∈ l → 0 ≤ z → z ≤ t → z < f z y) → 0 ≤ z → z ≤ wtF t f z l := by
  intro l
  induction l with
  | nil => intro z _ _; exact Int.le_refl _
  | cons y l ih =>
    intro z hf hz
    by_cases hzt : z ≤ t
    · have e : wtF t f z (y :: l) = wtF t f (f z y) l := by show (if z ≤ t then _ else _) = _; rw [if_pos hzt]
      rw [e]
      have h1 := hf z y List.mem_cons_self hz hzt
      have := ih (f z y) (fun z y hy => hf z y (List.mem_cons_of_mem _ hy)) (by omega)
      omega
    · rw [wtF_over _ (by omega)]
      exact Int.le_refl _
theorem weight_short {L : Lay} (hz : LayZ L) (h : weightS 1000 L ≤ 1000) : Short L := by
  unfold weightS at h
  obtain ⟨z1, e1⟩ : ∃ z, wtF 1000 wtS 0 L.se.l = z := ⟨_, rfl⟩
  rw [e1] at h
  obtain ⟨z2, e2⟩ : ∃ z, wtF 1000 (fun z (p : BA × Int) => wtS z p.1) z1 L.po.l = z := ⟨_, rfl⟩
  rw [e2] at h
  obtain ⟨z3, e3⟩ : ∃ z, wtF 1000 (fun z (p : BA × Int) => wtS z p.1) z2 L.sg.l = z := ⟨_, rfl⟩
  rw [e3] at h
  have F1 : ∀ z y, y ∈ L.se.l → 0 ≤ z → z ≤ 1000 → z < wtS z y ∧ (wtS z y ≤ 1000 → z + (0 : Int) < wtS z y) := fun z y hy h0 h1 => by
    rw [wtS_le (hz.se y hy) h0 h1]; omega
  have F2 : ∀ z (y : BA × Int), y ∈ L.po.l → 0 ≤ z → z ≤ 1000 → z < wtS z y.1 ∧ (wtS z y.1 ≤ 1000 → z + (0 : Int) < wtS z y.1) := fun z y hy h0 h1 => by
    rw [wtS_le (hz.po y hy) h0 h1]; omega
  have F3 : ∀ z (y : BA × Int), y ∈ L.sg.l → 0 ≤ z → z ≤ 1000 → z < wtS z y.1 ∧ (wtS z y.1 ≤ 1000 → z + (0 : Int) < wtS z y.1) := fun z y hy h0 h1 => by
    rw [wtS_le (hz.sg y hy) h0 h1]; omega
  have F4 := fun z y (hy : y ∈ L.rt.l) (h0 : 0 ≤ z) (h1 : z ≤ 1000) => wtR_at (hz.rt y hy) h0 h1
  have n1 : 0 ≤ z1 := by rw [← e1]; exact wtF_nonneg _ _ (fun z y hy h0 h1 => (F1 z y hy h0 h1).1) (Int.le_refl _)
  have n2 : z1 ≤ z2 := by rw [← e2]; exact wtF_nonneg _ _ (fun z y hy h0 h1 => (F2 z y hy h0 h1).1) n1
  have n3 : z2 ≤ z3 := by rw [← e3]; exact wtF_nonneg _ _ (fun z y hy h0 h1 => (F3 z y hy h0 h1).1) (by omega)
  obtain ⟨g1, g2, g3⟩ := wtF_le (fun r : Rt => (r.pa.l.length : Int) + r.po.l.length + r.ov.l.length + r.fl.l.length) L.rt.l z3 F4 (by omega) h
  obtain ⟨p1, _, p3⟩ := wtF_le (fun _ => 0) L.sg.l z2 F3 (by omega) (by rw [e3]; omega)
  obtain ⟨q1, _, q3⟩ := wtF_le (fun _ => 0) L.po.l z1 F2 n1 (by rw [e2]; omega)
  obtain ⟨r1, _, r3⟩ := wtF_le (fun _ => 0) L.se.l 0 F1 (Int.le_refl _) (by rw [e1]; omega)
  rw [e1] at r1
  rw [e2] at q1
  rw [e3] at p1
  refine ⟨by omega, by omega, by omega, by omega, fun r hr => ?_⟩
  have := g2 r hr
  omega
end Go.Proofs.Ytififkielmddpaa
