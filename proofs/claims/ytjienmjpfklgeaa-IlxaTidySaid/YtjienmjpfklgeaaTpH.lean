/-
  Layer 05, the stage's theorem plainly: fewer routes, and routes whose paths run backward, stay well-formed.
-/
import Derived.Test.YtjienmjpfklgeaaTpG
namespace Go.Proofs.Ytjienmjpfklgeaa
open Go.RowKit

theorem nms_iff : ∀ (l pre : List BA), nmsFrom pre l = true ↔ (∀ s ∈ l, rightS s = true ∧ s ∉ pre) ∧ l.Nodup := by
  intro l
  induction l with
  | nil => intro pre; exact ⟨fun _ => ⟨by simp, List.nodup_nil⟩, fun _ => rfl⟩
  | cons a l ih =>
    intro pre
    have e : nmsFrom pre (a :: l) = (okNm pre a && nmsFrom (pre ++ [a]) l) := rfl
    have o : okNm pre a = true ↔ rightS a = true ∧ a ∉ pre := by
      unfold okNm
      rw [Bool.and_eq_true, Bool.not_eq_true']
      constructor
      · rintro ⟨h1, h2⟩
        exact ⟨h1, fun h => by rw [hasN_iff.2 h] at h2; cases h2⟩
      · rintro ⟨h1, h2⟩
        refine ⟨h1, ?_⟩
        cases hh : hasN pre a with
        | false => rfl
        | true => exact absurd (hasN_iff.1 hh) h2
    rw [e, Bool.and_eq_true, o, ih]
    constructor
    · rintro ⟨⟨h1, h2⟩, h3, h4⟩
      refine ⟨fun s hs => ?_, List.nodup_cons.2 ⟨fun hm => (h3 a hm).2 (by simp), h4⟩⟩
      rcases List.mem_cons.1 hs with rfl | hs
      · exact ⟨h1, h2⟩
      · exact ⟨(h3 s hs).1, fun h => (h3 s hs).2 (by simp [h])⟩
    · rintro ⟨h1, h2⟩
      obtain ⟨g1, g2⟩ := List.nodup_cons.1 h2
      refine ⟨h1 a (by simp), fun s hs => ⟨(h1 s (by simp [hs])).1, fun h => ?_⟩, g2⟩
      rcases List.mem_append.1 h with h | h
      · exact (h1 s (by simp [hs])).2 h
      · simp at h; subst h; exact g1 hs
/-- r' is r, its path in another order -/
structure RtLike (r r' : Rt) : Prop where
  nm : r'.nm = r.nm
  sg : r'.sg = r.sg
  pa : r'.pa.l.Perm r.pa.l
  po : r'.po.l = r.po.l
  ov : r'.ov.l = r.ov.l
  fl : r'.fl.l = r.fl.l
theorem RtLike.refl (r : Rt) : RtLike r r := ⟨rfl, rfl, List.Perm.refl _, rfl, rfl, rfl⟩
theorem hasI_perm {l m : List Int} (h : l.Perm m) (s : Int) : hasI l s = hasI m s := by
  unfold hasI
  rw [Bool.eq_iff_iff, List.any_eq_true, List.any_eq_true]
  constructor
  · rintro ⟨x, hx, hs⟩; exact ⟨x, h.mem_iff.1 hx, hs⟩
  · rintro ⟨x, hx, hs⟩; exact ⟨x, h.mem_iff.2 hx, hs⟩
theorem dupI_perm {l m : List Int} (h : l.Perm m) : dupI [] l = dupI [] m := by
  have e : ∀ {a b : List Int}, a.Perm b → dupI [] a = false → dupI [] b = false := by
    intro a b hp ha
    rw [dup_count] at ha ⊢
    intro y hy
    have := ha y (hp.mem_iff.2 hy)
    rw [cntI_count] at this ⊢
    rwa [← hp.count_eq]
  cases h1 : dupI [] l with
  | false => exact (e h h1).symm
  | true =>
    cases h2 : dupI [] m with
    | true => rfl
    | false => rw [e h.symm h2] at h1; cases h1
theorem okPts_congr {t t' : List Int} {po fl : List (Int × Bool)} (h : ∀ s, hasI t s = hasI t' s) : ∀ (l : List (BA × Int)) (k : Nat), okPts t po fl k l = okPts t' po fl k l := by
  intro l
  induction l with
  | nil => intro k; rfl
  | cons p l ih =>
    intro k
    show (okPt t po fl k p.2 && okPts t po fl (k + 1) l) = (okPt t' po fl k p.2 && okPts t' po fl (k + 1) l)
    rw [ih]
    unfold okPt
    rw [h]
theorem formed_like {L M : Lay} {r r' : Rt} (hp : M.po.l = L.po.l) (hg : M.sg.l = L.sg.l) (h : RtLike r r') : formedS M r' = formedS L r := by
  have hper : (r'.pa.l ++ r'.ov.l).Perm (r.pa.l ++ r.ov.l) := by rw [h.ov]; exact h.pa.append_right _
  have hs : secOf M r'.sg = secOf L r.sg := by unfold secOf; rw [hg, h.sg]
  unfold formedS
  rw [h.pa.length_eq, dupI_perm hper, hasI_perm hper, hs, h.po, h.fl, okPts_congr (hasI_perm hper), hp]
theorem belowB_perm {n : Nat} {l m : List Int} (h : l.Perm m) : belowB n l = belowB n m := by
  unfold belowB
  rw [Bool.eq_iff_iff, List.all_eq_true, List.all_eq_true]
  constructor
  · exact fun hh x hx => hh x (h.mem_iff.2 hx)
  · exact fun hh x hx => hh x (h.mem_iff.1 hx)
theorem rtB_like {S P : Nat} {r r' : Rt} (h : RtLike r r') : rtB S P r' = rtB S P r := by
  unfold rtB
  rw [h.pa.length_eq, belowB_perm h.pa, h.po, h.ov, h.fl]
theorem may_less {L M : Lay} (h : mayS L = true) (hs : M.se.l = L.se.l) (hp : M.po.l = L.po.l) (hg : M.sg.l = L.sg.l) (hn : (M.rt.l.map (·.nm)).Nodup) (hr : ∀ r' ∈ M.rt.l, ∃ r ∈ L.rt.l, RtLike r r') (hlen : M.rt.l.length ≤ L.rt.l.length) : mayS M = true := by
  unfold mayS rtsFrom at h ⊢
  simp only [Bool.and_eq_true] at h ⊢
  obtain ⟨h0, ⟨⟨h1, h2⟩, h3⟩, ⟨h4, h5⟩, h6⟩ := h
  have e1 : M.n1 = L.n1 := by unfold Lay.n1; exact hs
  have e2 : M.n2 = L.n2 := by unfold Lay.n2; rw [hs, hp]
  have e3 : M.n3 = L.n3 := by unfold Lay.n3; rw [e2, hg]
  refine ⟨?_, ⟨⟨by rw [hs]; exact h1, by rw [e1, hs, hp]; exact h2⟩, by rw [e2, hs, hg]; exact h3⟩, ⟨?_, ?_⟩, ?_⟩
  · unfold Lay.small at h0 ⊢
    rw [hs, hp, hg]
    have := of_decide_eq_true h0
    exact decide_eq_true (by omega)
  · rw [e3, nms_iff]
    rw [nms_iff] at h4
    refine ⟨fun s hx => ?_, hn⟩
    obtain ⟨r', hr', rfl⟩ := List.mem_map.1 hx
    obtain ⟨r, hr0, hl⟩ := hr r' hr'
    rw [hl.nm]
    exact h4.1 _ (List.mem_map.2 ⟨r, hr0, rfl⟩)
  · rw [hg]
    unfold belowB
    rw [List.all_eq_true]
    intro x hx
    obtain ⟨r', hr', rfl⟩ := List.mem_map.1 hx
    obtain ⟨r, hr0, hl⟩ := hr r' hr'
    rw [hl.sg]
    exact decide_eq_true (belowB_mem h5 r.sg (List.mem_map.2 ⟨r, hr0, rfl⟩))
  · rw [List.all_eq_true] at h6 ⊢
    intro r' hr'
    obtain ⟨r, hr0, hl⟩ := hr r' hr'
    rw [hs, hp, rtB_like hl]
    exact h6 r hr0
theorem bad_none {L : Lay} : badS L < 0 ↔ ∀ r ∈ L.rt.l, formedS L r = true := by
  have h := ixF_iff (fun r => !formedS L r) L.rt.l 0
  constructor
  · intro hb r hr
    rcases h with ⟨h1, _⟩ | ⟨_, h2⟩
    · unfold badS at hb; omega
    · rw [List.any_eq_false] at h2
      have := h2 r hr
      simpa using this
  · intro hf
    rcases h with ⟨_, h2⟩ | ⟨h1, _⟩
    · rw [List.any_eq_true] at h2
      obtain ⟨r, hr, h3⟩ := h2
      rw [hf r hr] at h3
      cases h3
    · exact h1
/-- a layout is well-formed just if it may be and its routes are well-formed -/
theorem check_ok {L : Lay} : checkS L = (0, 0) ↔ mayS L = true ∧ ∀ r ∈ L.rt.l, formedS L r = true := by
  rw [← bad_none]
  unfold checkS
  constructor
  · intro h
    cases hm : mayS L with
    | false => rw [hm] at h; cases h
    | true =>
      rw [hm, if_pos rfl] at h
      refine ⟨rfl, ?_⟩
      by_cases hb : 0 ≤ badS L
      · rw [if_pos hb] at h; cases h
      · omega
  · rintro ⟨hm, hb⟩
    rw [hm, if_pos rfl, if_neg (by omega)]
theorem check_less {L M : Lay} (h : checkS L = (0, 0)) (hs : M.se.l = L.se.l) (hp : M.po.l = L.po.l) (hg : M.sg.l = L.sg.l) (hn : (M.rt.l.map (·.nm)).Nodup) (hr : ∀ r' ∈ M.rt.l, ∃ r ∈ L.rt.l, RtLike r r') (hlen : M.rt.l.length ≤ L.rt.l.length) : checkS M = (0, 0) := by
  rw [check_ok] at h ⊢
  refine ⟨may_less h.1 hs hp hg hn hr hlen, fun r' hr' => ?_⟩
  obtain ⟨r, hr0, hl⟩ := hr r' hr'
  rw [formed_like hp hg hl]
  exact h.2 r hr0
theorem names_dup {L : Lay} (h : mayS L = true) : (L.rt.l.map (·.nm)).Nodup := by
  unfold mayS rtsFrom at h
  simp only [Bool.and_eq_true] at h
  obtain ⟨_, _, ⟨h4, _⟩, _⟩ := h
  exact ((nms_iff _ _).1 h4).2
/-- what Check answers, in its three cases -/
theorem check_cases (L : Lay) : (mayS L = false ∧ checkS L = (2, 0)) ∨ (mayS L = true ∧ (∀ r ∈ L.rt.l, formedS L r = true) ∧ checkS L = (0, 0)) ∨ (mayS L = true ∧ (¬ ∀ r ∈ L.rt.l, formedS L r = true) ∧ ∃ z, checkS L = (50, z)) := by
  cases hm : mayS L with
  | false => exact .inl ⟨rfl, cs_no hm⟩
  | true =>
    by_cases hf : ∀ r ∈ L.rt.l, formedS L r = true
    · exact .inr (.inl ⟨rfl, hf, check_ok.2 ⟨hm, hf⟩⟩)
    · refine .inr (.inr ⟨rfl, hf, badS L, cs_bad hm rfl ?_⟩)
      rw [← bad_none] at hf
      omega
theorem may_sizes {L : Lay} (h : mayS L = true) : L.se.l.length ≤ 64 ∧ L.po.l.length ≤ 32 ∧ L.sg.l.length ≤ 32 ∧ L.rt.l.length ≤ 64 := by
  unfold mayS at h
  simp only [Bool.and_eq_true] at h
  exact of_decide_eq_true h.1
end Go.Proofs.Ytjienmjpfklgeaa
