/-
  Rows that the call owns, of any elements; the document's find, in, points, full.
-/
import Derived.Test.YtdkcpejlojdijaaToD
import Derived.Test.YtdkcpejlojdijaaAppend
import Derived.Lib.SlicesS
namespace Go.Proofs.Ytdkcpejlojdijaa
open Go.RowKit

section
variable {α : Type} {sz : Nat} {f : α → List Value}
theorem flat_len (hf : ∀ c, (f c).length = sz) : ∀ l : List α, (l.flatMap f).length = l.length * sz := by
  intro l
  induction l with
  | nil => simp
  | cons c l ih => rw [List.flatMap_cons, List.length_append, hf, ih, List.length_cons, Nat.add_mul, Nat.one_mul, Nat.add_comm]
theorem flat_get (hf : ∀ c, (f c).length = sz) : ∀ (l : List α) (i : Nat) (c : α) (j : Nat) (v : Value), l[i]? = some c → (f c)[j]? = some v → (l.flatMap f)[i * sz + j]? = some v := by
  intro l
  induction l with
  | nil => intro i c j v h; simp at h
  | cons d l ih =>
    intro i c j v h hj
    have hjs : j < sz := by rw [← hf c]; exact (List.getElem?_eq_some_iff.1 hj).1
    cases i with
    | zero =>
      simp at h; subst h
      rw [List.flatMap_cons, Nat.zero_mul, Nat.zero_add, List.getElem?_append_left (by rw [hf]; exact hjs)]
      exact hj
    | succ i =>
      have := ih i c j v (by simpa using h) hj
      rw [List.flatMap_cons, List.getElem?_append_right (by rw [hf, Nat.add_mul]; omega), hf]
      rw [show (i + 1) * sz + j - sz = i * sz + j by rw [Nat.add_mul]; omega]
      exact this
theorem flat_at (hf : ∀ c, (f c).length = sz) (l : List α) (j : Nat) (v : Value) (h : (l.flatMap f)[j]? = some v) : ∃ i c k, l[i]? = some c ∧ (f c)[k]? = some v ∧ j = i * sz + k := by
  have hj : j < l.length * sz := by rw [← flat_len hf]; exact (List.getElem?_eq_some_iff.1 h).1
  have hpos : 0 < sz := by
    rcases Nat.eq_zero_or_pos sz with h0 | h0
    · rw [h0, Nat.mul_zero] at hj; omega
    · exact h0
  have hi : j / sz < l.length := Nat.div_lt_of_lt_mul (by rw [Nat.mul_comm]; exact hj)
  have hk : j % sz < sz := Nat.mod_lt _ hpos
  have hjj : j = j / sz * sz + j % sz := by rw [Nat.mul_comm]; exact (Nat.div_add_mod j sz).symm
  have g1 : l[j / sz]? = some (l[j / sz]'hi) := List.getElem?_eq_getElem _
  have g2 : (f (l[j / sz]'hi))[j % sz]? = some ((f (l[j / sz]'hi))[j % sz]'(by rw [hf]; exact hk)) := List.getElem?_eq_getElem _
  have g3 := flat_get hf l _ _ _ _ g1 g2
  rw [← hjj, h] at g3
  refine ⟨_, _, _, g1, ?_, hjj⟩
  rw [g2]; exact g3.symm
theorem own_sl {w : World} {base : Nat} {e : TypeId} {v : Value} {n : Nat} {l : List α} (hf : ∀ c, (f c).length = sz) (hn : l.length = n) (h : w.ownsRow base e sz v n (l.flatMap f)) :
    ∃ a c, v = .slice a n c ∧ SlAt sz f w ⟨a, c, l⟩ := by
  rcases h.2 with ⟨rfl, rfl⟩ | ⟨g, cap, cur, rfl, hg, hheap, hncap, hcm, hsz, htake⟩
  · obtain rfl := List.eq_nil_of_length_eq_zero hn
    exact ⟨none, 0, rfl, .inl rfl, Nat.le_refl _, Nat.zero_le _, fun _ => rfl⟩
  · refine ⟨some ⟨g, 0, none⟩, cap, rfl, .inr ⟨g, 0, rfl, fun i c hi j v hv => ?_⟩, by dsimp only; omega, hcm, fun h => by cases h⟩
    have hg2 := flat_get hf l i c j v hi hv
    have hlt : i * sz + j < n * sz := by rw [← hn, ← flat_len hf]; exact (List.getElem?_eq_some_iff.1 hg2).1
    rw [Nat.zero_add]
    refine blk_cell hheap _ v ?_
    rw [← Array.getElem?_toList, ← hg2, ← htake, List.getElem?_take, if_pos hlt]
theorem src_sl {w : World} {s : Sl α} (hf : ∀ c, (f c).length = sz) (h1 : ∀ c, ∀ u ∈ f c, u.oneCell' = true) (h : SlAt sz f w s) : SrcAt w s.a s.c (s.l.flatMap f) := by
  refine ⟨fun ha => ⟨h.capNil ha, ?_⟩, ?_, ?_⟩
  · rcases h.row with hl | ⟨b, off, hb, _⟩
    · rw [hl]; rfl
    · rw [ha] at hb; cases hb
  · intro u hu
    obtain ⟨c, _, hc⟩ := List.mem_flatMap.1 hu
    exact h1 c u hc
  · intro ad had j u hu
    rcases h.row with hl | ⟨b, off, hb, hc⟩
    · rw [hl] at hu; simp at hu
    · rw [had] at hb
      obtain rfl := Option.some.inj hb
      obtain ⟨i, c, k, g1, g2, rfl⟩ := flat_at hf _ _ _ hu
      rw [Addr.add_lit, ← Nat.add_assoc]
      exact hc i c g1 k u g2
end
theorem int_len (c : Int) : (intC c).length = 1 := rfl
theorem str_len (c : BA) : (strC c).length = 1 := rfl
theorem nd_len (c : Int × Bool) : (ndC c).length = 2 := rfl
theorem int_one (c : Int) : ∀ u ∈ intC c, u.oneCell' = true := by intro u h; simp [intC] at h; subst h; rfl
theorem str_one (c : BA) : ∀ u ∈ strC c, u.oneCell' = true := by intro u h; simp [strC] at h; subst h; rfl
theorem nd_one (c : Int × Bool) : ∀ u ∈ ndC c, u.oneCell' = true := by
  intro u h; simp [ndC] at h
  rcases h with rfl | rfl <;> rfl
/-! ### the document's find, in, points, full -/
theorem ba_beq (a b : BA) : (a.toList == b.toList) = decide (a = b) := by
  by_cases h : a = b
  · subst h; simp
  · rw [decide_eq_false h]
    cases hx : (a.toList == b.toList) with
    | false => rfl
    | true => exact absurd ((Lib.bytes_beq_iff a b).1 hx) h
theorem hasN_take {l : List BA} {s y : BA} {k : Nat} (h : l[k]? = some y) : hasN (l.take (k + 1)) s = (hasN (l.take k) s || decide (y = s)) := by
  unfold hasN; rw [List.take_add_one, h, List.any_append]; simp
theorem hasN_get {l : List BA} {s y : BA} {k : Nat} (h : l[k]? = some y) (hy : y = s) : hasN l s = true := hasN_iff.2 (hy ▸ List.mem_of_getElem? h)
attribute [local irreducible] hasN belowB mayB
/-- what find answers -/
def fI : Nat → List BA → BA → Int
  | _, [], _ => -1
  | k, y :: t, s => if y = s then (k : Int) else fI (k + 1) t s
theorem fI_iff : ∀ (l : List BA) (k : Nat) (s : BA), (0 ≤ fI k l s ∧ hasN l s = true) ∨ (fI k l s < 0 ∧ hasN l s = false) := by
  intro l
  induction l with
  | nil => intro k s; exact .inr ⟨by unfold fI; decide, by unfold hasN; rfl⟩
  | cons y l ih =>
    intro k s
    by_cases h : y = s
    · exact .inl ⟨by unfold fI; rw [if_pos h]; omega, by unfold hasN; simp [h]⟩
    · have e1 : fI k (y :: l) s = fI (k + 1) l s := by
        show (if y = s then (k : Int) else fI (k + 1) l s) = _
        rw [if_neg h]
      have e2 : hasN (y :: l) s = hasN l s := by unfold hasN; simp [h]
      rw [e1, e2]
      exact ih (k + 1) s
theorem fI_drop {l : List BA} {s y : BA} {k : Nat} (h : l[k]? = some y) (hy : y ≠ s) : fI k (l.drop k) s = fI (k + 1) (l.drop (k + 1)) s := by
  have hk : k < l.length := (List.getElem?_eq_some_iff.1 h).1
  rw [List.drop_eq_getElem_cons hk, (List.getElem?_eq_some_iff.1 h).2]
  show (if y = s then (k : Int) else fI (k + 1) (l.drop (k + 1)) s) = _
  rw [if_neg hy]
theorem fI_hit {l : List BA} {s y : BA} {k : Nat} (h : l[k]? = some y) (hy : y = s) : fI k (l.drop k) s = k := by
  have hk : k < l.length := (List.getElem?_eq_some_iff.1 h).1
  rw [List.drop_eq_getElem_cons hk, (List.getElem?_eq_some_iff.1 h).2]
  show (if y = s then (k : Int) else fI (k + 1) (l.drop (k + 1)) s) = _
  rw [if_pos hy]
theorem fI_end {l : List BA} {s : BA} {k : Nat} (h : l.length = k) : fI k (l.drop k) s = -1 := by rw [List.drop_eq_nil_of_le (by omega)]; rfl
attribute [local irreducible] fI
theorem find_is (x : Option Addr) (m c : Nat) (l : List BA) (s : BA) (w : World) (hn : l.length = m) (hm : m ≤ 9223372036854775807) (hl : RowAt 1 strC w x l) :
    Calls Try.prog 47 #[.slice x m c, .string s] w fun e w' => e = .returned (.int .i64 (fI 0 l s)) ∧ w = w' := by
  have HN := Lib.hid hn
  clear hn
  go_enter Try.func47, Try.ntmps47
  go_wp2_with fail
  go_loopg [5] m (fun g i wr => ∃ k : Nat, k + g = m ∧ i = .int .i64 (k : Int) ∧ fI k (l.drop k) s = fI 0 l s ∧ w = wr)
  case atStart => exact ⟨0, by omega, rfl, rfl, rfl⟩
  case round =>
    obtain ⟨k, hk, rfl, hb, rfl⟩ := hrel
    have HB := Lib.hid hb
    clear hb
    by_cases hlt : k < m
    · obtain ⟨y, hy⟩ : ∃ y, l[k]? = some y := ⟨_, List.getElem?_eq_getElem (by rw [HN.out]; exact hlt)⟩
      rcases hl with rfl | ⟨b, off, rfl, hc⟩
      · simp at hy
      have z0 := hc k y hy 0 _ rfl
      rw [Nat.add_zero, Nat.mul_one] at z0
      have HY := Lib.hid hy
      have d1 : (0 : Int) ≤ k := by omega
      have d2 : (k : Int) < m := by omega
      have e1 : wrap64 ((k : Int) + 1) = (k : Int) + 1 := by unfold wrap64; omega
      have HK := Lib.hid hk
      clear hc hy hk
      have hbe := ba_beq y s
      by_cases hys : y = s
      · have HF : Hid (fI 0 l s = k) := Lib.hid (HB.out.symm.trans (fI_hit HY.out hys))
        rw [decide_eq_true hys] at hbe
        clear hys
        go_wp2_with fail
        go_ret
        exact ⟨by rw [HF.out]; rfl, rfl⟩
      · have HT : Hid (fI (k + 1) (l.drop (k + 1)) s = fI 0 l s) := Lib.hid ((fI_drop HY.out hys).symm.trans HB.out)
        rw [decide_eq_false hys] at hbe
        clear hys
        go_wp2_with fail
        go_roundg (m - (k + 1))
        case rel => exact ⟨k + 1, by have := HK.out; omega, by go_num, HT.out, rfl⟩
        case measure => have := HK.out; omega
    · have hkm : m = k := by omega
      subst hkm
      have HF : Hid (fI 0 l s = -1) := Lib.hid (HB.out.symm.trans (fI_end HN.out))
      go_wp2_with fail
      go_ret
      exact ⟨by rw [HF.out]; rfl, rfl⟩
def inS (n : Nat) (l : List Int) : Bool := decide (l.length ≤ 16) && belowB n l
theorem inS_long {n : Nat} {l : List Int} (h : ¬ l.length ≤ 16) : inS n l = false := by unfold inS; rw [decide_eq_false h]; rfl
theorem inS_out {n : Nat} {l : List Int} {k : Nat} {y : Int} (h : l[k]? = some y) (hx : ¬ (0 ≤ y ∧ y < (n : Int))) : inS n l = false := by unfold inS; rw [belowB_false h hx, Bool.and_false]
set_option maxHeartbeats 1000000 in
theorem rin_is (n : Nat) (x : Option Addr) (m c : Nat) (l : List Int) (w : World) (hn : l.length = m) (hm : m ≤ 9223372036854775807) (hl : RowAt 1 intC w x l) :
    Calls Try.prog 48 #[.slice x m c, .int .i64 (n : Int)] w fun e w' => e = .returned (.bool (inS n l)) ∧ w = w' := by
  have HN := Lib.hid hn
  clear hn
  go_enter Try.func48, Try.ntmps48
  go_wp2_with fail
  go_loopg [5] m (fun g i wr => ∃ k : Nat, k + g = m ∧ k ≤ 17 ∧ i = .int .i64 (k : Int) ∧ belowB n (l.take k) = true ∧ w = wr)
  case atStart => exact ⟨0, by omega, by omega, rfl, by unfold belowB; rfl, rfl⟩
  case round =>
    obtain ⟨k, hk, hk17, rfl, hb, rfl⟩ := hrel
    have HB := Lib.hid hb
    clear hb
    by_cases hlt : k < m
    · by_cases h17 : k < 17
      · obtain ⟨y, hy⟩ : ∃ y, l[k]? = some y := ⟨_, List.getElem?_eq_getElem (by rw [HN.out]; exact hlt)⟩
        rcases hl with rfl | ⟨b, off, rfl, hc⟩
        · simp at hy
        have z0 := hc k y hy 0 _ rfl
        rw [Nat.add_zero, Nat.mul_one] at z0
        have HY := Lib.hid hy
        have d1 : (0 : Int) ≤ k := by omega
        have d2 : (k : Int) < m := by omega
        have d3 : (k : Int) < 17 := by omega
        have e1 : wrap64 ((k : Int) + 1) = (k : Int) + 1 := by unfold wrap64; omega
        have HK := Lib.hid hk
        clear hc hy hk hk17 h17
        by_cases h1 : y < 0
        · have HF := Lib.hid (inS_out (n := n) HY.out (by omega))
          go_wp2_with fail
          go_ret
          exact ⟨by rw [HF.out]; rfl, rfl⟩
        by_cases h2 : (n : Int) ≤ y
        · have HF := Lib.hid (inS_out (n := n) HY.out (by omega))
          go_wp2_with fail
          go_ret
          exact ⟨by rw [HF.out]; rfl, rfl⟩
        · have HT : Hid (belowB n (l.take (k + 1)) = true) := Lib.hid (by rw [belowB_take HY.out, HB.out, decide_eq_true (by omega)]; rfl)
          go_wp2_with fail
          go_roundg (m - (k + 1))
          case rel => exact ⟨k + 1, by have := HK.out; omega, by omega, by go_num, HT.out, rfl⟩
          case measure => have := HK.out; omega
      · have HF := Lib.hid (inS_long (n := n) (l := l) (by rw [HN.out]; omega))
        have d2 : (k : Int) < m := by omega
        have d3 : ¬ (k : Int) < 17 := by omega
        have d4 : ¬ (m : Int) ≤ 16 := by omega
        clear hk17 h17
        go_wp2_with fail
        go_ret
        exact ⟨by rw [HF.out]; rfl, rfl⟩
    · have hkm : m = k := by omega
      subst hkm
      have hT : belowB n l = true := by have := HB.out; rwa [List.take_of_length_le (by rw [HN.out]; exact Nat.le_refl _)] at this
      by_cases h16 : m ≤ 16
      · have HF : Hid (inS n l = true) := Lib.hid (by unfold inS; rw [hT, HN.out, decide_eq_true h16]; rfl)
        have d4 : (m : Int) ≤ 16 := by omega
        clear hT
        go_wp2_with fail
        go_ret
        exact ⟨by rw [HF.out]; rfl, rfl⟩
      · have HF := Lib.hid (inS_long (n := n) (l := l) (by rw [HN.out]; omega))
        have d4 : ¬ (m : Int) ≤ 16 := by omega
        clear hT
        go_wp2_with fail
        go_ret
        exact ⟨by rw [HF.out]; rfl, rfl⟩
theorem rin_to (B : Bool) (n : Nat) (x : Option Addr) (m c : Nat) (l : List Int) (w : World) (hB : inS n l = B) (hn : l.length = m) (hm : m ≤ 9223372036854775807) (hl : RowAt 1 intC w x l) :
    Calls Try.prog 48 #[.slice x m c, .int .i64 (n : Int)] w fun e w' => e = .returned (.bool B) ∧ w = w' := hB ▸ rin_is n x m c l w hn hm hl
theorem inS_one (n : Nat) (x : Int) : inS n [x] = decide (0 ≤ x ∧ x < (n : Int)) := by unfold inS; rw [belowB_one]; rfl
theorem rin_one (n : Nat) (x : Int) (w : World) (g : Nat) (t : TypeId) (fr : Nat × Nat) (h : w.heap[g]? = some (.cells #[.int .i64 x] t fr)) : Calls Try.prog 48 #[.slice (some ⟨g, 0, none⟩) 1 1, .int .i64 (n : Int)] w fun e w' => e = .returned (.bool (decide (0 ≤ x ∧ x < (n : Int)))) ∧ w = w' :=
  rin_to _ n _ 1 1 [x] _ (inS_one n x) rfl (by omega) (row_one h)
theorem info_int : (Try.prog.info? 3).map (fun i => (i.zero, i.size, i.bytes)) = some (some (.int .i64 0), 1, 8) := by kernel_rfl
theorem info_str : (Try.prog.info? 9).map (fun i => (i.zero, i.size, i.bytes)) = some (some (.string ⟨#[]⟩), 1, 16) := by kernel_rfl
theorem src_one {w : World} {g : Nat} {t : TypeId} {fr : Nat × Nat} {u : Value} (h1 : u.oneCell' = true) (h : w.heap[g]? = some (.cells #[u] t fr)) : SrcAt w (some ⟨g, 0, none⟩) 1 [u] := by
  refine ⟨fun h => (by cases h), fun v hv => ?_, fun ad had j v hv => ?_⟩
  · simp at hv; subst hv; exact h1
  · obtain rfl := Option.some.inj had
    have hj : j < 1 := (List.getElem?_eq_some_iff.1 hv).1
    obtain rfl : j = 0 := by omega
    simp at hv
    subst hv
    rw [Addr.add_lit]
    exact blk_cell h 0 _ rfl
end Go.Proofs.Ytdkcpejlojdijaa
