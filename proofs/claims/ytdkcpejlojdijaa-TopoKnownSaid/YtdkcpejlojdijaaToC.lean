/-
  Which layouts may be, plainly; the walk of layout.may.
-/
import Derived.Test.YtdkcpejlojdijaaToB
namespace Go.Proofs.Ytdkcpejlojdijaa
open Go.RowKit

def mayB (n : Nat) (l : List (Int × Bool)) : Bool := decide (l.length ≤ 16) && belowB n (l.map (·.1))
def hasN (pre : List BA) (s : BA) : Bool := pre.any fun x => decide (x = s)
theorem hasN_iff {pre : List BA} {s : BA} : hasN pre s = true ↔ s ∈ pre := by
  unfold hasN
  rw [List.any_eq_true]
  constructor
  · rintro ⟨x, hx, h⟩; have := of_decide_eq_true h; subst this; exact hx
  · exact fun h => ⟨s, h, decide_eq_true rfl⟩
def okNm (pre : List BA) (s : BA) : Bool := rightS s && !hasN pre s
def nmsFrom : List BA → List BA → Bool
  | _, [] => true
  | pre, s :: t => okNm pre s && nmsFrom (pre ++ [s]) t
def ptsFrom (pre : List BA) (n : Nat) (l : List (BA × Int)) : Bool := nmsFrom pre (l.map (·.1)) && belowB n (l.map (·.2))
def rtB (S P : Nat) (r : Rt) : Bool := decide (r.pa.l.length ≤ 16) && decide (r.ov.l.length ≤ 16) && belowB S r.pa.l && belowB S r.ov.l && (mayB P r.po.l && mayB P r.fl.l)
def rtsFrom (pre : List BA) (G S P : Nat) (l : List Rt) : Bool := nmsFrom pre (l.map (·.nm)) && belowB G (l.map (·.sg)) && l.all (rtB S P)
def Lay.n1 (L : Lay) : List BA := L.se.l
def Lay.n2 (L : Lay) : List BA := L.se.l ++ L.po.l.map (·.1)
def Lay.n3 (L : Lay) : List BA := L.n2 ++ L.sg.l.map (·.1)
def Lay.small (L : Lay) : Bool := decide (L.se.l.length ≤ 64 ∧ L.po.l.length ≤ 32 ∧ L.sg.l.length ≤ 32 ∧ L.rt.l.length ≤ 64)
def mayS (L : Lay) : Bool := L.small && (nmsFrom [] L.se.l && ptsFrom L.n1 L.se.l.length L.po.l && ptsFrom L.n2 L.se.l.length L.sg.l && rtsFrom L.n3 L.sg.l.length L.se.l.length L.po.l.length L.rt.l)
theorem nms_snoc (s : BA) : ∀ (l pre : List BA), nmsFrom pre (l ++ [s]) = (nmsFrom pre l && okNm (pre ++ l) s) := by
  intro l
  induction l with
  | nil => intro pre; simp [nmsFrom]
  | cons a l ih => intro pre; simp [nmsFrom, ih, Bool.and_assoc]
theorem nms_append : ∀ (l m pre : List BA), nmsFrom pre (l ++ m) = (nmsFrom pre l && nmsFrom (pre ++ l) m) := by
  intro l
  induction l with
  | nil => intro m pre; simp [nmsFrom]
  | cons a l ih => intro m pre; simp [nmsFrom, ih, Bool.and_assoc]
theorem nms_take {pre l : List BA} {k : Nat} {s : BA} (h : l[k]? = some s) : nmsFrom pre (l.take (k + 1)) = (nmsFrom pre (l.take k) && okNm (pre ++ l.take k) s) := by
  rw [List.take_add_one, h]; exact nms_snoc _ _ _
theorem take_map {α β : Type} {f : α → β} {l : List α} {k : Nat} : (l.take k).map f = (l.map f).take k := List.map_take
theorem get_map {α β : Type} {f : α → β} {l : List α} {k : Nat} {c : α} (h : l[k]? = some c) : (l.map f)[k]? = some (f c) := by rw [List.getElem?_map, h]; rfl
theorem pts_take {pre : List BA} {n : Nat} {l : List (BA × Int)} {k : Nat} {c : BA × Int} (h : l[k]? = some c) : ptsFrom pre n (l.take (k + 1)) = (ptsFrom pre n (l.take k) && (okNm (pre ++ (l.take k).map (·.1)) c.1 && decide (0 ≤ c.2 ∧ c.2 < (n : Int)))) := by
  unfold ptsFrom
  rw [take_map, take_map, nms_take (get_map h), belowB_take (get_map h), take_map, take_map]
  cases nmsFrom pre ((l.map (·.1)).take k) <;> cases belowB n ((l.map (·.2)).take k) <;> simp
theorem rts_take {pre : List BA} {G S P : Nat} {l : List Rt} {k : Nat} {c : Rt} (h : l[k]? = some c) : rtsFrom pre G S P (l.take (k + 1)) = (rtsFrom pre G S P (l.take k) && (okNm (pre ++ (l.take k).map (·.nm)) c.nm && decide (0 ≤ c.sg ∧ c.sg < (G : Int)) && rtB S P c)) := by
  have ha : (l.take (k + 1)).all (rtB S P) = ((l.take k).all (rtB S P) && rtB S P c) := by rw [List.take_add_one, h, List.all_append]; simp
  unfold rtsFrom
  rw [ha, take_map, take_map, nms_take (get_map h), belowB_take (get_map h), take_map, take_map]
  cases nmsFrom pre ((l.map (·.nm)).take k) <;> cases belowB G ((l.map (·.sg)).take k) <;> cases (l.take k).all (rtB S P) <;> simp
theorem belowB_one (n : Nat) (x : Int) : belowB n [x] = decide (0 ≤ x ∧ x < (n : Int)) := by unfold belowB; simp
theorem right_to (b : Bool) (s : BA) (w : World) (hs : s.size ≤ maxLen) (h : rightS s = b) : Calls Try.prog 34 #[.string s] w fun e w' => e = .returned (.bool b) ∧ Below w.heap.size w w' := h ▸ right_is s w hs
theorem below_to (B : Bool) (n : Nat) (x : Option Addr) (m c : Nat) (l : List Int) (w : World) (hB : belowB n l = B) (hn : l.length = m) (hm : m ≤ 9223372036854775807) (hl : RowAt 1 intC w x l) :
    Calls Try.prog 36 #[.int .i64 (n : Int), .slice x m c] w fun e w' => e = .returned (.bool B) ∧ w = w' := hB ▸ below_is n x m c l w hn hm hl
theorem row_one {w : World} {g : Nat} {x : Int} {t : TypeId} {fr : Nat × Nat} (h : w.heap[g]? = some (.cells #[.int .i64 x] t fr)) : RowAt 1 intC w (some ⟨g, 0, none⟩) [x] := by
  refine .inr ⟨g, 0, rfl, fun i c hi j v hv => ?_⟩
  have hi1 : i < 1 := (List.getElem?_eq_some_iff.1 hi).1
  have hj1 : j < 1 := (List.getElem?_eq_some_iff.1 hv).1
  obtain rfl : i = 0 := by omega
  obtain rfl : j = 0 := by omega
  simp at hi hv
  subst hi
  simp [intC] at hv
  subst hv
  exact blk_cell h 0 _ rfl
theorem one_below (n : Nat) (x : Int) (w : World) (g : Nat) (t : TypeId) (fr : Nat × Nat) (h : w.heap[g]? = some (.cells #[.int .i64 x] t fr)) : Calls Try.prog 36 #[.int .i64 (n : Int), .slice (some ⟨g, 0, none⟩) 1 1] w fun e w' => e = .returned (.bool (decide (0 ≤ x ∧ x < (n : Int)))) ∧ w = w' :=
  below_to _ n _ 1 1 [x] _ (belowB_one n x) rfl (by omega) (row_one h)
theorem mayB_long {n : Nat} {l : List (Int × Bool)} (h : ¬ l.length ≤ 16) : mayB n l = false := by unfold mayB; rw [decide_eq_false h]; rfl
theorem mayB_out {n : Nat} {l : List (Int × Bool)} {k : Nat} {c : Int × Bool} (h : l[k]? = some c) (hx : ¬ (0 ≤ c.1 ∧ c.1 < (n : Int))) : mayB n l = false := by
  unfold mayB; rw [belowB_false (get_map h) hx, Bool.and_false]
attribute [local irreducible] belowB mayB okNm nmsFrom
set_option maxHeartbeats 1000000 in
theorem may_is (p : Nat) (x : Option Addr) (m c : Nat) (l : List (Int × Bool)) (w : World) (hn : l.length = m) (hm : m ≤ 9223372036854775807) (hl : RowAt 2 ndC w x l) :
    Calls Try.prog 37 #[.slice x m c, .int .i64 (p : Int)] w fun e w' => e = .returned (.bool (mayB p l)) ∧ Below w.heap.size w w' := by
  have HN := Lib.hid hn
  clear hn
  go_enter Try.func37, Try.ntmps37
  go_wp2_with fail
  go_loopg [5, 6, 9] m (fun g _ _ i wr => ∃ k : Nat, k + g = m ∧ k ≤ 16 ∧ i = .int .i64 (k : Int) ∧ belowB p ((l.map (·.1)).take k) = true ∧ Below w.heap.size w wr)
  case atStart => exact ⟨0, by omega, by omega, rfl, by unfold belowB; rfl, Below.refl _ _⟩
  case round =>
    obtain ⟨k, hk, hk16, rfl, hb, hbw⟩ := hrel
    have HB := Lib.hid hb
    clear hb
    by_cases hlt : k < m
    · obtain ⟨y, hy⟩ : ∃ y, l[k]? = some y := ⟨_, List.getElem?_eq_getElem (by rw [HN.out]; exact hlt)⟩
      have hl2 := hl.below hbw
      rcases hl2 with rfl | ⟨b, off, rfl, hc⟩
      · simp at hy
      obtain ⟨y0, y1⟩ := y
      have z0 := hc k _ hy 0 _ rfl
      have z1 := hc k _ hy 1 _ rfl
      rw [Nat.add_zero] at z0
      dsimp only at z0 z1
      have HY := Lib.hid hy
      have d1 : (0 : Int) ≤ k := by omega
      have d2 : (k : Int) < m := by omega
      have e1 : wrap64 ((k : Int) + 1) = (k : Int) + 1 := by unfold wrap64; omega
      have HK := Lib.hid hk
      have HBW := Lib.hid hbw
      clear hc hy hk hbw
      by_cases h16 : k = 16
      · have HF : Hid (mayB p l = false) := Lib.hid (mayB_long (by have := HN.out; omega))
        have h3 : (16 : Int) ≤ k := by omega
        clear hk16 h16
        go_wp2_with fail
        go_ret
        refine ⟨by rw [HF.out]; rfl, ?_⟩
        exact below_on HBW.out (below1 _ _)
      have h3 : ¬ (16 : Int) ≤ k := by omega
      have HK16 := Lib.hid (show k + 1 ≤ 16 by omega)
      clear hk16 h16
      obtain ⟨D, hD⟩ : ∃ D, decide (0 ≤ y0 ∧ y0 < (p : Int)) = D := ⟨_, rfl⟩
      have HKK : Hid (∀ (W : World) (g : Nat), W.heap[g]? = some (.cells #[.int .i64 y0] 3) → Calls Try.prog 36 #[.int .i64 (p : Int), .slice (some ⟨g, 0, none⟩) 1 1] W fun e w' => e = .returned (.bool D) ∧ W = w') := Lib.hid (fun W g h => hD ▸ one_below p y0 W g 3 (0, 0) h)
      cases D with
      | true =>
        have HT : Hid (belowB p ((l.map (·.1)).take (k + 1)) = true) := Lib.hid (by rw [belowB_take (get_map HY.out), HB.out, hD]; rfl)
        clear hD
        go_wp2_with fail
        refine (HKK.out _ _ (alloc2' wr _ _).2).mono ?_
        rintro e w7 ⟨rfl, rfl⟩
        go_wp2_with fail
        go_roundg (m - (k + 1))
        case rel => exact ⟨k + 1, by have := HK.out; omega, HK16.out, by go_num, HT.out, below_on HBW.out (below2' wr _ _)⟩
        case measure => have := HK.out; omega
      | false =>
        have HF : Hid (mayB p l = false) := Lib.hid (mayB_out HY.out (by dsimp only; exact of_decide_eq_false hD))
        clear hD
        go_wp2_with fail
        refine (HKK.out _ _ (alloc2' wr _ _).2).mono ?_
        rintro e w7 ⟨rfl, rfl⟩
        go_wp2_with fail
        go_ret
        exact ⟨by rw [HF.out]; rfl, below_on HBW.out (below2' wr _ _)⟩
    · obtain rfl : k = m := by omega
      have HT : Hid (mayB p l = true) := Lib.hid (by
        have h1 := HB.out
        rw [List.take_of_length_le (by rw [List.length_map, HN.out]; exact Nat.le_refl _)] at h1
        have h2 := HN.out
        unfold mayB
        rw [h1, decide_eq_true (by omega)]; rfl)
      have HBW := Lib.hid hbw
      clear hbw
      go_wp2_with fail
      go_ret
      exact ⟨by rw [HT.out]; rfl, HBW.out⟩
theorem may_to (B : Bool) (p : Nat) (x : Option Addr) (m c : Nat) (l : List (Int × Bool)) (w : World) (hB : mayB p l = B) (hn : l.length = m) (hm : m ≤ 9223372036854775807) (hl : RowAt 2 ndC w x l) :
    Calls Try.prog 37 #[.slice x m c, .int .i64 (p : Int)] w fun e w' => e = .returned (.bool B) ∧ Below w.heap.size w w' := hB ▸ may_is p x m c l w hn hm hl
end Go.Proofs.Ytdkcpejlojdijaa
