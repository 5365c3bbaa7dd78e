/-
  Layer 05: which routes are well-formed; no program in sight.
-/
import Derived.Test.YtdkcpejlojdijaaToT
namespace Go.Proofs.Ytdkcpejlojdijaa
open Go.RowKit

def hasP (l : List (Int × Bool)) (k : Nat) : Bool := l.any fun n => decide (n.1 = (k : Int))
theorem hasP_map (l : List (Int × Bool)) (k : Nat) : hasI (l.map (·.1)) (k : Int) = hasP l k := by
  unfold hasI hasP
  rw [List.any_map]
  rfl
/-- is the kth point, which lies in section s, as a route wants it? -/
def okPt (t : List Int) (po fl : List (Int × Bool)) (k : Nat) (s : Int) : Bool := (hasI t s == hasP po k) && !(hasI t s && hasP fl k)
def okPts (t : List Int) (po fl : List (Int × Bool)) : Nat → List (BA × Int) → Bool
  | _, [] => true
  | k, p :: l => okPt t po fl k p.2 && okPts t po fl (k + 1) l
theorem okPts_drop {t : List Int} {po fl : List (Int × Bool)} {l : List (BA × Int)} {p : BA × Int} {k : Nat} (h : l[k]? = some p) : okPts t po fl k (l.drop k) = (okPt t po fl k p.2 && okPts t po fl (k + 1) (l.drop (k + 1))) := by
  have hk : k < l.length := (List.getElem?_eq_some_iff.1 h).1
  rw [List.drop_eq_getElem_cons hk, (List.getElem?_eq_some_iff.1 h).2]
  rfl
theorem okPts_end {t : List Int} {po fl : List (Int × Bool)} {l : List (BA × Int)} {k : Nat} (h : l.length = k) : okPts t po fl k (l.drop k) = true := by rw [List.drop_eq_nil_of_le (by omega)]; rfl
theorem okPt_ne {t : List Int} {po fl : List (Int × Bool)} {k : Nat} {s : Int} {b c : Bool} (h1 : hasI t s = b) (h2 : hasP po k = c) (h : b ≠ c) : okPt t po fl k s = false := by
  unfold okPt; rw [h1, h2]; cases b <;> cases c <;> first | rfl | exact absurd rfl h
theorem okPt_no {t : List Int} {po fl : List (Int × Bool)} {k : Nat} {s : Int} (h1 : hasI t s = false) (h2 : hasP po k = false) : okPt t po fl k s = true := by
  unfold okPt; rw [h1, h2]; rfl
theorem okPt_in {t : List Int} {po fl : List (Int × Bool)} {k : Nat} {s : Int} {b : Bool} (h1 : hasI t s = true) (h2 : hasP po k = true) (h3 : hasP fl k = b) : okPt t po fl k s = !b := by
  unfold okPt; rw [h1, h2, h3]; cases b <;> rfl
/-- the section of the kth signal -/
def secOf (L : Lay) (k : Int) : Int := ((L.sg.l[k.toNat]?).map (·.2)).getD 0
theorem secOf_at {L : Lay} {k : Nat} {p : BA × Int} (h : L.sg.l[k]? = some p) : secOf L (k : Int) = p.2 := by unfold secOf; rw [Int.toNat_natCast, h]; rfl
def formedS (L : Lay) (r : Rt) : Bool :=
  (!decide (r.pa.l.length = 0) && !dupI [] (r.pa.l ++ r.ov.l)) && (!hasI (r.pa.l ++ r.ov.l) (secOf L r.sg) && !dupN [] (r.po.l ++ r.fl.l)) && okPts (r.pa.l ++ r.ov.l) r.po.l r.fl.l 0 L.po.l
theorem fs_0 {L : Lay} {r : Rt} (h : r.pa.l.length = 0) : formedS L r = false := by unfold formedS; rw [decide_eq_true h]; rfl
theorem fs_1 {L : Lay} {r : Rt} (h : dupI [] (r.pa.l ++ r.ov.l) = true) : formedS L r = false := by unfold formedS; rw [h]; simp
theorem fs_2 {L : Lay} {r : Rt} (h : hasI (r.pa.l ++ r.ov.l) (secOf L r.sg) = true) : formedS L r = false := by unfold formedS; rw [h]; simp
theorem fs_3 {L : Lay} {r : Rt} (h : dupN [] (r.po.l ++ r.fl.l) = true) : formedS L r = false := by unfold formedS; rw [h]; simp
theorem fs_4 {L : Lay} {r : Rt} (h : okPts (r.pa.l ++ r.ov.l) r.po.l r.fl.l 0 L.po.l = false) : formedS L r = false := by unfold formedS; rw [h]; simp
theorem fs_5 {L : Lay} {r : Rt} (h0 : ¬ r.pa.l.length = 0) (h1 : dupI [] (r.pa.l ++ r.ov.l) = false) (h2 : hasI (r.pa.l ++ r.ov.l) (secOf L r.sg) = false) (h3 : dupN [] (r.po.l ++ r.fl.l) = false) (h4 : okPts (r.pa.l ++ r.ov.l) r.po.l r.fl.l 0 L.po.l = true) : formedS L r = true := by
  unfold formedS; rw [decide_eq_false h0, h1, h2, h3, h4]; rfl
/-- by counting -/
theorem dup_big {l : List Int} {y : Int} (hy : y ∈ l) (h : 1 < cntI l y) : dupI [] l = true := by
  cases hd : dupI [] l with
  | true => rfl
  | false => exact absurd ((dup_count l).1 hd y hy) (by omega)
theorem dup_small {l : List Int} (h : ∀ y ∈ l, ¬ 1 < cntI l y) : dupI [] l = false := (dup_count l).2 (fun y hy => Nat.le_of_not_lt (h y hy))
theorem dupN_map (l : List (Int × Bool)) : dupN [] l = dupI [] (l.map (·.1)) := dupN_eq l []
theorem cnt_no {l : List Int} {s : Int} (h : hasI l s = false) : cntI l s = 0 := by
  have := (cnt_pos l s).1
  rw [h] at this
  cases hc : cntI l s with
  | zero => rfl
  | succ n => exact absurd (this (by omega)) (by decide)
theorem cnt_yes {l : List Int} {s : Int} (h : hasI l s = true) : 0 < cntI l s := (cnt_pos l s).2 h
end Go.Proofs.Ytdkcpejlojdijaa
