/-
  Layer 08, plainly: a layout as sets.
-/
import Derived.Test.YtififkielmddpaaMkA
import Derived.Test.YtififkielmddpaaCoN
import Derived.Test.YtififkielmddpaaTpF
import Derived.Test.YtififkielmddpaaTpH
namespace Go.Proofs.Ytififkielmddpaa
open Go.RowKit
set_option maxRecDepth 100000
theorem k_succ {k n : Nat} (h : k < n) (hn : n ≤ 9223372036854775807) : wrap64 ((k : Int) + 1) = (k : Int) + 1 := by unfold wrap64; omega
theorem k_next {i g m : Nat} (h : i + g = m) (hi : i < m) : i + 1 + (m - (i + 1)) = m := by omega
theorem k_less {i g m : Nat} (h : i + g = m) (hi : i < m) : m - (i + 1) < g := by omega
theorem k_box {w : World} {g : Nat} {a b c d : Value} {t : TypeId} {fr : Nat × Nat} (h : w.heap[g]? = some (.cells #[a, b, c, d] t fr)) : w.cell? ⟨g, 0, none⟩ = some a ∧ w.cell? ⟨g, 1, none⟩ = some b ∧ w.cell? ⟨g, 2, none⟩ = some c ∧ w.cell? ⟨g, 3, none⟩ = some d :=
  ⟨blk_cell h 0 _ rfl, blk_cell h 1 _ rfl, blk_cell h 2 _ rfl, blk_cell h 3 _ rfl⟩
theorem k_grown {w W : World} {base : Nat} {e : TypeId} {sz : Nat} {v : Value} {n : Nat} {xs : List Value} {row : Option Nat} (h : w.grownBy W row) (ho : w.ownsRow base e sz v n xs) (hne : ∀ k, v.ownBlock = some k → row ≠ some k) : W.ownsRow base e sz v n xs := by
  refine ⟨ho.1, ho.2.imp id ?_⟩
  rintro ⟨g, cap, cur, h1, h2, h3, h4⟩
  exact ⟨g, cap, cur, h1, h2, grown_keep h h3 (hne g (by rw [h1]; rfl)), h4⟩
theorem k_sh {w : World} {base : Nat} {e : TypeId} {sz : Nat} {v : Value} {n : Nat} {xs : List Value} (h : w.ownsRow base e sz v n xs) : ∃ a c, v = .slice a n c := by
  rcases h.2 with ⟨h1, h2⟩ | ⟨g, cap, cur, h1, _⟩
  · exact ⟨none, 0, by rw [h1, h2]⟩
  · exact ⟨_, _, h1⟩
theorem k_rowat {α : Type} {sz B : Nat} {f : α → List Value} (hf : ∀ c, (f c).length = sz) {w : World} {e : TypeId} {v : Value} {l : List α} (h : w.ownsRow B e sz v l.length (l.flatMap f)) : ∃ x c, v = .slice x l.length c ∧ RowAt sz f w x l := by
  rcases h.2 with ⟨h1, h2⟩ | ⟨g, cap, cur, h1, _, h3, _, _, _, h4⟩
  · exact ⟨none, 0, by rw [h1, h2], .inl (List.length_eq_zero_iff.1 h2)⟩
  · refine ⟨_, _, h1, .inr ⟨g, 0, rfl, fun i c hi j v hv => ?_⟩⟩
    have k := flat_get hf l i c j v hi hv
    rw [← h4] at k
    rw [Nat.zero_add]
    refine blk_cell h3 _ _ ?_
    rw [List.getElem?_take] at k
    split at k
    · rw [← Array.getElem?_toList]; exact k
    · cases k
theorem k_snoc {α : Type} {f : α → List Value} {w : World} {B sz : Nat} {e : TypeId} {v : Value} {R : List α} {x : α} {X : List Value} (hX : X = f x) (h : w.ownsRow B e sz v (R.length + 1) (R.flatMap f ++ X)) : w.ownsRow B e sz v (R ++ [x]).length ((R ++ [x]).flatMap f) := by
  rw [List.flatMap_append, List.length_append]
  show w.ownsRow B e sz v (R.length + 1) (R.flatMap f ++ (f x ++ []))
  rw [List.append_nil, ← hX]
  exact h
/-- a route as sets -/
structure Mk where
  t : Nat
  f : Nat
  a : Nat
  n : Nat
  r : Nat
  c : Nat
def mkC (m : Mk) : List Value := [.int .u64 (m.t : Int), .int .u64 (m.f : Int), .int .u64 (m.a : Int), .int .u32 (m.n : Int), .int .u32 (m.r : Int), .int .u64 (m.c : Int)]
structure Mk.ok (m : Mk) : Prop where
  t : m.t < 18446744073709551616
  f : m.f < 18446744073709551616
  a : m.a < 18446744073709551616
  n : m.n < 4294967296
  r : m.r < 4294967296
  c : m.c < 18446744073709551616
theorem mk_len (m : Mk) : (mkC m).length = 6 := rfl
theorem mk_one (m : Mk) : ∀ u ∈ mkC m, u.oneCell' = true := by intro u h; simp [mkC] at h; rcases h with rfl | rfl | rfl | rfl | rfl | rfl <;> rfl
/-- the points of needs on a side -/
def sideL (l : List (Int × Bool)) (b : Bool) : List Int := (l.filter (fun x => x.2 == b)).map (·.1)
def sideS (l : List (Int × Bool)) (b : Bool) : Nat := ofN (sideL l b)
theorem sideL_yes {l : List (Int × Bool)} {k : Nat} {p : Int} {b : Bool} (h : l[k]? = some (p, b)) : sideL (l.take (k + 1)) b = sideL (l.take k) b ++ [p] := by
  unfold sideL
  rw [List.take_add_one, h, List.filter_append, List.map_append]
  simp
theorem sideL_no {l : List (Int × Bool)} {k : Nat} {p : Int} {b c : Bool} (h : l[k]? = some (p, c)) (hb : c ≠ b) : sideL (l.take (k + 1)) b = sideL (l.take k) b := by
  unfold sideL
  rw [List.take_add_one, h, List.filter_append, List.map_append]
  have : (c == b) = false := by simpa using hb
  simp [this]
theorem side_yes {l : List (Int × Bool)} {k : Nat} {p : Int} {b : Bool} (h : l[k]? = some (p, b)) : sideS (l.take (k + 1)) b = withI (sideS (l.take k) b) p := by unfold sideS; rw [sideL_yes h, ofN_snoc]
theorem side_no {l : List (Int × Bool)} {k : Nat} {p : Int} {b c : Bool} (h : l[k]? = some (p, c)) (hb : c ≠ b) : sideS (l.take (k + 1)) b = sideS (l.take k) b := by unfold sideS; rw [sideL_no h hb]
theorem sideL_zero (l : List (Int × Bool)) (b : Bool) : sideL (l.take 0) b = [] := rfl
theorem side_zero (l : List (Int × Bool)) (b : Bool) : sideS (l.take 0) b = 0 := rfl
theorem sideL_len (l : List (Int × Bool)) (b : Bool) (k : Nat) : (sideL (l.take k) b).length ≤ k := by
  unfold sideL
  rw [List.length_map]
  refine Nat.le_trans (List.length_filter_le _ _) ?_
  rw [List.length_take]; omega
theorem fold_lt32 : ∀ (l : List Int) (s : Nat), s < 4294967296 → (∀ x ∈ l, 0 ≤ x ∧ x ≤ 31) → l.foldl withI s < 4294967296
  | [], _, h, _ => h
  | x :: l, s, h, hl => by
    refine fold_lt32 l _ ?_ (fun y hy => hl y (List.mem_cons_of_mem _ hy))
    have hx := hl x List.mem_cons_self
    unfold withI
    rw [if_pos (by omega), withBit_or]
    refine Nat.or_lt_two_pow (n := 32) h ?_
    exact Nat.pow_lt_pow_right (by omega) (by omega)
theorem side_lt {l : List (Int × Bool)} {b : Bool} (h : ∀ x ∈ l, 0 ≤ x.1 ∧ x.1 ≤ 31) : sideS l b < 4294967296 := by
  refine fold_lt32 _ 0 (by decide) fun x hx => ?_
  unfold sideL at hx
  obtain ⟨y, hy, rfl⟩ := List.mem_map.1 hx
  exact h y (List.mem_filter.1 hy).1
theorem take_bound {l : List (Int × Bool)} (h : ∀ x ∈ l, 0 ≤ x.1 ∧ x.1 ≤ 31) (k : Nat) : ∀ x ∈ l.take k, 0 ≤ x.1 ∧ x.1 ≤ 31 := fun x hx => h x (List.mem_of_mem_take hx)
/-- one more of 32 -/
theorem or_step32 {s n : Nat} (hn : n ≤ 31) (hs : s < 4294967296) : bits .or .u32 (s : Int) ((pw n : Nat) : Int) = ((withBit s n : Nat) : Int) := by
  have hp : pw n < 4294967296 := Nat.pow_lt_pow_right (n := 32) (by omega) (by omega)
  rw [u32_or_nat s (pw n) hs hp, withBit_or]
def firstS (r : Rt) : Nat := withI 0 (r.pa.l.headD 0)
def aheadS (L : Lay) (r : Rt) : Nat := withI 0 (secOf L r.sg)
def mkR (L : Lay) (r : Rt) (c : Nat) : Mk := ⟨ofN r.tr, firstS r, aheadS L r, sideS r.nd false, sideS r.nd true, c⟩
def mkF (L : Lay) (i : Nat) : Mk := match L.rt.l[i]? with | some r => mkR L r (rowS L i) | none => ⟨0, 0, 0, 0, 0, 0⟩
def mksS (L : Lay) : List Mk := (List.range L.rt.l.length).map (mkF L)
def liesS (L : Lay) : List Nat := L.po.l.map (fun p => withI 0 p.2)
theorem mkF_at {L : Lay} {i : Nat} {r : Rt} (h : L.rt.l[i]? = some r) : mkF L i = mkR L r (rowS L i) := by unfold mkF; rw [h]
theorem mks_len (L : Lay) : (mksS L).length = L.rt.l.length := by simp [mksS]
theorem mks_get {L : Lay} {i : Nat} {r : Rt} (h : L.rt.l[i]? = some r) : (mksS L)[i]? = some (mkR L r (rowS L i)) := by
  have := (List.getElem?_eq_some_iff.1 h).1
  rw [← mkF_at h]
  simp [mksS, this]
theorem mks_take {L : Lay} {i : Nat} {r : Rt} (h : L.rt.l[i]? = some r) : (mksS L).take (i + 1) = (mksS L).take i ++ [mkR L r (rowS L i)] := by rw [List.take_add_one, mks_get h]; rfl
theorem lies_take {L : Lay} {i : Nat} {p : BA × Int} (h : L.po.l[i]? = some p) : (liesS L).take (i + 1) = (liesS L).take i ++ [withI 0 p.2] := by
  rw [List.take_add_one]
  unfold liesS
  rw [List.getElem?_map, h]
  rfl
theorem mkR_ok {L : Lay} {r : Rt} {c : Nat} (hm : ∀ n ∈ r.nd, 0 ≤ n.1 ∧ n.1 ≤ 31) (hc : c < 18446744073709551616) : (mkR L r c).ok :=
  ⟨ofN_lt _, withI_lt _ (by decide), withI_lt _ (by decide), side_lt hm, side_lt hm, hc⟩
theorem k_nd {L : Lay} (h : mayS L = true) : ∀ r ∈ L.rt.l, ∀ n ∈ r.nd, 0 ≤ n.1 ∧ n.1 ≤ 31 := by
  intro r hr n hn
  have o := mayS_rt h r hr
  have z := mayS_small h
  unfold Rt.nd at hn
  rcases List.mem_append.1 hn with hn | hn
  · have := belowB_mem o.qb n.1 (List.mem_map.2 ⟨n, hn, rfl⟩); omega
  · have := belowB_mem o.fb n.1 (List.mem_map.2 ⟨n, hn, rfl⟩); omega
theorem formed_of {L : Lay} (h : (checkS L).1 = 0) : ∀ r ∈ L.rt.l, formedS L r = true := by
  refine bad_none.1 ?_
  by_cases hb : 0 ≤ badS L
  · rw [cs_bad (cs_zero h) rfl hb] at h; cases h
  · omega
theorem formed_pa {L : Lay} {r : Rt} (h : formedS L r = true) : r.pa.l ≠ [] := by
  intro he
  rw [fs_0 (by rw [he]; rfl)] at h
  cases h
theorem mks_ok {L : Lay} (h : mayS L = true) : ∀ m ∈ mksS L, m.ok := by
  intro m hm
  unfold mksS at hm
  obtain ⟨i, hi, rfl⟩ := List.mem_map.1 hm
  have hlt := List.mem_range.1 hi
  rw [mkF_at (List.getElem?_eq_getElem hlt)]
  exact mkR_ok (k_nd h _ (List.getElem_mem _)) (rowS_lt (mayS_small h).2.2.2 i)
theorem lies_ok (L : Lay) : ∀ m ∈ liesS L, m < 18446744073709551616 := by
  intro m hm
  unfold liesS at hm
  obtain ⟨p, _, rfl⟩ := List.mem_map.1 hm
  exact withI_lt _ (by decide)
/-- what Make gives -/
def mksL (L : Lay) : List Mk := if (checkS L).1 = 0 then mksS L else []
def liesL (L : Lay) : List Nat := if (checkS L).1 = 0 then liesS L else []
def allL (L : Lay) : Nat := if (checkS L).1 = 0 then pw L.rt.l.length - 1 else 0
def ptsL (L : Lay) : Nat := if (checkS L).1 = 0 then pw L.po.l.length - 1 else 0
def trsL (L : Lay) : Nat := if (checkS L).1 = 0 then pw L.se.l.length - 1 else 0
end Go.Proofs.Ytififkielmddpaa
