/-
  Layouts in memory: rows of elements of any kind; what a reading of an argument gives.
-/
import Derived.Test.YtdkcpejlojdijaaRead2
import Derived.Test.YtdkcpejlojdijaaBase2
import Derived.Test.YtdkcpejlojdijaaAppend
import Derived.Test.YtdkcpejlojdijaaProg
namespace Go.Proofs.Ytdkcpejlojdijaa
open Go.RowKit

/-- a row of elements, each of sz cells -/
def RowAt {α : Type} (sz : Nat) (f : α → List Value) (w : World) (a : Option Addr) (l : List α) : Prop :=
  l = [] ∨ ∃ b off, a = some ⟨b, off, none⟩ ∧ ∀ i c, l[i]? = some c → ∀ j v, (f c)[j]? = some v → w.cell? ⟨b, off + i * sz + j, none⟩ = some v
theorem RowAt.below {α : Type} {sz : Nat} {f : α → List Value} {w w' : World} {a : Option Addr} {l : List α} (h : RowAt sz f w a l) (hb : Below w.heap.size w w') : RowAt sz f w' a l := by
  refine h.imp id ?_
  rintro ⟨b, off, rfl, hc⟩
  exact ⟨b, off, rfl, fun i c hi j v hv => cell_later hb (hc i c hi j v hv)⟩
theorem RowAt.nil {α : Type} {sz : Nat} {f : α → List Value} {w : World} {a : Option Addr} : RowAt sz f w a [] := .inl rfl
theorem RowAt.take {α : Type} {sz : Nat} {f : α → List Value} {w : World} {a : Option Addr} {l : List α} (h : RowAt sz f w a l) (n : Nat) : RowAt sz f w a (l.take n) := by
  rcases h with rfl | ⟨b, off, rfl, hc⟩
  · exact .inl (by simp)
  · refine .inr ⟨b, off, rfl, fun i c hi => hc i c ?_⟩
    rw [List.getElem?_take] at hi
    split at hi
    · exact hi
    · cases hi
/-- a slice: where it lies, its capacity, its elements -/
structure Sl (α : Type) where
  a : Option Addr
  c : Nat
  l : List α
def Sl.v {α : Type} (s : Sl α) : Value := .slice s.a s.l.length s.c
structure SlAt {α : Type} (sz : Nat) (f : α → List Value) (w : World) (s : Sl α) : Prop where
  row : RowAt sz f w s.a s.l
  len : s.l.length ≤ s.c
  cap : s.c ≤ maxLen
  capNil : s.a = none → s.c = 0
theorem SlAt.below {α : Type} {sz : Nat} {f : α → List Value} {w w' : World} {s : Sl α} (h : SlAt sz f w s) (hb : Below w.heap.size w w') : SlAt sz f w' s := ⟨h.row.below hb, h.len, h.cap, h.capNil⟩
theorem SlAt.lenM {α : Type} {sz : Nat} {f : α → List Value} {w : World} {s : Sl α} (h : SlAt sz f w s) : s.l.length ≤ 9223372036854775807 := by have := h.len; have := h.cap; unfold maxLen at this; omega
abbrev BA := ByteArray
def intC (x : Int) : List Value := [.int .i64 x]
def strC (s : BA) : List Value := [.string s]
def ndC (n : Int × Bool) : List Value := [.int .i64 n.1, .bool n.2]
def ptC (p : BA × Int) : List Value := [.string p.1, .int .i64 p.2]
structure Rt where
  nm : BA
  sg : Int
  pa : Sl Int
  po : Sl (Int × Bool)
  ov : Sl Int
  fl : Sl (Int × Bool)
def rtC (r : Rt) : List Value := [.string r.nm, .int .i64 r.sg, r.pa.v, r.po.v, r.ov.v, r.fl.v]
structure RtAt (w : World) (r : Rt) : Prop where
  nm : r.nm.size ≤ maxLen
  pa : SlAt 1 intC w r.pa
  po : SlAt 2 ndC w r.po
  ov : SlAt 1 intC w r.ov
  fl : SlAt 2 ndC w r.fl
theorem RtAt.below {w w' : World} {r : Rt} (h : RtAt w r) (hb : Below w.heap.size w w') : RtAt w' r := ⟨h.nm, h.pa.below hb, h.po.below hb, h.ov.below hb, h.fl.below hb⟩
structure Lay where
  se : Sl BA
  po : Sl (BA × Int)
  sg : Sl (BA × Int)
  rt : Sl Rt
structure LayAt (w : World) (L : Lay) : Prop where
  se : SlAt 1 strC w L.se
  po : SlAt 2 ptC w L.po
  sg : SlAt 2 ptC w L.sg
  rt : SlAt 6 rtC w L.rt
  sn : ∀ s ∈ L.se.l, s.size ≤ maxLen
  pn : ∀ p ∈ L.po.l, p.1.size ≤ maxLen
  gn : ∀ p ∈ L.sg.l, p.1.size ≤ maxLen
  rn : ∀ r ∈ L.rt.l, RtAt w r
theorem LayAt.below {w w' : World} {L : Lay} (h : LayAt w L) (hb : Below w.heap.size w w') : LayAt w' L := ⟨h.se.below hb, h.po.below hb, h.sg.below hb, h.rt.below hb, h.sn, h.pn, h.gn, fun r hr => (h.rn r hr).below hb⟩
/-- a reading of a slice gives a row, if a reading of an element gives an element -/
theorem sl_of {α : Type} {P : Program} {t e : TypeId} {sz : Nat} {f : α → List Value} {A : α → Prop} {w : World} {cs : List Value} (hu : P.underlying t = some (.slice e)) (hsz : P.cellsOf e = sz) (hpos : 0 < sz) (hlen : ∀ c, (f c).length = sz)
    (hel : ∀ cs, Rd P w e cs → ∃ c : α, cs = f c ∧ A c) (h : Rd P w t cs) : ∃ s : Sl α, cs = [s.v] ∧ SlAt sz f w s ∧ ∀ c ∈ s.l, A c := by
  rcases h.slice hu with rfl | ⟨x, len, cap, rfl, hlc, hcm, hcell⟩
  · exact ⟨⟨none, 0, []⟩, rfl, ⟨.inl rfl, Nat.le_refl _, Nat.zero_le _, fun _ => rfl⟩, by simp⟩
  · have H : ∀ i, i < len → ∃ c : α, A c ∧ ∀ j v, (f c)[j]? = some v → w.cell? ((x.add (i * sz)).add j) = some v := by
      intro i hi
      obtain ⟨ecs, he, hr⟩ := hcell i (by omega)
      rw [hsz] at he
      obtain ⟨c, rfl, hA⟩ := hel ecs hr
      obtain ⟨_, hg⟩ := cells_get he
      refine ⟨c, hA, fun j v hv => ?_⟩
      have hj : j < sz := by rw [← hlen c]; exact (List.getElem?_eq_some_iff.1 hv).1
      obtain ⟨v', g0, c0⟩ := hg j hj
      rw [hv] at g0
      cases g0
      exact c0
    obtain ⟨l, hl, hq⟩ := list_of len H
    refine ⟨⟨some x, cap, l⟩, by unfold Sl.v; rw [hl], ⟨?_, by dsimp only; omega, hcm, fun h => by cases h⟩, fun c hc => ?_⟩
    · rcases l with _ | ⟨c0, l⟩
      · exact .inl rfl
      · right
        have h0 := (hq 0 c0 rfl).2
        have hs : x.spot = none := by
          have hz : 0 < (f c0).length := by rw [hlen]; exact hpos
          have := h0 0 _ (List.getElem?_eq_getElem hz)
          rw [Nat.zero_mul] at this
          exact World.cell?_spot (show w.cell? x = some _ by simpa [Addr.add] using this)
        obtain ⟨b, off, spot⟩ := x
        subst hs
        refine ⟨b, off, rfl, fun i c hi j v hv => ?_⟩
        have := (hq i c hi).2 j v hv
        simpa only [Addr.add_lit, Nat.add_zero] using this
    · obtain ⟨i, hi⟩ := List.getElem?_of_mem hc
      exact (hq i c hi).1
theorem int_el {w : World} {cs : List Value} (h : Rd Try.prog w 3 cs) : ∃ c : Int, cs = intC c ∧ True := by
  obtain ⟨n, rfl, _⟩ := h.int Try.underlying3
  exact ⟨n, rfl, trivial⟩
theorem str_el {w : World} {cs : List Value} (h : Rd Try.prog w 9 cs) : ∃ c : BA, cs = strC c ∧ c.size ≤ maxLen := by
  obtain ⟨s, rfl, h2⟩ := h.str Try.underlying9
  exact ⟨s, rfl, h2⟩
theorem nd_el {w : World} {cs : List Value} (h : Rd Try.prog w 32 cs) : ∃ c : Int × Bool, cs = ndC c ∧ True := by
  obtain ⟨hl, hf⟩ := h.fields (L := [(3, 0), (4, 1)]) (by kernel_rfl) (by kernel_rfl)
  rw [show Try.prog.cellsOf 32 = 2 by kernel_rfl] at hl
  match cs, hl with
  | [x, y], _ =>
    have h0 := hf (3, 0) (by simp)
    have h1 := hf (4, 1) (by simp)
    simp only [show Try.prog.cellsOf 3 = 1 by kernel_rfl, show Try.prog.cellsOf 4 = 1 by kernel_rfl] at h0 h1
    obtain ⟨a, ha, _⟩ := h0.int Try.underlying3
    obtain ⟨b, hb⟩ := h1.bool Try.underlying4
    simp at ha hb
    exact ⟨(a, b), by rw [ha, hb]; rfl, trivial⟩
theorem pt_el {w : World} {cs : List Value} (h : Rd Try.prog w 51 cs) : ∃ c : BA × Int, cs = ptC c ∧ c.1.size ≤ maxLen := by
  obtain ⟨hl, hf⟩ := h.fields (L := [(9, 0), (3, 1)]) (by kernel_rfl) (by kernel_rfl)
  rw [show Try.prog.cellsOf 51 = 2 by kernel_rfl] at hl
  match cs, hl with
  | [x, y], _ =>
    have h0 := hf (9, 0) (by simp)
    have h1 := hf (3, 1) (by simp)
    simp only [show Try.prog.cellsOf 3 = 1 by kernel_rfl, show Try.prog.cellsOf 9 = 1 by kernel_rfl] at h0 h1
    obtain ⟨a, ha, hs⟩ := h0.str Try.underlying9
    obtain ⟨b, hb, _⟩ := h1.int Try.underlying3
    simp at ha hb
    exact ⟨(a, b), by rw [ha, hb]; rfl, hs⟩
theorem sg_el {w : World} {cs : List Value} (h : Rd Try.prog w 55 cs) : ∃ c : BA × Int, cs = ptC c ∧ c.1.size ≤ maxLen := by
  obtain ⟨hl, hf⟩ := h.fields (L := [(9, 0), (3, 1)]) (by kernel_rfl) (by kernel_rfl)
  rw [show Try.prog.cellsOf 55 = 2 by kernel_rfl] at hl
  match cs, hl with
  | [x, y], _ =>
    have h0 := hf (9, 0) (by simp)
    have h1 := hf (3, 1) (by simp)
    simp only [show Try.prog.cellsOf 3 = 1 by kernel_rfl, show Try.prog.cellsOf 9 = 1 by kernel_rfl] at h0 h1
    obtain ⟨a, ha, hs⟩ := h0.str Try.underlying9
    obtain ⟨b, hb, _⟩ := h1.int Try.underlying3
    simp at ha hb
    exact ⟨(a, b), by rw [ha, hb]; rfl, hs⟩
theorem ints_of {w : World} {cs : List Value} (h : Rd Try.prog w 22 cs) : ∃ s : Sl Int, cs = [s.v] ∧ SlAt 1 intC w s := by
  obtain ⟨s, h1, h2, _⟩ := sl_of (f := intC) (sz := 1) (A := fun _ => True) Try.underlying22 (by kernel_rfl) (by decide) (fun _ => rfl) (fun _ h => int_el h) h
  exact ⟨s, h1, h2⟩
theorem nds_of {w : World} {cs : List Value} (h : Rd Try.prog w 23 cs) : ∃ s : Sl (Int × Bool), cs = [s.v] ∧ SlAt 2 ndC w s := by
  obtain ⟨s, h1, h2, _⟩ := sl_of (f := ndC) (sz := 2) (A := fun _ => True) Try.underlying23 (by kernel_rfl) (by decide) (fun _ => rfl) (fun _ h => nd_el h) h
  exact ⟨s, h1, h2⟩
theorem rt_el {w : World} {cs : List Value} (h : Rd Try.prog w 25 cs) : ∃ c : Rt, cs = rtC c ∧ RtAt w c := by
  obtain ⟨hl, hf⟩ := h.fields (L := [(9, 0), (3, 1), (22, 2), (23, 3), (22, 4), (23, 5)]) (by kernel_rfl) (by kernel_rfl)
  rw [show Try.prog.cellsOf 25 = 6 by kernel_rfl] at hl
  match cs, hl with
  | [x0, x1, x2, x3, x4, x5], _ =>
    have h0 := hf (9, 0) (by simp)
    have h1 := hf (3, 1) (by simp)
    have h2 := hf (22, 2) (by simp)
    have h3 := hf (23, 3) (by simp)
    have h4 := hf (22, 4) (by simp)
    have h5 := hf (23, 5) (by simp)
    simp only [show Try.prog.cellsOf 3 = 1 by kernel_rfl, show Try.prog.cellsOf 9 = 1 by kernel_rfl, show Try.prog.cellsOf 22 = 1 by kernel_rfl, show Try.prog.cellsOf 23 = 1 by kernel_rfl] at h0 h1 h2 h3 h4 h5
    obtain ⟨a, ha, hs⟩ := h0.str Try.underlying9
    obtain ⟨b, hb, _⟩ := h1.int Try.underlying3
    obtain ⟨p, hp, sp⟩ := ints_of h2
    obtain ⟨q, hq, sq⟩ := nds_of h3
    obtain ⟨r, hr, sr⟩ := ints_of h4
    obtain ⟨s, hs2, ss⟩ := nds_of h5
    simp at ha hb hp hq hr hs2
    exact ⟨⟨a, b, p, q, r, s⟩, by rw [ha, hb, hp, hq, hr, hs2]; rfl, ⟨hs, sp, sq, sr, ss⟩⟩
theorem lay_of {w : World} {cs : List Value} (h : Rd Try.prog w 39 cs) : ∃ L : Lay, cs = [L.se.v, L.po.v, L.sg.v, L.rt.v] ∧ LayAt w L := by
  obtain ⟨hl, hf⟩ := h.fields (L := [(34, 0), (35, 1), (36, 2), (37, 3)]) (by kernel_rfl) (by kernel_rfl)
  rw [show Try.prog.cellsOf 39 = 4 by kernel_rfl] at hl
  match cs, hl with
  | [x0, x1, x2, x3], _ =>
    have h0 := hf (34, 0) (by simp)
    have h1 := hf (35, 1) (by simp)
    have h2 := hf (36, 2) (by simp)
    have h3 := hf (37, 3) (by simp)
    simp only [show Try.prog.cellsOf 34 = 1 by kernel_rfl, show Try.prog.cellsOf 35 = 1 by kernel_rfl, show Try.prog.cellsOf 36 = 1 by kernel_rfl, show Try.prog.cellsOf 37 = 1 by kernel_rfl] at h0 h1 h2 h3
    obtain ⟨a, ha, sa, na⟩ := sl_of (f := strC) (sz := 1) Try.underlying34 (by kernel_rfl) (by decide) (fun _ => rfl) (fun _ h => str_el h) h0
    obtain ⟨b, hb, sb, nb⟩ := sl_of (f := ptC) (sz := 2) Try.underlying35 (by kernel_rfl) (by decide) (fun _ => rfl) (fun _ h => pt_el h) h1
    obtain ⟨c, hc, sc, nc⟩ := sl_of (f := ptC) (sz := 2) Try.underlying36 (by kernel_rfl) (by decide) (fun _ => rfl) (fun _ h => sg_el h) h2
    obtain ⟨d, hd, sd, nd⟩ := sl_of (f := rtC) (sz := 6) Try.underlying37 (by kernel_rfl) (by decide) (fun _ => rfl) (fun _ h => rt_el h) h3
    simp at ha hb hc hd
    exact ⟨⟨a, b, c, d⟩, by rw [ha, hb, hc, hd], ⟨sa, sb, sc, sd, na, nb, nc, nd⟩⟩
end Go.Proofs.Ytdkcpejlojdijaa
