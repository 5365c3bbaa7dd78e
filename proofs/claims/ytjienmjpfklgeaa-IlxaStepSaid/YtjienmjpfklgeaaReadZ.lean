/-
 Readings whose data weigh no more than a call's input may: bounds on names and rows.
-/
import Derived.Test.YtjienmjpfklgeaaMA
import Derived.SizedLaws
namespace Go.Proofs.Ytjienmjpfklgeaa
open Go.RowKit
set_option maxRecDepth 100000

/-- these cells read as data of type t that weigh no more than an input may -/
def RdZ (P : Program) (w : World) (t : TypeId) (cs : List Value) : Prop :=
 ∃ (H : Type) (enc : TypeId × Value → H) (fuel : Nat) (d : DataW H) (ps : List MemPlace), DataW.trod enc P w 0 (fun _ => true) true fuel t cs = some (d, ps) ∧ ∀ n ∈ d.weights P t, n ≤ reachBytes
theorem RdZ.rd {P : Program} {w : World} {t : TypeId} {cs : List Value} (h : RdZ P w t cs) : Rd P w t cs := by
 obtain ⟨H, enc, fuel, d, ps, h, _⟩ := h
 exact ⟨H, enc, fuel, d, ps, h⟩
theorem RdZ.str {P : Program} {w : World} {t : TypeId} {cs : List Value} (hu : P.underlying t = some .string) (h : RdZ P w t cs) : ∃ s, cs = [.string s] ∧ s.size ≤ maxLen ∧ s.size ≤ reachBytes := by
 obtain ⟨H, enc, fuel, d, ps, h, hz⟩ := h
 cases fuel with
 | zero => simp [DataW.trod] at h
 | succ fuel =>
   simp only [DataW.trod, hu] at h
   split at h <;> try (simp_all; done)
   split at h <;> try (simp_all; done)
   rename_i s _hq hs
   injection h with h
   injection h with h1 h2
   refine ⟨s, by simp_all, hs, ?_⟩
   have := hz s.data.toList.length (by rw [← h1]; simp [DataW.weights])
   simpa using this
theorem weights_mem_all {H : Type} {P : Program} {e : TypeId} : ∀ {ds : List (DataW H)} {d : DataW H}, d ∈ ds → ∀ n ∈ d.weights P e, n ∈ DataW.weightsAll P e ds := by
 intro ds
 induction ds with
 | nil => intro d hd; cases hd
 | cons d0 ds ih =>
   intro d hd n hn
   simp only [DataW.weightsAll, List.mem_append]
   rcases List.mem_cons.1 hd with rfl | hd
   ·exact .inl hn
   ·exact .inr (ih hd n hn)
/-- a slice: nil; or a row of elements -/
theorem RdZ.slice {P : Program} {w : World} {t e : TypeId} {cs : List Value} (hu : P.underlying t = some (.slice e)) (h : RdZ P w t cs) :
 cs = [.slice none 0 0] ∨ ∃ a len cap, cs = [.slice (some a) len cap] ∧ len ≤ cap ∧ cap ≤ maxLen ∧ cap * P.bytesOf e ≤ reachBytes ∧
  ∀ i, i < cap → ∃ ecs, w.cells? 0 (a.add (i * P.cellsOf e)) (P.cellsOf e) = some ecs ∧ RdZ P w e ecs := by
 obtain ⟨H, enc, fuel, d, ps, h, hz⟩ := h
 cases fuel with
 | zero => simp [DataW.trod] at h
 | succ fuel =>
   simp only [DataW.trod, hu] at h
   split at h <;> try (simp_all; done)
   ·rename_i e' a len cap heq
    simp only [Option.some.injEq] at heq
    obtain rfl : e = e' := by simpa using heq
    right
    refine ⟨a, len, cap, rfl, ?_⟩
    split at h
    ·rename_i hc
     simp only [if_true] at h
     cases h1 : (List.range len).mapM (fun i => (w.cells? 0 (a.add (i * P.cellsOf e)) (P.cellsOf e)).bind (DataW.trod enc P w 0 (fun _ => true) true fuel e)) with
     | none => simp [h1] at h
     | some elems =>
       cases h2 : (List.range (cap - len)).mapM (fun j => (w.cells? 0 (a.add ((len + j) * P.cellsOf e)) (P.cellsOf e)).bind (DataW.trod enc P w 0 (fun _ => true) true fuel e)) with
       | none => simp [h1, h2] at h
       | some rest =>
         simp only [h1, h2, Option.bind_some, Option.map_some, Option.some.injEq, Prod.mk.injEq] at h
         obtain ⟨hd, _⟩ := h
         have hl1 : elems.length = len := by have := (mapM_get h1).1; simpa using this
         have hl2 : rest.length = cap - len := by have := (mapM_get h2).1; simpa using this
         rw [← hd] at hz
         refine ⟨hc.2.1, hc.2.2, ?_, fun i hi => ?_⟩
         ·have := hz ((elems.length + rest.length) * P.bytesOf e) (by simp [DataW.weights, hu])
          rw [hl1, hl2, show len + (cap - len) = cap by omega] at this
          exact this
         have key : ∃ y, (w.cells? 0 (a.add (i * P.cellsOf e)) (P.cellsOf e)).bind (DataW.trod enc P w 0 (fun _ => true) true fuel e) = some y ∧ ∀ n ∈ y.1.weights P e, n ≤ reachBytes := by
          rcases Nat.lt_or_ge i len with hil | hil
          ·obtain ⟨y, g, hy⟩ := (mapM_get h1).2 i i (by simp [hil])
           refine ⟨y, hy, fun n hn => hz n ?_⟩
           simp only [DataW.weights, hu, List.mem_cons, List.mem_append]
           exact .inr (.inl (weights_mem_all (List.mem_map.2 ⟨y, List.mem_of_getElem? g, rfl⟩) n hn))
          ·obtain ⟨y, g, hy⟩ := (mapM_get h2).2 (i - len) (i - len) (List.getElem?_range (by omega))
           rw [show len + (i - len) = i by omega] at hy
           refine ⟨y, hy, fun n hn => hz n ?_⟩
           simp only [DataW.weights, hu, List.mem_cons, List.mem_append]
           exact .inr (.inr (weights_mem_all (List.mem_map.2 ⟨y, List.mem_of_getElem? g, rfl⟩) n hn))
         obtain ⟨y, hy, hyz⟩ := key
         cases hcs : w.cells? 0 (a.add (i * P.cellsOf e)) (P.cellsOf e) with
         | none => simp [hcs] at hy
         | some ecs => exact ⟨ecs, rfl, H, enc, fuel, y.1, y.2, by simpa [hcs] using hy, hyz⟩
    ·cases h
theorem RdZ.struct {P : Program} {w : World} {t : TypeId} {fs : Array Field} {cs : List Value} (hu : P.underlying t = some (.struct fs)) (h : RdZ P w t cs) :
 cs.length = P.cellsOf t ∧ ∀ f, f ∈ fs.toList → RdZ P w f.type ((cs.drop f.offset).take (P.cellsOf f.type)) := by
 obtain ⟨H, enc, fuel, d, ps, h, hz⟩ := h
 cases fuel with
 | zero => simp [DataW.trod] at h
 | succ fuel =>
   simp only [DataW.trod, hu] at h
   split at h
   ·rename_i hl
    refine ⟨hl, fun f hf => ?_⟩
    cases hm : fs.toList.mapM (fun f => DataW.trod enc P w 0 (fun _ => true) true fuel f.type ((cs.drop f.offset).take (P.cellsOf f.type))) with
    | none => simp [hm] at h
    | some xs =>
      simp only [hm, Option.map_some, Option.some.injEq, Prod.mk.injEq] at h
      obtain ⟨hd, _⟩ := h
      obtain ⟨i, hi⟩ := List.getElem?_of_mem hf
      obtain ⟨y, g, hy⟩ := (mapM_get hm).2 i f hi
      refine ⟨H, enc, fuel, y.1, y.2, hy, fun n hn => hz n ?_⟩
      rw [← hd]
      simp only [DataW.weights, hu]
      exact DataW.weights_mem_each (j := i) (by rw [List.getElem?_map, hi]; rfl) (by rw [List.getElem?_map, g]; rfl) n hn
   ·cases h
theorem RdZ.fields {P : Program} {w : World} {t : TypeId} {cs : List Value} {L : List (TypeId × Nat)} (hu : P.underlying t = some (.struct (P.fieldsOf t))) (hL : (P.fieldsOf t).toList.map (fun f => (f.type, f.offset)) = L) (h : RdZ P w t cs) :
 cs.length = P.cellsOf t ∧ ∀ x ∈ L, RdZ P w x.1 ((cs.drop x.2).take (P.cellsOf x.1)) := by
 obtain ⟨h1, h2⟩ := h.struct hu
 refine ⟨h1, fun x hx => ?_⟩
 rw [← hL] at hx
 obtain ⟨f, hf, rfl⟩ := List.mem_map.1 hx
 exact h2 f hf
/-- a reading of a slice gives a row, if a reading of an element gives an element -/
theorem slz_of {α : Type} {P : Program} {t e : TypeId} {sz : Nat} {f : α → List Value} {A : α → Prop} {w : World} {cs : List Value} (hu : P.underlying t = some (.slice e)) (hby : 0 < P.bytesOf e) (hsz : P.cellsOf e = sz) (hpos : 0 < sz) (hlen : ∀ c, (f c).length = sz)
 (hel : ∀ cs, RdZ P w e cs → ∃ c : α, cs = f c ∧ A c) (h : RdZ P w t cs) : ∃ s : Sl α, cs = [s.v] ∧ SlAt sz f w s ∧ (∀ c ∈ s.l, A c) ∧ s.l.length ≤ reachBytes ∧ s.l.length * P.bytesOf e ≤ reachBytes := by
 rcases h.slice hu with rfl | ⟨x, len, cap, rfl, hlc, hcm, hcz, hcell⟩
 ·exact ⟨⟨none, 0, []⟩, rfl, ⟨.inl rfl, Nat.le_refl _, Nat.zero_le _, fun _ => rfl⟩, by simp, Nat.zero_le _, by simp⟩
 ·have H : ∀ i, i < len → ∃ c : α, A c ∧ ∀ j v, (f c)[j]? = some v → w.cell? ((x.add (i * sz)).add j) = some v := by
   intro i hi
   obtain ⟨ecs, he, hr⟩ := hcell i (by omega)
   rw [hsz] at he
   obtain ⟨c, rfl, hA⟩ := hel ecs hr
   obtain ⟨_, hg⟩ := cells_get he
   refine ⟨c, hA, fun j v hv => ?_⟩
   have hj : j < sz := by rw [← hlen c]; exact (List.getElem?_eq_some_iff.1 hv).1
   obtain ⟨v', g0, c0⟩ := hg j hj
   rw [hv] at g0
   cases g0
   exact c0
  obtain ⟨l, hl, hq⟩ := list_of len H
  have hcap : cap ≤ reachBytes := Nat.le_trans (Nat.le_mul_of_pos_right _ hby) hcz
  refine ⟨⟨some x, cap, l⟩, by unfold Sl.v; rw [hl], ⟨?_, by dsimp only; omega, hcm, fun h => by cases h⟩, fun c hc => ?_, by dsimp only; omega, by dsimp only; rw [hl]; exact Nat.le_trans (Nat.mul_le_mul_right _ hlc) hcz⟩
  ·rcases l with _ | ⟨c0, l⟩
   ·exact .inl rfl
   ·right
    have h0 := (hq 0 c0 rfl).2
    have hs : x.spot = none := by
     have hz : 0 < (f c0).length := by rw [hlen]; exact hpos
     have := h0 0 _ (List.getElem?_eq_getElem hz)
     rw [Nat.zero_mul] at this
     exact World.cell?_spot (show w.cell? x = some _ by simpa [Addr.add] using this)
    obtain ⟨b, off, spot⟩ := x
    subst hs
    refine ⟨b, off, rfl, fun i c hi j v hv => ?_⟩
    have := (hq i c hi).2 j v hv
    simpa only [Addr.add_lit, Nat.add_zero] using this
  ·obtain ⟨i, hi⟩ := List.getElem?_of_mem hc
   exact (hq i c hi).1
theorem strz_el {w : World} {cs : List Value} (h : RdZ Try.prog w 9 cs) : ∃ c : BA, cs = strC c ∧ c.size ≤ maxLen ∧ c.size ≤ reachBytes := by
 obtain ⟨s, rfl, h2, h3⟩ := h.str Try.underlying9
 exact ⟨s, rfl, h2, h3⟩
theorem ptz_el {w : World} {cs : List Value} (h : RdZ Try.prog w 71 cs) : ∃ c : BA × Int, cs = ptC c ∧ c.1.size ≤ maxLen ∧ c.1.size ≤ reachBytes := by
 obtain ⟨hl, hf⟩ := h.fields (L := [(9, 0), (3, 1)]) (by kernel_rfl) (by kernel_rfl)
 rw [show Try.prog.cellsOf 71 = 2 by kernel_rfl] at hl
 match cs, hl with
 | [x, y], _ =>
   have h0 := hf (9, 0) (by simp)
   have h1 := hf (3, 1) (by simp)
   simp only [show Try.prog.cellsOf 3 = 1 by kernel_rfl, show Try.prog.cellsOf 9 = 1 by kernel_rfl] at h0 h1
   obtain ⟨a, ha, hs, hz⟩ := h0.str Try.underlying9
   obtain ⟨b, hb, _⟩ := h1.rd.int Try.underlying3
   simp at ha hb
   exact ⟨(a, b), by rw [ha, hb]; rfl, hs, hz⟩
theorem sgz_el {w : World} {cs : List Value} (h : RdZ Try.prog w 72 cs) : ∃ c : BA × Int, cs = ptC c ∧ c.1.size ≤ maxLen ∧ c.1.size ≤ reachBytes := by
 obtain ⟨hl, hf⟩ := h.fields (L := [(9, 0), (3, 1)]) (by kernel_rfl) (by kernel_rfl)
 rw [show Try.prog.cellsOf 72 = 2 by kernel_rfl] at hl
 match cs, hl with
 | [x, y], _ =>
   have h0 := hf (9, 0) (by simp)
   have h1 := hf (3, 1) (by simp)
   simp only [show Try.prog.cellsOf 3 = 1 by kernel_rfl, show Try.prog.cellsOf 9 = 1 by kernel_rfl] at h0 h1
   obtain ⟨a, ha, hs, hz⟩ := h0.str Try.underlying9
   obtain ⟨b, hb, _⟩ := h1.rd.int Try.underlying3
   simp at ha hb
   exact ⟨(a, b), by rw [ha, hb]; rfl, hs, hz⟩
theorem intsz_of {w : World} {cs : List Value} (h : RdZ Try.prog w 41 cs) : ∃ s : Sl Int, cs = [s.v] ∧ SlAt 1 intC w s ∧ s.l.length ≤ reachBytes ∧ s.l.length * 8 ≤ reachBytes := by
 obtain ⟨s, h1, h2, _, h3, h4⟩ := slz_of (f := intC) (sz := 1) (A := fun _ => True) Try.underlying41 (by decide +kernel) (by kernel_rfl) (by decide) (fun _ => rfl) (fun _ h => int_el h.rd) h
 rw [show Try.prog.bytesOf 3 = 8 by decide +kernel] at h4
 exact ⟨s, h1, h2, h3, h4⟩
theorem ndsz_of {w : World} {cs : List Value} (h : RdZ Try.prog w 42 cs) : ∃ s : Sl (Int × Bool), cs = [s.v] ∧ SlAt 2 ndC w s ∧ s.l.length ≤ reachBytes ∧ s.l.length * 16 ≤ reachBytes := by
 obtain ⟨s, h1, h2, _, h3, h4⟩ := slz_of (f := ndC) (sz := 2) (A := fun _ => True) Try.underlying42 (by decide +kernel) (by kernel_rfl) (by decide) (fun _ => rfl) (fun _ h => nd_el h.rd) h
 rw [show Try.prog.bytesOf 46 = 16 by decide +kernel] at h4
 exact ⟨s, h1, h2, h3, h4⟩
/-- a route whose parts are no longer than an input may be -/
structure RtZ (r : Rt) : Prop where
 nm : r.nm.size ≤ reachBytes
 pa : r.pa.l.length ≤ reachBytes
 po : r.po.l.length ≤ reachBytes
 ov : r.ov.l.length ≤ reachBytes
 fl : r.fl.l.length ≤ reachBytes
 pa8 : r.pa.l.length * 8 ≤ reachBytes
 po16 : r.po.l.length * 16 ≤ reachBytes
 ov8 : r.ov.l.length * 8 ≤ reachBytes
 fl16 : r.fl.l.length * 16 ≤ reachBytes
theorem rtz_el {w : World} {cs : List Value} (h : RdZ Try.prog w 44 cs) : ∃ c : Rt, cs = rtC c ∧ RtAt w c ∧ RtZ c := by
 obtain ⟨hl, hf⟩ := h.fields (L := [(9, 0), (3, 1), (41, 2), (42, 3), (41, 4), (42, 5)]) (by kernel_rfl) (by kernel_rfl)
 rw [show Try.prog.cellsOf 44 = 6 by kernel_rfl] at hl
 match cs, hl with
 | [x0, x1, x2, x3, x4, x5], _ =>
   have h0 := hf (9, 0) (by simp)
   have h1 := hf (3, 1) (by simp)
   have h2 := hf (41, 2) (by simp)
   have h3 := hf (42, 3) (by simp)
   have h4 := hf (41, 4) (by simp)
   have h5 := hf (42, 5) (by simp)
   simp only [show Try.prog.cellsOf 3 = 1 by kernel_rfl, show Try.prog.cellsOf 9 = 1 by kernel_rfl, show Try.prog.cellsOf 41 = 1 by kernel_rfl, show Try.prog.cellsOf 42 = 1 by kernel_rfl] at h0 h1 h2 h3 h4 h5
   obtain ⟨a, ha, hs, hz⟩ := h0.str Try.underlying9
   obtain ⟨b, hb, _⟩ := h1.rd.int Try.underlying3
   obtain ⟨p, hp, sp, zp, yp⟩ := intsz_of h2
   obtain ⟨q, hq, sq, zq, yq⟩ := ndsz_of h3
   obtain ⟨r, hr, sr, zr, yr⟩ := intsz_of h4
   obtain ⟨s, hs2, ss, zs, ys⟩ := ndsz_of h5
   simp at ha hb hp hq hr hs2
   exact ⟨⟨a, b, p, q, r, s⟩, by rw [ha, hb, hp, hq, hr, hs2]; rfl, ⟨hs, sp, sq, sr, ss⟩, ⟨hz, zp, zq, zr, zs, yp, yq, yr, ys⟩⟩
/-- a layout whose names and rows are no longer than an input may be -/
structure LayZ (L : Lay) : Prop where
 se : ∀ s ∈ L.se.l, s.size ≤ reachBytes
 po : ∀ p ∈ L.po.l, p.1.size ≤ reachBytes
 sg : ∀ p ∈ L.sg.l, p.1.size ≤ reachBytes
 rt : ∀ r ∈ L.rt.l, RtZ r
 se16 : L.se.l.length * 16 ≤ reachBytes
 po24 : L.po.l.length * 24 ≤ reachBytes
 sg24 : L.sg.l.length * 24 ≤ reachBytes
 rt120 : L.rt.l.length * 120 ≤ reachBytes
theorem layz_of {w : World} {cs : List Value} (h : RdZ Try.prog w 27 cs) : ∃ L : Lay, cs = [L.se.v, L.po.v, L.sg.v, L.rt.v] ∧ LayAt w L ∧ LayZ L := by
 obtain ⟨hl, hf⟩ := h.fields (L := [(22, 0), (23, 1), (24, 2), (25, 3)]) (by kernel_rfl) (by kernel_rfl)
 rw [show Try.prog.cellsOf 27 = 4 by kernel_rfl] at hl
 match cs, hl with
 | [x0, x1, x2, x3], _ =>
   have h0 := hf (22, 0) (by simp)
   have h1 := hf (23, 1) (by simp)
   have h2 := hf (24, 2) (by simp)
   have h3 := hf (25, 3) (by simp)
   simp only [show Try.prog.cellsOf 22 = 1 by kernel_rfl, show Try.prog.cellsOf 23 = 1 by kernel_rfl, show Try.prog.cellsOf 24 = 1 by kernel_rfl, show Try.prog.cellsOf 25 = 1 by kernel_rfl] at h0 h1 h2 h3
   obtain ⟨a, ha, sa, na, _, ya⟩ := slz_of (f := strC) (sz := 1) Try.underlying22 (by decide +kernel) (by kernel_rfl) (by decide) (fun _ => rfl) (fun _ h => strz_el h) h0
   obtain ⟨b, hb, sb, nb, _, yb⟩ := slz_of (f := ptC) (sz := 2) Try.underlying23 (by decide +kernel) (by kernel_rfl) (by decide) (fun _ => rfl) (fun _ h => ptz_el h) h1
   obtain ⟨c, hc, sc, nc, _, yc⟩ := slz_of (f := ptC) (sz := 2) Try.underlying24 (by decide +kernel) (by kernel_rfl) (by decide) (fun _ => rfl) (fun _ h => sgz_el h) h2
   obtain ⟨d, hd, sd, nd, _, yd⟩ := slz_of (f := rtC) (sz := 6) Try.underlying25 (by decide +kernel) (by kernel_rfl) (by decide) (fun _ => rfl) (fun _ h => rtz_el h) h3
   simp at ha hb hc hd
   rw [show Try.prog.bytesOf 9 = 16 by decide +kernel] at ya
   rw [show Try.prog.bytesOf 71 = 24 by decide +kernel] at yb
   rw [show Try.prog.bytesOf 72 = 24 by decide +kernel] at yc
   rw [show Try.prog.bytesOf 44 = 120 by decide +kernel] at yd
   exact ⟨⟨a, b, c, d⟩, by rw [ha, hb, hc, hd], ⟨sa, sb, sc, sd, fun s hs => (na s hs).1, fun s hs => (nb s hs).1, fun s hs => (nc s hs).1, fun s hs => (nd s hs).1⟩, ⟨fun s hs => (na s hs).2, fun s hs => (nb s hs).2, fun s hs => (nc s hs).2, fun s hs => (nd s hs).2, ya, yb, yc, yd⟩⟩
end Go.Proofs.Ytjienmjpfklgeaa
