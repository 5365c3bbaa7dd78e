/-
  The yard's memory when one thing in it is another one (ConflictKnown, MasksKnown).
-/
import Derived.Test.YtififkielmddpaaTpK
import Derived.Test.YtififkielmddpaaReadZ
namespace Go.Proofs.Ytififkielmddpaa
open Go.RowKit
set_option maxRecDepth 100000
theorem size_set (w : World) (g i : Nat) (v : Value) : (w.setCell ⟨g, i, none⟩ v).heap.size = w.heap.size := by
  show (w.heap.modify g _).size = _
  exact Array.size_modify
theorem only_set {g : Nat} {a w : World} (h : Only g a w) (i : Nat) (v : Value) : Only g a (w.setCell ⟨g, i, none⟩ v) := h.setCell rfl v
theorem eqf {k c : Int} (h : k ≠ c) : (k == c) = false := by simpa using h
theorem eqt {k c : Int} (h : k = c) : (k == c) = true := by simpa using h
theorem zle {n : Nat} (h : n ≤ 10) : n ≤ reachBytes := Nat.le_trans h (by decide)
theorem blk_some {w : World} {g i : Nat} {cs : Array Value} {t : TypeId} {fr : Nat × Nat} (h : w.heap[g]? = some (.cells cs t fr)) (hi : i < cs.size) : ∃ v, w.cell? ⟨g, i, none⟩ = some v := ⟨cs[i], blk_cell h i _ (Array.getElem?_eq_getElem hi)⟩
/-- the blocks that are written behind Yard's call -/
def XJ (b g2 g3 : Nat) : Nat → Prop := fun x => x = b + 16 ∨ x = g2 ∨ x = g3
/-- what lies in memory when one thing is another one -/
structure KnJ (w V : World) (g2 g3 b : Nat) (Rs : List Rt) (r : Rt) : Prop where
  ya : ∀ i o, i < 16 → (yardO b)[i]? = some o → V.heap[b + i]? = some o
  row : ∃ cs, V.heap[b + 16]? = some (.cells cs 61) ∧ cs.toList = Rs.flatMap rtC
  len : Rs.length = 5
  rs : ∀ x ∈ Rs, RtX (XJ b g2 g3) V x
  rz : ∀ x ∈ Rs, RtZ x
  lay : V.heap[g2]? = some (.cells #[.slice (some ⟨b + 1, 0, none⟩) 6 6, .slice (some ⟨b + 2, 0, none⟩) 2 2, .slice (some ⟨b + 3, 0, none⟩) 3 3, .slice (some ⟨b + 16, 0, none⟩) 5 5] 27)
  rt : V.heap[g3]? = some (.cells (rtC r).toArray 61)
  rx : RtX (XJ b g2 g3) V r
  rzr : RtZ r
  o1 : b + 17 ≤ g2
  o2 : g2 < g3
  ob : w.heap.size ≤ b
  below : Below w.heap.size w V
theorem KnJ.step {w V V1 V2 : World} {g2 g3 b : Nat} {Rs Rs2 : List Rt} {r r2 : Rt} (h : KnJ w V g2 g3 b Rs r) (hw : WX (fun x => x = g3 ∨ x = b + 16) V V1) (hb : Below V1.heap.size V1 V2) (hq : V2.heap[g3]? = some (.cells (rtC r2).toArray 61))
    (hrow : ∃ cs, V2.heap[b + 16]? = some (.cells cs 61) ∧ cs.toList = Rs2.flatMap rtC) (hlen : Rs2.length = 5) (hx : RtX (XJ b g2 g3) V2 r2) (hz : RtZ r2) (hrs : ∀ x ∈ Rs2, RtX (XJ b g2 g3) V2 x) (hrz : ∀ x ∈ Rs2, RtZ x) : KnJ w V2 g2 g3 b Rs2 r2 := by
  have o1 := h.o1
  have o2 := h.o2
  have hs := h.below.size
  have ob := h.ob
  refine ⟨fun i o hi hio => blk_keep hb (hw.keep (fun e => ?_) (h.ya i o hi hio)), hrow, hlen, hrs, hrz, blk_keep hb (hw.keep (fun e => ?_) h.lay), hq, hx, hz, o1, o2, ob, below_on (WX.below h.below hw (fun x hx => ?_)) hb⟩
  · rcases e with e | e <;> omega
  · rcases e with e | e <;> omega
  · rcases hx with hx | hx <;> omega
/-- a new row is in no block that is written -/
theorem kj_new {α : Type} {sz : Nat} {f : α → List Value} {w V V1 : World} {g2 g3 b n : Nat} {Rs : List Rt} {r : Rt} (h : KnJ w V g2 g3 b Rs r) (hsz : V1.heap.size = V.heap.size) {cs : Array Value} {t : TypeId} {l : List α} (hf : ∀ c, (f c).length = sz) (hcs : cs.toList = l.flatMap f) (hn : l.length = n) (hm : n ≤ maxLen) : SlX sz f (XJ b g2 g3) (V1.alloc (.cells cs t)) ⟨some ⟨V.heap.size, 0, none⟩, n, l⟩ := by
  have ha := alloc1 V1 (.cells cs t) (Below.refl _ _)
  rw [hsz] at ha
  exact yrow hf ha hcs hn hm (fun e => by
    have o1 := h.o1; have o2 := h.o2; have o3 := blk_lt h.rt
    rcases e with e | e | e <;> omega)
theorem kj_yz (b : Nat) : ∀ x ∈ yRs b, RtZ x := by
  intro x hx
  simp [yRs] at hx
  rcases hx with rfl | rfl | rfl | rfl | rfl <;> exact ⟨zle (Nat.le_of_ble_eq_true rfl), zle (Nat.le_of_ble_eq_true rfl), zle (Nat.le_of_ble_eq_true rfl), zle (Nat.le_of_ble_eq_true rfl), zle (Nat.le_of_ble_eq_true rfl)⟩
theorem kj_start {w V : World} {g2 g3 b : Nat} (hy : YardAt V b) (q2 : V.heap[g2]? = some (.cells #[.slice (some ⟨b + 1, 0, none⟩) 6 6, .slice (some ⟨b + 2, 0, none⟩) 2 2, .slice (some ⟨b + 3, 0, none⟩) 3 3, .slice (some ⟨b + 16, 0, none⟩) 5 5] 27)) (q3 : V.heap[g3]? = some (.cells (rtC (yR1 b)).toArray 61)) (o1 : b + 17 ≤ g2) (o2 : g2 < g3) (ob : w.heap.size ≤ b) (hb : Below w.heap.size w V) : KnJ w V g2 g3 b (yRs b) (yR1 b) := by
  have hx : ∀ i, i < 16 → ¬ XJ b g2 g3 (b + i) := fun i hi e => by rcases e with e | e | e <;> omega
  have hrs : ∀ x ∈ yRs b, RtX (XJ b g2 g3) V x := by
    intro x hm
    simp [yRs] at hm
    rcases hm with rfl | rfl | rfl | rfl | rfl
    · exact yR1_at hy hx
    · exact yR2_at hy hx
    · exact yR3_at hy hx
    · exact yR4_at hy hx
    · exact yR5_at hy hx
  exact ⟨fun i o _ hi => hy i o hi, ⟨_, hy 16 _ rfl, rfl⟩, rfl, hrs, kj_yz b, q2, q3, hrs _ (by simp [yRs]), kj_yz b _ (by simp [yRs]), o1, o2, ob, hb⟩
/-- the layout with some routes -/
def knM (b : Nat) (Rs : List Rt) : Lay := ⟨⟨(some ⟨b + 1, 0, none⟩), 6, yS⟩, ⟨(some ⟨b + 2, 0, none⟩), 2, yP⟩, ⟨(some ⟨b + 3, 0, none⟩), 3, yG⟩, ⟨(some ⟨b + 16, 0, none⟩), 5, Rs⟩⟩
theorem kj_v (b : Nat) (Rs : List Rt) (h : Rs.length = 5) : (Value.agg #[(knM b Rs).se.v, (knM b Rs).po.v, (knM b Rs).sg.v, (knM b Rs).rt.v]) = .agg #[.slice (some ⟨b + 1, 0, none⟩) 6 6, .slice (some ⟨b + 2, 0, none⟩) 2 2, .slice (some ⟨b + 3, 0, none⟩) 3 3, .slice (some ⟨b + 16, 0, none⟩) 5 5] := by
  show Value.agg #[_, _, _, Sl.v ⟨_, 5, Rs⟩] = _
  rw [slv2 h]
  rfl
theorem kj_cells {cs : Array Value} {Rs : List Rt} (h : Rs.length = 5) (hc : cs.toList = Rs.flatMap rtC) : cs.size = 30 := by
  have := congrArg List.length hc
  rw [flat_len rt_len, h] at this
  simpa using this
theorem kj_row {cs : Array Value} {Rs : List Rt} (nm : BA) (sg : Int) (a1 a2 a3 a4 : Option Addr) (c1 c2 c3 c4 m1 m2 m3 m4 : Nat) (l1 l3 : List Int) (l2 l4 : List (Int × Bool)) (u1 : l1.length = m1) (u2 : l2.length = m2) (u3 : l3.length = m3) (u4 : l4.length = m4) (h : Rs.length = 5) (hc : cs.toList = Rs.flatMap rtC) :
    ((((((cs.setIfInBounds 0 (.string nm)).setIfInBounds 1 (.int .i64 sg)).setIfInBounds 2 (.slice a1 m1 c1)).setIfInBounds 3 (.slice a2 m2 c2)).setIfInBounds 4 (.slice a3 m3 c3)).setIfInBounds 5 (.slice a4 m4 c4)).toList = ((⟨nm, sg, ⟨a1, c1, l1⟩, ⟨a2, c2, l2⟩, ⟨a3, c3, l3⟩, ⟨a4, c4, l4⟩⟩ : Rt) :: Rs.tail).flatMap rtC := by
  subst u1
  subst u2
  subst u3
  subst u4
  obtain ⟨x, t, rfl⟩ : ∃ x t, Rs = x :: t := by
    cases Rs with
    | nil => cases h
    | cons x t => exact ⟨x, t, rfl⟩
  simp only [Array.toList_setIfInBounds, hc]
  rfl
theorem KnJ.fin {w V V2 : World} {g2 g3 b : Nat} {Rs : List Rt} {r : Rt} (h : KnJ w V g2 g3 b Rs r) (ho : Only (b + 16) V V2) (hq : ∃ cs, V2.heap[b + 16]? = some (.cells cs 61) ∧ cs.toList = (r :: Rs.tail).flatMap rtC) :
    LayAt V2 (knM b (r :: Rs.tail)) ∧ LayZ (knM b (r :: Rs.tail)) ∧ V2.heap[g2]? = some (.cells #[.slice (some ⟨b + 1, 0, none⟩) 6 6, .slice (some ⟨b + 2, 0, none⟩) 2 2, .slice (some ⟨b + 3, 0, none⟩) 3 3, .slice (some ⟨b + 16, 0, none⟩) 5 5] 27) ∧ Below w.heap.size w V2 := by
  have o1 := h.o1
  have o2 := h.o2
  have hs := h.below.size
  have ob := h.ob
  have ya : ∀ i o, i < 16 → (yardO b)[i]? = some o → V2.heap[b + i]? = some o := fun i o h2 h3 => ho.keep (by omega) (h.ya i o h2 h3)
  have hl5 : (r :: Rs.tail).length = 5 := by rw [List.length_cons, List.length_tail, h.len]
  refine ⟨?_, ⟨fun s hs => zle ?_, fun p hp => zle ?_, fun p hp => zle ?_, fun x hx => ?_⟩, ho.keep (by omega) h.lay, Only.below h.below (by omega) hs ho⟩
  · obtain ⟨c3, q1, q2⟩ := hq
    refine ⟨sl_blk str_len (ya 1 _ (by decide) rfl) rfl rfl (by decide), sl_blk pt_len (ya 2 _ (by decide) rfl) rfl rfl (by decide), sl_blk pt_len (ya 3 _ (by decide) rfl) rfl rfl (by decide), sl_blk rt_len q1 q2 hl5 (by decide), yS_ok, yP_ok, yG_ok, fun x hx => ?_⟩
    rcases List.mem_cons.1 hx with rfl | hx
    · exact (h.rx.step (WX.of_only ho (.inl rfl))).at_
    · exact ((h.rs x (List.mem_of_mem_tail hx)).step (WX.of_only ho (.inl rfl))).at_
  · have hs : s ∈ yS := hs
    simp [yS] at hs
    rcases hs with rfl | rfl | rfl | rfl | rfl | rfl <;> decide
  · have hp : p ∈ yP := hp
    simp [yP] at hp
    rcases hp with rfl | rfl <;> decide
  · have hp : p ∈ yG := hp
    simp [yG] at hp
    rcases hp with rfl | rfl | rfl <;> decide
  · rcases List.mem_cons.1 hx with rfl | hx
    · exact h.rzr
    · exact h.rz x (List.mem_of_mem_tail hx)
end Go.Proofs.Ytififkielmddpaa
