/-
  What lies in memory in the statement AgreeSame of chapter 20.
-/
import Derived.Test.YtbbacmlcimgjbaaAgSameP
namespace Go.Proofs.Ytbbacmlcimgjbaa
open Go.RowKit
attribute [local irreducible] In.ok InAt MyIn LongAt In.same both cmdCells SideAt OptAt RdAt RSideAt CellsAt In.merge

def rdgCells : List Rdg → List Value
  | [] => []
  | r :: l => .int .i64 r.ch :: .int .i64 r.cy :: .int .u64 (r.I.o : Int) :: .int .u32 (r.I.n : Int) :: .int .u32 (r.I.r : Int) :: .slice r.a r.I.c.length r.cap :: rdgCells l
theorem rdgCells_length (l : List Rdg) : (rdgCells l).length = l.length * 6 := by
  induction l with
  | nil => rfl
  | cons r l ih => simp [rdgCells, ih]; omega
theorem rdgCells_append (l m : List Rdg) : rdgCells (l ++ m) = rdgCells l ++ rdgCells m := by
  induction l with
  | nil => rfl
  | cons r l ih => simp [rdgCells, ih]
theorem rdgCells_get (l : List Rdg) : ∀ (i : Nat) (r : Rdg), l[i]? = some r → (rdgCells l)[i * 6]? = some (.int .i64 r.ch) ∧ (rdgCells l)[i * 6 + 1]? = some (.int .i64 r.cy) ∧ (rdgCells l)[i * 6 + 2]? = some (.int .u64 (r.I.o : Int)) ∧
    (rdgCells l)[i * 6 + 3]? = some (.int .u32 (r.I.n : Int)) ∧ (rdgCells l)[i * 6 + 4]? = some (.int .u32 (r.I.r : Int)) ∧ (rdgCells l)[i * 6 + 5]? = some (.slice r.a r.I.c.length r.cap) := by
  induction l with
  | nil => intro i r h; simp at h
  | cons d l ih =>
    intro i r h
    cases i with
    | zero => simp at h; subst h; exact ⟨rfl, rfl, rfl, rfl, rfl, rfl⟩
    | succ i =>
      have := ih i r (by simpa using h)
      rw [show (i + 1) * 6 = i * 6 + 1 + 1 + 1 + 1 + 1 + 1 by omega]
      obtain ⟨h0, h1, h2, h3, h4, h5⟩ := this
      exact ⟨by simpa [rdgCells] using h0, by simpa [rdgCells] using h1, by simpa [rdgCells] using h2, by simpa [rdgCells] using h3, by simpa [rdgCells] using h4, by simpa [rdgCells] using h5⟩
theorem own_rdgs {w : World} {base : Nat} {e : TypeId} {v : Value} {L : List Rdg} (h : w.ownsRow base e 6 v L.length (rdgCells L)) (hi : ∀ r ∈ L, InAt w r.a r.cap r.I) :
    ∃ a cap, v = .slice a L.length cap ∧ RdgsAt w a L ∧ (∀ k, Blk a k → base ≤ k ∧ k < w.heap.size ∧ ∃ cur, w.heap[k]? = some (.cells cur e (0, 0))) := by
  rcases h.2 with ⟨rfl, h0⟩ | ⟨g, cap, cur, rfl, hg, hheap, hncap, hcm, hsz, htake⟩
  · rw [h0]
    exact ⟨none, 0, rfl, ⟨hi, .inl (List.eq_nil_of_length_eq_zero h0)⟩, fun k hk => absurd hk (blk_none k)⟩
  · refine ⟨some ⟨g, 0, none⟩, cap, rfl, ⟨hi, .inr ⟨g, rfl, fun i r hr => ?_⟩⟩, ?_⟩
    · have hil : i < L.length := (List.getElem?_eq_some_iff.1 hr).1
      obtain ⟨g0, g1, g2, g3, g4, g5⟩ := rdgCells_get L i r hr
      have hcur : ∀ j, j < L.length * 6 → cur[j]? = (rdgCells L)[j]? := fun j hj => by rw [← htake, List.getElem?_take, if_pos hj, Array.getElem?_toList]
      refine ⟨blk_cell hheap _ _ ?_, blk_cell hheap _ _ ?_, blk_cell hheap _ _ ?_, blk_cell hheap _ _ ?_, blk_cell hheap _ _ ?_, blk_cell hheap _ _ ?_⟩
      · rw [hcur _ (by omega)]; exact g0
      · rw [hcur _ (by omega)]; exact g1
      · rw [hcur _ (by omega)]; exact g2
      · rw [hcur _ (by omega)]; exact g3
      · rw [hcur _ (by omega)]; exact g4
      · rw [hcur _ (by omega)]; exact g5
    · rintro k ⟨x, e1, e2⟩
      cases e1; subst e2
      exact ⟨hg, blk_lt hheap, cur, hheap⟩

theorem ne_type {w : World} {p q : Nat} {C C' : Array Value} {t t' : TypeId} {fr fr' : Nat × Nat} (h1 : w.heap[p]? = some (.cells C t fr)) (h2 : w.heap[q]? = some (.cells C' t' fr')) (ht : t ≠ t') : ¬ p = q := by
  rintro rfl; rw [h1] at h2; cases h2; exact ht rfl
/-- no block of commands is written -/
def KeepT (w w' : World) : Prop := ∀ (k : Nat) (C : Array Value), w.heap[k]? = some (.cells C 70 (0, 0)) → w'.heap[k]? = some (.cells C 70 (0, 0))
theorem KeepT.below {w w' : World} (hb : Below w.heap.size w w') : KeepT w w' := fun _ _ h => blk_keep hb h
theorem KeepT.only {w w' : World} {g : Nat} {C : Array Value} {t : TypeId} {fr : Nat × Nat} (hg : w.heap[g]? = some (.cells C t fr)) (ht : 70 ≠ t) (ho : Only g w w') : KeepT w w' := fun _ _ h => ho.keep (ne_type h hg ht) h
/-- an input whose row lies in a block of commands -/
def Has (w : World) (a : Option Addr) (cap : Nat) (I : In) : Prop := MyIn w 0 a ∧ InAt w a cap I
theorem Has.keep {w w' : World} {a : Option Addr} {cap : Nat} {I : In} (h : Has w a cap I) (hk : KeepT w w') : Has w' a cap I := by
  have key : ∀ k, Blk a k → w'.heap[k]? = w.heap[k]? := by
    rintro k ⟨x, e1, e2⟩
    rcases h.1.form with h | ⟨b, cur, e, _, hc⟩
    · rw [h] at e1; cases e1
    · rw [e] at e1; cases e1; subst e2
      rw [hk _ _ hc, hc]
  exact ⟨h.1.keep key, h.2.keepMy h.1 key⟩
theorem Has.of {w : World} {B : Nat} {a : Option Addr} {cap : Nat} {I : In} (h : MyIn w B a ∧ InAt w a cap I) : Has w a cap I := ⟨h.1.mono (Nat.zero_le _), h.2⟩

/-- the block of what was merged -/
def MerAt (w : World) (b : Nat) (D : Nat → Option In) : Prop := ∃ C, w.heap[b]? = some (.cells C 33 (0, 0)) ∧ C.size = 240 ∧ ∀ j, j < 60 → ∀ M, D j = some M → ∃ a cap, C[j * 4]? = some (.int .u64 (M.o : Int)) ∧ C[j * 4 + 1]? = some (.int .u32 (M.n : Int)) ∧ C[j * 4 + 2]? = some (.int .u32 (M.r : Int)) ∧ C[j * 4 + 3]? = some (.slice a M.c.length cap) ∧ Has w a cap M
def DoneAt (w : World) (b : Nat) (D : Nat → Option In) : Prop := ∃ C, w.heap[b]? = some (.cells C 4 (0, 0)) ∧ C.size = 60 ∧ ∀ j, j < 60 → C[j]? = some (.bool (D j).isSome)
/-- all that lies in memory -/
structure SM (B : Nat) (w : World) (g : Nat → Nat) (X : Nat → Nat → Prop) (s : Nat → Side) (L : List Rdg) (D : Nat → Option In) (b3 b5 b6 : Nat) (v : Value) : Prop where
  side : ∀ k, k < 2 → SideAt w (X k) (g k) (s k)
  row : w.heap[b3]? = some (.cells #[.pointer (some ⟨g 0, 0, none⟩), .pointer (some ⟨g 1, 0, none⟩)] 25 (0, 0))
  sent : w.ownsRow B 35 6 v L.length (rdgCells L)
  ins : ∀ r, r ∈ L → Has w r.a r.cap r.I
  mer : MerAt w b5 D
  dn : DoneAt w b6 D
  bg : ∀ k, k < 2 → B ≤ g k
  le5 : B ≤ b5
  le6 : B ≤ b6
  gg : ¬ g 0 = g 1
  xg : ∀ k, k < 2 → ∀ j, j < 2 → ¬ X k (g j)
  x5 : ∀ k, k < 2 → ¬ X k b5
  x6 : ∀ k, k < 2 → ¬ X k b6
  xv : ∀ k, k < 2 → ∀ q, v.ownBlock = some q → ¬ X k q
theorem SideAt.block {w : World} {X : Nat → Prop} {g : Nat} {s : Side} (h : SideAt w X g s) : ∃ C, w.heap[g]? = some (.cells C 72 (0, 0)) := by
  obtain ⟨po, pt, pk, h1, _⟩ := unfold_side h; exact ⟨_, h1⟩
theorem SM.below {B : Nat} {w w' : World} {g : Nat → Nat} {X : Nat → Nat → Prop} {s : Nat → Side} {L : List Rdg} {D : Nat → Option In} {b3 b5 b6 : Nat} {v : Value} (m : SM B w g X s L D b3 b5 b6 v) (hb : Below w.heap.size w w') : SM B w' g X s L D b3 b5 b6 v where
  side := fun k hk => (m.side k hk).below hb
  row := blk_keep hb m.row
  sent := own_below hb m.sent
  ins := fun r hr => (m.ins r hr).keep (KeepT.below hb)
  mer := by
    obtain ⟨C, h1, h2, h3⟩ := m.mer
    refine ⟨C, blk_keep hb h1, h2, fun j hj M hM => ?_⟩
    obtain ⟨a, cap, c0, c1, c2, c3, c4⟩ := h3 j hj M hM
    exact ⟨a, cap, c0, c1, c2, c3, c4.keep (KeepT.below hb)⟩
  dn := by
    obtain ⟨C, h1, h2⟩ := m.dn
    exact ⟨C, blk_keep hb h1, h2⟩
  bg := m.bg
  le5 := m.le5
  le6 := m.le6
  gg := m.gg
  xg := m.xg
  x5 := m.x5
  x6 := m.x6
  xv := m.xv
def updX (X : Nat → Nat → Prop) (k : Nat) (Y : Nat → Prop) (j : Nat) : Nat → Prop := if j = k then Y else X j
theorem SM.gne {B : Nat} {w : World} {g : Nat → Nat} {X : Nat → Nat → Prop} {s : Nat → Side} {L : List Rdg} {D : Nat → Option In} {b3 b5 b6 : Nat} {v : Value} (m : SM B w g X s L D b3 b5 b6 v) {j k : Nat} (hj : j < 2) (hk : k < 2) (h : ¬ j = k) : ¬ g j = g k := by
  have := m.gg
  rcases (show (j = 0 ∧ k = 1) ∨ (j = 1 ∧ k = 0) by omega) with ⟨rfl, rfl⟩ | ⟨rfl, rfl⟩
  · exact this
  · exact fun e => this e.symm
theorem SM.vlt {B : Nat} {w : World} {g : Nat → Nat} {X : Nat → Nat → Prop} {s : Nat → Side} {L : List Rdg} {D : Nat → Option In} {b3 b5 b6 : Nat} {v : Value} (m : SM B w g X s L D b3 b5 b6 v) {q : Nat} (hq : v.ownBlock = some q) : B ≤ q ∧ q < w.heap.size ∧ ∃ C, w.heap[q]? = some (.cells C 35 (0, 0)) := by
  rcases m.sent.2 with ⟨rfl, _⟩ | ⟨p, cap, cur, rfl, hg, hheap, _⟩
  · cases hq
  · cases hq; exact ⟨hg, blk_lt hheap, cur, hheap⟩
/-- a side has been written -/
theorem SM.step {B : Nat} {w w' : World} {g : Nat → Nat} {X : Nat → Nat → Prop} {s : Nat → Side} {L : List Rdg} {D : Nat → Option In} {b3 b5 b6 : Nat} {v : Value} (m : SM B w g X s L D b3 b5 b6 v) {k : Nat} (hk : k < 2) {Y : Nat → Prop} {x : Side} {M : Nat}
    (hx : SideAt w' Y (g k) x) (hY : Gr (X k) Y w.heap.size M) (ho : Only (g k) w w') : SM B w' g (updX X k Y) (upd s k x) L D b3 b5 b6 v := by
  obtain ⟨Cg, hg⟩ := (m.side k hk).block
  have hT : KeepT w w' := KeepT.only hg (by decide) ho
  obtain ⟨C5, h51, h52, h53⟩ := m.mer
  obtain ⟨C6, h61, h62⟩ := m.dn
  have hold : ∀ z, z < w.heap.size → ¬ X k z → ¬ Y z := fun z hz hn hy => (hY z hy).elim hn fun h => by omega
  refine ⟨?_, ho.keep (ne_type m.row hg (by decide)) m.row, ?_, fun r hr => (m.ins r hr).keep hT, ⟨C5, ho.keep (ne_type h51 hg (by decide)) h51, h52, ?_⟩, ⟨C6, ho.keep (ne_type h61 hg (by decide)) h61, h62⟩, m.bg, m.le5, m.le6, m.gg, ?_, ?_, ?_, ?_⟩
  · intro j hj
    unfold updX upd
    by_cases hjk : j = k
    · subst hjk; rw [if_pos rfl, if_pos rfl]; exact hx
    · rw [if_neg hjk, if_neg hjk]
      exact (m.side j hj).only ho (m.gne hj hk hjk) (m.xg j hj k hk)
  · refine m.sent.kept (row := some (g k)) ⟨ho.os, ho.tape, ho.output, ho.size, fun i hi hne => ho.block i hi fun e => hne (by rw [e])⟩ ?_
    cases hv : v.ownBlock with
    | none => exact .inl rfl
    | some q =>
      obtain ⟨_, _, C, hC⟩ := m.vlt hv
      exact .inr fun e => ne_type hC hg (by decide) (by simpa using e)
  · intro j hj M' hM
    obtain ⟨a, cap, c0, c1, c2, c3, c4⟩ := h53 j hj M' hM
    exact ⟨a, cap, c0, c1, c2, c3, c4.keep hT⟩
  · intro i hi j hj
    unfold updX
    split
    · exact hold _ (m.side j hj).lt (m.xg k hk j hj)
    · exact m.xg i hi j hj
  · intro i hi
    unfold updX
    split
    · exact hold _ (blk_lt h51) (m.x5 k hk)
    · exact m.x5 i hi
  · intro i hi
    unfold updX
    split
    · exact hold _ (blk_lt h61) (m.x6 k hk)
    · exact m.x6 i hi
  · intro i hi q hq
    unfold updX
    split
    · exact hold _ (m.vlt hq).2.1 (m.xv k hk q hq)
    · exact m.xv i hi q hq
/-- a reading has been appended to what was sent -/
theorem SM.app {B : Nat} {w w' : World} {g : Nat → Nat} {X : Nat → Nat → Prop} {s : Nat → Side} {L : List Rdg} {D : Nat → Option In} {b3 b5 b6 : Nat} {v v' : Value} (m : SM B w g X s L D b3 b5 b6 v) (r : Rdg)
    (hr : Has w r.a r.cap r.I) (hs : w'.ownsRow B 35 6 v' (L.length + 1) (rdgCells (L ++ [r]))) (hq : ∀ q, v'.ownBlock = some q → v.ownBlock = some q ∨ w.heap.size ≤ q) (hg : w.grownBy w' v.ownBlock) : SM B w' g X s (L ++ [r]) D b3 b5 b6 v' := by
  have hv : ∀ q, v.ownBlock = some q → ∃ C, w.heap[q]? = some (.cells C 35 (0, 0)) := fun q hq => (m.vlt hq).2.2
  have keep : ∀ (i : Nat) (C : Array Value) (t : TypeId) (fr : Nat × Nat), w.heap[i]? = some (.cells C t fr) → t ≠ 35 → w'.heap[i]? = some (.cells C t fr) := fun i C t fr h ht => by
    rw [hg.block i (blk_lt h) (fun e => by
      obtain ⟨C', hC⟩ := hv i e.symm
      exact ne_type h hC ht rfl), h]
  have hT : KeepT w w' := fun k C h => keep k C _ _ h (by decide)
  obtain ⟨C5, h51, h52, h53⟩ := m.mer
  obtain ⟨C6, h61, h62⟩ := m.dn
  have hbnd : ∀ k, k < 2 → ∀ j, X k j → j < w.heap.size := fun k hk => (m.side k hk).bound
  refine ⟨?_, keep _ _ _ _ m.row (by decide), ?_, ?_, ⟨C5, keep _ _ _ _ h51 (by decide), h52, ?_⟩, ⟨C6, keep _ _ _ _ h61 (by decide), h62⟩, m.bg, m.le5, m.le6, m.gg, m.xg, m.x5, m.x6, ?_⟩
  · intro k hk
    obtain ⟨Cg, hcg⟩ := (m.side k hk).block
    refine (m.side k hk).keep hg.size (by rw [keep _ _ _ _ hcg (by decide), hcg]) fun j hj => hg.block j (hbnd k hk j hj) fun e => m.xv k hk j e.symm hj
  · rw [List.length_append]
    exact hs
  · intro q hq
    rcases List.mem_append.1 hq with hq | hq
    · exact (m.ins q hq).keep hT
    · obtain rfl := List.mem_singleton.1 hq; exact hr.keep hT
  · intro j hj M' hM
    obtain ⟨a, cap, c0, c1, c2, c3, c4⟩ := h53 j hj M' hM
    exact ⟨a, cap, c0, c1, c2, c3, c4.keep hT⟩
  · intro k hk q hv' hx
    rcases hq q hv' with h | h
    · exact m.xv k hk q h hx
    · have := hbnd k hk _ hx; omega
/-- what was merged has been laid down -/
theorem SM.put {B : Nat} {w : World} {g : Nat → Nat} {X : Nat → Nat → Prop} {s : Nat → Side} {L : List Rdg} {D : Nat → Option In} {b3 b5 b6 : Nat} {v : Value} (m : SM B w g X s L D b3 b5 b6 v) {j : Nat} (hj : j < 60) {M : In} {a : Option Addr} {cap : Nat} (hM : Has w a cap M) :
    SM B (((((w.setCell ⟨b6, j, none⟩ (.bool true)).setCell ⟨b5, j * 4, none⟩ (.int .u64 (M.o : Int))).setCell ⟨b5, j * 4 + 1, none⟩ (.int .u32 (M.n : Int))).setCell ⟨b5, j * 4 + 2, none⟩ (.int .u32 (M.r : Int))).setCell ⟨b5, j * 4 + 3, none⟩ (.slice a M.c.length cap)) g X s L (updD D j M) b3 b5 b6 v := by
  obtain ⟨C5, h51, h52, h53⟩ := m.mer
  obtain ⟨C6, h61, h62, h63⟩ := m.dn
  have h56 : ¬ b5 = b6 := ne_type h51 h61 (by decide)
  have h65 : ¬ b6 = b5 := fun e => h56 e.symm
  obtain ⟨W, hW⟩ : ∃ W, W = (((((w.setCell ⟨b6, j, none⟩ (.bool true)).setCell ⟨b5, j * 4, none⟩ (.int .u64 (M.o : Int))).setCell ⟨b5, j * 4 + 1, none⟩ (.int .u32 (M.n : Int))).setCell ⟨b5, j * 4 + 2, none⟩ (.int .u32 (M.r : Int))).setCell ⟨b5, j * 4 + 3, none⟩ (.slice a M.c.length cap)) := ⟨_, rfl⟩
  have keep : ∀ i, ¬ i = b5 → ¬ i = b6 → W.heap[i]? = w.heap[i]? := fun i h5 h6 => by
    rw [hW, Below.heap_setCell _ _ _ _ h5, Below.heap_setCell _ _ _ _ h5, Below.heap_setCell _ _ _ _ h5, Below.heap_setCell _ _ _ _ h5, Below.heap_setCell _ _ _ _ h6]
  have hsz : W.heap.size = w.heap.size := by rw [hW]; simp only [World.size_setCell]
  have k6 : W.heap[b6]? = some (.cells (C6.setIfInBounds j (.bool true)) 4 (0, 0)) := by
    rw [hW]; exact blk_set_other (blk_set_other (blk_set_other (blk_set_other (blk_set h61 j _) _ _ h56) _ _ h56) _ _ h56) _ _ h56
  have k5 : W.heap[b5]? = some (.cells ((((C5.setIfInBounds (j * 4) (.int .u64 (M.o : Int))).setIfInBounds (j * 4 + 1) (.int .u32 (M.n : Int))).setIfInBounds (j * 4 + 2) (.int .u32 (M.r : Int))).setIfInBounds (j * 4 + 3) (.slice a M.c.length cap)) 33 (0, 0)) := by
    rw [hW]; exact blk_set (blk_set (blk_set (blk_set (blk_set_other h51 _ _ h65) _ _) _ _) _ _) _ _
  have hT : KeepT w W := fun k C h => by rw [keep k (ne_type h h51 (by decide)) (ne_type h h61 (by decide)), h]
  rw [← hW]
  refine ⟨?_, ?_, ?_, fun r hr => (m.ins r hr).keep hT, ⟨_, k5, by simpa using h52, ?_⟩, ⟨_, k6, by simpa using h62, ?_⟩, m.bg, m.le5, m.le6, m.gg, m.xg, m.x5, m.x6, m.xv⟩
  · intro k hk
    obtain ⟨Cg, hcg⟩ := (m.side k hk).block
    exact (m.side k hk).keep (Nat.le_of_eq hsz.symm) (keep _ (ne_type hcg h51 (by decide)) (ne_type hcg h61 (by decide))) fun i hi => keep i (fun e => m.x5 k hk (e ▸ hi)) (fun e => m.x6 k hk (e ▸ hi))
  · rw [keep _ (ne_type m.row h51 (by decide)) (ne_type m.row h61 (by decide))]; exact m.row
  · refine ⟨m.sent.1, m.sent.2.imp id ?_⟩
    rintro ⟨q, cap, cur, h1, h2, h3, h4⟩
    exact ⟨q, cap, cur, h1, h2, by rw [keep _ (ne_type h3 h51 (by decide)) (ne_type h3 h61 (by decide)), h3], h4⟩
  · intro i hi N hN
    by_cases hij : i = j
    · subst hij
      rw [updD_same] at hN
      cases hN
      refine ⟨a, cap, ?_, ?_, ?_, ?_, hM.keep hT⟩
      · rw [Array.getElem?_setIfInBounds_ne (by omega), Array.getElem?_setIfInBounds_ne (by omega), Array.getElem?_setIfInBounds_ne (by omega), Array.getElem?_setIfInBounds_self_of_lt (by omega)]
      · rw [Array.getElem?_setIfInBounds_ne (by omega), Array.getElem?_setIfInBounds_ne (by omega), Array.getElem?_setIfInBounds_self_of_lt (by simp; omega)]
      · rw [Array.getElem?_setIfInBounds_ne (by omega), Array.getElem?_setIfInBounds_self_of_lt (by simp; omega)]
      · rw [Array.getElem?_setIfInBounds_self_of_lt (by simp; omega)]
    · rw [updD_other _ _ hij] at hN
      obtain ⟨a', cap', c0, c1, c2, c3, c4⟩ := h53 i hi N hN
      refine ⟨a', cap', ?_, ?_, ?_, ?_, c4.keep hT⟩
      all_goals rw [Array.getElem?_setIfInBounds_ne (by omega), Array.getElem?_setIfInBounds_ne (by omega), Array.getElem?_setIfInBounds_ne (by omega), Array.getElem?_setIfInBounds_ne (by omega)]
      all_goals assumption
  · intro i hi
    by_cases hij : i = j
    · subst hij
      rw [updD_same, Array.getElem?_setIfInBounds_self_of_lt (by omega)]; rfl
    · rw [updD_other _ _ hij, Array.getElem?_setIfInBounds_ne (by omega)]
      exact h63 i hi
end Go.Proofs.Ytbbacmlcimgjbaa
