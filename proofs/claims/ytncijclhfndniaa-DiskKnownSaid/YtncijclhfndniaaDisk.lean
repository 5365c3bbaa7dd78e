/-
  Chapter 14: what a disk is, plainly, and how it lies in memory.
-/
import Derived.Test.YtncijclhfndniaaBase2
import Derived.Test.YtncijclhfndniaaObj
import Derived.Test.YtncijclhfndniaaAppend
import Derived.Deep.MidRow
import Derived.Deep.AppendLies
namespace Go.Proofs.Ytncijclhfndniaa
open Go.RowKit
theorem heap_new1 (w : World) (o : Obj) : (w.alloc o).heap[w.heap.size]? = some o := by
  show (w.heap.push o)[w.heap.size]? = some o
  simp
theorem below_drewN {B : Nat} {a b : World} (h : Below B a b) (n : Nat) : Below B a (b.drewN n) := ⟨h.os, h.tape, h.output, h.size, h.block⟩
theorem name_world {P : Program} {c : Code} {Q : Exit → Act → World → Prop} {a : Act} {w : World} (h : ∀ W, W = w → c.wp P Q a W) : c.wp P Q a w := h w rfl
theorem name_worldL {P : Program} {ops : Array Oper} {Q : Exit → Act → World → Prop} {rest : List Oper} {a : Act} {w : World} (h : ∀ W, W = w → wpList P ops Q rest a W) : wpList P ops Q rest a w := h w rfl
theorem name_then {K : Act → World → Prop} {Q : Exit → Act → World → Prop} {a : Act} {w : World} (h : ∀ W, W = w → Exit.then K Q Exit.normal a W) : Exit.then K Q Exit.normal a w := h w rfl
theorem name_calls {P : Program} {f : Nat} {args : Array Value} {Q : Ending → World → Prop} {w : World} (h : ∀ W, W = w → Calls P f args W Q) : Calls P f args w Q := h w rfl
theorem ne_type {w : World} {p q : Nat} {C C' : Array Value} {t t' : TypeId} {fr fr' : Nat × Nat} (h1 : w.heap[p]? = some (.cells C t fr)) (h2 : w.heap[q]? = some (.cells C' t' fr')) (ht : t ≠ t') : ¬ p = q := by
  rintro rfl; rw [h1] at h2; cases h2; exact ht rfl
/-- only blocks of Z, of those that were, are written -/
structure Bar (Z : Nat → Prop) (w w' : World) : Prop where
  os : w'.os = w.os
  tape : w'.tape = w.tape
  output : w'.output = w.output
  size : w.heap.size ≤ w'.heap.size
  block : ∀ k, k < w.heap.size → ¬ Z k → w'.heap[k]? = w.heap[k]?
theorem Bar.refl (Z : Nat → Prop) (w : World) : Bar Z w w := ⟨rfl, rfl, rfl, Nat.le_refl _, fun _ _ _ => rfl⟩
theorem Bar.of_below {Z : Nat → Prop} {w w' : World} (h : Below w.heap.size w w') : Bar Z w w' := ⟨h.os, h.tape, h.output, h.size, fun k hk _ => h.block k hk⟩
theorem Bar.of_only {g : Nat} {w w' : World} (h : Only g w w') : Bar (fun k => k = g) w w' := ⟨h.os, h.tape, h.output, h.size, fun k hk e => h.block k hk e⟩
theorem Bar.trans {Z : Nat → Prop} {a b c : World} (h : Bar Z a b) (k : Bar Z b c) : Bar Z a c :=
  ⟨k.os.trans h.os, k.tape.trans h.tape, k.output.trans h.output, Nat.le_trans h.size k.size, fun i hi hg => (k.block i (Nat.lt_of_lt_of_le hi h.size) hg).trans (h.block i hi hg)⟩
theorem Bar.mono {Y Z : Nat → Prop} {a b : World} (h : Bar Y a b) (hyz : ∀ k, k < a.heap.size → Y k → Z k) : Bar Z a b := ⟨h.os, h.tape, h.output, h.size, fun k hk hz => h.block k hk fun hy => hz (hyz k hk hy)⟩
theorem Bar.only {Z : Nat → Prop} {g : Nat} {a b c : World} (h : Bar Z a b) (k : Only g b c) (hg : g < a.heap.size → Z g) : Bar Z a c :=
  ⟨k.os.trans h.os, k.tape.trans h.tape, k.output.trans h.output, Nat.le_trans h.size k.size, fun i hi hz => (k.block i (Nat.lt_of_lt_of_le hi h.size) (fun e => hz (e ▸ hg (e ▸ hi)))).trans (h.block i hi hz)⟩
theorem Bar.below {Z : Nat → Prop} {B : Nat} {a w w' : World} (h : Below B a w) (hB : ∀ k, Z k → B ≤ k) (hs : B ≤ w.heap.size) (k : Bar Z w w') : Below B a w' :=
  ⟨k.os.trans h.os, k.tape.trans h.tape, k.output.trans h.output, Nat.le_trans h.size k.size, fun i hi => (k.block i (Nat.lt_of_lt_of_le hi hs) fun hz => by have := hB i hz; omega).trans (h.block i hi)⟩
/-- what is new in a footprint is new in memory -/
def Gr (X X' : Nat → Prop) (lo : Nat) : Prop := ∀ j, X' j → X j ∨ lo ≤ j
theorem Gr.refl (X : Nat → Prop) (lo : Nat) : Gr X X lo := fun _ h => .inl h
theorem Gr.trans {X Y Z : Nat → Prop} {lo lo' : Nat} (h : Gr X Y lo) (k : Gr Y Z lo') (hl : lo ≤ lo') : Gr X Z lo := fun j hj => (k j hj).elim (h j) (fun h => .inr (Nat.le_trans hl h))

theorem Bar.grow {X X' : Nat → Prop} {a b c : World} (h : Bar X a b) (k : Bar X' b c) (hg : Gr X X' a.heap.size) : Bar X a c :=
  ⟨k.os.trans h.os, k.tape.trans h.tape, k.output.trans h.output, Nat.le_trans h.size k.size, fun i hi hx => (k.block i (Nat.lt_of_lt_of_le hi h.size) (fun hy => (hg i hy).elim hx (fun h2 => by omega))).trans (h.block i hi hx)⟩
/-- a disk: settled blocks, open writes, steps, after how many of them the power goes, whether it is off -/
structure Dk where
  bl : List (List Nat)
  op : List (Nat × List Nat)
  st : Int
  ar : Option Int
  off : Bool
def okB (b : List Nat) : Prop := b.length = 256 ∧ ∀ x ∈ b, x < 256
structure Dk.ok (s : Dk) : Prop where
  blk : ∀ b ∈ s.bl, okB b
  opn : ∀ p ∈ s.op, p.1 < s.bl.length ∧ okB p.2
  n : s.bl.length ≤ 4096
  arm : ∀ n, s.ar = some n → 0 ≤ n ∧ n ≤ 9223372036854775807
def zeros : List Nat := List.replicate 256 0
theorem zeros_ok : okB zeros := ⟨List.length_replicate, fun x hx => by rw [List.eq_of_mem_replicate hx]; decide⟩
def Dk.new (n : Nat) : Dk := ⟨List.replicate n zeros, [], 0, none, false⟩
def Dk.ask (s : Dk) (i : Int) : Int := if s.off then 140 else if i < 0 ∨ (s.bl.length : Int) ≤ i then 2 else 0
/-- one step is counted; the power goes at it -/
def Dk.goes (s : Dk) : Bool := match s.ar with | some n => decide (n ≤ 0) | none => false
def Dk.count (s : Dk) : Dk := match s.ar with
  | none => { s with st := wrap64 (s.st + 1) }
  | some n => if n ≤ 0 then { s with st := wrap64 (s.st + 1), ar := none, off := true } else { s with st := wrap64 (s.st + 1), ar := some (n - 1) }
def puts (bl : List (List Nat)) : List (Nat × List Nat) → List (List Nat)
  | [] => bl
  | p :: l => puts (bl.set p.1 p.2) l
def Dk.settle (s : Dk) : Dk := { s with bl := puts s.bl s.op, op := [] }
def pad (b : List Nat) : List Nat := b ++ List.replicate (256 - b.length) 0
def Dk.wCode (s : Dk) (i : Int) (b : List Nat) : Int := if s.ask i ≠ 0 then s.ask i else if 256 < b.length then 3 else if s.goes then 140 else 0
def Dk.write (s : Dk) (i : Int) (b : List Nat) : Dk := if s.ask i ≠ 0 ∨ 256 < b.length then s else Dk.count { s with op := s.op ++ [(i.toNat, pad b)] }
def Dk.sCode (s : Dk) : Int := if s.off ∨ s.goes = true then 140 else 0
def Dk.sync (s : Dk) : Dk := if s.off then s else if s.goes then s.count else s.count.settle
def Dk.fail (s : Dk) (n : Int) : Dk := { s with ar := if 0 ≤ n then some n else none }
def Dk.crash (s : Dk) : Dk := { s with ar := none, off := true }
def fateAt (f : List Nat) (i : Nat) : Nat := if f.getD i 0 = 255 then 256 else f.getD i 0
def fated (f : List Nat) : Nat → List (List Nat) → List (Nat × List Nat) → List (List Nat)
  | _, bl, [] => bl
  | i, bl, p :: l => fated f (i + 1) (bl.set p.1 (p.2.take (fateAt f i) ++ (bl.getD p.1 []).drop (fateAt f i))) l
def Dk.on (s : Dk) (f : List Nat) : Dk := if s.off then { s with bl := fated f 0 s.bl s.op, op := [], ar := none, off := false } else { s with ar := none }
/-- what is read of block i -/
def lastOf (i : Nat) : List (Nat × List Nat) → Option (List Nat)
  | [] => none
  | p :: l => match lastOf i l with | some b => some b | none => if p.1 = i then some p.2 else none
def Dk.at (s : Dk) (i : Nat) : List Nat := (lastOf i s.op).getD (s.bl.getD i [])

/-! ### memory -/
def wrV (p : Nat × List Nat) : List Value := .int .i64 (p.1 : Int) :: byteVals p.2
def wrVs : List (Nat × List Nat) → List Value
  | [] => []
  | p :: l => wrV p ++ wrVs l
theorem wrV_length {p : Nat × List Nat} (h : okB p.2) : (wrV p).length = 257 := by simp [wrV, byteVals_length, h.1]
theorem wrVs_append (a b : List (Nat × List Nat)) : wrVs (a ++ b) = wrVs a ++ wrVs b := by
  induction a with
  | nil => rfl
  | cons p l ih => simp [wrVs, ih]
theorem wrVs_nil : wrVs [] = [] := rfl
theorem wrVs_one (p : Nat × List Nat) : wrVs [p] = wrV p := by simp [wrVs]
theorem wrVs_length (l : List (Nat × List Nat)) (h : ∀ p ∈ l, okB p.2) : (wrVs l).length = l.length * 257 := by
  induction l with
  | nil => rfl
  | cons p l ih =>
    have := ih (fun q hq => h q (List.mem_cons_of_mem _ hq))
    simp only [wrVs, List.length_append, wrV_length (h p List.mem_cons_self), this, List.length_cons]; omega
theorem wrVs_at (l : List (Nat × List Nat)) (h : ∀ p ∈ l, okB p.2) : ∀ (i : Nat) (p : Nat × List Nat), l[i]? = some p → ∀ j, j < 257 → (wrVs l)[i * 257 + j]? = (wrV p)[j]? := by
  induction l with
  | nil => intro i p hp; simp at hp
  | cons q l ih =>
    have hq := wrV_length (h q List.mem_cons_self)
    intro i p hp j hj
    rcases i with _ | i
    · simp at hp; subst hp
      simp only [wrVs, Nat.zero_mul, Nat.zero_add]
      rw [List.getElem?_append_left (by omega)]
    · simp only [wrVs]
      rw [show (i + 1) * 257 + j = (wrV q).length + (i * 257 + j) by rw [hq]; omega, List.getElem?_append_right (by omega), Nat.add_sub_cancel_left]
      exact ih (fun r hr => h r (List.mem_cons_of_mem _ hr)) i p (by simpa using hp) j hj
theorem byteVals_one (l : List Nat) : ∀ v ∈ byteVals l, v.oneCell' = true := by
  intro v hv
  obtain ⟨x, _, rfl⟩ := List.mem_map.1 hv
  rfl
theorem wrV_one (p : Nat × List Nat) : ∀ v ∈ wrV p, v.oneCell' = true := by
  intro v hv
  rcases List.mem_cons.1 hv with rfl | hv
  · rfl
  · exact byteVals_one _ v hv
/-- the settled blocks -/
def BlAt (w : World) (kb : Nat) (bl : List (List Nat)) : Prop := (∃ C, w.heap[kb]? = some (.cells C 58 (0, 0))) ∧ ∀ i b, bl[i]? = some b → w.rangeAt kb (i * 256) (byteVals b)
def ArAt (w : World) (X : Nat → Prop) (ap : Option Addr) : Option Int → Prop
  | none => ap = none
  | some n => ∃ ka, ap = some ⟨ka, 0, none⟩ ∧ X ka ∧ w.heap[ka]? = some (.cells #[.int .i64 n] 3 (0, 0))
structure DkAt (w : World) (X : Nat → Prop) (g : Nat) (s : Dk) (ad : Option Addr) (cb : Nat) (v : Value) (ap : Option Addr) : Prop where
  hd : w.heap[g]? = some (.cells #[.slice ad s.bl.length cb, v, .int .i64 s.st, .pointer ap, .bool s.off] 54 (0, 0))
  xg : X g
  lt : ∀ k, X k → k < w.heap.size
  ok : s.ok
  bl : s.bl = [] ∨ ∃ kb, ad = some ⟨kb, 0, none⟩ ∧ X kb ∧ BlAt w kb s.bl
  op : w.ownsRow 0 60 257 v s.op.length (wrVs s.op)
  ox : ∀ q, v.ownBlock = some q → X q
  nil : s.op = [] → v = .slice none 0 0
  arm : ArAt w X ap s.ar
def DAt (w : World) (X : Nat → Prop) (g : Nat) (s : Dk) : Prop := ∃ ad cb v ap, DkAt w X g s ad cb v ap
theorem cell_of_blk {w w' : World} {k : Nat} (h : w'.heap[k]? = w.heap[k]?) (o : Nat) : w'.cell? ⟨k, o, none⟩ = w.cell? ⟨k, o, none⟩ := by simp [World.cell?, h]
theorem range_of_blk {w w' : World} {k o : Nat} {cs : List Value} (h : w'.heap[k]? = w.heap[k]?) (hr : w.rangeAt k o cs) : w'.rangeAt k o cs := fun j v hv => by rw [cell_of_blk h]; exact hr j v hv
theorem BlAt.keep {w w' : World} {kb : Nat} {bl : List (List Nat)} (h : BlAt w kb bl) (hk : w'.heap[kb]? = w.heap[kb]?) : BlAt w' kb bl := by
  obtain ⟨⟨C, hC⟩, h2⟩ := h
  exact ⟨⟨C, by rw [hk, hC]⟩, fun i b hb => range_of_blk hk (h2 i b hb)⟩
theorem own_keep {w w' : World} {B n sz : Nat} {e : TypeId} {v : Value} {xs : List Value} (h : w.ownsRow B e sz v n xs) (hk : ∀ q, v.ownBlock = some q → w'.heap[q]? = w.heap[q]?) : w'.ownsRow B e sz v n xs := by
  refine ⟨h.1, h.2.imp id ?_⟩
  rintro ⟨g, cap, cur, rfl, h2, h3, h4⟩
  exact ⟨g, cap, cur, rfl, h2, by rw [hk g rfl, h3], h4⟩
theorem DkAt.keep {w w' : World} {X : Nat → Prop} {g : Nat} {s : Dk} {ad : Option Addr} {cb : Nat} {v : Value} {ap : Option Addr} (h : DkAt w X g s ad cb v ap) (hs : w.heap.size ≤ w'.heap.size) (hk : ∀ k, X k → w'.heap[k]? = w.heap[k]?) : DkAt w' X g s ad cb v ap := by
  refine ⟨by rw [hk g h.xg, h.hd], h.xg, fun k hx => Nat.lt_of_lt_of_le (h.lt k hx) hs, h.ok, h.bl.imp id ?_, own_keep h.op (fun q hq => hk q (h.ox q hq)), h.ox, h.nil, ?_⟩
  · rintro ⟨kb, e, hx, hb⟩
    exact ⟨kb, e, hx, hb.keep (hk kb hx)⟩
  · have := h.arm
    unfold ArAt at *
    split at this
    · exact this
    · obtain ⟨ka, e, hx, hc⟩ := this
      exact ⟨ka, e, hx, by rw [hk ka hx, hc]⟩
theorem DAt.keep {w w' : World} {X : Nat → Prop} {g : Nat} {s : Dk} (h : DAt w X g s) (hs : w.heap.size ≤ w'.heap.size) (hk : ∀ k, X k → w'.heap[k]? = w.heap[k]?) : DAt w' X g s := by
  obtain ⟨ad, cb, v, ap, h⟩ := h
  exact ⟨ad, cb, v, ap, h.keep hs hk⟩
theorem DAt.lt {w : World} {X : Nat → Prop} {g : Nat} {s : Dk} (h : DAt w X g s) : ∀ k, X k → k < w.heap.size := by
  obtain ⟨ad, cb, v, ap, h⟩ := h
  exact h.lt
theorem DAt.ok {w : World} {X : Nat → Prop} {g : Nat} {s : Dk} (h : DAt w X g s) : s.ok := by
  obtain ⟨ad, cb, v, ap, h⟩ := h
  exact h.ok
theorem DAt.below {w w' : World} {X : Nat → Prop} {g : Nat} {s : Dk} (h : DAt w X g s) (hb : Below w.heap.size w w') : DAt w' X g s := h.keep hb.size (fun k hk => hb.block k (h.lt k hk))
theorem DAt.bar {w w' : World} {X Z : Nat → Prop} {g : Nat} {s : Dk} (h : DAt w X g s) (hb : Bar Z w w') (hz : ∀ k, X k → ¬ Z k) : DAt w' X g s := h.keep hb.size (fun k hk => hb.block k (h.lt k hk) (hz k hk))
theorem blk_setCells {g : Nat} {t : TypeId} {fr : Nat × Nat} (vs : List Value) : ∀ (o : Nat) (w : World) (C : Array Value), w.heap[g]? = some (.cells C t fr) → ∃ C', (w.setCells g o vs).heap[g]? = some (.cells C' t fr) ∧ C'.size = C.size := by
  induction vs with
  | nil => intro o w C h; exact ⟨C, h, rfl⟩
  | cons v r ih =>
    intro o w C h
    obtain ⟨C', h1, h2⟩ := ih (o + 1) (w.setCell ⟨g, o, none⟩ v) _ (blk_set h o v)
    exact ⟨C', h1, by rw [h2]; simp⟩
theorem only_setCells {g : Nat} (vs : List Value) : ∀ (o : Nat) (w : World), Only g w (w.setCells g o vs) := by
  induction vs with
  | nil => intro o w; exact Only.refl g w
  | cons v r ih =>
    intro o w
    exact ((Only.refl g w).setCell (p := ⟨g, o, none⟩) rfl v).trans (ih (o + 1) _)
theorem there_of_blk {w : World} {g : Nat} {C : Array Value} {t : TypeId} (h : w.heap[g]? = some (.cells C t (0, 0))) (o n : Nat) (hn : o + n ≤ C.size) : w.there g o n := fun j hj =>
  ⟨by simp [World.cell?, h, show o + j < C.size by omega], blk_free h _⟩
theorem there_of_range {w : World} {g : Nat} {C : Array Value} {t : TypeId} (h : w.heap[g]? = some (.cells C t (0, 0))) {o : Nat} {cs : List Value} (hr : w.rangeAt g o cs) : w.there g o cs.length := fun j hj =>
  ⟨hr.isSome j hj, blk_free h _⟩
end Go.Proofs.Ytncijclhfndniaa
