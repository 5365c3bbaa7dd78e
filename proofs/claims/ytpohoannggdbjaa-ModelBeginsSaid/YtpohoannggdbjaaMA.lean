/-
 Merged: Base, Base2, Obj, Read, Read2, Calm, Append, Grow, Pw, BitsP, PwF, Rel, IxCm, To, ToA, ToB, ToC, ToD, ToE.
-/
import Derived.WalkKit
import Derived.WalkSpells
import Derived.WalkLawsBesides
import Derived.Outline
import Derived.Lib.Hide
import Derived.OpenShut
import Derived.ProofKit
import Derived.ShutString
import Derived.ChangeOld
import Derived.Laws.StructEq
import Derived.Deep.QuietTactic
import Derived.BigQuiet
import Derived.Laws.OwnMore
import Derived.OwnWalk
import Derived.Deep.RegionLaw
import Derived.Laws.BitsAllLaws
import Derived.Laws.ShiftsVarLaws
import Derived.OrdersHeld
import Derived.RegionTactic
import Derived.Test.YtpohoannggdbjaaProg
import Derived.IntWalk
import Derived.Laws.RangeAny
import Derived.LoopTactic
import Derived.MapKept
import Derived.Deep.DeepCutAuto
import Derived.Deep.CutBlock
import Derived.Deep.LoopGhost
import Derived.Lib.SlicesS
namespace Go.Proofs.Ytpohoannggdbjaa
open Go.RowKit

theorem ret_u32 {a b : Int} (h : a = b) : Ending.returned (.int .u32 a) = .returned (.int .u32 b) := by rw [h]
theorem int_eq {k : IntKind} {a b : Int} (h : a = b) : Value.int k a = Value.int k b := by rw [h]
theorem ret_bool {a b : Bool} (h : a = b) : Ending.returned (.bool a) = .returned (.bool b) := by rw [h]

/-- a row of bytes that lies in memory from 'a' on; of no bytes nothing is asked -/
def BytesAt (w : World) (a : Option Addr) (l : List Nat) : Prop :=
 (∀ c ∈ l, c < 256) ∧ (l = [] ∨ ∃ b off, a = some ⟨b, off, none⟩ ∧ ∀ i, i < l.length → w.cell? ⟨b, off + i, none⟩ = some (.int .u8 ((l.getD i 0 : Nat) : Int)))

/-- what the walk is told of a slice of integers that came in: it is nil; or it leads to a row of 'cap' cells, the numbers 'zs' (the first 'len' are its elements, the rest its spare room), each fitting its kind -/
def IsRow (k : IntKind) (w : World) (a : Option Addr) (len cap : Nat) (zs : List Int) : Prop :=
 (a = none ∧ len = 0 ∧ cap = 0 ∧ zs = []) ∨
 ∃ x, a = some x ∧ len ≤ cap ∧ cap ≤ maxLen ∧ zs.length = cap ∧ (∀ i, i < zs.length → w.cell? (x.add i) = some (.int k (zs.getD i 0))) ∧ ∀ n ∈ zs, (Lit.int k n).wf = true

theorem IsRow.capNil {k : IntKind} {w : World} {a : Option Addr} {len cap : Nat} {zs : List Int} (h : IsRow k w a len cap zs) : a = none → cap = 0 := by
 rintro rfl
 rcases h with ⟨_, _, h, _⟩ | ⟨x, h, _⟩
 ·exact h
 ·cases h
theorem IsRow.cap {k : IntKind} {w : World} {a : Option Addr} {len cap : Nat} {zs : List Int} (h : IsRow k w a len cap zs) : len ≤ cap ∧ cap ≤ maxLen := by
 rcases h with ⟨_, rfl, rfl, _⟩ | ⟨x, _, h1, h2, _⟩
 ·exact ⟨Nat.le_refl _, Nat.zero_le _⟩
 ·exact ⟨h1, h2⟩
theorem IsRow.bytes {w : World} {a : Option Addr} {len cap : Nat} {zs : List Int} (h : IsRow .u8 w a len cap zs) : ∃ l : List Nat, l.length = len ∧ len ≤ maxLen ∧ BytesAt w a l := by
 rcases h with ⟨rfl, rfl, rfl, rfl⟩ | ⟨x, rfl, hl, hm, hz, hcell, hwz⟩
 ·exact ⟨[], rfl, Nat.zero_le _, by simp, .inl rfl⟩
 ·refine ⟨(zs.take len).map Int.toNat, by simp; omega, Nat.le_trans hl hm, ?_, ?_⟩
  ·intro c hc
   obtain ⟨z, hz1, rfl⟩ := List.mem_map.1 hc
   have := bounds_u8 (hwz z (List.mem_of_mem_take hz1))
   omega
  ·rcases Nat.eq_zero_or_pos len with rfl | hpos
   ·left; simp
   ·right
    obtain ⟨b, off, spot⟩ := x
    have h0 := hcell 0 (by omega)
    have hs : spot = none := by simpa [Addr.add] using World.cell?_spot h0
    subst hs
    refine ⟨b, off, rfl, fun i hi => ?_⟩
    have hi' : i < len := by simpa [hz, Nat.min_eq_left hl] using hi
    have hci := hcell i (by omega)
    have hb := bounds_u8 (hwz (zs.getD i 0) (by rw [List.getD_eq_getElem?_getD, List.getElem?_eq_getElem (show i < zs.length by omega)]; exact List.getElem_mem _))
    have e : ((zs.take len).map Int.toNat).getD i 0 = (zs.getD i 0).toNat := by
     simp [List.getD_eq_getElem?_getD, hi', show i < zs.length by omega]
    rw [e, show ((zs.getD i 0).toNat : Int) = zs.getD i 0 by omega]
    rw [Addr.add_lit] at hci
    exact hci

/-- as BytesAt, of whatever kind of unsigned numbers below B -/
def NatsAt (k : IntKind) (B : Nat) (w : World) (a : Option Addr) (l : List Nat) : Prop :=
 (∀ c ∈ l, c < B) ∧ (l = [] ∨ ∃ b off, a = some ⟨b, off, none⟩ ∧ ∀ i, i < l.length → w.cell? ⟨b, off + i, none⟩ = some (.int k ((l.getD i 0 : Nat) : Int)))
theorem IsRow.nats {k : IntKind} {B : Nat} (hk : ∀ n, (Lit.int k n).wf = true → 0 ≤ n ∧ n < (B : Int)) {w : World} {a : Option Addr} {len cap : Nat} {zs : List Int} (h : IsRow k w a len cap zs) :
 ∃ l : List Nat, l.length = len ∧ len ≤ maxLen ∧ NatsAt k B w a l := by
 rcases h with ⟨rfl, rfl, rfl, rfl⟩ | ⟨x, rfl, hl, hm, hz, hcell, hwz⟩
 ·exact ⟨[], rfl, Nat.zero_le _, by simp, .inl rfl⟩
 ·refine ⟨(zs.take len).map Int.toNat, by simp; omega, Nat.le_trans hl hm, ?_, ?_⟩
  ·intro c hc
   obtain ⟨z, hz1, rfl⟩ := List.mem_map.1 hc
   have := hk z (hwz z (List.mem_of_mem_take hz1))
   omega
  ·rcases Nat.eq_zero_or_pos len with rfl | hpos
   ·left; simp
   ·right
    obtain ⟨b, off, spot⟩ := x
    have h0 := hcell 0 (by omega)
    have hs : spot = none := by simpa [Addr.add] using World.cell?_spot h0
    subst hs
    refine ⟨b, off, rfl, fun i hi => ?_⟩
    have hi' : i < len := by simpa [hz, Nat.min_eq_left hl] using hi
    have hci := hcell i (by omega)
    have hb := hk _ (hwz (zs.getD i 0) (by rw [List.getD_eq_getElem?_getD, List.getElem?_eq_getElem (show i < zs.length by omega)]; exact List.getElem_mem _))
    have e : ((zs.take len).map Int.toNat).getD i 0 = (zs.getD i 0).toNat := by
     simp [List.getD_eq_getElem?_getD, hi', show i < zs.length by omega]
    rw [e, show ((zs.getD i 0).toNat : Int) = zs.getD i 0 by omega]
    rw [Addr.add_lit] at hci
    exact hci
theorem BytesAt.nats {w : World} {a : Option Addr} {l : List Nat} (h : BytesAt w a l) : NatsAt .u8 256 w a l := h
theorem BytesAt.take {w : World} {a : Option Addr} {l : List Nat} (h : BytesAt w a l) (n : Nat) : BytesAt w a (l.take n) := by
 refine ⟨fun c hc => h.1 c (List.mem_of_mem_take hc), ?_⟩
 rcases h.2 with rfl | ⟨b, off, rfl, hc⟩
 ·left; simp
 ·right
  refine ⟨b, off, rfl, fun i hi => ?_⟩
  have hi2 : i < n ∧ i < l.length := by rw [List.length_take] at hi; omega
  rw [hc i hi2.2]
  simp [List.getD_eq_getElem?_getD, hi2.1]
theorem NatsAt.below {k : IntKind} {B : Nat} {w w' : World} {a : Option Addr} {l : List Nat} (hb : Below w.heap.size w w') (h : NatsAt k B w a l) : NatsAt k B w' a l := by
 refine ⟨h.1, h.2.imp id ?_⟩
 rintro ⟨b, off, rfl, hc⟩
 exact ⟨b, off, rfl, fun i hi => cell_later hb (hc i hi)⟩
theorem NatsAt.at {k : IntKind} {B : Nat} {w : World} {a : Option Addr} {l : List Nat} (h : NatsAt k B w a l) {i : Nat} (hi : i < l.length) :
 ∃ b off c, a = some ⟨b, off, none⟩ ∧ l[i]? = some c ∧ c < B ∧ w.cell? ⟨b, off + i, none⟩ = some (.int k (c : Int)) := by
 obtain ⟨b, off, rfl, hc⟩ := h.2.resolve_left (by rintro rfl; simp at hi)
 refine ⟨b, off, l[i], rfl, List.getElem?_eq_getElem hi, h.1 _ (List.getElem_mem hi), ?_⟩
 rw [hc i hi, List.getD_eq_getElem?_getD, List.getElem?_eq_getElem hi]; rfl

theorem getD_lt {l : List Nat} (h : ∀ c ∈ l, c < 256) (i : Nat) : l.getD i 0 < 256 := by
 rw [List.getD_eq_getElem?_getD]
 rcases Nat.lt_or_ge i l.length with hi | hi
 ·rw [List.getElem?_eq_getElem hi]; exact h _ (List.getElem_mem hi)
 ·rw [List.getElem?_eq_none hi]; simp
theorem take_succ_getD (l : List Nat) (k : Nat) (h : k < l.length) : l.take (k + 1) = l.take k ++ [l.getD k 0] := by
 rw [List.take_succ_eq_append_getElem h, List.getD_eq_getElem?_getD, List.getElem?_eq_getElem h]; rfl

theorem BytesAt.below {w w' : World} {a : Option Addr} {l : List Nat} (hb : Below w.heap.size w w') (h : BytesAt w a l) : BytesAt w' a l := by
 refine ⟨h.1, h.2.imp id ?_⟩
 rintro ⟨b, off, rfl, hc⟩
 exact ⟨b, off, rfl, fun i hi => cell_later hb (hc i hi)⟩
theorem below_next {a b c : World} {B : Nat} (h : Below B a b) (hB : B ≤ b.heap.size) (k : Below b.heap.size b c) : Below B a c := h.trans (k.mono hB)
theorem below_on {a b c : World} (h : Below a.heap.size a b) (k : Below b.heap.size b c) : Below a.heap.size a c := h.trans (k.mono h.size)
theorem below_grown {w w' : World} (h : Below w.heap.size w w') : w.grownBy w' none := ⟨h.os, h.tape, h.output, h.size, fun k hk _ => h.block k hk⟩
theorem own_below {w w' : World} {base : Nat} {e : TypeId} {size : Nat} {v : Value} {n : Nat} {xs : List Value} (hb : Below w.heap.size w w') (h : w.ownsRow base e size v n xs) : w'.ownsRow base e size v n xs :=
 h.kept (below_grown hb) (by cases hv : v.ownBlock <;> simp)
theorem ofInt64_nat (a : Nat) (ha : a < 9223372036854775808) : (BitVec.ofInt 64 (a : Int)).toNat = a := by
 rw [BitVec.ofInt_natCast, BitVec.toNat_ofNat]; exact Nat.mod_eq_of_lt (by omega)
theorem i64_and_nat (a b : Nat) (ha : a < 9223372036854775808) (hb : b < 9223372036854775808) : bits .and .i64 (a : Int) (b : Int) = ((a &&& b : Nat) : Int) := by
 have hx : a &&& b ≤ a := Nat.and_le_left
 show IntKind.i64.wrap ((BitVec.ofInt 64 (a : Int) &&& BitVec.ofInt 64 (b : Int)).toNat : Int) = _
 rw [BitVec.toNat_and, ofInt64_nat a ha, ofInt64_nat b hb, IntKind.wrap_i64]
 omega
theorem mod256 {q : Nat} (h : q < 256) : (q : Int) % 256 = q := by omega
theorem two_new (w : World) (A B : Obj) : ((w.alloc A).alloc B).drew.heap[w.heap.size]? = some A ∧ ((w.alloc A).alloc B).drew.heap[w.heap.size + 1]? = some B := by
 constructor
 ·show ((w.heap.push A).push B)[w.heap.size]? = some A
  simp [Array.getElem?_push]
 ·show ((w.heap.push A).push B)[w.heap.size + 1]? = some B
  rw [Array.getElem?_push, if_pos (by simp)]
theorem alloc4 (w : World) (A B C D : Obj) {w1 : World} (hb : Below ((((w.alloc A).alloc B).alloc C).alloc D).heap.size ((((w.alloc A).alloc B).alloc C).alloc D) w1) :
 w1.heap[w.heap.size]? = some A ∧ w1.heap[w.heap.size + 1]? = some B ∧ w1.heap[w.heap.size + 1 + 1]? = some C ∧ w1.heap[w.heap.size + 1 + 1 + 1]? = some D := by
 have h : ∀ k, k < w.heap.size + 4 → w1.heap[k]? = ((((w.heap.push A).push B).push C).push D)[k]? := fun k hk => hb.block k (by simp; omega)
 refine ⟨?_, ?_, ?_, ?_⟩
 ·rw [h _ (by omega)]; simp only [Array.getElem?_push, Array.size_push]; rw [if_neg (by omega), if_neg (by omega), if_neg (by omega), if_pos trivial]
 ·rw [h _ (by omega)]; simp only [Array.getElem?_push, Array.size_push]; rw [if_neg (by omega), if_neg (by omega), if_pos trivial]
 ·rw [h _ (by omega)]; simp only [Array.getElem?_push, Array.size_push]; rw [if_neg (by omega), if_pos trivial]
 ·rw [h _ (by omega)]; simp only [Array.getElem?_push, Array.size_push]; rw [if_pos trivial]
theorem below4 (w : World) (A B C D : Obj) : Below w.heap.size w ((((w.alloc A).alloc B).alloc C).alloc D) :=
 ((((Below.refl _ _).alloc (Nat.le_refl _) _).alloc (by simp) _).alloc (by simp; omega) _).alloc (by simp; omega) _
theorem blk_keep {w w' : World} {g : Nat} {o : Obj} (hb : Below w.heap.size w w') (h : w.heap[g]? = some o) : w'.heap[g]? = some o := by
 have hg : g < w.heap.size := (Array.getElem?_eq_some_iff.1 h).1
 rw [hb.block g hg, h]
theorem blk_cell {w : World} {g : Nat} {cs : Array Value} {t : TypeId} {fr : Nat × Nat} (h : w.heap[g]? = some (.cells cs t fr)) (i : Nat) (v : Value) (hi : cs[i]? = some v) : w.cell? ⟨g, i, none⟩ = some v := by simp [World.cell?, h, hi]
theorem blk_free {w : World} {g : Nat} {cs : Array Value} {t : TypeId} (h : w.heap[g]? = some (.cells cs t (0, 0))) (i : Nat) : w.frozen? ⟨g, i, none⟩ = false := by simp [World.frozen?, h]
theorem alloc2n (w : World) (A B : Obj) (n : Nat) : (((w.alloc A).alloc B).drewN n).heap[w.heap.size]? = some A ∧ (((w.alloc A).alloc B).drewN n).heap[w.heap.size + 1]? = some B := by
 constructor
 ·show ((w.heap.push A).push B)[w.heap.size]? = some A
  simp [Array.getElem?_push]
 ·show ((w.heap.push A).push B)[w.heap.size + 1]? = some B
  rw [Array.getElem?_push, if_pos (by simp)]
theorem below2' (w : World) (A B : Obj) : Below w.heap.size w ((w.alloc A).alloc B) := ((Below.refl _ _).alloc (Nat.le_refl _) _).alloc (by simp) _
theorem below2 (w : World) (A B : Obj) : Below w.heap.size w ((w.alloc A).alloc B).drew := (((Below.refl _ _).alloc (Nat.le_refl _) _).alloc (by simp) _).drew
/-- a row of bytes in block g that may be written -/
def Mine (w : World) (g : Nat) (l : List Nat) : Prop :=
 (∀ c ∈ l, c < 256) ∧ (∀ i, i < l.length → w.cell? ⟨g, i, none⟩ = some (.int .u8 ((l.getD i 0 : Nat) : Int))) ∧ ∀ i, i < l.length → w.frozen? ⟨g, i, none⟩ = false
theorem Mine.bytes {w : World} {g : Nat} {l : List Nat} (h : Mine w g l) : BytesAt w (some ⟨g, 0, none⟩) l :=
 ⟨h.1, .inr ⟨g, 0, rfl, fun i hi => by rw [Nat.zero_add]; exact h.2.1 i hi⟩⟩
theorem Mine.below {w w' : World} {g : Nat} {l : List Nat} (hb : Below w.heap.size w w') (h : Mine w g l) : Mine w' g l := by
 refine ⟨h.1, fun i hi => cell_later hb (h.2.1 i hi), fun i hi => ?_⟩
 have hlt : g < w.heap.size := World.block_lt_of_cell? _ ⟨g, i, none⟩ (h.2.1 i hi)
 rw [hb.frozen (p := ⟨g, i, none⟩) hlt]
 exact h.2.2 i hi
theorem Mine.store {w : World} {g : Nat} {l : List Nat} (h : Mine w g l) {k v : Nat} (hk : k < l.length) (hv : v < 256) : Mine (w.setCell ⟨g, k, none⟩ (.int .u8 (v : Int))) g (l.set k v) := by
 refine ⟨?_, fun i hi => ?_, fun i hi => ?_⟩
 ·intro c hc
  rcases List.mem_or_eq_of_mem_set hc with hc | rfl
  ·exact h.1 c hc
  ·exact hv
 ·rw [List.length_set] at hi
  by_cases hik : i = k
  ·subst hik
   rw [World.cell?_setCell_same _ _ _ (h.2.1 i hi)]
   simp [List.getD_eq_getElem?_getD, hi]
  ·rw [World.cell?_setCell_other _ _ _ _ (by intro h; cases h; exact hik rfl), h.2.1 i hi]
   simp [List.getD_eq_getElem?_getD, List.getElem?_set_ne (show k ≠ i by omega)]
 ·rw [List.length_set] at hi
  rw [World.frozen?_setCell]; exact h.2.2 i hi
theorem Mine.other {w : World} {g h : Nat} {l : List Nat} (hm : Mine w g l) (hne : h ≠ g) (k : Nat) (v : Value) : Mine (w.setCell ⟨h, k, none⟩ v) g l :=
 ⟨hm.1, fun i hi => by rw [World.cell?_setCell_other _ _ _ _ (by intro e; cases e; exact hne rfl)]; exact hm.2.1 i hi, fun i hi => by rw [World.frozen?_setCell]; exact hm.2.2 i hi⟩
theorem Mine.below_at {B : Nat} {w w' : World} {g : Nat} {l : List Nat} (hb : Below B w w') (hg : g < B) (h : Mine w g l) : Mine w' g l :=
 ⟨h.1, fun i hi => by rw [hb.cell (p := ⟨g, i, none⟩) hg]; exact h.2.1 i hi, fun i hi => by rw [hb.frozen (p := ⟨g, i, none⟩) hg]; exact h.2.2 i hi⟩
theorem Mine.lt {w : World} {g : Nat} {l : List Nat} (h : Mine w g l) (hpos : 0 < l.length) : g < w.heap.size := World.block_lt_of_cell? _ ⟨g, 0, none⟩ (h.2.1 0 hpos)
theorem Mine.drewN {w : World} {g : Nat} {l : List Nat} (h : Mine w g l) (n : Nat) : Mine (w.drewN n) g l := h
theorem Mine.drew {w : World} {g : Nat} {l : List Nat} (h : Mine w g l) : Mine w.drew g l := h
theorem below1 (w : World) (o : Obj) : Below w.heap.size w (w.alloc o) := (Below.refl _ _).alloc (Nat.le_refl _) o
end Go.Proofs.Ytpohoannggdbjaa
namespace Go.Proofs.Ytpohoannggdbjaa
open Go.RowKit
theorem alloc3 (w : World) (A B C : Obj) {w1 : World} (hb : Below (((w.alloc A).alloc B).alloc C).heap.size (((w.alloc A).alloc B).alloc C) w1) :
 w1.heap[w.heap.size]? = some A ∧ w1.heap[w.heap.size + 1]? = some B ∧ w1.heap[w.heap.size + 1 + 1]? = some C := by
 have h : ∀ k, k < w.heap.size + 3 → w1.heap[k]? = (((w.heap.push A).push B).push C)[k]? := fun k hk => hb.block k (by simp; omega)
 refine ⟨?_, ?_, ?_⟩
 ·rw [h _ (by omega)]; simp only [Array.getElem?_push, Array.size_push]; rw [if_neg (by omega), if_neg (by omega), if_pos trivial]
 ·rw [h _ (by omega)]; simp only [Array.getElem?_push, Array.size_push]; rw [if_neg (by omega), if_pos trivial]
 ·rw [h _ (by omega)]; simp only [Array.getElem?_push, Array.size_push]; rw [if_pos trivial]
theorem below3 (w : World) (A B C : Obj) : Below w.heap.size w (((w.alloc A).alloc B).alloc C) :=
 (((Below.refl _ _).alloc (Nat.le_refl _) _).alloc (by simp) _).alloc (by simp; omega) _
theorem alloc1 (w : World) (A : Obj) {w1 : World} (hb : Below (w.alloc A).heap.size (w.alloc A) w1) : w1.heap[w.heap.size]? = some A := by
 rw [hb.block w.heap.size (by simp)]
 show (w.heap.push A)[w.heap.size]? = some A
 simp
theorem alloc3' (w : World) (A B C : Obj) : (((w.alloc A).alloc B).alloc C).heap[w.heap.size]? = some A ∧ (((w.alloc A).alloc B).alloc C).heap[w.heap.size + 1]? = some B ∧ (((w.alloc A).alloc B).alloc C).heap[w.heap.size + 1 + 1]? = some C :=
 alloc3 w A B C (Below.refl _ _)
theorem alloc2' (w : World) (A B : Obj) : ((w.alloc A).alloc B).heap[w.heap.size]? = some A ∧ ((w.alloc A).alloc B).heap[w.heap.size + 1]? = some B := by
 constructor
 ·show ((w.heap.push A).push B)[w.heap.size]? = some A
  simp [Array.getElem?_push]
 ·show ((w.heap.push A).push B)[w.heap.size + 1]? = some B
  rw [Array.getElem?_push, if_pos (by simp)]
end Go.Proofs.Ytpohoannggdbjaa
namespace Go.Proofs.Ytpohoannggdbjaa
open Go.RowKit

/-- w' is w with new blocks, and block g written -/
structure Only (g : Nat) (w w' : World) : Prop where
 os : w'.os = w.os
 tape : w'.tape = w.tape
 output : w'.output = w.output
 size : w.heap.size ≤ w'.heap.size
 block : ∀ k, k < w.heap.size → k ≠ g → w'.heap[k]? = w.heap[k]?
theorem Only.refl (g : Nat) (w : World) : Only g w w := ⟨rfl, rfl, rfl, Nat.le_refl _, fun _ _ _ => rfl⟩
theorem Only.trans {g : Nat} {a b c : World} (h : Only g a b) (k : Only g b c) : Only g a c :=
 ⟨k.os.trans h.os, k.tape.trans h.tape, k.output.trans h.output, Nat.le_trans h.size k.size, fun i hi hg => (k.block i (Nat.lt_of_lt_of_le hi h.size) hg).trans (h.block i hi hg)⟩
theorem Only.of_below {g : Nat} {w w' : World} (h : Below w.heap.size w w') : Only g w w' := ⟨h.os, h.tape, h.output, h.size, fun k hk _ => h.block k hk⟩
theorem Only.drew {g : Nat} {a w : World} (h : Only g a w) : Only g a w.drew := ⟨h.os, h.tape, h.output, h.size, h.block⟩
theorem Only.drewN {g : Nat} {a w : World} (h : Only g a w) (n : Nat) : Only g a (w.drewN n) := ⟨h.os, h.tape, h.output, h.size, h.block⟩
theorem Only.alloc {g : Nat} {a w : World} (h : Only g a w) (o : Obj) : Only g a (w.alloc o) := h.trans (Only.of_below (below1 w o))
theorem Only.setCell {g : Nat} {a w : World} (h : Only g a w) {p : Addr} (hp : p.block = g) (u : Value) : Only g a (w.setCell p u) :=
 h.trans ⟨((Below.refl 0 w).setCell (p := p) (Nat.zero_le _) u).os, ((Below.refl 0 w).setCell (p := p) (Nat.zero_le _) u).tape, ((Below.refl 0 w).setCell (p := p) (Nat.zero_le _) u).output,
  ((Below.refl 0 w).setCell (p := p) (Nat.zero_le _) u).size, fun k _ hk => Below.heap_setCell w p u k (by rw [hp]; exact hk)⟩
theorem Only.below {g B : Nat} {a w w' : World} (h : Below B a w) (hB : B ≤ g) (hs : B ≤ w.heap.size) (k : Only g w w') : Below B a w' :=
 ⟨k.os.trans h.os, k.tape.trans h.tape, k.output.trans h.output, Nat.le_trans h.size k.size, fun i hi => (k.block i (Nat.lt_of_lt_of_le hi hs) (by omega)).trans (h.block i hi)⟩
theorem Only.keep {g k : Nat} {w w' : World} {o : Obj} (h : Only g w w') (hk : k ≠ g) (hb : w.heap[k]? = some o) : w'.heap[k]? = some o := by
 rw [h.block k (Array.getElem?_eq_some_iff.1 hb).1 hk, hb]
theorem blk_lt {w : World} {g : Nat} {o : Obj} (h : w.heap[g]? = some o) : g < w.heap.size := (Array.getElem?_eq_some_iff.1 h).1
theorem blk_set {w : World} {g : Nat} {cs : Array Value} {t : TypeId} {fr : Nat × Nat} (h : w.heap[g]? = some (.cells cs t fr)) (i : Nat) (v : Value) : (w.setCell ⟨g, i, none⟩ v).heap[g]? = some (.cells (cs.setIfInBounds i v) t fr) := by
 show (w.heap.modify g _)[g]? = _
 rw [Array.getElem?_modify, if_pos rfl, h]; rfl
theorem blk_set_other {w : World} {g k : Nat} {o : Obj} (h : w.heap[g]? = some o) (i : Nat) (v : Value) (hk : k ≠ g) : (w.setCell ⟨k, i, none⟩ v).heap[g]? = some o := by
 rw [Below.heap_setCell _ _ _ _ (fun e => hk e.symm)]; exact h
end Go.Proofs.Ytpohoannggdbjaa
namespace Go.Proofs.Ytpohoannggdbjaa
open Go.RowKit

/-- these cells read as data of type t -/
def Rd (P : Program) (w : World) (t : TypeId) (cs : List Value) : Prop :=
 ∃ (H : Type) (enc : TypeId × Value → H) (fuel : Nat) (d : DataW H) (ps : List MemPlace), DataW.trod enc P w 0 (fun _ => true) true fuel t cs = some (d, ps)

theorem Rd.int {P : Program} {w : World} {t : TypeId} {cs : List Value} {k : IntKind} (hu : P.underlying t = some (.int k)) (h : Rd P w t cs) : ∃ n, cs = [.int k n] ∧ (Lit.int k n).wf = true := by
 obtain ⟨H, enc, fuel, d, ps, h⟩ := h
 cases fuel with
 | zero => simp [DataW.trod] at h
 | succ fuel =>
   simp only [DataW.trod, hu] at h
   split at h <;> simp_all
theorem Rd.bool {P : Program} {w : World} {t : TypeId} {cs : List Value} (hu : P.underlying t = some .bool) (h : Rd P w t cs) : ∃ b, cs = [.bool b] := by
 obtain ⟨H, enc, fuel, d, ps, h⟩ := h
 cases fuel with
 | zero => simp [DataW.trod] at h
 | succ fuel =>
   simp only [DataW.trod, hu] at h
   split at h <;> simp_all
theorem Rd.str {P : Program} {w : World} {t : TypeId} {cs : List Value} (hu : P.underlying t = some .string) (h : Rd P w t cs) : ∃ s, cs = [.string s] ∧ s.size ≤ maxLen := by
 obtain ⟨H, enc, fuel, d, ps, h⟩ := h
 cases fuel with
 | zero => simp [DataW.trod] at h
 | succ fuel =>
   simp only [DataW.trod, hu] at h
   split at h <;> simp_all
theorem mapM_get {α β : Type} {f : α → Option β} : ∀ {l : List α} {ys : List β}, l.mapM f = some ys → ys.length = l.length ∧ ∀ (i : Nat) (x : α), l[i]? = some x → ∃ y, ys[i]? = some y ∧ f x = some y := by
 intro l
 induction l with
 | nil => intro ys h; simp at h; subst h; simp
 | cons a l ih =>
   intro ys h
   rw [List.mapM_cons] at h
   cases ha : f a with
   | none => simp [ha] at h
   | some b =>
     cases hl : l.mapM f with
     | none => simp [ha, hl] at h
     | some bs =>
       simp [ha, hl] at h
       subst h
       obtain ⟨h1, h2⟩ := ih hl
       refine ⟨by simp [h1], fun i x hx => ?_⟩
       cases i with
       | zero => simp at hx; subst hx; exact ⟨b, rfl, ha⟩
       | succ i => simpa using h2 i x (by simpa using hx)
theorem cells_get {w : World} {base : Nat} {a : Addr} {n : Nat} {cs : List Value} (h : w.cells? base a n = some cs) : cs.length = n ∧ ∀ j, j < n → ∃ v, cs[j]? = some v ∧ w.cell? (a.add j) = some v := by
 unfold World.cells? at h
 split at h
 ·obtain ⟨h1, h2⟩ := mapM_get h
  refine ⟨by simpa using h1, fun j hj => ?_⟩
  exact h2 j j (by simp [hj])
 ·cases h
/-- a slice: nil; or a row of elements, the spare ones too -/
theorem Rd.slice {P : Program} {w : World} {t e : TypeId} {cs : List Value} (hu : P.underlying t = some (.slice e)) (h : Rd P w t cs) :
 cs = [.slice none 0 0] ∨ ∃ a len cap, cs = [.slice (some a) len cap] ∧ len ≤ cap ∧ cap ≤ maxLen ∧
  ∀ i, i < cap → ∃ ecs, w.cells? 0 (a.add (i * P.cellsOf e)) (P.cellsOf e) = some ecs ∧ Rd P w e ecs := by
 obtain ⟨H, enc, fuel, d, ps, h⟩ := h
 cases fuel with
 | zero => simp [DataW.trod] at h
 | succ fuel =>
   simp only [DataW.trod, hu] at h
   split at h <;> try (simp_all; done)
   ·rename_i e' a len cap heq
    simp only [Option.some.injEq] at heq
    obtain rfl : e = e' := by simpa using heq
    right
    refine ⟨a, len, cap, rfl, ?_⟩
    split at h
    ·rename_i hc
     simp only [if_true] at h
     cases h1 : (List.range len).mapM (fun i => (w.cells? 0 (a.add (i * P.cellsOf e)) (P.cellsOf e)).bind (DataW.trod enc P w 0 (fun _ => true) true fuel e)) with
     | none => simp [h1] at h
     | some elems =>
       cases h2 : (List.range (cap - len)).mapM (fun j => (w.cells? 0 (a.add ((len + j) * P.cellsOf e)) (P.cellsOf e)).bind (DataW.trod enc P w 0 (fun _ => true) true fuel e)) with
       | none => simp [h1, h2] at h
       | some rest =>
         refine ⟨hc.2.1, hc.2.2, fun i hi => ?_⟩
         have key : ∃ y, (w.cells? 0 (a.add (i * P.cellsOf e)) (P.cellsOf e)).bind (DataW.trod enc P w 0 (fun _ => true) true fuel e) = some y := by
          rcases Nat.lt_or_ge i len with hil | hil
          ·obtain ⟨y, _, hy⟩ := (mapM_get h1).2 i i (by simp [hil])
           exact ⟨y, hy⟩
          ·obtain ⟨y, _, hy⟩ := (mapM_get h2).2 (i - len) (i - len) (List.getElem?_range (by omega))
           rw [show len + (i - len) = i by omega] at hy
           exact ⟨y, hy⟩
         obtain ⟨y, hy⟩ := key
         cases hcs : w.cells? 0 (a.add (i * P.cellsOf e)) (P.cellsOf e) with
         | none => simp [hcs] at hy
         | some ecs => exact ⟨ecs, rfl, H, enc, fuel, y.1, y.2, by simpa [hcs] using hy⟩
    ·cases h
theorem Rd.struct {P : Program} {w : World} {t : TypeId} {fs : Array Field} {cs : List Value} (hu : P.underlying t = some (.struct fs)) (h : Rd P w t cs) :
 cs.length = P.cellsOf t ∧ ∀ f, f ∈ fs.toList → Rd P w f.type ((cs.drop f.offset).take (P.cellsOf f.type)) := by
 obtain ⟨H, enc, fuel, d, ps, h⟩ := h
 cases fuel with
 | zero => simp [DataW.trod] at h
 | succ fuel =>
   simp only [DataW.trod, hu] at h
   split at h
   ·rename_i hl
    refine ⟨hl, fun f hf => ?_⟩
    cases hm : fs.toList.mapM (fun f => DataW.trod enc P w 0 (fun _ => true) true fuel f.type ((cs.drop f.offset).take (P.cellsOf f.type))) with
    | none => simp [hm] at h
    | some xs =>
      obtain ⟨i, hi⟩ := List.getElem?_of_mem hf
      obtain ⟨y, _, hy⟩ := (mapM_get hm).2 i f hi
      exact ⟨H, enc, fuel, y.1, y.2, hy⟩
   ·cases h
theorem Rd.array {P : Program} {w : World} {t e : TypeId} {n : Nat} {cs : List Value} (hu : P.underlying t = some (.array n e)) (h : Rd P w t cs) :
 cs.length = P.cellsOf t ∧ ∀ i, i < n → Rd P w e ((cs.drop (i * P.cellsOf e)).take (P.cellsOf e)) := by
 obtain ⟨H, enc, fuel, d, ps, h⟩ := h
 cases fuel with
 | zero => simp [DataW.trod] at h
 | succ fuel =>
   simp only [DataW.trod, hu] at h
   split at h
   ·rename_i hl
    refine ⟨hl, fun i hi => ?_⟩
    cases hm : (List.range n).mapM (fun i => DataW.trod enc P w 0 (fun _ => true) true fuel e ((cs.drop (i * P.cellsOf e)).take (P.cellsOf e))) with
    | none => simp [hm] at h
    | some xs =>
      obtain ⟨y, _, hy⟩ := (mapM_get hm).2 i i (by simp [hi])
      exact ⟨H, enc, fuel, y.1, y.2, hy⟩
   ·cases h
end Go.Proofs.Ytpohoannggdbjaa
namespace Go.Proofs.Ytpohoannggdbjaa
open Go.RowKit

/-- a list out of a row of choices -/
theorem list_of {α : Type} {Q : Nat → α → Prop} : ∀ (n : Nat), (∀ i, i < n → ∃ c, Q i c) → ∃ l : List α, l.length = n ∧ ∀ (i : Nat) (c : α), l[i]? = some c → Q i c := by
 intro n
 induction n with
 | zero => intro _; exact ⟨[], rfl, fun i c h => by simp at h⟩
 | succ n ih =>
   intro h
   obtain ⟨l, hl, hq⟩ := ih fun i hi => h i (by omega)
   obtain ⟨c, hc⟩ := h n (by omega)
   refine ⟨l ++ [c], by simp [hl], fun i d hd => ?_⟩
   rcases Nat.lt_or_ge i n with hi | hi
   ·rw [List.getElem?_append_left (by omega)] at hd; exact hq i d hd
   ·have hin : i = n := by
     have := (List.getElem?_eq_some_iff.1 hd).1
     simp [hl] at this; omega
    subst hin
    rw [List.getElem?_append_right (by omega), hl, Nat.sub_self] at hd
    simp at hd; subst hd; exact hc
theorem Rd.fields {P : Program} {w : World} {t : TypeId} {cs : List Value} {L : List (TypeId × Nat)} (hu : P.underlying t = some (.struct (P.fieldsOf t))) (hL : (P.fieldsOf t).toList.map (fun f => (f.type, f.offset)) = L) (h : Rd P w t cs) :
 cs.length = P.cellsOf t ∧ ∀ x ∈ L, Rd P w x.1 ((cs.drop x.2).take (P.cellsOf x.1)) := by
 obtain ⟨h1, h2⟩ := h.struct hu
 refine ⟨h1, fun x hx => ?_⟩
 rw [← hL] at hx
 obtain ⟨f, hf, rfl⟩ := List.mem_map.1 hx
 exact h2 f hf
theorem array_of_list {α : Type} {c : Array α} {l : List α} (h : c.toList = l) : c = l.toArray := by rw [← h]
end Go.Proofs.Ytpohoannggdbjaa
namespace Go.Proofs.Ytpohoannggdbjaa
open Go.RowKit

theorem wp_region_calm {P : Program} {id : Nat} {Q : Exit → Act → World → Prop} {a : Act} {w : World} {l : List Oper} (hm : P.follows .mixedOrders = true) (hB : Region.lexB .any l.toArray = true)
 (h : wpQuiet P l.toArray (fun w' => Below w.heap.size w w') (fun a' => ∀ w', Below w.heap.size w w' → Q .normal a' w') l a) : (Code.region id l.toArray true).wp P Q a w :=
 wp_region_quiet (C := fun w' => Below w.heap.size w w') hm hB (Below.refl _ w).drew (by simpa using h)

end Go.Proofs.Ytpohoannggdbjaa
namespace Go.Proofs.Ytpohoannggdbjaa
open Go.RowKit

/-- the cells of a source: none, or from 'a' on -/
def SrcAt (w : World) (a : Option Addr) (c : Nat) (news : List Value) : Prop :=
 (a = none → c = 0 ∧ news = []) ∧ (∀ u ∈ news, u.oneCell' = true) ∧ ∀ ad, a = some ad → ∀ j u, news[j]? = some u → w.cell? (ad.add j) = some u

theorem run_append_src {P : Program} (w : World) (base : Nat) (t ty e : TypeId) (i : TypeInfo) (z : Value) (sz bytes : Nat) (ht : P.underlying t = some (.slice e)) (hi : P.info? e = some i) (hz : i.zero = some z)
 (hsize : i.size = sz) (hby : i.bytes = bytes) (hzs : z.cells.size = sz) (hsz : 0 < sz) (v : Value) (n : Nat) (xs : List Value) (hown : w.ownsRow base e sz v n xs)
 (ao : Option Addr) (m c : Nat) (news : List Value) (hl : news.length = m * sz) (hsrc : SrcAt w ao c news) (h63 : n + m ≤ maxLen) (hbytes : (n + m) * bytes ≤ 140737488355328) (hbase : base ≤ w.heap.size) :
 ∃ v' w', (Builtin.append_ #[t, t] ty #[v, .slice ao m c]).run P w = .ok v' w' ∧ w'.ownsRow base e sz v' (n + m) (xs ++ news) ∧ w.grownBy w' v.ownBlock := by
 obtain ⟨s1, s2, s3⟩ := hsrc
 cases ao with
 | none =>
   obtain ⟨rfl, rfl⟩ := s1 rfl
   obtain rfl : m = 0 := by
    rcases Nat.eq_zero_or_pos m with h | h
    ·exact h
    ·have := Nat.mul_pos h hsz
     simp at hl; omega
   have hrun := run_append_owned_none (P := P) w base t ty e i sz ht hi v n xs hown
   exact ⟨v, w, hrun, by simpa using hown, ⟨rfl, rfl, rfl, Nat.le_refl _, fun _ _ _ => rfl⟩⟩
 | some ad =>
   obtain ⟨v', w', h1, h2, h3, _⟩ := run_append_own (P := P) w base t ty e i z sz bytes ht hi hz hsize hby hzs hsz v n xs hown ad m c news hl (s3 ad rfl) s2 h63 hbytes hbase
   exact ⟨v', w', h1, h2, h3⟩

theorem wp_append_src {P : Program} {w : World} {o : Oper} {a : Act} {K : Act → World → Prop} {Q : Exit → Act → World → Prop} (s x : Operand) (t : TypeId)
 (ho : o.op = .call { callee := .builtin .append, args := #[s, x], argTypes := #[t, t] })
 (base : Nat) (e : TypeId) (i : TypeInfo) (z : Value) (sz bytes : Nat) (ht : P.underlying t = some (.slice e)) (hi : P.info? e = some i) (hz : i.zero = some z)
 (hsize : i.size = sz) (hby : i.bytes = bytes) (hzs : z.cells.size = sz) (hsz : 0 < sz) (v : Value) (n : Nat) (xs : List Value) (hs : a.eval s = v) (hown : w.ownsRow base e sz v n xs)
 (ao : Option Addr) (m c : Nat) (news : List Value) (hx : a.eval x = .slice ao m c) (hl : news.length = m * sz) (hsrc : SrcAt w ao c news) (h63 : n + m ≤ maxLen) (hbytes : (n + m) * bytes ≤ 140737488355328) (hbase : base ≤ w.heap.size)
 (h : ∀ v' w', w'.ownsRow base e sz v' (n + m) (xs ++ news) → w.grownBy w' v.ownBlock → K (a.put o.dst v') w') : o.wp P a w K Q := by
 obtain ⟨v', w', hr, h2, h3⟩ := run_append_src (P := P) w base t o.type e i z sz bytes ht hi hz hsize hby hzs hsz v n xs hown ao m c news hl hsrc h63 hbytes hbase
 unfold Oper.wp execOp
 simp only [ho, resolve, invoke, builtin, Sem.run_bind, Sem.run_pure, Result.andThen_ok, List.map_toArray, List.map_cons, List.map_nil, hs, hx, hr]
 exact h v' w' h2 h3

theorem wpList_append_src {P : Program} {w : World} {ops : Array Oper} {rest : List Oper} {o : Oper} {a : Act} {Q : Exit → Act → World → Prop} (hgd : o.guard = none) (s x : Operand) (t : TypeId)
 (ho : o.op = .call { callee := .builtin .append, args := #[s, x], argTypes := #[t, t] })
 (base : Nat) (e : TypeId) (i : TypeInfo) (z : Value) (sz bytes : Nat) (ht : P.underlying t = some (.slice e)) (hi : P.info? e = some i) (hz : i.zero = some z)
 (hsize : i.size = sz) (hby : i.bytes = bytes) (hzs : z.cells.size = sz) (hsz : 0 < sz) (v : Value) (n : Nat) (xs : List Value) (hs : a.eval s = v) (hown : w.ownsRow base e sz v n xs)
 (ao : Option Addr) (m c : Nat) (news : List Value) (hx : a.eval x = .slice ao m c) (hl : news.length = m * sz) (hsrc : SrcAt w ao c news) (h63 : n + m ≤ maxLen) (hbytes : (n + m) * bytes ≤ 140737488355328) (hbase : base ≤ w.heap.size)
 (h : ∀ v' w', w'.ownsRow base e sz v' (n + m) (xs ++ news) → w.grownBy w' v.ownBlock → wpList P ops Q rest (a.put o.dst v') w') : wpList P ops Q (o :: rest) a w :=
 wpList_plain hgd fun _ hK => wp_append_src s x t ho base e i z sz bytes ht hi hz hsize hby hzs hsz v n xs hs hown ao m c news hx hl hsrc h63 hbytes hbase fun v' w' h2 h3 => hK _ _ (h v' w' h2 h3)

theorem step_append_src {P : Program} {w : World} {ops : Array Oper} {o : Oper} {a : Act} {K : Act → World → Prop} {Q : Exit → Act → World → Prop} {E : Prop} (hgd : o.guard = none) (s x : Operand) (t : TypeId)
 (ho : o.op = .call { callee := .builtin .append, args := #[s, x], argTypes := #[t, t] })
 (base : Nat) (e : TypeId) (i : TypeInfo) (z : Value) (sz bytes : Nat) (ht : P.underlying t = some (.slice e)) (hi : P.info? e = some i) (hz : i.zero = some z)
 (hsize : i.size = sz) (hby : i.bytes = bytes) (hzs : z.cells.size = sz) (hsz : 0 < sz) (v : Value) (n : Nat) (xs : List Value) (hs : a.eval s = v) (hown : w.ownsRow base e sz v n xs)
 (ao : Option Addr) (m c : Nat) (news : List Value) (hx : a.eval x = .slice ao m c) (hl : news.length = m * sz) (hsrc : SrcAt w ao c news) (h63 : n + m ≤ maxLen) (hbytes : (n + m) * bytes ≤ 140737488355328) (hbase : base ≤ w.heap.size)
 (h : ∀ v' w', w'.ownsRow base e sz v' (n + m) (xs ++ news) → w.grownBy w' v.ownBlock → K (a.put o.dst v') w') :
 if Region.wanted o (yielded ops a.tmps) = true then Oper.wp P o a w K Q else E := by
 have hw : Region.wanted o (yielded ops a.tmps) = true := by simp [Region.wanted, hgd]
 rw [if_pos hw]
 exact wp_append_src s x t ho base e i z sz bytes ht hi hz hsize hby hzs hsz v n xs hs hown ao m c news hx hl hsrc h63 hbytes hbase h

/-! ### rows of bytes -/
def byteVals (l : List Nat) : List Value := l.map fun (n : Nat) => Value.int .u8 (n : Int)
theorem byteVals_append (a b : List Nat) : byteVals (a ++ b) = byteVals a ++ byteVals b := List.map_append
theorem byteVals_nil : byteVals [] = [] := rfl
theorem byteVals_length (l : List Nat) : (byteVals l).length = l.length := List.length_map _
theorem byteVals_get (l : List Nat) (i : Nat) (h : i < l.length) : (byteVals l)[i]? = some (.int .u8 ((l.getD i 0 : Nat) : Int)) := by
 simp [byteVals, h, List.getD_eq_getElem?_getD]
theorem SrcAt.bytes {w : World} {a : Option Addr} {c : Nat} {l : List Nat} (h : BytesAt w a l) (hc : a = none → c = 0) : SrcAt w a c (byteVals l) := by
 refine ⟨fun ha => ⟨hc ha, ?_⟩, ?_, ?_⟩
 ·rcases h.2 with rfl | ⟨b, off, rfl, _⟩
  ·rfl
  ·cases ha
 ·intro u hu
  obtain ⟨x, _, rfl⟩ := List.mem_map.1 hu
  rfl
 ·intro ad had j u hu
  rcases h.2 with rfl | ⟨b, off, rfl, hcell⟩
  ·simp [byteVals] at hu
  ·obtain rfl := Option.some.inj had
   have hj : j < l.length := by
    have := (List.getElem?_eq_some_iff.1 hu).1
    simpa [byteVals] using this
   rw [byteVals_get l j hj] at hu
   obtain rfl := Option.some.inj hu
   rw [Addr.add_lit]; exact hcell j hj
/-- a row of the call's own, of bytes, may be read and written -/
theorem own_mine {w : World} {base : Nat} {e : TypeId} {v : Value} {n : Nat} {l : List Nat} (hb : ∀ c ∈ l, c < 256) (hn : l.length = n) (hpos : 0 < n) (h : w.ownsRow base e 1 v n (byteVals l)) :
 ∃ g cap, v = .slice (some ⟨g, 0, none⟩) n cap ∧ base ≤ g ∧ Mine w g l := by
 rcases h.2 with ⟨_, h0⟩ | ⟨g, cap, cur, rfl, hg, hheap, hncap, hcm, hsz, htake⟩
 ·omega
 ·have hcur : ∀ i, i < l.length → cur[i]? = some (.int .u8 ((l.getD i 0 : Nat) : Int)) := by
   intro i hi
   have h1 := byteVals_get l i hi
   rw [← htake, List.getElem?_take, if_pos (by omega), Array.getElem?_toList] at h1
   exact h1
  refine ⟨g, cap, rfl, hg, hb, fun i hi => ?_, fun i hi => ?_⟩
  ·simp only [World.cell?, hheap]
   simpa using hcur i hi
  ·simp [World.frozen?, hheap]
end Go.Proofs.Ytpohoannggdbjaa
namespace Go.Proofs.Ytpohoannggdbjaa
open Go.RowKit

/-- the block of v' is that of v, or a new one -/
def Value.newOr (w : World) (v v' : Value) : Prop := v'.ownBlock = v.ownBlock ∨ ∃ k, v'.ownBlock = some k ∧ w.heap.size ≤ k

theorem run_append_src3 {P : Program} (w : World) (base : Nat) (t ty e : TypeId) (i : TypeInfo) (z : Value) (sz bytes : Nat) (ht : P.underlying t = some (.slice e)) (hi : P.info? e = some i) (hz : i.zero = some z)
 (hsize : i.size = sz) (hby : i.bytes = bytes) (hzs : z.cells.size = sz) (hsz : 0 < sz) (v : Value) (n : Nat) (xs : List Value) (hown : w.ownsRow base e sz v n xs)
 (ao : Option Addr) (m c : Nat) (news : List Value) (hl : news.length = m * sz) (hsrc : SrcAt w ao c news) (h63 : n + m ≤ maxLen) (hbytes : (n + m) * bytes ≤ 140737488355328) (hbase : base ≤ w.heap.size) :
 ∃ v' w', (Builtin.append_ #[t, t] ty #[v, .slice ao m c]).run P w = .ok v' w' ∧ w'.ownsRow base e sz v' (n + m) (xs ++ news) ∧ w.grownBy w' v.ownBlock ∧ Value.newOr w v v' := by
 obtain ⟨v', w', hr, h2, h3⟩ := run_append_src (P := P) w base t ty e i z sz bytes ht hi hz hsize hby hzs hsz v n xs hown ao m c news hl hsrc h63 hbytes hbase
 refine ⟨v', w', hr, h2, h3, ?_⟩
 obtain ⟨s1, s2, s3⟩ := hsrc
 have h63' : n + m ≤ 9223372036854775807 := by simp only [maxLen] at h63; omega
 cases ao with
 | none =>
   obtain ⟨rfl, rfl⟩ := s1 rfl
   obtain rfl : m = 0 := by
    rcases Nat.eq_zero_or_pos m with h | h
    ·exact h
    ·have := Nat.mul_pos h hsz
     simp at hl; omega
   have hrun := run_append_owned_none (P := P) w base t ty e i sz ht hi v n xs hown
   rw [hrun] at hr
   injection hr with h4 h5
   exact .inl (by rw [h4])
 | some ad =>
   subst hsize
   subst hby
   have hown2 := hown
   rcases hown2.2 with ⟨rfl, rfl⟩ | ⟨g, cap, cur, rfl, hbg, hg, hnc, hcm, hcs, htake⟩
   ·by_cases hm : m = 0
    ·subst hm
     have h4 := run_append_own (P := P) (w := w) base t ty e i z i.size i.bytes ht hi hz rfl rfl hzs hsz _ 0 xs hown ad 0 c news hl (s3 ad rfl) s2 h63 hbytes hbase
     obtain ⟨v9, w9, g1, _, _, g4⟩ := h4
     rw [hr] at g1
     injection g1 with g1 g2
     rw [g1, g4.2 ⟨rfl, rfl⟩]
     exact .inl rfl
    ·have h4 := run_append_nil (P := P) (w := w) t ty e i z ht hi hz ad m c news hl (s3 ad rfl) (by omega) (by omega) (by rw [Nat.zero_add] at hbytes; omega)
     rw [h4] at hr
     injection hr with h5 h6
     exact .inr ⟨w.heap.size, by rw [← h5]; rfl, Nat.le_refl _⟩
   ·by_cases hroom : n + m ≤ cap
    ·have hfit : n * i.size + news.length ≤ cur.size := by rw [hl, hcs, ← Nat.add_mul]; exact Nat.mul_le_mul_right _ hroom
     have h4 := run_append_room (P := P) (w := w) t ty e i ht hi g n cap cur hg ad m c news hl (s3 ad rfl) s2 hroom hfit
     rw [h4] at hr
     injection hr with h5 h6
     exact .inl (by rw [← h5]; rfl)
    ·have h4 := run_append_grow (P := P) (w := w) t ty e i z ht hi hz ⟨g, 0, none⟩ n cap xs hown.1 (hown.cells (g := g) rfl) ad m c news hl (s3 ad rfl) (by omega) (by omega) (growslice_fits (by omega) hbytes)
     rw [h4] at hr
     injection hr with h5 h6
     exact .inr ⟨w.heap.size, by rw [← h5]; rfl, Nat.le_refl _⟩

theorem wp_append_src3 {P : Program} {w : World} {o : Oper} {a : Act} {K : Act → World → Prop} {Q : Exit → Act → World → Prop} (s x : Operand) (t : TypeId)
 (ho : o.op = .call { callee := .builtin .append, args := #[s, x], argTypes := #[t, t] })
 (base : Nat) (e : TypeId) (i : TypeInfo) (z : Value) (sz bytes : Nat) (ht : P.underlying t = some (.slice e)) (hi : P.info? e = some i) (hz : i.zero = some z)
 (hsize : i.size = sz) (hby : i.bytes = bytes) (hzs : z.cells.size = sz) (hsz : 0 < sz) (v : Value) (n : Nat) (xs : List Value) (hs : a.eval s = v) (hown : w.ownsRow base e sz v n xs)
 (ao : Option Addr) (m c : Nat) (news : List Value) (hx : a.eval x = .slice ao m c) (hl : news.length = m * sz) (hsrc : SrcAt w ao c news) (h63 : n + m ≤ maxLen) (hbytes : (n + m) * bytes ≤ 140737488355328) (hbase : base ≤ w.heap.size)
 (h : ∀ v' w', w'.ownsRow base e sz v' (n + m) (xs ++ news) → w.grownBy w' v.ownBlock → Value.newOr w v v' → K (a.put o.dst v') w') : o.wp P a w K Q := by
 obtain ⟨v', w', hr, h2, h3, h4⟩ := run_append_src3 (P := P) w base t o.type e i z sz bytes ht hi hz hsize hby hzs hsz v n xs hown ao m c news hl hsrc h63 hbytes hbase
 unfold Oper.wp execOp
 simp only [ho, resolve, invoke, builtin, Sem.run_bind, Sem.run_pure, Result.andThen_ok, List.map_toArray, List.map_cons, List.map_nil, hs, hx, hr]
 exact h v' w' h2 h3 h4

theorem wpList_append_src3 {P : Program} {w : World} {ops : Array Oper} {rest : List Oper} {o : Oper} {a : Act} {Q : Exit → Act → World → Prop} (hgd : o.guard = none) (s x : Operand) (t : TypeId)
 (ho : o.op = .call { callee := .builtin .append, args := #[s, x], argTypes := #[t, t] })
 (base : Nat) (e : TypeId) (i : TypeInfo) (z : Value) (sz bytes : Nat) (ht : P.underlying t = some (.slice e)) (hi : P.info? e = some i) (hz : i.zero = some z)
 (hsize : i.size = sz) (hby : i.bytes = bytes) (hzs : z.cells.size = sz) (hsz : 0 < sz) (v : Value) (n : Nat) (xs : List Value) (hs : a.eval s = v) (hown : w.ownsRow base e sz v n xs)
 (ao : Option Addr) (m c : Nat) (news : List Value) (hx : a.eval x = .slice ao m c) (hl : news.length = m * sz) (hsrc : SrcAt w ao c news) (h63 : n + m ≤ maxLen) (hbytes : (n + m) * bytes ≤ 140737488355328) (hbase : base ≤ w.heap.size)
 (h : ∀ v' w', w'.ownsRow base e sz v' (n + m) (xs ++ news) → w.grownBy w' v.ownBlock → Value.newOr w v v' → wpList P ops Q rest (a.put o.dst v') w') : wpList P ops Q (o :: rest) a w :=
 wpList_plain hgd fun _ hK => wp_append_src3 s x t ho base e i z sz bytes ht hi hz hsize hby hzs hsz v n xs hs hown ao m c news hx hl hsrc h63 hbytes hbase fun v' w' h2 h3 h4 => hK _ _ (h v' w' h2 h3 h4)
end Go.Proofs.Ytpohoannggdbjaa
namespace Go.Proofs.Ytpohoannggdbjaa
open Go.RowKit

/-- a power of two, behind a name -/
def pw (n : Nat) : Nat := 2 ^ n
theorem pw_eq (n : Nat) : pw n = 2 ^ n := rfl
theorem pw_pos (n : Nat) : 0 < pw n := Nat.two_pow_pos n
theorem pw_zero : pw 0 = 1 := rfl
theorem pw_succ (n : Nat) : pw (n + 1) = pw n * 2 := Nat.pow_succ ..
theorem pw_le {n : Nat} (h : n ≤ 63) : pw n ≤ 9223372036854775808 := by
 have := Nat.pow_le_pow_right (n := 2) (by omega) h
 simpa [pw] using this
theorem pw_step (k : Nat) (h : k < 63) : IntKind.u64.wrap ((pw k : Int) * 2) = (pw (k + 1) : Int) := by
 have h1 := pw_le (n := k + 1) (by omega)
 have h2 := pw_succ k
 rw [IntKind.wrap_u64]
 omega
/-- is number i in the set s? -/
def hasBit (s i : Nat) : Bool := decide (s / pw i % 2 = 1)
/-- the set with number i in it -/
def withBit (s i : Nat) : Nat := if hasBit s i then s else s + pw i
theorem has_val (s n : Nat) (hs : s < 18446744073709551616) : ((IntKind.u64.wrap ((s : Int) / (pw n : Int))).tmod 2 == 1) = hasBit s n := by
 have h1 : s / pw n < 18446744073709551616 := Nat.lt_of_le_of_lt (Nat.div_le_self _ _) hs
 unfold hasBit
 rw [show (s : Int) / (pw n : Int) = ((s / pw n : Nat) : Int) from (Int.natCast_ediv s (pw n)).symm, IntKind.wrap_u64]
 generalize s / pw n = y at *
 have e : ((y : Int) % 18446744073709551616).tmod 2 = ((y % 2 : Nat) : Int) := by
  rw [Int.tmod_eq_emod_of_nonneg (by omega)]; omega
 rw [e, Bool.eq_iff_iff]; simp; omega
theorem with_fits (s n : Nat) (hn : n ≤ 63) (hs : s < 18446744073709551616) (h : hasBit s n = false) : s + pw n < 18446744073709551616 := by
 have hb : s / pw n % 2 = 0 := by
  have : ¬ s / pw n % 2 = 1 := of_decide_eq_false h
  omega
 have key : s + pw n < 2 ^ 64 := by
  refine Nat.lt_of_not_le fun hge => ?_
  have e64 : 2 ^ 64 = pw n * 2 ^ (64 - n) := by rw [pw, ← Nat.pow_add]; congr 1; omega
  have h1 : 2 ^ (64 - n) - 1 ≤ s / pw n := by
   rw [Nat.le_div_iff_mul_le (pw_pos n), Nat.sub_mul, Nat.one_mul, Nat.mul_comm, ← e64]; omega
  have h2 : s / pw n < 2 ^ (64 - n) := by
   rw [Nat.div_lt_iff_lt_mul (pw_pos n), Nat.mul_comm, ← e64]; omega
  have h3 : 2 ^ (64 - n) % 2 = 0 := by
   rw [show 64 - n = (63 - n) + 1 by omega, Nat.pow_succ]; omega
  have h4 := Nat.two_pow_pos (64 - n)
  omega
 exact key
theorem with_sum (s n : Nat) (hn : n ≤ 63) (hs : s < 18446744073709551616) (h : hasBit s n = false) : IntKind.u64.wrap ((s : Int) + (pw n : Int)) = ((s + pw n : Nat) : Int) := by
 have := with_fits s n hn hs h
 rw [IntKind.wrap_u64]; omega
theorem withBit_lt (s n : Nat) (hn : n ≤ 63) (hs : s < 18446744073709551616) : withBit s n < 18446744073709551616 := by
 unfold withBit
 cases h : hasBit s n
 ·exact with_fits s n hn hs h
 ·exact hs
/-- the first n numbers -/
theorem withBit_first (k : Nat) : withBit (pw k - 1) k = pw (k + 1) - 1 := by
 have h0 := pw_pos k
 have : hasBit (pw k - 1) k = false := by
  unfold hasBit; rw [Nat.div_eq_of_lt (by omega)]; rfl
 rw [withBit, this, pw_succ]; simp only [Bool.false_eq_true, if_false]; omega

end Go.Proofs.Ytpohoannggdbjaa
namespace Go.Proofs.Ytpohoannggdbjaa
open Go.RowKit

theorem hasBit_test (s i : Nat) : hasBit s i = s.testBit i := by
 unfold hasBit pw; rw [Nat.testBit_eq_decide_div_mod_eq]
theorem withBit_or (s n : Nat) : withBit s n = s ||| pw n := by
 unfold withBit
 cases h : hasBit s n with
 | true =>
   rw [hasBit_test] at h
   simp only [if_true]
   apply Nat.eq_of_testBit_eq
   intro i
   rw [Nat.testBit_or, pw, Nat.testBit_two_pow]
   by_cases hi : n = i
   ·subst hi; rw [h]; rfl
   ·simp [hi]
 | false =>
   simp only [Bool.false_eq_true, if_false]
   have h0 : s / pw n % 2 = 0 := by
    have : ¬ s / pw n % 2 = 1 := of_decide_eq_false h
    omega
   have e1 : s = pw (n + 1) * (s / pw (n + 1)) + s % pw (n + 1) := (Nat.div_add_mod s _).symm
   have hr : s % pw (n + 1) < pw n := by
    have e2 : s % pw (n + 1) = s % pw n + pw n * (s / pw n % 2) := by rw [pw_succ]; exact Nat.mod_mul
    rw [e2, h0, Nat.mul_zero, Nat.add_zero]; exact Nat.mod_lt _ (pw_pos n)
   generalize s / pw (n + 1) = q at *
   generalize s % pw (n + 1) = r at *
   have a1 : pw (n + 1) * q + r = pw (n + 1) * q ||| r := Nat.two_pow_add_eq_or_of_lt (i := n + 1) (by show r < pw (n + 1); rw [pw_succ]; omega) q
   have a2 : pw n * 1 + r = pw n * 1 ||| r := Nat.two_pow_add_eq_or_of_lt (i := n) hr 1
   have a3 : pw (n + 1) * q + (pw n * 1 + r) = pw (n + 1) * q ||| (pw n * 1 + r) := Nat.two_pow_add_eq_or_of_lt (i := n + 1) (by show _ < pw (n + 1); rw [pw_succ]; omega) q
   rw [Nat.mul_one] at a2 a3
   rw [e1, a1, Nat.or_assoc, Nat.or_comm r, ← a2, ← a3]
   rw [← a1]; omega
/-- the set without number i -/
def woBit (s i : Nat) : Nat := if hasBit s i then s - pw i else s
theorem all_test (n i : Nat) (hn : n ≤ 63) : (18446744073709551615 - pw n).testBit i = (decide (i < 64) && !decide (n = i)) := by
 have h : pw n < 2 ^ 64 := by have := pw_le hn; omega
 have := Nat.testBit_two_pow_sub_succ h i
 rw [show 18446744073709551615 - pw n = 2 ^ 64 - (pw n + 1) by omega, this, pw, Nat.testBit_two_pow]
theorem lt_test {s i : Nat} (hs : s < 18446744073709551616) (h : s.testBit i = true) : i < 64 := by
 refine Nat.lt_of_not_le fun hi => ?_
 have h1 : s < 2 ^ i := Nat.lt_of_lt_of_le hs (Nat.pow_le_pow_right (n := 2) (by omega) hi)
 rw [Nat.testBit_lt_two_pow h1] at h
 exact absurd h (by decide)
theorem woBit_and (s n : Nat) (hn : n ≤ 63) (hs : s < 18446744073709551616) : s &&& (18446744073709551615 - pw n) = woBit s n := by
 have ht : ∀ i, (s &&& (18446744073709551615 - pw n)).testBit i = (s.testBit i && !decide (n = i)) := by
  intro i
  rw [Nat.testBit_and, all_test n i hn]
  cases hb : s.testBit i with
  | false => rfl
  | true => simp [lt_test hs hb]
 unfold woBit
 cases h : hasBit s n with
 | false =>
   simp only [Bool.false_eq_true, if_false]
   apply Nat.eq_of_testBit_eq
   intro i
   rw [ht]
   by_cases hi : n = i
   ·subst hi; rw [← hasBit_test, h]; rfl
   ·simp [hi]
 | true =>
   simp only [if_true]
   have h2 : hasBit (s &&& (18446744073709551615 - pw n)) n = false := by rw [hasBit_test, ht]; simp
   have h3 : withBit (s &&& (18446744073709551615 - pw n)) n = s := by
    rw [withBit_or]
    apply Nat.eq_of_testBit_eq
    intro i
    rw [Nat.testBit_or, ht, pw, Nat.testBit_two_pow]
    by_cases hi : n = i
    ·subst hi; rw [← hasBit_test, h]; simp
    ·simp [hi]
   unfold withBit at h3
   rw [h2] at h3
   simp only [Bool.false_eq_true, if_false] at h3
   omega
theorem woBit_le (s n : Nat) : woBit s n ≤ s := by unfold woBit; split <;> omega
/-- the set with a number, of any number -/
def withI (s : Nat) (n : Int) : Nat := if 0 ≤ n ∧ n ≤ 63 then withBit s n.toNat else s
theorem withI_lt {s : Nat} (n : Int) (hs : s < 18446744073709551616) : withI s n < 18446744073709551616 := by
 unfold withI; split
 ·exact withBit_lt _ _ (by omega) hs
 ·exact hs
def ofN (l : List Int) : Nat := l.foldl withI 0
theorem ofN_snoc (l : List Int) (x : Int) : ofN (l ++ [x]) = withI (ofN l) x := by simp [ofN]
theorem foldl_lt : ∀ (l : List Int) (s : Nat), s < 18446744073709551616 → l.foldl withI s < 18446744073709551616
 | [], _, h => h
 | x :: l, _, h => foldl_lt l _ (withI_lt x h)
theorem ofN_lt (l : List Int) : ofN l < 18446744073709551616 := foldl_lt l 0 (by decide)
/-- the numbers below k of a set -/
def mems (x k : Nat) : List Nat := (List.range k).filter (hasBit x)
theorem mems_zero (x : Nat) : mems x 0 = [] := rfl
theorem mems_succ (x k : Nat) : mems x (k + 1) = mems x k ++ (if hasBit x k then [k] else []) := by
 unfold mems
 rw [List.range_succ, List.filter_append]
 cases h : hasBit x k <;> simp [h]
theorem mems_yes {x k : Nat} (h : hasBit x k = true) : mems x (k + 1) = mems x k ++ [k] := by rw [mems_succ, h]; rfl
theorem mems_no {x k : Nat} (h : hasBit x k = false) : mems x (k + 1) = mems x k := by rw [mems_succ, h]; exact List.append_nil _
theorem mems_len (x k : Nat) : (mems x k).length ≤ k := by
 have := List.length_filter_le (hasBit x) (List.range k)
 simpa [mems] using this
theorem mems_mem {x k i : Nat} : i ∈ mems x k ↔ i < k ∧ hasBit x i = true := by simp [mems]
/-- what is in any of some sets -/
def anyN (l : List Nat) (ms : List Nat) : Nat := ms.foldl (fun o i => o ||| l.getD i 0) 0
theorem anyN_snoc (l : List Nat) (ms : List Nat) (i : Nat) : anyN l (ms ++ [i]) = anyN l ms ||| l.getD i 0 := by simp [anyN]
theorem or_lt {a b : Nat} (h : a < 18446744073709551616) (k : b < 18446744073709551616) : a ||| b < 18446744073709551616 := Nat.or_lt_two_pow (n := 64) h k
theorem getD_u64 {l : List Nat} (h : ∀ c ∈ l, c < 18446744073709551616) (i : Nat) : l.getD i 0 < 18446744073709551616 := by
 rw [List.getD_eq_getElem?_getD]
 cases hi : l[i]? with
 | none => decide
 | some c => exact h c (List.mem_of_getElem? hi)
theorem anyN_lt {l : List Nat} (hl : ∀ c ∈ l, c < 18446744073709551616) (ms : List Nat) : anyN l ms < 18446744073709551616 := by
 unfold anyN
 have : ∀ (ms : List Nat) (s : Nat), s < 18446744073709551616 → ms.foldl (fun o i => o ||| l.getD i 0) s < 18446744073709551616 := by
  intro ms
  induction ms with
  | nil => exact fun _ h => h
  | cons i ms ih => exact fun s h => ih _ (or_lt h (getD_u64 hl i))
 exact this ms 0 (by decide)
theorem anyN_test (l : List Nat) (ms : List Nat) (n : Nat) : (anyN l ms).testBit n = ms.any (fun i => (l.getD i 0).testBit n) := by
 unfold anyN
 have : ∀ (ms : List Nat) (s : Nat), (ms.foldl (fun o i => o ||| l.getD i 0) s).testBit n = (s.testBit n || ms.any (fun i => (l.getD i 0).testBit n)) := by
  intro ms
  induction ms with
  | nil => intro s; simp
  | cons i ms ih => intro s; rw [List.foldl_cons, ih, Nat.testBit_or, List.any_cons, Bool.or_assoc]
 rw [this, Nat.zero_testBit, Bool.false_or]
/-- is number n in one of the first k sets whose numbers are in x? -/
def anyAt (l : List Nat) (x k n : Nat) : Bool := (List.range k).any (fun i => hasBit x i && hasBit (l.getD i 0) n)
theorem anyAt_zero (l : List Nat) (x n : Nat) : anyAt l x 0 n = false := rfl
theorem anyAt_succ (l : List Nat) (x k n : Nat) : anyAt l x (k + 1) n = (anyAt l x k n || (hasBit x k && hasBit (l.getD k 0) n)) := by
 simp [anyAt, List.range_succ]
/-- numbers below m, each if it is in one of the first k sets -/
def anyR (l : List Nat) (x k : Nat) : Nat → Nat
 | 0 => 0
 | m + 1 => if anyAt l x k m then withBit (anyR l x k m) m else anyR l x k m
theorem anyR_test (l : List Nat) (x k m n : Nat) : (anyR l x k m).testBit n = (decide (n < m) && anyAt l x k n) := by
 induction m with
 | zero => simp [anyR]
 | succ m ih =>
   unfold anyR
   have e : (if anyAt l x k m = true then withBit (anyR l x k m) m else anyR l x k m).testBit n = ((anyR l x k m).testBit n || (decide (m = n) && anyAt l x k m)) := by
    cases h : anyAt l x k m with
    | false => simp
    | true => simp only [if_true]; rw [withBit_or, Nat.testBit_or, pw, Nat.testBit_two_pow, Bool.and_true]
   rw [e, ih]
   by_cases h : m = n
   ·subst h; simp
   ·by_cases h2 : n < m
    ·simp [h2, h, Nat.lt_succ_of_lt h2]
    ·have : ¬ n < m + 1 := by omega
     simp [h2, h, this]
theorem anyR_lt (l : List Nat) (x k m : Nat) (hm : m ≤ 64) : anyR l x k m < 18446744073709551616 := by
 induction m with
 | zero => exact (by decide : 0 < 18446744073709551616)
 | succ m ih =>
   have := ih (by omega)
   unfold anyR
   split
   ·exact withBit_lt _ _ (by omega) this
   ·exact this
theorem low_test (x T i : Nat) : hasBit (x &&& (pw T - 1)) i = (hasBit x i && decide (i < T)) := by
 rw [hasBit_test, hasBit_test, Nat.testBit_and, pw, Nat.testBit_two_pow_sub_one]
/-- both answers of Any are the same -/
theorem any_same (l : List Nat) (x T : Nat) (hl : ∀ c ∈ l, c < 18446744073709551616) (hT : T ≤ 64) : anyN l (mems (x &&& (pw T - 1)) 64) = anyR l x T 64 := by
 apply Nat.eq_of_testBit_eq
 intro n
 rw [anyN_test, anyR_test]
 have key : (mems (x &&& (pw T - 1)) 64).any (fun i => (l.getD i 0).testBit n) = anyAt l x T n := by
  rw [Bool.eq_iff_iff]
  unfold anyAt
  rw [List.any_eq_true, List.any_eq_true]
  constructor
  ·rintro ⟨i, hi, h⟩
   obtain ⟨h1, h2⟩ := mems_mem.1 hi
   rw [low_test] at h2
   simp only [Bool.and_eq_true, decide_eq_true_eq] at h2
   exact ⟨i, List.mem_range.2 h2.2, by rw [h2.1, hasBit_test, h]; rfl⟩
  ·rintro ⟨i, hi, h⟩
   have hi := List.mem_range.1 hi
   simp only [Bool.and_eq_true] at h
   refine ⟨i, mems_mem.2 ⟨by omega, by rw [low_test, h.1]; simp [hi]⟩, ?_⟩
   rw [← hasBit_test]; exact h.2
 rw [key]
 cases h : anyAt l x T n with
 | false => simp
 | true =>
   have : n < 64 := by
    unfold anyAt at h
    obtain ⟨i, _, hi⟩ := List.any_eq_true.1 h
    simp only [Bool.and_eq_true] at hi
    rw [hasBit_test, hasBit_test] at hi
    exact lt_test (getD_u64 hl i) hi.2
   simp [this]
end Go.Proofs.Ytpohoannggdbjaa
namespace Go.Proofs.Ytpohoannggdbjaa
open Go.RowKit
attribute [local irreducible] pw hasBit withBit woBit mems ofN withI anyN anyAt anyR
theorem and_one (s n : Nat) (hs : s < 18446744073709551616) : bits .and .u64 ((s / pw n : Nat) : Int) 1 = ((s / pw n % 2 : Nat) : Int) := by
 have h1 : s / pw n < 18446744073709551616 := Nat.lt_of_le_of_lt (Nat.div_le_self _ _) hs
 rw [show (1 : Int) = ((1 : Nat) : Int) from rfl, u64_and_nat _ 1 h1 (by omega), Nat.and_one_is_mod]
theorem shr_pw (s n : Nat) : (s : Int) / 2 ^ n = ((s / pw n : Nat) : Int) := by
 rw [Int.natCast_ediv, pw, Int.natCast_pow]; rfl
theorem has_form (s n : Nat) (hs : s < 18446744073709551616) : (bits .and .u64 ((s : Int) / 2 ^ n) 1 == 1) = hasBit s n := by
 rw [shr_pw, and_one s n hs]
 unfold hasBit
 rw [Bool.eq_iff_iff]; simp; omega
theorem one_form (n : Nat) (hn : n ≤ 63) : IntKind.u64.wrap ((2 : Int) ^ n) = (pw n : Int) := by
 have h := pw_le hn
 rw [show ((2 : Int) ^ n) = (pw n : Int) by rw [pw, Int.natCast_pow]; rfl, IntKind.wrap_u64]; omega
theorem ret_u64 {a b : Int} (h : a = b) : Ending.returned (.int .u64 a) = .returned (.int .u64 b) := by rw [h]
theorem pw_lt64 {n : Nat} (hn : n ≤ 63) : pw n < 18446744073709551616 := by have := pw_le hn; omega
theorem or_zero64 (s : Nat) (hs : s < 18446744073709551616) : bits .or .u64 (s : Int) 0 = (s : Int) := by
 rw [show (0 : Int) = ((0 : Nat) : Int) from rfl, u64_or_nat s 0 hs (by omega), Nat.or_zero]
theorem andNot_zero64 (s : Nat) (hs : s < 18446744073709551616) : bits .andNot .u64 (s : Int) 0 = (s : Int) := by
 rw [show (0 : Int) = ((0 : Nat) : Int) from rfl, u64_andNot_nat s 0 hs (by omega)]
 have : s &&& (18446744073709551615 - 0) = s := by
  rw [show 18446744073709551615 - 0 = 2 ^ 64 - 1 by omega, Nat.and_two_pow_sub_one_eq_mod]; omega
 rw [this]
theorem or_form (s n : Nat) (hn : n ≤ 63) (hs : s < 18446744073709551616) : bits .or .u64 (s : Int) (pw n : Int) = ((withBit s n : Nat) : Int) := by
 rw [u64_or_nat s (pw n) hs (pw_lt64 hn), withBit_or]
theorem wo_form (s n : Nat) (hn : n ≤ 63) (hs : s < 18446744073709551616) : bits .andNot .u64 (s : Int) (pw n : Int) = ((woBit s n : Nat) : Int) := by
 rw [u64_andNot_nat s (pw n) hs (pw_lt64 hn), woBit_and s n hn hs]
theorem wo_sub (s n : Nat) (hs : s < 18446744073709551616) (hb : hasBit s n = true) : IntKind.u64.wrap ((s : Int) - (pw n : Int)) = ((woBit s n : Nat) : Int) := by
 have h1 : pw n ≤ s := by
  unfold hasBit at hb
  have h2 : s / pw n % 2 = 1 := of_decide_eq_true hb
  refine Nat.le_of_not_lt fun h => ?_
  rw [Nat.div_eq_of_lt h] at h2
  exact absurd h2 (by decide)
 rw [woBit, hb, if_pos rfl, IntKind.wrap_u64]; omega
theorem first_form (n : Nat) (hn : n ≤ 63) : IntKind.u64.wrap ((pw n : Int) - 1) = ((pw n - 1 : Nat) : Int) := by
 have := pw_lt64 hn
 have := pw_pos n
 rw [IntKind.wrap_u64]; omega
end Go.Proofs.Ytpohoannggdbjaa
namespace Go.Proofs.Ytpohoannggdbjaa
open Go.RowKit
section
variable {P : Program} {ops : Array Oper} {Q : Exit → Act → World → Prop}

/-- the slot that operation i fills -/
def slotOf (ops : Array Oper) (i : Nat) : Option Tmp := (ops[i]?).bind (·.dst)
/-- does operation i wait for operation j? -/
def depB (ops : Array Oper) (i j : Nat) : Bool := match ops[i]? with
 | some o => o.after.any fun e => Region.binds .any e && e.on == j
 | none => false
/-- what must have come up ahead of all of these -/
def backB (ops : Array Oper) : Nat → List Nat → List Nat
 | 0, l => l
 | k + 1, l => backB ops k (l ++ (List.range ops.size).filter (fun j => l.any (fun i => depB ops i j)))
/-- each operation but the last ones T has a slot of its own, no guard, waits for earlier ones alone, for none of T -/
def relB (ops : Array Oper) (T : List Nat) : Bool :=
 (List.range ops.size).all fun i => T.contains i || ((slotOf ops i).isSome && ((ops[i]?).map (fun o => o.guard.isNone && o.after.all (fun e => !Region.binds .any e || decide (e.on < i)))).getD false &&
   (List.range ops.size).all (fun j => (!depB ops i j || (decide (j < i) && !T.contains j)) && (j == i || T.contains j || slotOf ops j != slotOf ops i)))
/-- the last ones wait for all others -/
def lastB (ops : Array Oper) (T : List Nat) (k : Nat) : Bool :=
 T.all fun t => (List.range ops.size).all (fun i => T.contains i || (backB ops k ((List.range ops.size).filter (fun j => depB ops t j))).contains i)
/-- no operation but the last ones fills slot s -/
def offB (ops : Array Oper) (T : List Nat) (s : Tmp) : Bool := (List.range ops.size).all (fun j => T.contains j || slotOf ops j != some s)
/-- what an operation may yield: a value of which something holds, and new memory at most -/
def relUpon (P : Program) (w : World) (F : Value → World → Prop) : Result Next → Prop
 | .ok (.value v) w' => Below w.heap.size w w' ∧ F v w'
 | .ok (.enter f args) w' => Calls P f args w' (fun e w'' => ∃ v, e = .returned v ∧ Below w.heap.size w w'' ∧ F v w'')
 | _ => False
theorem relUpon_value {w w' : World} {F : Value → World → Prop} {v : Value} : relUpon P w F (.ok (.value v) w') = (Below w.heap.size w w' ∧ F v w') := rfl
theorem relUpon_enter {w w' : World} {F : Value → World → Prop} {f : FuncId} {args : Array Value} : relUpon P w F (.ok (.enter f args) w') = Calls P f args w' (fun e w'' => ∃ v, e = .returned v ∧ Below w.heap.size w w'' ∧ F v w'') := rfl
/-- what is owed for operation i -/
def relOb (P : Program) (ops : Array Oper) (T : List Nat) (a0 : Act) (w0 : World) (F : Nat → Value → World → Prop) (i : Nat) : Prop :=
 ∀ o, ops[i]? = some o → ∀ (r : Operand → Value) (w : World), (∀ v, r (.const v) = v) → (∀ f, r (.func f) = .func (.func f) #[] #[]) → (∀ g, r (.global g) = .pointer (some ⟨g, 0, none⟩)) →
  (∀ s, offB ops T s = true → r (.tmp s) = a0.eval (.tmp s)) → Below w0.heap.size w0 w →
  (∀ j s, slotOf ops j = some s → depB ops i j = true → F j (r (.tmp s)) w) → relUpon P w (F i) ((execOp r o).run P w)
/-- what stands when some operations have come up -/
structure RelAt (ops : Array Oper) (T : List Nat) (a0 : Act) (w0 : World) (F : Nat → Value → World → Prop) (listed : Array Bool) (a : Act) (w : World) : Prop where
 size : listed.size = ops.size
 closed : ∀ i j, listed.getD i false = true → depB ops i j = true → listed.getD j false = true
 none : ∀ i, listed.getD i false = true → T.contains i = false
 defers : a.defers = a0.defers
 tmps : a.tmps.size = a0.tmps.size
 frame : ∀ s, offB ops T s = true → a.eval (.tmp s) = a0.eval (.tmp s)
 below : Below w0.heap.size w0 w
 facts : ∀ i s, slotOf ops i = some s → listed.getD i false = true → F i (a.eval (.tmp s)) w
theorem backB_in {listed : Array Bool} (hc : ∀ i j, listed.getD i false = true → depB ops i j = true → listed.getD j false = true) : ∀ (k : Nat) (l : List Nat), (∀ i ∈ l, listed.getD i false = true) → ∀ i ∈ backB ops k l, listed.getD i false = true
 | 0, _, h => h
 | k + 1, l, h => backB_in hc k _ (fun i hi => by
    rcases List.mem_append.1 hi with hi | hi
    ·exact h i hi
    ·obtain ⟨m, hm, hd⟩ := List.any_eq_true.1 (List.mem_filter.1 hi).2
     exact hc m i (h m hm) hd)
theorem depB_iff {i j : Nat} {o : Oper} (ho : ops[i]? = some o) : depB ops i j = true ↔ ∃ e ∈ o.after, Region.binds .any e = true ∧ e.on = j := by
 unfold depB
 rw [ho]
 simp only [Array.any_eq_true', Bool.and_eq_true, beq_iff_eq]
theorem eval_put {a : Act} {d s : Nat} {v : Value} (h : d ≠ s) : (a.put (some d) v).eval (.tmp s) = a.eval (.tmp s) := by
 show (a.tmps.setIfInBounds d v).getD s undef = a.tmps.getD s undef
 rw [Array.getD_eq_getD_getElem?, Array.getD_eq_getD_getElem?, Array.getElem?_setIfInBounds_ne h]
theorem eval_put_self {a : Act} {d : Nat} {v : Value} (h : d < a.tmps.size) : (a.put (some d) v).eval (.tmp d) = v := by
 show (a.tmps.setIfInBounds d v).getD d undef = v
 rw [Array.getD_eq_getD_getElem?, Array.getElem?_setIfInBounds_self_of_lt h]
 rfl
theorem getD_put {l : Array Bool} {j k : Nat} (h : (l.setIfInBounds j true).getD k false = true) : k = j ∨ l.getD k false = true := by
 by_cases hjk : j = k
 ·exact .inl hjk.symm
 ·right
  rw [Array.getD_eq_getD_getElem?, Array.getElem?_setIfInBounds_ne hjk, ← Array.getD_eq_getD_getElem?] at h
  exact h
theorem put_getD {l : Array Bool} {j k : Nat} (h : l.getD k false = true) : (l.setIfInBounds j true).getD k false = true := by
 by_cases hjk : j = k
 ·subst hjk
  have hlt : j < l.size := by
   apply Nat.lt_of_not_le
   intro hge
   simp [Array.getElem?_eq_none hge] at h
  simp [hlt]
 ·rw [Array.getD_eq_getD_getElem?, Array.getElem?_setIfInBounds_ne hjk, ← Array.getD_eq_getD_getElem?]
  exact h
variable {T : List Nat} {a0 : Act} {w0 : World} {F : Nat → Value → World → Prop}
theorem RelAt.step (hB : relB ops T = true) (hsz : (List.range ops.size).all (fun i => T.contains i || ((slotOf ops i).map (fun d => decide (d < a0.tmps.size))).getD false) = true)
 (hF : ∀ i v w w', F i v w → Below w.heap.size w w' → F i v w') {listed : Array Bool} {a : Act} {w w' : World} (h : RelAt ops T a0 w0 F listed a w) {i d : Nat} {v : Value}
 (hi : i < ops.size) (hT : T.contains i = false) (hd : slotOf ops i = some d) (hdep : ∀ j, depB ops i j = true → listed.getD j false = true) (hb : Below w.heap.size w w') (hv : F i v w') :
 RelAt ops T a0 w0 F (listed.setIfInBounds i true) (a.put (some d) v) w' := by
 have hu := List.all_eq_true.1 hB i (List.mem_range.2 hi)
 rw [hT, Bool.false_or, Bool.and_eq_true] at hu
 have hu2 := hu.2
 refine ⟨by rw [Array.size_setIfInBounds]; exact h.size, fun m j hm hj => ?_, fun m hm => ?_, h.defers, ?_, fun s hs => ?_, below_on h.below hb, fun m s hs hm => ?_⟩
 ·rcases getD_put hm with rfl | hm
  ·exact put_getD (hdep j hj)
  ·exact put_getD (h.closed m j hm hj)
 ·rcases getD_put hm with rfl | hm
  ·exact hT
  ·exact h.none m hm
 ·show (a.tmps.setIfInBounds d v).size = _
  rw [Array.size_setIfInBounds]
  exact h.tmps
 ·have := List.all_eq_true.1 hs i (List.mem_range.2 hi)
  rw [hT, Bool.false_or, hd] at this
  have hne : d ≠ s := fun e => by subst e; simp at this
  rw [eval_put hne]
  exact h.frame s hs
 ·by_cases hmi : m = i
  ·subst hmi
   rw [hd] at hs
   injection hs with hs
   subst hs
   have := List.all_eq_true.1 hsz m (List.mem_range.2 hi)
   rw [hT, Bool.false_or, hd] at this
   have hlt : d < a0.tmps.size := by simpa using this
   rw [eval_put_self (by rw [h.tmps]; exact hlt)]
   exact hv
  ·have hm' : listed.getD m false = true := (getD_put hm).resolve_left hmi
   have hmlt : m < ops.size := by
    apply Nat.lt_of_not_le
    intro hge
    rw [slotOf, Array.getElem?_eq_none hge] at hs
    cases hs
   have := List.all_eq_true.1 hu2 m (List.mem_range.2 hmlt)
   rw [Bool.and_eq_true, h.none m hm', hs, hd] at this
   have hne : d ≠ s := fun e => by subst e; simp at this; exact hmi this.2
   rw [eval_put hne]
   exact hF _ _ _ _ (h.facts m s hs hm') hb
theorem rel_end (LI : Array Bool) (hL1 : LI.size = ops.size) (hL2 : ((List.range ops.size).all fun i => LI.getD i false == !T.contains i) = true) {n' : Nat} (hL3 : LI.toList.count true + n' = ops.size)
 (hend : ∀ a w, RelAt ops T a0 w0 F LI a w → wpAny P .any ops Q n' LI a w) (fuel : Nat) (listed : Array Bool) (a : Act) (w : World) (hc : listed.toList.count true + fuel = ops.size) (h : RelAt ops T a0 w0 F listed a w)
 (hall : ∀ i, i < ops.size → T.contains i = false → listed.getD i false = true) : wpAny P .any ops Q fuel listed a w := by
 have he : listed = LI := by
  refine Array.ext (h.size.trans hL1.symm) fun i h1 h2 => ?_
  have hi : i < ops.size := h.size ▸ h1
  have h3 := List.all_eq_true.1 hL2 i (List.mem_range.2 hi)
  rw [Array.getD_eq_getD_getElem?, Array.getElem?_eq_getElem h2] at h3
  have h4 : listed.getD i false = !T.contains i := by
   cases hT : T.contains i with
   | false => exact hall i hi hT
   | true =>
     cases hg : listed.getD i false with
     | false => rfl
     | true => rw [h.none i hg] at hT; cases hT
  rw [Array.getD_eq_getD_getElem?, Array.getElem?_eq_getElem h1] at h4
  have h5 : LI[i] = !T.contains i := by simpa using h3
  rw [h5]
  exact h4
 subst he
 have : fuel = n' := by omega
 subst this
 exact hend a w h
theorem rel_any (hB : relB ops T = true) {k : Nat} (hK : lastB ops T k = true) (hsz : (List.range ops.size).all (fun i => T.contains i || ((slotOf ops i).map (fun d => decide (d < a0.tmps.size))).getD false) = true)
 (hF : ∀ i v w w', F i v w → Below w.heap.size w w' → F i v w') (H : ∀ i, i < ops.size → T.contains i = false → relOb P ops T a0 w0 F i)
 (LI : Array Bool) (hL1 : LI.size = ops.size) (hL2 : ((List.range ops.size).all fun i => LI.getD i false == !T.contains i) = true) {n' : Nat} (hL3 : LI.toList.count true + n' = ops.size)
 (hend : ∀ a w, RelAt ops T a0 w0 F LI a w → wpAny P .any ops Q n' LI a w) :
 ∀ (fuel : Nat) (listed : Array Bool) (a : Act) (w : World), listed.toList.count true + fuel = ops.size → RelAt ops T a0 w0 F listed a w → wpAny P .any ops Q fuel listed a w := by
 intro fuel
 induction fuel with
 | zero =>
   intro listed a w hc h
   exact rel_end LI hL1 hL2 hL3 hend 0 listed a w hc h (fun i hi _ => by
    have h1 : listed.toList.count true = listed.toList.length := by rw [Array.length_toList, h.size]; omega
    have h2 := List.count_eq_length.1 h1
    have hlt : i < listed.size := by rw [h.size]; exact hi
    have h3 := h2 listed[i] (by simp)
    rw [Array.getD_eq_getD_getElem?, Array.getElem?_eq_getElem hlt, ← h3]
    rfl)
 | succ fuel ih =>
   intro listed a w hc h
   by_cases hall : ∀ i, i < ops.size → T.contains i = false → listed.getD i false = true
   ·exact rel_end LI hL1 hL2 hL3 hend (fuel + 1) listed a w hc h hall
   refine ⟨fun hr => ?_, fun i hi => ?_⟩
   ·exfalso
    apply hall
    intro i
    induction i using Nat.strongRecOn with
    | ind i ihi =>
      intro hi hT
      cases hg : listed.getD i false with
      | true => rfl
      | false =>
        have hin : i ∈ Region.ready .any ops listed := by
         refine mem_ready.2 ⟨?_, ops[i], Array.getElem?_eq_getElem hi, fun e he hb => ?_⟩
         ·have hlt : i < listed.size := by rw [h.size]; exact hi
          rw [Array.getD_eq_getD_getElem?, Array.getElem?_eq_getElem hlt] at hg ⊢
          exact hg
         ·have hd : depB ops i e.on = true := (depB_iff (Array.getElem?_eq_getElem hi)).2 ⟨e, he, hb, rfl⟩
          have hu := List.all_eq_true.1 hB i (List.mem_range.2 hi)
          rw [hT, Bool.false_or, Bool.and_eq_true] at hu
          by_cases hlt : e.on < ops.size
          ·have := List.all_eq_true.1 hu.2 e.on (List.mem_range.2 hlt)
           rw [hd] at this
           simp at this
           exact ihi e.on this.1.1 hlt (by simpa using this.1.2)
          ·have hx : e.on < i := by
            have h5 := hu.1
            rw [Bool.and_eq_true, Array.getElem?_eq_getElem hi] at h5
            have h6 := h5.2
            simp only [Option.map_some, Option.getD_some, Bool.and_eq_true] at h6
            have h7 := (Array.all_eq_true_iff_forall_mem.1 h6.2) e he
            rw [hb] at h7
            simpa using h7
           omega
        rw [hr] at hin
        cases hin
   ·obtain ⟨hun, o, ho, hdeps⟩ := mem_ready.1 hi
    have hlt : i < ops.size := (Array.getElem?_eq_some_iff.1 ho).1
    have hdep : ∀ j, depB ops i j = true → listed.getD j false = true := fun j hj => by
     obtain ⟨e, he, hb, rfl⟩ := (depB_iff ho).1 hj
     exact hdeps e he hb
    cases hT : T.contains i with
    | true =>
      exfalso
      apply hall
      intro m hm hmT
      have h1 := List.all_eq_true.1 (List.all_eq_true.1 hK i (List.contains_iff_mem.1 hT)) m (List.mem_range.2 hm)
      rw [hmT, Bool.false_or] at h1
      exact backB_in h.closed k _ (fun j hj => hdep j (List.mem_filter.1 hj).2) m (List.contains_iff_mem.1 h1)
    | false =>
      have hu := List.all_eq_true.1 hB i (List.mem_range.2 hlt)
      rw [hT, Bool.false_or, Bool.and_eq_true, Bool.and_eq_true, ho] at hu
      have hgu : o.guard = none := by have h8 := hu.1.2; simp only [Option.map_some, Option.getD_some, Bool.and_eq_true] at h8; simpa using h8.1
      obtain ⟨d, hd⟩ := Option.isSome_iff_exists.1 hu.1.1
      have hod : o.dst = some d := by unfold slotOf at hd; rw [ho] at hd; exact hd
      have hob := H i hlt hT o ho a.eval w (fun _ => rfl) (fun _ => rfl) (fun _ => rfl) h.frame h.below (fun j s hs hj => h.facts j s hs (hdep j hj))
      have hcnt : (listed.setIfInBounds i true).toList.count true + fuel = ops.size := by
       rw [Array.toList_setIfInBounds, List.count_set (by rw [Array.length_toList, h.size]; exact hlt)]
       have hx : listed.toList[i]'(by rw [Array.length_toList, h.size]; exact hlt) = false := by
        have hl : i < listed.size := by rw [h.size]; exact hlt
        rw [Array.getD_eq_getD_getElem?, Array.getElem?_eq_getElem hl] at hun
        simpa using hun
       rw [hx, if_neg (by decide), if_pos (by decide)]
       omega
      unfold wpOp
      rw [ho]
      dsimp only
      rw [if_pos (by simp [Region.wanted, hgu])]
      left
      unfold Oper.wp
      have hnext : ∀ v w', Below w.heap.size w w' → F i v w' → wpAny P .any ops Q fuel (listed.setIfInBounds i true) (a.put o.dst v) w' := fun v w' hb hv => by
       rw [hod]
       exact ih _ _ _ hcnt (h.step hB hsz hF hlt hT hd hdep hb hv)
      generalize (execOp a.eval o).run P w = res at *
      cases res with
      | ok n w' =>
        cases n <;> simp only [relUpon] at hob <;> simp only [Oper.upon]
        case value v => exact hnext v w' hob.1 hob.2
        case enter f args =>
         refine Calls.mono hob fun e w'' he => ?_
         obtain ⟨v, rfl, hb, hv⟩ := he
         exact hnext v w'' hb hv
      | halt x w' => simp only [relUpon] at hob
/-- the last ones wait for all others but u -/
def lastB1 (ops : Array Oper) (T : List Nat) (k u : Nat) : Bool :=
 T.all fun t => (List.range ops.size).all (fun i => T.contains i || i == u || (backB ops k ((List.range ops.size).filter (fun j => depB ops t j))).contains i)
theorem rel_any2 (u : Nat) (hB : relB ops T = true) {k : Nat} (hK : lastB1 ops T k u = true) (hsz : (List.range ops.size).all (fun i => T.contains i || ((slotOf ops i).map (fun d => decide (d < a0.tmps.size))).getD false) = true)
 (hF : ∀ i v w w', F i v w → Below w.heap.size w w' → F i v w') (H : ∀ i, i < ops.size → T.contains i = false → i ≠ u → relOb P ops T a0 w0 F i)
 (LI : Array Bool) (hL1 : LI.size = ops.size) (hL2 : ((List.range ops.size).all fun i => LI.getD i false == !T.contains i) = true) {n' : Nat} (hL3 : LI.toList.count true + n' = ops.size)
 (hend : ∀ a w, RelAt ops T a0 w0 F LI a w → wpAny P .any ops Q n' LI a w) :
 ∀ (fuel : Nat) (listed : Array Bool) (a : Act) (w : World), listed.toList.count true + fuel = ops.size → RelAt ops T a0 w0 F listed a w → listed.getD u false = true → wpAny P .any ops Q fuel listed a w := by
 intro fuel
 induction fuel with
 | zero =>
   intro listed a w hc h hlu
   exact rel_end LI hL1 hL2 hL3 hend 0 listed a w hc h (fun i hi _ => by
    have h1 : listed.toList.count true = listed.toList.length := by rw [Array.length_toList, h.size]; omega
    have h2 := List.count_eq_length.1 h1
    have hlt : i < listed.size := by rw [h.size]; exact hi
    have h3 := h2 listed[i] (by simp)
    rw [Array.getD_eq_getD_getElem?, Array.getElem?_eq_getElem hlt, ← h3]
    rfl)
 | succ fuel ih =>
   intro listed a w hc h hlu
   by_cases hall : ∀ i, i < ops.size → T.contains i = false → listed.getD i false = true
   ·exact rel_end LI hL1 hL2 hL3 hend (fuel + 1) listed a w hc h hall
   refine ⟨fun hr => ?_, fun i hi => ?_⟩
   ·exfalso
    apply hall
    intro i
    induction i using Nat.strongRecOn with
    | ind i ihi =>
      intro hi hT
      cases hg : listed.getD i false with
      | true => rfl
      | false =>
        have hin : i ∈ Region.ready .any ops listed := by
         refine mem_ready.2 ⟨?_, ops[i], Array.getElem?_eq_getElem hi, fun e he hb => ?_⟩
         ·have hlt : i < listed.size := by rw [h.size]; exact hi
          rw [Array.getD_eq_getD_getElem?, Array.getElem?_eq_getElem hlt] at hg ⊢
          exact hg
         ·have hd : depB ops i e.on = true := (depB_iff (Array.getElem?_eq_getElem hi)).2 ⟨e, he, hb, rfl⟩
          have hu := List.all_eq_true.1 hB i (List.mem_range.2 hi)
          rw [hT, Bool.false_or, Bool.and_eq_true] at hu
          by_cases hlt : e.on < ops.size
          ·have := List.all_eq_true.1 hu.2 e.on (List.mem_range.2 hlt)
           rw [hd] at this
           simp at this
           exact ihi e.on this.1.1 hlt (by simpa using this.1.2)
          ·have hx : e.on < i := by
            have h5 := hu.1
            rw [Bool.and_eq_true, Array.getElem?_eq_getElem hi] at h5
            have h6 := h5.2
            simp only [Option.map_some, Option.getD_some, Bool.and_eq_true] at h6
            have h7 := (Array.all_eq_true_iff_forall_mem.1 h6.2) e he
            rw [hb] at h7
            simpa using h7
           omega
        rw [hr] at hin
        cases hin
   ·obtain ⟨hun, o, ho, hdeps⟩ := mem_ready.1 hi
    have hlt : i < ops.size := (Array.getElem?_eq_some_iff.1 ho).1
    have hdep : ∀ j, depB ops i j = true → listed.getD j false = true := fun j hj => by
     obtain ⟨e, he, hb, rfl⟩ := (depB_iff ho).1 hj
     exact hdeps e he hb
    cases hT : T.contains i with
    | true =>
      exfalso
      apply hall
      intro m hm hmT
      have h1 := List.all_eq_true.1 (List.all_eq_true.1 hK i (List.contains_iff_mem.1 hT)) m (List.mem_range.2 hm)
      by_cases hmu : m = u
      ·rw [hmu]; exact hlu
      have hne : (m == u) = false := by simpa using hmu
      rw [hmT, hne, Bool.false_or, Bool.false_or] at h1
      exact backB_in h.closed k _ (fun j hj => hdep j (List.mem_filter.1 hj).2) m (List.contains_iff_mem.1 h1)
    | false =>
      have hu := List.all_eq_true.1 hB i (List.mem_range.2 hlt)
      rw [hT, Bool.false_or, Bool.and_eq_true, Bool.and_eq_true, ho] at hu
      have hgu : o.guard = none := by have h8 := hu.1.2; simp only [Option.map_some, Option.getD_some, Bool.and_eq_true] at h8; simpa using h8.1
      obtain ⟨d, hd⟩ := Option.isSome_iff_exists.1 hu.1.1
      have hod : o.dst = some d := by unfold slotOf at hd; rw [ho] at hd; exact hd
      have hiu : i ≠ u := fun e => by subst e; rw [Array.getD_eq_getD_getElem?] at hun hlu; cases hq : listed[i]? with
       | none => rw [hq] at hlu; cases hlu
       | some b => rw [hq] at hlu hun; simp at hlu hun; rw [hlu] at hun; cases hun
      have hob := H i hlt hT hiu o ho a.eval w (fun _ => rfl) (fun _ => rfl) (fun _ => rfl) h.frame h.below (fun j s hs hj => h.facts j s hs (hdep j hj))
      have hcnt : (listed.setIfInBounds i true).toList.count true + fuel = ops.size := by
       rw [Array.toList_setIfInBounds, List.count_set (by rw [Array.length_toList, h.size]; exact hlt)]
       have hx : listed.toList[i]'(by rw [Array.length_toList, h.size]; exact hlt) = false := by
        have hl : i < listed.size := by rw [h.size]; exact hlt
        rw [Array.getD_eq_getD_getElem?, Array.getElem?_eq_getElem hl] at hun
        simpa using hun
       rw [hx, if_neg (by decide), if_pos (by decide)]
       omega
      unfold wpOp
      rw [ho]
      dsimp only
      rw [if_pos (by simp [Region.wanted, hgu])]
      left
      unfold Oper.wp
      have hnext : ∀ v w', Below w.heap.size w w' → F i v w' → wpAny P .any ops Q fuel (listed.setIfInBounds i true) (a.put o.dst v) w' := fun v w' hb hv => by
       rw [hod]
       exact ih _ _ _ hcnt (h.step hB hsz hF hlt hT hd hdep hb hv) (put_getD hlu)
      generalize (execOp a.eval o).run P w = res at *
      cases res with
      | ok n w' =>
        cases n <;> simp only [relUpon] at hob <;> simp only [Oper.upon]
        case value v => exact hnext v w' hob.1 hob.2
        case enter f args =>
         refine Calls.mono hob fun e w'' he => ?_
         obtain ⟨v, rfl, hb, hv⟩ := he
         exact hnext v w'' hb hv
      | halt x w' => simp only [relUpon] at hob
/-- all that is owed -/
def relAll (P : Program) (ops : Array Oper) (T : List Nat) (a0 : Act) (w0 : World) (F : Nat → Value → World → Prop) : List Nat → Prop
 | [] => True
 | i :: l => relOb P ops T a0 w0 F i ∧ relAll P ops T a0 w0 F l
theorem relAll_in : ∀ {l : List Nat}, relAll P ops T a0 w0 F l → ∀ i ∈ l, relOb P ops T a0 w0 F i
 | _ :: _, h, i, hi => by
   rcases List.mem_cons.1 hi with rfl | hi
   ·exact h.1
   ·exact relAll_in h.2 i hi
theorem relOb_mk {i : Nat} {o : Oper} (ho : ops[i]? = some o) (h : ∀ (r : Operand → Value) (w : World), (∀ v, r (.const v) = v) → (∀ f, r (.func f) = .func (.func f) #[] #[]) → (∀ g, r (.global g) = .pointer (some ⟨g, 0, none⟩)) →
 (∀ s, offB ops T s = true → r (.tmp s) = a0.eval (.tmp s)) → Below w0.heap.size w0 w →
 (∀ j s, slotOf ops j = some s → depB ops i j = true → F j (r (.tmp s)) w) → relUpon P w (F i) ((execOp r o).run P w)) : relOb P ops T a0 w0 F i := by
 intro o' ho' r w h1 h2 h3 h4 h5 h6
 rw [ho] at ho'
 injection ho' with ho'
 subst ho'
 exact h r w h1 h2 h3 h4 h5 h6
/-- does it stay when new memory is made? -/
def stays (p : Value → World → Prop) : Prop := ∀ v w w', p v w → Below w.heap.size w w' → p v w'
theorem stays_is (c : Value) : stays (fun v _ => v = c) := fun _ _ _ h _ => h
theorem stays_true : stays (fun _ _ => True) := fun _ _ _ h _ => h
def staysAll : List (Value → World → Prop) → Prop
 | [] => True
 | p :: l => stays p ∧ staysAll l
theorem stays_at : ∀ {l : List (Value → World → Prop)}, staysAll l → ∀ i, stays (l.getD i (fun _ _ => True))
 | [], _, _ => stays_true
 | _ :: _, h, 0 => h.1
 | _ :: _, h, i + 1 => stays_at h.2 i
/-- the frame when the slots D have been filled -/
def fillAll (a : Act) (D : List Nat) (x : Act) : Act := D.foldl (fun y d => y.put (some d) (a.eval (.tmp d))) x
theorem fill_size (a : Act) : ∀ (D : List Nat) (x : Act), (fillAll a D x).tmps.size = x.tmps.size ∧ (fillAll a D x).defers = x.defers
 | [], _ => ⟨rfl, rfl⟩
 | d :: D, x => by
   have h := fill_size a D (x.put (some d) (a.eval (.tmp d)))
   refine ⟨h.1.trans ?_, h.2⟩
   show (x.tmps.setIfInBounds d _).size = _
   rw [Array.size_setIfInBounds]
theorem fill_eval (a : Act) {s : Nat} : ∀ (D : List Nat) (x : Act), s < x.tmps.size → (fillAll a D x).eval (.tmp s) = if D.contains s then a.eval (.tmp s) else x.eval (.tmp s)
 | [], _, _ => rfl
 | d :: D, x, hs => by
   have h := fill_eval a D (x.put (some d) (a.eval (.tmp d))) (by show s < (x.tmps.setIfInBounds d _).size; rw [Array.size_setIfInBounds]; exact hs)
   show (fillAll a D (x.put (some d) (a.eval (.tmp d)))).eval (.tmp s) = _
   rw [h, List.contains_cons]
   by_cases hd : d = s
   ·subst hd
    rw [eval_put_self hs]
    simp
   ·rw [eval_put hd]
    have : (s == d) = false := by simpa using fun e => hd e.symm
    rw [this, Bool.false_or]
theorem act_ext {a b : Act} (h1 : a.tmps.size = b.tmps.size) (h2 : a.defers = b.defers) (h3 : ∀ s, s < a.tmps.size → a.eval (.tmp s) = b.eval (.tmp s)) : a = b := by
 obtain ⟨t, d⟩ := a
 obtain ⟨t', d'⟩ := b
 dsimp only at h1 h2 h3
 subst h2
 congr 1
 refine Array.ext h1 fun i hi hi' => ?_
 have := h3 i hi
 simpa [Act.eval, Array.getD_eq_getD_getElem?, Array.getElem?_eq_getElem hi, Array.getElem?_eq_getElem hi'] using this
/-- the whole region: LI tells which have come up when the last ones are to come; D are the slots that have been filled -/
theorem wp_region_rel {id : Nat} (hm : P.follows .mixedOrders = true) (T : List Nat) (k : Nat) (L : List Nat) (D : List Nat) (LI : Array Bool) (n' : Nat) (G : List (Value → World → Prop))
 (hB : relB ops T = true) (hK : lastB ops T k = true) (hsz : (List.range ops.size).all (fun i => T.contains i || ((slotOf ops i).map (fun d => decide (d < a0.tmps.size))).getD false) = true)
 (hL : (List.range ops.size).all (fun i => T.contains i || L.contains i) = true) (hD : (List.range a0.tmps.size).all (fun s => D.contains s || offB ops T s) = true)
 (hL1 : LI.size = ops.size) (hL2 : ((List.range ops.size).all fun i => LI.getD i false == !T.contains i) = true) (hL3 : LI.toList.count true + n' = ops.size)
 (hG : staysAll G) (H : relAll P ops T a0 w0 (fun i => G.getD i (fun _ _ => True)) L)
 (hend : ∀ a w, Below w0.heap.size w0 w → (∀ i s, slotOf ops i = some s → LI.getD i false = true → G.getD i (fun _ _ => True) (a.eval (.tmp s)) w) → wpAny P .any ops Q n' LI (fillAll a D a0) w) :
 (Code.region id ops true).wp P Q a0 w0 := by
 refine wp_region_any hm (rel_any (w0 := w0) hB hK hsz (fun i v w w' h hb => stays_at hG i v w w' h hb) (fun i hi hT => ?_) LI hL1 hL2 hL3 (fun a w h => ?_) ops.size (Array.replicate ops.size false) a0 _ ?_ ?_)
 ·have := List.all_eq_true.1 hL i (List.mem_range.2 hi)
  rw [hT, Bool.false_or] at this
  exact relAll_in H i (List.contains_iff_mem.1 this)
 ·have he : a = fillAll a D a0 := by
   obtain ⟨f1, f2⟩ := fill_size a D a0
   refine act_ext (h.tmps.trans f1.symm) (h.defers.trans f2.symm) fun s hs => ?_
   have hs' : s < a0.tmps.size := by rw [← h.tmps]; exact hs
   rw [fill_eval a D a0 hs']
   split
   ·rfl
   ·rename_i hn
    have := List.all_eq_true.1 hD s (List.mem_range.2 hs')
    rw [Bool.or_eq_true] at this
    exact h.frame s (this.resolve_left hn)
  have h2 := hend a w h.below h.facts
  rw [← he] at h2
  exact h2
 ·rw [Array.toList_replicate, List.count_replicate, if_neg (by decide), Nat.zero_add]
 ·refine ⟨Array.size_replicate, fun i j hi => ?_, fun i hi => ?_, rfl, rfl, fun _ _ => rfl, (Below.refl _ w0).drew, fun i s _ hi => ?_⟩
  all_goals
   rw [Array.getD_eq_getD_getElem?, Array.getElem?_replicate] at hi
   split at hi <;> cases hi
theorem rel_start (w0 : World) (F : Nat → Value → World → Prop) : RelAt ops T a0 w0 F (Array.replicate ops.size false) a0 w0.drew := by
 refine ⟨Array.size_replicate, fun i j hi => ?_, fun i hi => ?_, rfl, rfl, fun _ _ => rfl, (Below.refl _ w0).drew, fun i s _ hi => ?_⟩
 all_goals
  rw [Array.getD_eq_getD_getElem?, Array.getElem?_replicate] at hi
  split at hi <;> cases hi
/-- the same, operation u taken first: the last ones do not wait for it -/
theorem wp_region_rel1 {id : Nat} (hm : P.follows .mixedOrders = true) (T : List Nat) (k : Nat) (L : List Nat) (D : List Nat) (LI : Array Bool) (n' : Nat) (G : List (Value → World → Prop)) (u d : Nat) (v : Value) {ou : Oper}
 (hu : ops[u]? = some ou) (hud : ou.dst = some d) (hdu : slotOf ops u = some d) (huT : T.contains u = false) (hs : Region.noSelect ops = true) (hf : Region.free .any ops (Array.replicate ops.size false) u = true) (hr : (Region.ready .any ops (Array.replicate ops.size false)).contains u = true)
 (hQ : ∀ c a w, Q (.panic c) (a.put ou.dst v) w → Q (.panic c) a w) (hy : Yields P ops ou v a0) (hnd : (List.range ops.size).all (fun j => !depB ops u j) = true) (hvu : ∀ w, G.getD u (fun _ _ => True) v w)
 (hB : relB ops T = true) (hK : lastB1 ops T k u = true) (hsz : (List.range ops.size).all (fun i => T.contains i || ((slotOf ops i).map (fun d => decide (d < a0.tmps.size))).getD false) = true)
 (hL : (List.range ops.size).all (fun i => T.contains i || i == u || L.contains i) = true) (hD : (List.range a0.tmps.size).all (fun s => D.contains s || offB ops T s) = true)
 (hL1 : LI.size = ops.size) (hL2 : ((List.range ops.size).all fun i => LI.getD i false == !T.contains i) = true) (hL3 : LI.toList.count true + n' = ops.size)
 (hG : staysAll G) (H : relAll P ops T a0 w0 (fun i => G.getD i (fun _ _ => True)) L)
 (hend : ∀ a w, Below w0.heap.size w0 w → (∀ i s, slotOf ops i = some s → LI.getD i false = true → G.getD i (fun _ _ => True) (a.eval (.tmp s)) w) → wpAny P .any ops Q n' LI (fillAll a D a0) w) :
 (Code.region id ops true).wp P Q a0 w0 := by
 have hult : u < ops.size := (Array.getElem?_eq_some_iff.1 hu).1
 have hsub : ∃ m, ops.size = m + 1 := ⟨ops.size - 1, by omega⟩
 obtain ⟨m, hm1⟩ := hsub
 refine wp_region_any hm ?_
 rw [hm1, ← hm1]
 have hF : ∀ i v w w', G.getD i (fun _ _ => True) v w → Below w.heap.size w w' → G.getD i (fun _ _ => True) v w' := fun i v w w' h hb => stays_at hG i v w w' h hb
 have hnod : ∀ j, depB ops u j = true → False := fun j hj => by
  obtain ⟨e, he, hb, rfl⟩ := (depB_iff hu).1 hj
  have hB1 := List.all_eq_true.1 hB u (List.mem_range.2 hult)
  rw [huT, Bool.false_or, Bool.and_eq_true, Bool.and_eq_true, hu] at hB1
  have h8 := hB1.1.2
  simp only [Option.map_some, Option.getD_some, Bool.and_eq_true] at h8
  have h9 := (Array.all_eq_true_iff_forall_mem.1 h8.2) e he
  have h10 : e.on < u := by rw [hb] at h9; simpa using h9
  have := List.all_eq_true.1 hnd e.on (List.mem_range.2 (by omega))
  rw [hj] at this
  cases this
 have h1 := RelAt.step (T := T) (a0 := a0) (w0 := w0) (F := fun i => G.getD i (fun _ _ => True)) (v := v) hB hsz hF (rel_start w0 _) hult huT hdu (fun j hj => (hnod j hj).elim) (Below.refl _ _) (hvu _)
 suffices h : wpAny P .any ops Q m ((Array.replicate ops.size false).setIfInBounds u true) (a0.put (some d) v) w0.drew by
  have h2 := wpAny_take (Q := Q) (a := a0) (w := w0.drew) (fuel := m) hu hs hf hr hQ hy (by rw [hud]; exact h)
  rw [← hm1] at h2
  exact h2
 refine rel_any2 (w0 := w0) u hB hK hsz hF (fun i hi hT hiu => ?_) LI hL1 hL2 hL3 (fun a w h => ?_) m _ _ _ ?_ h1 ?_
 ·have := List.all_eq_true.1 hL i (List.mem_range.2 hi)
  have hne : (i == u) = false := by simpa using hiu
  rw [hT, hne, Bool.false_or, Bool.false_or] at this
  exact relAll_in H i (List.contains_iff_mem.1 this)
 ·have he : a = fillAll a D a0 := by
   obtain ⟨f1, f2⟩ := fill_size a D a0
   refine act_ext (h.tmps.trans f1.symm) (h.defers.trans f2.symm) fun s hs => ?_
   have hs' : s < a0.tmps.size := by rw [← h.tmps]; exact hs
   rw [fill_eval a D a0 hs']
   split
   ·rfl
   ·rename_i hn
    have := List.all_eq_true.1 hD s (List.mem_range.2 hs')
    rw [Bool.or_eq_true] at this
    exact h.frame s (this.resolve_left hn)
  have h2 := hend a w h.below h.facts
  rw [← he] at h2
  exact h2
 ·rw [Array.toList_setIfInBounds, Array.toList_replicate, List.count_set (by rw [List.length_replicate]; exact hult), List.count_replicate, if_neg (by decide), List.getElem_replicate, if_neg (by decide), if_pos (by decide)]
  omega
 ·rw [Array.getD_eq_getD_getElem?, Array.getElem?_setIfInBounds_self_of_lt (by rw [Array.size_replicate]; exact hult)]
  rfl
end
end Go.Proofs.Ytpohoannggdbjaa
namespace Go.Proofs.Ytpohoannggdbjaa
open Go.RowKit

/-- a row of commands that lies in memory -/
def CmdsAt (w : World) (a : Option Addr) (l : List (Nat × Int)) : Prop :=
 (∀ c ∈ l, c.1 < 256 ∧ -9223372036854775808 ≤ c.2 ∧ c.2 ≤ 9223372036854775807) ∧
 (l = [] ∨ ∃ b off, a = some ⟨b, off, none⟩ ∧ ∀ i c, l[i]? = some c → w.cell? ⟨b, off + i * 2, none⟩ = some (.int .u8 (c.1 : Int)) ∧ w.cell? ⟨b, off + i * 2 + 1, none⟩ = some (.int .i64 c.2))
theorem CmdsAt.below {w w' : World} {a : Option Addr} {l : List (Nat × Int)} (hb : Below w.heap.size w w') (h : CmdsAt w a l) : CmdsAt w' a l := by
 refine ⟨h.1, h.2.imp id ?_⟩
 rintro ⟨b, off, rfl, hc⟩
 exact ⟨b, off, rfl, fun i c hi => ⟨cell_later hb (hc i c hi).1, cell_later hb (hc i c hi).2⟩⟩
theorem CmdsAt.at {w : World} {a : Option Addr} {l : List (Nat × Int)} (h : CmdsAt w a l) {i : Nat} (hi : i < l.length) :
 ∃ b off k n, a = some ⟨b, off, none⟩ ∧ l[i]? = some (k, n) ∧ k < 256 ∧ (-9223372036854775808 ≤ n ∧ n ≤ 9223372036854775807) ∧ w.cell? ⟨b, off + i * 2, none⟩ = some (.int .u8 (k : Int)) ∧ w.cell? ⟨b, off + i * 2 + 1, none⟩ = some (.int .i64 n) := by
 obtain ⟨b, off, rfl, hc⟩ := h.2.resolve_left (by rintro rfl; simp at hi)
 have hg := List.getElem?_eq_getElem hi
 have hm := h.1 _ (List.getElem_mem hi)
 obtain ⟨h1, h2⟩ := hc i _ hg
 exact ⟨b, off, l[i].1, l[i].2, rfl, hg, hm.1, hm.2, h1, h2⟩

theorem cmd_guard : Try.prog.eqGuardType Try.prog.depth 60 = false := by kernel_rfl
theorem cmd_plain : Try.prog.stoodInHeld 60 = false := by kernel_rfl
theorem cmd_fields : (Try.prog.fieldsOf 60).toList.map (fun f => (f.name, f.type, f.offset)) = [("Kind", 5, 0), ("N", 3, 1)] := by kernel_rfl
theorem cmd_equal (w : World) (k1 k2 n1 n2 : Int) : (Op.equalIn 10000 60 (.agg #[.int .u8 k1, .int .i64 n1]) (.agg #[.int .u8 k2, .int .i64 n2])).run Try.prog w = .ok (k1 == k2 && n1 == n2) w := by
 rw [run_equalIn_agg w 9999 60 _ _ (by kernel_rfl) cmd_plain]
 have h := cmd_fields
 obtain ⟨f, L1, hL, hf, h1⟩ := List.map_eq_cons_iff.1 h
 obtain ⟨g, L2, hL1, hg, h2⟩ := List.map_eq_cons_iff.1 h1
 obtain rfl := List.map_eq_nil_iff.1 h2
 simp only [Prod.mk.injEq] at hf hg
 obtain ⟨a1, a2, a3⟩ := hf
 obtain ⟨b1, b2, b3⟩ := hg
 rw [hL, hL1]
 cases hk : k1 == k2 <;> cases hn : n1 == n2
 all_goals simp [Op.eqFields, a1, a2, a3, b1, b2, b3, part, go_sem, hk, hn]
theorem neq_cmd (k1 k2 n1 n2 : Int) (w : World) : (binOp .neq 60 (.agg #[.int .u8 k1, .int .i64 n1]) (.agg #[.int .u8 k2, .int .i64 n2])).run Try.prog w = .ok (.bool (!(k1 == k2 && n1 == n2))) w := by
 rw [run_neq_struct, cmd_equal]; rfl

theorem cmd_diff {la lb : List (Nat × Int)} {k k1 k2 : Nat} {n1 n2 : Int} (h1 : la[k]? = some (k1, n1)) (h2 : lb[k]? = some (k2, n2)) (h : (!(k1 : Int) == (k2 : Int)) = true ∨ (!n1 == n2) = true) : decide (la = lb) = false := by
 apply decide_eq_false
 rintro rfl
 rw [h1] at h2
 simp only [Option.some.injEq, Prod.mk.injEq] at h2
 obtain ⟨rfl, rfl⟩ := h2
 simp at h
theorem cmd_same {la lb : List (Nat × Int)} {k k1 k2 : Nat} {n1 n2 : Int} (h1 : la[k]? = some (k1, n1)) (h2 : lb[k]? = some (k2, n2)) (h : (!(k1 : Int) == (k2 : Int)) = false ∧ (!n1 == n2) = false) (ht : la.take k = lb.take k) : la.take (k + 1) = lb.take (k + 1) := by
 have e1 : (k1 : Int) = k2 := by simpa using h.1
 have e2 : n1 = n2 := by simpa using h.2
 rw [List.take_add_one, List.take_add_one, ht, h1, h2, show k1 = k2 by omega, e2]
theorem cmd_all {la lb : List (Nat × Int)} {n : Nat} (h1 : la.length = n) (h2 : lb.length = n) (ht : la.take n = lb.take n) : decide (la = lb) = true := by
 apply decide_eq_true
 rw [← List.take_of_length_le (Nat.le_of_eq h1), ht, List.take_of_length_le (Nat.le_of_eq h2)]
theorem cmd_len {la lb : List (Nat × Int)} {n m : Nat} (h1 : la.length = n) (h2 : lb.length = m) (h : ¬ n = m) : decide (la = lb) = false := by
 apply decide_eq_false
 rintro rfl
 omega

end Go.Proofs.Ytpohoannggdbjaa
namespace Go.Proofs.Ytpohoannggdbjaa
open Go.RowKit
set_option maxRecDepth 100000

/-- a row of elements, each of sz cells -/
def RowAt {α : Type} (sz : Nat) (f : α → List Value) (w : World) (a : Option Addr) (l : List α) : Prop :=
 l = [] ∨ ∃ b off, a = some ⟨b, off, none⟩ ∧ ∀ i c, l[i]? = some c → ∀ j v, (f c)[j]? = some v → w.cell? ⟨b, off + i * sz + j, none⟩ = some v
theorem RowAt.below {α : Type} {sz : Nat} {f : α → List Value} {w w' : World} {a : Option Addr} {l : List α} (h : RowAt sz f w a l) (hb : Below w.heap.size w w') : RowAt sz f w' a l := by
 refine h.imp id ?_
 rintro ⟨b, off, rfl, hc⟩
 exact ⟨b, off, rfl, fun i c hi j v hv => cell_later hb (hc i c hi j v hv)⟩
theorem RowAt.nil {α : Type} {sz : Nat} {f : α → List Value} {w : World} {a : Option Addr} : RowAt sz f w a [] := .inl rfl
theorem RowAt.take {α : Type} {sz : Nat} {f : α → List Value} {w : World} {a : Option Addr} {l : List α} (h : RowAt sz f w a l) (n : Nat) : RowAt sz f w a (l.take n) := by
 rcases h with rfl | ⟨b, off, rfl, hc⟩
 ·exact .inl (by simp)
 ·refine .inr ⟨b, off, rfl, fun i c hi => hc i c ?_⟩
  rw [List.getElem?_take] at hi
  split at hi
  ·exact hi
  ·cases hi
/-- a slice: where it lies, its capacity, its elements -/
structure Sl (α : Type) where
 a : Option Addr
 c : Nat
 l : List α
def Sl.v {α : Type} (s : Sl α) : Value := .slice s.a s.l.length s.c
structure SlAt {α : Type} (sz : Nat) (f : α → List Value) (w : World) (s : Sl α) : Prop where
 row : RowAt sz f w s.a s.l
 len : s.l.length ≤ s.c
 cap : s.c ≤ maxLen
 capNil : s.a = none → s.c = 0
theorem SlAt.below {α : Type} {sz : Nat} {f : α → List Value} {w w' : World} {s : Sl α} (h : SlAt sz f w s) (hb : Below w.heap.size w w') : SlAt sz f w' s := ⟨h.row.below hb, h.len, h.cap, h.capNil⟩
theorem SlAt.lenM {α : Type} {sz : Nat} {f : α → List Value} {w : World} {s : Sl α} (h : SlAt sz f w s) : s.l.length ≤ 9223372036854775807 := by have := h.len; have := h.cap; unfold maxLen at this; omega
abbrev BA := ByteArray
def intC (x : Int) : List Value := [.int .i64 x]
def strC (s : BA) : List Value := [.string s]
def ndC (n : Int × Bool) : List Value := [.int .i64 n.1, .bool n.2]
def ptC (p : BA × Int) : List Value := [.string p.1, .int .i64 p.2]
structure Rt where
 nm : BA
 sg : Int
 pa : Sl Int
 po : Sl (Int × Bool)
 ov : Sl Int
 fl : Sl (Int × Bool)
def rtC (r : Rt) : List Value := [.string r.nm, .int .i64 r.sg, r.pa.v, r.po.v, r.ov.v, r.fl.v]
structure RtAt (w : World) (r : Rt) : Prop where
 nm : r.nm.size ≤ maxLen
 pa : SlAt 1 intC w r.pa
 po : SlAt 2 ndC w r.po
 ov : SlAt 1 intC w r.ov
 fl : SlAt 2 ndC w r.fl
theorem RtAt.below {w w' : World} {r : Rt} (h : RtAt w r) (hb : Below w.heap.size w w') : RtAt w' r := ⟨h.nm, h.pa.below hb, h.po.below hb, h.ov.below hb, h.fl.below hb⟩
structure Lay where
 se : Sl BA
 po : Sl (BA × Int)
 sg : Sl (BA × Int)
 rt : Sl Rt
structure LayAt (w : World) (L : Lay) : Prop where
 se : SlAt 1 strC w L.se
 po : SlAt 2 ptC w L.po
 sg : SlAt 2 ptC w L.sg
 rt : SlAt 6 rtC w L.rt
 sn : ∀ s ∈ L.se.l, s.size ≤ maxLen
 pn : ∀ p ∈ L.po.l, p.1.size ≤ maxLen
 gn : ∀ p ∈ L.sg.l, p.1.size ≤ maxLen
 rn : ∀ r ∈ L.rt.l, RtAt w r
theorem LayAt.below {w w' : World} {L : Lay} (h : LayAt w L) (hb : Below w.heap.size w w') : LayAt w' L := ⟨h.se.below hb, h.po.below hb, h.sg.below hb, h.rt.below hb, h.sn, h.pn, h.gn, fun r hr => (h.rn r hr).below hb⟩
/-- a reading of a slice gives a row, if a reading of an element gives an element -/
theorem sl_of {α : Type} {P : Program} {t e : TypeId} {sz : Nat} {f : α → List Value} {A : α → Prop} {w : World} {cs : List Value} (hu : P.underlying t = some (.slice e)) (hsz : P.cellsOf e = sz) (hpos : 0 < sz) (hlen : ∀ c, (f c).length = sz)
 (hel : ∀ cs, Rd P w e cs → ∃ c : α, cs = f c ∧ A c) (h : Rd P w t cs) : ∃ s : Sl α, cs = [s.v] ∧ SlAt sz f w s ∧ ∀ c ∈ s.l, A c := by
 rcases h.slice hu with rfl | ⟨x, len, cap, rfl, hlc, hcm, hcell⟩
 ·exact ⟨⟨none, 0, []⟩, rfl, ⟨.inl rfl, Nat.le_refl _, Nat.zero_le _, fun _ => rfl⟩, by simp⟩
 ·have H : ∀ i, i < len → ∃ c : α, A c ∧ ∀ j v, (f c)[j]? = some v → w.cell? ((x.add (i * sz)).add j) = some v := by
   intro i hi
   obtain ⟨ecs, he, hr⟩ := hcell i (by omega)
   rw [hsz] at he
   obtain ⟨c, rfl, hA⟩ := hel ecs hr
   obtain ⟨_, hg⟩ := cells_get he
   refine ⟨c, hA, fun j v hv => ?_⟩
   have hj : j < sz := by rw [← hlen c]; exact (List.getElem?_eq_some_iff.1 hv).1
   obtain ⟨v', g0, c0⟩ := hg j hj
   rw [hv] at g0
   cases g0
   exact c0
  obtain ⟨l, hl, hq⟩ := list_of len H
  refine ⟨⟨some x, cap, l⟩, by unfold Sl.v; rw [hl], ⟨?_, by dsimp only; omega, hcm, fun h => by cases h⟩, fun c hc => ?_⟩
  ·rcases l with _ | ⟨c0, l⟩
   ·exact .inl rfl
   ·right
    have h0 := (hq 0 c0 rfl).2
    have hs : x.spot = none := by
     have hz : 0 < (f c0).length := by rw [hlen]; exact hpos
     have := h0 0 _ (List.getElem?_eq_getElem hz)
     rw [Nat.zero_mul] at this
     exact World.cell?_spot (show w.cell? x = some _ by simpa [Addr.add] using this)
    obtain ⟨b, off, spot⟩ := x
    subst hs
    refine ⟨b, off, rfl, fun i c hi j v hv => ?_⟩
    have := (hq i c hi).2 j v hv
    simpa only [Addr.add_lit, Nat.add_zero] using this
  ·obtain ⟨i, hi⟩ := List.getElem?_of_mem hc
   exact (hq i c hi).1
theorem int_el {w : World} {cs : List Value} (h : Rd Try.prog w 3 cs) : ∃ c : Int, cs = intC c ∧ True := by
 obtain ⟨n, rfl, _⟩ := h.int Try.underlying3
 exact ⟨n, rfl, trivial⟩
theorem str_el {w : World} {cs : List Value} (h : Rd Try.prog w 9 cs) : ∃ c : BA, cs = strC c ∧ c.size ≤ maxLen := by
 obtain ⟨s, rfl, h2⟩ := h.str Try.underlying9
 exact ⟨s, rfl, h2⟩
theorem nd_el {w : World} {cs : List Value} (h : Rd Try.prog w 55 cs) : ∃ c : Int × Bool, cs = ndC c ∧ True := by
 obtain ⟨hl, hf⟩ := h.fields (L := [(3, 0), (4, 1)]) (by kernel_rfl) (by kernel_rfl)
 rw [show Try.prog.cellsOf 55 = 2 by kernel_rfl] at hl
 match cs, hl with
 | [x, y], _ =>
   have h0 := hf (3, 0) (by simp)
   have h1 := hf (4, 1) (by simp)
   simp only [show Try.prog.cellsOf 3 = 1 by kernel_rfl, show Try.prog.cellsOf 4 = 1 by kernel_rfl] at h0 h1
   obtain ⟨a, ha, _⟩ := h0.int Try.underlying3
   obtain ⟨b, hb⟩ := h1.bool Try.underlying4
   simp at ha hb
   exact ⟨(a, b), by rw [ha, hb]; rfl, trivial⟩
theorem pt_el {w : World} {cs : List Value} (h : Rd Try.prog w 51 cs) : ∃ c : BA × Int, cs = ptC c ∧ c.1.size ≤ maxLen := by
 obtain ⟨hl, hf⟩ := h.fields (L := [(9, 0), (3, 1)]) (by kernel_rfl) (by kernel_rfl)
 rw [show Try.prog.cellsOf 51 = 2 by kernel_rfl] at hl
 match cs, hl with
 | [x, y], _ =>
   have h0 := hf (9, 0) (by simp)
   have h1 := hf (3, 1) (by simp)
   simp only [show Try.prog.cellsOf 3 = 1 by kernel_rfl, show Try.prog.cellsOf 9 = 1 by kernel_rfl] at h0 h1
   obtain ⟨a, ha, hs⟩ := h0.str Try.underlying9
   obtain ⟨b, hb, _⟩ := h1.int Try.underlying3
   simp at ha hb
   exact ⟨(a, b), by rw [ha, hb]; rfl, hs⟩
theorem sg_el {w : World} {cs : List Value} (h : Rd Try.prog w 52 cs) : ∃ c : BA × Int, cs = ptC c ∧ c.1.size ≤ maxLen := by
 obtain ⟨hl, hf⟩ := h.fields (L := [(9, 0), (3, 1)]) (by kernel_rfl) (by kernel_rfl)
 rw [show Try.prog.cellsOf 52 = 2 by kernel_rfl] at hl
 match cs, hl with
 | [x, y], _ =>
   have h0 := hf (9, 0) (by simp)
   have h1 := hf (3, 1) (by simp)
   simp only [show Try.prog.cellsOf 3 = 1 by kernel_rfl, show Try.prog.cellsOf 9 = 1 by kernel_rfl] at h0 h1
   obtain ⟨a, ha, hs⟩ := h0.str Try.underlying9
   obtain ⟨b, hb, _⟩ := h1.int Try.underlying3
   simp at ha hb
   exact ⟨(a, b), by rw [ha, hb]; rfl, hs⟩
theorem ints_of {w : World} {cs : List Value} (h : Rd Try.prog w 53 cs) : ∃ s : Sl Int, cs = [s.v] ∧ SlAt 1 intC w s := by
 obtain ⟨s, h1, h2, _⟩ := sl_of (f := intC) (sz := 1) (A := fun _ => True) Try.underlying53 (by kernel_rfl) (by decide) (fun _ => rfl) (fun _ h => int_el h) h
 exact ⟨s, h1, h2⟩
theorem nds_of {w : World} {cs : List Value} (h : Rd Try.prog w 56 cs) : ∃ s : Sl (Int × Bool), cs = [s.v] ∧ SlAt 2 ndC w s := by
 obtain ⟨s, h1, h2, _⟩ := sl_of (f := ndC) (sz := 2) (A := fun _ => True) Try.underlying56 (by kernel_rfl) (by decide) (fun _ => rfl) (fun _ h => nd_el h) h
 exact ⟨s, h1, h2⟩
theorem rt_el {w : World} {cs : List Value} (h : Rd Try.prog w 58 cs) : ∃ c : Rt, cs = rtC c ∧ RtAt w c := by
 obtain ⟨hl, hf⟩ := h.fields (L := [(9, 0), (3, 1), (53, 2), (56, 3), (53, 4), (56, 5)]) (by kernel_rfl) (by kernel_rfl)
 rw [show Try.prog.cellsOf 58 = 6 by kernel_rfl] at hl
 match cs, hl with
 | [x0, x1, x2, x3, x4, x5], _ =>
   have h0 := hf (9, 0) (by simp)
   have h1 := hf (3, 1) (by simp)
   have h2 := hf (53, 2) (by simp)
   have h3 := hf (56, 3) (by simp)
   have h4 := hf (53, 4) (by simp)
   have h5 := hf (56, 5) (by simp)
   simp only [show Try.prog.cellsOf 3 = 1 by kernel_rfl, show Try.prog.cellsOf 9 = 1 by kernel_rfl, show Try.prog.cellsOf 53 = 1 by kernel_rfl, show Try.prog.cellsOf 56 = 1 by kernel_rfl] at h0 h1 h2 h3 h4 h5
   obtain ⟨a, ha, hs⟩ := h0.str Try.underlying9
   obtain ⟨b, hb, _⟩ := h1.int Try.underlying3
   obtain ⟨p, hp, sp⟩ := ints_of h2
   obtain ⟨q, hq, sq⟩ := nds_of h3
   obtain ⟨r, hr, sr⟩ := ints_of h4
   obtain ⟨s, hs2, ss⟩ := nds_of h5
   simp at ha hb hp hq hr hs2
   exact ⟨⟨a, b, p, q, r, s⟩, by rw [ha, hb, hp, hq, hr, hs2]; rfl, ⟨hs, sp, sq, sr, ss⟩⟩
theorem lay_of {w : World} {cs : List Value} (h : Rd Try.prog w 27 cs) : ∃ L : Lay, cs = [L.se.v, L.po.v, L.sg.v, L.rt.v] ∧ LayAt w L := by
 obtain ⟨hl, hf⟩ := h.fields (L := [(22, 0), (23, 1), (24, 2), (25, 3)]) (by kernel_rfl) (by kernel_rfl)
 rw [show Try.prog.cellsOf 27 = 4 by kernel_rfl] at hl
 match cs, hl with
 | [x0, x1, x2, x3], _ =>
   have h0 := hf (22, 0) (by simp)
   have h1 := hf (23, 1) (by simp)
   have h2 := hf (24, 2) (by simp)
   have h3 := hf (25, 3) (by simp)
   simp only [show Try.prog.cellsOf 22 = 1 by kernel_rfl, show Try.prog.cellsOf 23 = 1 by kernel_rfl, show Try.prog.cellsOf 24 = 1 by kernel_rfl, show Try.prog.cellsOf 25 = 1 by kernel_rfl] at h0 h1 h2 h3
   obtain ⟨a, ha, sa, na⟩ := sl_of (f := strC) (sz := 1) Try.underlying22 (by kernel_rfl) (by decide) (fun _ => rfl) (fun _ h => str_el h) h0
   obtain ⟨b, hb, sb, nb⟩ := sl_of (f := ptC) (sz := 2) Try.underlying23 (by kernel_rfl) (by decide) (fun _ => rfl) (fun _ h => pt_el h) h1
   obtain ⟨c, hc, sc, nc⟩ := sl_of (f := ptC) (sz := 2) Try.underlying24 (by kernel_rfl) (by decide) (fun _ => rfl) (fun _ h => sg_el h) h2
   obtain ⟨d, hd, sd, nd⟩ := sl_of (f := rtC) (sz := 6) Try.underlying25 (by kernel_rfl) (by decide) (fun _ => rfl) (fun _ h => rt_el h) h3
   simp at ha hb hc hd
   exact ⟨⟨a, b, c, d⟩, by rw [ha, hb, hc, hd], ⟨sa, sb, sc, sd, na, nb, nc, nd⟩⟩
end Go.Proofs.Ytpohoannggdbjaa
namespace Go.Proofs.Ytpohoannggdbjaa
open Go.RowKit
set_option maxRecDepth 100000

def signB (r : Int) : Bool := decide (33 ≤ r ∧ r ≠ 58 ∧ r ≠ 35 ∧ r ≠ 43 ∧ r ≠ 45 ∧ r ≠ 65533 ∧ (r < 127 ∨ 160 < r))
/-- the characters from a place on, of a text of which n have been read -/
def rgo (s : BA) : Nat → Nat → Nat → Bool
 | 0, _, n => decide (1 ≤ n ∧ n ≤ 16)
 | b + 1, pos, n => if pos < s.size then (if signB (Utf8.decode s pos).1 then rgo s b (pos + (Utf8.decode s pos).2) (n + 1) else false) else decide (1 ≤ n ∧ n ≤ 16)
def rightS (s : BA) : Bool := rgo s s.size 0 0
theorem rgo_end (s : BA) (b pos n : Nat) (h : ¬ pos < s.size) : rgo s b pos n = decide (1 ≤ n ∧ n ≤ 16) := by
 cases b with
 | zero => rfl
 | succ b => simp [rgo, h]
theorem width_pos (s : BA) (pos : Nat) (h : pos < s.size) : 1 ≤ (Utf8.decode s pos).2 := by
 by_cases ha : (s[pos]'h).toNat < 128
 ·rw [decode_ascii s pos h ha]
  exact Nat.le_refl _
 ·exact (decode_high s pos h (by omega)).2
theorem sign_is (r : Int) (w : World) : Calls Try.prog 60 #[.int .i32 r] w fun e w' => e = .returned (.bool (signB r)) ∧ w = w' := by
 by_cases h1 : r < 33
 ·have HB : Hid (signB r = false) := Lib.hid (decide_eq_false (by omega))
  go_enter Try.func60, Try.ntmps60
  go_wp2_with fail
  go_ret
  exact ⟨by rw [HB.out]; rfl, rfl⟩
 by_cases h2 : 127 ≤ r
 ·by_cases h3 : r ≤ 160
  ·have HB : Hid (signB r = false) := Lib.hid (decide_eq_false (by omega))
   go_enter Try.func60, Try.ntmps60
   go_wp2_with fail
   go_ret
   exact ⟨by rw [HB.out]; rfl, rfl⟩
  by_cases h4 : r = 65533
  ·subst h4
   have HB : Hid (signB 65533 = false) := Lib.hid (by decide)
   go_enter Try.func60, Try.ntmps60
   go_wp2_with fail
   go_ret
   exact ⟨by rw [HB.out]; rfl, rfl⟩
  ·have HB : Hid (signB r = true) := Lib.hid (decide_eq_true (by omega))
   have e1 : (r == 58) = false := by simp; omega
   have e2 : (r == 35) = false := by simp; omega
   have e3 : (r == 43) = false := by simp; omega
   have e4 : (r == 45) = false := by simp; omega
   have e5 : (r == 65533) = false := by simp; omega
   clear h4
   go_enter Try.func60, Try.ntmps60
   go_wp2_with fail
   go_ret
   exact ⟨by rw [HB.out]; rfl, rfl⟩
 ·by_cases h4 : r = 58
  ·subst h4
   have HB : Hid (signB 58 = false) := Lib.hid (by decide)
   go_enter Try.func60, Try.ntmps60
   go_wp2_with fail
   go_ret
   exact ⟨by rw [HB.out]; rfl, rfl⟩
  by_cases h5 : r = 35
  ·subst h5
   have HB : Hid (signB 35 = false) := Lib.hid (by decide)
   go_enter Try.func60, Try.ntmps60
   go_wp2_with fail
   go_ret
   exact ⟨by rw [HB.out]; rfl, rfl⟩
  by_cases h6 : r = 43
  ·subst h6
   have HB : Hid (signB 43 = false) := Lib.hid (by decide)
   go_enter Try.func60, Try.ntmps60
   go_wp2_with fail
   go_ret
   exact ⟨by rw [HB.out]; rfl, rfl⟩
  by_cases h7 : r = 45
  ·subst h7
   have HB : Hid (signB 45 = false) := Lib.hid (by decide)
   go_enter Try.func60, Try.ntmps60
   go_wp2_with fail
   go_ret
   exact ⟨by rw [HB.out]; rfl, rfl⟩
  ·have HB : Hid (signB r = true) := Lib.hid (decide_eq_true (by omega))
   have e1 : (r == 58) = false := by simpa using h4
   have e2 : (r == 35) = false := by simpa using h5
   have e3 : (r == 43) = false := by simpa using h6
   have e4 : (r == 45) = false := by simpa using h7
   have e5 : (r == 65533) = false := by simp; omega
   clear h4 h5 h6 h7
   go_enter Try.func60, Try.ntmps60
   go_wp2_with fail
   go_ret
   exact ⟨by rw [HB.out]; rfl, rfl⟩
theorem sign_to (b : Bool) (r : Int) (w : World) (h : signB r = b) : Calls Try.prog 60 #[.int .i32 r] w fun e w' => e = .returned (.bool b) ∧ w = w' := h ▸ sign_is r w
theorem rgo_step {s : BA} {b pos n : Nat} (hp : pos < s.size) : rgo s (b + 1) pos n = if signB (Utf8.decode s pos).1 then rgo s b (pos + (Utf8.decode s pos).2) (n + 1) else false := by
 show (if pos < s.size then _ else _) = _
 rw [if_pos hp]
attribute [local irreducible] signB rgo
theorem below_iter (w : World) (s : BA) (p : Nat) : Below w.heap.size w (w.iter s p) := below1 w _
set_option maxRecDepth 100000 in
theorem right_is (s : BA) (w : World) (hs : s.size ≤ maxLen) :
 Calls Try.prog 43 #[.string s] w fun e w' => e = .returned (.bool (rightS s)) ∧ Below w.heap.size w w' := by
 have hsz : s.size ≤ 9223372036854775807 := by unfold maxLen at hs; omega
 clear hs
 go_enter Try.func43, Try.ntmps43
 go_wp2_with fail
 go_loopw [3] (fun n w' => ∃ (pos b k : Nat), w' = w.iter s pos ∧ n = .int .i64 k ∧ rgo s b pos k = rightS s ∧ s.size ≤ pos + b ∧ k ≤ pos) (fun _ w' => s.size - w'.iterPos w.heap.size)
 case atStart => exact ⟨0, s.size, 0, rfl, rfl, rfl, by omega, by omega⟩
 case round =>
  obtain ⟨pos, b, k, rfl, rfl, hc, hb, hk⟩ := hrel
  by_cases hp : pos < s.size
  ·have hnx : ∀ ty, (Instr.next (.pointer (some ⟨w.heap.size, 0, none⟩)) true ty).run Try.prog (w.iter s pos) = _ := fun ty => run_next_any w s pos ty hp
   have hwd := width_pos s pos hp
   cases b with
   | zero => omega
   | succ b =>
     rw [rgo_step hp] at hc
     have HW := Lib.hid (show wrap64 ((k : Int) + 1) = (k : Int) + 1 by unfold wrap64; omega)
     obtain ⟨D, hD⟩ : ∃ D, Utf8.decode s pos = D := ⟨_, rfl⟩
     rw [hD] at hnx hwd hc
     obtain ⟨rr, wd⟩ := D
     dsimp only at hnx hwd hc
     cases hg : signB (rr : Int) with
     | true =>
       rw [if_pos hg] at hc
       have HG := Lib.hid hg
       have HC := Lib.hid hc
       have hw := HW.out
       clear hg hc hD
       go_wp2_with fail
       refine (sign_to true _ _ HG.out).mono ?_
       rintro e w1 ⟨rfl, rfl⟩
       go_wp2_with fail
       go_roundw
       case rel => exact ⟨pos + wd, b, k + 1, rfl, by go_num, HC.out, by omega, by omega⟩
       case measure => simp; omega
     | false =>
       rw [if_neg (by rw [hg]; decide)] at hc
       have HG := Lib.hid hg
       have HC := Lib.hid hc
       clear hg hc hD
       go_wp2_with fail
       refine (sign_to false _ _ HG.out).mono ?_
       rintro e w1 ⟨rfl, rfl⟩
       go_wp2_with fail
       go_ret
       exact ⟨by rw [← HC.out]; rfl, below_iter w s _⟩
  ·have hnx : ∀ ty, (Instr.next (.pointer (some ⟨w.heap.size, 0, none⟩)) true ty).run Try.prog (w.iter s pos) = _ := fun ty => run_next_end w s pos ty hp
   rw [rgo_end s b pos k hp] at hc
   by_cases h1 : 1 ≤ k
   ·by_cases h2 : k ≤ 16
    ·rw [decide_eq_true ⟨h1, h2⟩] at hc
     have HC := Lib.hid hc
     have i1 : (1 : Int) ≤ k := by omega
     have i2 : (k : Int) ≤ 16 := by omega
     clear hc h1 h2
     go_wp2_with fail
     go_ret
     exact ⟨by rw [← HC.out]; rfl, below_iter w s _⟩
    ·rw [decide_eq_false (by omega)] at hc
     have HC := Lib.hid hc
     have i1 : (1 : Int) ≤ k := by omega
     have i2 : ¬ (k : Int) ≤ 16 := by omega
     clear hc h1 h2
     go_wp2_with fail
     go_ret
     exact ⟨by rw [← HC.out]; rfl, below_iter w s _⟩
   ·rw [decide_eq_false (by omega)] at hc
    have HC := Lib.hid hc
    have i1 : ¬ (1 : Int) ≤ k := by omega
    clear hc h1
    go_wp2_with fail
    go_ret
    exact ⟨by rw [← HC.out]; rfl, below_iter w s _⟩
end Go.Proofs.Ytpohoannggdbjaa
namespace Go.Proofs.Ytpohoannggdbjaa
open Go.RowKit
set_option maxRecDepth 100000
attribute [local irreducible] signB rgo rightS
/-- block r is a map whose keys are these texts -/
def NmsAt (w : World) (r : Nat) (L : List BA) : Prop := ∃ es clock, w.heap[r]? = some (.map es clock) ∧ es.toList.map (·.key) = L.map Value.string
theorem NmsAt.below {w w' : World} {r : Nat} {L : List BA} (h : NmsAt w r L) (hb : Below w.heap.size w w') : NmsAt w' r L := by
 obtain ⟨es, clock, h1, h2⟩ := h
 exact ⟨es, clock, blk_keep hb h1, h2⟩
theorem nm_keys {es : List MapEntry} {L : List BA} (h : es.map (·.key) = L.map Value.string) : ∀ x ∈ es, MapKept.IsKey .string x.key := by
 intro x hx
 have : x.key ∈ L.map Value.string := by rw [← h]; exact List.mem_map.2 ⟨x, hx, rfl⟩
 obtain ⟨s, _, hs⟩ := List.mem_map.1 this
 rw [← hs]
 exact trivial
theorem nm_no {es : List MapEntry} {L : List BA} {s : BA} (h : es.map (·.key) = L.map Value.string) (hs : s ∉ L) : Instr.findNow .string (.string s) es 0 = some none := by
 rcases MapKept.findNow_spec (d := .string) (k := .string s) trivial es 0 (nm_keys h) with ⟨h1, _⟩ | ⟨j, e, _, h2, h3⟩
 ·exact h1
 ·exfalso
  apply hs
  have : e.key ∈ L.map Value.string := by rw [← h]; exact List.mem_map.2 ⟨e, List.mem_of_getElem? h2, rfl⟩
  obtain ⟨t, ht, he⟩ := List.mem_map.1 this
  rw [h3] at he
  cases he
  exact ht
theorem nm_yes {es : List MapEntry} {L : List BA} {s : BA} (h : es.map (·.key) = L.map Value.string) (hs : s ∈ L) : ∃ j v, Instr.findNow .string (.string s) es 0 = some (some (j, v)) := by
 rcases MapKept.findNow_spec (d := .string) (k := .string s) trivial es 0 (nm_keys h) with ⟨_, h2⟩ | ⟨j, e, h1, _, _⟩
 ·exfalso
  have : Value.string s ∈ es.map (·.key) := by rw [h]; exact List.mem_map.2 ⟨s, hs, rfl⟩
  obtain ⟨x, hx, he⟩ := List.mem_map.1 this
  exact h2 x hx he
 ·exact ⟨_, _, h1⟩
theorem info_any : (Try.prog.info? 20).map (fun i => (i.zero, i.size, i.bytes)) = some (some .nilIface, 1, 16) := by kernel_rfl
theorem run_nm_yes {w : World} {r : Nat} {L : List BA} {s : BA} (h : NmsAt w r L) (hs : s ∈ L) : ∃ v, (Instr.lookup 110 (.map (some r)) (.string s) true).run Try.prog w = .ok (.tuple #[v, .bool true]) w := by
 obtain ⟨es, clock, h1, h2⟩ := h
 obtain ⟨j, v, h3⟩ := nm_yes h2 hs
 have hc : (Instr.checkKey es.isEmpty 10000 9 (.string s)).run Try.prog w = .ok () w := MapKept.run_checkKey (k := .string s) Try.underlying9 (by simp [MapKept.IsKey]) es.isEmpty 9999
 exact ⟨v, by simp [Instr.lookup, run_underlying Try.underlying110, MapKept.run_getObj_map h1, hc, MapKept.run_findKey Try.underlying9 h3, Result.andThen]⟩
theorem run_nm_no {w : World} {r : Nat} {L : List BA} {s : BA} (h : NmsAt w r L) (hs : s ∉ L) : (Instr.lookup 110 (.map (some r)) (.string s) true).run Try.prog w = .ok (.tuple #[.nilIface, .bool false]) w := by
 obtain ⟨es, clock, h1, h2⟩ := h
 have h3 := nm_no h2 hs
 have hc : (Instr.checkKey es.isEmpty 10000 9 (.string s)).run Try.prog w = .ok () w := MapKept.run_checkKey (k := .string s) Try.underlying9 (by simp [MapKept.IsKey]) es.isEmpty 9999
 obtain ⟨i0, hi, hz0, _, _⟩ := info_parts info_any
 have hz : (zeroValue 20).run Try.prog w = .ok .nilIface w := by simp [zeroValue, typeInfo, hi, hz0, Result.andThen]
 simp [Instr.lookup, run_underlying Try.underlying110, MapKept.run_getObj_map h1, hc, MapKept.run_findKey Try.underlying9 h3, hz, Result.andThen]
theorem run_nm_put {w : World} {r : Nat} {L : List BA} {s : BA} (v : Value) (h : NmsAt w r L) (hs : s ∉ L) : ∃ w', (Instr.mapUpdate 110 (.map (some r)) (.string s) v).run Try.prog w = .ok () w' ∧ NmsAt w' r (L ++ [s]) ∧ Only r w w' := by
 obtain ⟨es, clock, h1, h2⟩ := h
 have h3 := nm_no h2 hs
 have hc : (Instr.checkKey false 10000 9 (.string s)).run Try.prog w = .ok () w := MapKept.run_checkKey (k := .string s) Try.underlying9 (by simp [MapKept.IsKey]) false 9999
 refine ⟨{ w with heap := w.heap.setIfInBounds r (.map (es.push { key := .string s, val := v, born := clock }) (clock + 1)) }, ?_, ?_, ?_⟩
 ·simp [Instr.mapUpdate, run_underlying Try.underlying110, MapKept.run_getObj_map h1, hc, MapKept.run_findKey Try.underlying9 h3, MapKept.run_setObj_map _ h1, Result.andThen]
 ·exact ⟨_, _, (MapKept.heap_set h1).1, by rw [Array.toList_push, List.map_append, h2, List.map_append]; rfl⟩
 ·exact ⟨rfl, rfl, rfl, by simp, fun k _ hk => (MapKept.heap_set h1).2 k hk⟩
/-- block gb is a book with the names L, which lie in block r -/
structure BookAt (w : World) (gb r : Nat) (L : List BA) : Prop where
 b : ∃ v0 v1 v2 v3 : Value, w.heap[gb]? = some (.cells #[v0, v1, v2, v3, .map (some r)] 112)
 n : NmsAt w r L
 ne : gb ≠ r
theorem BookAt.below {w w' : World} {gb r : Nat} {L : List BA} (h : BookAt w gb r L) (hb : Below w.heap.size w w') : BookAt w' gb r L := by
 obtain ⟨⟨v0, v1, v2, v3, h1⟩, h2, h3⟩ := h
 exact ⟨⟨v0, v1, v2, v3, blk_keep hb h1⟩, h2.below hb, h3⟩
theorem fresh_yes (gb r : Nat) (L : List BA) (s : BA) (v : Value) (w : World) (h : BookAt w gb r L) (hs : s ∉ L) :
 Calls Try.prog 44 #[.pointer (some ⟨gb, 0, none⟩), .string s, v] w fun e w' => e = .returned (.bool true) ∧ BookAt w' gb r (L ++ [s]) ∧ Only r w w' := by
 obtain ⟨⟨v0, v1, v2, v3, h1⟩, h2, h3⟩ := h
 have c4 := blk_cell h1 4 _ rfl
 have hlk := run_nm_no h2 hs
 obtain ⟨w1, hup, hn, ho⟩ := run_nm_put v h2 hs
 have HE : Hid (BookAt w1 gb r (L ++ [s]) ∧ Only r w w1) := Lib.hid ⟨⟨⟨v0, v1, v2, v3, ho.keep h3 h1⟩, hn, h3⟩, ho⟩
 clear h1 h2 h3 hn ho hs
 go_enter Try.func44, Try.ntmps44
 go_wp2_with fail
 go_ret
 exact ⟨rfl, HE.out.1, HE.out.2⟩
theorem fresh_no (gb r : Nat) (L : List BA) (s : BA) (v : Value) (w : World) (h : BookAt w gb r L) (hs : s ∈ L) :
 Calls Try.prog 44 #[.pointer (some ⟨gb, 0, none⟩), .string s, v] w fun e w' => e = .returned (.bool false) ∧ w = w' := by
 obtain ⟨⟨v0, v1, v2, v3, h1⟩, h2, h3⟩ := h
 have c4 := blk_cell h1 4 _ rfl
 obtain ⟨u, hlk⟩ := run_nm_yes h2 hs
 clear h1 h2 h3 hs
 go_enter Try.func44, Try.ntmps44
 go_wp2_with fail
 go_ret
 exact ⟨rfl, rfl⟩
/-- are all numbers from 0 up to n, n left out? -/
def belowB (n : Nat) (l : List Int) : Bool := l.all fun x => decide (0 ≤ x ∧ x < (n : Int))
theorem belowB_snoc (n : Nat) (l : List Int) (x : Int) : belowB n (l ++ [x]) = (belowB n l && decide (0 ≤ x ∧ x < (n : Int))) := by unfold belowB; rw [List.all_append]; simp
theorem belowB_take {n : Nat} {l : List Int} {k : Nat} {x : Int} (h : l[k]? = some x) : belowB n (l.take (k + 1)) = (belowB n (l.take k) && decide (0 ≤ x ∧ x < (n : Int))) := by
 rw [List.take_add_one, h]; exact belowB_snoc _ _ _
theorem belowB_false {n : Nat} {l : List Int} {k : Nat} {x : Int} (h : l[k]? = some x) (hx : ¬ (0 ≤ x ∧ x < (n : Int))) : belowB n l = false := by
 unfold belowB
 rw [List.all_eq_false]
 exact ⟨x, List.mem_of_getElem? h, by simp; omega⟩
attribute [local irreducible] belowB
theorem below_is (n : Nat) (x : Option Addr) (m c : Nat) (l : List Int) (w : World) (hn : l.length = m) (hm : m ≤ 9223372036854775807) (hl : RowAt 1 intC w x l) :
 Calls Try.prog 45 #[.int .i64 (n : Int), .slice x m c] w fun e w' => e = .returned (.bool (belowB n l)) ∧ w = w' := by
 have HN := Lib.hid hn
 clear hn
 go_enter Try.func45, Try.ntmps45
 go_wp2_with fail
 go_loopg [6, 9] m (fun g _ i wr => ∃ k : Nat, k + g = m ∧ i = .int .i64 (k : Int) ∧ belowB n (l.take k) = true ∧ w = wr)
 case atStart => exact ⟨0, by omega, rfl, by unfold belowB; rfl, rfl⟩
 case round =>
  obtain ⟨k, hk, rfl, hb, rfl⟩ := hrel
  have HB := Lib.hid hb
  clear hb
  by_cases hlt : k < m
  ·obtain ⟨y, hy⟩ : ∃ y, l[k]? = some y := ⟨_, List.getElem?_eq_getElem (by rw [HN.out]; exact hlt)⟩
   rcases hl with rfl | ⟨b, off, rfl, hc⟩
   ·simp at hy
   have z0 := hc k y hy 0 _ rfl
   rw [Nat.add_zero, Nat.mul_one] at z0
   have HY := Lib.hid hy
   have d1 : (0 : Int) ≤ k := by omega
   have d2 : (k : Int) < m := by omega
   have e1 : wrap64 ((k : Int) + 1) = (k : Int) + 1 := by unfold wrap64; omega
   have HK := Lib.hid hk
   clear hc hy hk
   by_cases h1 : y < 0
   ·have HF := Lib.hid (belowB_false (n := n) HY.out (by omega))
    go_wp2_with fail
    go_ret
    exact ⟨by rw [HF.out]; rfl, rfl⟩
   by_cases h2 : (n : Int) ≤ y
   ·have HF := Lib.hid (belowB_false (n := n) HY.out (by omega))
    go_wp2_with fail
    go_ret
    exact ⟨by rw [HF.out]; rfl, rfl⟩
   ·have HT : Hid (belowB n (l.take (k + 1)) = true) := Lib.hid (by rw [belowB_take HY.out, HB.out, decide_eq_true (by omega)]; rfl)
    go_wp2_with fail
    go_roundg (m - (k + 1))
    case rel => exact ⟨k + 1, by have := HK.out; omega, by go_num, HT.out, rfl⟩
    case measure => have := HK.out; omega
  ·obtain rfl : k = m := by omega
   have HT : Hid (belowB n l = true) := Lib.hid (by have := HB.out; rwa [List.take_of_length_le (by rw [HN.out]; exact Nat.le_refl _)] at this)
   go_wp2_with fail
   go_ret
   exact ⟨by rw [HT.out]; rfl, rfl⟩
end Go.Proofs.Ytpohoannggdbjaa
namespace Go.Proofs.Ytpohoannggdbjaa
open Go.RowKit
set_option maxRecDepth 100000

def mayB (n : Nat) (l : List (Int × Bool)) : Bool := decide (l.length ≤ 16) && belowB n (l.map (·.1))
def hasN (pre : List BA) (s : BA) : Bool := pre.any fun x => decide (x = s)
theorem hasN_iff {pre : List BA} {s : BA} : hasN pre s = true ↔ s ∈ pre := by
 unfold hasN
 rw [List.any_eq_true]
 constructor
 ·rintro ⟨x, hx, h⟩; have := of_decide_eq_true h; subst this; exact hx
 ·exact fun h => ⟨s, h, decide_eq_true rfl⟩
def okNm (pre : List BA) (s : BA) : Bool := rightS s && !hasN pre s
def nmsFrom : List BA → List BA → Bool
 | _, [] => true
 | pre, s :: t => okNm pre s && nmsFrom (pre ++ [s]) t
def ptsFrom (pre : List BA) (n : Nat) (l : List (BA × Int)) : Bool := nmsFrom pre (l.map (·.1)) && belowB n (l.map (·.2))
def rtB (S P : Nat) (r : Rt) : Bool := decide (r.pa.l.length ≤ 16) && decide (r.ov.l.length ≤ 16) && belowB S r.pa.l && belowB S r.ov.l && (mayB P r.po.l && mayB P r.fl.l)
def rtsFrom (pre : List BA) (G S P : Nat) (l : List Rt) : Bool := nmsFrom pre (l.map (·.nm)) && belowB G (l.map (·.sg)) && l.all (rtB S P)
def Lay.n1 (L : Lay) : List BA := L.se.l
def Lay.n2 (L : Lay) : List BA := L.se.l ++ L.po.l.map (·.1)
def Lay.n3 (L : Lay) : List BA := L.n2 ++ L.sg.l.map (·.1)
def Lay.small (L : Lay) : Bool := decide (L.se.l.length ≤ 64 ∧ L.po.l.length ≤ 32 ∧ L.sg.l.length ≤ 32 ∧ L.rt.l.length ≤ 64)
def mayS (L : Lay) : Bool := L.small && (nmsFrom [] L.se.l && ptsFrom L.n1 L.se.l.length L.po.l && ptsFrom L.n2 L.se.l.length L.sg.l && rtsFrom L.n3 L.sg.l.length L.se.l.length L.po.l.length L.rt.l)
theorem nms_snoc (s : BA) : ∀ (l pre : List BA), nmsFrom pre (l ++ [s]) = (nmsFrom pre l && okNm (pre ++ l) s) := by
 intro l
 induction l with
 | nil => intro pre; simp [nmsFrom]
 | cons a l ih => intro pre; simp [nmsFrom, ih, Bool.and_assoc]
theorem nms_append : ∀ (l m pre : List BA), nmsFrom pre (l ++ m) = (nmsFrom pre l && nmsFrom (pre ++ l) m) := by
 intro l
 induction l with
 | nil => intro m pre; simp [nmsFrom]
 | cons a l ih => intro m pre; simp [nmsFrom, ih, Bool.and_assoc]
theorem nms_take {pre l : List BA} {k : Nat} {s : BA} (h : l[k]? = some s) : nmsFrom pre (l.take (k + 1)) = (nmsFrom pre (l.take k) && okNm (pre ++ l.take k) s) := by
 rw [List.take_add_one, h]; exact nms_snoc _ _ _
theorem take_map {α β : Type} {f : α → β} {l : List α} {k : Nat} : (l.take k).map f = (l.map f).take k := List.map_take
theorem get_map {α β : Type} {f : α → β} {l : List α} {k : Nat} {c : α} (h : l[k]? = some c) : (l.map f)[k]? = some (f c) := by rw [List.getElem?_map, h]; rfl
theorem pts_take {pre : List BA} {n : Nat} {l : List (BA × Int)} {k : Nat} {c : BA × Int} (h : l[k]? = some c) : ptsFrom pre n (l.take (k + 1)) = (ptsFrom pre n (l.take k) && (okNm (pre ++ (l.take k).map (·.1)) c.1 && decide (0 ≤ c.2 ∧ c.2 < (n : Int)))) := by
 unfold ptsFrom
 rw [take_map, take_map, nms_take (get_map h), belowB_take (get_map h), take_map, take_map]
 cases nmsFrom pre ((l.map (·.1)).take k) <;> cases belowB n ((l.map (·.2)).take k) <;> simp
theorem rts_take {pre : List BA} {G S P : Nat} {l : List Rt} {k : Nat} {c : Rt} (h : l[k]? = some c) : rtsFrom pre G S P (l.take (k + 1)) = (rtsFrom pre G S P (l.take k) && (okNm (pre ++ (l.take k).map (·.nm)) c.nm && decide (0 ≤ c.sg ∧ c.sg < (G : Int)) && rtB S P c)) := by
 have ha : (l.take (k + 1)).all (rtB S P) = ((l.take k).all (rtB S P) && rtB S P c) := by rw [List.take_add_one, h, List.all_append]; simp
 unfold rtsFrom
 rw [ha, take_map, take_map, nms_take (get_map h), belowB_take (get_map h), take_map, take_map]
 cases nmsFrom pre ((l.map (·.nm)).take k) <;> cases belowB G ((l.map (·.sg)).take k) <;> cases (l.take k).all (rtB S P) <;> simp
theorem belowB_one (n : Nat) (x : Int) : belowB n [x] = decide (0 ≤ x ∧ x < (n : Int)) := by unfold belowB; simp
theorem right_to (b : Bool) (s : BA) (w : World) (hs : s.size ≤ maxLen) (h : rightS s = b) : Calls Try.prog 43 #[.string s] w fun e w' => e = .returned (.bool b) ∧ Below w.heap.size w w' := h ▸ right_is s w hs
theorem below_to (B : Bool) (n : Nat) (x : Option Addr) (m c : Nat) (l : List Int) (w : World) (hB : belowB n l = B) (hn : l.length = m) (hm : m ≤ 9223372036854775807) (hl : RowAt 1 intC w x l) :
 Calls Try.prog 45 #[.int .i64 (n : Int), .slice x m c] w fun e w' => e = .returned (.bool B) ∧ w = w' := hB ▸ below_is n x m c l w hn hm hl
theorem row_one {w : World} {g : Nat} {x : Int} {t : TypeId} {fr : Nat × Nat} (h : w.heap[g]? = some (.cells #[.int .i64 x] t fr)) : RowAt 1 intC w (some ⟨g, 0, none⟩) [x] := by
 refine .inr ⟨g, 0, rfl, fun i c hi j v hv => ?_⟩
 have hi1 : i < 1 := (List.getElem?_eq_some_iff.1 hi).1
 have hj1 : j < 1 := (List.getElem?_eq_some_iff.1 hv).1
 obtain rfl : i = 0 := by omega
 obtain rfl : j = 0 := by omega
 simp at hi hv
 subst hi
 simp [intC] at hv
 subst hv
 exact blk_cell h 0 _ rfl
theorem one_below (n : Nat) (x : Int) (w : World) (g : Nat) (t : TypeId) (fr : Nat × Nat) (h : w.heap[g]? = some (.cells #[.int .i64 x] t fr)) : Calls Try.prog 45 #[.int .i64 (n : Int), .slice (some ⟨g, 0, none⟩) 1 1] w fun e w' => e = .returned (.bool (decide (0 ≤ x ∧ x < (n : Int)))) ∧ w = w' :=
 below_to _ n _ 1 1 [x] _ (belowB_one n x) rfl (by omega) (row_one h)
theorem mayB_long {n : Nat} {l : List (Int × Bool)} (h : ¬ l.length ≤ 16) : mayB n l = false := by unfold mayB; rw [decide_eq_false h]; rfl
theorem mayB_out {n : Nat} {l : List (Int × Bool)} {k : Nat} {c : Int × Bool} (h : l[k]? = some c) (hx : ¬ (0 ≤ c.1 ∧ c.1 < (n : Int))) : mayB n l = false := by
 unfold mayB; rw [belowB_false (get_map h) hx, Bool.and_false]
attribute [local irreducible] belowB mayB okNm nmsFrom
set_option maxHeartbeats 1000000 in
theorem may_is (p : Nat) (x : Option Addr) (m c : Nat) (l : List (Int × Bool)) (w : World) (hn : l.length = m) (hm : m ≤ 9223372036854775807) (hl : RowAt 2 ndC w x l) :
 Calls Try.prog 46 #[.slice x m c, .int .i64 (p : Int)] w fun e w' => e = .returned (.bool (mayB p l)) ∧ Below w.heap.size w w' := by
 have HN := Lib.hid hn
 clear hn
 go_enter Try.func46, Try.ntmps46
 go_wp2_with fail
 go_loopg [5, 6, 9] m (fun g _ _ i wr => ∃ k : Nat, k + g = m ∧ k ≤ 16 ∧ i = .int .i64 (k : Int) ∧ belowB p ((l.map (·.1)).take k) = true ∧ Below w.heap.size w wr)
 case atStart => exact ⟨0, by omega, by omega, rfl, by unfold belowB; rfl, Below.refl _ _⟩
 case round =>
  obtain ⟨k, hk, hk16, rfl, hb, hbw⟩ := hrel
  have HB := Lib.hid hb
  clear hb
  by_cases hlt : k < m
  ·obtain ⟨y, hy⟩ : ∃ y, l[k]? = some y := ⟨_, List.getElem?_eq_getElem (by rw [HN.out]; exact hlt)⟩
   have hl2 := hl.below hbw
   rcases hl2 with rfl | ⟨b, off, rfl, hc⟩
   ·simp at hy
   obtain ⟨y0, y1⟩ := y
   have z0 := hc k _ hy 0 _ rfl
   have z1 := hc k _ hy 1 _ rfl
   rw [Nat.add_zero] at z0
   dsimp only at z0 z1
   have HY := Lib.hid hy
   have d1 : (0 : Int) ≤ k := by omega
   have d2 : (k : Int) < m := by omega
   have e1 : wrap64 ((k : Int) + 1) = (k : Int) + 1 := by unfold wrap64; omega
   have HK := Lib.hid hk
   have HBW := Lib.hid hbw
   clear hc hy hk hbw
   by_cases h16 : k = 16
   ·have HF : Hid (mayB p l = false) := Lib.hid (mayB_long (by have := HN.out; omega))
    have h3 : (16 : Int) ≤ k := by omega
    clear hk16 h16
    go_wp2_with fail
    go_ret
    refine ⟨by rw [HF.out]; rfl, ?_⟩
    exact below_on HBW.out (below1 _ _)
   have h3 : ¬ (16 : Int) ≤ k := by omega
   have HK16 := Lib.hid (show k + 1 ≤ 16 by omega)
   clear hk16 h16
   obtain ⟨D, hD⟩ : ∃ D, decide (0 ≤ y0 ∧ y0 < (p : Int)) = D := ⟨_, rfl⟩
   have HKK : Hid (∀ (W : World) (g : Nat), W.heap[g]? = some (.cells #[.int .i64 y0] 3) → Calls Try.prog 45 #[.int .i64 (p : Int), .slice (some ⟨g, 0, none⟩) 1 1] W fun e w' => e = .returned (.bool D) ∧ W = w') := Lib.hid (fun W g h => hD ▸ one_below p y0 W g 3 (0, 0) h)
   cases D with
   | true =>
     have HT : Hid (belowB p ((l.map (·.1)).take (k + 1)) = true) := Lib.hid (by rw [belowB_take (get_map HY.out), HB.out, hD]; rfl)
     clear hD
     go_wp2_with fail
     refine (HKK.out _ _ (alloc2' wr _ _).2).mono ?_
     rintro e w7 ⟨rfl, rfl⟩
     go_wp2_with fail
     go_roundg (m - (k + 1))
     case rel => exact ⟨k + 1, by have := HK.out; omega, HK16.out, by go_num, HT.out, below_on HBW.out (below2' wr _ _)⟩
     case measure => have := HK.out; omega
   | false =>
     have HF : Hid (mayB p l = false) := Lib.hid (mayB_out HY.out (by dsimp only; exact of_decide_eq_false hD))
     clear hD
     go_wp2_with fail
     refine (HKK.out _ _ (alloc2' wr _ _).2).mono ?_
     rintro e w7 ⟨rfl, rfl⟩
     go_wp2_with fail
     go_ret
     exact ⟨by rw [HF.out]; rfl, below_on HBW.out (below2' wr _ _)⟩
  ·obtain rfl : k = m := by omega
   have HT : Hid (mayB p l = true) := Lib.hid (by
    have h1 := HB.out
    rw [List.take_of_length_le (by rw [List.length_map, HN.out]; exact Nat.le_refl _)] at h1
    have h2 := HN.out
    unfold mayB
    rw [h1, decide_eq_true (by omega)]; rfl)
   have HBW := Lib.hid hbw
   clear hbw
   go_wp2_with fail
   go_ret
   exact ⟨by rw [HT.out]; rfl, HBW.out⟩
theorem may_to (B : Bool) (p : Nat) (x : Option Addr) (m c : Nat) (l : List (Int × Bool)) (w : World) (hB : mayB p l = B) (hn : l.length = m) (hm : m ≤ 9223372036854775807) (hl : RowAt 2 ndC w x l) :
 Calls Try.prog 46 #[.slice x m c, .int .i64 (p : Int)] w fun e w' => e = .returned (.bool B) ∧ Below w.heap.size w w' := hB ▸ may_is p x m c l w hn hm hl
end Go.Proofs.Ytpohoannggdbjaa
namespace Go.Proofs.Ytpohoannggdbjaa
open Go.RowKit
set_option maxRecDepth 100000

/-- what lies in memory while May runs: the layout's copy, the book, its names -/
structure MyAt (w0 w : World) (gl gb r : Nat) (L : Lay) : Prop where
 lay : w.heap[gl]? = some (.cells #[L.se.v, L.po.v, L.sg.v, L.rt.v] 27)
 o1 : w0.heap.size ≤ gl
 o2 : gl < r
 o3 : r < gb
 o4 : gb < w.heap.size
 below : Below w0.heap.size w0 w
theorem MyAt.step {w0 w w' : World} {gl gb r : Nat} {L : Lay} (h : MyAt w0 w gl gb r L) (hb : Below w.heap.size w w') : MyAt w0 w' gl gb r L := ⟨blk_keep hb h.lay, h.o1, h.o2, h.o3, Nat.lt_of_lt_of_le h.o4 hb.size, h.below.trans (hb.mono h.below.size)⟩
theorem MyAt.only {w0 w w' : World} {gl gb r : Nat} {L : Lay} (h : MyAt w0 w gl gb r L) (ho : Only r w w') : MyAt w0 w' gl gb r L := by
 obtain ⟨h1, o1, o2, o3, o4, bl⟩ := h
 exact ⟨ho.keep (by omega) h1, o1, o2, o3, Nat.lt_of_lt_of_le o4 ho.size, Only.below bl (by omega) bl.size ho⟩
theorem hasN_no {pre : List BA} {s : BA} (h : hasN pre s = false) : s ∉ pre := fun hm => by rw [hasN_iff.2 hm] at h; exact absurd h (by decide)
theorem okNm_r {pre : List BA} {s : BA} (h : rightS s = false) : okNm pre s = false := by unfold okNm; rw [h]; rfl
theorem okNm_t {pre : List BA} {s : BA} (h : hasN pre s = true) : okNm pre s = false := by unfold okNm; rw [h]; simp
theorem okNm_y {pre : List BA} {s : BA} (h1 : rightS s = true) (h2 : hasN pre s = false) : okNm pre s = true := by unfold okNm; rw [h1, h2]; rfl
theorem name_world05 {P : Program} {c : Code} {Q : Exit → Act → World → Prop} {a : Act} {w : World} (h : ∀ W, W = w → c.wp P Q a W) : c.wp P Q a w := h w rfl
theorem st1_0 {l : List BA} {k : Nat} {s : BA} (h : l[k]? = some s) (hs : nmsFrom [] (l.take k) = false) : nmsFrom [] (l.take (k + 1)) = false := by rw [nms_take h, hs]; rfl
theorem st1_b {l : List BA} {k : Nat} {s : BA} {b : Bool} (h : l[k]? = some s) (hs : nmsFrom [] (l.take k) = true) (hb : okNm (l.take k) s = b) : nmsFrom [] (l.take (k + 1)) = b := by rw [nms_take h, hs, List.nil_append, hb]; rfl
theorem st2_0 {A : Bool} {pre : List BA} {n : Nat} {l : List (BA × Int)} {k : Nat} {c : BA × Int} (h : l[k]? = some c) (hs : (A && ptsFrom pre n (l.take k)) = false) : (A && ptsFrom pre n (l.take (k + 1))) = false := by rw [pts_take h, ← Bool.and_assoc, hs]; rfl
theorem st2_n {A : Bool} {pre : List BA} {n : Nat} {l : List (BA × Int)} {k : Nat} {c : BA × Int} (h : l[k]? = some c) (hb : okNm (pre ++ (l.take k).map (·.1)) c.1 = false) : (A && ptsFrom pre n (l.take (k + 1))) = false := by rw [pts_take h, hb]; simp
theorem st2_b {A : Bool} {pre : List BA} {n : Nat} {l : List (BA × Int)} {k : Nat} {c : BA × Int} {d : Bool} (h : l[k]? = some c) (hs : (A && ptsFrom pre n (l.take k)) = true) (hb : okNm (pre ++ (l.take k).map (·.1)) c.1 = true) (hd : decide (0 ≤ c.2 ∧ c.2 < (n : Int)) = d) : (A && ptsFrom pre n (l.take (k + 1))) = d := by rw [pts_take h, ← Bool.and_assoc, hs, hb, hd]; simp
theorem st4_0 {A : Bool} {pre : List BA} {G S P : Nat} {l : List Rt} {k : Nat} {c : Rt} (h : l[k]? = some c) (hs : (A && rtsFrom pre G S P (l.take k)) = false) : (A && rtsFrom pre G S P (l.take (k + 1))) = false := by rw [rts_take h, ← Bool.and_assoc, hs]; rfl
theorem st4_n {A : Bool} {pre : List BA} {G S P : Nat} {l : List Rt} {k : Nat} {c : Rt} (h : l[k]? = some c) (hb : okNm (pre ++ (l.take k).map (·.nm)) c.nm = false) : (A && rtsFrom pre G S P (l.take (k + 1))) = false := by rw [rts_take h, hb]; simp
theorem st4_d {A : Bool} {pre : List BA} {G S P : Nat} {l : List Rt} {k : Nat} {c : Rt} (h : l[k]? = some c) (hb : decide (0 ≤ c.sg ∧ c.sg < (G : Int)) = false) : (A && rtsFrom pre G S P (l.take (k + 1))) = false := by rw [rts_take h, hb]; simp
theorem st4_b {A : Bool} {pre : List BA} {G S P : Nat} {l : List Rt} {k : Nat} {c : Rt} {e : Bool} (h : l[k]? = some c) (hs : (A && rtsFrom pre G S P (l.take k)) = true) (hb : okNm (pre ++ (l.take k).map (·.nm)) c.nm = true) (hd : decide (0 ≤ c.sg ∧ c.sg < (G : Int)) = true) (he : rtB S P c = e) : (A && rtsFrom pre G S P (l.take (k + 1))) = e := by rw [rts_take h, ← Bool.and_assoc, hs, hb, hd, he]; simp
theorem st4_e {A : Bool} {pre : List BA} {G S P : Nat} {l : List Rt} {k : Nat} {c : Rt} (h : l[k]? = some c) (he : rtB S P c = false) : (A && rtsFrom pre G S P (l.take (k + 1))) = false := by rw [rts_take h, he]; simp
theorem rtB_1 {S P : Nat} {c : Rt} (h : ¬ c.pa.l.length ≤ 16) : rtB S P c = false := by unfold rtB; rw [decide_eq_false h]; rfl
theorem rtB_2 {S P : Nat} {c : Rt} (h : ¬ c.ov.l.length ≤ 16) : rtB S P c = false := by unfold rtB; rw [decide_eq_false h]; simp
theorem rtB_3 {S P : Nat} {c : Rt} (h : belowB S c.pa.l = false) : rtB S P c = false := by unfold rtB; rw [h]; simp
theorem rtB_4 {S P : Nat} {c : Rt} (h : belowB S c.ov.l = false) : rtB S P c = false := by unfold rtB; rw [h]; simp
theorem rtB_5 {S P : Nat} {c : Rt} (h : mayB P c.po.l = false) : rtB S P c = false := by unfold rtB; rw [h]; simp
theorem rtB_6 {S P : Nat} {c : Rt} (h : mayB P c.fl.l = false) : rtB S P c = false := by unfold rtB; rw [h]; simp
theorem rtB_7 {S P : Nat} {c : Rt} (h1 : c.pa.l.length ≤ 16) (h2 : c.ov.l.length ≤ 16) (h3 : belowB S c.pa.l = true) (h4 : belowB S c.ov.l = true) (h5 : mayB P c.po.l = true) (h6 : mayB P c.fl.l = true) : rtB S P c = true := by
 unfold rtB; rw [decide_eq_true h1, decide_eq_true h2, h3, h4, h5, h6]; rfl
theorem may_end {L : Lay} {A2 A3 b : Bool} (h0 : L.small = true) (h2 : (nmsFrom [] L.se.l && ptsFrom L.n1 L.se.l.length L.po.l) = A2) (h3 : (A2 && ptsFrom L.n2 L.se.l.length L.sg.l) = A3) (h4 : (A3 && rtsFrom L.n3 L.sg.l.length L.se.l.length L.po.l.length L.rt.l) = b) : mayS L = b := by
 unfold mayS; rw [h0, ← h4, ← h3, ← h2]; rfl
theorem may_big {L : Lay} (h0 : L.small = false) : mayS L = false := by unfold mayS; rw [h0]; rfl
theorem small_no {L : Lay} (h : ¬ (L.se.l.length ≤ 64 ∧ L.po.l.length ≤ 32 ∧ L.sg.l.length ≤ 32 ∧ L.rt.l.length ≤ 64)) : L.small = false := decide_eq_false h
theorem small_yes {L : Lay} (h1 : L.se.l.length ≤ 64) (h2 : L.po.l.length ≤ 32) (h3 : L.sg.l.length ≤ 32) (h4 : L.rt.l.length ≤ 64) : L.small = true := decide_eq_true ⟨h1, h2, h3, h4⟩
theorem n2_eq (L : Lay) : L.n1 ++ L.po.l.map (·.1) = L.n2 := rfl
theorem n3_eq (L : Lay) : L.n2 ++ L.sg.l.map (·.1) = L.n3 := rfl
theorem n1_eq (L : Lay) : L.se.l = L.n1 := rfl
theorem pts_nil (pre : List BA) (n : Nat) : ptsFrom pre n [] = true := by unfold ptsFrom belowB; rfl
theorem rts_nil (pre : List BA) (G S P : Nat) : rtsFrom pre G S P [] = true := by unfold rtsFrom belowB; rfl
theorem nms_nil : nmsFrom [] [] = true := rfl
theorem slv2 {α : Type} {a : Option Addr} {c : Nat} {l : List α} {n : Nat} (h : l.length = n) : Sl.v (⟨a, c, l⟩ : Sl α) = .slice a n c := by unfold Sl.v; rw [h]
theorem slv {α : Type} {s : Sl α} {n : Nat} (h : s.l.length = n) : s.v = .slice s.a n s.c := by unfold Sl.v; rw [h]
theorem take_names {α : Type} {f : α → BA} {l : List α} {k : Nat} {c : α} (h : l[k]? = some c) : (l.take (k + 1)).map f = (l.take k).map f ++ [f c] := by rw [List.take_add_one, h, List.map_append]; rfl
theorem take_id {l : List BA} {k : Nat} {c : BA} (h : l[k]? = some c) : l.take (k + 1) = l.take k ++ [c] := by rw [List.take_add_one, h]; rfl
attribute [local irreducible] belowB mayB okNm nmsFrom ptsFrom rtsFrom rtB hasN rightS mayS Lay.small Lay.n1 Lay.n2 Lay.n3 Sl.v
set_option maxRecDepth 100000 in
set_option maxHeartbeats 200000000 in
theorem may_lay (L : Lay) (w : World) (hL : LayAt w L) : Calls Try.prog 25 #[.agg #[L.se.v, L.po.v, L.sg.v, L.rt.v]] w fun e w' => e = .returned (.bool (mayS L)) ∧ Below w.heap.size w w' := by
 have HA := Lib.hid hL
 obtain ⟨n1, hn1⟩ : ∃ n, L.se.l.length = n := ⟨_, rfl⟩
 obtain ⟨n2, hn2⟩ : ∃ n, L.po.l.length = n := ⟨_, rfl⟩
 obtain ⟨n3, hn3⟩ : ∃ n, L.sg.l.length = n := ⟨_, rfl⟩
 obtain ⟨n4, hn4⟩ : ∃ n, L.rt.l.length = n := ⟨_, rfl⟩
 have v1 := slv hn1
 have v2 := slv hn2
 have v3 := slv hn3
 have v4 := slv hn4
 have R1 := Lib.hid hL.se.row
 have R2 := Lib.hid hL.po.row
 have R3 := Lib.hid hL.sg.row
 have R4 := Lib.hid hL.rt.row
 obtain ⟨a1, ha1⟩ : ∃ a, L.se.a = a := ⟨_, rfl⟩
 obtain ⟨a2, ha2⟩ : ∃ a, L.po.a = a := ⟨_, rfl⟩
 obtain ⟨a3, ha3⟩ : ∃ a, L.sg.a = a := ⟨_, rfl⟩
 obtain ⟨a4, ha4⟩ : ∃ a, L.rt.a = a := ⟨_, rfl⟩
 obtain ⟨c1, hc1⟩ : ∃ c, L.se.c = c := ⟨_, rfl⟩
 obtain ⟨c2, hc2⟩ : ∃ c, L.po.c = c := ⟨_, rfl⟩
 obtain ⟨c3, hc3⟩ : ∃ c, L.sg.c = c := ⟨_, rfl⟩
 obtain ⟨c4, hc4⟩ : ∃ c, L.rt.c = c := ⟨_, rfl⟩
 rw [ha1, hc1] at v1
 rw [ha2, hc2] at v2
 rw [ha3, hc3] at v3
 rw [ha4, hc4] at v4
 rw [ha1] at R1
 rw [ha2] at R2
 rw [ha3] at R3
 rw [ha4] at R4
 rw [v1, v2, v3, v4]
 have N1 := Lib.hid hn1
 have N2 := Lib.hid hn2
 have N3 := Lib.hid hn3
 have N4 := Lib.hid hn4
 have HV := Lib.hid (And.intro v1 (And.intro v2 (And.intro v3 v4)))
 clear hn1 hn2 hn3 hn4 ha1 ha2 ha3 ha4 hc1 hc2 hc3 hc4 v1 v2 v3 v4 hL
 obtain ⟨gl, hgl⟩ : ∃ g, g = w.heap.size := ⟨_, rfl⟩
 by_cases x1 : 64 < n1
 ·have HF : Hid (mayS L = false) := Lib.hid (may_big (small_no (by have := N1.out; have := N2.out; have := N3.out; have := N4.out; omega)))
  have y1 : (64 : Int) < (n1 : Nat) := by omega
  clear x1
  go_enter Try.func25, Try.ntmps25
  go_wp2_with fail
  go_quiet (fail)
  go_wp2_with fail
  go_ret
  exact ⟨by rw [HF.out]; rfl, below_drewN (below1 _ _) _⟩
 have y1 : ¬ (64 : Int) < (n1 : Nat) := by omega
 by_cases x2 : 32 < n2
 ·have HF : Hid (mayS L = false) := Lib.hid (may_big (small_no (by have := N1.out; have := N2.out; have := N3.out; have := N4.out; omega)))
  have y1 : (32 : Int) < (n2 : Nat) := by omega
  clear x2
  go_enter Try.func25, Try.ntmps25
  go_wp2_with fail
  go_quiet (fail)
  go_wp2_with fail
  go_ret
  exact ⟨by rw [HF.out]; rfl, below_drewN (below1 _ _) _⟩
 have y2 : ¬ (32 : Int) < (n2 : Nat) := by omega
 by_cases x3 : 32 < n3
 ·have HF : Hid (mayS L = false) := Lib.hid (may_big (small_no (by have := N1.out; have := N2.out; have := N3.out; have := N4.out; omega)))
  have y1 : (32 : Int) < (n3 : Nat) := by omega
  clear x3
  go_enter Try.func25, Try.ntmps25
  go_wp2_with fail
  go_quiet (fail)
  go_wp2_with fail
  go_ret
  exact ⟨by rw [HF.out]; rfl, below_drewN (below1 _ _) _⟩
 have y3 : ¬ (32 : Int) < (n3 : Nat) := by omega
 by_cases x4 : 64 < n4
 ·have HF : Hid (mayS L = false) := Lib.hid (may_big (small_no (by have := N1.out; have := N2.out; have := N3.out; have := N4.out; omega)))
  have y1 : (64 : Int) < (n4 : Nat) := by omega
  clear x4
  go_enter Try.func25, Try.ntmps25
  go_wp2_with fail
  go_quiet (fail)
  go_wp2_with fail
  go_ret
  exact ⟨by rw [HF.out]; rfl, below_drewN (below1 _ _) _⟩
 have y4 : ¬ (64 : Int) < (n4 : Nat) := by omega
 have hmm : ∀ (t : TypeId) (w : World), (Instr.makeMap t none).run Try.prog w = .ok (.map (some w.heap.size)) (w.alloc (.map #[] 0)) := fun t w => by simp [Instr.makeMap, Result.andThen]
 have HSM := Lib.hid (small_yes (L := L) (by have := N1.out; omega) (by have := N2.out; omega) (by have := N3.out; omega) (by have := N4.out; omega))
 have x1 : n1 ≤ 64 := by omega
 have x2 : n2 ≤ 32 := by omega
 have x3 : n3 ≤ 32 := by omega
 have x4 : n4 ≤ 64 := by omega
 have HXX := Lib.hid (And.intro x1 (And.intro x2 (And.intro x3 x4)))
 clear x1 x2 x3 x4
 go_enter Try.func25, Try.ntmps25
 go_wp2_with fail
 go_quiet (fail)
 obtain ⟨W2, hW2⟩ : ∃ W', W' = (w.alloc (.cells #[.slice a1 n1 c1, .slice a2 n2 c2, .slice a3 n3 c3, .slice a4 n4 c4] 27)).drewN nq := ⟨_, rfl⟩
 have hB2 := below_drewN (below1 w (.cells #[.slice a1 n1 c1, .slice a2 n2 c2, .slice a3 n3 c3, .slice a4 n4 c4] 27)) nq
 have hl2 : W2.heap[w.heap.size]? = some (.cells #[.slice a1 n1 c1, .slice a2 n2 c2, .slice a3 n3 c3, .slice a4 n4 c4] 27) := by rw [hW2]; exact alloc1 w _ (below_drewN (Below.refl _ _) nq)
 rw [← hW2] at hB2 ⊢
 rw [← hgl] at hl2 ⊢
 clear hW2
 have HB2 := Lib.hid hB2
 have HL2 := Lib.hid hl2
 have HGL := Lib.hid hgl
 clear hgl hB2
 obtain ⟨l0, l1, l2, l3⟩ : W2.cell? ⟨gl, 0, none⟩ = some (.slice a1 n1 c1) ∧ W2.cell? ⟨gl, 1, none⟩ = some (.slice a2 n2 c2) ∧ W2.cell? ⟨gl, 2, none⟩ = some (.slice a3 n3 c3) ∧ W2.cell? ⟨gl, 3, none⟩ = some (.slice a4 n4 c4) := ⟨blk_cell hl2 0 _ rfl, blk_cell hl2 1 _ rfl, blk_cell hl2 2 _ rfl, blk_cell hl2 3 _ rfl⟩
 clear hl2 l0 l1 l2 l3
 go_upto_region 6 with fail
 refine name_world05 ?_
 intro W3 hW3
 obtain ⟨r, hr⟩ : ∃ r, r = W2.heap.size := ⟨_, rfl⟩
 obtain ⟨gb, hgb⟩ : ∃ g, g = r + 1 := ⟨_, rfl⟩
 have hM : MyAt w W3 gl gb r L := by
  obtain ⟨q1, q2⟩ := alloc2' W2 (.map #[] 0) (.cells #[.slice none 0 0, .slice none 0 0, .slice none 0 0, .slice none 0 0, .map (some W2.heap.size)] 112)
  rw [hW3]
  refine ⟨?_, by rw [HGL.out]; exact Nat.le_refl _, by rw [hr]; exact blk_lt HL2.out, by omega, by rw [hgb, hr]; exact blk_lt q2, below_on HB2.out (below2' W2 _ _)⟩
  rw [HV.out.1, HV.out.2.1, HV.out.2.2.1, HV.out.2.2.2]
  exact blk_keep (below2' W2 _ _) HL2.out
 have hK : BookAt W3 gb r [] := by
  obtain ⟨q1, q2⟩ := alloc2' W2 (.map #[] 0) (.cells #[.slice none 0 0, .slice none 0 0, .slice none 0 0, .slice none 0 0, .map (some W2.heap.size)] 112)
  rw [hW3, hgb, hr]
  exact ⟨⟨_, _, _, _, q2⟩, ⟨_, _, q1, rfl⟩, by omega⟩
 rw [← hr, ← hgb]
 have HM := Lib.hid hM
 have HBK := Lib.hid hK
 clear hW3 hr hgb hM hK HL2 HB2 hmm
 obtain ⟨l0, l1, l2, l3⟩ : W3.cell? ⟨gl, 0, none⟩ = some (.slice a1 n1 c1) ∧ W3.cell? ⟨gl, 1, none⟩ = some (.slice a2 n2 c2) ∧ W3.cell? ⟨gl, 2, none⟩ = some (.slice a3 n3 c3) ∧ W3.cell? ⟨gl, 3, none⟩ = some (.slice a4 n4 c4) := by
  obtain ⟨v1, v2, v3, v4⟩ := HV.out
  rw [← v1, ← v2, ← v3, ← v4]
  have q := HM.out.lay
  exact ⟨blk_cell q 0 _ rfl, blk_cell q 1 _ rfl, blk_cell q 2 _ rfl, blk_cell q 3 _ rfl⟩
 go_wp2_with fail
 clear l0 l1 l2 l3
 go_loopg [8, 9, 10, 49] n1 (fun g ok _ _ i wr => ∃ (k : Nat) (okv : Bool), k + g = n1 ∧ ok = .bool okv ∧ i = .int .i64 (k : Int) ∧ nmsFrom [] (L.se.l.take k) = okv ∧ (okv = true → BookAt wr gb r (L.se.l.take k)) ∧ MyAt w wr gl gb r L)
 case atStart => exact ⟨0, true, by omega, rfl, rfl, nms_nil, fun _ => by rw [List.take_zero]; exact HBK.out, HM.out⟩
 case round =>
  obtain ⟨k, okv, hk, rfl, rfl, hst, hbk, hM⟩ := hrel
  clear HM HBK
  have HM := Lib.hid hM
  have HS := Lib.hid hst
  have HBK := Lib.hid hbk
  clear hst hbk hM
  by_cases hlt : k < n1
  ·obtain ⟨y, hy⟩ : ∃ y, L.se.l[k]? = some y := ⟨_, List.getElem?_eq_getElem (by rw [N1.out]; exact hlt)⟩
   rcases R1.out.below HM.out.below with hnil | ⟨xb, off, rfl, hc⟩
   ·rw [hnil] at hy; simp at hy
   have z0 := hc k _ hy 0 _ rfl
   rw [Nat.add_zero, Nat.mul_one] at z0
   have HN := Lib.hid (HA.out.sn y (List.mem_of_getElem? hy))
   have HY := Lib.hid hy
   have d1 : (0 : Int) ≤ k := by omega
   have d2 : (k : Int) < n1 := by omega
   have e1 : wrap64 ((k : Int) + 1) = (k : Int) + 1 := by have := HXX.out; unfold wrap64; omega
   have HK := Lib.hid hk
   clear hc hy hk
   cases okv with
   | false =>
     have HX := Lib.hid (st1_0 HY.out HS.out)
     go_wp2_with fail
     go_roundg (n1 - (k + 1))
     case rel => exact ⟨k + 1, false, by have := HK.out; omega, rfl, by go_num, HX.out, fun h => absurd h (by decide), HM.out⟩
     case measure => have := HK.out; omega
   | true =>
     have HM4 := HM
     have HBK4 := Lib.hid (HBK.out rfl)
     rcases Bool.eq_false_or_eq_true (rightS y) with hr | hr
     ·have HRR := Lib.hid hr
      clear hr
      go_wp2_with fail
      skip
      refine (right_to true y _ HN.out HRR.out).mono ?_
      rintro e w5 ⟨rfl, hb5⟩
      have HM5 := Lib.hid (HM4.out.step hb5)
      have HBK5 := Lib.hid (HBK4.out.below hb5)
      clear hb5
      rcases Bool.eq_false_or_eq_true (hasN (L.se.l.take k) y) with hh | hh
      ·have HX := Lib.hid (st1_b HY.out HS.out (okNm_t hh))
       have HH := Lib.hid (hasN_iff.1 hh)
       clear hh
       go_wp2_with fail
       refine (fresh_no gb r _ y _ _ HBK5.out HH.out).mono ?_
       rintro e w6 ⟨rfl, rfl⟩
       go_wp2_with fail
       go_roundg (n1 - (k + 1))
       case rel => exact ⟨k + 1, false, by have := HK.out; omega, rfl, by go_num, HX.out, fun h => absurd h (by decide), HM5.out⟩
       case measure => have := HK.out; omega
      ·have HO := Lib.hid (okNm_y HRR.out hh)
       have HH := Lib.hid (hasN_no hh)
       clear hh
       go_wp2_with fail
       refine (fresh_yes gb r _ y _ _ HBK5.out HH.out).mono ?_
       rintro e w6 ⟨rfl, hbk6, ho6⟩
       have HM6 := Lib.hid (HM5.out.only ho6)
       have HBK6 : Hid (BookAt w6 gb r (L.se.l.take (k + 1))) := Lib.hid (take_id HY.out ▸ hbk6)
       have HX := Lib.hid (st1_b HY.out HS.out HO.out)
       clear hbk6 ho6
       go_wp2_with fail
       go_roundg (n1 - (k + 1))
       case rel => exact ⟨k + 1, true, by have := HK.out; omega, rfl, by go_num, HX.out, fun _ => HBK6.out, HM6.out⟩
       case measure => have := HK.out; omega
     ·have HX := Lib.hid (st1_b HY.out HS.out (okNm_r hr))
      have HRR := Lib.hid hr
      clear hr
      go_wp2_with fail
      skip
      refine (right_to false y _ HN.out HRR.out).mono ?_
      rintro e w5 ⟨rfl, hb5⟩
      have HM5 := Lib.hid (HM4.out.step hb5)
      clear hb5
      go_wp2_with fail
      go_roundg (n1 - (k + 1))
      case rel => exact ⟨k + 1, false, by have := HK.out; omega, rfl, by go_num, HX.out, fun h => absurd h (by decide), HM5.out⟩
      case measure => have := HK.out; omega
  ·have hkn : n1 = k := by omega
   subst hkn
   have hfull : L.se.l.take n1 = L.se.l := List.take_of_length_le (by rw [N1.out]; exact Nat.le_refl _)
   rw [hfull] at HS HBK
   clear hfull
   obtain ⟨wq2, hwq⟩ : ∃ W, W = wr := ⟨_, rfl⟩
   rw [← hwq] at HM HBK ⊢
   clear hwq
   rw [n1_eq] at HBK
   obtain ⟨A1, hA1⟩ : ∃ A, okv = A := ⟨_, rfl⟩
   rw [hA1] at HS HBK ⊢
   have HS1 := HS
   clear HS hA1
   obtain ⟨l0, l1, l2, l3⟩ : wq2.cell? ⟨gl, 0, none⟩ = some (.slice a1 n1 c1) ∧ wq2.cell? ⟨gl, 1, none⟩ = some (.slice a2 n2 c2) ∧ wq2.cell? ⟨gl, 2, none⟩ = some (.slice a3 n3 c3) ∧ wq2.cell? ⟨gl, 3, none⟩ = some (.slice a4 n4 c4) := by
    obtain ⟨v1, v2, v3, v4⟩ := HV.out
    rw [← v1, ← v2, ← v3, ← v4]
    have q := HM.out.lay
    exact ⟨blk_cell q 0 _ rfl, blk_cell q 1 _ rfl, blk_cell q 2 _ rfl, blk_cell q 3 _ rfl⟩
   go_wp2_with fail
   clear l0 l1 l2 l3
   go_loopg [8, 11, 12, 70] n2 (fun g ok _ _ i wr => ∃ (k : Nat) (okv : Bool), k + g = n2 ∧ ok = .bool okv ∧ i = .int .i64 (k : Int) ∧ (A1 && ptsFrom L.n1 n1 (L.po.l.take k)) = okv ∧ (okv = true → BookAt wr gb r (L.n1 ++ (L.po.l.take k).map (·.1))) ∧ MyAt w wr gl gb r L)
   case atStart => exact ⟨0, A1, by omega, rfl, rfl, by rw [List.take_zero, pts_nil, Bool.and_true], by rw [List.take_zero, List.map_nil, List.append_nil]; exact HBK.out, HM.out⟩
   case round =>
    obtain ⟨k, okv, hk, rfl, rfl, hst, hbk, hM⟩ := hrel
    clear HM HBK
    have HM := Lib.hid hM
    have HS := Lib.hid hst
    have HBK := Lib.hid hbk
    clear hst hbk hM
    by_cases hlt : k < n2
    ·obtain ⟨y, hy⟩ : ∃ y, L.po.l[k]? = some y := ⟨_, List.getElem?_eq_getElem (by rw [N2.out]; exact hlt)⟩
     rcases R2.out.below HM.out.below with hnil | ⟨xb, off, rfl, hc⟩
     ·rw [hnil] at hy; simp at hy
     obtain ⟨y0, y1⟩ := y
     have z0 := hc k _ hy 0 _ rfl
     have z1 := hc k _ hy 1 _ rfl
     rw [Nat.add_zero] at z0
     have HN := Lib.hid (HA.out.pn _ (List.mem_of_getElem? hy))
     dsimp only at z0 z1 HN
     have HY := Lib.hid hy
     have d1 : (0 : Int) ≤ k := by omega
     have d2 : (k : Int) < n2 := by omega
     have e1 : wrap64 ((k : Int) + 1) = (k : Int) + 1 := by have := HXX.out; unfold wrap64; omega
     have HK := Lib.hid hk
     clear hc hy hk
     cases okv with
     | false =>
       have HX := Lib.hid (st2_0 HY.out HS.out)
       go_wp2_with fail
       go_roundg (n2 - (k + 1))
       case rel => exact ⟨k + 1, false, by have := HK.out; omega, rfl, by go_num, HX.out, fun h => absurd h (by decide), HM.out.step (below1 _ _)⟩
       case measure => have := HK.out; omega
     | true =>
       have hb4 := below1 wr (.cells #[.string y0, .int .i64 y1] 51)
       have HM4 := Lib.hid (HM.out.step hb4)
       have HBK4 := Lib.hid ((HBK.out rfl).below hb4)
       have hk4 : (wr.alloc (.cells #[.string y0, .int .i64 y1] 51)).heap[wr.heap.size]? = some (.cells #[.string y0, .int .i64 y1] 51) := alloc1 wr _ (Below.refl _ _)
       have HK4 := Lib.hid hk4
       have HGX := Lib.hid (show wr.heap.size ≠ r by have := HM.out.o3; have := HM.out.o4; omega)
       obtain ⟨gx, hgx⟩ : ∃ g, g = wr.heap.size := ⟨_, rfl⟩
       rw [← hgx] at HK4 HGX
       have HGG := Lib.hid hgx
       clear hb4 hk4 hgx
       rcases Bool.eq_false_or_eq_true (rightS y0) with hr | hr
       ·have HRR := Lib.hid hr
        clear hr
        go_wp2_with fail
        rw [← HGG.out]
        refine (right_to true y0 _ HN.out HRR.out).mono ?_
        rintro e w5 ⟨rfl, hb5⟩
        have HM5 := Lib.hid (HM4.out.step hb5)
        have HBK5 := Lib.hid (HBK4.out.below hb5)
        have HK5 := Lib.hid (blk_keep hb5 HK4.out)
        clear hb5
        have k0 := blk_cell HK5.out 0 _ rfl
        have k1 := blk_cell HK5.out 1 _ rfl
        rcases Bool.eq_false_or_eq_true (hasN (L.n1 ++ (L.po.l.take k).map (·.1)) y0) with hh | hh
        ·have HX := Lib.hid (st2_n (A := A1) (pre := L.n1) (n := n1) HY.out (okNm_t hh))
         have HH := Lib.hid (hasN_iff.1 hh)
         clear hh
         go_wp2_with fail
         refine (fresh_no gb r _ y0 _ _ HBK5.out HH.out).mono ?_
         rintro e w6 ⟨rfl, rfl⟩
         go_wp2_with fail
         go_roundg (n2 - (k + 1))
         case rel => exact ⟨k + 1, false, by have := HK.out; omega, rfl, by go_num, HX.out, fun h => absurd h (by decide), HM5.out⟩
         case measure => have := HK.out; omega
        ·have HO := Lib.hid (okNm_y HRR.out hh)
         have HH := Lib.hid (hasN_no hh)
         clear hh
         go_wp2_with fail
         refine (fresh_yes gb r _ y0 _ _ HBK5.out HH.out).mono ?_
         rintro e w6 ⟨rfl, hbk6, ho6⟩
         have HM6 := Lib.hid (HM5.out.only ho6)
         have HK6 := Lib.hid (ho6.keep HGX.out HK5.out)
         have HBK6 : Hid (BookAt w6 gb r (L.n1 ++ (L.po.l.take (k + 1)).map (·.1))) := Lib.hid (by rw [take_names HY.out, ← List.append_assoc]; exact hbk6)
         clear hbk6 ho6
         clear k0 k1
         have k0 := blk_cell HK6.out 0 _ rfl
         have k1 := blk_cell HK6.out 1 _ rfl
         obtain ⟨D, hD⟩ : ∃ D, decide (0 ≤ y1 ∧ y1 < (n1 : Int)) = D := ⟨_, rfl⟩
         have HKK : Hid (∀ (W : World) (g : Nat), W.heap[g]? = some (.cells #[.int .i64 y1] 3) → Calls Try.prog 45 #[.int .i64 (n1 : Int), .slice (some ⟨g, 0, none⟩) 1 1] W fun e w' => e = .returned (.bool D) ∧ W = w') := Lib.hid (fun W g h => hD ▸ one_below n1 y1 W g 3 (0, 0) h)
         have HD := Lib.hid hD
         clear hD
         have HM7 := Lib.hid (HM6.out.step (below1 w6 (.cells #[.int .i64 y1] 3)))
         have HBK7 := Lib.hid (HBK6.out.below (below1 w6 (.cells #[.int .i64 y1] 3)))
         have HK7 := Lib.hid (blk_keep (below1 w6 (.cells #[.int .i64 y1] 3)) HK6.out)
         go_wp2_with fail
         refine (HKK.out _ _ (alloc1 w6 _ (Below.refl _ _))).mono ?_
         rintro e w7 ⟨rfl, rfl⟩
         have HX := Lib.hid (st2_b HY.out HS.out HO.out HD.out)
         go_wp2_with fail
         go_roundg (n2 - (k + 1))
         case rel => exact ⟨k + 1, D, by have := HK.out; omega, rfl, by go_num, HX.out, fun _ => HBK7.out, HM7.out⟩
         case measure => have := HK.out; omega
       ·have HX := Lib.hid (st2_n (A := A1) (pre := L.n1) (n := n1) HY.out (okNm_r hr))
        have HRR := Lib.hid hr
        clear hr
        go_wp2_with fail
        rw [← HGG.out]
        refine (right_to false y0 _ HN.out HRR.out).mono ?_
        rintro e w5 ⟨rfl, hb5⟩
        have HM5 := Lib.hid (HM4.out.step hb5)
        clear hb5
        go_wp2_with fail
        go_roundg (n2 - (k + 1))
        case rel => exact ⟨k + 1, false, by have := HK.out; omega, rfl, by go_num, HX.out, fun h => absurd h (by decide), HM5.out⟩
        case measure => have := HK.out; omega
    ·have hkn : n2 = k := by omega
     subst hkn
     have hfull : L.po.l.take n2 = L.po.l := List.take_of_length_le (by rw [N2.out]; exact Nat.le_refl _)
     rw [hfull] at HS HBK
     clear hfull
     obtain ⟨wq3, hwq⟩ : ∃ W, W = wr := ⟨_, rfl⟩
     rw [← hwq] at HM HBK ⊢
     clear hwq
     rw [n2_eq] at HBK
     obtain ⟨A2, hA2⟩ : ∃ A, okv = A := ⟨_, rfl⟩
     rw [hA2] at HS HBK ⊢
     have HS2 := HS
     clear HS hA2
     obtain ⟨l0, l1, l2, l3⟩ : wq3.cell? ⟨gl, 0, none⟩ = some (.slice a1 n1 c1) ∧ wq3.cell? ⟨gl, 1, none⟩ = some (.slice a2 n2 c2) ∧ wq3.cell? ⟨gl, 2, none⟩ = some (.slice a3 n3 c3) ∧ wq3.cell? ⟨gl, 3, none⟩ = some (.slice a4 n4 c4) := by
      obtain ⟨v1, v2, v3, v4⟩ := HV.out
      rw [← v1, ← v2, ← v3, ← v4]
      have q := HM.out.lay
      exact ⟨blk_cell q 0 _ rfl, blk_cell q 1 _ rfl, blk_cell q 2 _ rfl, blk_cell q 3 _ rfl⟩
     go_wp2_with fail
     clear l0 l1 l2 l3
     go_loopg [8, 13, 14, 100] n3 (fun g ok _ _ i wr => ∃ (k : Nat) (okv : Bool), k + g = n3 ∧ ok = .bool okv ∧ i = .int .i64 (k : Int) ∧ (A2 && ptsFrom L.n2 n1 (L.sg.l.take k)) = okv ∧ (okv = true → BookAt wr gb r (L.n2 ++ (L.sg.l.take k).map (·.1))) ∧ MyAt w wr gl gb r L)
     case atStart => exact ⟨0, A2, by omega, rfl, rfl, by rw [List.take_zero, pts_nil, Bool.and_true], by rw [List.take_zero, List.map_nil, List.append_nil]; exact HBK.out, HM.out⟩
     case round =>
      obtain ⟨k, okv, hk, rfl, rfl, hst, hbk, hM⟩ := hrel
      clear HM HBK
      have HM := Lib.hid hM
      have HS := Lib.hid hst
      have HBK := Lib.hid hbk
      clear hst hbk hM
      by_cases hlt : k < n3
      ·obtain ⟨y, hy⟩ : ∃ y, L.sg.l[k]? = some y := ⟨_, List.getElem?_eq_getElem (by rw [N3.out]; exact hlt)⟩
       rcases R3.out.below HM.out.below with hnil | ⟨xb, off, rfl, hc⟩
       ·rw [hnil] at hy; simp at hy
       obtain ⟨y0, y1⟩ := y
       have z0 := hc k _ hy 0 _ rfl
       have z1 := hc k _ hy 1 _ rfl
       rw [Nat.add_zero] at z0
       have HN := Lib.hid (HA.out.gn _ (List.mem_of_getElem? hy))
       dsimp only at z0 z1 HN
       have HY := Lib.hid hy
       have d1 : (0 : Int) ≤ k := by omega
       have d2 : (k : Int) < n3 := by omega
       have e1 : wrap64 ((k : Int) + 1) = (k : Int) + 1 := by have := HXX.out; unfold wrap64; omega
       have HK := Lib.hid hk
       clear hc hy hk
       cases okv with
       | false =>
         have HX := Lib.hid (st2_0 HY.out HS.out)
         go_wp2_with fail
         go_roundg (n3 - (k + 1))
         case rel => exact ⟨k + 1, false, by have := HK.out; omega, rfl, by go_num, HX.out, fun h => absurd h (by decide), HM.out.step (below1 _ _)⟩
         case measure => have := HK.out; omega
       | true =>
         have hb4 := below1 wr (.cells #[.string y0, .int .i64 y1] 52)
         have HM4 := Lib.hid (HM.out.step hb4)
         have HBK4 := Lib.hid ((HBK.out rfl).below hb4)
         have hk4 : (wr.alloc (.cells #[.string y0, .int .i64 y1] 52)).heap[wr.heap.size]? = some (.cells #[.string y0, .int .i64 y1] 52) := alloc1 wr _ (Below.refl _ _)
         have HK4 := Lib.hid hk4
         have HGX := Lib.hid (show wr.heap.size ≠ r by have := HM.out.o3; have := HM.out.o4; omega)
         obtain ⟨gx, hgx⟩ : ∃ g, g = wr.heap.size := ⟨_, rfl⟩
         rw [← hgx] at HK4 HGX
         have HGG := Lib.hid hgx
         clear hb4 hk4 hgx
         rcases Bool.eq_false_or_eq_true (rightS y0) with hr | hr
         ·have HRR := Lib.hid hr
          clear hr
          go_wp2_with fail
          rw [← HGG.out]
          refine (right_to true y0 _ HN.out HRR.out).mono ?_
          rintro e w5 ⟨rfl, hb5⟩
          have HM5 := Lib.hid (HM4.out.step hb5)
          have HBK5 := Lib.hid (HBK4.out.below hb5)
          have HK5 := Lib.hid (blk_keep hb5 HK4.out)
          clear hb5
          have k0 := blk_cell HK5.out 0 _ rfl
          have k1 := blk_cell HK5.out 1 _ rfl
          rcases Bool.eq_false_or_eq_true (hasN (L.n2 ++ (L.sg.l.take k).map (·.1)) y0) with hh | hh
          ·have HX := Lib.hid (st2_n (A := A2) (pre := L.n2) (n := n1) HY.out (okNm_t hh))
           have HH := Lib.hid (hasN_iff.1 hh)
           clear hh
           go_wp2_with fail
           refine (fresh_no gb r _ y0 _ _ HBK5.out HH.out).mono ?_
           rintro e w6 ⟨rfl, rfl⟩
           go_wp2_with fail
           go_roundg (n3 - (k + 1))
           case rel => exact ⟨k + 1, false, by have := HK.out; omega, rfl, by go_num, HX.out, fun h => absurd h (by decide), HM5.out⟩
           case measure => have := HK.out; omega
          ·have HO := Lib.hid (okNm_y HRR.out hh)
           have HH := Lib.hid (hasN_no hh)
           clear hh
           go_wp2_with fail
           refine (fresh_yes gb r _ y0 _ _ HBK5.out HH.out).mono ?_
           rintro e w6 ⟨rfl, hbk6, ho6⟩
           have HM6 := Lib.hid (HM5.out.only ho6)
           have HK6 := Lib.hid (ho6.keep HGX.out HK5.out)
           have HBK6 : Hid (BookAt w6 gb r (L.n2 ++ (L.sg.l.take (k + 1)).map (·.1))) := Lib.hid (by rw [take_names HY.out, ← List.append_assoc]; exact hbk6)
           clear hbk6 ho6
           clear k0 k1
           have k0 := blk_cell HK6.out 0 _ rfl
           have k1 := blk_cell HK6.out 1 _ rfl
           obtain ⟨D, hD⟩ : ∃ D, decide (0 ≤ y1 ∧ y1 < (n1 : Int)) = D := ⟨_, rfl⟩
           have HKK : Hid (∀ (W : World) (g : Nat), W.heap[g]? = some (.cells #[.int .i64 y1] 3) → Calls Try.prog 45 #[.int .i64 (n1 : Int), .slice (some ⟨g, 0, none⟩) 1 1] W fun e w' => e = .returned (.bool D) ∧ W = w') := Lib.hid (fun W g h => hD ▸ one_below n1 y1 W g 3 (0, 0) h)
           have HD := Lib.hid hD
           clear hD
           have HM7 := Lib.hid (HM6.out.step (below1 w6 (.cells #[.int .i64 y1] 3)))
           have HBK7 := Lib.hid (HBK6.out.below (below1 w6 (.cells #[.int .i64 y1] 3)))
           have HK7 := Lib.hid (blk_keep (below1 w6 (.cells #[.int .i64 y1] 3)) HK6.out)
           go_wp2_with fail
           refine (HKK.out _ _ (alloc1 w6 _ (Below.refl _ _))).mono ?_
           rintro e w7 ⟨rfl, rfl⟩
           have HX := Lib.hid (st2_b HY.out HS.out HO.out HD.out)
           go_wp2_with fail
           go_roundg (n3 - (k + 1))
           case rel => exact ⟨k + 1, D, by have := HK.out; omega, rfl, by go_num, HX.out, fun _ => HBK7.out, HM7.out⟩
           case measure => have := HK.out; omega
         ·have HX := Lib.hid (st2_n (A := A2) (pre := L.n2) (n := n1) HY.out (okNm_r hr))
          have HRR := Lib.hid hr
          clear hr
          go_wp2_with fail
          rw [← HGG.out]
          refine (right_to false y0 _ HN.out HRR.out).mono ?_
          rintro e w5 ⟨rfl, hb5⟩
          have HM5 := Lib.hid (HM4.out.step hb5)
          clear hb5
          go_wp2_with fail
          go_roundg (n3 - (k + 1))
          case rel => exact ⟨k + 1, false, by have := HK.out; omega, rfl, by go_num, HX.out, fun h => absurd h (by decide), HM5.out⟩
          case measure => have := HK.out; omega
      ·have hkn : n3 = k := by omega
       subst hkn
       have hfull : L.sg.l.take n3 = L.sg.l := List.take_of_length_le (by rw [N3.out]; exact Nat.le_refl _)
       rw [hfull] at HS HBK
       clear hfull
       obtain ⟨wq4, hwq⟩ : ∃ W, W = wr := ⟨_, rfl⟩
       rw [← hwq] at HM HBK ⊢
       clear hwq
       rw [n3_eq] at HBK
       obtain ⟨A3, hA3⟩ : ∃ A, okv = A := ⟨_, rfl⟩
       rw [hA3] at HS HBK ⊢
       have HS3 := HS
       clear HS hA3
       obtain ⟨l0, l1, l2, l3⟩ : wq4.cell? ⟨gl, 0, none⟩ = some (.slice a1 n1 c1) ∧ wq4.cell? ⟨gl, 1, none⟩ = some (.slice a2 n2 c2) ∧ wq4.cell? ⟨gl, 2, none⟩ = some (.slice a3 n3 c3) ∧ wq4.cell? ⟨gl, 3, none⟩ = some (.slice a4 n4 c4) := by
        obtain ⟨v1, v2, v3, v4⟩ := HV.out
        rw [← v1, ← v2, ← v3, ← v4]
        have q := HM.out.lay
        exact ⟨blk_cell q 0 _ rfl, blk_cell q 1 _ rfl, blk_cell q 2 _ rfl, blk_cell q 3 _ rfl⟩
       go_wp2_with fail
       clear l0 l1 l2 l3
       go_loopg [8, 15, 16, 130] n4 (fun g ok _ _ i wr => ∃ (k : Nat) (okv : Bool), k + g = n4 ∧ ok = .bool okv ∧ i = .int .i64 (k : Int) ∧ (A3 && rtsFrom L.n3 n3 n1 n2 (L.rt.l.take k)) = okv ∧ (okv = true → BookAt wr gb r (L.n3 ++ (L.rt.l.take k).map (·.nm))) ∧ MyAt w wr gl gb r L)
       case atStart => exact ⟨0, A3, by omega, rfl, rfl, by rw [List.take_zero, rts_nil, Bool.and_true], by rw [List.take_zero, List.map_nil, List.append_nil]; exact HBK.out, HM.out⟩
       case round =>
        obtain ⟨k, okv, hk, rfl, rfl, hst, hbk, hM⟩ := hrel
        clear HM HBK
        have HM := Lib.hid hM
        have HS := Lib.hid hst
        have HBK := Lib.hid hbk
        clear hst hbk hM
        by_cases hlt : k < n4
        ·obtain ⟨y, hy⟩ : ∃ y, L.rt.l[k]? = some y := ⟨_, List.getElem?_eq_getElem (by rw [N4.out]; exact hlt)⟩
         rcases R4.out.below HM.out.below with hnil | ⟨xb, off, rfl, hc⟩
         ·rw [hnil] at hy; simp at hy
         have z0 := hc k _ hy 0 _ rfl
         have z1 := hc k _ hy 1 _ rfl
         have z2 := hc k _ hy 2 _ rfl
         have z3 := hc k _ hy 3 _ rfl
         have z4 := hc k _ hy 4 _ rfl
         have z5 := hc k _ hy 5 _ rfl
         rw [Nat.add_zero] at z0
         have HR := Lib.hid (HA.out.rn y (List.mem_of_getElem? hy))
         obtain ⟨nm, sg, ⟨pa, pc, pl⟩, ⟨oa, oc, ol⟩, ⟨va, vc, vl⟩, ⟨fa, fc, fl⟩⟩ := y
         have HN := Lib.hid HR.out.nm
         dsimp only at z0 z1 z2 z3 z4 z5 HN
         obtain ⟨m1, hm1⟩ : ∃ m, pl.length = m := ⟨_, rfl⟩
         obtain ⟨m2, hm2⟩ : ∃ m, ol.length = m := ⟨_, rfl⟩
         obtain ⟨m3, hm3⟩ : ∃ m, vl.length = m := ⟨_, rfl⟩
         obtain ⟨m4, hm4⟩ : ∃ m, fl.length = m := ⟨_, rfl⟩
         rw [slv2 hm1] at z2
         rw [slv2 hm2] at z3
         rw [slv2 hm3] at z4
         rw [slv2 hm4] at z5
         have HMM := Lib.hid (And.intro hm1 (And.intro hm2 (And.intro hm3 hm4)))
         clear hm1 hm2 hm3 hm4
         have HY := Lib.hid hy
         have d1 : (0 : Int) ≤ k := by omega
         have d2 : (k : Int) < n4 := by omega
         have e1 : wrap64 ((k : Int) + 1) = (k : Int) + 1 := by have := HXX.out; unfold wrap64; omega
         have HK := Lib.hid hk
         clear hc hy hk
         cases okv with
         | false =>
           have HX := Lib.hid (st4_0 HY.out HS.out)
           go_wp2_with fail
           go_roundg (n4 - (k + 1))
           case rel => exact ⟨k + 1, false, by have := HK.out; omega, rfl, by go_num, HX.out, fun h => absurd h (by decide), HM.out.step (below1 _ _)⟩
           case measure => have := HK.out; omega
         | true =>
           have hb4 := below1 wr (.cells #[.string nm, .int .i64 sg, .slice pa m1 pc, .slice oa m2 oc, .slice va m3 vc, .slice fa m4 fc] 58)
           have HM4 := Lib.hid (HM.out.step hb4)
           have HBK4 := Lib.hid ((HBK.out rfl).below hb4)
           have hk4 : (wr.alloc (.cells #[.string nm, .int .i64 sg, .slice pa m1 pc, .slice oa m2 oc, .slice va m3 vc, .slice fa m4 fc] 58)).heap[wr.heap.size]? = some (.cells #[.string nm, .int .i64 sg, .slice pa m1 pc, .slice oa m2 oc, .slice va m3 vc, .slice fa m4 fc] 58) := alloc1 wr _ (Below.refl _ _)
           have HK4 := Lib.hid hk4
           have HGX := Lib.hid (show wr.heap.size ≠ r by have := HM.out.o3; have := HM.out.o4; omega)
           obtain ⟨gx, hgx⟩ : ∃ g, g = wr.heap.size := ⟨_, rfl⟩
           rw [← hgx] at HK4 HGX
           have HGG := Lib.hid hgx
           clear hb4 hk4 hgx
           rcases Bool.eq_false_or_eq_true (rightS nm) with hr | hr
           ·have HRR := Lib.hid hr
            clear hr
            go_wp2_with fail
            rw [← HGG.out]
            refine (right_to true nm _ HN.out HRR.out).mono ?_
            rintro e w5 ⟨rfl, hb5⟩
            have HM5 := Lib.hid (HM4.out.step hb5)
            have HBK5 := Lib.hid (HBK4.out.below hb5)
            have HK5 := Lib.hid (blk_keep hb5 HK4.out)
            clear hb5
            have k0 := blk_cell HK5.out 0 _ rfl
            have k1 := blk_cell HK5.out 1 _ rfl
            have k2 := blk_cell HK5.out 2 _ rfl
            have k3 := blk_cell HK5.out 3 _ rfl
            have k4 := blk_cell HK5.out 4 _ rfl
            have k5 := blk_cell HK5.out 5 _ rfl
            rcases Bool.eq_false_or_eq_true (hasN (L.n3 ++ (L.rt.l.take k).map (·.nm)) nm) with hh | hh
            ·have HX := Lib.hid (st4_n (A := A3) (pre := L.n3) (G := n3) (S := n1) (P := n2) HY.out (okNm_t hh))
             have HH := Lib.hid (hasN_iff.1 hh)
             clear hh
             go_wp2_with fail
             refine (fresh_no gb r _ nm _ _ HBK5.out HH.out).mono ?_
             rintro e w6 ⟨rfl, rfl⟩
             go_wp2_with fail
             go_roundg (n4 - (k + 1))
             case rel => exact ⟨k + 1, false, by have := HK.out; omega, rfl, by go_num, HX.out, fun h => absurd h (by decide), HM5.out⟩
             case measure => have := HK.out; omega
            ·have HO := Lib.hid (okNm_y HRR.out hh)
             have HH := Lib.hid (hasN_no hh)
             clear hh
             go_wp2_with fail
             refine (fresh_yes gb r _ nm _ _ HBK5.out HH.out).mono ?_
             rintro e w6 ⟨rfl, hbk6, ho6⟩
             have HM6 := Lib.hid (HM5.out.only ho6)
             have HK6 := Lib.hid (ho6.keep HGX.out HK5.out)
             have HBK6 : Hid (BookAt w6 gb r (L.n3 ++ (L.rt.l.take (k + 1)).map (·.nm))) := Lib.hid (by rw [take_names HY.out, ← List.append_assoc]; exact hbk6)
             clear hbk6 ho6
             clear k0 k1 k2 k3 k4 k5
             have k0 := blk_cell HK6.out 0 _ rfl
             have k1 := blk_cell HK6.out 1 _ rfl
             have k2 := blk_cell HK6.out 2 _ rfl
             have k3 := blk_cell HK6.out 3 _ rfl
             have k4 := blk_cell HK6.out 4 _ rfl
             have k5 := blk_cell HK6.out 5 _ rfl
             obtain ⟨D, hD⟩ : ∃ D, decide (0 ≤ sg ∧ sg < (n3 : Int)) = D := ⟨_, rfl⟩
             have HKK : Hid (∀ (W : World) (g : Nat), W.heap[g]? = some (.cells #[.int .i64 sg] 3) → Calls Try.prog 45 #[.int .i64 (n3 : Int), .slice (some ⟨g, 0, none⟩) 1 1] W fun e w' => e = .returned (.bool D) ∧ W = w') := Lib.hid (fun W g h => hD ▸ one_below n3 sg W g 3 (0, 0) h)
             have HD := Lib.hid hD
             clear hD
             have HM7 := Lib.hid (HM6.out.step (below1 w6 (.cells #[.int .i64 sg] 3)))
             have HBK7 := Lib.hid (HBK6.out.below (below1 w6 (.cells #[.int .i64 sg] 3)))
             have HK7 := Lib.hid (blk_keep (below1 w6 (.cells #[.int .i64 sg] 3)) HK6.out)
             cases D with
             | false =>
               have HX := Lib.hid (st4_d (A := A3) (pre := L.n3) (S := n1) (P := n2) HY.out HD.out)
               go_wp2_with fail
               refine (HKK.out _ _ (alloc1 w6 _ (Below.refl _ _))).mono ?_
               rintro e w7 ⟨rfl, rfl⟩
               go_wp2_with fail
               go_roundg (n4 - (k + 1))
               case rel => exact ⟨k + 1, false, by have := HK.out; omega, rfl, by go_num, HX.out, fun h => absurd h (by decide), HM7.out⟩
               case measure => have := HK.out; omega
             | true =>
               have HX := Lib.hid (fun (e : Bool) (he : rtB n1 n2 ⟨nm, sg, ⟨pa, pc, pl⟩, ⟨oa, oc, ol⟩, ⟨va, vc, vl⟩, ⟨fa, fc, fl⟩⟩ = e) => st4_b HY.out HS.out HO.out HD.out he)
               go_upto_region 24 with fail
               go_wp2_with fail
               refine (HKK.out _ _ (alloc1 w6 _ (Below.refl _ _))).mono ?_
               rintro e w7 ⟨rfl, rfl⟩
               obtain ⟨W7, hW7⟩ : ∃ W, W = w6.alloc (.cells #[.int .i64 sg] 3) := ⟨_, rfl⟩
               rw [← hW7] at HM7 HBK7 HK7 ⊢
               clear hW7 HKK
               clear k0 k1 k2 k3 k4 k5
               have k0 := blk_cell HK7.out 0 _ rfl
               have k1 := blk_cell HK7.out 1 _ rfl
               have k2 := blk_cell HK7.out 2 _ rfl
               have k3 := blk_cell HK7.out 3 _ rfl
               have k4 := blk_cell HK7.out 4 _ rfl
               have k5 := blk_cell HK7.out 5 _ rfl
               by_cases t1 : (m1 : Int) ≤ 16
               case neg =>
                have HE := Lib.hid (HX.out false (rtB_1 (by dsimp only; rw [HMM.out.1]; omega)))
                go_wp2_with fail
                go_roundg (n4 - (k + 1))
                case rel => exact ⟨k + 1, false, by have := HK.out; omega, rfl, by go_num, HE.out, fun h => absurd h (by decide), HM7.out⟩
                case measure => have := HK.out; omega
               by_cases t2 : (m3 : Int) ≤ 16
               case neg =>
                have HE := Lib.hid (HX.out false (rtB_2 (by dsimp only; rw [HMM.out.2.2.1]; omega)))
                go_wp2_with fail
                go_roundg (n4 - (k + 1))
                case rel => exact ⟨k + 1, false, by have := HK.out; omega, rfl, by go_num, HE.out, fun h => absurd h (by decide), HM7.out⟩
                case measure => have := HK.out; omega
               have q1 := Lib.hid (HR.out.pa.row.below HM7.out.below)
               have q3 := Lib.hid (HR.out.ov.row.below HM7.out.below)
               dsimp only at q1 q3
               rcases Bool.eq_false_or_eq_true (belowB n1 pl) with b1 | b1
               case inr =>
                have HE := Lib.hid (HX.out false (rtB_3 b1))
                have B1 := Lib.hid b1
                clear b1
                go_wp2_with fail
                refine (below_to false n1 pa m1 pc pl _ B1.out HMM.out.1 (by omega) q1.out).mono ?_
                rintro e w8 ⟨rfl, rfl⟩
                go_wp2_with fail
                go_roundg (n4 - (k + 1))
                case rel => exact ⟨k + 1, false, by have := HK.out; omega, rfl, by go_num, HE.out, fun h => absurd h (by decide), HM7.out⟩
                case measure => have := HK.out; omega
               have B1 := Lib.hid b1
               clear b1
               rcases Bool.eq_false_or_eq_true (belowB n1 vl) with b2 | b2
               case inr =>
                have HE := Lib.hid (HX.out false (rtB_4 b2))
                have B2 := Lib.hid b2
                clear b2
                go_wp2_with fail
                refine (below_to true n1 pa m1 pc pl _ B1.out HMM.out.1 (by omega) q1.out).mono ?_
                rintro e w8 ⟨rfl, rfl⟩
                go_wp2_with fail
                refine (below_to false n1 va m3 vc vl _ B2.out HMM.out.2.2.1 (by omega) q3.out).mono ?_
                rintro e w8 ⟨rfl, rfl⟩
                go_wp2_with fail
                go_roundg (n4 - (k + 1))
                case rel => exact ⟨k + 1, false, by have := HK.out; omega, rfl, by go_num, HE.out, fun h => absurd h (by decide), HM7.out⟩
                case measure => have := HK.out; omega
               have B2 := Lib.hid b2
               clear b2
               go_wp2_with fail
               refine (below_to true n1 pa m1 pc pl _ B1.out HMM.out.1 (by omega) q1.out).mono ?_
               rintro e w8 ⟨rfl, rfl⟩
               go_wp2_with fail
               refine (below_to true n1 va m3 vc vl _ B2.out HMM.out.2.2.1 (by omega) q3.out).mono ?_
               rintro e w8 ⟨rfl, rfl⟩
               have HT := Lib.hid (And.intro t1 t2)
               have M24 := Lib.hid (show m2 ≤ 9223372036854775807 ∧ m4 ≤ 9223372036854775807 by have h2 := HR.out.po.len; have h4 := HR.out.fl.len; have g2 := HR.out.po.cap; have g4 := HR.out.fl.cap; have := HMM.out; dsimp only at h2 h4 g2 g4; unfold maxLen at g2 g4; omega)
               clear t1 t2
               rcases Bool.eq_false_or_eq_true (mayB n2 ol) with b3 | b3
               case inr =>
                have HE := Lib.hid (HX.out false (rtB_5 b3))
                have B3 := Lib.hid b3
                clear b3
                go_wp2_with fail
                refine (may_to false n2 oa m2 oc ol _ B3.out HMM.out.2.1 M24.out.1 (HR.out.po.row.below HM7.out.below)).mono ?_
                rintro e w8 ⟨rfl, hb8⟩
                have HM8 := Lib.hid (HM7.out.step hb8)
                clear hb8
                go_wp2_with fail
                go_roundg (n4 - (k + 1))
                case rel => exact ⟨k + 1, false, by have := HK.out; omega, rfl, by go_num, HE.out, fun h => absurd h (by decide), HM8.out⟩
                case measure => have := HK.out; omega
               have B3 := Lib.hid b3
               clear b3
               go_wp2_with fail
               refine (may_to true n2 oa m2 oc ol _ B3.out HMM.out.2.1 M24.out.1 (HR.out.po.row.below HM7.out.below)).mono ?_
               rintro e w8 ⟨rfl, hb8⟩
               have HM8 := Lib.hid (HM7.out.step hb8)
               have HBK8 := Lib.hid (HBK7.out.below hb8)
               have HK8 := Lib.hid (blk_keep hb8 HK7.out)
               clear hb8
               clear k0 k1 k2 k3 k4 k5
               have k0 := blk_cell HK8.out 0 _ rfl
               have k1 := blk_cell HK8.out 1 _ rfl
               have k2 := blk_cell HK8.out 2 _ rfl
               have k3 := blk_cell HK8.out 3 _ rfl
               have k4 := blk_cell HK8.out 4 _ rfl
               have k5 := blk_cell HK8.out 5 _ rfl
               rcases Bool.eq_false_or_eq_true (mayB n2 fl) with b4 | b4
               case inr =>
                have HE := Lib.hid (HX.out false (rtB_6 b4))
                have B4 := Lib.hid b4
                clear b4
                go_wp2_with fail
                refine (may_to false n2 fa m4 fc fl _ B4.out HMM.out.2.2.2 M24.out.2 (HR.out.fl.row.below HM8.out.below)).mono ?_
                rintro e w9 ⟨rfl, hb9⟩
                have HM9 := Lib.hid (HM8.out.step hb9)
                clear hb9
                go_wp2_with fail
                go_roundg (n4 - (k + 1))
                case rel => exact ⟨k + 1, false, by have := HK.out; omega, rfl, by go_num, HE.out, fun h => absurd h (by decide), HM9.out⟩
                case measure => have := HK.out; omega
               have HE := Lib.hid (HX.out true (rtB_7 (by dsimp only; rw [HMM.out.1]; have := HT.out; omega) (by dsimp only; rw [HMM.out.2.2.1]; have := HT.out; omega) B1.out B2.out B3.out b4))
               have B4 := Lib.hid b4
               clear b4
               go_wp2_with fail
               refine (may_to true n2 fa m4 fc fl _ B4.out HMM.out.2.2.2 M24.out.2 (HR.out.fl.row.below HM8.out.below)).mono ?_
               rintro e w9 ⟨rfl, hb9⟩
               have HM9 := Lib.hid (HM8.out.step hb9)
               have HBK9 := Lib.hid (HBK8.out.below hb9)
               clear hb9
               go_wp2_with fail
               go_roundg (n4 - (k + 1))
               case rel => exact ⟨k + 1, true, by have := HK.out; omega, rfl, by go_num, HE.out, fun _ => HBK9.out, HM9.out⟩
               case measure => have := HK.out; omega
           ·have HX := Lib.hid (st4_n (A := A3) (pre := L.n3) (G := n3) (S := n1) (P := n2) HY.out (okNm_r hr))
            have HRR := Lib.hid hr
            clear hr
            go_wp2_with fail
            rw [← HGG.out]
            refine (right_to false nm _ HN.out HRR.out).mono ?_
            rintro e w5 ⟨rfl, hb5⟩
            have HM5 := Lib.hid (HM4.out.step hb5)
            clear hb5
            go_wp2_with fail
            go_roundg (n4 - (k + 1))
            case rel => exact ⟨k + 1, false, by have := HK.out; omega, rfl, by go_num, HX.out, fun h => absurd h (by decide), HM5.out⟩
            case measure => have := HK.out; omega
        ·have hkn : n4 = k := by omega
         subst hkn
         have hfull : L.rt.l.take n4 = L.rt.l := List.take_of_length_le (by rw [N4.out]; exact Nat.le_refl _)
         rw [hfull] at HS HBK
         clear hfull
         obtain ⟨wq5, hwq⟩ : ∃ W, W = wr := ⟨_, rfl⟩
         rw [← hwq] at HM HBK ⊢
         clear hwq
         go_wp2_with fail
         go_ret
         have hE : mayS L = okv := by
          refine may_end (A2 := A2) (A3 := A3) HSM.out ?_ ?_ ?_
          ·rw [N1.out, HS1.out]; exact HS2.out
          ·rw [N1.out]; exact HS3.out
          ·rw [N1.out, N2.out, N3.out]; exact HS.out
         exact ⟨by rw [hE]; rfl, HM.out.below⟩
end Go.Proofs.Ytpohoannggdbjaa
namespace Go.Proofs.Ytpohoannggdbjaa
open Go.RowKit
set_option maxRecDepth 100000

section
variable {α : Type} {sz : Nat} {f : α → List Value}
theorem flat_len (hf : ∀ c, (f c).length = sz) : ∀ l : List α, (l.flatMap f).length = l.length * sz := by
 intro l
 induction l with
 | nil => simp
 | cons c l ih => rw [List.flatMap_cons, List.length_append, hf, ih, List.length_cons, Nat.add_mul, Nat.one_mul, Nat.add_comm]
theorem flat_get (hf : ∀ c, (f c).length = sz) : ∀ (l : List α) (i : Nat) (c : α) (j : Nat) (v : Value), l[i]? = some c → (f c)[j]? = some v → (l.flatMap f)[i * sz + j]? = some v := by
 intro l
 induction l with
 | nil => intro i c j v h; simp at h
 | cons d l ih =>
   intro i c j v h hj
   have hjs : j < sz := by rw [← hf c]; exact (List.getElem?_eq_some_iff.1 hj).1
   cases i with
   | zero =>
     simp at h; subst h
     rw [List.flatMap_cons, Nat.zero_mul, Nat.zero_add, List.getElem?_append_left (by rw [hf]; exact hjs)]
     exact hj
   | succ i =>
     have := ih i c j v (by simpa using h) hj
     rw [List.flatMap_cons, List.getElem?_append_right (by rw [hf, Nat.add_mul]; omega), hf]
     rw [show (i + 1) * sz + j - sz = i * sz + j by rw [Nat.add_mul]; omega]
     exact this
theorem flat_at (hf : ∀ c, (f c).length = sz) (l : List α) (j : Nat) (v : Value) (h : (l.flatMap f)[j]? = some v) : ∃ i c k, l[i]? = some c ∧ (f c)[k]? = some v ∧ j = i * sz + k := by
 have hj : j < l.length * sz := by rw [← flat_len hf]; exact (List.getElem?_eq_some_iff.1 h).1
 have hpos : 0 < sz := by
  rcases Nat.eq_zero_or_pos sz with h0 | h0
  ·rw [h0, Nat.mul_zero] at hj; omega
  ·exact h0
 have hi : j / sz < l.length := Nat.div_lt_of_lt_mul (by rw [Nat.mul_comm]; exact hj)
 have hk : j % sz < sz := Nat.mod_lt _ hpos
 have hjj : j = j / sz * sz + j % sz := by rw [Nat.mul_comm]; exact (Nat.div_add_mod j sz).symm
 have g1 : l[j / sz]? = some (l[j / sz]'hi) := List.getElem?_eq_getElem _
 have g2 : (f (l[j / sz]'hi))[j % sz]? = some ((f (l[j / sz]'hi))[j % sz]'(by rw [hf]; exact hk)) := List.getElem?_eq_getElem _
 have g3 := flat_get hf l _ _ _ _ g1 g2
 rw [← hjj, h] at g3
 refine ⟨_, _, _, g1, ?_, hjj⟩
 rw [g2]; exact g3.symm
theorem own_sl {w : World} {base : Nat} {e : TypeId} {v : Value} {n : Nat} {l : List α} (hf : ∀ c, (f c).length = sz) (hn : l.length = n) (h : w.ownsRow base e sz v n (l.flatMap f)) :
 ∃ a c, v = .slice a n c ∧ SlAt sz f w ⟨a, c, l⟩ := by
 rcases h.2 with ⟨rfl, rfl⟩ | ⟨g, cap, cur, rfl, hg, hheap, hncap, hcm, hsz, htake⟩
 ·obtain rfl := List.eq_nil_of_length_eq_zero hn
  exact ⟨none, 0, rfl, .inl rfl, Nat.le_refl _, Nat.zero_le _, fun _ => rfl⟩
 ·refine ⟨some ⟨g, 0, none⟩, cap, rfl, .inr ⟨g, 0, rfl, fun i c hi j v hv => ?_⟩, by dsimp only; omega, hcm, fun h => by cases h⟩
  have hg2 := flat_get hf l i c j v hi hv
  have hlt : i * sz + j < n * sz := by rw [← hn, ← flat_len hf]; exact (List.getElem?_eq_some_iff.1 hg2).1
  rw [Nat.zero_add]
  refine blk_cell hheap _ v ?_
  rw [← Array.getElem?_toList, ← hg2, ← htake, List.getElem?_take, if_pos hlt]
theorem src_sl {w : World} {s : Sl α} (hf : ∀ c, (f c).length = sz) (h1 : ∀ c, ∀ u ∈ f c, u.oneCell' = true) (h : SlAt sz f w s) : SrcAt w s.a s.c (s.l.flatMap f) := by
 refine ⟨fun ha => ⟨h.capNil ha, ?_⟩, ?_, ?_⟩
 ·rcases h.row with hl | ⟨b, off, hb, _⟩
  ·rw [hl]; rfl
  ·rw [ha] at hb; cases hb
 ·intro u hu
  obtain ⟨c, _, hc⟩ := List.mem_flatMap.1 hu
  exact h1 c u hc
 ·intro ad had j u hu
  rcases h.row with hl | ⟨b, off, hb, hc⟩
  ·rw [hl] at hu; simp at hu
  ·rw [had] at hb
   obtain rfl := Option.some.inj hb
   obtain ⟨i, c, k, g1, g2, rfl⟩ := flat_at hf _ _ _ hu
   rw [Addr.add_lit, ← Nat.add_assoc]
   exact hc i c g1 k u g2
end
theorem int_len (c : Int) : (intC c).length = 1 := rfl
theorem str_len (c : BA) : (strC c).length = 1 := rfl
theorem nd_len (c : Int × Bool) : (ndC c).length = 2 := rfl
theorem int_one (c : Int) : ∀ u ∈ intC c, u.oneCell' = true := by intro u h; simp [intC] at h; subst h; rfl
theorem str_one (c : BA) : ∀ u ∈ strC c, u.oneCell' = true := by intro u h; simp [strC] at h; subst h; rfl
theorem nd_one (c : Int × Bool) : ∀ u ∈ ndC c, u.oneCell' = true := by
 intro u h; simp [ndC] at h
 rcases h with rfl | rfl <;> rfl
/-! ### the document's find, in, points, full -/
theorem ba_beq (a b : BA) : (a.toList == b.toList) = decide (a = b) := by
 by_cases h : a = b
 ·subst h; simp
 ·rw [decide_eq_false h]
  cases hx : (a.toList == b.toList) with
  | false => rfl
  | true => exact absurd ((Lib.bytes_beq_iff a b).1 hx) h
theorem hasN_take {l : List BA} {s y : BA} {k : Nat} (h : l[k]? = some y) : hasN (l.take (k + 1)) s = (hasN (l.take k) s || decide (y = s)) := by
 unfold hasN; rw [List.take_add_one, h, List.any_append]; simp
theorem hasN_get {l : List BA} {s y : BA} {k : Nat} (h : l[k]? = some y) (hy : y = s) : hasN l s = true := hasN_iff.2 (hy ▸ List.mem_of_getElem? h)
attribute [local irreducible] hasN belowB mayB
/-- what find answers -/
def fI : Nat → List BA → BA → Int
 | _, [], _ => -1
 | k, y :: t, s => if y = s then (k : Int) else fI (k + 1) t s
theorem fI_iff : ∀ (l : List BA) (k : Nat) (s : BA), (0 ≤ fI k l s ∧ hasN l s = true) ∨ (fI k l s < 0 ∧ hasN l s = false) := by
 intro l
 induction l with
 | nil => intro k s; exact .inr ⟨by unfold fI; decide, by unfold hasN; rfl⟩
 | cons y l ih =>
   intro k s
   by_cases h : y = s
   ·exact .inl ⟨by unfold fI; rw [if_pos h]; omega, by unfold hasN; simp [h]⟩
   ·have e1 : fI k (y :: l) s = fI (k + 1) l s := by
     show (if y = s then (k : Int) else fI (k + 1) l s) = _
     rw [if_neg h]
    have e2 : hasN (y :: l) s = hasN l s := by unfold hasN; simp [h]
    rw [e1, e2]
    exact ih (k + 1) s
theorem fI_drop {l : List BA} {s y : BA} {k : Nat} (h : l[k]? = some y) (hy : y ≠ s) : fI k (l.drop k) s = fI (k + 1) (l.drop (k + 1)) s := by
 have hk : k < l.length := (List.getElem?_eq_some_iff.1 h).1
 rw [List.drop_eq_getElem_cons hk, (List.getElem?_eq_some_iff.1 h).2]
 show (if y = s then (k : Int) else fI (k + 1) (l.drop (k + 1)) s) = _
 rw [if_neg hy]
theorem fI_hit {l : List BA} {s y : BA} {k : Nat} (h : l[k]? = some y) (hy : y = s) : fI k (l.drop k) s = k := by
 have hk : k < l.length := (List.getElem?_eq_some_iff.1 h).1
 rw [List.drop_eq_getElem_cons hk, (List.getElem?_eq_some_iff.1 h).2]
 show (if y = s then (k : Int) else fI (k + 1) (l.drop (k + 1)) s) = _
 rw [if_pos hy]
theorem fI_end {l : List BA} {s : BA} {k : Nat} (h : l.length = k) : fI k (l.drop k) s = -1 := by rw [List.drop_eq_nil_of_le (by omega)]; rfl
attribute [local irreducible] fI
def inS (n : Nat) (l : List Int) : Bool := decide (l.length ≤ 16) && belowB n l
theorem inS_long {n : Nat} {l : List Int} (h : ¬ l.length ≤ 16) : inS n l = false := by unfold inS; rw [decide_eq_false h]; rfl
theorem inS_out {n : Nat} {l : List Int} {k : Nat} {y : Int} (h : l[k]? = some y) (hx : ¬ (0 ≤ y ∧ y < (n : Int))) : inS n l = false := by unfold inS; rw [belowB_false h hx, Bool.and_false]
theorem inS_one (n : Nat) (x : Int) : inS n [x] = decide (0 ≤ x ∧ x < (n : Int)) := by unfold inS; rw [belowB_one]; rfl
theorem info_int : (Try.prog.info? 3).map (fun i => (i.zero, i.size, i.bytes)) = some (some (.int .i64 0), 1, 8) := by kernel_rfl
theorem info_str : (Try.prog.info? 9).map (fun i => (i.zero, i.size, i.bytes)) = some (some (.string ⟨#[]⟩), 1, 16) := by kernel_rfl
theorem src_one {w : World} {g : Nat} {t : TypeId} {fr : Nat × Nat} {u : Value} (h1 : u.oneCell' = true) (h : w.heap[g]? = some (.cells #[u] t fr)) : SrcAt w (some ⟨g, 0, none⟩) 1 [u] := by
 refine ⟨fun h => (by cases h), fun v hv => ?_, fun ad had j v hv => ?_⟩
 ·simp at hv; subst hv; exact h1
 ·obtain rfl := Option.some.inj had
  have hj : j < 1 := (List.getElem?_eq_some_iff.1 hv).1
  obtain rfl : j = 0 := by omega
  simp at hv
  subst hv
  rw [Addr.add_lit]
  exact blk_cell h 0 _ rfl
end Go.Proofs.Ytpohoannggdbjaa
