/-
  Merged: Base, Base2, Obj, Read, Read2, Calm, Append, To, ToA, ToB, ToC, ToD, ToE, ToF.
-/
import Derived.WalkKit
import Derived.WalkSpells
import Derived.WalkLawsBesides
import Derived.Outline
import Derived.Lib.Hide
import Derived.OpenShut
import Derived.ProofKit
import Derived.ShutString
import Derived.ChangeOld
import Derived.Laws.StructEq
import Derived.Deep.QuietTactic
import Derived.BigQuiet
import Derived.Laws.OwnMore
import Derived.OwnWalk
import Derived.Deep.RegionLaw
import Derived.Test.YtjienmjpfklgeaaProg
import Derived.RegionTactic
import Derived.IntWalk
import Derived.Laws.RangeAny
import Derived.LoopTactic
import Derived.MapKept
import Derived.Deep.DeepCutAuto
import Derived.Deep.CutBlock
import Derived.Deep.LoopGhost
import Derived.Lib.SlicesS
namespace Go.Proofs.Ytjienmjpfklgeaa
open Go.RowKit

theorem ret_u32 {a b : Int} (h : a = b) : Ending.returned (.int .u32 a) = .returned (.int .u32 b) := by rw [h]
theorem int_eq {k : IntKind} {a b : Int} (h : a = b) : Value.int k a = Value.int k b := by rw [h]
theorem ret_bool {a b : Bool} (h : a = b) : Ending.returned (.bool a) = .returned (.bool b) := by rw [h]

/-- a row of bytes that lies in memory from 'a' on; of no bytes nothing is asked -/
def BytesAt (w : World) (a : Option Addr) (l : List Nat) : Prop :=
  (∀ c ∈ l, c < 256) ∧ (l = [] ∨ ∃ b off, a = some ⟨b, off, none⟩ ∧ ∀ i, i < l.length → w.cell? ⟨b, off + i, none⟩ = some (.int .u8 ((l.getD i 0 : Nat) : Int)))

/-- what the walk is told of a slice of integers that came in: it is nil; or it leads to a row of 'cap' cells, the numbers 'zs' (the first 'len' are its elements, the rest its spare room), each fitting its kind -/
def IsRow (k : IntKind) (w : World) (a : Option Addr) (len cap : Nat) (zs : List Int) : Prop :=
  (a = none ∧ len = 0 ∧ cap = 0 ∧ zs = []) ∨
  ∃ x, a = some x ∧ len ≤ cap ∧ cap ≤ maxLen ∧ zs.length = cap ∧ (∀ i, i < zs.length → w.cell? (x.add i) = some (.int k (zs.getD i 0))) ∧ ∀ n ∈ zs, (Lit.int k n).wf = true

theorem IsRow.capNil {k : IntKind} {w : World} {a : Option Addr} {len cap : Nat} {zs : List Int} (h : IsRow k w a len cap zs) : a = none → cap = 0 := by
  rintro rfl
  rcases h with ⟨_, _, h, _⟩ | ⟨x, h, _⟩
  · exact h
  · cases h
theorem IsRow.cap {k : IntKind} {w : World} {a : Option Addr} {len cap : Nat} {zs : List Int} (h : IsRow k w a len cap zs) : len ≤ cap ∧ cap ≤ maxLen := by
  rcases h with ⟨_, rfl, rfl, _⟩ | ⟨x, _, h1, h2, _⟩
  · exact ⟨Nat.le_refl _, Nat.zero_le _⟩
  · exact ⟨h1, h2⟩
theorem IsRow.bytes {w : World} {a : Option Addr} {len cap : Nat} {zs : List Int} (h : IsRow .u8 w a len cap zs) : ∃ l : List Nat, l.length = len ∧ len ≤ maxLen ∧ BytesAt w a l := by
  rcases h with ⟨rfl, rfl, rfl, rfl⟩ | ⟨x, rfl, hl, hm, hz, hcell, hwz⟩
  · exact ⟨[], rfl, Nat.zero_le _, by simp, .inl rfl⟩
  · refine ⟨(zs.take len).map Int.toNat, by simp; omega, Nat.le_trans hl hm, ?_, ?_⟩
    · intro c hc
      obtain ⟨z, hz1, rfl⟩ := List.mem_map.1 hc
      have := bounds_u8 (hwz z (List.mem_of_mem_take hz1))
      omega
    · rcases Nat.eq_zero_or_pos len with rfl | hpos
      · left; simp
      · right
        obtain ⟨b, off, spot⟩ := x
        have h0 := hcell 0 (by omega)
        have hs : spot = none := by simpa [Addr.add] using World.cell?_spot h0
        subst hs
        refine ⟨b, off, rfl, fun i hi => ?_⟩
        have hi' : i < len := by simpa [hz, Nat.min_eq_left hl] using hi
        have hci := hcell i (by omega)
        have hb := bounds_u8 (hwz (zs.getD i 0) (by rw [List.getD_eq_getElem?_getD, List.getElem?_eq_getElem (show i < zs.length by omega)]; exact List.getElem_mem _))
        have e : ((zs.take len).map Int.toNat).getD i 0 = (zs.getD i 0).toNat := by
          simp [List.getD_eq_getElem?_getD, hi', show i < zs.length by omega]
        rw [e, show ((zs.getD i 0).toNat : Int) = zs.getD i 0 by omega]
        rw [Addr.add_lit] at hci
        exact hci

/-- as BytesAt, of whatever kind of unsigned numbers below B -/
def NatsAt (k : IntKind) (B : Nat) (w : World) (a : Option Addr) (l : List Nat) : Prop :=
  (∀ c ∈ l, c < B) ∧ (l = [] ∨ ∃ b off, a = some ⟨b, off, none⟩ ∧ ∀ i, i < l.length → w.cell? ⟨b, off + i, none⟩ = some (.int k ((l.getD i 0 : Nat) : Int)))
theorem IsRow.nats {k : IntKind} {B : Nat} (hk : ∀ n, (Lit.int k n).wf = true → 0 ≤ n ∧ n < (B : Int)) {w : World} {a : Option Addr} {len cap : Nat} {zs : List Int} (h : IsRow k w a len cap zs) :
    ∃ l : List Nat, l.length = len ∧ len ≤ maxLen ∧ NatsAt k B w a l := by
  rcases h with ⟨rfl, rfl, rfl, rfl⟩ | ⟨x, rfl, hl, hm, hz, hcell, hwz⟩
  · exact ⟨[], rfl, Nat.zero_le _, by simp, .inl rfl⟩
  · refine ⟨(zs.take len).map Int.toNat, by simp; omega, Nat.le_trans hl hm, ?_, ?_⟩
    · intro c hc
      obtain ⟨z, hz1, rfl⟩ := List.mem_map.1 hc
      have := hk z (hwz z (List.mem_of_mem_take hz1))
      omega
    · rcases Nat.eq_zero_or_pos len with rfl | hpos
      · left; simp
      · right
        obtain ⟨b, off, spot⟩ := x
        have h0 := hcell 0 (by omega)
        have hs : spot = none := by simpa [Addr.add] using World.cell?_spot h0
        subst hs
        refine ⟨b, off, rfl, fun i hi => ?_⟩
        have hi' : i < len := by simpa [hz, Nat.min_eq_left hl] using hi
        have hci := hcell i (by omega)
        have hb := hk _ (hwz (zs.getD i 0) (by rw [List.getD_eq_getElem?_getD, List.getElem?_eq_getElem (show i < zs.length by omega)]; exact List.getElem_mem _))
        have e : ((zs.take len).map Int.toNat).getD i 0 = (zs.getD i 0).toNat := by
          simp [List.getD_eq_getElem?_getD, hi', show i < zs.length by omega]
        rw [e, show ((zs.getD i 0).toNat : Int) = zs.getD i 0 by omega]
        rw [Addr.add_lit] at hci
        exact hci
theorem BytesAt.nats {w : World} {a : Option Addr} {l : List Nat} (h : BytesAt w a l) : NatsAt .u8 256 w a l := h
theorem BytesAt.take {w : World} {a : Option Addr} {l : List Nat} (h : BytesAt w a l) (n : Nat) : BytesAt w a (l.take n) := by
  refine ⟨fun c hc => h.1 c (List.mem_of_mem_take hc), ?_⟩
  rcases h.2 with rfl | ⟨b, off, rfl, hc⟩
  · left; simp
  · right
    refine ⟨b, off, rfl, fun i hi => ?_⟩
    have hi2 : i < n ∧ i < l.length := by rw [List.length_take] at hi; omega
    rw [hc i hi2.2]
    simp [List.getD_eq_getElem?_getD, hi2.1]
theorem NatsAt.below {k : IntKind} {B : Nat} {w w' : World} {a : Option Addr} {l : List Nat} (hb : Below w.heap.size w w') (h : NatsAt k B w a l) : NatsAt k B w' a l := by
  refine ⟨h.1, h.2.imp id ?_⟩
  rintro ⟨b, off, rfl, hc⟩
  exact ⟨b, off, rfl, fun i hi => cell_later hb (hc i hi)⟩
theorem NatsAt.at {k : IntKind} {B : Nat} {w : World} {a : Option Addr} {l : List Nat} (h : NatsAt k B w a l) {i : Nat} (hi : i < l.length) :
    ∃ b off c, a = some ⟨b, off, none⟩ ∧ l[i]? = some c ∧ c < B ∧ w.cell? ⟨b, off + i, none⟩ = some (.int k (c : Int)) := by
  obtain ⟨b, off, rfl, hc⟩ := h.2.resolve_left (by rintro rfl; simp at hi)
  refine ⟨b, off, l[i], rfl, List.getElem?_eq_getElem hi, h.1 _ (List.getElem_mem hi), ?_⟩
  rw [hc i hi, List.getD_eq_getElem?_getD, List.getElem?_eq_getElem hi]; rfl

theorem getD_lt {l : List Nat} (h : ∀ c ∈ l, c < 256) (i : Nat) : l.getD i 0 < 256 := by
  rw [List.getD_eq_getElem?_getD]
  rcases Nat.lt_or_ge i l.length with hi | hi
  · rw [List.getElem?_eq_getElem hi]; exact h _ (List.getElem_mem hi)
  · rw [List.getElem?_eq_none hi]; simp
theorem take_succ_getD (l : List Nat) (k : Nat) (h : k < l.length) : l.take (k + 1) = l.take k ++ [l.getD k 0] := by
  rw [List.take_succ_eq_append_getElem h, List.getD_eq_getElem?_getD, List.getElem?_eq_getElem h]; rfl

theorem BytesAt.below {w w' : World} {a : Option Addr} {l : List Nat} (hb : Below w.heap.size w w') (h : BytesAt w a l) : BytesAt w' a l := by
  refine ⟨h.1, h.2.imp id ?_⟩
  rintro ⟨b, off, rfl, hc⟩
  exact ⟨b, off, rfl, fun i hi => cell_later hb (hc i hi)⟩
theorem below_next {a b c : World} {B : Nat} (h : Below B a b) (hB : B ≤ b.heap.size) (k : Below b.heap.size b c) : Below B a c := h.trans (k.mono hB)
theorem below_on {a b c : World} (h : Below a.heap.size a b) (k : Below b.heap.size b c) : Below a.heap.size a c := h.trans (k.mono h.size)
theorem below_grown {w w' : World} (h : Below w.heap.size w w') : w.grownBy w' none := ⟨h.os, h.tape, h.output, h.size, fun k hk _ => h.block k hk⟩
theorem own_below {w w' : World} {base : Nat} {e : TypeId} {size : Nat} {v : Value} {n : Nat} {xs : List Value} (hb : Below w.heap.size w w') (h : w.ownsRow base e size v n xs) : w'.ownsRow base e size v n xs :=
  h.kept (below_grown hb) (by cases hv : v.ownBlock <;> simp)
theorem ofInt64_nat (a : Nat) (ha : a < 9223372036854775808) : (BitVec.ofInt 64 (a : Int)).toNat = a := by
  rw [BitVec.ofInt_natCast, BitVec.toNat_ofNat]; exact Nat.mod_eq_of_lt (by omega)
theorem i64_and_nat (a b : Nat) (ha : a < 9223372036854775808) (hb : b < 9223372036854775808) : bits .and .i64 (a : Int) (b : Int) = ((a &&& b : Nat) : Int) := by
  have hx : a &&& b ≤ a := Nat.and_le_left
  show IntKind.i64.wrap ((BitVec.ofInt 64 (a : Int) &&& BitVec.ofInt 64 (b : Int)).toNat : Int) = _
  rw [BitVec.toNat_and, ofInt64_nat a ha, ofInt64_nat b hb, IntKind.wrap_i64]
  omega
theorem mod256 {q : Nat} (h : q < 256) : (q : Int) % 256 = q := by omega
theorem two_new (w : World) (A B : Obj) : ((w.alloc A).alloc B).drew.heap[w.heap.size]? = some A ∧ ((w.alloc A).alloc B).drew.heap[w.heap.size + 1]? = some B := by
  constructor
  · show ((w.heap.push A).push B)[w.heap.size]? = some A
    simp [Array.getElem?_push]
  · show ((w.heap.push A).push B)[w.heap.size + 1]? = some B
    rw [Array.getElem?_push, if_pos (by simp)]
theorem alloc4 (w : World) (A B C D : Obj) {w1 : World} (hb : Below ((((w.alloc A).alloc B).alloc C).alloc D).heap.size ((((w.alloc A).alloc B).alloc C).alloc D) w1) :
    w1.heap[w.heap.size]? = some A ∧ w1.heap[w.heap.size + 1]? = some B ∧ w1.heap[w.heap.size + 1 + 1]? = some C ∧ w1.heap[w.heap.size + 1 + 1 + 1]? = some D := by
  have h : ∀ k, k < w.heap.size + 4 → w1.heap[k]? = ((((w.heap.push A).push B).push C).push D)[k]? := fun k hk => hb.block k (by simp; omega)
  refine ⟨?_, ?_, ?_, ?_⟩
  · rw [h _ (by omega)]; simp only [Array.getElem?_push, Array.size_push]; rw [if_neg (by omega), if_neg (by omega), if_neg (by omega), if_pos trivial]
  · rw [h _ (by omega)]; simp only [Array.getElem?_push, Array.size_push]; rw [if_neg (by omega), if_neg (by omega), if_pos trivial]
  · rw [h _ (by omega)]; simp only [Array.getElem?_push, Array.size_push]; rw [if_neg (by omega), if_pos trivial]
  · rw [h _ (by omega)]; simp only [Array.getElem?_push, Array.size_push]; rw [if_pos trivial]
theorem below4 (w : World) (A B C D : Obj) : Below w.heap.size w ((((w.alloc A).alloc B).alloc C).alloc D) :=
  ((((Below.refl _ _).alloc (Nat.le_refl _) _).alloc (by simp) _).alloc (by simp; omega) _).alloc (by simp; omega) _
theorem blk_keep {w w' : World} {g : Nat} {o : Obj} (hb : Below w.heap.size w w') (h : w.heap[g]? = some o) : w'.heap[g]? = some o := by
  have hg : g < w.heap.size := (Array.getElem?_eq_some_iff.1 h).1
  rw [hb.block g hg, h]
theorem blk_cell {w : World} {g : Nat} {cs : Array Value} {t : TypeId} {fr : Nat × Nat} (h : w.heap[g]? = some (.cells cs t fr)) (i : Nat) (v : Value) (hi : cs[i]? = some v) : w.cell? ⟨g, i, none⟩ = some v := by simp [World.cell?, h, hi]
theorem blk_free {w : World} {g : Nat} {cs : Array Value} {t : TypeId} (h : w.heap[g]? = some (.cells cs t (0, 0))) (i : Nat) : w.frozen? ⟨g, i, none⟩ = false := by simp [World.frozen?, h]
theorem alloc2n (w : World) (A B : Obj) (n : Nat) : (((w.alloc A).alloc B).drewN n).heap[w.heap.size]? = some A ∧ (((w.alloc A).alloc B).drewN n).heap[w.heap.size + 1]? = some B := by
  constructor
  · show ((w.heap.push A).push B)[w.heap.size]? = some A
    simp [Array.getElem?_push]
  · show ((w.heap.push A).push B)[w.heap.size + 1]? = some B
    rw [Array.getElem?_push, if_pos (by simp)]
theorem below2' (w : World) (A B : Obj) : Below w.heap.size w ((w.alloc A).alloc B) := ((Below.refl _ _).alloc (Nat.le_refl _) _).alloc (by simp) _
theorem below2 (w : World) (A B : Obj) : Below w.heap.size w ((w.alloc A).alloc B).drew := (((Below.refl _ _).alloc (Nat.le_refl _) _).alloc (by simp) _).drew
/-- a row of bytes in block g that may be written -/
def Mine (w : World) (g : Nat) (l : List Nat) : Prop :=
  (∀ c ∈ l, c < 256) ∧ (∀ i, i < l.length → w.cell? ⟨g, i, none⟩ = some (.int .u8 ((l.getD i 0 : Nat) : Int))) ∧ ∀ i, i < l.length → w.frozen? ⟨g, i, none⟩ = false
theorem Mine.bytes {w : World} {g : Nat} {l : List Nat} (h : Mine w g l) : BytesAt w (some ⟨g, 0, none⟩) l :=
  ⟨h.1, .inr ⟨g, 0, rfl, fun i hi => by rw [Nat.zero_add]; exact h.2.1 i hi⟩⟩
theorem Mine.below {w w' : World} {g : Nat} {l : List Nat} (hb : Below w.heap.size w w') (h : Mine w g l) : Mine w' g l := by
  refine ⟨h.1, fun i hi => cell_later hb (h.2.1 i hi), fun i hi => ?_⟩
  have hlt : g < w.heap.size := World.block_lt_of_cell? _ ⟨g, i, none⟩ (h.2.1 i hi)
  rw [hb.frozen (p := ⟨g, i, none⟩) hlt]
  exact h.2.2 i hi
theorem Mine.store {w : World} {g : Nat} {l : List Nat} (h : Mine w g l) {k v : Nat} (hk : k < l.length) (hv : v < 256) : Mine (w.setCell ⟨g, k, none⟩ (.int .u8 (v : Int))) g (l.set k v) := by
  refine ⟨?_, fun i hi => ?_, fun i hi => ?_⟩
  · intro c hc
    rcases List.mem_or_eq_of_mem_set hc with hc | rfl
    · exact h.1 c hc
    · exact hv
  · rw [List.length_set] at hi
    by_cases hik : i = k
    · subst hik
      rw [World.cell?_setCell_same _ _ _ (h.2.1 i hi)]
      simp [List.getD_eq_getElem?_getD, hi]
    · rw [World.cell?_setCell_other _ _ _ _ (by intro h; cases h; exact hik rfl), h.2.1 i hi]
      simp [List.getD_eq_getElem?_getD, List.getElem?_set_ne (show k ≠ i by omega)]
  · rw [List.length_set] at hi
    rw [World.frozen?_setCell]; exact h.2.2 i hi
theorem Mine.other {w : World} {g h : Nat} {l : List Nat} (hm : Mine w g l) (hne : h ≠ g) (k : Nat) (v : Value) : Mine (w.setCell ⟨h, k, none⟩ v) g l :=
  ⟨hm.1, fun i hi => by rw [World.cell?_setCell_other _ _ _ _ (by intro e; cases e; exact hne rfl)]; exact hm.2.1 i hi, fun i hi => by rw [World.frozen?_setCell]; exact hm.2.2 i hi⟩
theorem Mine.below_at {B : Nat} {w w' : World} {g : Nat} {l : List Nat} (hb : Below B w w') (hg : g < B) (h : Mine w g l) : Mine w' g l :=
  ⟨h.1, fun i hi => by rw [hb.cell (p := ⟨g, i, none⟩) hg]; exact h.2.1 i hi, fun i hi => by rw [hb.frozen (p := ⟨g, i, none⟩) hg]; exact h.2.2 i hi⟩
theorem Mine.lt {w : World} {g : Nat} {l : List Nat} (h : Mine w g l) (hpos : 0 < l.length) : g < w.heap.size := World.block_lt_of_cell? _ ⟨g, 0, none⟩ (h.2.1 0 hpos)
theorem Mine.drewN {w : World} {g : Nat} {l : List Nat} (h : Mine w g l) (n : Nat) : Mine (w.drewN n) g l := h
theorem Mine.drew {w : World} {g : Nat} {l : List Nat} (h : Mine w g l) : Mine w.drew g l := h
theorem below1 (w : World) (o : Obj) : Below w.heap.size w (w.alloc o) := (Below.refl _ _).alloc (Nat.le_refl _) o
end Go.Proofs.Ytjienmjpfklgeaa
namespace Go.Proofs.Ytjienmjpfklgeaa
open Go.RowKit
theorem alloc3 (w : World) (A B C : Obj) {w1 : World} (hb : Below (((w.alloc A).alloc B).alloc C).heap.size (((w.alloc A).alloc B).alloc C) w1) :
    w1.heap[w.heap.size]? = some A ∧ w1.heap[w.heap.size + 1]? = some B ∧ w1.heap[w.heap.size + 1 + 1]? = some C := by
  have h : ∀ k, k < w.heap.size + 3 → w1.heap[k]? = (((w.heap.push A).push B).push C)[k]? := fun k hk => hb.block k (by simp; omega)
  refine ⟨?_, ?_, ?_⟩
  · rw [h _ (by omega)]; simp only [Array.getElem?_push, Array.size_push]; rw [if_neg (by omega), if_neg (by omega), if_pos trivial]
  · rw [h _ (by omega)]; simp only [Array.getElem?_push, Array.size_push]; rw [if_neg (by omega), if_pos trivial]
  · rw [h _ (by omega)]; simp only [Array.getElem?_push, Array.size_push]; rw [if_pos trivial]
theorem below3 (w : World) (A B C : Obj) : Below w.heap.size w (((w.alloc A).alloc B).alloc C) :=
  (((Below.refl _ _).alloc (Nat.le_refl _) _).alloc (by simp) _).alloc (by simp; omega) _
theorem alloc1 (w : World) (A : Obj) {w1 : World} (hb : Below (w.alloc A).heap.size (w.alloc A) w1) : w1.heap[w.heap.size]? = some A := by
  rw [hb.block w.heap.size (by simp)]
  show (w.heap.push A)[w.heap.size]? = some A
  simp
theorem alloc3' (w : World) (A B C : Obj) : (((w.alloc A).alloc B).alloc C).heap[w.heap.size]? = some A ∧ (((w.alloc A).alloc B).alloc C).heap[w.heap.size + 1]? = some B ∧ (((w.alloc A).alloc B).alloc C).heap[w.heap.size + 1 + 1]? = some C :=
  alloc3 w A B C (Below.refl _ _)
theorem alloc2' (w : World) (A B : Obj) : ((w.alloc A).alloc B).heap[w.heap.size]? = some A ∧ ((w.alloc A).alloc B).heap[w.heap.size + 1]? = some B := by
  constructor
  · show ((w.heap.push A).push B)[w.heap.size]? = some A
    simp [Array.getElem?_push]
  · show ((w.heap.push A).push B)[w.heap.size + 1]? = some B
    rw [Array.getElem?_push, if_pos (by simp)]
end Go.Proofs.Ytjienmjpfklgeaa
namespace Go.Proofs.Ytjienmjpfklgeaa
open Go.RowKit

/-- w' is w with new blocks, and block g written -/
structure Only (g : Nat) (w w' : World) : Prop where
  os : w'.os = w.os
  tape : w'.tape = w.tape
  output : w'.output = w.output
  size : w.heap.size ≤ w'.heap.size
  block : ∀ k, k < w.heap.size → k ≠ g → w'.heap[k]? = w.heap[k]?
theorem Only.refl (g : Nat) (w : World) : Only g w w := ⟨rfl, rfl, rfl, Nat.le_refl _, fun _ _ _ => rfl⟩
theorem Only.trans {g : Nat} {a b c : World} (h : Only g a b) (k : Only g b c) : Only g a c :=
  ⟨k.os.trans h.os, k.tape.trans h.tape, k.output.trans h.output, Nat.le_trans h.size k.size, fun i hi hg => (k.block i (Nat.lt_of_lt_of_le hi h.size) hg).trans (h.block i hi hg)⟩
theorem Only.of_below {g : Nat} {w w' : World} (h : Below w.heap.size w w') : Only g w w' := ⟨h.os, h.tape, h.output, h.size, fun k hk _ => h.block k hk⟩
theorem Only.drew {g : Nat} {a w : World} (h : Only g a w) : Only g a w.drew := ⟨h.os, h.tape, h.output, h.size, h.block⟩
theorem Only.drewN {g : Nat} {a w : World} (h : Only g a w) (n : Nat) : Only g a (w.drewN n) := ⟨h.os, h.tape, h.output, h.size, h.block⟩
theorem Only.alloc {g : Nat} {a w : World} (h : Only g a w) (o : Obj) : Only g a (w.alloc o) := h.trans (Only.of_below (below1 w o))
theorem Only.setCell {g : Nat} {a w : World} (h : Only g a w) {p : Addr} (hp : p.block = g) (u : Value) : Only g a (w.setCell p u) :=
  h.trans ⟨((Below.refl 0 w).setCell (p := p) (Nat.zero_le _) u).os, ((Below.refl 0 w).setCell (p := p) (Nat.zero_le _) u).tape, ((Below.refl 0 w).setCell (p := p) (Nat.zero_le _) u).output,
    ((Below.refl 0 w).setCell (p := p) (Nat.zero_le _) u).size, fun k _ hk => Below.heap_setCell w p u k (by rw [hp]; exact hk)⟩
theorem Only.below {g B : Nat} {a w w' : World} (h : Below B a w) (hB : B ≤ g) (hs : B ≤ w.heap.size) (k : Only g w w') : Below B a w' :=
  ⟨k.os.trans h.os, k.tape.trans h.tape, k.output.trans h.output, Nat.le_trans h.size k.size, fun i hi => (k.block i (Nat.lt_of_lt_of_le hi hs) (by omega)).trans (h.block i hi)⟩
theorem Only.keep {g k : Nat} {w w' : World} {o : Obj} (h : Only g w w') (hk : k ≠ g) (hb : w.heap[k]? = some o) : w'.heap[k]? = some o := by
  rw [h.block k (Array.getElem?_eq_some_iff.1 hb).1 hk, hb]
theorem blk_lt {w : World} {g : Nat} {o : Obj} (h : w.heap[g]? = some o) : g < w.heap.size := (Array.getElem?_eq_some_iff.1 h).1
theorem blk_set {w : World} {g : Nat} {cs : Array Value} {t : TypeId} {fr : Nat × Nat} (h : w.heap[g]? = some (.cells cs t fr)) (i : Nat) (v : Value) : (w.setCell ⟨g, i, none⟩ v).heap[g]? = some (.cells (cs.setIfInBounds i v) t fr) := by
  show (w.heap.modify g _)[g]? = _
  rw [Array.getElem?_modify, if_pos rfl, h]; rfl
theorem blk_set_other {w : World} {g k : Nat} {o : Obj} (h : w.heap[g]? = some o) (i : Nat) (v : Value) (hk : k ≠ g) : (w.setCell ⟨k, i, none⟩ v).heap[g]? = some o := by
  rw [Below.heap_setCell _ _ _ _ (fun e => hk e.symm)]; exact h
end Go.Proofs.Ytjienmjpfklgeaa
namespace Go.Proofs.Ytjienmjpfklgeaa
open Go.RowKit

/-- these cells read as data of type t -/
def Rd (P : Program) (w : World) (t : TypeId) (cs : List Value) : Prop :=
  ∃ (H : Type) (enc : TypeId × Value → H) (fuel : Nat) (d : DataW H) (ps : List MemPlace), DataW.trod enc P w 0 (fun _ => true) true fuel t cs = some (d, ps)

theorem Rd.int {P : Program} {w : World} {t : TypeId} {cs : List Value} {k : IntKind} (hu : P.underlying t = some (.int k)) (h : Rd P w t cs) : ∃ n, cs = [.int k n] ∧ (Lit.int k n).wf = true := by
  obtain ⟨H, enc, fuel, d, ps, h⟩ := h
  cases fuel with
  | zero => simp [DataW.trod] at h
  | succ fuel =>
    simp only [DataW.trod, hu] at h
    split at h <;> simp_all
theorem Rd.bool {P : Program} {w : World} {t : TypeId} {cs : List Value} (hu : P.underlying t = some .bool) (h : Rd P w t cs) : ∃ b, cs = [.bool b] := by
  obtain ⟨H, enc, fuel, d, ps, h⟩ := h
  cases fuel with
  | zero => simp [DataW.trod] at h
  | succ fuel =>
    simp only [DataW.trod, hu] at h
    split at h <;> simp_all
theorem Rd.str {P : Program} {w : World} {t : TypeId} {cs : List Value} (hu : P.underlying t = some .string) (h : Rd P w t cs) : ∃ s, cs = [.string s] ∧ s.size ≤ maxLen := by
  obtain ⟨H, enc, fuel, d, ps, h⟩ := h
  cases fuel with
  | zero => simp [DataW.trod] at h
  | succ fuel =>
    simp only [DataW.trod, hu] at h
    split at h <;> simp_all
theorem mapM_get {α β : Type} {f : α → Option β} : ∀ {l : List α} {ys : List β}, l.mapM f = some ys → ys.length = l.length ∧ ∀ (i : Nat) (x : α), l[i]? = some x → ∃ y, ys[i]? = some y ∧ f x = some y := by
  intro l
  induction l with
  | nil => intro ys h; simp at h; subst h; simp
  | cons a l ih =>
    intro ys h
    rw [List.mapM_cons] at h
    cases ha : f a with
    | none => simp [ha] at h
    | some b =>
      cases hl : l.mapM f with
      | none => simp [ha, hl] at h
      | some bs =>
        simp [ha, hl] at h
        subst h
        obtain ⟨h1, h2⟩ := ih hl
        refine ⟨by simp [h1], fun i x hx => ?_⟩
        cases i with
        | zero => simp at hx; subst hx; exact ⟨b, rfl, ha⟩
        | succ i => simpa using h2 i x (by simpa using hx)
theorem cells_get {w : World} {base : Nat} {a : Addr} {n : Nat} {cs : List Value} (h : w.cells? base a n = some cs) : cs.length = n ∧ ∀ j, j < n → ∃ v, cs[j]? = some v ∧ w.cell? (a.add j) = some v := by
  unfold World.cells? at h
  split at h
  · obtain ⟨h1, h2⟩ := mapM_get h
    refine ⟨by simpa using h1, fun j hj => ?_⟩
    exact h2 j j (by simp [hj])
  · cases h
/-- a slice: nil; or a row of elements, the spare ones too -/
theorem Rd.slice {P : Program} {w : World} {t e : TypeId} {cs : List Value} (hu : P.underlying t = some (.slice e)) (h : Rd P w t cs) :
    cs = [.slice none 0 0] ∨ ∃ a len cap, cs = [.slice (some a) len cap] ∧ len ≤ cap ∧ cap ≤ maxLen ∧
      ∀ i, i < cap → ∃ ecs, w.cells? 0 (a.add (i * P.cellsOf e)) (P.cellsOf e) = some ecs ∧ Rd P w e ecs := by
  obtain ⟨H, enc, fuel, d, ps, h⟩ := h
  cases fuel with
  | zero => simp [DataW.trod] at h
  | succ fuel =>
    simp only [DataW.trod, hu] at h
    split at h <;> try (simp_all; done)
    · rename_i e' a len cap heq
      simp only [Option.some.injEq] at heq
      obtain rfl : e = e' := by simpa using heq
      right
      refine ⟨a, len, cap, rfl, ?_⟩
      split at h
      · rename_i hc
        simp only [if_true] at h
        cases h1 : (List.range len).mapM (fun i => (w.cells? 0 (a.add (i * P.cellsOf e)) (P.cellsOf e)).bind (DataW.trod enc P w 0 (fun _ => true) true fuel e)) with
        | none => simp [h1] at h
        | some elems =>
          cases h2 : (List.range (cap - len)).mapM (fun j => (w.cells? 0 (a.add ((len + j) * P.cellsOf e)) (P.cellsOf e)).bind (DataW.trod enc P w 0 (fun _ => true) true fuel e)) with
          | none => simp [h1, h2] at h
          | some rest =>
            refine ⟨hc.2.1, hc.2.2, fun i hi => ?_⟩
            have key : ∃ y, (w.cells? 0 (a.add (i * P.cellsOf e)) (P.cellsOf e)).bind (DataW.trod enc P w 0 (fun _ => true) true fuel e) = some y := by
              rcases Nat.lt_or_ge i len with hil | hil
              · obtain ⟨y, _, hy⟩ := (mapM_get h1).2 i i (by simp [hil])
                exact ⟨y, hy⟩
              · obtain ⟨y, _, hy⟩ := (mapM_get h2).2 (i - len) (i - len) (List.getElem?_range (by omega))
                rw [show len + (i - len) = i by omega] at hy
                exact ⟨y, hy⟩
            obtain ⟨y, hy⟩ := key
            cases hcs : w.cells? 0 (a.add (i * P.cellsOf e)) (P.cellsOf e) with
            | none => simp [hcs] at hy
            | some ecs => exact ⟨ecs, rfl, H, enc, fuel, y.1, y.2, by simpa [hcs] using hy⟩
      · cases h
theorem Rd.struct {P : Program} {w : World} {t : TypeId} {fs : Array Field} {cs : List Value} (hu : P.underlying t = some (.struct fs)) (h : Rd P w t cs) :
    cs.length = P.cellsOf t ∧ ∀ f, f ∈ fs.toList → Rd P w f.type ((cs.drop f.offset).take (P.cellsOf f.type)) := by
  obtain ⟨H, enc, fuel, d, ps, h⟩ := h
  cases fuel with
  | zero => simp [DataW.trod] at h
  | succ fuel =>
    simp only [DataW.trod, hu] at h
    split at h
    · rename_i hl
      refine ⟨hl, fun f hf => ?_⟩
      cases hm : fs.toList.mapM (fun f => DataW.trod enc P w 0 (fun _ => true) true fuel f.type ((cs.drop f.offset).take (P.cellsOf f.type))) with
      | none => simp [hm] at h
      | some xs =>
        obtain ⟨i, hi⟩ := List.getElem?_of_mem hf
        obtain ⟨y, _, hy⟩ := (mapM_get hm).2 i f hi
        exact ⟨H, enc, fuel, y.1, y.2, hy⟩
    · cases h
theorem Rd.array {P : Program} {w : World} {t e : TypeId} {n : Nat} {cs : List Value} (hu : P.underlying t = some (.array n e)) (h : Rd P w t cs) :
    cs.length = P.cellsOf t ∧ ∀ i, i < n → Rd P w e ((cs.drop (i * P.cellsOf e)).take (P.cellsOf e)) := by
  obtain ⟨H, enc, fuel, d, ps, h⟩ := h
  cases fuel with
  | zero => simp [DataW.trod] at h
  | succ fuel =>
    simp only [DataW.trod, hu] at h
    split at h
    · rename_i hl
      refine ⟨hl, fun i hi => ?_⟩
      cases hm : (List.range n).mapM (fun i => DataW.trod enc P w 0 (fun _ => true) true fuel e ((cs.drop (i * P.cellsOf e)).take (P.cellsOf e))) with
      | none => simp [hm] at h
      | some xs =>
        obtain ⟨y, _, hy⟩ := (mapM_get hm).2 i i (by simp [hi])
        exact ⟨H, enc, fuel, y.1, y.2, hy⟩
    · cases h
end Go.Proofs.Ytjienmjpfklgeaa
namespace Go.Proofs.Ytjienmjpfklgeaa
open Go.RowKit

/-- a list out of a row of choices -/
theorem list_of {α : Type} {Q : Nat → α → Prop} : ∀ (n : Nat), (∀ i, i < n → ∃ c, Q i c) → ∃ l : List α, l.length = n ∧ ∀ (i : Nat) (c : α), l[i]? = some c → Q i c := by
  intro n
  induction n with
  | zero => intro _; exact ⟨[], rfl, fun i c h => by simp at h⟩
  | succ n ih =>
    intro h
    obtain ⟨l, hl, hq⟩ := ih fun i hi => h i (by omega)
    obtain ⟨c, hc⟩ := h n (by omega)
    refine ⟨l ++ [c], by simp [hl], fun i d hd => ?_⟩
    rcases Nat.lt_or_ge i n with hi | hi
    · rw [List.getElem?_append_left (by omega)] at hd; exact hq i d hd
    · have hin : i = n := by
        have := (List.getElem?_eq_some_iff.1 hd).1
        simp [hl] at this; omega
      subst hin
      rw [List.getElem?_append_right (by omega), hl, Nat.sub_self] at hd
      simp at hd; subst hd; exact hc
theorem Rd.fields {P : Program} {w : World} {t : TypeId} {cs : List Value} {L : List (TypeId × Nat)} (hu : P.underlying t = some (.struct (P.fieldsOf t))) (hL : (P.fieldsOf t).toList.map (fun f => (f.type, f.offset)) = L) (h : Rd P w t cs) :
    cs.length = P.cellsOf t ∧ ∀ x ∈ L, Rd P w x.1 ((cs.drop x.2).take (P.cellsOf x.1)) := by
  obtain ⟨h1, h2⟩ := h.struct hu
  refine ⟨h1, fun x hx => ?_⟩
  rw [← hL] at hx
  obtain ⟨f, hf, rfl⟩ := List.mem_map.1 hx
  exact h2 f hf
theorem array_of_list {α : Type} {c : Array α} {l : List α} (h : c.toList = l) : c = l.toArray := by rw [← h]
end Go.Proofs.Ytjienmjpfklgeaa
namespace Go.Proofs.Ytjienmjpfklgeaa
open Go.RowKit

theorem wp_region_calm {P : Program} {id : Nat} {Q : Exit → Act → World → Prop} {a : Act} {w : World} {l : List Oper} (hm : P.follows .mixedOrders = true) (hB : Region.lexB .any l.toArray = true)
    (h : wpQuiet P l.toArray (fun w' => Below w.heap.size w w') (fun a' => ∀ w', Below w.heap.size w w' → Q .normal a' w') l a) : (Code.region id l.toArray true).wp P Q a w :=
  wp_region_quiet (C := fun w' => Below w.heap.size w w') hm hB (Below.refl _ w).drew (by simpa using h)

end Go.Proofs.Ytjienmjpfklgeaa
namespace Go.Proofs.Ytjienmjpfklgeaa
open Go.RowKit

/-- the cells of a source: none, or from 'a' on -/
def SrcAt (w : World) (a : Option Addr) (c : Nat) (news : List Value) : Prop :=
  (a = none → c = 0 ∧ news = []) ∧ (∀ u ∈ news, u.oneCell' = true) ∧ ∀ ad, a = some ad → ∀ j u, news[j]? = some u → w.cell? (ad.add j) = some u

theorem run_append_src {P : Program} (w : World) (base : Nat) (t ty e : TypeId) (i : TypeInfo) (z : Value) (sz bytes : Nat) (ht : P.underlying t = some (.slice e)) (hi : P.info? e = some i) (hz : i.zero = some z)
    (hsize : i.size = sz) (hby : i.bytes = bytes) (hzs : z.cells.size = sz) (hsz : 0 < sz) (v : Value) (n : Nat) (xs : List Value) (hown : w.ownsRow base e sz v n xs)
    (ao : Option Addr) (m c : Nat) (news : List Value) (hl : news.length = m * sz) (hsrc : SrcAt w ao c news) (h63 : n + m ≤ maxLen) (hbytes : (n + m) * bytes ≤ 140737488355328) (hbase : base ≤ w.heap.size) :
    ∃ v' w', (Builtin.append_ #[t, t] ty #[v, .slice ao m c]).run P w = .ok v' w' ∧ w'.ownsRow base e sz v' (n + m) (xs ++ news) ∧ w.grownBy w' v.ownBlock := by
  obtain ⟨s1, s2, s3⟩ := hsrc
  cases ao with
  | none =>
    obtain ⟨rfl, rfl⟩ := s1 rfl
    obtain rfl : m = 0 := by
      rcases Nat.eq_zero_or_pos m with h | h
      · exact h
      · have := Nat.mul_pos h hsz
        simp at hl; omega
    have hrun := run_append_owned_none (P := P) w base t ty e i sz ht hi v n xs hown
    exact ⟨v, w, hrun, by simpa using hown, ⟨rfl, rfl, rfl, Nat.le_refl _, fun _ _ _ => rfl⟩⟩
  | some ad =>
    obtain ⟨v', w', h1, h2, h3, _⟩ := run_append_own (P := P) w base t ty e i z sz bytes ht hi hz hsize hby hzs hsz v n xs hown ad m c news hl (s3 ad rfl) s2 h63 hbytes hbase
    exact ⟨v', w', h1, h2, h3⟩

theorem wp_append_src {P : Program} {w : World} {o : Oper} {a : Act} {K : Act → World → Prop} {Q : Exit → Act → World → Prop} (s x : Operand) (t : TypeId)
    (ho : o.op = .call { callee := .builtin .append, args := #[s, x], argTypes := #[t, t] })
    (base : Nat) (e : TypeId) (i : TypeInfo) (z : Value) (sz bytes : Nat) (ht : P.underlying t = some (.slice e)) (hi : P.info? e = some i) (hz : i.zero = some z)
    (hsize : i.size = sz) (hby : i.bytes = bytes) (hzs : z.cells.size = sz) (hsz : 0 < sz) (v : Value) (n : Nat) (xs : List Value) (hs : a.eval s = v) (hown : w.ownsRow base e sz v n xs)
    (ao : Option Addr) (m c : Nat) (news : List Value) (hx : a.eval x = .slice ao m c) (hl : news.length = m * sz) (hsrc : SrcAt w ao c news) (h63 : n + m ≤ maxLen) (hbytes : (n + m) * bytes ≤ 140737488355328) (hbase : base ≤ w.heap.size)
    (h : ∀ v' w', w'.ownsRow base e sz v' (n + m) (xs ++ news) → w.grownBy w' v.ownBlock → K (a.put o.dst v') w') : o.wp P a w K Q := by
  obtain ⟨v', w', hr, h2, h3⟩ := run_append_src (P := P) w base t o.type e i z sz bytes ht hi hz hsize hby hzs hsz v n xs hown ao m c news hl hsrc h63 hbytes hbase
  unfold Oper.wp execOp
  simp only [ho, resolve, invoke, builtin, Sem.run_bind, Sem.run_pure, Result.andThen_ok, List.map_toArray, List.map_cons, List.map_nil, hs, hx, hr]
  exact h v' w' h2 h3

theorem wpList_append_src {P : Program} {w : World} {ops : Array Oper} {rest : List Oper} {o : Oper} {a : Act} {Q : Exit → Act → World → Prop} (hgd : o.guard = none) (s x : Operand) (t : TypeId)
    (ho : o.op = .call { callee := .builtin .append, args := #[s, x], argTypes := #[t, t] })
    (base : Nat) (e : TypeId) (i : TypeInfo) (z : Value) (sz bytes : Nat) (ht : P.underlying t = some (.slice e)) (hi : P.info? e = some i) (hz : i.zero = some z)
    (hsize : i.size = sz) (hby : i.bytes = bytes) (hzs : z.cells.size = sz) (hsz : 0 < sz) (v : Value) (n : Nat) (xs : List Value) (hs : a.eval s = v) (hown : w.ownsRow base e sz v n xs)
    (ao : Option Addr) (m c : Nat) (news : List Value) (hx : a.eval x = .slice ao m c) (hl : news.length = m * sz) (hsrc : SrcAt w ao c news) (h63 : n + m ≤ maxLen) (hbytes : (n + m) * bytes ≤ 140737488355328) (hbase : base ≤ w.heap.size)
    (h : ∀ v' w', w'.ownsRow base e sz v' (n + m) (xs ++ news) → w.grownBy w' v.ownBlock → wpList P ops Q rest (a.put o.dst v') w') : wpList P ops Q (o :: rest) a w :=
  wpList_plain hgd fun _ hK => wp_append_src s x t ho base e i z sz bytes ht hi hz hsize hby hzs hsz v n xs hs hown ao m c news hx hl hsrc h63 hbytes hbase fun v' w' h2 h3 => hK _ _ (h v' w' h2 h3)

theorem step_append_src {P : Program} {w : World} {ops : Array Oper} {o : Oper} {a : Act} {K : Act → World → Prop} {Q : Exit → Act → World → Prop} {E : Prop} (hgd : o.guard = none) (s x : Operand) (t : TypeId)
    (ho : o.op = .call { callee := .builtin .append, args := #[s, x], argTypes := #[t, t] })
    (base : Nat) (e : TypeId) (i : TypeInfo) (z : Value) (sz bytes : Nat) (ht : P.underlying t = some (.slice e)) (hi : P.info? e = some i) (hz : i.zero = some z)
    (hsize : i.size = sz) (hby : i.bytes = bytes) (hzs : z.cells.size = sz) (hsz : 0 < sz) (v : Value) (n : Nat) (xs : List Value) (hs : a.eval s = v) (hown : w.ownsRow base e sz v n xs)
    (ao : Option Addr) (m c : Nat) (news : List Value) (hx : a.eval x = .slice ao m c) (hl : news.length = m * sz) (hsrc : SrcAt w ao c news) (h63 : n + m ≤ maxLen) (hbytes : (n + m) * bytes ≤ 140737488355328) (hbase : base ≤ w.heap.size)
    (h : ∀ v' w', w'.ownsRow base e sz v' (n + m) (xs ++ news) → w.grownBy w' v.ownBlock → K (a.put o.dst v') w') :
    if Region.wanted o (yielded ops a.tmps) = true then Oper.wp P o a w K Q else E := by
  have hw : Region.wanted o (yielded ops a.tmps) = true := by simp [Region.wanted, hgd]
  rw [if_pos hw]
  exact wp_append_src s x t ho base e i z sz bytes ht hi hz hsize hby hzs hsz v n xs hs hown ao m c news hx hl hsrc h63 hbytes hbase h

/-! ### rows of bytes -/
def byteVals (l : List Nat) : List Value := l.map fun (n : Nat) => Value.int .u8 (n : Int)
theorem byteVals_append (a b : List Nat) : byteVals (a ++ b) = byteVals a ++ byteVals b := List.map_append
theorem byteVals_nil : byteVals [] = [] := rfl
theorem byteVals_length (l : List Nat) : (byteVals l).length = l.length := List.length_map _
theorem byteVals_get (l : List Nat) (i : Nat) (h : i < l.length) : (byteVals l)[i]? = some (.int .u8 ((l.getD i 0 : Nat) : Int)) := by
  simp [byteVals, h, List.getD_eq_getElem?_getD]
theorem SrcAt.bytes {w : World} {a : Option Addr} {c : Nat} {l : List Nat} (h : BytesAt w a l) (hc : a = none → c = 0) : SrcAt w a c (byteVals l) := by
  refine ⟨fun ha => ⟨hc ha, ?_⟩, ?_, ?_⟩
  · rcases h.2 with rfl | ⟨b, off, rfl, _⟩
    · rfl
    · cases ha
  · intro u hu
    obtain ⟨x, _, rfl⟩ := List.mem_map.1 hu
    rfl
  · intro ad had j u hu
    rcases h.2 with rfl | ⟨b, off, rfl, hcell⟩
    · simp [byteVals] at hu
    · obtain rfl := Option.some.inj had
      have hj : j < l.length := by
        have := (List.getElem?_eq_some_iff.1 hu).1
        simpa [byteVals] using this
      rw [byteVals_get l j hj] at hu
      obtain rfl := Option.some.inj hu
      rw [Addr.add_lit]; exact hcell j hj
/-- a row of the call's own, of bytes, may be read and written -/
theorem own_mine {w : World} {base : Nat} {e : TypeId} {v : Value} {n : Nat} {l : List Nat} (hb : ∀ c ∈ l, c < 256) (hn : l.length = n) (hpos : 0 < n) (h : w.ownsRow base e 1 v n (byteVals l)) :
    ∃ g cap, v = .slice (some ⟨g, 0, none⟩) n cap ∧ base ≤ g ∧ Mine w g l := by
  rcases h.2 with ⟨_, h0⟩ | ⟨g, cap, cur, rfl, hg, hheap, hncap, hcm, hsz, htake⟩
  · omega
  · have hcur : ∀ i, i < l.length → cur[i]? = some (.int .u8 ((l.getD i 0 : Nat) : Int)) := by
      intro i hi
      have h1 := byteVals_get l i hi
      rw [← htake, List.getElem?_take, if_pos (by omega), Array.getElem?_toList] at h1
      exact h1
    refine ⟨g, cap, rfl, hg, hb, fun i hi => ?_, fun i hi => ?_⟩
    · simp only [World.cell?, hheap]
      simpa using hcur i hi
    · simp [World.frozen?, hheap]
end Go.Proofs.Ytjienmjpfklgeaa
namespace Go.Proofs.Ytjienmjpfklgeaa
open Go.RowKit
set_option maxRecDepth 100000

/-- a row of elements, each of sz cells -/
def RowAt {α : Type} (sz : Nat) (f : α → List Value) (w : World) (a : Option Addr) (l : List α) : Prop :=
  l = [] ∨ ∃ b off, a = some ⟨b, off, none⟩ ∧ ∀ i c, l[i]? = some c → ∀ j v, (f c)[j]? = some v → w.cell? ⟨b, off + i * sz + j, none⟩ = some v
theorem RowAt.below {α : Type} {sz : Nat} {f : α → List Value} {w w' : World} {a : Option Addr} {l : List α} (h : RowAt sz f w a l) (hb : Below w.heap.size w w') : RowAt sz f w' a l := by
  refine h.imp id ?_
  rintro ⟨b, off, rfl, hc⟩
  exact ⟨b, off, rfl, fun i c hi j v hv => cell_later hb (hc i c hi j v hv)⟩
theorem RowAt.nil {α : Type} {sz : Nat} {f : α → List Value} {w : World} {a : Option Addr} : RowAt sz f w a [] := .inl rfl
theorem RowAt.take {α : Type} {sz : Nat} {f : α → List Value} {w : World} {a : Option Addr} {l : List α} (h : RowAt sz f w a l) (n : Nat) : RowAt sz f w a (l.take n) := by
  rcases h with rfl | ⟨b, off, rfl, hc⟩
  · exact .inl (by simp)
  · refine .inr ⟨b, off, rfl, fun i c hi => hc i c ?_⟩
    rw [List.getElem?_take] at hi
    split at hi
    · exact hi
    · cases hi
/-- a slice: where it lies, its capacity, its elements -/
structure Sl (α : Type) where
  a : Option Addr
  c : Nat
  l : List α
def Sl.v {α : Type} (s : Sl α) : Value := .slice s.a s.l.length s.c
structure SlAt {α : Type} (sz : Nat) (f : α → List Value) (w : World) (s : Sl α) : Prop where
  row : RowAt sz f w s.a s.l
  len : s.l.length ≤ s.c
  cap : s.c ≤ maxLen
  capNil : s.a = none → s.c = 0
theorem SlAt.below {α : Type} {sz : Nat} {f : α → List Value} {w w' : World} {s : Sl α} (h : SlAt sz f w s) (hb : Below w.heap.size w w') : SlAt sz f w' s := ⟨h.row.below hb, h.len, h.cap, h.capNil⟩
theorem SlAt.lenM {α : Type} {sz : Nat} {f : α → List Value} {w : World} {s : Sl α} (h : SlAt sz f w s) : s.l.length ≤ 9223372036854775807 := by have := h.len; have := h.cap; unfold maxLen at this; omega
abbrev BA := ByteArray
def intC (x : Int) : List Value := [.int .i64 x]
def strC (s : BA) : List Value := [.string s]
def ndC (n : Int × Bool) : List Value := [.int .i64 n.1, .bool n.2]
def ptC (p : BA × Int) : List Value := [.string p.1, .int .i64 p.2]
structure Rt where
  nm : BA
  sg : Int
  pa : Sl Int
  po : Sl (Int × Bool)
  ov : Sl Int
  fl : Sl (Int × Bool)
def rtC (r : Rt) : List Value := [.string r.nm, .int .i64 r.sg, r.pa.v, r.po.v, r.ov.v, r.fl.v]
structure RtAt (w : World) (r : Rt) : Prop where
  nm : r.nm.size ≤ maxLen
  pa : SlAt 1 intC w r.pa
  po : SlAt 2 ndC w r.po
  ov : SlAt 1 intC w r.ov
  fl : SlAt 2 ndC w r.fl
theorem RtAt.below {w w' : World} {r : Rt} (h : RtAt w r) (hb : Below w.heap.size w w') : RtAt w' r := ⟨h.nm, h.pa.below hb, h.po.below hb, h.ov.below hb, h.fl.below hb⟩
structure Lay where
  se : Sl BA
  po : Sl (BA × Int)
  sg : Sl (BA × Int)
  rt : Sl Rt
structure LayAt (w : World) (L : Lay) : Prop where
  se : SlAt 1 strC w L.se
  po : SlAt 2 ptC w L.po
  sg : SlAt 2 ptC w L.sg
  rt : SlAt 6 rtC w L.rt
  sn : ∀ s ∈ L.se.l, s.size ≤ maxLen
  pn : ∀ p ∈ L.po.l, p.1.size ≤ maxLen
  gn : ∀ p ∈ L.sg.l, p.1.size ≤ maxLen
  rn : ∀ r ∈ L.rt.l, RtAt w r
theorem LayAt.below {w w' : World} {L : Lay} (h : LayAt w L) (hb : Below w.heap.size w w') : LayAt w' L := ⟨h.se.below hb, h.po.below hb, h.sg.below hb, h.rt.below hb, h.sn, h.pn, h.gn, fun r hr => (h.rn r hr).below hb⟩
/-- a reading of a slice gives a row, if a reading of an element gives an element -/
theorem sl_of {α : Type} {P : Program} {t e : TypeId} {sz : Nat} {f : α → List Value} {A : α → Prop} {w : World} {cs : List Value} (hu : P.underlying t = some (.slice e)) (hsz : P.cellsOf e = sz) (hpos : 0 < sz) (hlen : ∀ c, (f c).length = sz)
    (hel : ∀ cs, Rd P w e cs → ∃ c : α, cs = f c ∧ A c) (h : Rd P w t cs) : ∃ s : Sl α, cs = [s.v] ∧ SlAt sz f w s ∧ ∀ c ∈ s.l, A c := by
  rcases h.slice hu with rfl | ⟨x, len, cap, rfl, hlc, hcm, hcell⟩
  · exact ⟨⟨none, 0, []⟩, rfl, ⟨.inl rfl, Nat.le_refl _, Nat.zero_le _, fun _ => rfl⟩, by simp⟩
  · have H : ∀ i, i < len → ∃ c : α, A c ∧ ∀ j v, (f c)[j]? = some v → w.cell? ((x.add (i * sz)).add j) = some v := by
      intro i hi
      obtain ⟨ecs, he, hr⟩ := hcell i (by omega)
      rw [hsz] at he
      obtain ⟨c, rfl, hA⟩ := hel ecs hr
      obtain ⟨_, hg⟩ := cells_get he
      refine ⟨c, hA, fun j v hv => ?_⟩
      have hj : j < sz := by rw [← hlen c]; exact (List.getElem?_eq_some_iff.1 hv).1
      obtain ⟨v', g0, c0⟩ := hg j hj
      rw [hv] at g0
      cases g0
      exact c0
    obtain ⟨l, hl, hq⟩ := list_of len H
    refine ⟨⟨some x, cap, l⟩, by unfold Sl.v; rw [hl], ⟨?_, by dsimp only; omega, hcm, fun h => by cases h⟩, fun c hc => ?_⟩
    · rcases l with _ | ⟨c0, l⟩
      · exact .inl rfl
      · right
        have h0 := (hq 0 c0 rfl).2
        have hs : x.spot = none := by
          have hz : 0 < (f c0).length := by rw [hlen]; exact hpos
          have := h0 0 _ (List.getElem?_eq_getElem hz)
          rw [Nat.zero_mul] at this
          exact World.cell?_spot (show w.cell? x = some _ by simpa [Addr.add] using this)
        obtain ⟨b, off, spot⟩ := x
        subst hs
        refine ⟨b, off, rfl, fun i c hi j v hv => ?_⟩
        have := (hq i c hi).2 j v hv
        simpa only [Addr.add_lit, Nat.add_zero] using this
    · obtain ⟨i, hi⟩ := List.getElem?_of_mem hc
      exact (hq i c hi).1
theorem int_el {w : World} {cs : List Value} (h : Rd Try.prog w 3 cs) : ∃ c : Int, cs = intC c ∧ True := by
  obtain ⟨n, rfl, _⟩ := h.int Try.underlying3
  exact ⟨n, rfl, trivial⟩
theorem str_el {w : World} {cs : List Value} (h : Rd Try.prog w 9 cs) : ∃ c : BA, cs = strC c ∧ c.size ≤ maxLen := by
  obtain ⟨s, rfl, h2⟩ := h.str Try.underlying9
  exact ⟨s, rfl, h2⟩
theorem nd_el {w : World} {cs : List Value} (h : Rd Try.prog w 46 cs) : ∃ c : Int × Bool, cs = ndC c ∧ True := by
  obtain ⟨hl, hf⟩ := h.fields (L := [(3, 0), (4, 1)]) (by kernel_rfl) (by kernel_rfl)
  rw [show Try.prog.cellsOf 46 = 2 by kernel_rfl] at hl
  match cs, hl with
  | [x, y], _ =>
    have h0 := hf (3, 0) (by simp)
    have h1 := hf (4, 1) (by simp)
    simp only [show Try.prog.cellsOf 3 = 1 by kernel_rfl, show Try.prog.cellsOf 4 = 1 by kernel_rfl] at h0 h1
    obtain ⟨a, ha, _⟩ := h0.int Try.underlying3
    obtain ⟨b, hb⟩ := h1.bool Try.underlying4
    simp at ha hb
    exact ⟨(a, b), by rw [ha, hb]; rfl, trivial⟩
theorem pt_el {w : World} {cs : List Value} (h : Rd Try.prog w 71 cs) : ∃ c : BA × Int, cs = ptC c ∧ c.1.size ≤ maxLen := by
  obtain ⟨hl, hf⟩ := h.fields (L := [(9, 0), (3, 1)]) (by kernel_rfl) (by kernel_rfl)
  rw [show Try.prog.cellsOf 71 = 2 by kernel_rfl] at hl
  match cs, hl with
  | [x, y], _ =>
    have h0 := hf (9, 0) (by simp)
    have h1 := hf (3, 1) (by simp)
    simp only [show Try.prog.cellsOf 3 = 1 by kernel_rfl, show Try.prog.cellsOf 9 = 1 by kernel_rfl] at h0 h1
    obtain ⟨a, ha, hs⟩ := h0.str Try.underlying9
    obtain ⟨b, hb, _⟩ := h1.int Try.underlying3
    simp at ha hb
    exact ⟨(a, b), by rw [ha, hb]; rfl, hs⟩
theorem sg_el {w : World} {cs : List Value} (h : Rd Try.prog w 72 cs) : ∃ c : BA × Int, cs = ptC c ∧ c.1.size ≤ maxLen := by
  obtain ⟨hl, hf⟩ := h.fields (L := [(9, 0), (3, 1)]) (by kernel_rfl) (by kernel_rfl)
  rw [show Try.prog.cellsOf 72 = 2 by kernel_rfl] at hl
  match cs, hl with
  | [x, y], _ =>
    have h0 := hf (9, 0) (by simp)
    have h1 := hf (3, 1) (by simp)
    simp only [show Try.prog.cellsOf 3 = 1 by kernel_rfl, show Try.prog.cellsOf 9 = 1 by kernel_rfl] at h0 h1
    obtain ⟨a, ha, hs⟩ := h0.str Try.underlying9
    obtain ⟨b, hb, _⟩ := h1.int Try.underlying3
    simp at ha hb
    exact ⟨(a, b), by rw [ha, hb]; rfl, hs⟩
theorem ints_of {w : World} {cs : List Value} (h : Rd Try.prog w 41 cs) : ∃ s : Sl Int, cs = [s.v] ∧ SlAt 1 intC w s := by
  obtain ⟨s, h1, h2, _⟩ := sl_of (f := intC) (sz := 1) (A := fun _ => True) Try.underlying41 (by kernel_rfl) (by decide) (fun _ => rfl) (fun _ h => int_el h) h
  exact ⟨s, h1, h2⟩
theorem nds_of {w : World} {cs : List Value} (h : Rd Try.prog w 42 cs) : ∃ s : Sl (Int × Bool), cs = [s.v] ∧ SlAt 2 ndC w s := by
  obtain ⟨s, h1, h2, _⟩ := sl_of (f := ndC) (sz := 2) (A := fun _ => True) Try.underlying42 (by kernel_rfl) (by decide) (fun _ => rfl) (fun _ h => nd_el h) h
  exact ⟨s, h1, h2⟩
theorem rt_el {w : World} {cs : List Value} (h : Rd Try.prog w 44 cs) : ∃ c : Rt, cs = rtC c ∧ RtAt w c := by
  obtain ⟨hl, hf⟩ := h.fields (L := [(9, 0), (3, 1), (41, 2), (42, 3), (41, 4), (42, 5)]) (by kernel_rfl) (by kernel_rfl)
  rw [show Try.prog.cellsOf 44 = 6 by kernel_rfl] at hl
  match cs, hl with
  | [x0, x1, x2, x3, x4, x5], _ =>
    have h0 := hf (9, 0) (by simp)
    have h1 := hf (3, 1) (by simp)
    have h2 := hf (41, 2) (by simp)
    have h3 := hf (42, 3) (by simp)
    have h4 := hf (41, 4) (by simp)
    have h5 := hf (42, 5) (by simp)
    simp only [show Try.prog.cellsOf 3 = 1 by kernel_rfl, show Try.prog.cellsOf 9 = 1 by kernel_rfl, show Try.prog.cellsOf 41 = 1 by kernel_rfl, show Try.prog.cellsOf 42 = 1 by kernel_rfl] at h0 h1 h2 h3 h4 h5
    obtain ⟨a, ha, hs⟩ := h0.str Try.underlying9
    obtain ⟨b, hb, _⟩ := h1.int Try.underlying3
    obtain ⟨p, hp, sp⟩ := ints_of h2
    obtain ⟨q, hq, sq⟩ := nds_of h3
    obtain ⟨r, hr, sr⟩ := ints_of h4
    obtain ⟨s, hs2, ss⟩ := nds_of h5
    simp at ha hb hp hq hr hs2
    exact ⟨⟨a, b, p, q, r, s⟩, by rw [ha, hb, hp, hq, hr, hs2]; rfl, ⟨hs, sp, sq, sr, ss⟩⟩
theorem lay_of {w : World} {cs : List Value} (h : Rd Try.prog w 27 cs) : ∃ L : Lay, cs = [L.se.v, L.po.v, L.sg.v, L.rt.v] ∧ LayAt w L := by
  obtain ⟨hl, hf⟩ := h.fields (L := [(22, 0), (23, 1), (24, 2), (25, 3)]) (by kernel_rfl) (by kernel_rfl)
  rw [show Try.prog.cellsOf 27 = 4 by kernel_rfl] at hl
  match cs, hl with
  | [x0, x1, x2, x3], _ =>
    have h0 := hf (22, 0) (by simp)
    have h1 := hf (23, 1) (by simp)
    have h2 := hf (24, 2) (by simp)
    have h3 := hf (25, 3) (by simp)
    simp only [show Try.prog.cellsOf 22 = 1 by kernel_rfl, show Try.prog.cellsOf 23 = 1 by kernel_rfl, show Try.prog.cellsOf 24 = 1 by kernel_rfl, show Try.prog.cellsOf 25 = 1 by kernel_rfl] at h0 h1 h2 h3
    obtain ⟨a, ha, sa, na⟩ := sl_of (f := strC) (sz := 1) Try.underlying22 (by kernel_rfl) (by decide) (fun _ => rfl) (fun _ h => str_el h) h0
    obtain ⟨b, hb, sb, nb⟩ := sl_of (f := ptC) (sz := 2) Try.underlying23 (by kernel_rfl) (by decide) (fun _ => rfl) (fun _ h => pt_el h) h1
    obtain ⟨c, hc, sc, nc⟩ := sl_of (f := ptC) (sz := 2) Try.underlying24 (by kernel_rfl) (by decide) (fun _ => rfl) (fun _ h => sg_el h) h2
    obtain ⟨d, hd, sd, nd⟩ := sl_of (f := rtC) (sz := 6) Try.underlying25 (by kernel_rfl) (by decide) (fun _ => rfl) (fun _ h => rt_el h) h3
    simp at ha hb hc hd
    exact ⟨⟨a, b, c, d⟩, by rw [ha, hb, hc, hd], ⟨sa, sb, sc, sd, na, nb, nc, nd⟩⟩
end Go.Proofs.Ytjienmjpfklgeaa
namespace Go.Proofs.Ytjienmjpfklgeaa
open Go.RowKit
set_option maxRecDepth 100000

def signB (r : Int) : Bool := decide (33 ≤ r ∧ r ≠ 58 ∧ r ≠ 35 ∧ r ≠ 43 ∧ r ≠ 45 ∧ r ≠ 65533 ∧ (r < 127 ∨ 160 < r))
/-- the characters from a place on, of a text of which n have been read -/
def rgo (s : BA) : Nat → Nat → Nat → Bool
  | 0, _, n => decide (1 ≤ n ∧ n ≤ 16)
  | b + 1, pos, n => if pos < s.size then (if signB (Utf8.decode s pos).1 then rgo s b (pos + (Utf8.decode s pos).2) (n + 1) else false) else decide (1 ≤ n ∧ n ≤ 16)
def rightS (s : BA) : Bool := rgo s s.size 0 0
theorem rgo_end (s : BA) (b pos n : Nat) (h : ¬ pos < s.size) : rgo s b pos n = decide (1 ≤ n ∧ n ≤ 16) := by
  cases b with
  | zero => rfl
  | succ b => simp [rgo, h]
theorem width_pos (s : BA) (pos : Nat) (h : pos < s.size) : 1 ≤ (Utf8.decode s pos).2 := by
  by_cases ha : (s[pos]'h).toNat < 128
  · rw [decode_ascii s pos h ha]
    exact Nat.le_refl _
  · exact (decode_high s pos h (by omega)).2
theorem sign_is (r : Int) (w : World) : Calls Try.prog 100 #[.int .i32 r] w fun e w' => e = .returned (.bool (signB r)) ∧ w = w' := by
  by_cases h1 : r < 33
  · have HB : Hid (signB r = false) := Lib.hid (decide_eq_false (by omega))
    go_enter Try.func100, Try.ntmps100
    go_wp2_with fail
    go_ret
    exact ⟨by rw [HB.out]; rfl, rfl⟩
  by_cases h2 : 127 ≤ r
  · by_cases h3 : r ≤ 160
    · have HB : Hid (signB r = false) := Lib.hid (decide_eq_false (by omega))
      go_enter Try.func100, Try.ntmps100
      go_wp2_with fail
      go_ret
      exact ⟨by rw [HB.out]; rfl, rfl⟩
    by_cases h4 : r = 65533
    · subst h4
      have HB : Hid (signB 65533 = false) := Lib.hid (by decide)
      go_enter Try.func100, Try.ntmps100
      go_wp2_with fail
      go_ret
      exact ⟨by rw [HB.out]; rfl, rfl⟩
    · have HB : Hid (signB r = true) := Lib.hid (decide_eq_true (by omega))
      have e1 : (r == 58) = false := by simp; omega
      have e2 : (r == 35) = false := by simp; omega
      have e3 : (r == 43) = false := by simp; omega
      have e4 : (r == 45) = false := by simp; omega
      have e5 : (r == 65533) = false := by simp; omega
      clear h4
      go_enter Try.func100, Try.ntmps100
      go_wp2_with fail
      go_ret
      exact ⟨by rw [HB.out]; rfl, rfl⟩
  · by_cases h4 : r = 58
    · subst h4
      have HB : Hid (signB 58 = false) := Lib.hid (by decide)
      go_enter Try.func100, Try.ntmps100
      go_wp2_with fail
      go_ret
      exact ⟨by rw [HB.out]; rfl, rfl⟩
    by_cases h5 : r = 35
    · subst h5
      have HB : Hid (signB 35 = false) := Lib.hid (by decide)
      go_enter Try.func100, Try.ntmps100
      go_wp2_with fail
      go_ret
      exact ⟨by rw [HB.out]; rfl, rfl⟩
    by_cases h6 : r = 43
    · subst h6
      have HB : Hid (signB 43 = false) := Lib.hid (by decide)
      go_enter Try.func100, Try.ntmps100
      go_wp2_with fail
      go_ret
      exact ⟨by rw [HB.out]; rfl, rfl⟩
    by_cases h7 : r = 45
    · subst h7
      have HB : Hid (signB 45 = false) := Lib.hid (by decide)
      go_enter Try.func100, Try.ntmps100
      go_wp2_with fail
      go_ret
      exact ⟨by rw [HB.out]; rfl, rfl⟩
    · have HB : Hid (signB r = true) := Lib.hid (decide_eq_true (by omega))
      have e1 : (r == 58) = false := by simpa using h4
      have e2 : (r == 35) = false := by simpa using h5
      have e3 : (r == 43) = false := by simpa using h6
      have e4 : (r == 45) = false := by simpa using h7
      have e5 : (r == 65533) = false := by simp; omega
      clear h4 h5 h6 h7
      go_enter Try.func100, Try.ntmps100
      go_wp2_with fail
      go_ret
      exact ⟨by rw [HB.out]; rfl, rfl⟩
theorem rsign_is (r : Int) (w : World) : Calls Try.prog 99 #[.int .i32 r] w fun e w' => e = .returned (.bool (signB r)) ∧ w = w' := by
  by_cases h1 : 33 ≤ r
  · by_cases h4 : r = 58
    · subst h4
      have HB : Hid (signB 58 = false) := Lib.hid (by decide)
      go_enter Try.func99, Try.ntmps99
      go_wp2_with fail
      go_ret
      exact ⟨by rw [HB.out]; rfl, rfl⟩
    by_cases h5 : r = 35
    · subst h5
      have HB : Hid (signB 35 = false) := Lib.hid (by decide)
      go_enter Try.func99, Try.ntmps99
      go_wp2_with fail
      go_ret
      exact ⟨by rw [HB.out]; rfl, rfl⟩
    by_cases h6 : r = 43
    · subst h6
      have HB : Hid (signB 43 = false) := Lib.hid (by decide)
      go_enter Try.func99, Try.ntmps99
      go_wp2_with fail
      go_ret
      exact ⟨by rw [HB.out]; rfl, rfl⟩
    by_cases h7 : r = 45
    · subst h7
      have HB : Hid (signB 45 = false) := Lib.hid (by decide)
      go_enter Try.func99, Try.ntmps99
      go_wp2_with fail
      go_ret
      exact ⟨by rw [HB.out]; rfl, rfl⟩
    by_cases h8 : r = 65533
    · subst h8
      have HB : Hid (signB 65533 = false) := Lib.hid (by decide)
      go_enter Try.func99, Try.ntmps99
      go_wp2_with fail
      go_ret
      exact ⟨by rw [HB.out]; rfl, rfl⟩
    have e1 : (r == 58) = false := by simpa using h4
    have e2 : (r == 35) = false := by simpa using h5
    have e3 : (r == 43) = false := by simpa using h6
    have e4 : (r == 45) = false := by simpa using h7
    have e5 : (r == 65533) = false := by simpa using h8
    have n1 : (r != 58) = true := by simpa using h4
    have n2 : (r != 35) = true := by simpa using h5
    have n3 : (r != 43) = true := by simpa using h6
    have n4 : (r != 45) = true := by simpa using h7
    have n5 : (r != 65533) = true := by simpa using h8
    by_cases h2 : r < 127
    · have HB : Hid (signB r = true) := Lib.hid (decide_eq_true (by omega))
      clear h4 h5 h6 h7 h8
      go_enter Try.func99, Try.ntmps99
      go_wp2_with fail
      go_ret
      exact ⟨by rw [HB.out]; rfl, rfl⟩
    by_cases h3 : 160 < r
    · have HB : Hid (signB r = true) := Lib.hid (decide_eq_true (by omega))
      clear h4 h5 h6 h7 h8
      go_enter Try.func99, Try.ntmps99
      go_wp2_with fail
      go_ret
      exact ⟨by rw [HB.out]; rfl, rfl⟩
    · have HB : Hid (signB r = false) := Lib.hid (decide_eq_false (by omega))
      clear h4 h5 h6 h7 h8
      go_enter Try.func99, Try.ntmps99
      go_wp2_with fail
      go_ret
      exact ⟨by rw [HB.out]; rfl, rfl⟩
  · have HB : Hid (signB r = false) := Lib.hid (decide_eq_false (by omega))
    go_enter Try.func99, Try.ntmps99
    go_wp2_with fail
    go_ret
    exact ⟨by rw [HB.out]; rfl, rfl⟩
theorem sign_to (b : Bool) (r : Int) (w : World) (h : signB r = b) : Calls Try.prog 100 #[.int .i32 r] w fun e w' => e = .returned (.bool b) ∧ w = w' := h ▸ sign_is r w
theorem rsign_to (b : Bool) (r : Int) (w : World) (h : signB r = b) : Calls Try.prog 99 #[.int .i32 r] w fun e w' => e = .returned (.bool b) ∧ w = w' := h ▸ rsign_is r w
theorem rgo_step {s : BA} {b pos n : Nat} (hp : pos < s.size) : rgo s (b + 1) pos n = if signB (Utf8.decode s pos).1 then rgo s b (pos + (Utf8.decode s pos).2) (n + 1) else false := by
  show (if pos < s.size then _ else _) = _
  rw [if_pos hp]
attribute [local irreducible] signB rgo
theorem below_iter (w : World) (s : BA) (p : Nat) : Below w.heap.size w (w.iter s p) := below1 w _
set_option maxRecDepth 100000 in
theorem right_is (s : BA) (w : World) (hs : s.size ≤ maxLen) :
    Calls Try.prog 86 #[.string s] w fun e w' => e = .returned (.bool (rightS s)) ∧ Below w.heap.size w w' := by
  have hsz : s.size ≤ 9223372036854775807 := by unfold maxLen at hs; omega
  clear hs
  go_enter Try.func86, Try.ntmps86
  go_wp2_with fail
  go_loopw [3] (fun n w' => ∃ (pos b k : Nat), w' = w.iter s pos ∧ n = .int .i64 k ∧ rgo s b pos k = rightS s ∧ s.size ≤ pos + b ∧ k ≤ pos) (fun _ w' => s.size - w'.iterPos w.heap.size)
  case atStart => exact ⟨0, s.size, 0, rfl, rfl, rfl, by omega, by omega⟩
  case round =>
    obtain ⟨pos, b, k, rfl, rfl, hc, hb, hk⟩ := hrel
    by_cases hp : pos < s.size
    · have hnx : ∀ ty, (Instr.next (.pointer (some ⟨w.heap.size, 0, none⟩)) true ty).run Try.prog (w.iter s pos) = _ := fun ty => run_next_any w s pos ty hp
      have hwd := width_pos s pos hp
      cases b with
      | zero => omega
      | succ b =>
        rw [rgo_step hp] at hc
        have HW := Lib.hid (show wrap64 ((k : Int) + 1) = (k : Int) + 1 by unfold wrap64; omega)
        obtain ⟨D, hD⟩ : ∃ D, Utf8.decode s pos = D := ⟨_, rfl⟩
        rw [hD] at hnx hwd hc
        obtain ⟨rr, wd⟩ := D
        dsimp only at hnx hwd hc
        cases hg : signB (rr : Int) with
        | true =>
          rw [if_pos hg] at hc
          have HG := Lib.hid hg
          have HC := Lib.hid hc
          have hw := HW.out
          clear hg hc hD
          go_wp2_with fail
          refine (sign_to true _ _ HG.out).mono ?_
          rintro e w1 ⟨rfl, rfl⟩
          go_wp2_with fail
          go_roundw
          case rel => exact ⟨pos + wd, b, k + 1, rfl, by go_num, HC.out, by omega, by omega⟩
          case measure => simp; omega
        | false =>
          rw [if_neg (by rw [hg]; decide)] at hc
          have HG := Lib.hid hg
          have HC := Lib.hid hc
          clear hg hc hD
          go_wp2_with fail
          refine (sign_to false _ _ HG.out).mono ?_
          rintro e w1 ⟨rfl, rfl⟩
          go_wp2_with fail
          go_ret
          exact ⟨by rw [← HC.out]; rfl, below_iter w s _⟩
    · have hnx : ∀ ty, (Instr.next (.pointer (some ⟨w.heap.size, 0, none⟩)) true ty).run Try.prog (w.iter s pos) = _ := fun ty => run_next_end w s pos ty hp
      rw [rgo_end s b pos k hp] at hc
      by_cases h1 : 1 ≤ k
      · by_cases h2 : k ≤ 16
        · rw [decide_eq_true ⟨h1, h2⟩] at hc
          have HC := Lib.hid hc
          have i1 : (1 : Int) ≤ k := by omega
          have i2 : (k : Int) ≤ 16 := by omega
          clear hc h1 h2
          go_wp2_with fail
          go_ret
          exact ⟨by rw [← HC.out]; rfl, below_iter w s _⟩
        · rw [decide_eq_false (by omega)] at hc
          have HC := Lib.hid hc
          have i1 : (1 : Int) ≤ k := by omega
          have i2 : ¬ (k : Int) ≤ 16 := by omega
          clear hc h1 h2
          go_wp2_with fail
          go_ret
          exact ⟨by rw [← HC.out]; rfl, below_iter w s _⟩
      · rw [decide_eq_false (by omega)] at hc
        have HC := Lib.hid hc
        have i1 : ¬ (1 : Int) ≤ k := by omega
        clear hc h1
        go_wp2_with fail
        go_ret
        exact ⟨by rw [← HC.out]; rfl, below_iter w s _⟩
set_option maxRecDepth 100000 in
theorem rright_is (s : BA) (w : World) (hs : s.size ≤ maxLen) :
    Calls Try.prog 73 #[.string s] w fun e w' => e = .returned (.bool (rightS s)) ∧ Below w.heap.size w w' := by
  have hsz : s.size ≤ 9223372036854775807 := by unfold maxLen at hs; omega
  clear hs
  go_enter Try.func73, Try.ntmps73
  go_wp2_with fail
  go_loopw [3] (fun n w' => ∃ (pos b k : Nat), w' = w.iter s pos ∧ n = .int .i64 k ∧ rgo s b pos k = rightS s ∧ s.size ≤ pos + b ∧ k ≤ pos) (fun _ w' => s.size - w'.iterPos w.heap.size)
  case atStart => exact ⟨0, s.size, 0, rfl, rfl, rfl, by omega, by omega⟩
  case round =>
    obtain ⟨pos, b, k, rfl, rfl, hc, hb, hk⟩ := hrel
    by_cases hp : pos < s.size
    · have hnx : ∀ ty, (Instr.next (.pointer (some ⟨w.heap.size, 0, none⟩)) true ty).run Try.prog (w.iter s pos) = _ := fun ty => run_next_any w s pos ty hp
      have hwd := width_pos s pos hp
      cases b with
      | zero => omega
      | succ b =>
        rw [rgo_step hp] at hc
        have HW := Lib.hid (show wrap64 ((k : Int) + 1) = (k : Int) + 1 by unfold wrap64; omega)
        obtain ⟨D, hD⟩ : ∃ D, Utf8.decode s pos = D := ⟨_, rfl⟩
        rw [hD] at hnx hwd hc
        obtain ⟨rr, wd⟩ := D
        dsimp only at hnx hwd hc
        cases hg : signB (rr : Int) with
        | true =>
          rw [if_pos hg] at hc
          have HG := Lib.hid hg
          have HC := Lib.hid hc
          have hw := HW.out
          clear hg hc hD
          go_wp2_with fail
          refine (rsign_to true _ _ HG.out).mono ?_
          rintro e w1 ⟨rfl, rfl⟩
          go_wp2_with fail
          go_roundw
          case rel => exact ⟨pos + wd, b, k + 1, rfl, by go_num, HC.out, by omega, by omega⟩
          case measure => simp; omega
        | false =>
          rw [if_neg (by rw [hg]; decide)] at hc
          have HG := Lib.hid hg
          have HC := Lib.hid hc
          clear hg hc hD
          go_wp2_with fail
          refine (rsign_to false _ _ HG.out).mono ?_
          rintro e w1 ⟨rfl, rfl⟩
          go_wp2_with fail
          go_ret
          exact ⟨by rw [← HC.out]; rfl, below_iter w s _⟩
    · have hnx : ∀ ty, (Instr.next (.pointer (some ⟨w.heap.size, 0, none⟩)) true ty).run Try.prog (w.iter s pos) = _ := fun ty => run_next_end w s pos ty hp
      rw [rgo_end s b pos k hp] at hc
      by_cases h1 : 1 ≤ k
      · by_cases h2 : k ≤ 16
        · rw [decide_eq_true ⟨h1, h2⟩] at hc
          have HC := Lib.hid hc
          have i1 : (1 : Int) ≤ k := by omega
          have i2 : (k : Int) ≤ 16 := by omega
          clear hc h1 h2
          go_wp2_with fail
          go_ret
          exact ⟨by rw [← HC.out]; rfl, below_iter w s _⟩
        · rw [decide_eq_false (by omega)] at hc
          have HC := Lib.hid hc
          have i1 : (1 : Int) ≤ k := by omega
          have i2 : ¬ (k : Int) ≤ 16 := by omega
          clear hc h1 h2
          go_wp2_with fail
          go_ret
          exact ⟨by rw [← HC.out]; rfl, below_iter w s _⟩
      · rw [decide_eq_false (by omega)] at hc
        have HC := Lib.hid hc
        have i1 : ¬ (1 : Int) ≤ k := by omega
        clear hc h1
        go_wp2_with fail
        go_ret
        exact ⟨by rw [← HC.out]; rfl, below_iter w s _⟩
end Go.Proofs.Ytjienmjpfklgeaa
namespace Go.Proofs.Ytjienmjpfklgeaa
open Go.RowKit
set_option maxRecDepth 100000
attribute [local irreducible] signB rgo rightS

/-- block r is a map whose keys are these texts -/
def NmsAt (w : World) (r : Nat) (L : List BA) : Prop := ∃ es clock, w.heap[r]? = some (.map es clock) ∧ es.toList.map (·.key) = L.map Value.string
theorem NmsAt.below {w w' : World} {r : Nat} {L : List BA} (h : NmsAt w r L) (hb : Below w.heap.size w w') : NmsAt w' r L := by
  obtain ⟨es, clock, h1, h2⟩ := h
  exact ⟨es, clock, blk_keep hb h1, h2⟩
theorem nm_keys {es : List MapEntry} {L : List BA} (h : es.map (·.key) = L.map Value.string) : ∀ x ∈ es, MapKept.IsKey .string x.key := by
  intro x hx
  have : x.key ∈ L.map Value.string := by rw [← h]; exact List.mem_map.2 ⟨x, hx, rfl⟩
  obtain ⟨s, _, hs⟩ := List.mem_map.1 this
  rw [← hs]
  exact trivial
theorem nm_no {es : List MapEntry} {L : List BA} {s : BA} (h : es.map (·.key) = L.map Value.string) (hs : s ∉ L) : Instr.findNow .string (.string s) es 0 = some none := by
  rcases MapKept.findNow_spec (d := .string) (k := .string s) trivial es 0 (nm_keys h) with ⟨h1, _⟩ | ⟨j, e, _, h2, h3⟩
  · exact h1
  · exfalso
    apply hs
    have : e.key ∈ L.map Value.string := by rw [← h]; exact List.mem_map.2 ⟨e, List.mem_of_getElem? h2, rfl⟩
    obtain ⟨t, ht, he⟩ := List.mem_map.1 this
    rw [h3] at he
    cases he
    exact ht
theorem nm_yes {es : List MapEntry} {L : List BA} {s : BA} (h : es.map (·.key) = L.map Value.string) (hs : s ∈ L) : ∃ j v, Instr.findNow .string (.string s) es 0 = some (some (j, v)) := by
  rcases MapKept.findNow_spec (d := .string) (k := .string s) trivial es 0 (nm_keys h) with ⟨_, h2⟩ | ⟨j, e, h1, _, _⟩
  · exfalso
    have : Value.string s ∈ es.map (·.key) := by rw [h]; exact List.mem_map.2 ⟨s, hs, rfl⟩
    obtain ⟨x, hx, he⟩ := List.mem_map.1 this
    exact h2 x hx he
  · exact ⟨_, _, h1⟩
theorem info_any : (Try.prog.info? 20).map (fun i => (i.zero, i.size, i.bytes)) = some (some .nilIface, 1, 16) := by kernel_rfl
theorem run_nm_yes {w : World} {r : Nat} {L : List BA} {s : BA} (h : NmsAt w r L) (hs : s ∈ L) : ∃ v, (Instr.lookup 122 (.map (some r)) (.string s) true).run Try.prog w = .ok (.tuple #[v, .bool true]) w := by
  obtain ⟨es, clock, h1, h2⟩ := h
  obtain ⟨j, v, h3⟩ := nm_yes h2 hs
  have hc : (Instr.checkKey es.isEmpty 10000 9 (.string s)).run Try.prog w = .ok () w := MapKept.run_checkKey (k := .string s) Try.underlying9 (by simp [MapKept.IsKey]) es.isEmpty 9999
  exact ⟨v, by simp [Instr.lookup, run_underlying Try.underlying122, MapKept.run_getObj_map h1, hc, MapKept.run_findKey Try.underlying9 h3, Result.andThen]⟩
theorem run_nm_no {w : World} {r : Nat} {L : List BA} {s : BA} (h : NmsAt w r L) (hs : s ∉ L) : (Instr.lookup 122 (.map (some r)) (.string s) true).run Try.prog w = .ok (.tuple #[.nilIface, .bool false]) w := by
  obtain ⟨es, clock, h1, h2⟩ := h
  have h3 := nm_no h2 hs
  have hc : (Instr.checkKey es.isEmpty 10000 9 (.string s)).run Try.prog w = .ok () w := MapKept.run_checkKey (k := .string s) Try.underlying9 (by simp [MapKept.IsKey]) es.isEmpty 9999
  obtain ⟨i0, hi, hz0, _, _⟩ := info_parts info_any
  have hz : (zeroValue 20).run Try.prog w = .ok .nilIface w := by simp [zeroValue, typeInfo, hi, hz0, Result.andThen]
  simp [Instr.lookup, run_underlying Try.underlying122, MapKept.run_getObj_map h1, hc, MapKept.run_findKey Try.underlying9 h3, hz, Result.andThen]
theorem run_nm_put {w : World} {r : Nat} {L : List BA} {s : BA} (v : Value) (h : NmsAt w r L) (hs : s ∉ L) : ∃ w', (Instr.mapUpdate 122 (.map (some r)) (.string s) v).run Try.prog w = .ok () w' ∧ NmsAt w' r (L ++ [s]) ∧ Only r w w' := by
  obtain ⟨es, clock, h1, h2⟩ := h
  have h3 := nm_no h2 hs
  have hc : (Instr.checkKey false 10000 9 (.string s)).run Try.prog w = .ok () w := MapKept.run_checkKey (k := .string s) Try.underlying9 (by simp [MapKept.IsKey]) false 9999
  refine ⟨{ w with heap := w.heap.setIfInBounds r (.map (es.push { key := .string s, val := v, born := clock }) (clock + 1)) }, ?_, ?_, ?_⟩
  · simp [Instr.mapUpdate, run_underlying Try.underlying122, MapKept.run_getObj_map h1, hc, MapKept.run_findKey Try.underlying9 h3, MapKept.run_setObj_map _ h1, Result.andThen]
  · exact ⟨_, _, (MapKept.heap_set h1).1, by rw [Array.toList_push, List.map_append, h2, List.map_append]; rfl⟩
  · exact ⟨rfl, rfl, rfl, by simp, fun k _ hk => (MapKept.heap_set h1).2 k hk⟩
/-- block gb is a book with the names L, which lie in block r -/
structure BookAt (w : World) (gb r : Nat) (L : List BA) : Prop where
  b : ∃ v0 v1 v2 v3 : Value, w.heap[gb]? = some (.cells #[v0, v1, v2, v3, .map (some r)] 124)
  n : NmsAt w r L
  ne : gb ≠ r
theorem BookAt.below {w w' : World} {gb r : Nat} {L : List BA} (h : BookAt w gb r L) (hb : Below w.heap.size w w') : BookAt w' gb r L := by
  obtain ⟨⟨v0, v1, v2, v3, h1⟩, h2, h3⟩ := h
  exact ⟨⟨v0, v1, v2, v3, blk_keep hb h1⟩, h2.below hb, h3⟩
theorem fresh_yes (gb r : Nat) (L : List BA) (s : BA) (v : Value) (w : World) (h : BookAt w gb r L) (hs : s ∉ L) :
    Calls Try.prog 87 #[.pointer (some ⟨gb, 0, none⟩), .string s, v] w fun e w' => e = .returned (.bool true) ∧ BookAt w' gb r (L ++ [s]) ∧ Only r w w' := by
  obtain ⟨⟨v0, v1, v2, v3, h1⟩, h2, h3⟩ := h
  have c4 := blk_cell h1 4 _ rfl
  have hlk := run_nm_no h2 hs
  obtain ⟨w1, hup, hn, ho⟩ := run_nm_put v h2 hs
  have HE : Hid (BookAt w1 gb r (L ++ [s]) ∧ Only r w w1) := Lib.hid ⟨⟨⟨v0, v1, v2, v3, ho.keep h3 h1⟩, hn, h3⟩, ho⟩
  clear h1 h2 h3 hn ho hs
  go_enter Try.func87, Try.ntmps87
  go_wp2_with fail
  go_ret
  exact ⟨rfl, HE.out.1, HE.out.2⟩
theorem fresh_no (gb r : Nat) (L : List BA) (s : BA) (v : Value) (w : World) (h : BookAt w gb r L) (hs : s ∈ L) :
    Calls Try.prog 87 #[.pointer (some ⟨gb, 0, none⟩), .string s, v] w fun e w' => e = .returned (.bool false) ∧ w = w' := by
  obtain ⟨⟨v0, v1, v2, v3, h1⟩, h2, h3⟩ := h
  have c4 := blk_cell h1 4 _ rfl
  obtain ⟨u, hlk⟩ := run_nm_yes h2 hs
  clear h1 h2 h3 hs
  go_enter Try.func87, Try.ntmps87
  go_wp2_with fail
  go_ret
  exact ⟨rfl, rfl⟩
/-- are all numbers from 0 up to n, n left out? -/
def belowB (n : Nat) (l : List Int) : Bool := l.all fun x => decide (0 ≤ x ∧ x < (n : Int))
theorem belowB_snoc (n : Nat) (l : List Int) (x : Int) : belowB n (l ++ [x]) = (belowB n l && decide (0 ≤ x ∧ x < (n : Int))) := by unfold belowB; rw [List.all_append]; simp
theorem belowB_take {n : Nat} {l : List Int} {k : Nat} {x : Int} (h : l[k]? = some x) : belowB n (l.take (k + 1)) = (belowB n (l.take k) && decide (0 ≤ x ∧ x < (n : Int))) := by
  rw [List.take_add_one, h]; exact belowB_snoc _ _ _
theorem belowB_false {n : Nat} {l : List Int} {k : Nat} {x : Int} (h : l[k]? = some x) (hx : ¬ (0 ≤ x ∧ x < (n : Int))) : belowB n l = false := by
  unfold belowB
  rw [List.all_eq_false]
  exact ⟨x, List.mem_of_getElem? h, by simp; omega⟩
attribute [local irreducible] belowB
theorem below_is (n : Nat) (x : Option Addr) (m c : Nat) (l : List Int) (w : World) (hn : l.length = m) (hm : m ≤ 9223372036854775807) (hl : RowAt 1 intC w x l) :
    Calls Try.prog 88 #[.int .i64 (n : Int), .slice x m c] w fun e w' => e = .returned (.bool (belowB n l)) ∧ w = w' := by
  have HN := Lib.hid hn
  clear hn
  go_enter Try.func88, Try.ntmps88
  go_wp2_with fail
  go_loopg [6, 9] m (fun g _ i wr => ∃ k : Nat, k + g = m ∧ i = .int .i64 (k : Int) ∧ belowB n (l.take k) = true ∧ w = wr)
  case atStart => exact ⟨0, by omega, rfl, by unfold belowB; rfl, rfl⟩
  case round =>
    obtain ⟨k, hk, rfl, hb, rfl⟩ := hrel
    have HB := Lib.hid hb
    clear hb
    by_cases hlt : k < m
    · obtain ⟨y, hy⟩ : ∃ y, l[k]? = some y := ⟨_, List.getElem?_eq_getElem (by rw [HN.out]; exact hlt)⟩
      rcases hl with rfl | ⟨b, off, rfl, hc⟩
      · simp at hy
      have z0 := hc k y hy 0 _ rfl
      rw [Nat.add_zero, Nat.mul_one] at z0
      have HY := Lib.hid hy
      have d1 : (0 : Int) ≤ k := by omega
      have d2 : (k : Int) < m := by omega
      have e1 : wrap64 ((k : Int) + 1) = (k : Int) + 1 := by unfold wrap64; omega
      have HK := Lib.hid hk
      clear hc hy hk
      by_cases h1 : y < 0
      · have HF := Lib.hid (belowB_false (n := n) HY.out (by omega))
        go_wp2_with fail
        go_ret
        exact ⟨by rw [HF.out]; rfl, rfl⟩
      by_cases h2 : (n : Int) ≤ y
      · have HF := Lib.hid (belowB_false (n := n) HY.out (by omega))
        go_wp2_with fail
        go_ret
        exact ⟨by rw [HF.out]; rfl, rfl⟩
      · have HT : Hid (belowB n (l.take (k + 1)) = true) := Lib.hid (by rw [belowB_take HY.out, HB.out, decide_eq_true (by omega)]; rfl)
        go_wp2_with fail
        go_roundg (m - (k + 1))
        case rel => exact ⟨k + 1, by have := HK.out; omega, by go_num, HT.out, rfl⟩
        case measure => have := HK.out; omega
    · obtain rfl : k = m := by omega
      have HT : Hid (belowB n l = true) := Lib.hid (by have := HB.out; rwa [List.take_of_length_le (by rw [HN.out]; exact Nat.le_refl _)] at this)
      go_wp2_with fail
      go_ret
      exact ⟨by rw [HT.out]; rfl, rfl⟩
end Go.Proofs.Ytjienmjpfklgeaa
namespace Go.Proofs.Ytjienmjpfklgeaa
open Go.RowKit
set_option maxRecDepth 100000

def mayB (n : Nat) (l : List (Int × Bool)) : Bool := decide (l.length ≤ 16) && belowB n (l.map (·.1))
def hasN (pre : List BA) (s : BA) : Bool := pre.any fun x => decide (x = s)
theorem hasN_iff {pre : List BA} {s : BA} : hasN pre s = true ↔ s ∈ pre := by
  unfold hasN
  rw [List.any_eq_true]
  constructor
  · rintro ⟨x, hx, h⟩; have := of_decide_eq_true h; subst this; exact hx
  · exact fun h => ⟨s, h, decide_eq_true rfl⟩
def okNm (pre : List BA) (s : BA) : Bool := rightS s && !hasN pre s
def nmsFrom : List BA → List BA → Bool
  | _, [] => true
  | pre, s :: t => okNm pre s && nmsFrom (pre ++ [s]) t
def ptsFrom (pre : List BA) (n : Nat) (l : List (BA × Int)) : Bool := nmsFrom pre (l.map (·.1)) && belowB n (l.map (·.2))
def rtB (S P : Nat) (r : Rt) : Bool := decide (r.pa.l.length ≤ 16) && decide (r.ov.l.length ≤ 16) && belowB S r.pa.l && belowB S r.ov.l && (mayB P r.po.l && mayB P r.fl.l)
def rtsFrom (pre : List BA) (G S P : Nat) (l : List Rt) : Bool := nmsFrom pre (l.map (·.nm)) && belowB G (l.map (·.sg)) && l.all (rtB S P)
def Lay.n1 (L : Lay) : List BA := L.se.l
def Lay.n2 (L : Lay) : List BA := L.se.l ++ L.po.l.map (·.1)
def Lay.n3 (L : Lay) : List BA := L.n2 ++ L.sg.l.map (·.1)
def Lay.small (L : Lay) : Bool := decide (L.se.l.length ≤ 64 ∧ L.po.l.length ≤ 32 ∧ L.sg.l.length ≤ 32 ∧ L.rt.l.length ≤ 64)
def mayS (L : Lay) : Bool := L.small && (nmsFrom [] L.se.l && ptsFrom L.n1 L.se.l.length L.po.l && ptsFrom L.n2 L.se.l.length L.sg.l && rtsFrom L.n3 L.sg.l.length L.se.l.length L.po.l.length L.rt.l)
theorem nms_snoc (s : BA) : ∀ (l pre : List BA), nmsFrom pre (l ++ [s]) = (nmsFrom pre l && okNm (pre ++ l) s) := by
  intro l
  induction l with
  | nil => intro pre; simp [nmsFrom]
  | cons a l ih => intro pre; simp [nmsFrom, ih, Bool.and_assoc]
theorem nms_append : ∀ (l m pre : List BA), nmsFrom pre (l ++ m) = (nmsFrom pre l && nmsFrom (pre ++ l) m) := by
  intro l
  induction l with
  | nil => intro m pre; simp [nmsFrom]
  | cons a l ih => intro m pre; simp [nmsFrom, ih, Bool.and_assoc]
theorem nms_take {pre l : List BA} {k : Nat} {s : BA} (h : l[k]? = some s) : nmsFrom pre (l.take (k + 1)) = (nmsFrom pre (l.take k) && okNm (pre ++ l.take k) s) := by
  rw [List.take_add_one, h]; exact nms_snoc _ _ _
theorem take_map {α β : Type} {f : α → β} {l : List α} {k : Nat} : (l.take k).map f = (l.map f).take k := List.map_take
theorem get_map {α β : Type} {f : α → β} {l : List α} {k : Nat} {c : α} (h : l[k]? = some c) : (l.map f)[k]? = some (f c) := by rw [List.getElem?_map, h]; rfl
theorem pts_take {pre : List BA} {n : Nat} {l : List (BA × Int)} {k : Nat} {c : BA × Int} (h : l[k]? = some c) : ptsFrom pre n (l.take (k + 1)) = (ptsFrom pre n (l.take k) && (okNm (pre ++ (l.take k).map (·.1)) c.1 && decide (0 ≤ c.2 ∧ c.2 < (n : Int)))) := by
  unfold ptsFrom
  rw [take_map, take_map, nms_take (get_map h), belowB_take (get_map h), take_map, take_map]
  cases nmsFrom pre ((l.map (·.1)).take k) <;> cases belowB n ((l.map (·.2)).take k) <;> simp
theorem rts_take {pre : List BA} {G S P : Nat} {l : List Rt} {k : Nat} {c : Rt} (h : l[k]? = some c) : rtsFrom pre G S P (l.take (k + 1)) = (rtsFrom pre G S P (l.take k) && (okNm (pre ++ (l.take k).map (·.nm)) c.nm && decide (0 ≤ c.sg ∧ c.sg < (G : Int)) && rtB S P c)) := by
  have ha : (l.take (k + 1)).all (rtB S P) = ((l.take k).all (rtB S P) && rtB S P c) := by rw [List.take_add_one, h, List.all_append]; simp
  unfold rtsFrom
  rw [ha, take_map, take_map, nms_take (get_map h), belowB_take (get_map h), take_map, take_map]
  cases nmsFrom pre ((l.map (·.nm)).take k) <;> cases belowB G ((l.map (·.sg)).take k) <;> cases (l.take k).all (rtB S P) <;> simp
theorem belowB_one (n : Nat) (x : Int) : belowB n [x] = decide (0 ≤ x ∧ x < (n : Int)) := by unfold belowB; simp
theorem right_to (b : Bool) (s : BA) (w : World) (hs : s.size ≤ maxLen) (h : rightS s = b) : Calls Try.prog 86 #[.string s] w fun e w' => e = .returned (.bool b) ∧ Below w.heap.size w w' := h ▸ right_is s w hs
theorem below_to (B : Bool) (n : Nat) (x : Option Addr) (m c : Nat) (l : List Int) (w : World) (hB : belowB n l = B) (hn : l.length = m) (hm : m ≤ 9223372036854775807) (hl : RowAt 1 intC w x l) :
    Calls Try.prog 88 #[.int .i64 (n : Int), .slice x m c] w fun e w' => e = .returned (.bool B) ∧ w = w' := hB ▸ below_is n x m c l w hn hm hl
theorem row_one {w : World} {g : Nat} {x : Int} {t : TypeId} {fr : Nat × Nat} (h : w.heap[g]? = some (.cells #[.int .i64 x] t fr)) : RowAt 1 intC w (some ⟨g, 0, none⟩) [x] := by
  refine .inr ⟨g, 0, rfl, fun i c hi j v hv => ?_⟩
  have hi1 : i < 1 := (List.getElem?_eq_some_iff.1 hi).1
  have hj1 : j < 1 := (List.getElem?_eq_some_iff.1 hv).1
  obtain rfl : i = 0 := by omega
  obtain rfl : j = 0 := by omega
  simp at hi hv
  subst hi
  simp [intC] at hv
  subst hv
  exact blk_cell h 0 _ rfl
theorem one_below (n : Nat) (x : Int) (w : World) (g : Nat) (t : TypeId) (fr : Nat × Nat) (h : w.heap[g]? = some (.cells #[.int .i64 x] t fr)) : Calls Try.prog 88 #[.int .i64 (n : Int), .slice (some ⟨g, 0, none⟩) 1 1] w fun e w' => e = .returned (.bool (decide (0 ≤ x ∧ x < (n : Int)))) ∧ w = w' :=
  below_to _ n _ 1 1 [x] _ (belowB_one n x) rfl (by omega) (row_one h)
theorem mayB_long {n : Nat} {l : List (Int × Bool)} (h : ¬ l.length ≤ 16) : mayB n l = false := by unfold mayB; rw [decide_eq_false h]; rfl
theorem mayB_out {n : Nat} {l : List (Int × Bool)} {k : Nat} {c : Int × Bool} (h : l[k]? = some c) (hx : ¬ (0 ≤ c.1 ∧ c.1 < (n : Int))) : mayB n l = false := by
  unfold mayB; rw [belowB_false (get_map h) hx, Bool.and_false]
attribute [local irreducible] belowB mayB okNm nmsFrom
set_option maxHeartbeats 1000000 in
theorem may_is (p : Nat) (x : Option Addr) (m c : Nat) (l : List (Int × Bool)) (w : World) (hn : l.length = m) (hm : m ≤ 9223372036854775807) (hl : RowAt 2 ndC w x l) :
    Calls Try.prog 89 #[.slice x m c, .int .i64 (p : Int)] w fun e w' => e = .returned (.bool (mayB p l)) ∧ Below w.heap.size w w' := by
  have HN := Lib.hid hn
  clear hn
  go_enter Try.func89, Try.ntmps89
  go_wp2_with fail
  go_loopg [5, 6, 9] m (fun g _ _ i wr => ∃ k : Nat, k + g = m ∧ k ≤ 16 ∧ i = .int .i64 (k : Int) ∧ belowB p ((l.map (·.1)).take k) = true ∧ Below w.heap.size w wr)
  case atStart => exact ⟨0, by omega, by omega, rfl, by unfold belowB; rfl, Below.refl _ _⟩
  case round =>
    obtain ⟨k, hk, hk16, rfl, hb, hbw⟩ := hrel
    have HB := Lib.hid hb
    clear hb
    by_cases hlt : k < m
    · obtain ⟨y, hy⟩ : ∃ y, l[k]? = some y := ⟨_, List.getElem?_eq_getElem (by rw [HN.out]; exact hlt)⟩
      have hl2 := hl.below hbw
      rcases hl2 with rfl | ⟨b, off, rfl, hc⟩
      · simp at hy
      obtain ⟨y0, y1⟩ := y
      have z0 := hc k _ hy 0 _ rfl
      have z1 := hc k _ hy 1 _ rfl
      rw [Nat.add_zero] at z0
      dsimp only at z0 z1
      have HY := Lib.hid hy
      have d1 : (0 : Int) ≤ k := by omega
      have d2 : (k : Int) < m := by omega
      have e1 : wrap64 ((k : Int) + 1) = (k : Int) + 1 := by unfold wrap64; omega
      have HK := Lib.hid hk
      have HBW := Lib.hid hbw
      clear hc hy hk hbw
      by_cases h16 : k = 16
      · have HF : Hid (mayB p l = false) := Lib.hid (mayB_long (by have := HN.out; omega))
        have h3 : (16 : Int) ≤ k := by omega
        clear hk16 h16
        go_wp2_with fail
        go_ret
        refine ⟨by rw [HF.out]; rfl, ?_⟩
        exact below_on HBW.out (below1 _ _)
      have h3 : ¬ (16 : Int) ≤ k := by omega
      have HK16 := Lib.hid (show k + 1 ≤ 16 by omega)
      clear hk16 h16
      obtain ⟨D, hD⟩ : ∃ D, decide (0 ≤ y0 ∧ y0 < (p : Int)) = D := ⟨_, rfl⟩
      have HKK : Hid (∀ (W : World) (g : Nat), W.heap[g]? = some (.cells #[.int .i64 y0] 3) → Calls Try.prog 88 #[.int .i64 (p : Int), .slice (some ⟨g, 0, none⟩) 1 1] W fun e w' => e = .returned (.bool D) ∧ W = w') := Lib.hid (fun W g h => hD ▸ one_below p y0 W g 3 (0, 0) h)
      cases D with
      | true =>
        have HT : Hid (belowB p ((l.map (·.1)).take (k + 1)) = true) := Lib.hid (by rw [belowB_take (get_map HY.out), HB.out, hD]; rfl)
        clear hD
        go_wp2_with fail
        refine (HKK.out _ _ (alloc2' wr _ _).2).mono ?_
        rintro e w7 ⟨rfl, rfl⟩
        go_wp2_with fail
        go_roundg (m - (k + 1))
        case rel => exact ⟨k + 1, by have := HK.out; omega, HK16.out, by go_num, HT.out, below_on HBW.out (below2' wr _ _)⟩
        case measure => have := HK.out; omega
      | false =>
        have HF : Hid (mayB p l = false) := Lib.hid (mayB_out HY.out (by dsimp only; exact of_decide_eq_false hD))
        clear hD
        go_wp2_with fail
        refine (HKK.out _ _ (alloc2' wr _ _).2).mono ?_
        rintro e w7 ⟨rfl, rfl⟩
        go_wp2_with fail
        go_ret
        exact ⟨by rw [HF.out]; rfl, below_on HBW.out (below2' wr _ _)⟩
    · obtain rfl : k = m := by omega
      have HT : Hid (mayB p l = true) := Lib.hid (by
        have h1 := HB.out
        rw [List.take_of_length_le (by rw [List.length_map, HN.out]; exact Nat.le_refl _)] at h1
        have h2 := HN.out
        unfold mayB
        rw [h1, decide_eq_true (by omega)]; rfl)
      have HBW := Lib.hid hbw
      clear hbw
      go_wp2_with fail
      go_ret
      exact ⟨by rw [HT.out]; rfl, HBW.out⟩
theorem may_to (B : Bool) (p : Nat) (x : Option Addr) (m c : Nat) (l : List (Int × Bool)) (w : World) (hB : mayB p l = B) (hn : l.length = m) (hm : m ≤ 9223372036854775807) (hl : RowAt 2 ndC w x l) :
    Calls Try.prog 89 #[.slice x m c, .int .i64 (p : Int)] w fun e w' => e = .returned (.bool B) ∧ Below w.heap.size w w' := hB ▸ may_is p x m c l w hn hm hl
end Go.Proofs.Ytjienmjpfklgeaa
namespace Go.Proofs.Ytjienmjpfklgeaa
open Go.RowKit
set_option maxRecDepth 100000

/-- what lies in memory while May runs: the layout's copy, the book, its names -/
structure MyAt (w0 w : World) (gl gb r : Nat) (L : Lay) : Prop where
  lay : w.heap[gl]? = some (.cells #[L.se.v, L.po.v, L.sg.v, L.rt.v] 27)
  o1 : w0.heap.size ≤ gl
  o2 : gl < r
  o3 : r < gb
  o4 : gb < w.heap.size
  below : Below w0.heap.size w0 w
theorem MyAt.step {w0 w w' : World} {gl gb r : Nat} {L : Lay} (h : MyAt w0 w gl gb r L) (hb : Below w.heap.size w w') : MyAt w0 w' gl gb r L := ⟨blk_keep hb h.lay, h.o1, h.o2, h.o3, Nat.lt_of_lt_of_le h.o4 hb.size, h.below.trans (hb.mono h.below.size)⟩
theorem MyAt.only {w0 w w' : World} {gl gb r : Nat} {L : Lay} (h : MyAt w0 w gl gb r L) (ho : Only r w w') : MyAt w0 w' gl gb r L := by
  obtain ⟨h1, o1, o2, o3, o4, bl⟩ := h
  exact ⟨ho.keep (by omega) h1, o1, o2, o3, Nat.lt_of_lt_of_le o4 ho.size, Only.below bl (by omega) bl.size ho⟩
theorem hasN_no {pre : List BA} {s : BA} (h : hasN pre s = false) : s ∉ pre := fun hm => by rw [hasN_iff.2 hm] at h; exact absurd h (by decide)
theorem okNm_r {pre : List BA} {s : BA} (h : rightS s = false) : okNm pre s = false := by unfold okNm; rw [h]; rfl
theorem okNm_t {pre : List BA} {s : BA} (h : hasN pre s = true) : okNm pre s = false := by unfold okNm; rw [h]; simp
theorem okNm_y {pre : List BA} {s : BA} (h1 : rightS s = true) (h2 : hasN pre s = false) : okNm pre s = true := by unfold okNm; rw [h1, h2]; rfl
theorem name_world05 {P : Program} {c : Code} {Q : Exit → Act → World → Prop} {a : Act} {w : World} (h : ∀ W, W = w → c.wp P Q a W) : c.wp P Q a w := h w rfl
theorem st1_0 {l : List BA} {k : Nat} {s : BA} (h : l[k]? = some s) (hs : nmsFrom [] (l.take k) = false) : nmsFrom [] (l.take (k + 1)) = false := by rw [nms_take h, hs]; rfl
theorem st1_b {l : List BA} {k : Nat} {s : BA} {b : Bool} (h : l[k]? = some s) (hs : nmsFrom [] (l.take k) = true) (hb : okNm (l.take k) s = b) : nmsFrom [] (l.take (k + 1)) = b := by rw [nms_take h, hs, List.nil_append, hb]; rfl
theorem st2_0 {A : Bool} {pre : List BA} {n : Nat} {l : List (BA × Int)} {k : Nat} {c : BA × Int} (h : l[k]? = some c) (hs : (A && ptsFrom pre n (l.take k)) = false) : (A && ptsFrom pre n (l.take (k + 1))) = false := by rw [pts_take h, ← Bool.and_assoc, hs]; rfl
theorem st2_n {A : Bool} {pre : List BA} {n : Nat} {l : List (BA × Int)} {k : Nat} {c : BA × Int} (h : l[k]? = some c) (hb : okNm (pre ++ (l.take k).map (·.1)) c.1 = false) : (A && ptsFrom pre n (l.take (k + 1))) = false := by rw [pts_take h, hb]; simp
theorem st2_b {A : Bool} {pre : List BA} {n : Nat} {l : List (BA × Int)} {k : Nat} {c : BA × Int} {d : Bool} (h : l[k]? = some c) (hs : (A && ptsFrom pre n (l.take k)) = true) (hb : okNm (pre ++ (l.take k).map (·.1)) c.1 = true) (hd : decide (0 ≤ c.2 ∧ c.2 < (n : Int)) = d) : (A && ptsFrom pre n (l.take (k + 1))) = d := by rw [pts_take h, ← Bool.and_assoc, hs, hb, hd]; simp
theorem st4_0 {A : Bool} {pre : List BA} {G S P : Nat} {l : List Rt} {k : Nat} {c : Rt} (h : l[k]? = some c) (hs : (A && rtsFrom pre G S P (l.take k)) = false) : (A && rtsFrom pre G S P (l.take (k + 1))) = false := by rw [rts_take h, ← Bool.and_assoc, hs]; rfl
theorem st4_n {A : Bool} {pre : List BA} {G S P : Nat} {l : List Rt} {k : Nat} {c : Rt} (h : l[k]? = some c) (hb : okNm (pre ++ (l.take k).map (·.nm)) c.nm = false) : (A && rtsFrom pre G S P (l.take (k + 1))) = false := by rw [rts_take h, hb]; simp
theorem st4_d {A : Bool} {pre : List BA} {G S P : Nat} {l : List Rt} {k : Nat} {c : Rt} (h : l[k]? = some c) (hb : decide (0 ≤ c.sg ∧ c.sg < (G : Int)) = false) : (A && rtsFrom pre G S P (l.take (k + 1))) = false := by rw [rts_take h, hb]; simp
theorem st4_b {A : Bool} {pre : List BA} {G S P : Nat} {l : List Rt} {k : Nat} {c : Rt} {e : Bool} (h : l[k]? = some c) (hs : (A && rtsFrom pre G S P (l.take k)) = true) (hb : okNm (pre ++ (l.take k).map (·.nm)) c.nm = true) (hd : decide (0 ≤ c.sg ∧ c.sg < (G : Int)) = true) (he : rtB S P c = e) : (A && rtsFrom pre G S P (l.take (k + 1))) = e := by rw [rts_take h, ← Bool.and_assoc, hs, hb, hd, he]; simp
theorem st4_e {A : Bool} {pre : List BA} {G S P : Nat} {l : List Rt} {k : Nat} {c : Rt} (h : l[k]? = some c) (he : rtB S P c = false) : (A && rtsFrom pre G S P (l.take (k + 1))) = false := by rw [rts_take h, he]; simp
theorem rtB_1 {S P : Nat} {c : Rt} (h : ¬ c.pa.l.length ≤ 16) : rtB S P c = false := by unfold rtB; rw [decide_eq_false h]; rfl
theorem rtB_2 {S P : Nat} {c : Rt} (h : ¬ c.ov.l.length ≤ 16) : rtB S P c = false := by unfold rtB; rw [decide_eq_false h]; simp
theorem rtB_3 {S P : Nat} {c : Rt} (h : belowB S c.pa.l = false) : rtB S P c = false := by unfold rtB; rw [h]; simp
theorem rtB_4 {S P : Nat} {c : Rt} (h : belowB S c.ov.l = false) : rtB S P c = false := by unfold rtB; rw [h]; simp
theorem rtB_5 {S P : Nat} {c : Rt} (h : mayB P c.po.l = false) : rtB S P c = false := by unfold rtB; rw [h]; simp
theorem rtB_6 {S P : Nat} {c : Rt} (h : mayB P c.fl.l = false) : rtB S P c = false := by unfold rtB; rw [h]; simp
theorem rtB_7 {S P : Nat} {c : Rt} (h1 : c.pa.l.length ≤ 16) (h2 : c.ov.l.length ≤ 16) (h3 : belowB S c.pa.l = true) (h4 : belowB S c.ov.l = true) (h5 : mayB P c.po.l = true) (h6 : mayB P c.fl.l = true) : rtB S P c = true := by
  unfold rtB; rw [decide_eq_true h1, decide_eq_true h2, h3, h4, h5, h6]; rfl
theorem may_end {L : Lay} {A2 A3 b : Bool} (h0 : L.small = true) (h2 : (nmsFrom [] L.se.l && ptsFrom L.n1 L.se.l.length L.po.l) = A2) (h3 : (A2 && ptsFrom L.n2 L.se.l.length L.sg.l) = A3) (h4 : (A3 && rtsFrom L.n3 L.sg.l.length L.se.l.length L.po.l.length L.rt.l) = b) : mayS L = b := by
  unfold mayS; rw [h0, ← h4, ← h3, ← h2]; rfl
theorem may_big {L : Lay} (h0 : L.small = false) : mayS L = false := by unfold mayS; rw [h0]; rfl
theorem small_no {L : Lay} (h : ¬ (L.se.l.length ≤ 64 ∧ L.po.l.length ≤ 32 ∧ L.sg.l.length ≤ 32 ∧ L.rt.l.length ≤ 64)) : L.small = false := decide_eq_false h
theorem small_yes {L : Lay} (h1 : L.se.l.length ≤ 64) (h2 : L.po.l.length ≤ 32) (h3 : L.sg.l.length ≤ 32) (h4 : L.rt.l.length ≤ 64) : L.small = true := decide_eq_true ⟨h1, h2, h3, h4⟩
theorem n2_eq (L : Lay) : L.n1 ++ L.po.l.map (·.1) = L.n2 := rfl
theorem n3_eq (L : Lay) : L.n2 ++ L.sg.l.map (·.1) = L.n3 := rfl
theorem n1_eq (L : Lay) : L.se.l = L.n1 := rfl
theorem pts_nil (pre : List BA) (n : Nat) : ptsFrom pre n [] = true := by unfold ptsFrom belowB; rfl
theorem rts_nil (pre : List BA) (G S P : Nat) : rtsFrom pre G S P [] = true := by unfold rtsFrom belowB; rfl
theorem nms_nil : nmsFrom [] [] = true := rfl
theorem slv2 {α : Type} {a : Option Addr} {c : Nat} {l : List α} {n : Nat} (h : l.length = n) : Sl.v (⟨a, c, l⟩ : Sl α) = .slice a n c := by unfold Sl.v; rw [h]
theorem slv {α : Type} {s : Sl α} {n : Nat} (h : s.l.length = n) : s.v = .slice s.a n s.c := by unfold Sl.v; rw [h]
theorem take_names {α : Type} {f : α → BA} {l : List α} {k : Nat} {c : α} (h : l[k]? = some c) : (l.take (k + 1)).map f = (l.take k).map f ++ [f c] := by rw [List.take_add_one, h, List.map_append]; rfl
theorem take_id {l : List BA} {k : Nat} {c : BA} (h : l[k]? = some c) : l.take (k + 1) = l.take k ++ [c] := by rw [List.take_add_one, h]; rfl
attribute [local irreducible] belowB mayB okNm nmsFrom ptsFrom rtsFrom rtB hasN rightS mayS Lay.small Lay.n1 Lay.n2 Lay.n3 Sl.v
set_option maxRecDepth 100000 in
set_option maxHeartbeats 200000000 in
theorem may_lay (L : Lay) (w : World) (hL : LayAt w L) : Calls Try.prog 64 #[.agg #[L.se.v, L.po.v, L.sg.v, L.rt.v]] w fun e w' => e = .returned (.bool (mayS L)) ∧ Below w.heap.size w w' := by
  have HA := Lib.hid hL
  obtain ⟨n1, hn1⟩ : ∃ n, L.se.l.length = n := ⟨_, rfl⟩
  obtain ⟨n2, hn2⟩ : ∃ n, L.po.l.length = n := ⟨_, rfl⟩
  obtain ⟨n3, hn3⟩ : ∃ n, L.sg.l.length = n := ⟨_, rfl⟩
  obtain ⟨n4, hn4⟩ : ∃ n, L.rt.l.length = n := ⟨_, rfl⟩
  have v1 := slv hn1
  have v2 := slv hn2
  have v3 := slv hn3
  have v4 := slv hn4
  have R1 := Lib.hid hL.se.row
  have R2 := Lib.hid hL.po.row
  have R3 := Lib.hid hL.sg.row
  have R4 := Lib.hid hL.rt.row
  obtain ⟨a1, ha1⟩ : ∃ a, L.se.a = a := ⟨_, rfl⟩
  obtain ⟨a2, ha2⟩ : ∃ a, L.po.a = a := ⟨_, rfl⟩
  obtain ⟨a3, ha3⟩ : ∃ a, L.sg.a = a := ⟨_, rfl⟩
  obtain ⟨a4, ha4⟩ : ∃ a, L.rt.a = a := ⟨_, rfl⟩
  obtain ⟨c1, hc1⟩ : ∃ c, L.se.c = c := ⟨_, rfl⟩
  obtain ⟨c2, hc2⟩ : ∃ c, L.po.c = c := ⟨_, rfl⟩
  obtain ⟨c3, hc3⟩ : ∃ c, L.sg.c = c := ⟨_, rfl⟩
  obtain ⟨c4, hc4⟩ : ∃ c, L.rt.c = c := ⟨_, rfl⟩
  rw [ha1, hc1] at v1
  rw [ha2, hc2] at v2
  rw [ha3, hc3] at v3
  rw [ha4, hc4] at v4
  rw [ha1] at R1
  rw [ha2] at R2
  rw [ha3] at R3
  rw [ha4] at R4
  rw [v1, v2, v3, v4]
  have N1 := Lib.hid hn1
  have N2 := Lib.hid hn2
  have N3 := Lib.hid hn3
  have N4 := Lib.hid hn4
  have HV := Lib.hid (And.intro v1 (And.intro v2 (And.intro v3 v4)))
  clear hn1 hn2 hn3 hn4 ha1 ha2 ha3 ha4 hc1 hc2 hc3 hc4 v1 v2 v3 v4 hL
  obtain ⟨gl, hgl⟩ : ∃ g, g = w.heap.size := ⟨_, rfl⟩
  by_cases x1 : 64 < n1
  · have HF : Hid (mayS L = false) := Lib.hid (may_big (small_no (by have := N1.out; have := N2.out; have := N3.out; have := N4.out; omega)))
    have y1 : (64 : Int) < (n1 : Nat) := by omega
    clear x1
    go_enter Try.func64, Try.ntmps64
    go_wp2_with fail
    go_quiet (fail)
    go_wp2_with fail
    go_ret
    exact ⟨by rw [HF.out]; rfl, below_drewN (below1 _ _) _⟩
  have y1 : ¬ (64 : Int) < (n1 : Nat) := by omega
  by_cases x2 : 32 < n2
  · have HF : Hid (mayS L = false) := Lib.hid (may_big (small_no (by have := N1.out; have := N2.out; have := N3.out; have := N4.out; omega)))
    have y1 : (32 : Int) < (n2 : Nat) := by omega
    clear x2
    go_enter Try.func64, Try.ntmps64
    go_wp2_with fail
    go_quiet (fail)
    go_wp2_with fail
    go_ret
    exact ⟨by rw [HF.out]; rfl, below_drewN (below1 _ _) _⟩
  have y2 : ¬ (32 : Int) < (n2 : Nat) := by omega
  by_cases x3 : 32 < n3
  · have HF : Hid (mayS L = false) := Lib.hid (may_big (small_no (by have := N1.out; have := N2.out; have := N3.out; have := N4.out; omega)))
    have y1 : (32 : Int) < (n3 : Nat) := by omega
    clear x3
    go_enter Try.func64, Try.ntmps64
    go_wp2_with fail
    go_quiet (fail)
    go_wp2_with fail
    go_ret
    exact ⟨by rw [HF.out]; rfl, below_drewN (below1 _ _) _⟩
  have y3 : ¬ (32 : Int) < (n3 : Nat) := by omega
  by_cases x4 : 64 < n4
  · have HF : Hid (mayS L = false) := Lib.hid (may_big (small_no (by have := N1.out; have := N2.out; have := N3.out; have := N4.out; omega)))
    have y1 : (64 : Int) < (n4 : Nat) := by omega
    clear x4
    go_enter Try.func64, Try.ntmps64
    go_wp2_with fail
    go_quiet (fail)
    go_wp2_with fail
    go_ret
    exact ⟨by rw [HF.out]; rfl, below_drewN (below1 _ _) _⟩
  have y4 : ¬ (64 : Int) < (n4 : Nat) := by omega
  have hmm : ∀ (t : TypeId) (w : World), (Instr.makeMap t none).run Try.prog w = .ok (.map (some w.heap.size)) (w.alloc (.map #[] 0)) := fun t w => by simp [Instr.makeMap, Result.andThen]
  have HSM := Lib.hid (small_yes (L := L) (by have := N1.out; omega) (by have := N2.out; omega) (by have := N3.out; omega) (by have := N4.out; omega))
  have x1 : n1 ≤ 64 := by omega
  have x2 : n2 ≤ 32 := by omega
  have x3 : n3 ≤ 32 := by omega
  have x4 : n4 ≤ 64 := by omega
  have HXX := Lib.hid (And.intro x1 (And.intro x2 (And.intro x3 x4)))
  clear x1 x2 x3 x4
  go_enter Try.func64, Try.ntmps64
  go_wp2_with fail
  go_quiet (fail)
  obtain ⟨W2, hW2⟩ : ∃ W', W' = (w.alloc (.cells #[.slice a1 n1 c1, .slice a2 n2 c2, .slice a3 n3 c3, .slice a4 n4 c4] 27)).drewN nq := ⟨_, rfl⟩
  have hB2 := below_drewN (below1 w (.cells #[.slice a1 n1 c1, .slice a2 n2 c2, .slice a3 n3 c3, .slice a4 n4 c4] 27)) nq
  have hl2 : W2.heap[w.heap.size]? = some (.cells #[.slice a1 n1 c1, .slice a2 n2 c2, .slice a3 n3 c3, .slice a4 n4 c4] 27) := by rw [hW2]; exact alloc1 w _ (below_drewN (Below.refl _ _) nq)
  rw [← hW2] at hB2 ⊢
  rw [← hgl] at hl2 ⊢
  clear hW2
  have HB2 := Lib.hid hB2
  have HL2 := Lib.hid hl2
  have HGL := Lib.hid hgl
  clear hgl hB2
  obtain ⟨l0, l1, l2, l3⟩ : W2.cell? ⟨gl, 0, none⟩ = some (.slice a1 n1 c1) ∧ W2.cell? ⟨gl, 1, none⟩ = some (.slice a2 n2 c2) ∧ W2.cell? ⟨gl, 2, none⟩ = some (.slice a3 n3 c3) ∧ W2.cell? ⟨gl, 3, none⟩ = some (.slice a4 n4 c4) := ⟨blk_cell hl2 0 _ rfl, blk_cell hl2 1 _ rfl, blk_cell hl2 2 _ rfl, blk_cell hl2 3 _ rfl⟩
  clear hl2 l0 l1 l2 l3
  go_upto_region 6 with fail
  refine name_world05 ?_
  intro W3 hW3
  obtain ⟨r, hr⟩ : ∃ r, r = W2.heap.size := ⟨_, rfl⟩
  obtain ⟨gb, hgb⟩ : ∃ g, g = r + 1 := ⟨_, rfl⟩
  have hM : MyAt w W3 gl gb r L := by
    obtain ⟨q1, q2⟩ := alloc2' W2 (.map #[] 0) (.cells #[.slice none 0 0, .slice none 0 0, .slice none 0 0, .slice none 0 0, .map (some W2.heap.size)] 124)
    rw [hW3]
    refine ⟨?_, by rw [HGL.out]; exact Nat.le_refl _, by rw [hr]; exact blk_lt HL2.out, by omega, by rw [hgb, hr]; exact blk_lt q2, below_on HB2.out (below2' W2 _ _)⟩
    rw [HV.out.1, HV.out.2.1, HV.out.2.2.1, HV.out.2.2.2]
    exact blk_keep (below2' W2 _ _) HL2.out
  have hK : BookAt W3 gb r [] := by
    obtain ⟨q1, q2⟩ := alloc2' W2 (.map #[] 0) (.cells #[.slice none 0 0, .slice none 0 0, .slice none 0 0, .slice none 0 0, .map (some W2.heap.size)] 124)
    rw [hW3, hgb, hr]
    exact ⟨⟨_, _, _, _, q2⟩, ⟨_, _, q1, rfl⟩, by omega⟩
  rw [← hr, ← hgb]
  have HM := Lib.hid hM
  have HBK := Lib.hid hK
  clear hW3 hr hgb hM hK HL2 HB2 hmm
  obtain ⟨l0, l1, l2, l3⟩ : W3.cell? ⟨gl, 0, none⟩ = some (.slice a1 n1 c1) ∧ W3.cell? ⟨gl, 1, none⟩ = some (.slice a2 n2 c2) ∧ W3.cell? ⟨gl, 2, none⟩ = some (.slice a3 n3 c3) ∧ W3.cell? ⟨gl, 3, none⟩ = some (.slice a4 n4 c4) := by
    obtain ⟨v1, v2, v3, v4⟩ := HV.out
    rw [← v1, ← v2, ← v3, ← v4]
    have q := HM.out.lay
    exact ⟨blk_cell q 0 _ rfl, blk_cell q 1 _ rfl, blk_cell q 2 _ rfl, blk_cell q 3 _ rfl⟩
  go_wp2_with fail
  clear l0 l1 l2 l3
  go_loopg [8, 9, 10, 49] n1 (fun g ok _ _ i wr => ∃ (k : Nat) (okv : Bool), k + g = n1 ∧ ok = .bool okv ∧ i = .int .i64 (k : Int) ∧ nmsFrom [] (L.se.l.take k) = okv ∧ (okv = true → BookAt wr gb r (L.se.l.take k)) ∧ MyAt w wr gl gb r L)
  case atStart => exact ⟨0, true, by omega, rfl, rfl, nms_nil, fun _ => by rw [List.take_zero]; exact HBK.out, HM.out⟩
  case round =>
    obtain ⟨k, okv, hk, rfl, rfl, hst, hbk, hM⟩ := hrel
    clear HM HBK
    have HM := Lib.hid hM
    have HS := Lib.hid hst
    have HBK := Lib.hid hbk
    clear hst hbk hM
    by_cases hlt : k < n1
    · obtain ⟨y, hy⟩ : ∃ y, L.se.l[k]? = some y := ⟨_, List.getElem?_eq_getElem (by rw [N1.out]; exact hlt)⟩
      rcases R1.out.below HM.out.below with hnil | ⟨xb, off, rfl, hc⟩
      · rw [hnil] at hy; simp at hy
      have z0 := hc k _ hy 0 _ rfl
      rw [Nat.add_zero, Nat.mul_one] at z0
      have HN := Lib.hid (HA.out.sn y (List.mem_of_getElem? hy))
      have HY := Lib.hid hy
      have d1 : (0 : Int) ≤ k := by omega
      have d2 : (k : Int) < n1 := by omega
      have e1 : wrap64 ((k : Int) + 1) = (k : Int) + 1 := by have := HXX.out; unfold wrap64; omega
      have HK := Lib.hid hk
      clear hc hy hk
      cases okv with
      | false =>
        have HX := Lib.hid (st1_0 HY.out HS.out)
        go_wp2_with fail
        go_roundg (n1 - (k + 1))
        case rel => exact ⟨k + 1, false, by have := HK.out; omega, rfl, by go_num, HX.out, fun h => absurd h (by decide), HM.out⟩
        case measure => have := HK.out; omega
      | true =>
        have HM4 := HM
        have HBK4 := Lib.hid (HBK.out rfl)
        rcases Bool.eq_false_or_eq_true (rightS y) with hr | hr
        · have HRR := Lib.hid hr
          clear hr
          go_wp2_with fail
          skip
          refine (right_to true y _ HN.out HRR.out).mono ?_
          rintro e w5 ⟨rfl, hb5⟩
          have HM5 := Lib.hid (HM4.out.step hb5)
          have HBK5 := Lib.hid (HBK4.out.below hb5)
          clear hb5
          rcases Bool.eq_false_or_eq_true (hasN (L.se.l.take k) y) with hh | hh
          · have HX := Lib.hid (st1_b HY.out HS.out (okNm_t hh))
            have HH := Lib.hid (hasN_iff.1 hh)
            clear hh
            go_wp2_with fail
            refine (fresh_no gb r _ y _ _ HBK5.out HH.out).mono ?_
            rintro e w6 ⟨rfl, rfl⟩
            go_wp2_with fail
            go_roundg (n1 - (k + 1))
            case rel => exact ⟨k + 1, false, by have := HK.out; omega, rfl, by go_num, HX.out, fun h => absurd h (by decide), HM5.out⟩
            case measure => have := HK.out; omega
          · have HO := Lib.hid (okNm_y HRR.out hh)
            have HH := Lib.hid (hasN_no hh)
            clear hh
            go_wp2_with fail
            refine (fresh_yes gb r _ y _ _ HBK5.out HH.out).mono ?_
            rintro e w6 ⟨rfl, hbk6, ho6⟩
            have HM6 := Lib.hid (HM5.out.only ho6)
            have HBK6 : Hid (BookAt w6 gb r (L.se.l.take (k + 1))) := Lib.hid (take_id HY.out ▸ hbk6)
            have HX := Lib.hid (st1_b HY.out HS.out HO.out)
            clear hbk6 ho6
            go_wp2_with fail
            go_roundg (n1 - (k + 1))
            case rel => exact ⟨k + 1, true, by have := HK.out; omega, rfl, by go_num, HX.out, fun _ => HBK6.out, HM6.out⟩
            case measure => have := HK.out; omega
        · have HX := Lib.hid (st1_b HY.out HS.out (okNm_r hr))
          have HRR := Lib.hid hr
          clear hr
          go_wp2_with fail
          skip
          refine (right_to false y _ HN.out HRR.out).mono ?_
          rintro e w5 ⟨rfl, hb5⟩
          have HM5 := Lib.hid (HM4.out.step hb5)
          clear hb5
          go_wp2_with fail
          go_roundg (n1 - (k + 1))
          case rel => exact ⟨k + 1, false, by have := HK.out; omega, rfl, by go_num, HX.out, fun h => absurd h (by decide), HM5.out⟩
          case measure => have := HK.out; omega
    · have hkn : n1 = k := by omega
      subst hkn
      have hfull : L.se.l.take n1 = L.se.l := List.take_of_length_le (by rw [N1.out]; exact Nat.le_refl _)
      rw [hfull] at HS HBK
      clear hfull
      obtain ⟨wq2, hwq⟩ : ∃ W, W = wr := ⟨_, rfl⟩
      rw [← hwq] at HM HBK ⊢
      clear hwq
      rw [n1_eq] at HBK
      obtain ⟨A1, hA1⟩ : ∃ A, okv = A := ⟨_, rfl⟩
      rw [hA1] at HS HBK ⊢
      have HS1 := HS
      clear HS hA1
      obtain ⟨l0, l1, l2, l3⟩ : wq2.cell? ⟨gl, 0, none⟩ = some (.slice a1 n1 c1) ∧ wq2.cell? ⟨gl, 1, none⟩ = some (.slice a2 n2 c2) ∧ wq2.cell? ⟨gl, 2, none⟩ = some (.slice a3 n3 c3) ∧ wq2.cell? ⟨gl, 3, none⟩ = some (.slice a4 n4 c4) := by
        obtain ⟨v1, v2, v3, v4⟩ := HV.out
        rw [← v1, ← v2, ← v3, ← v4]
        have q := HM.out.lay
        exact ⟨blk_cell q 0 _ rfl, blk_cell q 1 _ rfl, blk_cell q 2 _ rfl, blk_cell q 3 _ rfl⟩
      go_wp2_with fail
      clear l0 l1 l2 l3
      go_loopg [8, 11, 12, 70] n2 (fun g ok _ _ i wr => ∃ (k : Nat) (okv : Bool), k + g = n2 ∧ ok = .bool okv ∧ i = .int .i64 (k : Int) ∧ (A1 && ptsFrom L.n1 n1 (L.po.l.take k)) = okv ∧ (okv = true → BookAt wr gb r (L.n1 ++ (L.po.l.take k).map (·.1))) ∧ MyAt w wr gl gb r L)
      case atStart => exact ⟨0, A1, by omega, rfl, rfl, by rw [List.take_zero, pts_nil, Bool.and_true], by rw [List.take_zero, List.map_nil, List.append_nil]; exact HBK.out, HM.out⟩
      case round =>
        obtain ⟨k, okv, hk, rfl, rfl, hst, hbk, hM⟩ := hrel
        clear HM HBK
        have HM := Lib.hid hM
        have HS := Lib.hid hst
        have HBK := Lib.hid hbk
        clear hst hbk hM
        by_cases hlt : k < n2
        · obtain ⟨y, hy⟩ : ∃ y, L.po.l[k]? = some y := ⟨_, List.getElem?_eq_getElem (by rw [N2.out]; exact hlt)⟩
          rcases R2.out.below HM.out.below with hnil | ⟨xb, off, rfl, hc⟩
          · rw [hnil] at hy; simp at hy
          obtain ⟨y0, y1⟩ := y
          have z0 := hc k _ hy 0 _ rfl
          have z1 := hc k _ hy 1 _ rfl
          rw [Nat.add_zero] at z0
          have HN := Lib.hid (HA.out.pn _ (List.mem_of_getElem? hy))
          dsimp only at z0 z1 HN
          have HY := Lib.hid hy
          have d1 : (0 : Int) ≤ k := by omega
          have d2 : (k : Int) < n2 := by omega
          have e1 : wrap64 ((k : Int) + 1) = (k : Int) + 1 := by have := HXX.out; unfold wrap64; omega
          have HK := Lib.hid hk
          clear hc hy hk
          cases okv with
          | false =>
            have HX := Lib.hid (st2_0 HY.out HS.out)
            go_wp2_with fail
            go_roundg (n2 - (k + 1))
            case rel => exact ⟨k + 1, false, by have := HK.out; omega, rfl, by go_num, HX.out, fun h => absurd h (by decide), HM.out.step (below1 _ _)⟩
            case measure => have := HK.out; omega
          | true =>
            have hb4 := below1 wr (.cells #[.string y0, .int .i64 y1] 71)
            have HM4 := Lib.hid (HM.out.step hb4)
            have HBK4 := Lib.hid ((HBK.out rfl).below hb4)
            have hk4 : (wr.alloc (.cells #[.string y0, .int .i64 y1] 71)).heap[wr.heap.size]? = some (.cells #[.string y0, .int .i64 y1] 71) := alloc1 wr _ (Below.refl _ _)
            have HK4 := Lib.hid hk4
            have HGX := Lib.hid (show wr.heap.size ≠ r by have := HM.out.o3; have := HM.out.o4; omega)
            obtain ⟨gx, hgx⟩ : ∃ g, g = wr.heap.size := ⟨_, rfl⟩
            rw [← hgx] at HK4 HGX
            have HGG := Lib.hid hgx
            clear hb4 hk4 hgx
            rcases Bool.eq_false_or_eq_true (rightS y0) with hr | hr
            · have HRR := Lib.hid hr
              clear hr
              go_wp2_with fail
              rw [← HGG.out]
              refine (right_to true y0 _ HN.out HRR.out).mono ?_
              rintro e w5 ⟨rfl, hb5⟩
              have HM5 := Lib.hid (HM4.out.step hb5)
              have HBK5 := Lib.hid (HBK4.out.below hb5)
              have HK5 := Lib.hid (blk_keep hb5 HK4.out)
              clear hb5
              have k0 := blk_cell HK5.out 0 _ rfl
              have k1 := blk_cell HK5.out 1 _ rfl
              rcases Bool.eq_false_or_eq_true (hasN (L.n1 ++ (L.po.l.take k).map (·.1)) y0) with hh | hh
              · have HX := Lib.hid (st2_n (A := A1) (pre := L.n1) (n := n1) HY.out (okNm_t hh))
                have HH := Lib.hid (hasN_iff.1 hh)
                clear hh
                go_wp2_with fail
                refine (fresh_no gb r _ y0 _ _ HBK5.out HH.out).mono ?_
                rintro e w6 ⟨rfl, rfl⟩
                go_wp2_with fail
                go_roundg (n2 - (k + 1))
                case rel => exact ⟨k + 1, false, by have := HK.out; omega, rfl, by go_num, HX.out, fun h => absurd h (by decide), HM5.out⟩
                case measure => have := HK.out; omega
              · have HO := Lib.hid (okNm_y HRR.out hh)
                have HH := Lib.hid (hasN_no hh)
                clear hh
                go_wp2_with fail
                refine (fresh_yes gb r _ y0 _ _ HBK5.out HH.out).mono ?_
                rintro e w6 ⟨rfl, hbk6, ho6⟩
                have HM6 := Lib.hid (HM5.out.only ho6)
                have HK6 := Lib.hid (ho6.keep HGX.out HK5.out)
                have HBK6 : Hid (BookAt w6 gb r (L.n1 ++ (L.po.l.take (k + 1)).map (·.1))) := Lib.hid (by rw [take_names HY.out, ← List.append_assoc]; exact hbk6)
                clear hbk6 ho6
                clear k0 k1
                have k0 := blk_cell HK6.out 0 _ rfl
                have k1 := blk_cell HK6.out 1 _ rfl
                obtain ⟨D, hD⟩ : ∃ D, decide (0 ≤ y1 ∧ y1 < (n1 : Int)) = D := ⟨_, rfl⟩
                have HKK : Hid (∀ (W : World) (g : Nat), W.heap[g]? = some (.cells #[.int .i64 y1] 3) → Calls Try.prog 88 #[.int .i64 (n1 : Int), .slice (some ⟨g, 0, none⟩) 1 1] W fun e w' => e = .returned (.bool D) ∧ W = w') := Lib.hid (fun W g h => hD ▸ one_below n1 y1 W g 3 (0, 0) h)
                have HD := Lib.hid hD
                clear hD
                have HM7 := Lib.hid (HM6.out.step (below1 w6 (.cells #[.int .i64 y1] 3)))
                have HBK7 := Lib.hid (HBK6.out.below (below1 w6 (.cells #[.int .i64 y1] 3)))
                have HK7 := Lib.hid (blk_keep (below1 w6 (.cells #[.int .i64 y1] 3)) HK6.out)
                go_wp2_with fail
                refine (HKK.out _ _ (alloc1 w6 _ (Below.refl _ _))).mono ?_
                rintro e w7 ⟨rfl, rfl⟩
                have HX := Lib.hid (st2_b HY.out HS.out HO.out HD.out)
                go_wp2_with fail
                go_roundg (n2 - (k + 1))
                case rel => exact ⟨k + 1, D, by have := HK.out; omega, rfl, by go_num, HX.out, fun _ => HBK7.out, HM7.out⟩
                case measure => have := HK.out; omega
            · have HX := Lib.hid (st2_n (A := A1) (pre := L.n1) (n := n1) HY.out (okNm_r hr))
              have HRR := Lib.hid hr
              clear hr
              go_wp2_with fail
              rw [← HGG.out]
              refine (right_to false y0 _ HN.out HRR.out).mono ?_
              rintro e w5 ⟨rfl, hb5⟩
              have HM5 := Lib.hid (HM4.out.step hb5)
              clear hb5
              go_wp2_with fail
              go_roundg (n2 - (k + 1))
              case rel => exact ⟨k + 1, false, by have := HK.out; omega, rfl, by go_num, HX.out, fun h => absurd h (by decide), HM5.out⟩
              case measure => have := HK.out; omega
        · have hkn : n2 = k := by omega
          subst hkn
          have hfull : L.po.l.take n2 = L.po.l := List.take_of_length_le (by rw [N2.out]; exact Nat.le_refl _)
          rw [hfull] at HS HBK
          clear hfull
          obtain ⟨wq3, hwq⟩ : ∃ W, W = wr := ⟨_, rfl⟩
          rw [← hwq] at HM HBK ⊢
          clear hwq
          rw [n2_eq] at HBK
          obtain ⟨A2, hA2⟩ : ∃ A, okv = A := ⟨_, rfl⟩
          rw [hA2] at HS HBK ⊢
          have HS2 := HS
          clear HS hA2
          obtain ⟨l0, l1, l2, l3⟩ : wq3.cell? ⟨gl, 0, none⟩ = some (.slice a1 n1 c1) ∧ wq3.cell? ⟨gl, 1, none⟩ = some (.slice a2 n2 c2) ∧ wq3.cell? ⟨gl, 2, none⟩ = some (.slice a3 n3 c3) ∧ wq3.cell? ⟨gl, 3, none⟩ = some (.slice a4 n4 c4) := by
            obtain ⟨v1, v2, v3, v4⟩ := HV.out
            rw [← v1, ← v2, ← v3, ← v4]
            have q := HM.out.lay
            exact ⟨blk_cell q 0 _ rfl, blk_cell q 1 _ rfl, blk_cell q 2 _ rfl, blk_cell q 3 _ rfl⟩
          go_wp2_with fail
          clear l0 l1 l2 l3
          go_loopg [8, 13, 14, 100] n3 (fun g ok _ _ i wr => ∃ (k : Nat) (okv : Bool), k + g = n3 ∧ ok = .bool okv ∧ i = .int .i64 (k : Int) ∧ (A2 && ptsFrom L.n2 n1 (L.sg.l.take k)) = okv ∧ (okv = true → BookAt wr gb r (L.n2 ++ (L.sg.l.take k).map (·.1))) ∧ MyAt w wr gl gb r L)
          case atStart => exact ⟨0, A2, by omega, rfl, rfl, by rw [List.take_zero, pts_nil, Bool.and_true], by rw [List.take_zero, List.map_nil, List.append_nil]; exact HBK.out, HM.out⟩
          case round =>
            obtain ⟨k, okv, hk, rfl, rfl, hst, hbk, hM⟩ := hrel
            clear HM HBK
            have HM := Lib.hid hM
            have HS := Lib.hid hst
            have HBK := Lib.hid hbk
            clear hst hbk hM
            by_cases hlt : k < n3
            · obtain ⟨y, hy⟩ : ∃ y, L.sg.l[k]? = some y := ⟨_, List.getElem?_eq_getElem (by rw [N3.out]; exact hlt)⟩
              rcases R3.out.below HM.out.below with hnil | ⟨xb, off, rfl, hc⟩
              · rw [hnil] at hy; simp at hy
              obtain ⟨y0, y1⟩ := y
              have z0 := hc k _ hy 0 _ rfl
              have z1 := hc k _ hy 1 _ rfl
              rw [Nat.add_zero] at z0
              have HN := Lib.hid (HA.out.gn _ (List.mem_of_getElem? hy))
              dsimp only at z0 z1 HN
              have HY := Lib.hid hy
              have d1 : (0 : Int) ≤ k := by omega
              have d2 : (k : Int) < n3 := by omega
              have e1 : wrap64 ((k : Int) + 1) = (k : Int) + 1 := by have := HXX.out; unfold wrap64; omega
              have HK := Lib.hid hk
              clear hc hy hk
              cases okv with
              | false =>
                have HX := Lib.hid (st2_0 HY.out HS.out)
                go_wp2_with fail
                go_roundg (n3 - (k + 1))
                case rel => exact ⟨k + 1, false, by have := HK.out; omega, rfl, by go_num, HX.out, fun h => absurd h (by decide), HM.out.step (below1 _ _)⟩
                case measure => have := HK.out; omega
              | true =>
                have hb4 := below1 wr (.cells #[.string y0, .int .i64 y1] 72)
                have HM4 := Lib.hid (HM.out.step hb4)
                have HBK4 := Lib.hid ((HBK.out rfl).below hb4)
                have hk4 : (wr.alloc (.cells #[.string y0, .int .i64 y1] 72)).heap[wr.heap.size]? = some (.cells #[.string y0, .int .i64 y1] 72) := alloc1 wr _ (Below.refl _ _)
                have HK4 := Lib.hid hk4
                have HGX := Lib.hid (show wr.heap.size ≠ r by have := HM.out.o3; have := HM.out.o4; omega)
                obtain ⟨gx, hgx⟩ : ∃ g, g = wr.heap.size := ⟨_, rfl⟩
                rw [← hgx] at HK4 HGX
                have HGG := Lib.hid hgx
                clear hb4 hk4 hgx
                rcases Bool.eq_false_or_eq_true (rightS y0) with hr | hr
                · have HRR := Lib.hid hr
                  clear hr
                  go_wp2_with fail
                  rw [← HGG.out]
                  refine (right_to true y0 _ HN.out HRR.out).mono ?_
                  rintro e w5 ⟨rfl, hb5⟩
                  have HM5 := Lib.hid (HM4.out.step hb5)
                  have HBK5 := Lib.hid (HBK4.out.below hb5)
                  have HK5 := Lib.hid (blk_keep hb5 HK4.out)
                  clear hb5
                  have k0 := blk_cell HK5.out 0 _ rfl
                  have k1 := blk_cell HK5.out 1 _ rfl
                  rcases Bool.eq_false_or_eq_true (hasN (L.n2 ++ (L.sg.l.take k).map (·.1)) y0) with hh | hh
                  · have HX := Lib.hid (st2_n (A := A2) (pre := L.n2) (n := n1) HY.out (okNm_t hh))
                    have HH := Lib.hid (hasN_iff.1 hh)
                    clear hh
                    go_wp2_with fail
                    refine (fresh_no gb r _ y0 _ _ HBK5.out HH.out).mono ?_
                    rintro e w6 ⟨rfl, rfl⟩
                    go_wp2_with fail
                    go_roundg (n3 - (k + 1))
                    case rel => exact ⟨k + 1, false, by have := HK.out; omega, rfl, by go_num, HX.out, fun h => absurd h (by decide), HM5.out⟩
                    case measure => have := HK.out; omega
                  · have HO := Lib.hid (okNm_y HRR.out hh)
                    have HH := Lib.hid (hasN_no hh)
                    clear hh
                    go_wp2_with fail
                    refine (fresh_yes gb r _ y0 _ _ HBK5.out HH.out).mono ?_
                    rintro e w6 ⟨rfl, hbk6, ho6⟩
                    have HM6 := Lib.hid (HM5.out.only ho6)
                    have HK6 := Lib.hid (ho6.keep HGX.out HK5.out)
                    have HBK6 : Hid (BookAt w6 gb r (L.n2 ++ (L.sg.l.take (k + 1)).map (·.1))) := Lib.hid (by rw [take_names HY.out, ← List.append_assoc]; exact hbk6)
                    clear hbk6 ho6
                    clear k0 k1
                    have k0 := blk_cell HK6.out 0 _ rfl
                    have k1 := blk_cell HK6.out 1 _ rfl
                    obtain ⟨D, hD⟩ : ∃ D, decide (0 ≤ y1 ∧ y1 < (n1 : Int)) = D := ⟨_, rfl⟩
                    have HKK : Hid (∀ (W : World) (g : Nat), W.heap[g]? = some (.cells #[.int .i64 y1] 3) → Calls Try.prog 88 #[.int .i64 (n1 : Int), .slice (some ⟨g, 0, none⟩) 1 1] W fun e w' => e = .returned (.bool D) ∧ W = w') := Lib.hid (fun W g h => hD ▸ one_below n1 y1 W g 3 (0, 0) h)
                    have HD := Lib.hid hD
                    clear hD
                    have HM7 := Lib.hid (HM6.out.step (below1 w6 (.cells #[.int .i64 y1] 3)))
                    have HBK7 := Lib.hid (HBK6.out.below (below1 w6 (.cells #[.int .i64 y1] 3)))
                    have HK7 := Lib.hid (blk_keep (below1 w6 (.cells #[.int .i64 y1] 3)) HK6.out)
                    go_wp2_with fail
                    refine (HKK.out _ _ (alloc1 w6 _ (Below.refl _ _))).mono ?_
                    rintro e w7 ⟨rfl, rfl⟩
                    have HX := Lib.hid (st2_b HY.out HS.out HO.out HD.out)
                    go_wp2_with fail
                    go_roundg (n3 - (k + 1))
                    case rel => exact ⟨k + 1, D, by have := HK.out; omega, rfl, by go_num, HX.out, fun _ => HBK7.out, HM7.out⟩
                    case measure => have := HK.out; omega
                · have HX := Lib.hid (st2_n (A := A2) (pre := L.n2) (n := n1) HY.out (okNm_r hr))
                  have HRR := Lib.hid hr
                  clear hr
                  go_wp2_with fail
                  rw [← HGG.out]
                  refine (right_to false y0 _ HN.out HRR.out).mono ?_
                  rintro e w5 ⟨rfl, hb5⟩
                  have HM5 := Lib.hid (HM4.out.step hb5)
                  clear hb5
                  go_wp2_with fail
                  go_roundg (n3 - (k + 1))
                  case rel => exact ⟨k + 1, false, by have := HK.out; omega, rfl, by go_num, HX.out, fun h => absurd h (by decide), HM5.out⟩
                  case measure => have := HK.out; omega
            · have hkn : n3 = k := by omega
              subst hkn
              have hfull : L.sg.l.take n3 = L.sg.l := List.take_of_length_le (by rw [N3.out]; exact Nat.le_refl _)
              rw [hfull] at HS HBK
              clear hfull
              obtain ⟨wq4, hwq⟩ : ∃ W, W = wr := ⟨_, rfl⟩
              rw [← hwq] at HM HBK ⊢
              clear hwq
              rw [n3_eq] at HBK
              obtain ⟨A3, hA3⟩ : ∃ A, okv = A := ⟨_, rfl⟩
              rw [hA3] at HS HBK ⊢
              have HS3 := HS
              clear HS hA3
              obtain ⟨l0, l1, l2, l3⟩ : wq4.cell? ⟨gl, 0, none⟩ = some (.slice a1 n1 c1) ∧ wq4.cell? ⟨gl, 1, none⟩ = some (.slice a2 n2 c2) ∧ wq4.cell? ⟨gl, 2, none⟩ = some (.slice a3 n3 c3) ∧ wq4.cell? ⟨gl, 3, none⟩ = some (.slice a4 n4 c4) := by
                obtain ⟨v1, v2, v3, v4⟩ := HV.out
                rw [← v1, ← v2, ← v3, ← v4]
                have q := HM.out.lay
                exact ⟨blk_cell q 0 _ rfl, blk_cell q 1 _ rfl, blk_cell q 2 _ rfl, blk_cell q 3 _ rfl⟩
              go_wp2_with fail
              clear l0 l1 l2 l3
              go_loopg [8, 15, 16, 130] n4 (fun g ok _ _ i wr => ∃ (k : Nat) (okv : Bool), k + g = n4 ∧ ok = .bool okv ∧ i = .int .i64 (k : Int) ∧ (A3 && rtsFrom L.n3 n3 n1 n2 (L.rt.l.take k)) = okv ∧ (okv = true → BookAt wr gb r (L.n3 ++ (L.rt.l.take k).map (·.nm))) ∧ MyAt w wr gl gb r L)
              case atStart => exact ⟨0, A3, by omega, rfl, rfl, by rw [List.take_zero, rts_nil, Bool.and_true], by rw [List.take_zero, List.map_nil, List.append_nil]; exact HBK.out, HM.out⟩
              case round =>
                obtain ⟨k, okv, hk, rfl, rfl, hst, hbk, hM⟩ := hrel
                clear HM HBK
                have HM := Lib.hid hM
                have HS := Lib.hid hst
                have HBK := Lib.hid hbk
                clear hst hbk hM
                by_cases hlt : k < n4
                · obtain ⟨y, hy⟩ : ∃ y, L.rt.l[k]? = some y := ⟨_, List.getElem?_eq_getElem (by rw [N4.out]; exact hlt)⟩
                  rcases R4.out.below HM.out.below with hnil | ⟨xb, off, rfl, hc⟩
                  · rw [hnil] at hy; simp at hy
                  have z0 := hc k _ hy 0 _ rfl
                  have z1 := hc k _ hy 1 _ rfl
                  have z2 := hc k _ hy 2 _ rfl
                  have z3 := hc k _ hy 3 _ rfl
                  have z4 := hc k _ hy 4 _ rfl
                  have z5 := hc k _ hy 5 _ rfl
                  rw [Nat.add_zero] at z0
                  have HR := Lib.hid (HA.out.rn y (List.mem_of_getElem? hy))
                  obtain ⟨nm, sg, ⟨pa, pc, pl⟩, ⟨oa, oc, ol⟩, ⟨va, vc, vl⟩, ⟨fa, fc, fl⟩⟩ := y
                  have HN := Lib.hid HR.out.nm
                  dsimp only at z0 z1 z2 z3 z4 z5 HN
                  obtain ⟨m1, hm1⟩ : ∃ m, pl.length = m := ⟨_, rfl⟩
                  obtain ⟨m2, hm2⟩ : ∃ m, ol.length = m := ⟨_, rfl⟩
                  obtain ⟨m3, hm3⟩ : ∃ m, vl.length = m := ⟨_, rfl⟩
                  obtain ⟨m4, hm4⟩ : ∃ m, fl.length = m := ⟨_, rfl⟩
                  rw [slv2 hm1] at z2
                  rw [slv2 hm2] at z3
                  rw [slv2 hm3] at z4
                  rw [slv2 hm4] at z5
                  have HMM := Lib.hid (And.intro hm1 (And.intro hm2 (And.intro hm3 hm4)))
                  clear hm1 hm2 hm3 hm4
                  have HY := Lib.hid hy
                  have d1 : (0 : Int) ≤ k := by omega
                  have d2 : (k : Int) < n4 := by omega
                  have e1 : wrap64 ((k : Int) + 1) = (k : Int) + 1 := by have := HXX.out; unfold wrap64; omega
                  have HK := Lib.hid hk
                  clear hc hy hk
                  cases okv with
                  | false =>
                    have HX := Lib.hid (st4_0 HY.out HS.out)
                    go_wp2_with fail
                    go_roundg (n4 - (k + 1))
                    case rel => exact ⟨k + 1, false, by have := HK.out; omega, rfl, by go_num, HX.out, fun h => absurd h (by decide), HM.out.step (below1 _ _)⟩
                    case measure => have := HK.out; omega
                  | true =>
                    have hb4 := below1 wr (.cells #[.string nm, .int .i64 sg, .slice pa m1 pc, .slice oa m2 oc, .slice va m3 vc, .slice fa m4 fc] 44)
                    have HM4 := Lib.hid (HM.out.step hb4)
                    have HBK4 := Lib.hid ((HBK.out rfl).below hb4)
                    have hk4 : (wr.alloc (.cells #[.string nm, .int .i64 sg, .slice pa m1 pc, .slice oa m2 oc, .slice va m3 vc, .slice fa m4 fc] 44)).heap[wr.heap.size]? = some (.cells #[.string nm, .int .i64 sg, .slice pa m1 pc, .slice oa m2 oc, .slice va m3 vc, .slice fa m4 fc] 44) := alloc1 wr _ (Below.refl _ _)
                    have HK4 := Lib.hid hk4
                    have HGX := Lib.hid (show wr.heap.size ≠ r by have := HM.out.o3; have := HM.out.o4; omega)
                    obtain ⟨gx, hgx⟩ : ∃ g, g = wr.heap.size := ⟨_, rfl⟩
                    rw [← hgx] at HK4 HGX
                    have HGG := Lib.hid hgx
                    clear hb4 hk4 hgx
                    rcases Bool.eq_false_or_eq_true (rightS nm) with hr | hr
                    · have HRR := Lib.hid hr
                      clear hr
                      go_wp2_with fail
                      rw [← HGG.out]
                      refine (right_to true nm _ HN.out HRR.out).mono ?_
                      rintro e w5 ⟨rfl, hb5⟩
                      have HM5 := Lib.hid (HM4.out.step hb5)
                      have HBK5 := Lib.hid (HBK4.out.below hb5)
                      have HK5 := Lib.hid (blk_keep hb5 HK4.out)
                      clear hb5
                      have k0 := blk_cell HK5.out 0 _ rfl
                      have k1 := blk_cell HK5.out 1 _ rfl
                      have k2 := blk_cell HK5.out 2 _ rfl
                      have k3 := blk_cell HK5.out 3 _ rfl
                      have k4 := blk_cell HK5.out 4 _ rfl
                      have k5 := blk_cell HK5.out 5 _ rfl
                      rcases Bool.eq_false_or_eq_true (hasN (L.n3 ++ (L.rt.l.take k).map (·.nm)) nm) with hh | hh
                      · have HX := Lib.hid (st4_n (A := A3) (pre := L.n3) (G := n3) (S := n1) (P := n2) HY.out (okNm_t hh))
                        have HH := Lib.hid (hasN_iff.1 hh)
                        clear hh
                        go_wp2_with fail
                        refine (fresh_no gb r _ nm _ _ HBK5.out HH.out).mono ?_
                        rintro e w6 ⟨rfl, rfl⟩
                        go_wp2_with fail
                        go_roundg (n4 - (k + 1))
                        case rel => exact ⟨k + 1, false, by have := HK.out; omega, rfl, by go_num, HX.out, fun h => absurd h (by decide), HM5.out⟩
                        case measure => have := HK.out; omega
                      · have HO := Lib.hid (okNm_y HRR.out hh)
                        have HH := Lib.hid (hasN_no hh)
                        clear hh
                        go_wp2_with fail
                        refine (fresh_yes gb r _ nm _ _ HBK5.out HH.out).mono ?_
                        rintro e w6 ⟨rfl, hbk6, ho6⟩
                        have HM6 := Lib.hid (HM5.out.only ho6)
                        have HK6 := Lib.hid (ho6.keep HGX.out HK5.out)
                        have HBK6 : Hid (BookAt w6 gb r (L.n3 ++ (L.rt.l.take (k + 1)).map (·.nm))) := Lib.hid (by rw [take_names HY.out, ← List.append_assoc]; exact hbk6)
                        clear hbk6 ho6
                        clear k0 k1 k2 k3 k4 k5
                        have k0 := blk_cell HK6.out 0 _ rfl
                        have k1 := blk_cell HK6.out 1 _ rfl
                        have k2 := blk_cell HK6.out 2 _ rfl
                        have k3 := blk_cell HK6.out 3 _ rfl
                        have k4 := blk_cell HK6.out 4 _ rfl
                        have k5 := blk_cell HK6.out 5 _ rfl
                        obtain ⟨D, hD⟩ : ∃ D, decide (0 ≤ sg ∧ sg < (n3 : Int)) = D := ⟨_, rfl⟩
                        have HKK : Hid (∀ (W : World) (g : Nat), W.heap[g]? = some (.cells #[.int .i64 sg] 3) → Calls Try.prog 88 #[.int .i64 (n3 : Int), .slice (some ⟨g, 0, none⟩) 1 1] W fun e w' => e = .returned (.bool D) ∧ W = w') := Lib.hid (fun W g h => hD ▸ one_below n3 sg W g 3 (0, 0) h)
                        have HD := Lib.hid hD
                        clear hD
                        have HM7 := Lib.hid (HM6.out.step (below1 w6 (.cells #[.int .i64 sg] 3)))
                        have HBK7 := Lib.hid (HBK6.out.below (below1 w6 (.cells #[.int .i64 sg] 3)))
                        have HK7 := Lib.hid (blk_keep (below1 w6 (.cells #[.int .i64 sg] 3)) HK6.out)
                        cases D with
                        | false =>
                          have HX := Lib.hid (st4_d (A := A3) (pre := L.n3) (S := n1) (P := n2) HY.out HD.out)
                          go_wp2_with fail
                          refine (HKK.out _ _ (alloc1 w6 _ (Below.refl _ _))).mono ?_
                          rintro e w7 ⟨rfl, rfl⟩
                          go_wp2_with fail
                          go_roundg (n4 - (k + 1))
                          case rel => exact ⟨k + 1, false, by have := HK.out; omega, rfl, by go_num, HX.out, fun h => absurd h (by decide), HM7.out⟩
                          case measure => have := HK.out; omega
                        | true =>
                          have HX := Lib.hid (fun (e : Bool) (he : rtB n1 n2 ⟨nm, sg, ⟨pa, pc, pl⟩, ⟨oa, oc, ol⟩, ⟨va, vc, vl⟩, ⟨fa, fc, fl⟩⟩ = e) => st4_b HY.out HS.out HO.out HD.out he)
                          go_upto_region 24 with fail
                          go_wp2_with fail
                          refine (HKK.out _ _ (alloc1 w6 _ (Below.refl _ _))).mono ?_
                          rintro e w7 ⟨rfl, rfl⟩
                          obtain ⟨W7, hW7⟩ : ∃ W, W = w6.alloc (.cells #[.int .i64 sg] 3) := ⟨_, rfl⟩
                          rw [← hW7] at HM7 HBK7 HK7 ⊢
                          clear hW7 HKK
                          clear k0 k1 k2 k3 k4 k5
                          have k0 := blk_cell HK7.out 0 _ rfl
                          have k1 := blk_cell HK7.out 1 _ rfl
                          have k2 := blk_cell HK7.out 2 _ rfl
                          have k3 := blk_cell HK7.out 3 _ rfl
                          have k4 := blk_cell HK7.out 4 _ rfl
                          have k5 := blk_cell HK7.out 5 _ rfl
                          by_cases t1 : (m1 : Int) ≤ 16
                          case neg =>
                            have HE := Lib.hid (HX.out false (rtB_1 (by dsimp only; rw [HMM.out.1]; omega)))
                            go_wp2_with fail
                            go_roundg (n4 - (k + 1))
                            case rel => exact ⟨k + 1, false, by have := HK.out; omega, rfl, by go_num, HE.out, fun h => absurd h (by decide), HM7.out⟩
                            case measure => have := HK.out; omega
                          by_cases t2 : (m3 : Int) ≤ 16
                          case neg =>
                            have HE := Lib.hid (HX.out false (rtB_2 (by dsimp only; rw [HMM.out.2.2.1]; omega)))
                            go_wp2_with fail
                            go_roundg (n4 - (k + 1))
                            case rel => exact ⟨k + 1, false, by have := HK.out; omega, rfl, by go_num, HE.out, fun h => absurd h (by decide), HM7.out⟩
                            case measure => have := HK.out; omega
                          have q1 := Lib.hid (HR.out.pa.row.below HM7.out.below)
                          have q3 := Lib.hid (HR.out.ov.row.below HM7.out.below)
                          dsimp only at q1 q3
                          rcases Bool.eq_false_or_eq_true (belowB n1 pl) with b1 | b1
                          case inr =>
                            have HE := Lib.hid (HX.out false (rtB_3 b1))
                            have B1 := Lib.hid b1
                            clear b1
                            go_wp2_with fail
                            refine (below_to false n1 pa m1 pc pl _ B1.out HMM.out.1 (by omega) q1.out).mono ?_
                            rintro e w8 ⟨rfl, rfl⟩
                            go_wp2_with fail
                            go_roundg (n4 - (k + 1))
                            case rel => exact ⟨k + 1, false, by have := HK.out; omega, rfl, by go_num, HE.out, fun h => absurd h (by decide), HM7.out⟩
                            case measure => have := HK.out; omega
                          have B1 := Lib.hid b1
                          clear b1
                          rcases Bool.eq_false_or_eq_true (belowB n1 vl) with b2 | b2
                          case inr =>
                            have HE := Lib.hid (HX.out false (rtB_4 b2))
                            have B2 := Lib.hid b2
                            clear b2
                            go_wp2_with fail
                            refine (below_to true n1 pa m1 pc pl _ B1.out HMM.out.1 (by omega) q1.out).mono ?_
                            rintro e w8 ⟨rfl, rfl⟩
                            go_wp2_with fail
                            refine (below_to false n1 va m3 vc vl _ B2.out HMM.out.2.2.1 (by omega) q3.out).mono ?_
                            rintro e w8 ⟨rfl, rfl⟩
                            go_wp2_with fail
                            go_roundg (n4 - (k + 1))
                            case rel => exact ⟨k + 1, false, by have := HK.out; omega, rfl, by go_num, HE.out, fun h => absurd h (by decide), HM7.out⟩
                            case measure => have := HK.out; omega
                          have B2 := Lib.hid b2
                          clear b2
                          go_wp2_with fail
                          refine (below_to true n1 pa m1 pc pl _ B1.out HMM.out.1 (by omega) q1.out).mono ?_
                          rintro e w8 ⟨rfl, rfl⟩
                          go_wp2_with fail
                          refine (below_to true n1 va m3 vc vl _ B2.out HMM.out.2.2.1 (by omega) q3.out).mono ?_
                          rintro e w8 ⟨rfl, rfl⟩
                          have HT := Lib.hid (And.intro t1 t2)
                          have M24 := Lib.hid (show m2 ≤ 9223372036854775807 ∧ m4 ≤ 9223372036854775807 by have h2 := HR.out.po.len; have h4 := HR.out.fl.len; have g2 := HR.out.po.cap; have g4 := HR.out.fl.cap; have := HMM.out; dsimp only at h2 h4 g2 g4; unfold maxLen at g2 g4; omega)
                          clear t1 t2
                          rcases Bool.eq_false_or_eq_true (mayB n2 ol) with b3 | b3
                          case inr =>
                            have HE := Lib.hid (HX.out false (rtB_5 b3))
                            have B3 := Lib.hid b3
                            clear b3
                            go_wp2_with fail
                            refine (may_to false n2 oa m2 oc ol _ B3.out HMM.out.2.1 M24.out.1 (HR.out.po.row.below HM7.out.below)).mono ?_
                            rintro e w8 ⟨rfl, hb8⟩
                            have HM8 := Lib.hid (HM7.out.step hb8)
                            clear hb8
                            go_wp2_with fail
                            go_roundg (n4 - (k + 1))
                            case rel => exact ⟨k + 1, false, by have := HK.out; omega, rfl, by go_num, HE.out, fun h => absurd h (by decide), HM8.out⟩
                            case measure => have := HK.out; omega
                          have B3 := Lib.hid b3
                          clear b3
                          go_wp2_with fail
                          refine (may_to true n2 oa m2 oc ol _ B3.out HMM.out.2.1 M24.out.1 (HR.out.po.row.below HM7.out.below)).mono ?_
                          rintro e w8 ⟨rfl, hb8⟩
                          have HM8 := Lib.hid (HM7.out.step hb8)
                          have HBK8 := Lib.hid (HBK7.out.below hb8)
                          have HK8 := Lib.hid (blk_keep hb8 HK7.out)
                          clear hb8
                          clear k0 k1 k2 k3 k4 k5
                          have k0 := blk_cell HK8.out 0 _ rfl
                          have k1 := blk_cell HK8.out 1 _ rfl
                          have k2 := blk_cell HK8.out 2 _ rfl
                          have k3 := blk_cell HK8.out 3 _ rfl
                          have k4 := blk_cell HK8.out 4 _ rfl
                          have k5 := blk_cell HK8.out 5 _ rfl
                          rcases Bool.eq_false_or_eq_true (mayB n2 fl) with b4 | b4
                          case inr =>
                            have HE := Lib.hid (HX.out false (rtB_6 b4))
                            have B4 := Lib.hid b4
                            clear b4
                            go_wp2_with fail
                            refine (may_to false n2 fa m4 fc fl _ B4.out HMM.out.2.2.2 M24.out.2 (HR.out.fl.row.below HM8.out.below)).mono ?_
                            rintro e w9 ⟨rfl, hb9⟩
                            have HM9 := Lib.hid (HM8.out.step hb9)
                            clear hb9
                            go_wp2_with fail
                            go_roundg (n4 - (k + 1))
                            case rel => exact ⟨k + 1, false, by have := HK.out; omega, rfl, by go_num, HE.out, fun h => absurd h (by decide), HM9.out⟩
                            case measure => have := HK.out; omega
                          have HE := Lib.hid (HX.out true (rtB_7 (by dsimp only; rw [HMM.out.1]; have := HT.out; omega) (by dsimp only; rw [HMM.out.2.2.1]; have := HT.out; omega) B1.out B2.out B3.out b4))
                          have B4 := Lib.hid b4
                          clear b4
                          go_wp2_with fail
                          refine (may_to true n2 fa m4 fc fl _ B4.out HMM.out.2.2.2 M24.out.2 (HR.out.fl.row.below HM8.out.below)).mono ?_
                          rintro e w9 ⟨rfl, hb9⟩
                          have HM9 := Lib.hid (HM8.out.step hb9)
                          have HBK9 := Lib.hid (HBK8.out.below hb9)
                          clear hb9
                          go_wp2_with fail
                          go_roundg (n4 - (k + 1))
                          case rel => exact ⟨k + 1, true, by have := HK.out; omega, rfl, by go_num, HE.out, fun _ => HBK9.out, HM9.out⟩
                          case measure => have := HK.out; omega
                    · have HX := Lib.hid (st4_n (A := A3) (pre := L.n3) (G := n3) (S := n1) (P := n2) HY.out (okNm_r hr))
                      have HRR := Lib.hid hr
                      clear hr
                      go_wp2_with fail
                      rw [← HGG.out]
                      refine (right_to false nm _ HN.out HRR.out).mono ?_
                      rintro e w5 ⟨rfl, hb5⟩
                      have HM5 := Lib.hid (HM4.out.step hb5)
                      clear hb5
                      go_wp2_with fail
                      go_roundg (n4 - (k + 1))
                      case rel => exact ⟨k + 1, false, by have := HK.out; omega, rfl, by go_num, HX.out, fun h => absurd h (by decide), HM5.out⟩
                      case measure => have := HK.out; omega
                · have hkn : n4 = k := by omega
                  subst hkn
                  have hfull : L.rt.l.take n4 = L.rt.l := List.take_of_length_le (by rw [N4.out]; exact Nat.le_refl _)
                  rw [hfull] at HS HBK
                  clear hfull
                  obtain ⟨wq5, hwq⟩ : ∃ W, W = wr := ⟨_, rfl⟩
                  rw [← hwq] at HM HBK ⊢
                  clear hwq
                  go_wp2_with fail
                  go_ret
                  have hE : mayS L = okv := by
                    refine may_end (A2 := A2) (A3 := A3) HSM.out ?_ ?_ ?_
                    · rw [N1.out, HS1.out]; exact HS2.out
                    · rw [N1.out]; exact HS3.out
                    · rw [N1.out, N2.out, N3.out]; exact HS.out
                  exact ⟨by rw [hE]; rfl, HM.out.below⟩
end Go.Proofs.Ytjienmjpfklgeaa
namespace Go.Proofs.Ytjienmjpfklgeaa
open Go.RowKit
set_option maxRecDepth 100000

section
variable {α : Type} {sz : Nat} {f : α → List Value}
theorem flat_len (hf : ∀ c, (f c).length = sz) : ∀ l : List α, (l.flatMap f).length = l.length * sz := by
  intro l
  induction l with
  | nil => simp
  | cons c l ih => rw [List.flatMap_cons, List.length_append, hf, ih, List.length_cons, Nat.add_mul, Nat.one_mul, Nat.add_comm]
theorem flat_get (hf : ∀ c, (f c).length = sz) : ∀ (l : List α) (i : Nat) (c : α) (j : Nat) (v : Value), l[i]? = some c → (f c)[j]? = some v → (l.flatMap f)[i * sz + j]? = some v := by
  intro l
  induction l with
  | nil => intro i c j v h; simp at h
  | cons d l ih =>
    intro i c j v h hj
    have hjs : j < sz := by rw [← hf c]; exact (List.getElem?_eq_some_iff.1 hj).1
    cases i with
    | zero =>
      simp at h; subst h
      rw [List.flatMap_cons, Nat.zero_mul, Nat.zero_add, List.getElem?_append_left (by rw [hf]; exact hjs)]
      exact hj
    | succ i =>
      have := ih i c j v (by simpa using h) hj
      rw [List.flatMap_cons, List.getElem?_append_right (by rw [hf, Nat.add_mul]; omega), hf]
      rw [show (i + 1) * sz + j - sz = i * sz + j by rw [Nat.add_mul]; omega]
      exact this
theorem flat_at (hf : ∀ c, (f c).length = sz) (l : List α) (j : Nat) (v : Value) (h : (l.flatMap f)[j]? = some v) : ∃ i c k, l[i]? = some c ∧ (f c)[k]? = some v ∧ j = i * sz + k := by
  have hj : j < l.length * sz := by rw [← flat_len hf]; exact (List.getElem?_eq_some_iff.1 h).1
  have hpos : 0 < sz := by
    rcases Nat.eq_zero_or_pos sz with h0 | h0
    · rw [h0, Nat.mul_zero] at hj; omega
    · exact h0
  have hi : j / sz < l.length := Nat.div_lt_of_lt_mul (by rw [Nat.mul_comm]; exact hj)
  have hk : j % sz < sz := Nat.mod_lt _ hpos
  have hjj : j = j / sz * sz + j % sz := by rw [Nat.mul_comm]; exact (Nat.div_add_mod j sz).symm
  have g1 : l[j / sz]? = some (l[j / sz]'hi) := List.getElem?_eq_getElem _
  have g2 : (f (l[j / sz]'hi))[j % sz]? = some ((f (l[j / sz]'hi))[j % sz]'(by rw [hf]; exact hk)) := List.getElem?_eq_getElem _
  have g3 := flat_get hf l _ _ _ _ g1 g2
  rw [← hjj, h] at g3
  refine ⟨_, _, _, g1, ?_, hjj⟩
  rw [g2]; exact g3.symm
theorem own_sl {w : World} {base : Nat} {e : TypeId} {v : Value} {n : Nat} {l : List α} (hf : ∀ c, (f c).length = sz) (hn : l.length = n) (h : w.ownsRow base e sz v n (l.flatMap f)) :
    ∃ a c, v = .slice a n c ∧ SlAt sz f w ⟨a, c, l⟩ := by
  rcases h.2 with ⟨rfl, rfl⟩ | ⟨g, cap, cur, rfl, hg, hheap, hncap, hcm, hsz, htake⟩
  · obtain rfl := List.eq_nil_of_length_eq_zero hn
    exact ⟨none, 0, rfl, .inl rfl, Nat.le_refl _, Nat.zero_le _, fun _ => rfl⟩
  · refine ⟨some ⟨g, 0, none⟩, cap, rfl, .inr ⟨g, 0, rfl, fun i c hi j v hv => ?_⟩, by dsimp only; omega, hcm, fun h => by cases h⟩
    have hg2 := flat_get hf l i c j v hi hv
    have hlt : i * sz + j < n * sz := by rw [← hn, ← flat_len hf]; exact (List.getElem?_eq_some_iff.1 hg2).1
    rw [Nat.zero_add]
    refine blk_cell hheap _ v ?_
    rw [← Array.getElem?_toList, ← hg2, ← htake, List.getElem?_take, if_pos hlt]
theorem src_sl {w : World} {s : Sl α} (hf : ∀ c, (f c).length = sz) (h1 : ∀ c, ∀ u ∈ f c, u.oneCell' = true) (h : SlAt sz f w s) : SrcAt w s.a s.c (s.l.flatMap f) := by
  refine ⟨fun ha => ⟨h.capNil ha, ?_⟩, ?_, ?_⟩
  · rcases h.row with hl | ⟨b, off, hb, _⟩
    · rw [hl]; rfl
    · rw [ha] at hb; cases hb
  · intro u hu
    obtain ⟨c, _, hc⟩ := List.mem_flatMap.1 hu
    exact h1 c u hc
  · intro ad had j u hu
    rcases h.row with hl | ⟨b, off, hb, hc⟩
    · rw [hl] at hu; simp at hu
    · rw [had] at hb
      obtain rfl := Option.some.inj hb
      obtain ⟨i, c, k, g1, g2, rfl⟩ := flat_at hf _ _ _ hu
      rw [Addr.add_lit, ← Nat.add_assoc]
      exact hc i c g1 k u g2
end
theorem int_len (c : Int) : (intC c).length = 1 := rfl
theorem str_len (c : BA) : (strC c).length = 1 := rfl
theorem nd_len (c : Int × Bool) : (ndC c).length = 2 := rfl
theorem int_one (c : Int) : ∀ u ∈ intC c, u.oneCell' = true := by intro u h; simp [intC] at h; subst h; rfl
theorem str_one (c : BA) : ∀ u ∈ strC c, u.oneCell' = true := by intro u h; simp [strC] at h; subst h; rfl
theorem nd_one (c : Int × Bool) : ∀ u ∈ ndC c, u.oneCell' = true := by
  intro u h; simp [ndC] at h
  rcases h with rfl | rfl <;> rfl
/-! ### the document's find, in, points, full -/
theorem ba_beq (a b : BA) : (a.toList == b.toList) = decide (a = b) := by
  by_cases h : a = b
  · subst h; simp
  · rw [decide_eq_false h]
    cases hx : (a.toList == b.toList) with
    | false => rfl
    | true => exact absurd ((Lib.bytes_beq_iff a b).1 hx) h
theorem hasN_take {l : List BA} {s y : BA} {k : Nat} (h : l[k]? = some y) : hasN (l.take (k + 1)) s = (hasN (l.take k) s || decide (y = s)) := by
  unfold hasN; rw [List.take_add_one, h, List.any_append]; simp
theorem hasN_get {l : List BA} {s y : BA} {k : Nat} (h : l[k]? = some y) (hy : y = s) : hasN l s = true := hasN_iff.2 (hy ▸ List.mem_of_getElem? h)
attribute [local irreducible] hasN belowB mayB
/-- what find answers -/
def fI : Nat → List BA → BA → Int
  | _, [], _ => -1
  | k, y :: t, s => if y = s then (k : Int) else fI (k + 1) t s
theorem fI_iff : ∀ (l : List BA) (k : Nat) (s : BA), (0 ≤ fI k l s ∧ hasN l s = true) ∨ (fI k l s < 0 ∧ hasN l s = false) := by
  intro l
  induction l with
  | nil => intro k s; exact .inr ⟨by unfold fI; decide, by unfold hasN; rfl⟩
  | cons y l ih =>
    intro k s
    by_cases h : y = s
    · exact .inl ⟨by unfold fI; rw [if_pos h]; omega, by unfold hasN; simp [h]⟩
    · have e1 : fI k (y :: l) s = fI (k + 1) l s := by
        show (if y = s then (k : Int) else fI (k + 1) l s) = _
        rw [if_neg h]
      have e2 : hasN (y :: l) s = hasN l s := by unfold hasN; simp [h]
      rw [e1, e2]
      exact ih (k + 1) s
theorem fI_drop {l : List BA} {s y : BA} {k : Nat} (h : l[k]? = some y) (hy : y ≠ s) : fI k (l.drop k) s = fI (k + 1) (l.drop (k + 1)) s := by
  have hk : k < l.length := (List.getElem?_eq_some_iff.1 h).1
  rw [List.drop_eq_getElem_cons hk, (List.getElem?_eq_some_iff.1 h).2]
  show (if y = s then (k : Int) else fI (k + 1) (l.drop (k + 1)) s) = _
  rw [if_neg hy]
theorem fI_hit {l : List BA} {s y : BA} {k : Nat} (h : l[k]? = some y) (hy : y = s) : fI k (l.drop k) s = k := by
  have hk : k < l.length := (List.getElem?_eq_some_iff.1 h).1
  rw [List.drop_eq_getElem_cons hk, (List.getElem?_eq_some_iff.1 h).2]
  show (if y = s then (k : Int) else fI (k + 1) (l.drop (k + 1)) s) = _
  rw [if_pos hy]
theorem fI_end {l : List BA} {s : BA} {k : Nat} (h : l.length = k) : fI k (l.drop k) s = -1 := by rw [List.drop_eq_nil_of_le (by omega)]; rfl
attribute [local irreducible] fI
theorem find_is (x : Option Addr) (m c : Nat) (l : List BA) (s : BA) (w : World) (hn : l.length = m) (hm : m ≤ 9223372036854775807) (hl : RowAt 1 strC w x l) :
    Calls Try.prog 74 #[.slice x m c, .string s] w fun e w' => e = .returned (.int .i64 (fI 0 l s)) ∧ w = w' := by
  have HN := Lib.hid hn
  clear hn
  go_enter Try.func74, Try.ntmps74
  go_wp2_with fail
  go_loopg [5] m (fun g i wr => ∃ k : Nat, k + g = m ∧ i = .int .i64 (k : Int) ∧ fI k (l.drop k) s = fI 0 l s ∧ w = wr)
  case atStart => exact ⟨0, by omega, rfl, rfl, rfl⟩
  case round =>
    obtain ⟨k, hk, rfl, hb, rfl⟩ := hrel
    have HB := Lib.hid hb
    clear hb
    by_cases hlt : k < m
    · obtain ⟨y, hy⟩ : ∃ y, l[k]? = some y := ⟨_, List.getElem?_eq_getElem (by rw [HN.out]; exact hlt)⟩
      rcases hl with rfl | ⟨b, off, rfl, hc⟩
      · simp at hy
      have z0 := hc k y hy 0 _ rfl
      rw [Nat.add_zero, Nat.mul_one] at z0
      have HY := Lib.hid hy
      have d1 : (0 : Int) ≤ k := by omega
      have d2 : (k : Int) < m := by omega
      have e1 : wrap64 ((k : Int) + 1) = (k : Int) + 1 := by unfold wrap64; omega
      have HK := Lib.hid hk
      clear hc hy hk
      have hbe := ba_beq y s
      by_cases hys : y = s
      · have HF : Hid (fI 0 l s = k) := Lib.hid (HB.out.symm.trans (fI_hit HY.out hys))
        rw [decide_eq_true hys] at hbe
        clear hys
        go_wp2_with fail
        go_ret
        exact ⟨by rw [HF.out]; rfl, rfl⟩
      · have HT : Hid (fI (k + 1) (l.drop (k + 1)) s = fI 0 l s) := Lib.hid ((fI_drop HY.out hys).symm.trans HB.out)
        rw [decide_eq_false hys] at hbe
        clear hys
        go_wp2_with fail
        go_roundg (m - (k + 1))
        case rel => exact ⟨k + 1, by have := HK.out; omega, by go_num, HT.out, rfl⟩
        case measure => have := HK.out; omega
    · have hkm : m = k := by omega
      subst hkm
      have HF : Hid (fI 0 l s = -1) := Lib.hid (HB.out.symm.trans (fI_end HN.out))
      go_wp2_with fail
      go_ret
      exact ⟨by rw [HF.out]; rfl, rfl⟩
def inS (n : Nat) (l : List Int) : Bool := decide (l.length ≤ 16) && belowB n l
theorem inS_long {n : Nat} {l : List Int} (h : ¬ l.length ≤ 16) : inS n l = false := by unfold inS; rw [decide_eq_false h]; rfl
theorem inS_out {n : Nat} {l : List Int} {k : Nat} {y : Int} (h : l[k]? = some y) (hx : ¬ (0 ≤ y ∧ y < (n : Int))) : inS n l = false := by unfold inS; rw [belowB_false h hx, Bool.and_false]
set_option maxHeartbeats 1000000 in
theorem rin_is (n : Nat) (x : Option Addr) (m c : Nat) (l : List Int) (w : World) (hn : l.length = m) (hm : m ≤ 9223372036854775807) (hl : RowAt 1 intC w x l) :
    Calls Try.prog 75 #[.slice x m c, .int .i64 (n : Int)] w fun e w' => e = .returned (.bool (inS n l)) ∧ w = w' := by
  have HN := Lib.hid hn
  clear hn
  go_enter Try.func75, Try.ntmps75
  go_wp2_with fail
  go_loopg [5] m (fun g i wr => ∃ k : Nat, k + g = m ∧ k ≤ 17 ∧ i = .int .i64 (k : Int) ∧ belowB n (l.take k) = true ∧ w = wr)
  case atStart => exact ⟨0, by omega, by omega, rfl, by unfold belowB; rfl, rfl⟩
  case round =>
    obtain ⟨k, hk, hk17, rfl, hb, rfl⟩ := hrel
    have HB := Lib.hid hb
    clear hb
    by_cases hlt : k < m
    · by_cases h17 : k < 17
      · obtain ⟨y, hy⟩ : ∃ y, l[k]? = some y := ⟨_, List.getElem?_eq_getElem (by rw [HN.out]; exact hlt)⟩
        rcases hl with rfl | ⟨b, off, rfl, hc⟩
        · simp at hy
        have z0 := hc k y hy 0 _ rfl
        rw [Nat.add_zero, Nat.mul_one] at z0
        have HY := Lib.hid hy
        have d1 : (0 : Int) ≤ k := by omega
        have d2 : (k : Int) < m := by omega
        have d3 : (k : Int) < 17 := by omega
        have e1 : wrap64 ((k : Int) + 1) = (k : Int) + 1 := by unfold wrap64; omega
        have HK := Lib.hid hk
        clear hc hy hk hk17 h17
        by_cases h1 : y < 0
        · have HF := Lib.hid (inS_out (n := n) HY.out (by omega))
          go_wp2_with fail
          go_ret
          exact ⟨by rw [HF.out]; rfl, rfl⟩
        by_cases h2 : (n : Int) ≤ y
        · have HF := Lib.hid (inS_out (n := n) HY.out (by omega))
          go_wp2_with fail
          go_ret
          exact ⟨by rw [HF.out]; rfl, rfl⟩
        · have HT : Hid (belowB n (l.take (k + 1)) = true) := Lib.hid (by rw [belowB_take HY.out, HB.out, decide_eq_true (by omega)]; rfl)
          go_wp2_with fail
          go_roundg (m - (k + 1))
          case rel => exact ⟨k + 1, by have := HK.out; omega, by omega, by go_num, HT.out, rfl⟩
          case measure => have := HK.out; omega
      · have HF := Lib.hid (inS_long (n := n) (l := l) (by rw [HN.out]; omega))
        have d2 : (k : Int) < m := by omega
        have d3 : ¬ (k : Int) < 17 := by omega
        have d4 : ¬ (m : Int) ≤ 16 := by omega
        clear hk17 h17
        go_wp2_with fail
        go_ret
        exact ⟨by rw [HF.out]; rfl, rfl⟩
    · have hkm : m = k := by omega
      subst hkm
      have hT : belowB n l = true := by have := HB.out; rwa [List.take_of_length_le (by rw [HN.out]; exact Nat.le_refl _)] at this
      by_cases h16 : m ≤ 16
      · have HF : Hid (inS n l = true) := Lib.hid (by unfold inS; rw [hT, HN.out, decide_eq_true h16]; rfl)
        have d4 : (m : Int) ≤ 16 := by omega
        clear hT
        go_wp2_with fail
        go_ret
        exact ⟨by rw [HF.out]; rfl, rfl⟩
      · have HF := Lib.hid (inS_long (n := n) (l := l) (by rw [HN.out]; omega))
        have d4 : ¬ (m : Int) ≤ 16 := by omega
        clear hT
        go_wp2_with fail
        go_ret
        exact ⟨by rw [HF.out]; rfl, rfl⟩
theorem rin_to (B : Bool) (n : Nat) (x : Option Addr) (m c : Nat) (l : List Int) (w : World) (hB : inS n l = B) (hn : l.length = m) (hm : m ≤ 9223372036854775807) (hl : RowAt 1 intC w x l) :
    Calls Try.prog 75 #[.slice x m c, .int .i64 (n : Int)] w fun e w' => e = .returned (.bool B) ∧ w = w' := hB ▸ rin_is n x m c l w hn hm hl
theorem inS_one (n : Nat) (x : Int) : inS n [x] = decide (0 ≤ x ∧ x < (n : Int)) := by unfold inS; rw [belowB_one]; rfl
theorem rin_one (n : Nat) (x : Int) (w : World) (g : Nat) (t : TypeId) (fr : Nat × Nat) (h : w.heap[g]? = some (.cells #[.int .i64 x] t fr)) : Calls Try.prog 75 #[.slice (some ⟨g, 0, none⟩) 1 1, .int .i64 (n : Int)] w fun e w' => e = .returned (.bool (decide (0 ≤ x ∧ x < (n : Int)))) ∧ w = w' :=
  rin_to _ n _ 1 1 [x] _ (inS_one n x) rfl (by omega) (row_one h)
theorem info_int : (Try.prog.info? 3).map (fun i => (i.zero, i.size, i.bytes)) = some (some (.int .i64 0), 1, 8) := by kernel_rfl
theorem info_str : (Try.prog.info? 9).map (fun i => (i.zero, i.size, i.bytes)) = some (some (.string ⟨#[]⟩), 1, 16) := by kernel_rfl
theorem src_one {w : World} {g : Nat} {t : TypeId} {fr : Nat × Nat} {u : Value} (h1 : u.oneCell' = true) (h : w.heap[g]? = some (.cells #[u] t fr)) : SrcAt w (some ⟨g, 0, none⟩) 1 [u] := by
  refine ⟨fun h => (by cases h), fun v hv => ?_, fun ad had j v hv => ?_⟩
  · simp at hv; subst hv; exact h1
  · obtain rfl := Option.some.inj had
    have hj : j < 1 := (List.getElem?_eq_some_iff.1 hv).1
    obtain rfl : j = 0 := by omega
    simp at hv
    subst hv
    rw [Addr.add_lit]
    exact blk_cell h 0 _ rfl
end Go.Proofs.Ytjienmjpfklgeaa
namespace Go.Proofs.Ytjienmjpfklgeaa
open Go.RowKit
set_option maxRecDepth 100000
attribute [local irreducible] hasN belowB mayB

theorem fst_take {l : List (Int × Bool)} {k : Nat} {c : Int × Bool} (h : l[k]? = some c) : ((l.take (k + 1)).map (·.1)).flatMap intC = ((l.take k).map (·.1)).flatMap intC ++ [.int .i64 c.1] := by
  rw [List.take_add_one, h, List.map_append, List.flatMap_append]; rfl
set_option maxRecDepth 100000 in
set_option maxHeartbeats 1000000 in
theorem rpoints_is (x : Option Addr) (m c : Nat) (l : List (Int × Bool)) (w : World) (hn : l.length = m) (hm : m ≤ 9223372036854775807) (hl : RowAt 2 ndC w x l) :
    Calls Try.prog 76 #[.slice x m c] w fun e w' => ∃ a n cc, e = .returned (.slice a n cc) ∧ n = min 17 l.length ∧ SlAt 1 intC w' ⟨a, cc, (l.map (·.1)).take 17⟩ ∧ Below w.heap.size w w' := by
  have HN := Lib.hid hn
  clear hn
  obtain ⟨i0, hi, hz0, hz1, hz2⟩ := info_parts info_int
  have HI := Lib.hid (And.intro hi (And.intro hz0 (And.intro hz1 hz2)))
  clear hi hz0 hz1 hz2
  go_enter Try.func76, Try.ntmps76
  go_wp2_with fail
  go_loopg [3, 4] m (fun g v i wr => ∃ k : Nat, k + g = m ∧ k ≤ 17 ∧ i = .int .i64 (k : Int) ∧ wr.ownsRow w.heap.size 3 1 v k (((l.take k).map (·.1)).flatMap intC) ∧ Below w.heap.size w wr)
  case atStart => exact ⟨0, by omega, by omega, rfl, by rw [List.take_zero]; exact World.ownsRow_nil _ _ _ _, Below.refl _ _⟩
  case round =>
    obtain ⟨k, hk, hk17, rfl, hO, hbw⟩ := hrel
    by_cases hlt : k < m
    · by_cases h17 : k < 17
      · skip
        obtain ⟨y, hy⟩ : ∃ y, l[k]? = some y := ⟨_, List.getElem?_eq_getElem (by rw [HN.out]; exact hlt)⟩
        rcases hl.below hbw with rfl | ⟨b, off, rfl, hc⟩
        · simp at hy
        obtain ⟨y0, y1⟩ := y
        have z0 := hc k _ hy 0 _ rfl
        rw [Nat.add_zero] at z0
        dsimp only at z0
        have HY := Lib.hid hy
        have d1 : (0 : Int) ≤ k := by omega
        have d2 : (k : Int) < m := by omega
        have d3 : (k : Int) < 17 := by omega
        have e1 : wrap64 ((k : Int) + 1) = (k : Int) + 1 := by unfold wrap64; omega
        have HK := Lib.hid hk
        have HB := Lib.hid (show k ≤ 100000 by omega)
        have HBW := Lib.hid hbw
        have HOW := Lib.hid (own_below (below1 wr (Obj.cells #[.int .i64 y0] 3)) hO)
        have HSR := Lib.hid (src_one (u := .int .i64 y0) rfl (alloc1 wr (Obj.cells #[.int .i64 y0] 3) (Below.refl _ _)))
        clear hc hy hk hbw hO
        go_wp2_with (at_builtin; refine wpList_append_src rfl _ _ 41 rfl w.heap.size 3 i0 (.int .i64 0) 1 8 Try.underlying41 HI.out.1 HI.out.2.1 HI.out.2.2.1 HI.out.2.2.2 rfl (by decide) _ k (((l.take k).map (fun (p : Int × Bool) => p.1)).flatMap intC) rfl HOW.out (some ⟨wr.heap.size, 0, none⟩) 1 1 [.int .i64 y0] rfl rfl HSR.out (by have := HB.out; unfold maxLen; omega) (by have := HB.out; omega) (by have := HBW.out.size; simp; omega) ?_; intro v4 W4 hown4 hg4)
        have hB7 : Below w.heap.size w W4 := (HBW.out.alloc HBW.out.size _).grown hg4 (by have := HBW.out.size; simp; omega) (fun k hk => (HOW.out.lt _ hk).1)
        go_roundg (m - (k + 1))
        case rel => exact ⟨k + 1, by have := HK.out; omega, by omega, by go_num, by rw [fst_take HY.out]; exact hown4, hB7⟩
        case measure => have := HK.out; omega
      · have d2 : (k : Int) < m := by omega
        have d3 : ¬ (k : Int) < 17 := by omega
        have hkb : k = 17 := by omega
        subst hkb
        have hF : (l.take 17).map (·.1) = (l.map (·.1)).take 17 := List.map_take
        have hL : ((l.take 17).map (·.1)).length = 17 := by rw [List.length_map, List.length_take, HN.out]; omega
        obtain ⟨a, cc, rfl, hS⟩ := own_sl int_len hL hO
        rw [hF] at hS
        have HS := Lib.hid hS
        have HBW := Lib.hid hbw
        have HK := Lib.hid (show 17 = min 17 l.length by have := HN.out; omega)
        clear hO hS hbw hk hF hL
        go_wp2_with fail
        go_ret
        exact ⟨a, 17, cc, rfl, HK.out, HS.out, HBW.out⟩
    · have d2 : ¬ (k : Int) < m := by omega
      have hF : (l.take k).map (·.1) = (l.map (·.1)).take 17 := by rw [List.take_of_length_le (by rw [HN.out]; omega), List.take_of_length_le (by rw [List.length_map, HN.out]; omega)]
      have hL : ((l.take k).map (·.1)).length = k := by rw [List.length_map, List.length_take, HN.out]; omega
      obtain ⟨a, cc, rfl, hS⟩ := own_sl int_len hL hO
      rw [hF] at hS
      have HS := Lib.hid hS
      have HBW := Lib.hid hbw
      have HK := Lib.hid (show k = min 17 l.length by have := HN.out; omega)
      clear hO hS hbw hk hF hL
      go_wp2_with fail
      go_ret
      exact ⟨a, k, cc, rfl, HK.out, HS.out, HBW.out⟩
set_option maxRecDepth 100000 in
set_option maxHeartbeats 1000000 in
theorem r5points_is (x : Option Addr) (m c : Nat) (l : List (Int × Bool)) (w : World) (hn : l.length = m) (hm : m ≤ 9223372036854775807) (hmm : m ≤ 100000) (hl : RowAt 2 ndC w x l) :
    Calls Try.prog 77 #[.slice x m c] w fun e w' => ∃ a n cc, e = .returned (.slice a n cc) ∧ n = l.length ∧ SlAt 1 intC w' ⟨a, cc, l.map (·.1)⟩ ∧ Below w.heap.size w w' := by
  have HN := Lib.hid hn
  clear hn
  obtain ⟨i0, hi, hz0, hz1, hz2⟩ := info_parts info_int
  have HI := Lib.hid (And.intro hi (And.intro hz0 (And.intro hz1 hz2)))
  clear hi hz0 hz1 hz2
  go_enter Try.func77, Try.ntmps77
  go_wp2_with fail
  go_loopg [3, 4] m (fun g v i wr => ∃ k : Nat, k + g = m ∧ i = .int .i64 (k : Int) ∧ wr.ownsRow w.heap.size 3 1 v k (((l.take k).map (·.1)).flatMap intC) ∧ Below w.heap.size w wr)
  case atStart => exact ⟨0, by omega, rfl, by rw [List.take_zero]; exact World.ownsRow_nil _ _ _ _, Below.refl _ _⟩
  case round =>
    obtain ⟨k, hk, rfl, hO, hbw⟩ := hrel
    by_cases hlt : k < m
    · skip
      obtain ⟨y, hy⟩ : ∃ y, l[k]? = some y := ⟨_, List.getElem?_eq_getElem (by rw [HN.out]; exact hlt)⟩
      rcases hl.below hbw with rfl | ⟨b, off, rfl, hc⟩
      · simp at hy
      obtain ⟨y0, y1⟩ := y
      have z0 := hc k _ hy 0 _ rfl
      rw [Nat.add_zero] at z0
      dsimp only at z0
      have HY := Lib.hid hy
      have d1 : (0 : Int) ≤ k := by omega
      have d2 : (k : Int) < m := by omega
      skip
      have e1 : wrap64 ((k : Int) + 1) = (k : Int) + 1 := by unfold wrap64; omega
      have HK := Lib.hid hk
      have HB := Lib.hid (show k ≤ 100000 by omega)
      have HBW := Lib.hid hbw
      have HOW := Lib.hid (own_below (below1 wr (Obj.cells #[.int .i64 y0] 3)) hO)
      have HSR := Lib.hid (src_one (u := .int .i64 y0) rfl (alloc1 wr (Obj.cells #[.int .i64 y0] 3) (Below.refl _ _)))
      clear hc hy hk hbw hO
      go_wp2_with (at_builtin; refine wpList_append_src rfl _ _ 41 rfl w.heap.size 3 i0 (.int .i64 0) 1 8 Try.underlying41 HI.out.1 HI.out.2.1 HI.out.2.2.1 HI.out.2.2.2 rfl (by decide) _ k (((l.take k).map (fun (p : Int × Bool) => p.1)).flatMap intC) rfl HOW.out (some ⟨wr.heap.size, 0, none⟩) 1 1 [.int .i64 y0] rfl rfl HSR.out (by have := HB.out; unfold maxLen; omega) (by have := HB.out; omega) (by have := HBW.out.size; simp; omega) ?_; intro v4 W4 hown4 hg4)
      have hB7 : Below w.heap.size w W4 := (HBW.out.alloc HBW.out.size _).grown hg4 (by have := HBW.out.size; simp; omega) (fun k hk => (HOW.out.lt _ hk).1)
      go_roundg (m - (k + 1))
      case rel => exact ⟨k + 1, by have := HK.out; omega, by go_num, by rw [fst_take HY.out]; exact hown4, hB7⟩
      case measure => have := HK.out; omega
    · have d2 : ¬ (k : Int) < m := by omega
      have hF : (l.take k).map (·.1) = l.map (·.1) := by rw [List.take_of_length_le (by rw [HN.out]; omega)]
      have hL : ((l.take k).map (·.1)).length = k := by rw [List.length_map, List.length_take, HN.out]; omega
      obtain ⟨a, cc, rfl, hS⟩ := own_sl int_len hL hO
      rw [hF] at hS
      have HS := Lib.hid hS
      have HBW := Lib.hid hbw
      have HK := Lib.hid (show k = l.length by have := HN.out; omega)
      clear hO hS hbw hk hF hL
      go_wp2_with fail
      go_ret
      exact ⟨a, k, cc, rfl, HK.out, HS.out, HBW.out⟩
theorem full_is (L : Lay) (w : World) : Calls Try.prog 71 #[.agg #[L.se.v, L.po.v, L.sg.v, L.rt.v]] w fun e w' => e = .returned (.bool (!L.small)) ∧ Below w.heap.size w w' := by
  obtain ⟨n1, hn1⟩ : ∃ n, L.se.l.length = n := ⟨_, rfl⟩
  obtain ⟨n2, hn2⟩ : ∃ n, L.po.l.length = n := ⟨_, rfl⟩
  obtain ⟨n3, hn3⟩ : ∃ n, L.sg.l.length = n := ⟨_, rfl⟩
  obtain ⟨n4, hn4⟩ : ∃ n, L.rt.l.length = n := ⟨_, rfl⟩
  rw [slv hn1, slv hn2, slv hn3, slv hn4]
  have N := Lib.hid (And.intro hn1 (And.intro hn2 (And.intro hn3 hn4)))
  clear hn1 hn2 hn3 hn4
  by_cases x1 : 64 < n1
  · have HF : Hid (L.small = false) := Lib.hid (small_no (by have := N.out; omega))
    have y1 : (64 : Int) < (n1 : Nat) := by omega
    clear x1
    skip
    go_enter Try.func71, Try.ntmps71
    go_wp2_with fail
    go_ret
    exact ⟨by rw [HF.out]; rfl, below1 _ _⟩
  have y1 : ¬ (64 : Int) < (n1 : Nat) := by omega
  by_cases x2 : 32 < n2
  · have HF : Hid (L.small = false) := Lib.hid (small_no (by have := N.out; omega))
    have y1 : (32 : Int) < (n2 : Nat) := by omega
    clear x2
    skip
    go_enter Try.func71, Try.ntmps71
    go_wp2_with fail
    go_ret
    exact ⟨by rw [HF.out]; rfl, below1 _ _⟩
  have y2 : ¬ (32 : Int) < (n2 : Nat) := by omega
  by_cases x3 : 32 < n3
  · have HF : Hid (L.small = false) := Lib.hid (small_no (by have := N.out; omega))
    have y1 : (32 : Int) < (n3 : Nat) := by omega
    clear x3
    skip
    go_enter Try.func71, Try.ntmps71
    go_wp2_with fail
    go_ret
    exact ⟨by rw [HF.out]; rfl, below1 _ _⟩
  have y3 : ¬ (32 : Int) < (n3 : Nat) := by omega
  by_cases x4 : 64 < n4
  · have HF : Hid (L.small = false) := Lib.hid (small_no (by have := N.out; omega))
    have y1 : (64 : Int) < (n4 : Nat) := by omega
    clear x4
    skip
    go_enter Try.func71, Try.ntmps71
    go_wp2_with fail
    go_ret
    exact ⟨by rw [HF.out]; rfl, below1 _ _⟩
  have y4 : ¬ (64 : Int) < (n4 : Nat) := by omega
  have HF : Hid (L.small = true) := Lib.hid (small_yes (by have := N.out; omega) (by have := N.out; omega) (by have := N.out; omega) (by have := N.out; omega))
  clear x1 x2 x3 x4
  skip
  go_enter Try.func71, Try.ntmps71
  go_wp2_with fail
  go_ret
  exact ⟨by rw [HF.out]; rfl, below1 _ _⟩
theorem small_get {L : Lay} (h : L.small = true) : L.se.l.length ≤ 64 ∧ L.po.l.length ≤ 32 ∧ L.sg.l.length ≤ 32 ∧ L.rt.l.length ≤ 64 := of_decide_eq_true h
theorem srcAt_below {w w' : World} {a : Option Addr} {c : Nat} {l : List Value} (h : SrcAt w a c l) (hb : Below w.heap.size w w') : SrcAt w' a c l := ⟨h.1, h.2.1, fun ad had j u hu => cell_later hb (h.2.2 ad had j u hu)⟩
def Lay.all (L : Lay) : List BA := L.n3 ++ L.rt.l.map (·.nm)
theorem all_eq (L : Lay) : L.n3 ++ L.rt.l.map (·.nm) = L.all := rfl
theorem all_len {L : Lay} {n1 n2 n3 n4 : Nat} (h1 : L.se.l.length = n1) (h2 : L.po.l.length = n2) (h3 : L.sg.l.length = n3) (h4 : L.rt.l.length = n4) : L.all.length = n1 + n2 + n3 + n4 := by
  unfold Lay.all Lay.n3 Lay.n2; simp [h1, h2, h3, h4]; omega
theorem flat_one (s : BA) : [s].flatMap strC = [.string s] := rfl
theorem nm_take {α : Type} {pre : List BA} {f : α → BA} {l : List α} {k : Nat} {c : α} (h : l[k]? = some c) : (pre ++ (l.take (k + 1)).map f).flatMap strC = (pre ++ (l.take k).map f).flatMap strC ++ [.string (f c)] := by
  rw [take_names h, ← List.append_assoc, List.flatMap_append, flat_one]
attribute [local irreducible] Lay.n1 Lay.n2 Lay.n3 Lay.all Sl.v strC
set_option maxRecDepth 100000 in
set_option maxHeartbeats 8000000 in
theorem names_is (L : Lay) (w : World) (hL : LayAt w L) (hs : L.small = true) : Calls Try.prog 72 #[.agg #[L.se.v, L.po.v, L.sg.v, L.rt.v]] w fun e w' => ∃ a n c, e = .returned (.slice a n c) ∧ n = L.all.length ∧ SlAt 1 strC w' ⟨a, c, L.all⟩ ∧ Below w.heap.size w w' := by
  have HA := Lib.hid hL
  obtain ⟨n1, hn1⟩ : ∃ n, L.se.l.length = n := ⟨_, rfl⟩
  obtain ⟨n2, hn2⟩ : ∃ n, L.po.l.length = n := ⟨_, rfl⟩
  obtain ⟨n3, hn3⟩ : ∃ n, L.sg.l.length = n := ⟨_, rfl⟩
  obtain ⟨n4, hn4⟩ : ∃ n, L.rt.l.length = n := ⟨_, rfl⟩
  have HXX := Lib.hid (small_get hs)
  rw [hn1, hn2, hn3, hn4] at HXX
  have v1 := slv hn1
  have v2 := slv hn2
  have v3 := slv hn3
  have v4 := slv hn4
  have R2 := Lib.hid hL.po.row
  have R3 := Lib.hid hL.sg.row
  have R4 := Lib.hid hL.rt.row
  have S1 := Lib.hid (src_sl str_len str_one hL.se)
  obtain ⟨a1, ha1⟩ : ∃ a, L.se.a = a := ⟨_, rfl⟩
  obtain ⟨a2, ha2⟩ : ∃ a, L.po.a = a := ⟨_, rfl⟩
  obtain ⟨a3, ha3⟩ : ∃ a, L.sg.a = a := ⟨_, rfl⟩
  obtain ⟨a4, ha4⟩ : ∃ a, L.rt.a = a := ⟨_, rfl⟩
  obtain ⟨c1, hc1⟩ : ∃ c, L.se.c = c := ⟨_, rfl⟩
  obtain ⟨c2, hc2⟩ : ∃ c, L.po.c = c := ⟨_, rfl⟩
  obtain ⟨c3, hc3⟩ : ∃ c, L.sg.c = c := ⟨_, rfl⟩
  obtain ⟨c4, hc4⟩ : ∃ c, L.rt.c = c := ⟨_, rfl⟩
  rw [ha1, hc1] at v1 S1
  rw [ha2, hc2] at v2
  rw [ha3, hc3] at v3
  rw [ha4, hc4] at v4
  rw [ha2] at R2
  rw [ha3] at R3
  rw [ha4] at R4
  rw [v1, v2, v3, v4]
  have N1 := Lib.hid hn1
  have N2 := Lib.hid hn2
  have N3 := Lib.hid hn3
  have N4 := Lib.hid hn4
  clear hn1 hn2 hn3 hn4 ha1 ha2 ha3 ha4 hc1 hc2 hc3 hc4 v1 v2 v3 v4 hL hs
  obtain ⟨gl, hgl⟩ : ∃ g, g = w.heap.size := ⟨_, rfl⟩
  obtain ⟨i0, hi, hz0, hz1, hz2⟩ := info_parts info_str
  have HI := Lib.hid (And.intro hi (And.intro hz0 (And.intro hz1 hz2)))
  clear hi hz0 hz1 hz2
  obtain ⟨W, hW⟩ : ∃ W, W = w.alloc (.cells #[.slice a1 n1 c1, .slice a2 n2 c2, .slice a3 n3 c3, .slice a4 n4 c4] 27) := ⟨_, rfl⟩
  have hBW := below1 w (.cells #[.slice a1 n1 c1, .slice a2 n2 c2, .slice a3 n3 c3, .slice a4 n4 c4] 27)
  have hlay : W.heap[gl]? = some (.cells #[.slice a1 n1 c1, .slice a2 n2 c2, .slice a3 n3 c3, .slice a4 n4 c4] 27) := by rw [hW, hgl]; exact alloc1 w _ (Below.refl _ _)
  rw [← hW] at hBW
  have HBW := Lib.hid hBW
  have HLY := Lib.hid hlay
  have HSS := Lib.hid (srcAt_below S1.out hBW)
  have HW := Lib.hid hW
  have HGL := Lib.hid hgl
  clear hBW hlay hW S1
  go_enter Try.func72, Try.ntmps72
  go_upto_region 1 with fail
  rw [← HW.out, ← hgl]
  clear hgl
  obtain ⟨l0, l1, l2, l3⟩ : W.cell? ⟨gl, 0, none⟩ = some (.slice a1 n1 c1) ∧ W.cell? ⟨gl, 1, none⟩ = some (.slice a2 n2 c2) ∧ W.cell? ⟨gl, 2, none⟩ = some (.slice a3 n3 c3) ∧ W.cell? ⟨gl, 3, none⟩ = some (.slice a4 n4 c4) := ⟨blk_cell HLY.out 0 _ rfl, blk_cell HLY.out 1 _ rfl, blk_cell HLY.out 2 _ rfl, blk_cell HLY.out 3 _ rfl⟩
  go_wp2_with (at_builtin; refine wpList_append_src rfl _ _ 22 rfl W.heap.size 9 i0 (.string ⟨#[]⟩) 1 16 Try.underlying22 HI.out.1 HI.out.2.1 HI.out.2.2.1 HI.out.2.2.2 rfl (by decide) (.slice none 0 0) 0 [] rfl (World.ownsRow_nil _ _ _ _) a1 n1 c1 (L.se.l.flatMap strC) rfl (by rw [flat_len str_len, N1.out]) HSS.out (by have := HXX.out; unfold maxLen; omega) (by have := HXX.out; omega) (Nat.le_refl _) ?_; intro v4 W4 hown4 hg4; have hB4 : Below W.heap.size W W4 := (Below.refl _ W).grown hg4 (Nat.le_refl _) (fun k hk => by cases hk); rw [List.nil_append, Nat.zero_add] at hown4; have HO := Lib.hid hown4; have HB := Lib.hid hB4; clear hown4 hg4 hB4 l0 l1 l2 l3)
  rw [n1_eq] at HO
  go_wp2_with fail
  go_loopg [3, 4] n2 (fun g v i wr => ∃ k : Nat, k + g = n2 ∧ i = .int .i64 (k : Int) ∧ wr.ownsRow W.heap.size 9 1 v (n1 + k) ((L.n1 ++ (L.po.l.take k).map (·.1)).flatMap strC) ∧ Below W.heap.size W wr)
  case atStart => exact ⟨0, by omega, rfl, by rw [List.take_zero, List.map_nil, List.append_nil]; exact HO.out, HB.out⟩
  case round =>
    obtain ⟨k, hk, rfl, hO, hbw⟩ := hrel
    clear HO HB
    have HB := Lib.hid hbw
    have HO := Lib.hid hO
    clear hbw hO
    obtain ⟨l0, l1, l2, l3⟩ : wr.cell? ⟨gl, 0, none⟩ = some (.slice a1 n1 c1) ∧ wr.cell? ⟨gl, 1, none⟩ = some (.slice a2 n2 c2) ∧ wr.cell? ⟨gl, 2, none⟩ = some (.slice a3 n3 c3) ∧ wr.cell? ⟨gl, 3, none⟩ = some (.slice a4 n4 c4) := by
      have q := blk_keep HB.out HLY.out
      exact ⟨blk_cell q 0 _ rfl, blk_cell q 1 _ rfl, blk_cell q 2 _ rfl, blk_cell q 3 _ rfl⟩
    by_cases hlt : k < n2
    · obtain ⟨y, hy⟩ : ∃ y, L.po.l[k]? = some y := ⟨_, List.getElem?_eq_getElem (by rw [N2.out]; exact hlt)⟩
      rcases R2.out.below (below_on HBW.out HB.out) with hnil | ⟨xb, off, rfl, hc⟩
      · rw [hnil] at hy; simp at hy
      obtain ⟨z, hz⟩ : ∃ z, y.1 = z := ⟨_, rfl⟩
      have z0 := hc k _ hy 0 (.string z) (by rw [← hz]; rfl)
      rw [Nat.add_zero] at z0
      have HY := Lib.hid hy
      have HZ := Lib.hid hz
      have d1 : (0 : Int) ≤ k := by omega
      have d2 : (k : Int) < n2 := by omega
      have e1 : wrap64 ((k : Int) + 1) = (k : Int) + 1 := by have := HXX.out; unfold wrap64; omega
      have HK := Lib.hid hk
      have HOW := Lib.hid (own_below (below1 wr (Obj.cells #[.string z] 9)) HO.out)
      have HSR := Lib.hid (src_one (u := .string z) rfl (alloc1 wr (Obj.cells #[.string z] 9) (Below.refl _ _)))
      clear hc hy hk hz
      go_wp2_with (at_builtin; refine wpList_append_src rfl _ _ 22 rfl W.heap.size 9 i0 (.string ⟨#[]⟩) 1 16 Try.underlying22 HI.out.1 HI.out.2.1 HI.out.2.2.1 HI.out.2.2.2 rfl (by decide) _ (n1 + k) ((L.n1 ++ (L.po.l.take k).map (·.1)).flatMap strC) rfl HOW.out (some ⟨wr.heap.size, 0, none⟩) 1 1 [.string z] rfl rfl HSR.out (by have := HXX.out; have := HK.out; unfold maxLen; omega) (by have := HXX.out; have := HK.out; omega) (by have := HB.out.size; simp; omega) ?_; intro v5 W5 hown5 hg5)
      have hB7 : Below W.heap.size W W5 := (HB.out.alloc HB.out.size _).grown hg5 (by have := HB.out.size; simp; omega) (fun k hk => (HOW.out.lt _ hk).1)
      go_roundg (n2 - (k + 1))
      case rel => exact ⟨k + 1, by have := HK.out; omega, by go_num, by rw [nm_take HY.out, HZ.out]; exact hown5, hB7⟩
      case measure => have := HK.out; omega
    · have hkn : n2 = k := by omega
      subst hkn
      have hfull : L.po.l.take n2 = L.po.l := List.take_of_length_le (by rw [N2.out]; exact Nat.le_refl _)
      rw [hfull, n2_eq] at HO
      clear hfull
      obtain ⟨wq2, hwq⟩ : ∃ W, W = wr := ⟨_, rfl⟩
      rw [← hwq] at HO HB l0 l1 l2 l3 ⊢
      clear hwq
      go_wp2_with fail
      go_loopg [3, 5] n3 (fun g v i wr => ∃ k : Nat, k + g = n3 ∧ i = .int .i64 (k : Int) ∧ wr.ownsRow W.heap.size 9 1 v ((n1 + n2) + k) ((L.n2 ++ (L.sg.l.take k).map (·.1)).flatMap strC) ∧ Below W.heap.size W wr)
      case atStart => exact ⟨0, by omega, rfl, by rw [List.take_zero, List.map_nil, List.append_nil]; exact HO.out, HB.out⟩
      case round =>
        obtain ⟨k, hk, rfl, hO, hbw⟩ := hrel
        clear HO HB
        have HB := Lib.hid hbw
        have HO := Lib.hid hO
        clear hbw hO
        obtain ⟨l0, l1, l2, l3⟩ : wr.cell? ⟨gl, 0, none⟩ = some (.slice a1 n1 c1) ∧ wr.cell? ⟨gl, 1, none⟩ = some (.slice a2 n2 c2) ∧ wr.cell? ⟨gl, 2, none⟩ = some (.slice a3 n3 c3) ∧ wr.cell? ⟨gl, 3, none⟩ = some (.slice a4 n4 c4) := by
          have q := blk_keep HB.out HLY.out
          exact ⟨blk_cell q 0 _ rfl, blk_cell q 1 _ rfl, blk_cell q 2 _ rfl, blk_cell q 3 _ rfl⟩
        by_cases hlt : k < n3
        · obtain ⟨y, hy⟩ : ∃ y, L.sg.l[k]? = some y := ⟨_, List.getElem?_eq_getElem (by rw [N3.out]; exact hlt)⟩
          rcases R3.out.below (below_on HBW.out HB.out) with hnil | ⟨xb, off, rfl, hc⟩
          · rw [hnil] at hy; simp at hy
          obtain ⟨z, hz⟩ : ∃ z, y.1 = z := ⟨_, rfl⟩
          have z0 := hc k _ hy 0 (.string z) (by rw [← hz]; rfl)
          rw [Nat.add_zero] at z0
          have HY := Lib.hid hy
          have HZ := Lib.hid hz
          have d1 : (0 : Int) ≤ k := by omega
          have d2 : (k : Int) < n3 := by omega
          have e1 : wrap64 ((k : Int) + 1) = (k : Int) + 1 := by have := HXX.out; unfold wrap64; omega
          have HK := Lib.hid hk
          have HOW := Lib.hid (own_below (below1 wr (Obj.cells #[.string z] 9)) HO.out)
          have HSR := Lib.hid (src_one (u := .string z) rfl (alloc1 wr (Obj.cells #[.string z] 9) (Below.refl _ _)))
          clear hc hy hk hz
          go_wp2_with (at_builtin; refine wpList_append_src rfl _ _ 22 rfl W.heap.size 9 i0 (.string ⟨#[]⟩) 1 16 Try.underlying22 HI.out.1 HI.out.2.1 HI.out.2.2.1 HI.out.2.2.2 rfl (by decide) _ ((n1 + n2) + k) ((L.n2 ++ (L.sg.l.take k).map (·.1)).flatMap strC) rfl HOW.out (some ⟨wr.heap.size, 0, none⟩) 1 1 [.string z] rfl rfl HSR.out (by have := HXX.out; have := HK.out; unfold maxLen; omega) (by have := HXX.out; have := HK.out; omega) (by have := HB.out.size; simp; omega) ?_; intro v5 W5 hown5 hg5)
          have hB7 : Below W.heap.size W W5 := (HB.out.alloc HB.out.size _).grown hg5 (by have := HB.out.size; simp; omega) (fun k hk => (HOW.out.lt _ hk).1)
          go_roundg (n3 - (k + 1))
          case rel => exact ⟨k + 1, by have := HK.out; omega, by go_num, by rw [nm_take HY.out, HZ.out]; exact hown5, hB7⟩
          case measure => have := HK.out; omega
        · have hkn : n3 = k := by omega
          subst hkn
          have hfull : L.sg.l.take n3 = L.sg.l := List.take_of_length_le (by rw [N3.out]; exact Nat.le_refl _)
          rw [hfull, n3_eq] at HO
          clear hfull
          obtain ⟨wq3, hwq⟩ : ∃ W, W = wr := ⟨_, rfl⟩
          rw [← hwq] at HO HB l0 l1 l2 l3 ⊢
          clear hwq
          go_wp2_with fail
          go_loopg [3, 6] n4 (fun g v i wr => ∃ k : Nat, k + g = n4 ∧ i = .int .i64 (k : Int) ∧ wr.ownsRow W.heap.size 9 1 v ((n1 + n2 + n3) + k) ((L.n3 ++ (L.rt.l.take k).map (·.nm)).flatMap strC) ∧ Below W.heap.size W wr)
          case atStart => exact ⟨0, by omega, rfl, by rw [List.take_zero, List.map_nil, List.append_nil]; exact HO.out, HB.out⟩
          case round =>
            obtain ⟨k, hk, rfl, hO, hbw⟩ := hrel
            clear HO HB
            have HB := Lib.hid hbw
            have HO := Lib.hid hO
            clear hbw hO
            obtain ⟨l0, l1, l2, l3⟩ : wr.cell? ⟨gl, 0, none⟩ = some (.slice a1 n1 c1) ∧ wr.cell? ⟨gl, 1, none⟩ = some (.slice a2 n2 c2) ∧ wr.cell? ⟨gl, 2, none⟩ = some (.slice a3 n3 c3) ∧ wr.cell? ⟨gl, 3, none⟩ = some (.slice a4 n4 c4) := by
              have q := blk_keep HB.out HLY.out
              exact ⟨blk_cell q 0 _ rfl, blk_cell q 1 _ rfl, blk_cell q 2 _ rfl, blk_cell q 3 _ rfl⟩
            by_cases hlt : k < n4
            · obtain ⟨y, hy⟩ : ∃ y, L.rt.l[k]? = some y := ⟨_, List.getElem?_eq_getElem (by rw [N4.out]; exact hlt)⟩
              rcases R4.out.below (below_on HBW.out HB.out) with hnil | ⟨xb, off, rfl, hc⟩
              · rw [hnil] at hy; simp at hy
              obtain ⟨z, hz⟩ : ∃ z, y.nm = z := ⟨_, rfl⟩
              have z0 := hc k _ hy 0 (.string z) (by rw [← hz]; rfl)
              rw [Nat.add_zero] at z0
              have HY := Lib.hid hy
              have HZ := Lib.hid hz
              have d1 : (0 : Int) ≤ k := by omega
              have d2 : (k : Int) < n4 := by omega
              have e1 : wrap64 ((k : Int) + 1) = (k : Int) + 1 := by have := HXX.out; unfold wrap64; omega
              have HK := Lib.hid hk
              have HOW := Lib.hid (own_below (below1 wr (Obj.cells #[.string z] 9)) HO.out)
              have HSR := Lib.hid (src_one (u := .string z) rfl (alloc1 wr (Obj.cells #[.string z] 9) (Below.refl _ _)))
              clear hc hy hk hz
              go_wp2_with (at_builtin; refine wpList_append_src rfl _ _ 22 rfl W.heap.size 9 i0 (.string ⟨#[]⟩) 1 16 Try.underlying22 HI.out.1 HI.out.2.1 HI.out.2.2.1 HI.out.2.2.2 rfl (by decide) _ ((n1 + n2 + n3) + k) ((L.n3 ++ (L.rt.l.take k).map (·.nm)).flatMap strC) rfl HOW.out (some ⟨wr.heap.size, 0, none⟩) 1 1 [.string z] rfl rfl HSR.out (by have := HXX.out; have := HK.out; unfold maxLen; omega) (by have := HXX.out; have := HK.out; omega) (by have := HB.out.size; simp; omega) ?_; intro v5 W5 hown5 hg5)
              have hB7 : Below W.heap.size W W5 := (HB.out.alloc HB.out.size _).grown hg5 (by have := HB.out.size; simp; omega) (fun k hk => (HOW.out.lt _ hk).1)
              go_roundg (n4 - (k + 1))
              case rel => exact ⟨k + 1, by have := HK.out; omega, by go_num, by rw [nm_take HY.out, HZ.out]; exact hown5, hB7⟩
              case measure => have := HK.out; omega
            · have hkn : n4 = k := by omega
              subst hkn
              have hfull : L.rt.l.take n4 = L.rt.l := List.take_of_length_le (by rw [N4.out]; exact Nat.le_refl _)
              rw [hfull, all_eq] at HO
              clear hfull
              obtain ⟨wq4, hwq⟩ : ∃ W, W = wr := ⟨_, rfl⟩
              rw [← hwq] at HO HB l0 l1 l2 l3 ⊢
              clear hwq
              have hlen : L.all.length = n1 + n2 + n3 + n4 := all_len N1.out N2.out N3.out N4.out
              obtain ⟨a, c, rfl, hS⟩ := own_sl str_len hlen HO.out
              have HS := Lib.hid hS
              have HLN := Lib.hid hlen
              clear hS hlen
              go_wp2_with fail
              go_ret
              exact ⟨a, _, c, rfl, HLN.out.symm, HS.out, below_on HBW.out HB.out⟩
end Go.Proofs.Ytjienmjpfklgeaa
