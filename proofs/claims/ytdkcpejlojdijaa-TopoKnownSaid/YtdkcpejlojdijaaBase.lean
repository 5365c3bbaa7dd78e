/-
  Small facts that all walks of this seat share; no program in sight.
-/
import Derived.WalkKit
import Derived.WalkSpells
import Derived.WalkLawsBesides
import Derived.Outline
import Derived.Lib.Hide
import Derived.OpenShut
namespace Go.Proofs.Ytdkcpejlojdijaa
open Go.RowKit

theorem ret_u32 {a b : Int} (h : a = b) : Ending.returned (.int .u32 a) = .returned (.int .u32 b) := by rw [h]
theorem int_eq {k : IntKind} {a b : Int} (h : a = b) : Value.int k a = Value.int k b := by rw [h]
theorem ret_bool {a b : Bool} (h : a = b) : Ending.returned (.bool a) = .returned (.bool b) := by rw [h]

/-- a row of bytes that lies in memory from 'a' on; of no bytes nothing is asked -/
def BytesAt (w : World) (a : Option Addr) (l : List Nat) : Prop :=
  (∀ c ∈ l, c < 256) ∧ (l = [] ∨ ∃ b off, a = some ⟨b, off, none⟩ ∧ ∀ i, i < l.length → w.cell? ⟨b, off + i, none⟩ = some (.int .u8 ((l.getD i 0 : Nat) : Int)))

/-- what the walk is told of a slice of integers that came in: it is nil; or it leads to a row of 'cap' cells, the numbers 'zs' (the first 'len' are its elements, the rest its spare room), each fitting its kind -/
def IsRow (k : IntKind) (w : World) (a : Option Addr) (len cap : Nat) (zs : List Int) : Prop :=
  (a = none ∧ len = 0 ∧ cap = 0 ∧ zs = []) ∨
  ∃ x, a = some x ∧ len ≤ cap ∧ cap ≤ maxLen ∧ zs.length = cap ∧ (∀ i, i < zs.length → w.cell? (x.add i) = some (.int k (zs.getD i 0))) ∧ ∀ n ∈ zs, (Lit.int k n).wf = true

theorem IsRow.capNil {k : IntKind} {w : World} {a : Option Addr} {len cap : Nat} {zs : List Int} (h : IsRow k w a len cap zs) : a = none → cap = 0 := by
  rintro rfl
  rcases h with ⟨_, _, h, _⟩ | ⟨x, h, _⟩
  · exact h
  · cases h
theorem IsRow.cap {k : IntKind} {w : World} {a : Option Addr} {len cap : Nat} {zs : List Int} (h : IsRow k w a len cap zs) : len ≤ cap ∧ cap ≤ maxLen := by
  rcases h with ⟨_, rfl, rfl, _⟩ | ⟨x, _, h1, h2, _⟩
  · exact ⟨Nat.le_refl _, Nat.zero_le _⟩
  · exact ⟨h1, h2⟩
theorem IsRow.bytes {w : World} {a : Option Addr} {len cap : Nat} {zs : List Int} (h : IsRow .u8 w a len cap zs) : ∃ l : List Nat, l.length = len ∧ len ≤ maxLen ∧ BytesAt w a l := by
  rcases h with ⟨rfl, rfl, rfl, rfl⟩ | ⟨x, rfl, hl, hm, hz, hcell, hwz⟩
  · exact ⟨[], rfl, Nat.zero_le _, by simp, .inl rfl⟩
  · refine ⟨(zs.take len).map Int.toNat, by simp; omega, Nat.le_trans hl hm, ?_, ?_⟩
    · intro c hc
      obtain ⟨z, hz1, rfl⟩ := List.mem_map.1 hc
      have := bounds_u8 (hwz z (List.mem_of_mem_take hz1))
      omega
    · rcases Nat.eq_zero_or_pos len with rfl | hpos
      · left; simp
      · right
        obtain ⟨b, off, spot⟩ := x
        have h0 := hcell 0 (by omega)
        have hs : spot = none := by simpa [Addr.add] using World.cell?_spot h0
        subst hs
        refine ⟨b, off, rfl, fun i hi => ?_⟩
        have hi' : i < len := by simpa [hz, Nat.min_eq_left hl] using hi
        have hci := hcell i (by omega)
        have hb := bounds_u8 (hwz (zs.getD i 0) (by rw [List.getD_eq_getElem?_getD, List.getElem?_eq_getElem (show i < zs.length by omega)]; exact List.getElem_mem _))
        have e : ((zs.take len).map Int.toNat).getD i 0 = (zs.getD i 0).toNat := by
          simp [List.getD_eq_getElem?_getD, hi', show i < zs.length by omega]
        rw [e, show ((zs.getD i 0).toNat : Int) = zs.getD i 0 by omega]
        rw [Addr.add_lit] at hci
        exact hci

/-- as BytesAt, of whatever kind of unsigned numbers below B -/
def NatsAt (k : IntKind) (B : Nat) (w : World) (a : Option Addr) (l : List Nat) : Prop :=
  (∀ c ∈ l, c < B) ∧ (l = [] ∨ ∃ b off, a = some ⟨b, off, none⟩ ∧ ∀ i, i < l.length → w.cell? ⟨b, off + i, none⟩ = some (.int k ((l.getD i 0 : Nat) : Int)))
theorem IsRow.nats {k : IntKind} {B : Nat} (hk : ∀ n, (Lit.int k n).wf = true → 0 ≤ n ∧ n < (B : Int)) {w : World} {a : Option Addr} {len cap : Nat} {zs : List Int} (h : IsRow k w a len cap zs) :
    ∃ l : List Nat, l.length = len ∧ len ≤ maxLen ∧ NatsAt k B w a l := by
  rcases h with ⟨rfl, rfl, rfl, rfl⟩ | ⟨x, rfl, hl, hm, hz, hcell, hwz⟩
  · exact ⟨[], rfl, Nat.zero_le _, by simp, .inl rfl⟩
  · refine ⟨(zs.take len).map Int.toNat, by simp; omega, Nat.le_trans hl hm, ?_, ?_⟩
    · intro c hc
      obtain ⟨z, hz1, rfl⟩ := List.mem_map.1 hc
      have := hk z (hwz z (List.mem_of_mem_take hz1))
      omega
    · rcases Nat.eq_zero_or_pos len with rfl | hpos
      · left; simp
      · right
        obtain ⟨b, off, spot⟩ := x
        have h0 := hcell 0 (by omega)
        have hs : spot = none := by simpa [Addr.add] using World.cell?_spot h0
        subst hs
        refine ⟨b, off, rfl, fun i hi => ?_⟩
        have hi' : i < len := by simpa [hz, Nat.min_eq_left hl] using hi
        have hci := hcell i (by omega)
        have hb := hk _ (hwz (zs.getD i 0) (by rw [List.getD_eq_getElem?_getD, List.getElem?_eq_getElem (show i < zs.length by omega)]; exact List.getElem_mem _))
        have e : ((zs.take len).map Int.toNat).getD i 0 = (zs.getD i 0).toNat := by
          simp [List.getD_eq_getElem?_getD, hi', show i < zs.length by omega]
        rw [e, show ((zs.getD i 0).toNat : Int) = zs.getD i 0 by omega]
        rw [Addr.add_lit] at hci
        exact hci
theorem BytesAt.nats {w : World} {a : Option Addr} {l : List Nat} (h : BytesAt w a l) : NatsAt .u8 256 w a l := h
theorem BytesAt.take {w : World} {a : Option Addr} {l : List Nat} (h : BytesAt w a l) (n : Nat) : BytesAt w a (l.take n) := by
  refine ⟨fun c hc => h.1 c (List.mem_of_mem_take hc), ?_⟩
  rcases h.2 with rfl | ⟨b, off, rfl, hc⟩
  · left; simp
  · right
    refine ⟨b, off, rfl, fun i hi => ?_⟩
    have hi2 : i < n ∧ i < l.length := by rw [List.length_take] at hi; omega
    rw [hc i hi2.2]
    simp [List.getD_eq_getElem?_getD, hi2.1]
theorem NatsAt.below {k : IntKind} {B : Nat} {w w' : World} {a : Option Addr} {l : List Nat} (hb : Below w.heap.size w w') (h : NatsAt k B w a l) : NatsAt k B w' a l := by
  refine ⟨h.1, h.2.imp id ?_⟩
  rintro ⟨b, off, rfl, hc⟩
  exact ⟨b, off, rfl, fun i hi => cell_later hb (hc i hi)⟩
theorem NatsAt.at {k : IntKind} {B : Nat} {w : World} {a : Option Addr} {l : List Nat} (h : NatsAt k B w a l) {i : Nat} (hi : i < l.length) :
    ∃ b off c, a = some ⟨b, off, none⟩ ∧ l[i]? = some c ∧ c < B ∧ w.cell? ⟨b, off + i, none⟩ = some (.int k (c : Int)) := by
  obtain ⟨b, off, rfl, hc⟩ := h.2.resolve_left (by rintro rfl; simp at hi)
  refine ⟨b, off, l[i], rfl, List.getElem?_eq_getElem hi, h.1 _ (List.getElem_mem hi), ?_⟩
  rw [hc i hi, List.getD_eq_getElem?_getD, List.getElem?_eq_getElem hi]; rfl

theorem getD_lt {l : List Nat} (h : ∀ c ∈ l, c < 256) (i : Nat) : l.getD i 0 < 256 := by
  rw [List.getD_eq_getElem?_getD]
  rcases Nat.lt_or_ge i l.length with hi | hi
  · rw [List.getElem?_eq_getElem hi]; exact h _ (List.getElem_mem hi)
  · rw [List.getElem?_eq_none hi]; simp
theorem take_succ_getD (l : List Nat) (k : Nat) (h : k < l.length) : l.take (k + 1) = l.take k ++ [l.getD k 0] := by
  rw [List.take_succ_eq_append_getElem h, List.getD_eq_getElem?_getD, List.getElem?_eq_getElem h]; rfl

theorem BytesAt.below {w w' : World} {a : Option Addr} {l : List Nat} (hb : Below w.heap.size w w') (h : BytesAt w a l) : BytesAt w' a l := by
  refine ⟨h.1, h.2.imp id ?_⟩
  rintro ⟨b, off, rfl, hc⟩
  exact ⟨b, off, rfl, fun i hi => cell_later hb (hc i hi)⟩
theorem below_next {a b c : World} {B : Nat} (h : Below B a b) (hB : B ≤ b.heap.size) (k : Below b.heap.size b c) : Below B a c := h.trans (k.mono hB)
theorem below_on {a b c : World} (h : Below a.heap.size a b) (k : Below b.heap.size b c) : Below a.heap.size a c := h.trans (k.mono h.size)
theorem below_grown {w w' : World} (h : Below w.heap.size w w') : w.grownBy w' none := ⟨h.os, h.tape, h.output, h.size, fun k hk _ => h.block k hk⟩
theorem own_below {w w' : World} {base : Nat} {e : TypeId} {size : Nat} {v : Value} {n : Nat} {xs : List Value} (hb : Below w.heap.size w w') (h : w.ownsRow base e size v n xs) : w'.ownsRow base e size v n xs :=
  h.kept (below_grown hb) (by cases hv : v.ownBlock <;> simp)
theorem ofInt64_nat (a : Nat) (ha : a < 9223372036854775808) : (BitVec.ofInt 64 (a : Int)).toNat = a := by
  rw [BitVec.ofInt_natCast, BitVec.toNat_ofNat]; exact Nat.mod_eq_of_lt (by omega)
theorem i64_and_nat (a b : Nat) (ha : a < 9223372036854775808) (hb : b < 9223372036854775808) : bits .and .i64 (a : Int) (b : Int) = ((a &&& b : Nat) : Int) := by
  have hx : a &&& b ≤ a := Nat.and_le_left
  show IntKind.i64.wrap ((BitVec.ofInt 64 (a : Int) &&& BitVec.ofInt 64 (b : Int)).toNat : Int) = _
  rw [BitVec.toNat_and, ofInt64_nat a ha, ofInt64_nat b hb, IntKind.wrap_i64]
  omega
theorem mod256 {q : Nat} (h : q < 256) : (q : Int) % 256 = q := by omega
theorem two_new (w : World) (A B : Obj) : ((w.alloc A).alloc B).drew.heap[w.heap.size]? = some A ∧ ((w.alloc A).alloc B).drew.heap[w.heap.size + 1]? = some B := by
  constructor
  · show ((w.heap.push A).push B)[w.heap.size]? = some A
    simp [Array.getElem?_push]
  · show ((w.heap.push A).push B)[w.heap.size + 1]? = some B
    rw [Array.getElem?_push, if_pos (by simp)]
theorem alloc4 (w : World) (A B C D : Obj) {w1 : World} (hb : Below ((((w.alloc A).alloc B).alloc C).alloc D).heap.size ((((w.alloc A).alloc B).alloc C).alloc D) w1) :
    w1.heap[w.heap.size]? = some A ∧ w1.heap[w.heap.size + 1]? = some B ∧ w1.heap[w.heap.size + 1 + 1]? = some C ∧ w1.heap[w.heap.size + 1 + 1 + 1]? = some D := by
  have h : ∀ k, k < w.heap.size + 4 → w1.heap[k]? = ((((w.heap.push A).push B).push C).push D)[k]? := fun k hk => hb.block k (by simp; omega)
  refine ⟨?_, ?_, ?_, ?_⟩
  · rw [h _ (by omega)]; simp only [Array.getElem?_push, Array.size_push]; rw [if_neg (by omega), if_neg (by omega), if_neg (by omega), if_pos trivial]
  · rw [h _ (by omega)]; simp only [Array.getElem?_push, Array.size_push]; rw [if_neg (by omega), if_neg (by omega), if_pos trivial]
  · rw [h _ (by omega)]; simp only [Array.getElem?_push, Array.size_push]; rw [if_neg (by omega), if_pos trivial]
  · rw [h _ (by omega)]; simp only [Array.getElem?_push, Array.size_push]; rw [if_pos trivial]
theorem below4 (w : World) (A B C D : Obj) : Below w.heap.size w ((((w.alloc A).alloc B).alloc C).alloc D) :=
  ((((Below.refl _ _).alloc (Nat.le_refl _) _).alloc (by simp) _).alloc (by simp; omega) _).alloc (by simp; omega) _
theorem blk_keep {w w' : World} {g : Nat} {o : Obj} (hb : Below w.heap.size w w') (h : w.heap[g]? = some o) : w'.heap[g]? = some o := by
  have hg : g < w.heap.size := (Array.getElem?_eq_some_iff.1 h).1
  rw [hb.block g hg, h]
theorem blk_cell {w : World} {g : Nat} {cs : Array Value} {t : TypeId} {fr : Nat × Nat} (h : w.heap[g]? = some (.cells cs t fr)) (i : Nat) (v : Value) (hi : cs[i]? = some v) : w.cell? ⟨g, i, none⟩ = some v := by simp [World.cell?, h, hi]
theorem blk_free {w : World} {g : Nat} {cs : Array Value} {t : TypeId} (h : w.heap[g]? = some (.cells cs t (0, 0))) (i : Nat) : w.frozen? ⟨g, i, none⟩ = false := by simp [World.frozen?, h]
theorem alloc2n (w : World) (A B : Obj) (n : Nat) : (((w.alloc A).alloc B).drewN n).heap[w.heap.size]? = some A ∧ (((w.alloc A).alloc B).drewN n).heap[w.heap.size + 1]? = some B := by
  constructor
  · show ((w.heap.push A).push B)[w.heap.size]? = some A
    simp [Array.getElem?_push]
  · show ((w.heap.push A).push B)[w.heap.size + 1]? = some B
    rw [Array.getElem?_push, if_pos (by simp)]
theorem below2' (w : World) (A B : Obj) : Below w.heap.size w ((w.alloc A).alloc B) := ((Below.refl _ _).alloc (Nat.le_refl _) _).alloc (by simp) _
theorem below2 (w : World) (A B : Obj) : Below w.heap.size w ((w.alloc A).alloc B).drew := (((Below.refl _ _).alloc (Nat.le_refl _) _).alloc (by simp) _).drew
/-- a row of bytes in block g that may be written -/
def Mine (w : World) (g : Nat) (l : List Nat) : Prop :=
  (∀ c ∈ l, c < 256) ∧ (∀ i, i < l.length → w.cell? ⟨g, i, none⟩ = some (.int .u8 ((l.getD i 0 : Nat) : Int))) ∧ ∀ i, i < l.length → w.frozen? ⟨g, i, none⟩ = false
theorem Mine.bytes {w : World} {g : Nat} {l : List Nat} (h : Mine w g l) : BytesAt w (some ⟨g, 0, none⟩) l :=
  ⟨h.1, .inr ⟨g, 0, rfl, fun i hi => by rw [Nat.zero_add]; exact h.2.1 i hi⟩⟩
theorem Mine.below {w w' : World} {g : Nat} {l : List Nat} (hb : Below w.heap.size w w') (h : Mine w g l) : Mine w' g l := by
  refine ⟨h.1, fun i hi => cell_later hb (h.2.1 i hi), fun i hi => ?_⟩
  have hlt : g < w.heap.size := World.block_lt_of_cell? _ ⟨g, i, none⟩ (h.2.1 i hi)
  rw [hb.frozen (p := ⟨g, i, none⟩) hlt]
  exact h.2.2 i hi
theorem Mine.store {w : World} {g : Nat} {l : List Nat} (h : Mine w g l) {k v : Nat} (hk : k < l.length) (hv : v < 256) : Mine (w.setCell ⟨g, k, none⟩ (.int .u8 (v : Int))) g (l.set k v) := by
  refine ⟨?_, fun i hi => ?_, fun i hi => ?_⟩
  · intro c hc
    rcases List.mem_or_eq_of_mem_set hc with hc | rfl
    · exact h.1 c hc
    · exact hv
  · rw [List.length_set] at hi
    by_cases hik : i = k
    · subst hik
      rw [World.cell?_setCell_same _ _ _ (h.2.1 i hi)]
      simp [List.getD_eq_getElem?_getD, hi]
    · rw [World.cell?_setCell_other _ _ _ _ (by intro h; cases h; exact hik rfl), h.2.1 i hi]
      simp [List.getD_eq_getElem?_getD, List.getElem?_set_ne (show k ≠ i by omega)]
  · rw [List.length_set] at hi
    rw [World.frozen?_setCell]; exact h.2.2 i hi
theorem Mine.other {w : World} {g h : Nat} {l : List Nat} (hm : Mine w g l) (hne : h ≠ g) (k : Nat) (v : Value) : Mine (w.setCell ⟨h, k, none⟩ v) g l :=
  ⟨hm.1, fun i hi => by rw [World.cell?_setCell_other _ _ _ _ (by intro e; cases e; exact hne rfl)]; exact hm.2.1 i hi, fun i hi => by rw [World.frozen?_setCell]; exact hm.2.2 i hi⟩
theorem Mine.below_at {B : Nat} {w w' : World} {g : Nat} {l : List Nat} (hb : Below B w w') (hg : g < B) (h : Mine w g l) : Mine w' g l :=
  ⟨h.1, fun i hi => by rw [hb.cell (p := ⟨g, i, none⟩) hg]; exact h.2.1 i hi, fun i hi => by rw [hb.frozen (p := ⟨g, i, none⟩) hg]; exact h.2.2 i hi⟩
theorem Mine.lt {w : World} {g : Nat} {l : List Nat} (h : Mine w g l) (hpos : 0 < l.length) : g < w.heap.size := World.block_lt_of_cell? _ ⟨g, 0, none⟩ (h.2.1 0 hpos)
theorem Mine.drewN {w : World} {g : Nat} {l : List Nat} (h : Mine w g l) (n : Nat) : Mine (w.drewN n) g l := h
theorem Mine.drew {w : World} {g : Nat} {l : List Nat} (h : Mine w g l) : Mine w.drew g l := h
theorem below1 (w : World) (o : Obj) : Below w.heap.size w (w.alloc o) := (Below.refl _ _).alloc (Nat.le_refl _) o
end Go.Proofs.Ytdkcpejlojdijaa
