/-
  Chapter 26: a switch, plainly; what its block holds.
-/
import Derived.Test.YtoedipajcmmhjaaLeaseTake
import Derived.Test.YtoedipajcmmhjaaObj
import Derived.Test.YtoedipajcmmhjaaCalm
namespace Go.Proofs.Ytoedipajcmmhjaa
open Go.RowKit

/-- a pair's switch -/
structure Sw where
  p : Int
  ge : Int
  gu : Int
  ac : Bool
  kn : Int
  qu : Int
def rol (b : Bool) : Int := if b then 1 else 0
/-- block g holds the switch s -/
def SwAt (w : World) (g : Nat) (s : Sw) : Prop := w.heap[g]? = some (.cells #[.int .i64 s.p, .int .i64 s.ge, .int .i64 s.gu, .int .u8 (rol s.ac), .int .i64 s.kn, .int .i64 s.qu] 51)
theorem SwAt.below {w w' : World} {g : Nat} {s : Sw} (h : SwAt w g s) (hb : Below w.heap.size w w') : SwAt w' g s := blk_keep hb h
theorem SwAt.only {w w' : World} {g k : Nat} {s : Sw} (h : SwAt w g s) (ho : Only k w w') (hk : g ≠ k) : SwAt w' g s := ho.keep hk h
structure Sw.ok (s : Sw) : Prop where
  e1 : 0 ≤ s.ge
  e2 : s.ge ≤ 1099511627784
  u1 : 0 ≤ s.gu
  u2 : s.gu ≤ 1099511627784
  q1 : 0 ≤ s.qu
  q2 : s.qu ≤ 4
  k1 : 0 ≤ s.kn
  k2 : s.kn ≤ 1099511627776
/-- a time that may be -/
def tm (t : Int) : Int := if t < 0 then 1099511627776 else min t 1099511627776
theorem tm_bounds (t : Int) : 0 ≤ tm t ∧ tm t ≤ 1099511627776 := by unfold tm; split <;> omega
def Sw.back (s : Sw) : Sw := { s with ac := false, qu := 0 }
def leadR (s : Sw) (t : Int) : Sw × Int := if holdsB s.ge s.gu t = false then (s.back, 3) else if s.gu - t ≤ 4 then (s, 2) else (s, 0)
def standR (s : Sw) : Sw × Int := if s.qu < 4 then ({ s with qu := s.qu + 1 }, 0) else ({ s with qu := 0 }, 1)
def tickR (s : Sw) (t : Int) : Sw × Int := if s.ac then leadR s (tm t) else standR s
def grantR (s : Sw) (a b : Int) : Sw × Int :=
  if a < 1 ∨ 1099511627776 < a then (s, 2) else
  if (takeR s.ge s.gu a b).er ≠ 0 then (s, (takeR s.ge s.gu a b).er) else
  if a = s.ge ∧ s.ac = false then (s, 4) else if a < s.kn then (s, 230) else
  (⟨s.p, (takeR s.ge s.gu a b).ge, (takeR s.ge s.gu a b).gu, true, a, 0⟩, 0)
def refR (s : Sw) : Sw × Int := if s.ac then (s.back, 3) else (s, 0)
def beatR (s : Sw) (e : Int) : Sw × Int :=
  if e < 1 ∨ 1099511627776 < e ∨ e < s.kn then (s, 0) else
  if s.ac = false then ({ s with kn := e, qu := 0 }, 0) else if s.ge < e then (({ s with kn := e } : Sw).back, 3) else ({ s with kn := e }, 0)
def holdR (s : Sw) (t : Int) : Bool := s.ac && holdsB s.ge s.gu (tm t)
end Go.Proofs.Ytoedipajcmmhjaa
