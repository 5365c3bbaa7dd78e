/-
 Layer 29: rows of inputs and outputs; the first cycle that is wrong, plainly.
-/
import Derived.Test.YthnpekbmaapgnaaSaO
namespace Go.Proofs.Ythnpekbmaapgnaa
open Go.RowKit
set_option maxRecDepth 100000
structure Ip where
 o : Nat
 n : Nat
 r : Nat
 a : Option Addr
 len : Nat
 cap : Nat
structure Op where
 p : Nat
 q : Nat
def ipC (x : Ip) : List Value := [.int .u64 (x.o : Int), .int .u32 (x.n : Int), .int .u32 (x.r : Int), .slice x.a x.len x.cap]
def opC (x : Op) : List Value := [.int .u64 (x.p : Int), .int .u32 (x.q : Int)]
def Ip.ok (x : Ip) : Prop := x.o < 18446744073709551616 ∧ x.n < 4294967296 ∧ x.r < 4294967296
def Op.ok (x : Op) : Prop := x.p < 18446744073709551616 ∧ x.q < 4294967296
/-- what is wrong with one output -/
def cycP (L : Lay) (x : Ip) (y : Op) : Nat := cycS L x.o (x.n &&& (4294967295 - x.r)) (x.r &&& (4294967295 - x.n)) y.p y.q
def cycI (L : Lay) (X : List Ip) (Y : List Op) (i : Nat) : Nat := match X[i]?, Y[i]? with
 | some x, some y => cycP L x y
 | _, _ => 0
theorem cycI_at {L : Lay} {X : List Ip} {Y : List Op} {i : Nat} {x : Ip} {y : Op} (hx : X[i]? = some x) (hy : Y[i]? = some y) : cycI L X Y i = cycP L x y := by unfold cycI; rw [hx, hy]
/-- the first number of which something is told -/
def fstS (g : Nat → Nat) (n : Nat) : Int × Nat := match (List.range n).find? (fun i => decide (g i ≠ 0)) with
 | some i => ((i : Int), g i)
 | none => (-1, 0)
theorem fstS_at {g : Nat → Nat} {n i : Nat} (hi : i < n) (h0 : ∀ j, j < i → g j = 0) (h : g i ≠ 0) : fstS g n = ((i : Int), g i) := by
 have hf : (List.range n).find? (fun i => decide (g i ≠ 0)) = some i := by
  cases hc : (List.range n).find? (fun i => decide (g i ≠ 0)) with
  | none =>
    rw [List.find?_eq_none] at hc
    exact absurd (hc i (List.mem_range.2 hi)) (by simp [h])
  | some k =>
    have hk := List.find?_some hc
    rw [decide_eq_true_eq] at hk
    have hik : i ≤ k := Nat.le_of_not_lt fun hlt => hk (h0 k hlt)
    have hki : ¬ i < k := fun hlt => by
     obtain ⟨_, ls, ms, hab, hna⟩ := List.find?_eq_some_iff_append.1 hc
     have hlen : ls.length = k := by
      have h1 : (List.range n)[ls.length]? = some k := by rw [hab]; simp
      rw [List.getElem?_range] at h1
      ·simpa using h1
      ·have := congrArg List.length hab
       simp at this
       omega
     have h2 : i ∈ ls := by
      have h3 : (List.range n)[i]? = some i := by rw [List.getElem?_range hi]
      rw [hab, List.getElem?_append_left (by omega)] at h3
      exact List.mem_of_getElem? h3
     have := hna i h2
     simp [h] at this
    rw [show k = i by omega]
 unfold fstS
 rw [hf]
theorem fstS_none {g : Nat → Nat} {n : Nat} (h0 : ∀ j, j < n → g j = 0) : fstS g n = (-1, 0) := by
 have hf : (List.range n).find? (fun i => decide (g i ≠ 0)) = none := by
  rw [List.find?_eq_none]
  intro x hx
  simp [h0 x (List.mem_range.1 hx)]
 unfold fstS
 rw [hf]
end Go.Proofs.Ythnpekbmaapgnaa
