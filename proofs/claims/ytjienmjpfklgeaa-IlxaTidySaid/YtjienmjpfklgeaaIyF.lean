/-
  Layer 10: readings of states and inputs; the walk of IlxaTidy.
-/
import Derived.Test.YtjienmjpfklgeaaIyE
import Derived.Test.YtjienmjpfklgeaaMA
namespace Go.Proofs.Ytjienmjpfklgeaa
open Go.RowKit
set_option maxRecDepth 100000
theorem u64_nat {a : Int} (h : (Lit.int .u64 a).wf = true) : ∃ n : Nat, a = n ∧ n < 18446744073709551616 := by have := bounds_u64 h; exact ⟨a.toNat, by omega, by omega⟩
theorem u32_nat {a : Int} (h : (Lit.int .u32 a).wf = true) : ∃ n : Nat, a = n ∧ n < 4294967296 := by have := bounds_u32 h; exact ⟨a.toNat, by omega, by omega⟩
theorem u8_nat {a : Int} (h : (Lit.int .u8 a).wf = true) : ∃ n : Nat, a = n ∧ n ≤ 255 := by have := bounds_u8 h; exact ⟨a.toNat, by omega, by omega⟩
theorem one_at {l : List Value} {a : Nat} {v : Value} (h : (l.drop a).take 1 = [v]) : l[a]? = some v := by
  have h2 := congrArg (fun x : List Value => x[0]?) h
  simpa using h2
def tmOf (l : List Value) (i : Nat) : Nat := match l[3 + i]? with | some (.int _ k) => k.toNat | _ => 0
theorem state_rd {w : World} {c : Array Value} (h : Rd Try.prog w 32 c.toList) : ∃ s : St, c = (stL s).toArray ∧ s.ok := by
  obtain ⟨hl, hf⟩ := h.fields (L := [(28, 0), (28, 1), (28, 2), (29, 3), (30, 67)]) (by kernel_rfl) (by kernel_rfl)
  rw [show Try.prog.cellsOf 32 = 68 by kernel_rfl] at hl
  have h0 := hf (28, 0) (by simp)
  have h1 := hf (28, 1) (by simp)
  have h2 := hf (28, 2) (by simp)
  have h3 := hf (29, 3) (by simp)
  have h4 := hf (30, 67) (by simp)
  simp only [show Try.prog.cellsOf 28 = 1 by kernel_rfl, show Try.prog.cellsOf 30 = 1 by kernel_rfl, show Try.prog.cellsOf 29 = 64 by kernel_rfl] at h0 h1 h2 h3 h4
  obtain ⟨a, ha, wa⟩ := h0.int Try.underlying28
  obtain ⟨b, hb, wb⟩ := h1.int Try.underlying28
  obtain ⟨d, hd, wd⟩ := h2.int Try.underlying28
  obtain ⟨e, he, we⟩ := h4.int Try.underlying30
  obtain ⟨a, rfl, la⟩ := u64_nat wa
  obtain ⟨b, rfl, lb⟩ := u64_nat wb
  obtain ⟨d, rfl, ld⟩ := u64_nat wd
  obtain ⟨e, rfl, le⟩ := u32_nat we
  have ga := one_at ha
  have gb := one_at hb
  have gd := one_at hd
  have ge := one_at he
  obtain ⟨_, hr⟩ := h3.array Try.underlying29
  rw [show Try.prog.cellsOf 5 = 1 by kernel_rfl] at hr
  have gt : ∀ i, i < 64 → c.toList[3 + i]? = some (.int .u8 (tmOf c.toList i : Int)) ∧ tmOf c.toList i ≤ 255 := fun i hi => by
    obtain ⟨k, hk, wk⟩ := (hr i hi).int Try.underlying5
    obtain ⟨k, rfl, lk⟩ := u8_nat wk
    rw [Nat.mul_one] at hk
    have g := one_at hk
    rw [List.getElem?_take, if_pos hi, List.getElem?_drop] at g
    have ht : tmOf c.toList i = k := by unfold tmOf; rw [g]; simp
    rw [ht]
    exact ⟨g, lk⟩
  refine ⟨⟨a, b, d, fun i => if i < 64 then tmOf c.toList i else 0, e⟩, ?_, la, lb, ld, fun i => ?_, le⟩
  · apply Array.toList_inj.1
    show c.toList = stL _
    apply List.ext_getElem?
    intro k
    by_cases k0 : k = 0
    · subst k0; rw [ga]; rfl
    by_cases k1 : k = 1
    · subst k1; rw [gb]; rfl
    by_cases k2 : k = 2
    · subst k2; rw [gd]; rfl
    by_cases k67 : k = 67
    · subst k67; rw [ge, st_pt]
    by_cases hk : k < 67
    · obtain ⟨i, rfl⟩ : ∃ i, k = 3 + i := ⟨k - 3, by omega⟩
      have hi : i < 64 := by omega
      rw [(gt i hi).1, st_tm _ hi]
      dsimp only
      rw [if_pos hi]
    · rw [List.getElem?_eq_none (by rw [hl]; omega), List.getElem?_eq_none (by rw [st_len]; omega)]
  · dsimp only
    split
    · exact (gt i (by assumption)).2
    · omega
theorem walk_IlxaTidy (v0 v1 : Array Value) (w : World) (_s0 : v0.size = Try.prog.cellsOf 27) (w0 : Rd Try.prog w 27 v0.toList) (_s1 : v1.size = Try.prog.cellsOf 32) (w1 : Rd Try.prog w 32 v1.toList) :
    Calls Try.prog 5 #[.agg v0, .agg v1] w fun e w' => e = .returned (.bool true) ∧ Below w.heap.size w w' := by
  obtain ⟨L, hv, hL⟩ := lay_of w0
  obtain rfl : v0 = #[L.se.v, L.po.v, L.sg.v, L.rt.v] := by apply Array.toList_inj.1; rw [hv]
  obtain ⟨s, rfl, hs⟩ := state_rd w1
  exact ilxaTidy_is L s w hL hs
end Go.Proofs.Ytjienmjpfklgeaa
