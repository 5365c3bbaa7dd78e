/-
 Layer 10: readings of states and inputs.
-/
import Derived.Test.YtpohoannggdbjaaIxC
import Derived.Test.YtpohoannggdbjaaMA
namespace Go.Proofs.Ytpohoannggdbjaa
open Go.RowKit
set_option maxRecDepth 100000
theorem u64_nat {a : Int} (h : (Lit.int .u64 a).wf = true) : ∃ n : Nat, a = n ∧ n < 18446744073709551616 := by have := bounds_u64 h; exact ⟨a.toNat, by omega, by omega⟩
theorem u32_nat {a : Int} (h : (Lit.int .u32 a).wf = true) : ∃ n : Nat, a = n ∧ n < 4294967296 := by have := bounds_u32 h; exact ⟨a.toNat, by omega, by omega⟩
theorem u8_nat {a : Int} (h : (Lit.int .u8 a).wf = true) : ∃ n : Nat, a = n ∧ n ≤ 255 := by have := bounds_u8 h; exact ⟨a.toNat, by omega, by omega⟩
theorem one_at {l : List Value} {a : Nat} {v : Value} (h : (l.drop a).take 1 = [v]) : l[a]? = some v := by
 have h2 := congrArg (fun x : List Value => x[0]?) h
 simpa using h2
def tmOf (l : List Value) (i : Nat) : Nat := match l[3 + i]? with | some (.int _ k) => k.toNat | _ => 0
theorem state_rd {w : World} {c : Array Value} (h : Rd Try.prog w 66 c.toList) : ∃ s : St, c = (stL s).toArray ∧ s.ok := by
 obtain ⟨hl, hf⟩ := h.fields (L := [(32, 0), (32, 1), (32, 2), (64, 3), (33, 67)]) (by kernel_rfl) (by kernel_rfl)
 rw [show Try.prog.cellsOf 66 = 68 by kernel_rfl] at hl
 have h0 := hf (32, 0) (by simp)
 have h1 := hf (32, 1) (by simp)
 have h2 := hf (32, 2) (by simp)
 have h3 := hf (64, 3) (by simp)
 have h4 := hf (33, 67) (by simp)
 simp only [show Try.prog.cellsOf 32 = 1 by kernel_rfl, show Try.prog.cellsOf 33 = 1 by kernel_rfl, show Try.prog.cellsOf 64 = 64 by kernel_rfl] at h0 h1 h2 h3 h4
 obtain ⟨a, ha, wa⟩ := h0.int Try.underlying32
 obtain ⟨b, hb, wb⟩ := h1.int Try.underlying32
 obtain ⟨d, hd, wd⟩ := h2.int Try.underlying32
 obtain ⟨e, he, we⟩ := h4.int Try.underlying33
 obtain ⟨a, rfl, la⟩ := u64_nat wa
 obtain ⟨b, rfl, lb⟩ := u64_nat wb
 obtain ⟨d, rfl, ld⟩ := u64_nat wd
 obtain ⟨e, rfl, le⟩ := u32_nat we
 have ga := one_at ha
 have gb := one_at hb
 have gd := one_at hd
 have ge := one_at he
 obtain ⟨_, hr⟩ := h3.array Try.underlying64
 rw [show Try.prog.cellsOf 5 = 1 by kernel_rfl] at hr
 have gt : ∀ i, i < 64 → c.toList[3 + i]? = some (.int .u8 (tmOf c.toList i : Int)) ∧ tmOf c.toList i ≤ 255 := fun i hi => by
  obtain ⟨k, hk, wk⟩ := (hr i hi).int Try.underlying5
  obtain ⟨k, rfl, lk⟩ := u8_nat wk
  rw [Nat.mul_one] at hk
  have g := one_at hk
  rw [List.getElem?_take, if_pos hi, List.getElem?_drop] at g
  have ht : tmOf c.toList i = k := by unfold tmOf; rw [g]; simp
  rw [ht]
  exact ⟨g, lk⟩
 refine ⟨⟨a, b, d, fun i => if i < 64 then tmOf c.toList i else 0, e⟩, ?_, la, lb, ld, fun i => ?_, le⟩
 ·apply Array.toList_inj.1
  show c.toList = stL _
  apply List.ext_getElem?
  intro k
  by_cases k0 : k = 0
  ·subst k0; rw [ga]; rfl
  by_cases k1 : k = 1
  ·subst k1; rw [gb]; rfl
  by_cases k2 : k = 2
  ·subst k2; rw [gd]; rfl
  by_cases k67 : k = 67
  ·subst k67; rw [ge, st_pt]
  by_cases hk : k < 67
  ·obtain ⟨i, rfl⟩ : ∃ i, k = 3 + i := ⟨k - 3, by omega⟩
   have hi : i < 64 := by omega
   rw [(gt i hi).1, st_tm _ hi]
   dsimp only
   rw [if_pos hi]
  ·rw [List.getElem?_eq_none (by rw [hl]; omega), List.getElem?_eq_none (by rw [st_len]; omega)]
 ·dsimp only
  split
  ·exact (gt i (by assumption)).2
  ·omega
theorem cmd_of {w : World} {cs : List Value} (h : Rd Try.prog w 60 cs) : ∃ (k : Nat) (n : Int), cs = [.int .u8 (k : Int), .int .i64 n] ∧ k < 256 ∧ -9223372036854775808 ≤ n ∧ n ≤ 9223372036854775807 := by
 obtain ⟨hl, hf⟩ := h.fields (L := [(5, 0), (3, 1)]) (by kernel_rfl) (by kernel_rfl)
 rw [show Try.prog.cellsOf 60 = 2 by kernel_rfl] at hl
 match cs, hl with
 | [x, y], _ =>
   have h0 := hf (5, 0) (by simp)
   have h1 := hf (3, 1) (by simp)
   simp only [show Try.prog.cellsOf 5 = 1 by kernel_rfl, show Try.prog.cellsOf 3 = 1 by kernel_rfl] at h0 h1
   obtain ⟨a, ha, wa⟩ := h0.int Try.underlying5
   obtain ⟨b, hb, wb⟩ := h1.int Try.underlying3
   simp at ha hb
   obtain ⟨k, rfl, hk⟩ := u8_nat wa
   have := bounds_i64 wb
   exact ⟨k, b, by rw [ha, hb], by omega, this.1, by omega⟩
theorem cmds_of {w : World} {a : Option Addr} {len cap : Nat} (h : Rd Try.prog w 47 [.slice a len cap]) : ∃ l : List (Nat × Int), l.length = len ∧ len ≤ maxLen ∧ CmdsAt w a l ∧ (a = none → cap = 0) ∧ len ≤ cap ∧ cap ≤ maxLen := by
 rcases h.slice Try.underlying47 with h | ⟨x, n, c, h, hlc, hcm, hel⟩
 ·simp only [List.cons.injEq, Value.slice.injEq, and_true] at h
  obtain ⟨rfl, rfl, rfl⟩ := h
  exact ⟨[], rfl, Nat.zero_le _, ⟨fun _ h => (nomatch h), .inl rfl⟩, fun _ => rfl, Nat.le_refl _, Nat.zero_le _⟩
 ·simp only [List.cons.injEq, Value.slice.injEq, and_true] at h
  obtain ⟨rfl, rfl, rfl⟩ := h
  have hsz : Try.prog.cellsOf 60 = 2 := by kernel_rfl
  have H : ∀ i, i < len → ∃ c : Nat × Int, (c.1 < 256 ∧ -9223372036854775808 ≤ c.2 ∧ c.2 ≤ 9223372036854775807) ∧ w.cell? ((x.add (i * 2)).add 0) = some (.int .u8 (c.1 : Int)) ∧ w.cell? ((x.add (i * 2)).add 1) = some (.int .i64 c.2) := by
   intro i hi
   obtain ⟨ecs, he, hr⟩ := hel i (by omega)
   rw [hsz] at he
   obtain ⟨k, n, rfl, hk, hn1, hn2⟩ := cmd_of hr
   obtain ⟨_, hg⟩ := cells_get he
   obtain ⟨v0, g0, c0⟩ := hg 0 (by omega)
   obtain ⟨v1, g1, c1⟩ := hg 1 (by omega)
   simp at g0 g1
   subst g0; subst g1
   exact ⟨(k, n), ⟨hk, hn1, hn2⟩, c0, c1⟩
  obtain ⟨l, hl, hq⟩ := list_of len H
  refine ⟨l, hl, Nat.le_trans hlc hcm, ⟨fun c hc => ?_, ?_⟩, (fun h => by cases h), hlc, hcm⟩
  ·obtain ⟨i, hi⟩ := List.getElem?_of_mem hc
   exact (hq i c hi).1
  ·rcases l with _ | ⟨c0, l⟩
   ·exact .inl rfl
   ·right
    have h0 := (hq 0 c0 rfl).2.1
    have hs : x.spot = none := World.cell?_spot (show w.cell? x = some _ by simpa [Addr.add] using h0)
    obtain ⟨b, off, spot⟩ := x
    subst hs
    refine ⟨b, off, rfl, fun i c hi => ?_⟩
    obtain ⟨_, q1, q2⟩ := hq i c hi
    simp only [Addr.add_lit, Nat.add_zero] at q1 q2
    exact ⟨q1, q2⟩
theorem input_of {w : World} {c : Array Value} (h : Rd Try.prog w 49 c.toList) : ∃ (o n r : Nat) (a : Option Addr) (len cap : Nat) (l : List (Nat × Int)),
 c = #[.int .u64 (o : Int), .int .u32 (n : Int), .int .u32 (r : Int), .slice a len cap] ∧ o < 18446744073709551616 ∧ n < 4294967296 ∧ r < 4294967296 ∧ l.length = len ∧ len ≤ maxLen ∧ CmdsAt w a l ∧ (a = none → cap = 0) ∧ len ≤ cap ∧ cap ≤ maxLen := by
 obtain ⟨hl, hf⟩ := h.fields (L := [(32, 0), (33, 1), (33, 2), (47, 3)]) (by kernel_rfl) (by kernel_rfl)
 rw [show Try.prog.cellsOf 49 = 4 by kernel_rfl] at hl
 match hc : c.toList, hl with
 | [x, y, z, t], _ =>
   rw [hc] at hf
   have h0 := hf (32, 0) (by simp)
   have h1 := hf (33, 1) (by simp)
   have h2 := hf (33, 2) (by simp)
   have h3 := hf (47, 3) (by simp)
   simp only [show Try.prog.cellsOf 32 = 1 by kernel_rfl, show Try.prog.cellsOf 33 = 1 by kernel_rfl, show Try.prog.cellsOf 47 = 1 by kernel_rfl] at h0 h1 h2 h3
   obtain ⟨o, ho, wo⟩ := h0.int Try.underlying32
   obtain ⟨n, hn, wn⟩ := h1.int Try.underlying33
   obtain ⟨r, hr, wr⟩ := h2.int Try.underlying33
   have hsl := h3.slice Try.underlying47
   simp at ho hn hr
   subst ho; subst hn; subst hr
   obtain ⟨o, rfl, ho⟩ := u64_nat wo
   obtain ⟨n, rfl, hn⟩ := u32_nat wn
   obtain ⟨r, rfl, hr⟩ := u32_nat wr
   have hform : ∃ a len cap, t = .slice a len cap := by
    rcases hsl with h | ⟨x, n, c, h, _⟩
    ·simp at h; exact ⟨_, _, _, h⟩
    ·simp at h; exact ⟨_, _, _, h⟩
   obtain ⟨a, len, cap, rfl⟩ := hform
   obtain ⟨l, hl1, hl2, hl3, hl4⟩ := cmds_of (a := a) (len := len) (cap := cap) (by simpa using h3)
   exact ⟨o, n, r, a, len, cap, l, array_of_list hc, ho, hn, hr, hl1, hl2, hl3, hl4⟩
end Go.Proofs.Ytpohoannggdbjaa
