/-
  Walks of package inputs: Clone, Merge, Sides.
-/
import Derived.Test.YtbbacmlcimgjbaaInSame
import Derived.Test.YtbbacmlcimgjbaaAppend
import Derived.Laws.ResultCell
namespace Go.Proofs.Ytbbacmlcimgjbaa
open Go.RowKit

/-- commands as cells -/
def cmdCells : List (Nat × Int) → List Value
  | [] => []
  | c :: l => .int .u8 (c.1 : Int) :: .int .i64 c.2 :: cmdCells l
theorem cmdCells_length (l : List (Nat × Int)) : (cmdCells l).length = l.length * 2 := by
  induction l with
  | nil => rfl
  | cons c l ih => simp [cmdCells, ih]; omega
theorem cmdCells_get (l : List (Nat × Int)) : ∀ (i : Nat) (c : Nat × Int), l[i]? = some c → (cmdCells l)[i * 2]? = some (.int .u8 (c.1 : Int)) ∧ (cmdCells l)[i * 2 + 1]? = some (.int .i64 c.2) := by
  induction l with
  | nil => intro i c h; simp at h
  | cons d l ih =>
    intro i c h
    cases i with
    | zero => simp at h; subst h; exact ⟨rfl, rfl⟩
    | succ i =>
      have := ih i c (by simpa using h)
      rw [show (i + 1) * 2 = i * 2 + 1 + 1 by omega]
      exact ⟨by simpa [cmdCells] using this.1, by simpa [cmdCells] using this.2⟩
theorem cmdCells_one (l : List (Nat × Int)) : ∀ u ∈ cmdCells l, u.oneCell' = true := by
  induction l with
  | nil => intro u h; simp [cmdCells] at h
  | cons c l ih =>
    intro u h
    rcases List.mem_cons.1 h with rfl | h
    · rfl
    · rcases List.mem_cons.1 h with rfl | h
      · rfl
      · exact ih u h
theorem SrcAt.cmds {w : World} {a : Option Addr} {c : Nat} {l : List (Nat × Int)} (h : CmdsAt w a l) (hc : a = none → c = 0) : SrcAt w a c (cmdCells l) := by
  refine ⟨fun ha => ⟨hc ha, ?_⟩, cmdCells_one l, ?_⟩
  · rcases h.2 with rfl | ⟨b, off, rfl, _⟩
    · rfl
    · cases ha
  · intro ad had j u hu
    rcases h.2 with rfl | ⟨b, off, rfl, hcell⟩
    · simp [cmdCells] at hu
    · obtain rfl := Option.some.inj had
      have hj : j < l.length * 2 := by
        have := (List.getElem?_eq_some_iff.1 hu).1
        rwa [cmdCells_length] at this
      have hg : l[j / 2]? = some (l[j / 2]'(by omega)) := List.getElem?_eq_getElem _
      obtain ⟨g1, g2⟩ := cmdCells_get l _ _ hg
      obtain ⟨k1, k2⟩ := hcell _ _ hg
      rw [Addr.add_lit]
      rcases (show j = j / 2 * 2 ∨ j = j / 2 * 2 + 1 by omega) with e | e
      · rw [e] at hu ⊢; rw [g1] at hu; obtain rfl := Option.some.inj hu; exact k1
      · rw [e] at hu ⊢; rw [g2] at hu; obtain rfl := Option.some.inj hu; exact k2
/-- a row of the call's own, of commands -/
theorem own_cmds {w : World} {base : Nat} {e : TypeId} {v : Value} {n : Nat} {l : List (Nat × Int)} (hb : ∀ c ∈ l, c.1 < 256 ∧ -9223372036854775808 ≤ c.2 ∧ c.2 ≤ 9223372036854775807) (hn : l.length = n) (h : w.ownsRow base e 2 v n (cmdCells l)) :
    ∃ a cap, v = .slice a n cap ∧ CmdsAt w a l ∧ (a = none → cap = 0) := by
  rcases h.2 with ⟨rfl, rfl⟩ | ⟨g, cap, cur, rfl, hg, hheap, hncap, hcm, hsz, htake⟩
  · exact ⟨none, 0, rfl, ⟨hb, .inl (List.eq_nil_of_length_eq_zero hn)⟩, fun _ => rfl⟩
  · refine ⟨some ⟨g, 0, none⟩, cap, rfl, ⟨hb, .inr ⟨g, 0, rfl, fun i c hi => ?_⟩⟩, fun h => by cases h⟩
    have hil : i < l.length := (List.getElem?_eq_some_iff.1 hi).1
    obtain ⟨g1, g2⟩ := cmdCells_get l i c hi
    have hcur : ∀ j, j < n * 2 → cur[j]? = (cmdCells l)[j]? := fun j hj => by rw [← htake, List.getElem?_take, if_pos hj, Array.getElem?_toList]
    have e1 := hcur (i * 2) (by omega)
    have e2 := hcur (i * 2 + 1) (by omega)
    simp only [World.cell?, hheap, Nat.zero_add]
    rw [g1] at e1; rw [g2] at e2
    exact ⟨by simpa using e1, by simpa using e2⟩

theorem own_form {w : World} {base : Nat} {e : TypeId} {sz : Nat} {v : Value} {n : Nat} {xs : List Value} (h : w.ownsRow base e sz v n xs) : ∃ a cap, v = .slice a n cap ∧ (a = none → cap = 0) := by
  rcases h.2 with ⟨rfl, rfl⟩ | ⟨g, cap, cur, rfl, _⟩
  · exact ⟨none, 0, rfl, fun _ => rfl⟩
  · exact ⟨_, cap, rfl, fun h => by cases h⟩

theorem info_cmd : (Try.prog.info? 70).map (fun i => (i.zero, i.size, i.bytes)) = some (some (.agg #[.int .u8 0, .int .i64 0]), 2, 16) := by kernel_rfl

theorem clone_nil (w : World) : Calls Try.prog 32 #[.slice none 0 0] w fun e w' => e = .returned (.slice none 0 0) ∧ w = w' := by
  have h := fun (w : World) (n c : Nat) => Lib.run_eql_slice_nil (P := Try.prog) w 31 70 none n c 0 0 Try.underlying31
  go_enter Try.func32, Try.ntmps32
  go_wp2
  go_ret
  exact ⟨rfl, rfl⟩
theorem clone_some (x : Addr) (l : List (Nat × Int)) (n cap : Nat) (w : World) (hn : l.length = n) (hnl : n ≤ 1000) (ha : CmdsAt w (some x) l) :
    Calls Try.prog 32 #[.slice (some x) n cap] w fun e w' => ∃ v, e = .returned v ∧ w'.ownsRow w.heap.size 70 2 v n (cmdCells l) ∧ Below w.heap.size w w' := by
  have h := fun (w : World) (n c : Nat) => Lib.run_eql_slice_nil (P := Try.prog) w 31 70 (some x) n c 0 0 Try.underlying31
  obtain ⟨i0, hi, hz0, hz1, hz2⟩ := info_parts info_cmd
  go_enter Try.func32, Try.ntmps32
  go_wp2_with (at_builtin; refine wpList_append_src rfl _ _ 31 rfl w.heap.size 70 i0 (.agg #[.int .u8 0, .int .i64 0]) 2 16 Try.underlying31 hi hz0 hz1 hz2 rfl (by decide) _ 0 [] rfl (World.ownsRow_lit w #[] 0 (Nat.le_refl _) (by unfold maxLen; omega) rfl) (some x) n cap (cmdCells l) rfl (by rw [cmdCells_length, hn]) (SrcAt.cmds (ha.below (below1 _ _)) (by intro h; cases h)) (by unfold maxLen; omega) (by omega) (by simp) ?_; intro v1 w1 hown hg)
  have hB : Below w.heap.size w w1 := ((below1 w (Obj.cells #[] 70))).grown hg (by simp) (fun k hk => by cases hk; exact Nat.le_refl _)
  rw [Nat.zero_add, List.nil_append] at hown
  clear h
  go_wp2
  go_ret
  exact ⟨v1, rfl, hown, hB⟩
theorem clone_any (a : Option Addr) (l : List (Nat × Int)) (n cap : Nat) (w : World) (hn : l.length = n) (hnl : n ≤ 1000) (hc : a = none → cap = 0) (ha : CmdsAt w a l) :
    Calls Try.prog 32 #[.slice a n cap] w fun e w' => ∃ a' c', e = .returned (.slice a' n c') ∧ (a' = none → c' = 0) ∧ w'.ownsRow w.heap.size 70 2 (.slice a' n c') n (cmdCells l) ∧ Below w.heap.size w w' := by
  cases a with
  | some x =>
    refine (clone_some x l n cap w hn hnl ha).mono fun e w' ⟨v, h1, h2, h3⟩ => ?_
    obtain ⟨a', c', rfl, hc'⟩ := own_form h2
    exact ⟨a', c', h1, hc', h2, h3⟩
  | none =>
    obtain rfl := hc rfl
    obtain rfl : l = [] := by
      rcases ha.2 with h | ⟨b, off, h, _⟩
      · exact h
      · cases h
    obtain rfl : 0 = n := hn
    refine (clone_nil w).mono fun e w' ⟨h1, h2⟩ => ⟨none, 0, h1, fun _ => rfl, ?_, h2 ▸ Below.refl _ _⟩
    exact World.ownsRow_nil _ _ _ _

end Go.Proofs.Ytbbacmlcimgjbaa
