/-
  Contracts of package agree, whatever is called.
-/
import Derived.Test.YtbbacmlcimgjbaaAgMerged
namespace Go.Proofs.Ytbbacmlcimgjbaa
open Go.RowKit
attribute [local irreducible] shortB fewB In.ok InAt MyIn LongAt In.same both cmdCells SideAt OptAt RdAt RSideAt CellsAt In.merge

theorem zero_in (w : World) : InAt w none 0 In.zero := by unfold InAt; exact ⟨In.zero_ok, ⟨by simp [In.zero], .inl rfl⟩, fun _ => rfl⟩
theorem zero_my (w : World) (B : Nat) : MyIn w B none := by unfold MyIn; exact .inl rfl
theorem begin_any (s : Side) (X : Nat → Prop) (g : Nat) (cy : Int) (I : In) (a : Option Addr) (cap : Nat) (w : World) (h : SideAt w X g s) (hin : InAt w a cap I) (hag : I.c ≠ [] → ¬ Blk a g) :
    Calls Try.prog 13 #[.pointer (some ⟨g, 0, none⟩), .int .i64 cy, .agg #[.int .u64 (I.o : Int), .int .u32 (I.n : Int), .int .u32 (I.r : Int), .slice a I.c.length cap]] w
      fun e w' => ∃ X' M a' cap', e = .returned (.tuple #[.agg #[.int .i64 (s.bCh cy), .int .i64 (s.bCy cy), .int .u64 ((s.bIn cy I).o : Int), .int .u32 ((s.bIn cy I).n : Int), .int .u32 ((s.bIn cy I).r : Int), .slice a' (s.bIn cy I).c.length cap'], .int .i64 (s.bCode cy)]) ∧
        SideAt w' X' g (s.begin cy I) ∧ Gr X X' w.heap.size M ∧ w.heap.size ≤ M ∧ MyIn w' M a' ∧ InAt w' a' cap' (s.bIn cy I) ∧ Only g w w' := by
  unfold Side.bCh Side.bCy Side.bIn Side.bCode
  by_cases hc : cy ≤ s.cy
  · simp only [if_pos hc]
    have hb : s.begin cy I = s := by unfold Side.begin; rw [if_pos hc]
    refine (begin_arg s X g cy I a cap w h hc).mono ?_
    rintro e w1 ⟨rfl, hb1⟩
    exact ⟨X, w.heap.size, none, 0, rfl, by rw [hb]; exact h.below hb1, fun j hj => .inl hj, Nat.le_refl _, zero_my _ _, zero_in _, Only.of_below hb1⟩
  · simp only [if_neg hc]
    cases hk : s.kept with
    | none => exact begin_none s X g cy I a cap w h hc hin hag hk
    | some x =>
      obtain ⟨c, J⟩ := x
      rcases Int.lt_trichotomy c cy with hlt | heq | hgt
      · exact begin_lt s X g cy I a cap w h hc hin hag c J hk hlt
      · exact begin_eq s X g cy I a cap w h hc hin hag c J hk heq
      · exact begin_gt s X g cy I a cap w h hc hin hag c J hk hgt
theorem hear_any (s : Side) (X : Nat → Prop) (g : Nat) (ch cy : Int) (I : In) (a : Option Addr) (cap : Nat) (w : World) (h : SideAt w X g s) (hch : s.ch = 0 ∨ s.ch = 1) (hin : InAt w a cap I) :
    Calls Try.prog 17 #[.pointer (some ⟨g, 0, none⟩), .iface 35 (.agg #[.int .i64 ch, .int .i64 cy, .int .u64 (I.o : Int), .int .u32 (I.n : Int), .int .u32 (I.r : Int), .slice a I.c.length cap])] w
      fun e w' => ∃ X' M, e = .returned (.int .i64 (s.hear ch cy I).2) ∧ SideAt w' X' g (s.hear ch cy I).1 ∧ Gr X X' w.heap.size M ∧ M ≤ w'.heap.size ∧ Only g w w' := by
  by_cases hcc : ch = 1 - s.ch
  · rcases Int.lt_trichotomy cy s.cy with hlt | heq | hgt
    · exact hear_late s X g ch cy I a cap w h hch hin hcc hlt
    · cases hk : s.other with
      | none => exact hear_onone s X g ch cy I a cap w h hch hin hcc heq hk
      | some J =>
        cases hB : J.same I with
        | true => exact hear_oT s X g ch cy I a cap w h hch hin hcc heq J hk hB
        | false => exact hear_oF s X g ch cy I a cap w h hch hin hcc heq J hk hB
    · cases hk : s.kept with
      | none => exact hear_knone s X g ch cy I a cap w h hch hin hcc hgt hk
      | some x =>
        obtain ⟨c, J⟩ := x
        by_cases hc : c < cy
        · exact hear_klt s X g ch cy I a cap w h hch hin hcc hgt c J hk hc
        · cases hB : (c == cy && J.same I) with
          | true => exact hear_kgeT s X g ch cy I a cap w h hch hin hcc hgt c J hk hc hB
          | false => exact hear_kgeF s X g ch cy I a cap w h hch hin hcc hgt c J hk hc hB
  · exact hear_arg s X g ch cy I a cap w h hch hin hcc
theorem merged_any (s : Side) (X : Nat → Prop) (g : Nat) (w : World) (h : SideAt w X g s) :
    Calls Try.prog 20 #[.pointer (some ⟨g, 0, none⟩)] w fun e w' => ∃ a' c', e = .returned (.tuple #[.agg #[.int .u64 (s.mIn.o : Int), .int .u32 (s.mIn.n : Int), .int .u32 (s.mIn.r : Int), .slice a' s.mIn.c.length c'], .bool s.mOk]) ∧ MyIn w' w.heap.size a' ∧ InAt w' a' c' s.mIn ∧ Below w.heap.size w w' := by
  cases hm : s.mOk with
  | false =>
    have hz : s.mIn = In.zero := by
      unfold Side.mIn
      unfold Side.mOk at hm
      cases ho : s.own with
      | none => rfl
      | some I =>
        cases ht : s.other with
        | none => rfl
        | some J =>
          rw [ho, ht] at hm
          have : s.broken = true := by simpa using hm
          simp only []
          rw [this]; rfl
    rw [hz]
    refine (merged_no s X g w h hm).mono ?_
    rintro e w1 ⟨rfl, hb1⟩
    exact ⟨none, 0, rfl, zero_my _ _, zero_in _, hb1⟩
  | true =>
    unfold Side.mOk at hm
    cases ho : s.own with
    | none => rw [ho] at hm; cases hm
    | some I =>
      cases ht : s.other with
      | none => rw [ho, ht] at hm; cases hm
      | some J =>
        have hb : s.broken = false := by rw [ho, ht] at hm; simpa using hm
        have hz : s.mIn = I.merge J := by
          unfold Side.mIn; rw [ho, ht]; simp only []; rw [hb]; rfl
        rw [hz]
        exact merged_yes s X g I J w h ho ht hb

theorem assert_nil (w : World) : (Instr.typeAssert .nilIface 20 35 true).run Try.prog w = .ok (.tuple #[.agg #[.int .i64 0, .int .i64 0, .int .u64 0, .int .u32 0, .int .u32 0, .slice none 0 0], .bool false]) w := by
  kernel_rfl
theorem assert_str (v : Value) (w : World) : (Instr.typeAssert (.iface 9 v) 20 35 true).run Try.prog w = .ok (.tuple #[.agg #[.int .i64 0, .int .i64 0, .int .u64 0, .int .u32 0, .int .u32 0, .slice none 0 0], .bool false]) w := by
  kernel_rfl
theorem assert_ptr (v : Value) (w : World) : (Instr.typeAssert (.iface 65 v) 20 35 true).run Try.prog w = .ok (.tuple #[.agg #[.int .i64 0, .int .i64 0, .int .u64 0, .int .u32 0, .int .u32 0, .slice none 0 0], .bool false]) w := by
  kernel_rfl
theorem hear_other (g : Nat) (x : Value) (w : World) (hx : ∀ w, (Instr.typeAssert x 20 35 true).run Try.prog w = .ok (.tuple #[.agg #[.int .i64 0, .int .i64 0, .int .u64 0, .int .u32 0, .int .u32 0, .slice none 0 0], .bool false]) w) :
    Calls Try.prog 17 #[.pointer (some ⟨g, 0, none⟩), x] w fun e w' => e = .returned (.int .i64 2) ∧ Below w.heap.size w w' := by
  go_enter Try.func17, Try.ntmps17
  go_wp2_with fail
  go_quiet (fail)
  go_wp2_with fail
  go_ret
  exact ⟨rfl, below_drewN (below1 _ _) _⟩
theorem nhear (x : Value) (w : World) : Calls Try.prog 17 #[.pointer none, x] w fun e w' => e = .returned (.int .i64 1) ∧ w = w' := by
  go_enter Try.func17, Try.ntmps17
  go_wp2_with fail
  go_ret
  exact ⟨rfl, rfl⟩
end Go.Proofs.Ytbbacmlcimgjbaa
