/-
 Layer 29: works.
-/
import Derived.Test.YthnpekbmaapgnaaSaF
import Derived.Test.YthnpekbmaapgnaaTpK
import Derived.Deep.RegionHeld3
namespace Go.Proofs.Ythnpekbmaapgnaa
open Go.RowKit
set_option maxRecDepth 100000
def safL (b : Nat) : Lay := ⟨⟨some ⟨b, 0, none⟩, 3, [⟨#[97]⟩, ⟨#[98]⟩, ⟨#[99]⟩]⟩, ⟨some ⟨b + 1, 0, none⟩, 1, [(⟨#[80]⟩, 1)]⟩, ⟨some ⟨b + 1 + 1, 0, none⟩, 1, [(⟨#[71]⟩, 0)]⟩, ⟨some ⟨b + 1 + 1 + 1 + 1 + 1, 0, none⟩, 1, [⟨⟨#[82]⟩, 0, ⟨some ⟨b + 1 + 1 + 1, 0, none⟩, 2, [1, 2]⟩, ⟨some ⟨b + 1 + 1 + 1 + 1, 0, none⟩, 1, [(0, false)]⟩, ⟨none, 0, []⟩, ⟨none, 0, []⟩⟩]⟩⟩
theorem saf_0 (b : Nat) : cycS (safL b) 0 1 0 1 0 = 0 := by kernel_rfl
theorem safc_0 (b : Nat) (W : World) (hL : LayAt W (safL b)) :
 Calls Try.prog 9 #[.agg #[.slice (some ⟨b, 0, none⟩) 3 3, .slice (some ⟨b + 1, 0, none⟩) 1 1, .slice (some ⟨b + 1 + 1, 0, none⟩) 1 1, .slice (some ⟨b + 1 + 1 + 1 + 1 + 1, 0, none⟩) 1 1], .agg #[.int .u64 0, .int .u32 1, .int .u32 0, .slice none 0 0], .agg #[.int .u64 1, .int .u32 0]] W fun e w' => e = .returned (.int .u8 0) ∧ Below W.heap.size W w' :=
 scycle_is 0 (safL b) 0 1 0 1 0 1 0 none 0 0 (by omega) (by omega) (by omega) (by decide) (by decide) (by omega) (by omega) (saf_0 b) W hL
theorem saf_1 (b : Nat) : cycS (safL b) 4 1 0 1 0 = 4 := by kernel_rfl
theorem safc_1 (b : Nat) (W : World) (hL : LayAt W (safL b)) :
 Calls Try.prog 9 #[.agg #[.slice (some ⟨b, 0, none⟩) 3 3, .slice (some ⟨b + 1, 0, none⟩) 1 1, .slice (some ⟨b + 1 + 1, 0, none⟩) 1 1, .slice (some ⟨b + 1 + 1 + 1 + 1 + 1, 0, none⟩) 1 1], .agg #[.int .u64 4, .int .u32 1, .int .u32 0, .slice none 0 0], .agg #[.int .u64 1, .int .u32 0]] W fun e w' => e = .returned (.int .u8 4) ∧ Below W.heap.size W w' :=
 scycle_is 4 (safL b) 4 1 0 1 0 1 0 none 0 0 (by omega) (by omega) (by omega) (by decide) (by decide) (by omega) (by omega) (saf_1 b) W hL
theorem saf_2 (b : Nat) : cycS (safL b) 0 0 0 1 0 = 5 := by kernel_rfl
theorem safc_2 (b : Nat) (W : World) (hL : LayAt W (safL b)) :
 Calls Try.prog 9 #[.agg #[.slice (some ⟨b, 0, none⟩) 3 3, .slice (some ⟨b + 1, 0, none⟩) 1 1, .slice (some ⟨b + 1 + 1, 0, none⟩) 1 1, .slice (some ⟨b + 1 + 1 + 1 + 1 + 1, 0, none⟩) 1 1], .agg #[.int .u64 0, .int .u32 0, .int .u32 0, .slice none 0 0], .agg #[.int .u64 1, .int .u32 0]] W fun e w' => e = .returned (.int .u8 5) ∧ Below W.heap.size W w' :=
 scycle_is 5 (safL b) 0 0 0 1 0 0 0 none 0 0 (by omega) (by omega) (by omega) (by decide) (by decide) (by omega) (by omega) (saf_2 b) W hL
theorem saf_3 (b : Nat) : cycS (safL b) 0 1 0 1 1 = 6 := by kernel_rfl
theorem safc_3 (b : Nat) (W : World) (hL : LayAt W (safL b)) :
 Calls Try.prog 9 #[.agg #[.slice (some ⟨b, 0, none⟩) 3 3, .slice (some ⟨b + 1, 0, none⟩) 1 1, .slice (some ⟨b + 1 + 1, 0, none⟩) 1 1, .slice (some ⟨b + 1 + 1 + 1 + 1 + 1, 0, none⟩) 1 1], .agg #[.int .u64 0, .int .u32 1, .int .u32 0, .slice none 0 0], .agg #[.int .u64 1, .int .u32 1]] W fun e w' => e = .returned (.int .u8 6) ∧ Below W.heap.size W w' :=
 scycle_is 6 (safL b) 0 1 0 1 1 1 0 none 0 0 (by omega) (by omega) (by omega) (by decide) (by decide) (by omega) (by omega) (saf_3 b) W hL
theorem saf_4 (b : Nat) : cycS (safL b) 0 1 0 2 0 = 2 := by kernel_rfl
theorem safc_4 (b : Nat) (W : World) (hL : LayAt W (safL b)) :
 Calls Try.prog 9 #[.agg #[.slice (some ⟨b, 0, none⟩) 3 3, .slice (some ⟨b + 1, 0, none⟩) 1 1, .slice (some ⟨b + 1 + 1, 0, none⟩) 1 1, .slice (some ⟨b + 1 + 1 + 1 + 1 + 1, 0, none⟩) 1 1], .agg #[.int .u64 0, .int .u32 1, .int .u32 0, .slice none 0 0], .agg #[.int .u64 2, .int .u32 0]] W fun e w' => e = .returned (.int .u8 2) ∧ Below W.heap.size W w' :=
 scycle_is 2 (safL b) 0 1 0 2 0 1 0 none 0 0 (by omega) (by omega) (by omega) (by decide) (by decide) (by omega) (by omega) (saf_4 b) W hL
attribute [local irreducible] cycS checkS mayS
set_option maxHeartbeats 4000000 in
theorem works_is (w : World) : Calls Try.prog 11 #[] w fun e w' => e = .returned (.bool true) ∧ Below w.heap.size w w' := by
 go_enter Try.func11, Try.ntmps11
 go_upto_region 2 with fail
 refine name_last (os := [_, _, _, _, _, _, _]) (w0 := w) rfl ?_
 intro W hat hbw
 obtain ⟨b, hb⟩ : ∃ b, b = w.heap.size := ⟨_, rfl⟩
 have q0 := hat 0 _ rfl
 have q1 := hat 1 _ rfl
 have q2 := hat 2 _ rfl
 have q3 := hat 3 _ rfl
 have q4 := hat 4 _ rfl
 have q5 := hat 5 _ rfl
 have q6 := hat 6 _ rfl
 rw [Nat.add_zero, ← hb] at q0
 rw [← hb] at q1 q2 q3 q4 q5 q6
 rw [← hb]
 clear hat
 have HL : Hid (LayAt W (safL b)) := Lib.hid (by
  refine ⟨sl_blk str_len q0 rfl rfl (by decide), sl_blk pt_len q1 rfl rfl (by decide), sl_blk pt_len q2 rfl rfl (by decide), sl_blk rt_len q5 rfl rfl (by decide), ?_, ?_, ?_, ?_⟩
  ·intro s hs
   simp [safL] at hs
   rcases hs with rfl | rfl | rfl <;> decide
  ·intro s hs
   simp [safL] at hs
   subst hs
   decide
  ·intro s hs
   simp [safL] at hs
   subst hs
   decide
  ·intro s hs
   simp [safL] at hs
   subst hs
   exact ⟨by show (⟨#[82]⟩ : BA).size ≤ maxLen; decide, sl_blk int_len q3 rfl rfl (by decide), sl_blk nd_len q4 rfl rfl (by decide), sl_none, sl_none⟩)
 have q6' : W.heap[b + 1 + 1 + 1 + 1 + 1 + 1]? = some (.cells #[.slice (some ⟨b, 0, none⟩) 3 3, .slice (some ⟨b + 1, 0, none⟩) 1 1, .slice (some ⟨b + 1 + 1, 0, none⟩) 1 1, .slice (some ⟨b + 1 + 1 + 1 + 1 + 1, 0, none⟩) 1 1] 27) := q6
 obtain ⟨gl, hgl⟩ : ∃ g, g = b + 1 + 1 + 1 + 1 + 1 + 1 := ⟨_, rfl⟩
 rw [← hgl] at q6' ⊢
 have HQL := Lib.hid q6'
 have HB := Lib.hid hbw
 clear q0 q1 q2 q3 q4 q5 q6 q6' hb hgl hbw
 go_upto_region 3 with fail
 have hbx := below1 W (.cells #[.int .u64 1, .int .u32 0] 34)
 have hqx := alloc1 W (.cells #[.int .u64 1, .int .u32 0] 34) (Below.refl _ _)
 obtain ⟨w2, hw2⟩ : ∃ V, V = W.alloc (.cells #[.int .u64 1, .int .u32 0] 34) := ⟨_, rfl⟩
 rw [← hw2] at hbx hqx ⊢
 obtain ⟨go, hgo⟩ : ∃ g, g = W.heap.size := ⟨_, rfl⟩
 rw [← hgo] at hqx ⊢
 have HQO := Lib.hid hqx
 have HQ2 := Lib.hid (blk_keep hbx HQL.out)
 have HB2 := Lib.hid (below_on HB.out hbx)
 have HL2 := Lib.hid (HL.out.below hbx)
 clear hbx hqx hw2 hgo
 have K0 : Hid (∀ w', Below w2.heap.size w2 w' → Calls Try.prog 9 #[.agg #[.slice (some ⟨b, 0, none⟩) 3 3, .slice (some ⟨b + 1, 0, none⟩) 1 1, .slice (some ⟨b + 1 + 1, 0, none⟩) 1 1, .slice (some ⟨b + 1 + 1 + 1 + 1 + 1, 0, none⟩) 1 1], .agg #[.int .u64 0, .int .u32 1, .int .u32 0, .slice none 0 0], .agg #[.int .u64 1, .int .u32 0]] w' fun e w'' => e = .returned (.int .u8 0) ∧ Below w2.heap.size w2 w'') := Lib.hid (fun w' hw' => (safc_0 b w' (HL2.out.below hw')).mono (fun _ _ h => ⟨h.1, below_on hw' h.2⟩))
 have K1 : Hid (∀ w', Below w2.heap.size w2 w' → Calls Try.prog 9 #[.agg #[.slice (some ⟨b, 0, none⟩) 3 3, .slice (some ⟨b + 1, 0, none⟩) 1 1, .slice (some ⟨b + 1 + 1, 0, none⟩) 1 1, .slice (some ⟨b + 1 + 1 + 1 + 1 + 1, 0, none⟩) 1 1], .agg #[.int .u64 4, .int .u32 1, .int .u32 0, .slice none 0 0], .agg #[.int .u64 1, .int .u32 0]] w' fun e w'' => e = .returned (.int .u8 4) ∧ Below w2.heap.size w2 w'') := Lib.hid (fun w' hw' => (safc_1 b w' (HL2.out.below hw')).mono (fun _ _ h => ⟨h.1, below_on hw' h.2⟩))
 have K2 : Hid (∀ w', Below w2.heap.size w2 w' → Calls Try.prog 9 #[.agg #[.slice (some ⟨b, 0, none⟩) 3 3, .slice (some ⟨b + 1, 0, none⟩) 1 1, .slice (some ⟨b + 1 + 1, 0, none⟩) 1 1, .slice (some ⟨b + 1 + 1 + 1 + 1 + 1, 0, none⟩) 1 1], .agg #[.int .u64 0, .int .u32 0, .int .u32 0, .slice none 0 0], .agg #[.int .u64 1, .int .u32 0]] w' fun e w'' => e = .returned (.int .u8 5) ∧ Below w2.heap.size w2 w'') := Lib.hid (fun w' hw' => (safc_2 b w' (HL2.out.below hw')).mono (fun _ _ h => ⟨h.1, below_on hw' h.2⟩))
 have K3 : Hid (∀ w', Below w2.heap.size w2 w' → Calls Try.prog 9 #[.agg #[.slice (some ⟨b, 0, none⟩) 3 3, .slice (some ⟨b + 1, 0, none⟩) 1 1, .slice (some ⟨b + 1 + 1, 0, none⟩) 1 1, .slice (some ⟨b + 1 + 1 + 1 + 1 + 1, 0, none⟩) 1 1], .agg #[.int .u64 0, .int .u32 1, .int .u32 0, .slice none 0 0], .agg #[.int .u64 1, .int .u32 1]] w' fun e w'' => e = .returned (.int .u8 6) ∧ Below w2.heap.size w2 w'') := Lib.hid (fun w' hw' => (safc_3 b w' (HL2.out.below hw')).mono (fun _ _ h => ⟨h.1, below_on hw' h.2⟩))
 have K4 : Hid (∀ w', Below w2.heap.size w2 w' → Calls Try.prog 9 #[.agg #[.slice (some ⟨b, 0, none⟩) 3 3, .slice (some ⟨b + 1, 0, none⟩) 1 1, .slice (some ⟨b + 1 + 1, 0, none⟩) 1 1, .slice (some ⟨b + 1 + 1 + 1 + 1 + 1, 0, none⟩) 1 1], .agg #[.int .u64 0, .int .u32 1, .int .u32 0, .slice none 0 0], .agg #[.int .u64 2, .int .u32 0]] w' fun e w'' => e = .returned (.int .u8 2) ∧ Below w2.heap.size w2 w'') := Lib.hid (fun w' hw' => (safc_4 b w' (HL2.out.below hw')).mono (fun _ _ h => ⟨h.1, below_on hw' h.2⟩))
 have HC0 : Hid (Below w2.heap.size w2 w2) := Lib.hid (Below.refl _ _)
 obtain ⟨l0, l1, l2, l3⟩ := box4c (blk_keep HC0.out HQ2.out)
 have o0 := blk_cell (blk_keep HC0.out HQO.out) 0 _ rfl
 have o1 := blk_cell (blk_keep HC0.out HQO.out) 1 _ rfl
 go_wp2_with fail
 refine (K0.out _ HC0.out).mono ?_
 rintro e v0 ⟨rfl, hb⟩
 have HC1 := Lib.hid hb
 clear hb l0 l1 l2 l3 o0 o1
 obtain ⟨l0, l1, l2, l3⟩ := box4c (blk_keep HC1.out HQ2.out)
 have o0 := blk_cell (blk_keep HC1.out HQO.out) 0 _ rfl
 have o1 := blk_cell (blk_keep HC1.out HQO.out) 1 _ rfl
 go_wp2_with fail
 refine (K1.out _ HC1.out).mono ?_
 rintro e v1 ⟨rfl, hb⟩
 have HC2 := Lib.hid hb
 clear hb l0 l1 l2 l3 o0 o1
 obtain ⟨l0, l1, l2, l3⟩ := box4c (blk_keep HC2.out HQ2.out)
 have o0 := blk_cell (blk_keep HC2.out HQO.out) 0 _ rfl
 have o1 := blk_cell (blk_keep HC2.out HQO.out) 1 _ rfl
 go_wp2_with fail
 refine (K2.out _ HC2.out).mono ?_
 rintro e v2 ⟨rfl, hb⟩
 have HC3 := Lib.hid hb
 clear hb l0 l1 l2 l3 o0 o1
 obtain ⟨l0, l1, l2, l3⟩ := box4c (blk_keep HC3.out HQ2.out)
 have o0 := blk_cell (blk_keep HC3.out HQO.out) 0 _ rfl
 have o1 := blk_cell (blk_keep HC3.out HQO.out) 1 _ rfl
 go_wp2_with fail
 refine (K3.out _ HC3.out).mono ?_
 rintro e v3 ⟨rfl, hb⟩
 have HC4 := Lib.hid hb
 clear hb l0 l1 l2 l3 o0 o1
 obtain ⟨l0, l1, l2, l3⟩ := box4c (blk_keep HC4.out HQ2.out)
 have o0 := blk_cell (blk_keep HC4.out HQO.out) 0 _ rfl
 have o1 := blk_cell (blk_keep HC4.out HQO.out) 1 _ rfl
 go_wp2_with fail
 refine (K4.out _ HC4.out).mono ?_
 rintro e v4 ⟨rfl, hb⟩
 have HC5 := Lib.hid hb
 clear hb l0 l1 l2 l3 o0 o1
 go_wp2_with fail
 go_ret
 exact ⟨rfl, (below_on HB2.out HC5.out)⟩
end Go.Proofs.Ythnpekbmaapgnaa
