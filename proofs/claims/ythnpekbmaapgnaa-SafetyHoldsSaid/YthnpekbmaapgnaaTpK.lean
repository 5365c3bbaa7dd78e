/-
 Walks: semaphorekit.Yard.
-/
import Derived.Test.YthnpekbmaapgnaaME
namespace Go.Proofs.Ythnpekbmaapgnaa
open Go.RowKit

def yR1 (b : Nat) : Rt := ⟨⟨#[82, 49]⟩, 0, ⟨(some ⟨b + 4, 0, none⟩), 2, [1, 2]⟩, ⟨(some ⟨b + 5, 0, none⟩), 2, [(0, false), (1, false)]⟩, ⟨(some ⟨b + 6, 0, none⟩), 1, [3]⟩, ⟨none, 0, []⟩⟩
def yR2 (b : Nat) : Rt := ⟨⟨#[82, 50]⟩, 0, ⟨(some ⟨b + 7, 0, none⟩), 2, [1, 5]⟩, ⟨(some ⟨b + 8, 0, none⟩), 1, [(0, true)]⟩, ⟨none, 0, []⟩, ⟨none, 0, []⟩⟩
def yR3 (b : Nat) : Rt := ⟨⟨#[82, 51]⟩, 1, ⟨(some ⟨b + 9, 0, none⟩), 2, [3, 2]⟩, ⟨(some ⟨b + 10, 0, none⟩), 1, [(1, false)]⟩, ⟨none, 0, []⟩, ⟨none, 0, []⟩⟩
def yR4 (b : Nat) : Rt := ⟨⟨#[82, 52]⟩, 2, ⟨(some ⟨b + 11, 0, none⟩), 1, [4]⟩, ⟨none, 0, []⟩, ⟨none, 0, []⟩, ⟨(some ⟨b + 12, 0, none⟩), 1, [(1, true)]⟩⟩
def yR5 (b : Nat) : Rt := ⟨⟨#[82, 53]⟩, 1, ⟨(some ⟨b + 13, 0, none⟩), 1, [3]⟩, ⟨(some ⟨b + 14, 0, none⟩), 1, [(1, true)]⟩, ⟨(some ⟨b + 15, 0, none⟩), 1, [5]⟩, ⟨none, 0, []⟩⟩
def yS : List BA := [⟨#[97]⟩, ⟨#[98]⟩, ⟨#[99]⟩, ⟨#[100]⟩, ⟨#[101]⟩, ⟨#[102]⟩]
def yP : List (BA × Int) := [(⟨#[80]⟩, 1), (⟨#[81]⟩, 3)]
def yG : List (BA × Int) := [(⟨#[71]⟩, 0), (⟨#[72]⟩, 4), (⟨#[75]⟩, 5)]
def yRs (b : Nat) : List Rt := [yR1 b, yR2 b, yR3 b, yR4 b, yR5 b]
def yardL (b : Nat) : Lay := ⟨⟨(some ⟨b + 1, 0, none⟩), 6, yS⟩, ⟨(some ⟨b + 2, 0, none⟩), 2, yP⟩, ⟨(some ⟨b + 3, 0, none⟩), 3, yG⟩, ⟨(some ⟨b + 16, 0, none⟩), 5, yRs b⟩⟩
/-- the values that the routes' row holds -/
def yRv (b : Nat) : Array Value := #[.string ⟨#[82, 49]⟩, .int .i64 0, .slice (some ⟨b + 4, 0, none⟩) 2 2, .slice (some ⟨b + 5, 0, none⟩) 2 2, .slice (some ⟨b + 6, 0, none⟩) 1 1, .slice none 0 0, .string ⟨#[82, 50]⟩, .int .i64 0, .slice (some ⟨b + 7, 0, none⟩) 2 2, .slice (some ⟨b + 8, 0, none⟩) 1 1, .slice none 0 0, .slice none 0 0, .string ⟨#[82, 51]⟩, .int .i64 1, .slice (some ⟨b + 9, 0, none⟩) 2 2, .slice (some ⟨b + 10, 0, none⟩) 1 1, .slice none 0 0, .slice none 0 0, .string ⟨#[82, 52]⟩, .int .i64 2, .slice (some ⟨b + 11, 0, none⟩) 1 1, .slice none 0 0, .slice none 0 0, .slice (some ⟨b + 12, 0, none⟩) 1 1, .string ⟨#[82, 53]⟩, .int .i64 1, .slice (some ⟨b + 13, 0, none⟩) 1 1, .slice (some ⟨b + 14, 0, none⟩) 1 1, .slice (some ⟨b + 15, 0, none⟩) 1 1, .slice none 0 0]
/-- the blocks that Yard makes -/
def yardO (b : Nat) : List Obj := [
 .cells #[.slice (some ⟨b + 1, 0, none⟩) 6 6, .slice (some ⟨b + 2, 0, none⟩) 2 2, .slice (some ⟨b + 3, 0, none⟩) 3 3, .slice (some ⟨b + 16, 0, none⟩) 5 5] 27,
 .cells #[.string ⟨#[97]⟩, .string ⟨#[98]⟩, .string ⟨#[99]⟩, .string ⟨#[100]⟩, .string ⟨#[101]⟩, .string ⟨#[102]⟩] 9,
 .cells #[.string ⟨#[80]⟩, .int .i64 1, .string ⟨#[81]⟩, .int .i64 3] 57,
 .cells #[.string ⟨#[71]⟩, .int .i64 0, .string ⟨#[72]⟩, .int .i64 4, .string ⟨#[75]⟩, .int .i64 5] 67,
 .cells #[.int .i64 1, .int .i64 2] 3,
 .cells #[.int .i64 0, .bool false, .int .i64 1, .bool false] 79,
 .cells #[.int .i64 3] 3,
 .cells #[.int .i64 1, .int .i64 5] 3,
 .cells #[.int .i64 0, .bool true] 79,
 .cells #[.int .i64 3, .int .i64 2] 3,
 .cells #[.int .i64 1, .bool false] 79,
 .cells #[.int .i64 4] 3,
 .cells #[.int .i64 1, .bool true] 79,
 .cells #[.int .i64 3] 3,
 .cells #[.int .i64 1, .bool true] 79,
 .cells #[.int .i64 5] 3,
 .cells (yRv b) 54]
/-- a yard lies in memory, from block b on -/
def YardAt (w : World) (b : Nat) : Prop := ∀ i o, (yardO b)[i]? = some o → w.heap[b + i]? = some o
theorem YardAt.below {w w' : World} {b : Nat} (h : YardAt w b) (hb : Below w.heap.size w w') : YardAt w' b := fun i o hi => blk_keep hb (h i o hi)
theorem yard_le {b : Nat} {w : World} (h : YardAt w b) : b + 17 ≤ w.heap.size := blk_lt (h 16 _ rfl)
/-- a row of the yard, outside of X -/
theorem yrow {α : Type} {sz : Nat} {f : α → List Value} {X : Nat → Prop} {w : World} {g n : Nat} {cs : Array Value} {t : TypeId} {l : List α} (hf : ∀ c, (f c).length = sz) (h : w.heap[g]? = some (.cells cs t (0, 0))) (hcs : cs.toList = l.flatMap f) (hn : l.length = n) (hm : n ≤ maxLen) (hx : ¬ X g) : SlX sz f X w ⟨some ⟨g, 0, none⟩, n, l⟩ :=
 ⟨sl_blk hf h hcs hn hm, .inr ⟨g, 0, rfl, blk_lt h, hx⟩, .inr ⟨g, 0, rfl, fun i => blk_free h i⟩⟩
theorem yR1_at {X : Nat → Prop} {w : World} {b : Nat} (h : YardAt w b) (hx : ∀ i, i < 16 → ¬ X (b + i)) : RtX X w (yR1 b) := ⟨by show (⟨#[82, 49]⟩ : BA).size ≤ maxLen; decide, yrow int_len (h 4 _ rfl) rfl rfl (by decide) (hx 4 (by decide)), yrow nd_len (h 5 _ rfl) rfl rfl (by decide) (hx 5 (by decide)), yrow int_len (h 6 _ rfl) rfl rfl (by decide) (hx 6 (by decide)), SlX.nil⟩
theorem yR2_at {X : Nat → Prop} {w : World} {b : Nat} (h : YardAt w b) (hx : ∀ i, i < 16 → ¬ X (b + i)) : RtX X w (yR2 b) := ⟨by show (⟨#[82, 50]⟩ : BA).size ≤ maxLen; decide, yrow int_len (h 7 _ rfl) rfl rfl (by decide) (hx 7 (by decide)), yrow nd_len (h 8 _ rfl) rfl rfl (by decide) (hx 8 (by decide)), SlX.nil, SlX.nil⟩
theorem yR3_at {X : Nat → Prop} {w : World} {b : Nat} (h : YardAt w b) (hx : ∀ i, i < 16 → ¬ X (b + i)) : RtX X w (yR3 b) := ⟨by show (⟨#[82, 51]⟩ : BA).size ≤ maxLen; decide, yrow int_len (h 9 _ rfl) rfl rfl (by decide) (hx 9 (by decide)), yrow nd_len (h 10 _ rfl) rfl rfl (by decide) (hx 10 (by decide)), SlX.nil, SlX.nil⟩
theorem yR4_at {X : Nat → Prop} {w : World} {b : Nat} (h : YardAt w b) (hx : ∀ i, i < 16 → ¬ X (b + i)) : RtX X w (yR4 b) := ⟨by show (⟨#[82, 52]⟩ : BA).size ≤ maxLen; decide, yrow int_len (h 11 _ rfl) rfl rfl (by decide) (hx 11 (by decide)), SlX.nil, SlX.nil, yrow nd_len (h 12 _ rfl) rfl rfl (by decide) (hx 12 (by decide))⟩
theorem yR5_at {X : Nat → Prop} {w : World} {b : Nat} (h : YardAt w b) (hx : ∀ i, i < 16 → ¬ X (b + i)) : RtX X w (yR5 b) := ⟨by show (⟨#[82, 53]⟩ : BA).size ≤ maxLen; decide, yrow int_len (h 13 _ rfl) rfl rfl (by decide) (hx 13 (by decide)), yrow nd_len (h 14 _ rfl) rfl rfl (by decide) (hx 14 (by decide)), yrow int_len (h 15 _ rfl) rfl rfl (by decide) (hx 15 (by decide)), SlX.nil⟩
theorem yS_ok : ∀ s ∈ yS, s.size ≤ maxLen := by
 intro s hs
 simp [yS] at hs
 rcases hs with rfl | rfl | rfl | rfl | rfl | rfl <;> decide
theorem yP_ok : ∀ p ∈ yP, p.1.size ≤ maxLen := by
 intro s hs
 simp [yP] at hs
 rcases hs with rfl | rfl <;> decide
theorem yG_ok : ∀ p ∈ yG, p.1.size ≤ maxLen := by
 intro s hs
 simp [yG] at hs
 rcases hs with rfl | rfl | rfl <;> decide
theorem yard_x {X : Nat → Prop} {w : World} {b : Nat} (h : YardAt w b) (hx : ∀ i, i < 17 → ¬ X (b + i)) : LayX X w (yardL b) := by
 refine ⟨yrow str_len (h 1 _ rfl) rfl rfl (by decide) (hx 1 (by decide)), yrow pt_len (h 2 _ rfl) rfl rfl (by decide) (hx 2 (by decide)), yrow pt_len (h 3 _ rfl) rfl rfl (by decide) (hx 3 (by decide)), yrow rt_len (h 16 _ rfl) rfl rfl (by decide) (hx 16 (by decide)), yS_ok, yP_ok, yG_ok, fun r hr => ?_⟩
 have hx' : ∀ i, i < 16 → ¬ X (b + i) := fun i hi => hx i (by omega)
 have hr' : r ∈ yRs b := hr
 simp [yRs] at hr'
 rcases hr' with rfl | rfl | rfl | rfl | rfl
 ·exact yR1_at h hx'
 ·exact yR2_at h hx'
 ·exact yR3_at h hx'
 ·exact yR4_at h hx'
 ·exact yR5_at h hx'
theorem yard_at {w : World} {b : Nat} (h : YardAt w b) : LayAt w (yardL b) := (yard_x (X := fun _ => False) h (fun _ _ e => e)).at_
set_option maxRecDepth 100000 in
set_option maxHeartbeats 4000000 in
theorem yard_is (w : World) : Calls Try.prog 16 #[] w fun e w' => ∃ b, b = w.heap.size ∧ e = .returned (.agg #[.slice (some ⟨b + 1, 0, none⟩) 6 6, .slice (some ⟨b + 2, 0, none⟩) 2 2, .slice (some ⟨b + 3, 0, none⟩) 3 3, .slice (some ⟨b + 16, 0, none⟩) 5 5]) ∧ YardAt w' b ∧ Below w.heap.size w w' := by
 go_enter Try.func16, Try.ntmps16
 go_wp2_with fail
 obtain ⟨b, hb⟩ : ∃ b, b = w.heap.size := ⟨_, rfl⟩
 refine name_last (os := yardO b) (w0 := w) (by rw [hb]; rfl) ?_
 intro W hat hbw
 rw [← hb] at hat
 have e := hat 0 _ rfl
 rw [Nat.add_zero] at e
 have e0 := blk_cell e 0 _ rfl
 have e1 := blk_cell e 1 _ rfl
 have e2 := blk_cell e 2 _ rfl
 have e3 := blk_cell e 3 _ rfl
 rw [hb] at e0 e1 e2 e3
 refine bodyPost_ret (v := .agg #[.slice (some ⟨w.heap.size + 1, 0, none⟩) 6 6, .slice (some ⟨w.heap.size + 2, 0, none⟩) 2 2, .slice (some ⟨w.heap.size + 3, 0, none⟩) 3 3, .slice (some ⟨w.heap.size + 16, 0, none⟩) 5 5]) (by simp [results, Try.results16, go_sem, e0, e1, e2, e3]) rfl ?_
 exact ⟨b, hb, by rw [hb], hat, hbw⟩
end Go.Proofs.Ythnpekbmaapgnaa
