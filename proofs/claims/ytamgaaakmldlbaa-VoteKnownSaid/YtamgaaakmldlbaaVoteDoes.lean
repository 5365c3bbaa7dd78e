/-
  Walks of 'ref' and 'does' of chapter 12's statements.
-/
import Derived.Test.YtamgaaakmldlbaaVoteLawA
import Derived.Test.YtamgaaakmldlbaaVoteRefPut
namespace Go.Proofs.Ytamgaaakmldlbaa
open Go.RowKit

def VSt.step (s : VSt) (k : Int) (ch : Int) (F : Frm) : VSt := if k = 3 then s.fin.1 else if k = 4 then s.reset else if k = 5 then s.stop else (s.put ch F).1
attribute [local irreducible] VSt.put VSt.fin VSt.stop VSt.reset VSt.step

theorem pick6_is (i v : Int) (w : World) (hv : i % 6 = v) : Calls Try.prog 10 #[.int .i64 i, .int .i64 6] w fun e w' => e = .returned (.int .i64 v) ∧ w = w' :=
  hv ▸ pick6_any i w
theorem ref_any (F : Frm) (w : World) : Calls Try.prog 15 #[.agg #[.int .i64 F.c, .int .i64 F.e, .int .u64 F.p, .int .u32 F.q]] w fun e w' => e = .returned (.agg #[.int .i64 F.c, .int .i64 F.e, .int .u64 F.p, .int .u32 F.q]) ∧ Below w.heap.size w w' := by
  go_enter Try.func15, Try.ntmps15
  go_wp2
  exact bodyPost_ret (v := .agg #[.int .i64 F.c, .int .i64 F.e, .int .u64 F.p, .int .u32 F.q]) (by simp [results, Try.results15, go_sem]) rfl ⟨rfl, below2' _ _ _⟩
theorem end_iV (s s' : VSt) (r : Int) (g : Nat) (w : World) (hp : s.fin = (s', r)) (h : VoteAt w g s) :
    Calls Try.prog 17 #[.pointer (some ⟨g, 0, none⟩)] w fun e w' => e = .returned (.int .i64 r) ∧ VoteAt w' g s' ∧ Only g w w' := end_is s s' r g w hp h
theorem rend_iV (s s' : VSt) (r : Int) (g : Nat) (w : World) (hp : s.fin = (s', r)) (h : RefAt w g s) :
    Calls Try.prog 21 #[.pointer (some ⟨g, 0, none⟩)] w fun e w' => e = .returned (.int .i64 r) ∧ RefAt w' g s' ∧ Only g w w' :=
  (rend_any s g w h).mono fun e w' ⟨h1, h2, h3⟩ => by rw [hp] at h1 h2; exact ⟨h1, h2, h3⟩
theorem rput_iV (s s' : VSt) (r : Int) (ch : Int) (F : Frm) (g : Nat) (w : World) (hp : s.put ch F = (s', r)) (h : RefAt w g s) :
    Calls Try.prog 24 #[.pointer (some ⟨g, 0, none⟩), .int .i64 ch, .agg #[.int .i64 F.c, .int .i64 F.e, .int .u64 F.p, .int .u32 F.q]] w
      fun e w' => e = .returned (.int .i64 r) ∧ RefAt w' g s' ∧ Only g w w' :=
  (rput_any s ch F g w h).mono fun e w' ⟨h1, h2, h3⟩ => by rw [hp] at h1 h2; exact ⟨h1, h2, h3⟩
theorem RefAt.vote_only {w w' : World} {g k : Nat} {s r : VSt} (h : RefAt w g s) (hv : VoteAt w k r) (ho : Only k w w') : RefAt w' g s := h.only (h.ne hv).symm ho
theorem below1' {B : Nat} (w : World) (o : Obj) (h : B ≤ w.heap.size) : Below B w (w.alloc o) := (below1 w o).mono h

set_option maxHeartbeats 2000000 in
theorem does_end (s : VSt) (g h : Nat) (i k ch : Int) (F : Frm) (w : World) (hk : i % 6 = k) (hk2 : k = 3) (hv : VoteAt w g s) (hr : RefAt w h s) :
    Calls Try.prog 14 #[.pointer (some ⟨g, 0, none⟩), .pointer (some ⟨h, 0, none⟩), .agg #[.int .i64 i, .int .i64 ch, .int .i64 F.c, .int .i64 F.e, .int .u64 F.p, .int .u32 F.q]] w fun e w' => e = .returned (.bool true) ∧ VoteAt w' g (s.step k ch F) ∧ RefAt w' h (s.step k ch F) ∧ ∀ B, B ≤ g → B ≤ h → B ≤ w.heap.size → Below B w w' := by
  subst hk2
  have HK := Lib.hid hk
  clear hk
  have HS : Hid (s.step 3 ch F = s.fin.1) := Lib.hid (by unfold VSt.step; simp)
  have hv0 := hv.below (below1 w (Obj.cells #[Value.int IntKind.i64 i, Value.int IntKind.i64 ch, Value.int IntKind.i64 F.c, Value.int IntKind.i64 F.e, Value.int IntKind.u64 F.p, Value.int IntKind.u32 F.q] 46))
  have hr0 := hr.below (below1 w (Obj.cells #[Value.int IntKind.i64 i, Value.int IntKind.i64 ch, Value.int IntKind.i64 F.c, Value.int IntKind.i64 F.e, Value.int IntKind.u64 F.p, Value.int IntKind.u32 F.q] 46))
  have hwg := hv.lt
  have hwh := hr.lt
  clear hv hr
  go_enter Try.func14, Try.ntmps14
  go_wp2_with fail
  refine (pick6_is i 3 _ HK.out).mono ?_
  rintro e w' ⟨rfl, rfl⟩
  go_wp2_with fail
  obtain ⟨s', r, hf⟩ : ∃ s' r, s.fin = (s', r) := ⟨_, _, rfl⟩
  have HF := Lib.hid hf
  clear hf
  refine (end_iV s s' r g _ HF.out hv0).mono ?_
  rintro e w1 ⟨rfl, hv1, ho1⟩
  have hr1 := hr0.vote_only hv0 ho1
  go_wp2_with fail
  refine (rend_iV s s' r h _ HF.out hr1).mono ?_
  rintro e w2 ⟨rfl, hr2, ho2⟩
  have hv2 := hv1.ref_only hr1 ho2
  go_wp2_with fail
  go_ret
  rw [HS.out, HF.out]
  exact ⟨by simp, hv2, hr2, fun B h1 h2 h3 => below_only (below_only (below1' w _ h3) h1 (Nat.le_trans h3 (below1 w _).size) ho1) h2 (Nat.le_trans h3 (Nat.le_trans (below1 w _).size ho1.size)) ho2⟩

set_option maxHeartbeats 2000000 in
theorem does_reset (s : VSt) (g h : Nat) (i k ch : Int) (F : Frm) (w : World) (hk : i % 6 = k) (hk2 : k = 4) (hv : VoteAt w g s) (hr : RefAt w h s) :
    Calls Try.prog 14 #[.pointer (some ⟨g, 0, none⟩), .pointer (some ⟨h, 0, none⟩), .agg #[.int .i64 i, .int .i64 ch, .int .i64 F.c, .int .i64 F.e, .int .u64 F.p, .int .u32 F.q]] w fun e w' => e = .returned (.bool true) ∧ VoteAt w' g (s.step k ch F) ∧ RefAt w' h (s.step k ch F) ∧ ∀ B, B ≤ g → B ≤ h → B ≤ w.heap.size → Below B w w' := by
  subst hk2
  have HK := Lib.hid hk
  clear hk
  have HS : Hid (s.step 4 ch F = s.reset) := Lib.hid (by unfold VSt.step; simp)
  have hv0 := hv.below (below1 w (Obj.cells #[Value.int IntKind.i64 i, Value.int IntKind.i64 ch, Value.int IntKind.i64 F.c, Value.int IntKind.i64 F.e, Value.int IntKind.u64 F.p, Value.int IntKind.u32 F.q] 46))
  have hr0 := hr.below (below1 w (Obj.cells #[Value.int IntKind.i64 i, Value.int IntKind.i64 ch, Value.int IntKind.i64 F.c, Value.int IntKind.i64 F.e, Value.int IntKind.u64 F.p, Value.int IntKind.u32 F.q] 46))
  have hwg := hv.lt
  have hwh := hr.lt
  clear hv hr
  go_enter Try.func14, Try.ntmps14
  go_wp2_with fail
  refine (pick6_is i 4 _ HK.out).mono ?_
  rintro e w' ⟨rfl, rfl⟩
  go_wp2_with fail
  refine (reset_any s g _ hv0).mono ?_
  rintro e w1 ⟨rfl, hv1, ho1⟩
  have hr1 := hr0.vote_only hv0 ho1
  go_wp2_with fail
  refine (rreset_any s h _ hr1).mono ?_
  rintro e w2 ⟨rfl, hr2, ho2⟩
  have hv2 := hv1.ref_only hr1 ho2
  go_wp2_with fail
  go_ret
  rw [HS.out]
  exact ⟨rfl, hv2, hr2, fun B h1 h2 h3 => below_only (below_only (below1' w _ h3) h1 (Nat.le_trans h3 (below1 w _).size) ho1) h2 (Nat.le_trans h3 (Nat.le_trans (below1 w _).size ho1.size)) ho2⟩

set_option maxHeartbeats 2000000 in
theorem does_stop (s : VSt) (g h : Nat) (i k ch : Int) (F : Frm) (w : World) (hk : i % 6 = k) (hk2 : k = 5) (hv : VoteAt w g s) (hr : RefAt w h s) :
    Calls Try.prog 14 #[.pointer (some ⟨g, 0, none⟩), .pointer (some ⟨h, 0, none⟩), .agg #[.int .i64 i, .int .i64 ch, .int .i64 F.c, .int .i64 F.e, .int .u64 F.p, .int .u32 F.q]] w fun e w' => e = .returned (.bool true) ∧ VoteAt w' g (s.step k ch F) ∧ RefAt w' h (s.step k ch F) ∧ ∀ B, B ≤ g → B ≤ h → B ≤ w.heap.size → Below B w w' := by
  subst hk2
  have HK := Lib.hid hk
  clear hk
  have HS : Hid (s.step 5 ch F = s.stop) := Lib.hid (by unfold VSt.step; simp)
  have hv0 := hv.below (below1 w (Obj.cells #[Value.int IntKind.i64 i, Value.int IntKind.i64 ch, Value.int IntKind.i64 F.c, Value.int IntKind.i64 F.e, Value.int IntKind.u64 F.p, Value.int IntKind.u32 F.q] 46))
  have hr0 := hr.below (below1 w (Obj.cells #[Value.int IntKind.i64 i, Value.int IntKind.i64 ch, Value.int IntKind.i64 F.c, Value.int IntKind.i64 F.e, Value.int IntKind.u64 F.p, Value.int IntKind.u32 F.q] 46))
  have hwg := hv.lt
  have hwh := hr.lt
  clear hv hr
  go_enter Try.func14, Try.ntmps14
  go_wp2_with fail
  refine (pick6_is i 5 _ HK.out).mono ?_
  rintro e w' ⟨rfl, rfl⟩
  go_wp2_with fail
  refine (stop_any s g _ hv0).mono ?_
  rintro e w1 ⟨rfl, hv1, ho1⟩
  have hr1 := hr0.vote_only hv0 ho1
  go_wp2_with fail
  refine (rstop_any s h _ hr1).mono ?_
  rintro e w2 ⟨rfl, hr2, ho2⟩
  have hv2 := hv1.ref_only hr1 ho2
  go_wp2_with fail
  go_ret
  rw [HS.out]
  exact ⟨rfl, hv2, hr2, fun B h1 h2 h3 => below_only (below_only (below1' w _ h3) h1 (Nat.le_trans h3 (below1 w _).size) ho1) h2 (Nat.le_trans h3 (Nat.le_trans (below1 w _).size ho1.size)) ho2⟩

set_option maxHeartbeats 4000000 in
theorem does_put (s : VSt) (g h : Nat) (i k ch : Int) (F : Frm) (w : World) (hk : i % 6 = k) (hk2 : k = 0 ∨ k = 1 ∨ k = 2) (hv : VoteAt w g s) (hr : RefAt w h s) :
    Calls Try.prog 14 #[.pointer (some ⟨g, 0, none⟩), .pointer (some ⟨h, 0, none⟩), .agg #[.int .i64 i, .int .i64 ch, .int .i64 F.c, .int .i64 F.e, .int .u64 F.p, .int .u32 F.q]] w fun e w' => e = .returned (.bool true) ∧ VoteAt w' g (s.step k ch F) ∧ RefAt w' h (s.step k ch F) ∧ ∀ B, B ≤ g → B ≤ h → B ≤ w.heap.size → Below B w w' := by
  have HS : Hid (s.step k ch F = (s.put ch F).1) := Lib.hid (by
    unfold VSt.step; rw [if_neg (by omega), if_neg (by omega), if_neg (by omega)])
  have HK := Lib.hid hk
  obtain ⟨s', r, hf⟩ : ∃ s' r, s.put ch F = (s', r) := ⟨_, _, rfl⟩
  have HF := Lib.hid hf
  have k1 : (k == 3) = false := by simp; omega
  have k2 : (k == 4) = false := by simp; omega
  have k3 : (k == 5) = false := by simp; omega
  clear hk hf
  have hv0 := hv.below (below1 w (Obj.cells #[Value.int IntKind.i64 i, Value.int IntKind.i64 ch, Value.int IntKind.i64 F.c, Value.int IntKind.i64 F.e, Value.int IntKind.u64 F.p, Value.int IntKind.u32 F.q] 46))
  have hr0 := hr.below (below1 w (Obj.cells #[Value.int IntKind.i64 i, Value.int IntKind.i64 ch, Value.int IntKind.i64 F.c, Value.int IntKind.i64 F.e, Value.int IntKind.u64 F.p, Value.int IntKind.u32 F.q] 46))
  have kB := heap_new' w (Obj.cells #[Value.int IntKind.i64 i, Value.int IntKind.i64 ch, Value.int IntKind.i64 F.c, Value.int IntKind.i64 F.e, Value.int IntKind.u64 F.p, Value.int IntKind.u32 F.q] 46)
  have b0 := below1 w (Obj.cells #[Value.int IntKind.i64 i, Value.int IntKind.i64 ch, Value.int IntKind.i64 F.c, Value.int IntKind.i64 F.e, Value.int IntKind.u64 F.p, Value.int IntKind.u32 F.q] 46)
  have hwg := hv.lt
  have hwh := hr.lt
  clear hv hr hk2
  go_enter Try.func14, Try.ntmps14
  go_wp2_with fail
  refine (pick6_is i k _ HK.out).mono ?_
  rintro e w' ⟨rfl, rfl⟩
  go_wp2_with fail
  obtain ⟨W, hW⟩ : ∃ W, W = w.alloc (Obj.cells #[Value.int IntKind.i64 i, Value.int IntKind.i64 ch, Value.int IntKind.i64 F.c, Value.int IntKind.i64 F.e, Value.int IntKind.u64 F.p, Value.int IntKind.u32 F.q] 46) := ⟨_, rfl⟩
  rw [← hW] at hv0 hr0 kB b0 ⊢
  clear hW
  have hvd : VoteAt W.drew g s := hv0.below (Below.refl _ _).drew
  have hrd : RefAt W.drew h s := hr0.below (Below.refl _ _).drew
  have kBd : W.drew.heap[w.heap.size]? = _ := kB
  have nB : w.heap.size ≠ g := by omega
  have nB2 : w.heap.size ≠ h := by omega
  have bd : Below w.heap.size w W.drew := b0.drew
  clear hv0 hr0 kB b0
  go_region_held3 (fun w' => w'.cell? ⟨w.heap.size, 0, none⟩ = some (.int .i64 i) ∧ w'.cell? ⟨w.heap.size, 1, none⟩ = some (.int .i64 ch) ∧ w'.cell? ⟨w.heap.size, 2, none⟩ = some (.int .i64 F.c) ∧ w'.cell? ⟨w.heap.size, 3, none⟩ = some (.int .i64 F.e) ∧ w'.cell? ⟨w.heap.size, 4, none⟩ = some (.int .u64 F.p) ∧ w'.cell? ⟨w.heap.size, 5, none⟩ = some (.int .u32 F.q))
    (first | exact ⟨blk_cell kB3 0 _ rfl, blk_cell kB3 1 _ rfl, blk_cell kB3 2 _ rfl, blk_cell kB3 3 _ rfl, blk_cell kB3 4 _ rfl, blk_cell kB3 5 _ rfl⟩ | exact ⟨blk_cell kB2 0 _ rfl, blk_cell kB2 1 _ rfl, blk_cell kB2 2 _ rfl, blk_cell kB2 3 _ rfl, blk_cell kB2 4 _ rfl, blk_cell kB2 5 _ rfl⟩ | exact ⟨blk_cell kB1 0 _ rfl, blk_cell kB1 1 _ rfl, blk_cell kB1 2 _ rfl, blk_cell kB1 3 _ rfl, blk_cell kB1 4 _ rfl, blk_cell kB1 5 _ rfl⟩ | exact ⟨blk_cell kBd 0 _ rfl, blk_cell kBd 1 _ rfl, blk_cell kBd 2 _ rfl, blk_cell kBd 3 _ rfl, blk_cell kBd 4 _ rfl, blk_cell kBd 5 _ rfl⟩)
    (first
      | ((with_reducible refine (put_iF s s' r ch F g _ HF.out hvd).mono ?_); rintro e w1 ⟨rfl, hv1, ho1⟩; have kB1 := ho1.keep nB kBd; have hr1 := hrd.vote_only hvd ho1)
      | ((with_reducible refine (ref_any F _).mono ?_); rintro e w2 ⟨rfl, hb2⟩; have kB2 := blk_keep hb2 kB1; have hv2 := hv1.below hb2; have hr2 := hr1.below hb2)
      | ((with_reducible refine (rput_iV s s' r ch F h _ HF.out hr2).mono ?_); rintro e w3 ⟨rfl, hr3, ho3⟩; have kB3 := ho3.keep nB2 kB2))
  have hv3 := hv2.ref_only hr2 ho3
  go_wp2_with fail
  go_ret
  rw [HS.out, HF.out]
  refine ⟨rfl, hv3, hr3, fun B h1 h2 h3 => ?_⟩
  have d0 := bd.mono h3
  have d1 := below_only d0 h1 (Nat.le_trans h3 d0.size) ho1
  have d2 := d1.trans (hb2.mono (Nat.le_trans h3 d1.size))
  exact below_only d2 h2 (Nat.le_trans h3 d2.size) ho3
theorem does_any (s : VSt) (g h : Nat) (i ch : Int) (F : Frm) (w : World) (hv : VoteAt w g s) (hr : RefAt w h s) :
    Calls Try.prog 14 #[.pointer (some ⟨g, 0, none⟩), .pointer (some ⟨h, 0, none⟩), .agg #[.int .i64 i, .int .i64 ch, .int .i64 F.c, .int .i64 F.e, .int .u64 F.p, .int .u32 F.q]] w fun e w' => e = .returned (.bool true) ∧ (∃ s', VoteAt w' g s' ∧ RefAt w' h s') ∧ ∀ B, B ≤ g → B ≤ h → B ≤ w.heap.size → Below B w w' := by
  rcases (show i % 6 = 0 ∨ i % 6 = 1 ∨ i % 6 = 2 ∨ i % 6 = 3 ∨ i % 6 = 4 ∨ i % 6 = 5 by omega) with hk | hk | hk | hk | hk | hk
  · exact (does_put s g h i 0 ch F w hk (by simp) hv hr).mono fun e w' ⟨h1, h2, h3, h4⟩ => ⟨h1, ⟨_, h2, h3⟩, h4⟩
  · exact (does_put s g h i 1 ch F w hk (by simp) hv hr).mono fun e w' ⟨h1, h2, h3, h4⟩ => ⟨h1, ⟨_, h2, h3⟩, h4⟩
  · exact (does_put s g h i 2 ch F w hk (by simp) hv hr).mono fun e w' ⟨h1, h2, h3, h4⟩ => ⟨h1, ⟨_, h2, h3⟩, h4⟩
  · exact (does_end s g h i 3 ch F w hk rfl hv hr).mono fun e w' ⟨h1, h2, h3, h4⟩ => ⟨h1, ⟨_, h2, h3⟩, h4⟩
  · exact (does_reset s g h i 4 ch F w hk rfl hv hr).mono fun e w' ⟨h1, h2, h3, h4⟩ => ⟨h1, ⟨_, h2, h3⟩, h4⟩
  · exact (does_stop s g h i 5 ch F w hk rfl hv hr).mono fun e w' ⟨h1, h2, h3, h4⟩ => ⟨h1, ⟨_, h2, h3⟩, h4⟩
end Go.Proofs.Ytamgaaakmldlbaa
