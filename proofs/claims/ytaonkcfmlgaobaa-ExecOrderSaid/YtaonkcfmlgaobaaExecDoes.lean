/-
  Walks of 'same', 'does', 'works' of chapter 19's statements.
-/
import Derived.Test.YtaonkcfmlgaobaaExecArgs
namespace Go.Proofs.Ytaonkcfmlgaobaa
open Go.RowKit
attribute [local irreducible] ESt.tick ESt.done ESt.reset ESt.left ESt.pick badB

theorem ExAt.ne {w : World} {g h : Nat} {s r : ESt} (hx : ExAt w g s) (hr : RxAt w h r) : g ≠ h := by
  rintro rfl
  obtain ⟨t, _, _, _, h4⟩ := hr
  unfold ExAt at hx
  rw [hx] at h4
  have := congrArg (fun o : Option Obj => match o with | some (.cells _ t _) => t | _ => 0) h4
  simp at this
theorem ExAt.lt {w : World} {g : Nat} {s : ESt} (h : ExAt w g s) : g < w.heap.size := blk_lt h
theorem RxAt.lt {w : World} {g : Nat} {s : ESt} (h : RxAt w g s) : g < w.heap.size := by obtain ⟨t, _, _, _, h⟩ := h; exact blk_lt h
set_option maxHeartbeats 2000000 in
theorem same_any (s : ESt) (g h : Nat) (w : World) (hx : ExAt w g s) (hr : RxAt w h s) (hi : EInv s) : Calls Try.prog 9 #[.pointer (some ⟨g, 0, none⟩), .pointer (some ⟨h, 0, none⟩)] w fun e w' => e = .returned (.bool true) ∧ Below w.heap.size w w' := by
  have HR := hr
  obtain ⟨t, _, _, _, kR⟩ := hr
  have c1 : ∀ w', Below w.heap.size w w' → Calls Try.prog 15 #[.pointer (some ⟨g, 0, none⟩)] w' fun e w'' => e = .returned (.int .i64 s.cy) ∧ Below w.heap.size w w'' :=
    fun w' hw' => (cycle_any s g w' (hx.below hw')).mono (fun e w9 ⟨h1, h2⟩ => ⟨h1, h2 ▸ hw'⟩)
  have c2 : ∀ w', Below w.heap.size w w' → Calls Try.prog 16 #[.pointer (some ⟨g, 0, none⟩)] w' fun e w'' => e = .returned (.int .i64 s.p) ∧ Below w.heap.size w w'' :=
    fun w' hw' => (phase_any s g w' (hx.below hw')).mono (fun e w9 ⟨h1, h2⟩ => ⟨h1, h2 ▸ hw'⟩)
  have c3 : ∀ w', Below w.heap.size w w' → Calls Try.prog 18 #[.pointer (some ⟨g, 0, none⟩)] w' fun e w'' => e = .returned (.int .i64 s.left) ∧ Below w.heap.size w w'' :=
    fun w' hw' => (left_any s g w' (hx.below hw') hi).mono (fun e w9 ⟨h1, h2⟩ => ⟨h1, below_on hw' h2⟩)
  have c4 : ∀ w', Below w.heap.size w w' → Calls Try.prog 19 #[.pointer (some ⟨h, 0, none⟩)] w' fun e w'' => e = .returned (.int .i64 s.left) ∧ Below w.heap.size w w'' :=
    fun w' hw' => (rleft_any s h w' (HR.below hw') hi).mono (fun e w9 ⟨h1, h2⟩ => ⟨h1, below_on hw' h2⟩)
  have c5 : ∀ w', Below w.heap.size w w' → Calls Try.prog 13 #[.pointer (some ⟨g, 0, none⟩)] w' fun e w'' => e = .returned (.bool s.late) ∧ Below w.heap.size w w'' :=
    fun w' hw' => (late_any s g w' (hx.below hw')).mono (fun e w9 ⟨h1, h2⟩ => ⟨h1, h2 ▸ hw'⟩)
  go_enter Try.func9, Try.ntmps9
  go_wp2_with fail
  refine wp_region_calm (by kernel_rfl) ?_ ?_
  · kernel_rfl
  repeat
    (with_reducible apply wpQuiet_step
     intro K hK
     go_simp
     first
       | (refine hK _ ?_; clear hK K)
       | (apply Exists.intro
          refine ⟨fun w' hw' => ?_, hK _ ?_⟩
          ·
            (first
             | with_reducible exact c1 _ hw'
             | with_reducible exact c2 _ hw'
             | with_reducible exact c3 _ hw'
             | with_reducible exact c4 _ hw'
             | with_reducible exact c5 _ hw'
             | (have e2 := blk_cell (blk_keep hw' kR) 2 _ rfl
                have e3 := blk_cell (blk_keep hw' kR) 3 _ rfl
                have e5 := blk_cell (blk_keep hw' kR) 5 _ rfl
                go_simp
                first | done | with_reducible exact rfl | with_reducible exact ⟨rfl, rfl⟩ | with_reducible exact c1 _ hw' | with_reducible exact c2 _ hw' | with_reducible exact c3 _ hw' | with_reducible exact c4 _ hw' | with_reducible exact c5 _ hw'))
          clear hK K))
  refine wpQuiet_nil ?_
  intro w7 hw7
  go_wp2_with fail
  go_ret
  exact ⟨rfl, hw7⟩
theorem tick_is (s s1 : ESt) (r : Int) (g : Nat) (w : World) (hd : s.tick = (s1, r)) (h : ExAt w g s) (hi : EInv s) : Calls Try.prog 11 #[.pointer (some ⟨g, 0, none⟩)] w fun e w' => e = .returned (.int .i64 r) ∧ ExAt w' g s1 ∧ Only g w w' :=
  (tick_any s g w h hi).mono fun e w' ⟨h1, h2, h3⟩ => by rw [hd] at h1 h2; exact ⟨h1, h2, h3⟩
theorem reset_is (s s1 : ESt) (r : Int) (g : Nat) (w : World) (hd : s.reset = (s1, r)) (h : ExAt w g s) : Calls Try.prog 12 #[.pointer (some ⟨g, 0, none⟩)] w fun e w' => e = .returned (.int .i64 r) ∧ ExAt w' g s1 ∧ Only g w w' :=
  (reset_any s g w h).mono fun e w' ⟨h1, h2, h3⟩ => by rw [hd] at h1 h2; exact ⟨h1, h2, h3⟩
theorem pick_is (s s1 : ESt) (cn r : Int) (a : Option Addr) (n cap : Nat) (l : List Int) (g : Nat) (w : World) (hd : s.pick 0 l = (s1, cn, r)) (hn : l.length = n) (hnl : n ≤ 100000) (hl : IntsAt w a l) (hag : ∀ x, a = some x → l ≠ [] → x.block ≠ g) (h : ExAt w g s) (hi : EInv s) :
    Calls Try.prog 17 #[.pointer (some ⟨g, 0, none⟩), .slice a n cap] w fun e w' => e = .returned (.tuple #[.int .i64 cn, .int .i64 r]) ∧ ExAt w' g s1 ∧ Only g w w' :=
  (pick_any s a n cap l g w hn hnl hl hag h hi).mono fun e w' ⟨h1, h2, h3⟩ => by rw [hd] at h1 h2; exact ⟨h1, h2, h3⟩

set_option maxHeartbeats 2000000 in
theorem does_tick0 (s : ESt) (g h : Nat) (c : Cl) (kk : Nat) (w : World) (hk : c.k % 6 = kk) (hk2 : kk = 0) (hx : ExAt w g s) (hr : RxAt w h s) (hi : EInv s) (hc : ClAt w c) (_hcn : c.n ≤ 3000) (_hcg : ∀ x, c.a = some x → c.l ≠ [] → x.block ≠ g ∧ x.block ≠ h) :
    Calls Try.prog 10 #[.pointer (some ⟨g, 0, none⟩), .pointer (some ⟨h, 0, none⟩), .agg #[.int .u8 (c.k : Int), .int .i64 c.ph, .slice c.a c.n c.c]] w fun e w' => e = .returned (.bool true) ∧ (∃ s', ExAt w' g s' ∧ RxAt w' h s' ∧ EInv s') ∧ ∀ B, B ≤ g → B ≤ h → B ≤ w.heap.size → Below B w w' := by
  have hm : (c.k : Int) % 6 = (kk : Int) := by omega
  have b2 : ((kk : Int) == 2) = false := by simp; omega
  have b3 : ((kk : Int) == 3) = false := by simp; omega
  have b4 : ((kk : Int) == 4) = false := by simp; omega
  have b5 : ((kk : Int) == 5) = false := by simp; omega
  have hgh := hx.ne hr
  have hx0 := hx.below (below1 w (Obj.cells #[Value.int IntKind.u8 (c.k : Int), Value.int IntKind.i64 c.ph, Value.slice c.a c.n c.c] 35))
  have hr0 := hr.below (below1 w (Obj.cells #[Value.int IntKind.u8 (c.k : Int), Value.int IntKind.i64 c.ph, Value.slice c.a c.n c.c] 35))
  have hc0 := hc.below (below1 w (Obj.cells #[Value.int IntKind.u8 (c.k : Int), Value.int IntKind.i64 c.ph, Value.slice c.a c.n c.c] 35))
  have b0 := below1 w (Obj.cells #[Value.int IntKind.u8 (c.k : Int), Value.int IntKind.i64 c.ph, Value.slice c.a c.n c.c] 35)
  have kB := alloc1 w (Obj.cells #[Value.int IntKind.u8 (c.k : Int), Value.int IntKind.i64 c.ph, Value.slice c.a c.n c.c] 35) (Below.refl _ _)
  have hgl := hx.lt
  have hhl := hr.lt
  clear hk hx hr hc
  clear hk2
  go_enter Try.func10, Try.ntmps10
  go_wp2_with fail
  refine (tick_any s g _ hx0 hi).mono ?_
  rintro e w1 ⟨rfl, hx1, ho1⟩
  have hr1 := hr0.only hgh ho1
  go_wp2_with fail
  refine (rtick_any s h _ hr1 hi).mono ?_
  rintro e w2 ⟨rfl, hr2, ho2⟩
  have hx2 := hx1.only hgh.symm ho2
  go_wp2_with fail
  go_ret
  exact ⟨by simp, ⟨_, hx2, hr2, hi.tick⟩, fun B h1 h2 h3 => Only.below (Only.below (b0.mono h3) h1 (Nat.le_trans h3 b0.size) ho1) h2 (Nat.le_trans h3 (Nat.le_trans b0.size ho1.size)) ho2⟩

set_option maxHeartbeats 2000000 in
theorem does_tick1 (s : ESt) (g h : Nat) (c : Cl) (kk : Nat) (w : World) (hk : c.k % 6 = kk) (hk2 : kk = 1) (hx : ExAt w g s) (hr : RxAt w h s) (hi : EInv s) (hc : ClAt w c) (_hcn : c.n ≤ 3000) (_hcg : ∀ x, c.a = some x → c.l ≠ [] → x.block ≠ g ∧ x.block ≠ h) :
    Calls Try.prog 10 #[.pointer (some ⟨g, 0, none⟩), .pointer (some ⟨h, 0, none⟩), .agg #[.int .u8 (c.k : Int), .int .i64 c.ph, .slice c.a c.n c.c]] w fun e w' => e = .returned (.bool true) ∧ (∃ s', ExAt w' g s' ∧ RxAt w' h s' ∧ EInv s') ∧ ∀ B, B ≤ g → B ≤ h → B ≤ w.heap.size → Below B w w' := by
  have hm : (c.k : Int) % 6 = (kk : Int) := by omega
  have b2 : ((kk : Int) == 2) = false := by simp; omega
  have b3 : ((kk : Int) == 3) = false := by simp; omega
  have b4 : ((kk : Int) == 4) = false := by simp; omega
  have b5 : ((kk : Int) == 5) = false := by simp; omega
  have hgh := hx.ne hr
  have hx0 := hx.below (below1 w (Obj.cells #[Value.int IntKind.u8 (c.k : Int), Value.int IntKind.i64 c.ph, Value.slice c.a c.n c.c] 35))
  have hr0 := hr.below (below1 w (Obj.cells #[Value.int IntKind.u8 (c.k : Int), Value.int IntKind.i64 c.ph, Value.slice c.a c.n c.c] 35))
  have hc0 := hc.below (below1 w (Obj.cells #[Value.int IntKind.u8 (c.k : Int), Value.int IntKind.i64 c.ph, Value.slice c.a c.n c.c] 35))
  have b0 := below1 w (Obj.cells #[Value.int IntKind.u8 (c.k : Int), Value.int IntKind.i64 c.ph, Value.slice c.a c.n c.c] 35)
  have kB := alloc1 w (Obj.cells #[Value.int IntKind.u8 (c.k : Int), Value.int IntKind.i64 c.ph, Value.slice c.a c.n c.c] 35) (Below.refl _ _)
  have hgl := hx.lt
  have hhl := hr.lt
  clear hk hx hr hc
  clear hk2
  go_enter Try.func10, Try.ntmps10
  go_wp2_with fail
  refine (tick_any s g _ hx0 hi).mono ?_
  rintro e w1 ⟨rfl, hx1, ho1⟩
  have hr1 := hr0.only hgh ho1
  go_wp2_with fail
  refine (rtick_any s h _ hr1 hi).mono ?_
  rintro e w2 ⟨rfl, hr2, ho2⟩
  have hx2 := hx1.only hgh.symm ho2
  go_wp2_with fail
  go_ret
  exact ⟨by simp, ⟨_, hx2, hr2, hi.tick⟩, fun B h1 h2 h3 => Only.below (Only.below (b0.mono h3) h1 (Nat.le_trans h3 b0.size) ho1) h2 (Nat.le_trans h3 (Nat.le_trans b0.size ho1.size)) ho2⟩

set_option maxHeartbeats 2000000 in
theorem does_reset (s : ESt) (g h : Nat) (c : Cl) (kk : Nat) (w : World) (hk : c.k % 6 = kk) (hk2 : kk = 5) (hx : ExAt w g s) (hr : RxAt w h s) (hi : EInv s) (hc : ClAt w c) (_hcn : c.n ≤ 3000) (_hcg : ∀ x, c.a = some x → c.l ≠ [] → x.block ≠ g ∧ x.block ≠ h) :
    Calls Try.prog 10 #[.pointer (some ⟨g, 0, none⟩), .pointer (some ⟨h, 0, none⟩), .agg #[.int .u8 (c.k : Int), .int .i64 c.ph, .slice c.a c.n c.c]] w fun e w' => e = .returned (.bool true) ∧ (∃ s', ExAt w' g s' ∧ RxAt w' h s' ∧ EInv s') ∧ ∀ B, B ≤ g → B ≤ h → B ≤ w.heap.size → Below B w w' := by
  have hm : (c.k : Int) % 6 = (kk : Int) := by omega
  have b2 : ((kk : Int) == 2) = false := by simp; omega
  have b3 : ((kk : Int) == 3) = false := by simp; omega
  have b4 : ((kk : Int) == 4) = false := by simp; omega
  have b5 : ((kk : Int) == 5) = true := by simp; omega
  have hgh := hx.ne hr
  have hx0 := hx.below (below1 w (Obj.cells #[Value.int IntKind.u8 (c.k : Int), Value.int IntKind.i64 c.ph, Value.slice c.a c.n c.c] 35))
  have hr0 := hr.below (below1 w (Obj.cells #[Value.int IntKind.u8 (c.k : Int), Value.int IntKind.i64 c.ph, Value.slice c.a c.n c.c] 35))
  have hc0 := hc.below (below1 w (Obj.cells #[Value.int IntKind.u8 (c.k : Int), Value.int IntKind.i64 c.ph, Value.slice c.a c.n c.c] 35))
  have b0 := below1 w (Obj.cells #[Value.int IntKind.u8 (c.k : Int), Value.int IntKind.i64 c.ph, Value.slice c.a c.n c.c] 35)
  have kB := alloc1 w (Obj.cells #[Value.int IntKind.u8 (c.k : Int), Value.int IntKind.i64 c.ph, Value.slice c.a c.n c.c] 35) (Below.refl _ _)
  have hgl := hx.lt
  have hhl := hr.lt
  clear hk hx hr hc
  clear hk2
  go_enter Try.func10, Try.ntmps10
  go_wp2_with fail
  refine (reset_any s g _ hx0).mono ?_
  rintro e w1 ⟨rfl, hx1, ho1⟩
  have hr1 := hr0.only hgh ho1
  go_wp2_with fail
  refine (rreset_any s h _ hr1).mono ?_
  rintro e w2 ⟨rfl, hr2, ho2⟩
  have hx2 := hx1.only hgh.symm ho2
  go_wp2_with fail
  go_ret
  exact ⟨by simp, ⟨_, hx2, hr2, hi.reset⟩, fun B h1 h2 h3 => Only.below (Only.below (b0.mono h3) h1 (Nat.le_trans h3 b0.size) ho1) h2 (Nat.le_trans h3 (Nat.le_trans b0.size ho1.size)) ho2⟩

set_option maxHeartbeats 2000000 in
theorem does_done2 (s : ESt) (g h : Nat) (c : Cl) (kk : Nat) (w : World) (hk : c.k % 6 = kk) (hk2 : kk = 2) (hx : ExAt w g s) (hr : RxAt w h s) (hi : EInv s) (hc : ClAt w c) (_hcn : c.n ≤ 3000) (_hcg : ∀ x, c.a = some x → c.l ≠ [] → x.block ≠ g ∧ x.block ≠ h) :
    Calls Try.prog 10 #[.pointer (some ⟨g, 0, none⟩), .pointer (some ⟨h, 0, none⟩), .agg #[.int .u8 (c.k : Int), .int .i64 c.ph, .slice c.a c.n c.c]] w fun e w' => e = .returned (.bool true) ∧ (∃ s', ExAt w' g s' ∧ RxAt w' h s' ∧ EInv s') ∧ ∀ B, B ≤ g → B ≤ h → B ≤ w.heap.size → Below B w w' := by
  have hm : (c.k : Int) % 6 = (kk : Int) := by omega
  have b2 : ((kk : Int) == 2) = true := by simp; omega
  have b3 : ((kk : Int) == 3) = false := by simp; omega
  have b4 : ((kk : Int) == 4) = false := by simp; omega
  have b5 : ((kk : Int) == 5) = false := by simp; omega
  have hgh := hx.ne hr
  have hx0 := hx.below (below1 w (Obj.cells #[Value.int IntKind.u8 (c.k : Int), Value.int IntKind.i64 c.ph, Value.slice c.a c.n c.c] 35))
  have hr0 := hr.below (below1 w (Obj.cells #[Value.int IntKind.u8 (c.k : Int), Value.int IntKind.i64 c.ph, Value.slice c.a c.n c.c] 35))
  have hc0 := hc.below (below1 w (Obj.cells #[Value.int IntKind.u8 (c.k : Int), Value.int IntKind.i64 c.ph, Value.slice c.a c.n c.c] 35))
  have b0 := below1 w (Obj.cells #[Value.int IntKind.u8 (c.k : Int), Value.int IntKind.i64 c.ph, Value.slice c.a c.n c.c] 35)
  have kB := alloc1 w (Obj.cells #[Value.int IntKind.u8 (c.k : Int), Value.int IntKind.i64 c.ph, Value.slice c.a c.n c.c] 35) (Below.refl _ _)
  have hgl := hx.lt
  have hhl := hr.lt
  clear hk hx hr hc
  clear hk2
  go_enter Try.func10, Try.ntmps10
  go_wp2_with fail
  obtain ⟨s1, r, hd⟩ : ∃ s1 r, s.done c.ph = (s1, r) := ⟨_, _, rfl⟩
  have hi1 : EInv s1 := by have := hi.done c.ph; rw [hd] at this; exact this
  have HD := Lib.hid hd
  clear hd
  obtain ⟨W, hW⟩ : ∃ W, W = w.alloc (Obj.cells #[Value.int IntKind.u8 (c.k : Int), Value.int IntKind.i64 c.ph, Value.slice c.a c.n c.c] 35) := ⟨_, rfl⟩
  rw [← hW] at hx0 hr0 hc0 b0 kB ⊢
  clear hW
  have hxd : ExAt W.drew g s := hx0.below (Below.refl _ _).drew
  have hrd : RxAt W.drew h s := hr0.below (Below.refl _ _).drew
  have kBd : W.drew.heap[w.heap.size]? = _ := kB
  have nB : w.heap.size ≠ g := by omega
  have nB2 : w.heap.size ≠ h := by omega
  have bd : Below w.heap.size w W.drew := b0.drew
  clear hx0 hr0 kB b0 hc0
  go_region_held3 (fun w' => w'.cell? ⟨w.heap.size, 0, none⟩ = some (.int .u8 (c.k : Int)) ∧ w'.cell? ⟨w.heap.size, 1, none⟩ = some (.int .i64 c.ph) ∧ w'.cell? ⟨w.heap.size, 2, none⟩ = some (.slice c.a c.n c.c))
    (first | exact ⟨blk_cell kB2 0 _ rfl, blk_cell kB2 1 _ rfl, blk_cell kB2 2 _ rfl⟩ | exact ⟨blk_cell kB1 0 _ rfl, blk_cell kB1 1 _ rfl, blk_cell kB1 2 _ rfl⟩ | exact ⟨blk_cell kBd 0 _ rfl, blk_cell kBd 1 _ rfl, blk_cell kBd 2 _ rfl⟩)
    (first
      | ((with_reducible refine (done_is s s1 r c.ph g _ HD.out hxd hi).mono ?_); rintro e w1 ⟨rfl, hx1, ho1⟩; have kB1 := ho1.keep nB kBd; have hr1 := hrd.only hgh ho1)
      | ((with_reducible refine (rdone_is s s1 r c.ph h _ HD.out hr1 hi).mono ?_); rintro e w2 ⟨rfl, hr2, ho2⟩; have kB2 := ho2.keep nB2 kB1))
  have hx2 := hx1.only hgh.symm ho2
  go_wp2_with fail
  go_ret
  exact ⟨by simp, ⟨_, hx2, hr2, hi1⟩, fun B h1 h2 h3 => Only.below (Only.below (bd.mono h3) h1 (Nat.le_trans h3 bd.size) ho1) h2 (Nat.le_trans h3 (Nat.le_trans bd.size ho1.size)) ho2⟩

set_option maxHeartbeats 2000000 in
theorem does_done3 (s : ESt) (g h : Nat) (c : Cl) (kk : Nat) (w : World) (hk : c.k % 6 = kk) (hk2 : kk = 3) (hx : ExAt w g s) (hr : RxAt w h s) (hi : EInv s) (hc : ClAt w c) (_hcn : c.n ≤ 3000) (_hcg : ∀ x, c.a = some x → c.l ≠ [] → x.block ≠ g ∧ x.block ≠ h) :
    Calls Try.prog 10 #[.pointer (some ⟨g, 0, none⟩), .pointer (some ⟨h, 0, none⟩), .agg #[.int .u8 (c.k : Int), .int .i64 c.ph, .slice c.a c.n c.c]] w fun e w' => e = .returned (.bool true) ∧ (∃ s', ExAt w' g s' ∧ RxAt w' h s' ∧ EInv s') ∧ ∀ B, B ≤ g → B ≤ h → B ≤ w.heap.size → Below B w w' := by
  have hm : (c.k : Int) % 6 = (kk : Int) := by omega
  have b2 : ((kk : Int) == 2) = false := by simp; omega
  have b3 : ((kk : Int) == 3) = true := by simp; omega
  have b4 : ((kk : Int) == 4) = false := by simp; omega
  have b5 : ((kk : Int) == 5) = false := by simp; omega
  have hgh := hx.ne hr
  have hx0 := hx.below (below1 w (Obj.cells #[Value.int IntKind.u8 (c.k : Int), Value.int IntKind.i64 c.ph, Value.slice c.a c.n c.c] 35))
  have hr0 := hr.below (below1 w (Obj.cells #[Value.int IntKind.u8 (c.k : Int), Value.int IntKind.i64 c.ph, Value.slice c.a c.n c.c] 35))
  have hc0 := hc.below (below1 w (Obj.cells #[Value.int IntKind.u8 (c.k : Int), Value.int IntKind.i64 c.ph, Value.slice c.a c.n c.c] 35))
  have b0 := below1 w (Obj.cells #[Value.int IntKind.u8 (c.k : Int), Value.int IntKind.i64 c.ph, Value.slice c.a c.n c.c] 35)
  have kB := alloc1 w (Obj.cells #[Value.int IntKind.u8 (c.k : Int), Value.int IntKind.i64 c.ph, Value.slice c.a c.n c.c] 35) (Below.refl _ _)
  have hgl := hx.lt
  have hhl := hr.lt
  clear hk hx hr hc
  clear hk2
  go_enter Try.func10, Try.ntmps10
  go_wp2_with fail
  obtain ⟨s1, r, hd⟩ : ∃ s1 r, s.done c.ph = (s1, r) := ⟨_, _, rfl⟩
  have hi1 : EInv s1 := by have := hi.done c.ph; rw [hd] at this; exact this
  have HD := Lib.hid hd
  clear hd
  obtain ⟨W, hW⟩ : ∃ W, W = w.alloc (Obj.cells #[Value.int IntKind.u8 (c.k : Int), Value.int IntKind.i64 c.ph, Value.slice c.a c.n c.c] 35) := ⟨_, rfl⟩
  rw [← hW] at hx0 hr0 hc0 b0 kB ⊢
  clear hW
  have hxd : ExAt W.drew g s := hx0.below (Below.refl _ _).drew
  have hrd : RxAt W.drew h s := hr0.below (Below.refl _ _).drew
  have kBd : W.drew.heap[w.heap.size]? = _ := kB
  have nB : w.heap.size ≠ g := by omega
  have nB2 : w.heap.size ≠ h := by omega
  have bd : Below w.heap.size w W.drew := b0.drew
  clear hx0 hr0 kB b0 hc0
  go_region_held3 (fun w' => w'.cell? ⟨w.heap.size, 0, none⟩ = some (.int .u8 (c.k : Int)) ∧ w'.cell? ⟨w.heap.size, 1, none⟩ = some (.int .i64 c.ph) ∧ w'.cell? ⟨w.heap.size, 2, none⟩ = some (.slice c.a c.n c.c))
    (first | exact ⟨blk_cell kB2 0 _ rfl, blk_cell kB2 1 _ rfl, blk_cell kB2 2 _ rfl⟩ | exact ⟨blk_cell kB1 0 _ rfl, blk_cell kB1 1 _ rfl, blk_cell kB1 2 _ rfl⟩ | exact ⟨blk_cell kBd 0 _ rfl, blk_cell kBd 1 _ rfl, blk_cell kBd 2 _ rfl⟩)
    (first
      | ((with_reducible refine (done_is s s1 r c.ph g _ HD.out hxd hi).mono ?_); rintro e w1 ⟨rfl, hx1, ho1⟩; have kB1 := ho1.keep nB kBd; have hr1 := hrd.only hgh ho1)
      | ((with_reducible refine (rdone_is s s1 r c.ph h _ HD.out hr1 hi).mono ?_); rintro e w2 ⟨rfl, hr2, ho2⟩; have kB2 := ho2.keep nB2 kB1))
  have hx2 := hx1.only hgh.symm ho2
  go_wp2_with fail
  go_ret
  exact ⟨by simp, ⟨_, hx2, hr2, hi1⟩, fun B h1 h2 h3 => Only.below (Only.below (bd.mono h3) h1 (Nat.le_trans h3 bd.size) ho1) h2 (Nat.le_trans h3 (Nat.le_trans bd.size ho1.size)) ho2⟩

set_option maxHeartbeats 2000000 in
theorem does_pick (s : ESt) (g h : Nat) (c : Cl) (kk : Nat) (w : World) (hk : c.k % 6 = kk) (hk2 : kk = 4) (hx : ExAt w g s) (hr : RxAt w h s) (hi : EInv s) (hc : ClAt w c) (hcn : c.n ≤ 3000) (hcg : ∀ x, c.a = some x → c.l ≠ [] → x.block ≠ g ∧ x.block ≠ h) :
    Calls Try.prog 10 #[.pointer (some ⟨g, 0, none⟩), .pointer (some ⟨h, 0, none⟩), .agg #[.int .u8 (c.k : Int), .int .i64 c.ph, .slice c.a c.n c.c]] w fun e w' => e = .returned (.bool true) ∧ (∃ s', ExAt w' g s' ∧ RxAt w' h s' ∧ EInv s') ∧ ∀ B, B ≤ g → B ≤ h → B ≤ w.heap.size → Below B w w' := by
  have hm : (c.k : Int) % 6 = (kk : Int) := by omega
  have b2 : ((kk : Int) == 2) = false := by simp; omega
  have b3 : ((kk : Int) == 3) = false := by simp; omega
  have b4 : ((kk : Int) == 4) = true := by simp; omega
  have b5 : ((kk : Int) == 5) = false := by simp; omega
  have hgh := hx.ne hr
  have hx0 := hx.below (below1 w (Obj.cells #[Value.int IntKind.u8 (c.k : Int), Value.int IntKind.i64 c.ph, Value.slice c.a c.n c.c] 35))
  have hr0 := hr.below (below1 w (Obj.cells #[Value.int IntKind.u8 (c.k : Int), Value.int IntKind.i64 c.ph, Value.slice c.a c.n c.c] 35))
  have hc0 := hc.below (below1 w (Obj.cells #[Value.int IntKind.u8 (c.k : Int), Value.int IntKind.i64 c.ph, Value.slice c.a c.n c.c] 35))
  have b0 := below1 w (Obj.cells #[Value.int IntKind.u8 (c.k : Int), Value.int IntKind.i64 c.ph, Value.slice c.a c.n c.c] 35)
  have kB := alloc1 w (Obj.cells #[Value.int IntKind.u8 (c.k : Int), Value.int IntKind.i64 c.ph, Value.slice c.a c.n c.c] 35) (Below.refl _ _)
  have hgl := hx.lt
  have hhl := hr.lt
  clear hk hx hr hc
  clear hk2
  go_enter Try.func10, Try.ntmps10
  go_wp2_with fail
  obtain ⟨s1, cn, r, hd⟩ : ∃ s1 cn r, s.pick 0 c.l = (s1, cn, r) := ⟨_, _, _, rfl⟩
  have hi1 : EInv s1 := by have := EInv.pick c.l s 0 hi; rw [hd] at this; exact this
  have HD := Lib.hid hd
  have HL := Lib.hid hc0.2.1
  clear hd
  refine (pick_is s s1 cn r c.a c.n c.c c.l g _ HD.out HL.out (by omega) hc0.2.2.2.1 (fun x hx hl => (hcg x hx hl).1) hx0 hi).mono ?_
  rintro e w1 ⟨rfl, hx1, ho1⟩
  have hr1 := hr0.only hgh ho1
  have kB1 := ho1.keep (show w.heap.size ≠ g by omega) kB
  have hl1 := hc0.2.2.2.1.only ho1 (fun x hx hl => (hcg x hx hl).1)
  have e0 := blk_cell kB1 0 _ rfl
  have e1 := blk_cell kB1 1 _ rfl
  have e2 := blk_cell kB1 2 _ rfl
  go_wp2_with fail
  refine (rpick_any s c.a c.n c.c c.l h _ HL.out (by omega) hl1 (fun x hx hl => (hcg x hx hl).2) hr1 hi).mono ?_
  rw [HD.out]
  rintro e w2 ⟨rfl, hr2, ho2⟩
  have hx2 := hx1.only hgh.symm ho2
  go_wp2_with fail
  go_ret
  exact ⟨by simp, ⟨_, hx2, hr2, hi1⟩, fun B h1 h2 h3 => Only.below (Only.below (b0.mono h3) h1 (Nat.le_trans h3 b0.size) ho1) h2 (Nat.le_trans h3 (Nat.le_trans b0.size ho1.size)) ho2⟩
theorem does_any (s : ESt) (g h : Nat) (c : Cl) (w : World) (hx : ExAt w g s) (hr : RxAt w h s) (hi : EInv s) (hc : ClAt w c) (hcn : c.n ≤ 3000) (hcg : ∀ x, c.a = some x → c.l ≠ [] → x.block ≠ g ∧ x.block ≠ h) :
    Calls Try.prog 10 #[.pointer (some ⟨g, 0, none⟩), .pointer (some ⟨h, 0, none⟩), .agg #[.int .u8 (c.k : Int), .int .i64 c.ph, .slice c.a c.n c.c]] w fun e w' => e = .returned (.bool true) ∧ (∃ s', ExAt w' g s' ∧ RxAt w' h s' ∧ EInv s') ∧ ∀ B, B ≤ g → B ≤ h → B ≤ w.heap.size → Below B w w' := by
  rcases (show c.k % 6 = 0 ∨ c.k % 6 = 1 ∨ c.k % 6 = 2 ∨ c.k % 6 = 3 ∨ c.k % 6 = 4 ∨ c.k % 6 = 5 by omega) with hk | hk | hk | hk | hk | hk
  · exact does_tick0 s g h c 0 w hk rfl hx hr hi hc hcn hcg
  · exact does_tick1 s g h c 1 w hk rfl hx hr hi hc hcn hcg
  · exact does_done2 s g h c 2 w hk rfl hx hr hi hc hcn hcg
  · exact does_done3 s g h c 3 w hk rfl hx hr hi hc hcn hcg
  · exact does_pick s g h c 4 w hk rfl hx hr hi hc hcn hcg
  · exact does_reset s g h c 5 w hk rfl hx hr hi hc hcn hcg
end Go.Proofs.Ytaonkcfmlgaobaa
