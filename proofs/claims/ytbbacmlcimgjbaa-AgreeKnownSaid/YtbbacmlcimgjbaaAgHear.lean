/-
  The walk of package agree: Hear.
-/
import Derived.Test.YtbbacmlcimgjbaaAgBegin
namespace Go.Proofs.Ytbbacmlcimgjbaa
open Go.RowKit
attribute [local irreducible] shortB fewB In.ok InAt MyIn LongAt In.same In.merge both cmdCells SideAt OptAt RdAt RSideAt CellsAt

theorem assert_is (v : Value) (w : World) : (Instr.typeAssert (.iface 35 v) 20 35 true).run Try.prog w = .ok (.tuple #[v, .bool true]) w := by
  simp [Instr.typeAssert, run_underlying Try.underlying35]
theorem hsame_is (I J : In) (ch cy c0 c : Int) (kp kr : Nat) (a b : Option Addr) (ca cb : Nat) (w : World) (hr : InAt w a ca I) (hx : InAt w b cb J)
    (hkr : w.heap[kr]? = some (.cells #[.int .i64 ch, .int .i64 cy, .int .u64 (I.o : Int), .int .u32 (I.n : Int), .int .u32 (I.r : Int), .slice a I.c.length ca] 35 (0, 0)))
    (hkp : w.heap[kp]? = some (.cells #[.int .i64 c0, .int .i64 c, .int .u64 (J.o : Int), .int .u32 (J.n : Int), .int .u32 (J.r : Int), .slice b J.c.length cb] 35 (0, 0))) :
    Calls Try.prog 27 #[.pointer (some ⟨kp, 0, none⟩), .pointer (some ⟨kr, 0, none⟩)] w fun e w' => e = .returned (.bool (c == cy && J.same I)) ∧ Below w.heap.size w w' := by
  have p1 := blk_cell hkp 1 _ rfl
  have p2 := blk_cell hkp 2 _ rfl
  have p3 := blk_cell hkp 3 _ rfl
  have p4 := blk_cell hkp 4 _ rfl
  have p5 := blk_cell hkp 5 _ rfl
  have r1 := blk_cell hkr 1 _ rfl
  have r2 := blk_cell hkr 2 _ rfl
  have r3 := blk_cell hkr 3 _ rfl
  have r4 := blk_cell hkr 4 _ rfl
  have r5 := blk_cell hkr 5 _ rfl
  by_cases hc : c = cy
  · have d : (c == cy) = true := by simpa using hc
    have HC : Hid ((c == cy && J.same I) = J.same I) := Lib.hid (by rw [d]; rfl)
    rw [HC.out]
    clear hc HC
    go_enter Try.func27, Try.ntmps27
    have c1 : ∀ w', Below w.heap.size w w' → Calls Try.prog 28 #[.agg #[.int .u64 (J.o : Int), .int .u32 (J.n : Int), .int .u32 (J.r : Int), .slice b J.c.length cb], .agg #[.int .u64 (I.o : Int), .int .u32 (I.n : Int), .int .u32 (I.r : Int), .slice a I.c.length ca]] w' fun e w'' => e = .returned (.bool (J.same I)) ∧ Below w.heap.size w w'' :=
      fun w' hw' => (same_in J I b a cb ca w' (hx.below hw') (hr.below hw')).mono (fun e w9 ⟨h1, h2⟩ => ⟨h1, below_on hw' h2⟩)
    have kR := hkr
    have kP := hkp
    clear hkr hkp p1 p2 p3 p4 p5 r1 r2 r3 r4 r5 hx hr
    go_wp2_with fail
    refine wp_region_calm (by kernel_rfl) (by kernel_rfl) ?_
    repeat
      (with_reducible apply wpQuiet_step
       intro K hK
       go_simp
       first
         | (refine hK _ ?_; clear hK K)
         | (apply Exists.intro
            refine ⟨fun w' hw' => ?_, hK _ ?_⟩
            · (first
               | with_reducible exact c1 _ hw'
               | (have kR' := blk_keep hw' kR
                  have kP' := blk_keep hw' kP
                  have r1 := blk_cell kR' 1 _ rfl
                  have r2 := blk_cell kR' 2 _ rfl
                  have r3 := blk_cell kR' 3 _ rfl
                  have r4 := blk_cell kR' 4 _ rfl
                  have r5 := blk_cell kR' 5 _ rfl
                  have p1 := blk_cell kP' 1 _ rfl
                  have p2 := blk_cell kP' 2 _ rfl
                  have p3 := blk_cell kP' 3 _ rfl
                  have p4 := blk_cell kP' 4 _ rfl
                  have p5 := blk_cell kP' 5 _ rfl
                  go_simp
                  first | done | exact rfl | exact ⟨rfl, rfl⟩ | exact c1 _ hw'))
            clear hK K))
    refine wpQuiet_nil ?_
    intro w5 hw5
    clear c1
    go_wp2_with fail
    go_ret
    exact ⟨rfl, hw5⟩
  · have d : (c == cy) = false := by simpa using hc
    have HC : Hid ((c == cy && J.same I) = false) := Lib.hid (by rw [d]; rfl)
    rw [HC.out]
    clear hc HC
    clear hkr hkp
    go_enter Try.func27, Try.ntmps27
    go_wp2_with fail
    go_quiet (fail)
    go_wp2_with fail
    go_ret
    exact ⟨rfl, below_drewN (Below.refl _ _) _⟩
theorem unfold_side {w : World} {X : Nat → Prop} {g : Nat} {s : Side} (h : SideAt w X g s) : ∃ po pt pk, w.heap[g]? = some (.cells #[.int .i64 s.ch, .int .i64 s.cy, po, pt, pk, .bool s.broken] 72 (0, 0)) ∧ ¬ X g ∧ (∀ k, X k → k < w.heap.size) ∧
    OptAt w X po (s.own.map fun I => (s.cy, I)) ∧ OptAt w X pt (s.other.map fun I => (s.cy, I)) ∧ OptAt w X pk s.kept := by unfold SideAt at h; exact h
theorem SideAt.make {w w' : World} {X : Nat → Prop} {g L M : Nat} {s : Side} {po pt pk : Value} (hblk : w'.heap[g]? = some (.cells #[.int .i64 s.ch, .int .i64 s.cy, po, pt, pk, .bool s.broken] 72 (0, 0))) (hXg : ¬ X g) (hbd : ∀ k, X k → k < w.heap.size)
    (hg : g < L) (hwL : w.heap.size ≤ L) (hLM : L ≤ M) (hM : M ≤ w'.heap.size) (h1 : OptAt w' (Plus X L M) po (s.own.map fun I => (s.cy, I))) (h2 : OptAt w' (Plus X L M) pt (s.other.map fun I => (s.cy, I))) (h3 : OptAt w' (Plus X L M) pk s.kept) : SideAt w' (Plus X L M) g s := by
  unfold SideAt
  refine ⟨po, pt, pk, hblk, ?_, ?_, h1, h2, h3⟩
  · rintro (h | h)
    · exact hXg h
    · omega
  · rintro k (h | h)
    · have := hbd k h; omega
    · omega
theorem OptAt.plus {w w' : World} {X : Nat → Prop} {L M : Nat} {v : Value} {x : Option (Int × In)} (h : OptAt w X v x) (hk : ∀ k, X k → w'.heap[k]? = w.heap[k]?) : OptAt w' (Plus X L M) v x := OptAt.keep h hk fun _ h => .inl h
theorem optAt_new {w : World} {X : Nat → Prop} {L M kk cap : Nat} {a : Option Addr} {ch cy : Int} {I : In} (hk : w.heap[kk]? = some (.cells #[.int .i64 ch, .int .i64 cy, .int .u64 (I.o : Int), .int .u32 (I.n : Int), .int .u32 (I.r : Int), .slice a I.c.length cap] 35 (0, 0)))
    (hin : InAt w a cap I) (hL : L ≤ kk ∧ kk < M) (hx : InX (Plus X L M) a) : OptAt w (Plus X L M) (.pointer (some ⟨kk, 0, none⟩)) (some (cy, I)) := by
  unfold OptAt RdAt
  exact ⟨kk, a, cap, ch, rfl, .inr hL, hk, hin, hx⟩
theorem MyIn.inPlus' {w : World} {L M : Nat} {a : Option Addr} (m : MyIn w L a) (hM : ∀ k, Blk a k → k < M) (X : Nat → Prop) : InX (Plus X L M) a := by
  rcases m.form with h | ⟨h, cur, e, hB, hc⟩
  · exact .inl h
  · exact .inr ⟨h, e, .inr ⟨hB, hM h ⟨_, e, rfl⟩⟩⟩

set_option maxHeartbeats 2000000 in
theorem hear_arg (s : Side) (X : Nat → Prop) (g : Nat) (ch cy : Int) (I : In) (a : Option Addr) (cap : Nat) (w : World) (h : SideAt w X g s) (hch : s.ch = 0 ∨ s.ch = 1) (hin : InAt w a cap I) (hcc : ¬ ch = 1 - s.ch) :
    Calls Try.prog 17 #[.pointer (some ⟨g, 0, none⟩), .iface 35 (.agg #[.int .i64 ch, .int .i64 cy, .int .u64 (I.o : Int), .int .u32 (I.n : Int), .int .u32 (I.r : Int), .slice a I.c.length cap])] w
      fun e w' => ∃ X' M, e = .returned (.int .i64 (s.hear ch cy I).2) ∧ SideAt w' X' g (s.hear ch cy I).1 ∧ Gr X X' w.heap.size M ∧ M ≤ w'.heap.size ∧ Only g w w' := by
  have HP : Hid (s.hear ch cy I = (s, 2)) := Lib.hid (by unfold Side.hear; rw [if_pos hcc])
  have HS := Lib.hid h
  have hlt := h.lt
  obtain ⟨po, pt, pk, h1, hXg, hbd, h4, h5, h6⟩ := unfold_side h
  have H4 := Lib.hid h4
  have H5 := Lib.hid h5
  have H6 := Lib.hid h6
  have m1 : wrap64 (1 - s.ch) = 1 - s.ch := by unfold wrap64; omega
  have m2 : IntKind.i64.wrap (1 - s.ch) = 1 - s.ch := by rw [IntWalk.i64_left]; exact m1
  have m3 : (ch != 1 - s.ch) = true := by simpa using hcc
  have m4 : (ch == 1 - s.ch) = false := by simpa using hcc
  have hta := assert_is
  have HXG := Lib.hid hXg
  have HBD := Lib.hid hbd
  clear h4 h5 h6 hbd hXg hch hcc
  go_enter Try.func17, Try.ntmps17
  go_wp2_with fail
  refine name_world ?_
  intro W hW
  have kr : W.heap[w.heap.size]? = some (.cells #[.int .i64 (ch), .int .i64 cy, .int .u64 (I.o : Int), .int .u32 (I.n : Int), .int .u32 (I.r : Int), .slice a I.c.length cap] 35 (0, 0)) := by rw [hW]; exact heap_new1 _ _
  have hB0 : Below w.heap.size w W := by rw [hW]; exact below1 _ _
  have hWs : W.heap.size = w.heap.size + 1 := by rw [hW]; exact Array.size_push ..
  have kg := blk_keep hB0 h1
  have hinW := hin.below hB0
  have r0 := blk_cell kr 0 _ rfl
  have g0 := blk_cell kg 0 _ rfl
  have r1 := blk_cell kr 1 _ rfl
  have g1 := blk_cell kg 1 _ rfl
  have r2 := blk_cell kr 2 _ rfl
  have g2 := blk_cell kg 2 _ rfl
  have r3 := blk_cell kr 3 _ rfl
  have g3 := blk_cell kg 3 _ rfl
  have r4 := blk_cell kr 4 _ rfl
  have g4 := blk_cell kg 4 _ rfl
  have r5 := blk_cell kr 5 _ rfl
  have g5 := blk_cell kg 5 _ rfl
  have fg := blk_free kg
  have HW := Lib.hid hWs
  obtain ⟨z, hz⟩ : ∃ z, z = w.heap.size := ⟨_, rfl⟩
  rw [← hz] at kr r0 r1 r2 r3 r4 r5 ⊢
  have HZ := Lib.hid hz
  clear hW hWs hz h1 hin
  go_quiet (fail)
  go_wp2_with fail
  go_ret
  have hBE := fun n => below_drewN hB0 n
  rw [HP.out]
  exact ⟨X, w.heap.size, rfl, HS.out.below (hBE _), fun j hj => .inl hj, (hBE _).size, Only.of_below (hBE _)⟩

set_option maxHeartbeats 2000000 in
theorem hear_late (s : Side) (X : Nat → Prop) (g : Nat) (ch cy : Int) (I : In) (a : Option Addr) (cap : Nat) (w : World) (h : SideAt w X g s) (hch : s.ch = 0 ∨ s.ch = 1) (hin : InAt w a cap I) (hcc : ch = 1 - s.ch) (hcy : cy < s.cy) :
    Calls Try.prog 17 #[.pointer (some ⟨g, 0, none⟩), .iface 35 (.agg #[.int .i64 ch, .int .i64 cy, .int .u64 (I.o : Int), .int .u32 (I.n : Int), .int .u32 (I.r : Int), .slice a I.c.length cap])] w
      fun e w' => ∃ X' M, e = .returned (.int .i64 (s.hear ch cy I).2) ∧ SideAt w' X' g (s.hear ch cy I).1 ∧ Gr X X' w.heap.size M ∧ M ≤ w'.heap.size ∧ Only g w w' := by
  have HP : Hid (s.hear ch cy I = (s, 190)) := Lib.hid (by unfold Side.hear; rw [if_neg (by simpa using hcc)]; rw [if_pos hcy])
  have HS := Lib.hid h
  have hlt := h.lt
  obtain ⟨po, pt, pk, h1, hXg, hbd, h4, h5, h6⟩ := unfold_side h
  have H4 := Lib.hid h4
  have H5 := Lib.hid h5
  have H6 := Lib.hid h6
  subst hcc
  have m1 : wrap64 (1 - s.ch) = 1 - s.ch := by unfold wrap64; omega
  have m2 : IntKind.i64.wrap (1 - s.ch) = 1 - s.ch := by rw [IntWalk.i64_left]; exact m1
  have m3 : (1 - s.ch != 1 - s.ch) = false := by simp
  have m4 : (1 - s.ch == 1 - s.ch) = true := by simp
  have d1 : decide (cy < s.cy) = true := decide_eq_true hcy
  have hta := assert_is
  have HXG := Lib.hid hXg
  have HBD := Lib.hid hbd
  clear h4 h5 h6 hbd hXg hch hcy
  go_enter Try.func17, Try.ntmps17
  go_wp2_with fail
  refine name_world ?_
  intro W hW
  have kr : W.heap[w.heap.size]? = some (.cells #[.int .i64 (1 - s.ch), .int .i64 cy, .int .u64 (I.o : Int), .int .u32 (I.n : Int), .int .u32 (I.r : Int), .slice a I.c.length cap] 35 (0, 0)) := by rw [hW]; exact heap_new1 _ _
  have hB0 : Below w.heap.size w W := by rw [hW]; exact below1 _ _
  have hWs : W.heap.size = w.heap.size + 1 := by rw [hW]; exact Array.size_push ..
  have kg := blk_keep hB0 h1
  have hinW := hin.below hB0
  have r0 := blk_cell kr 0 _ rfl
  have g0 := blk_cell kg 0 _ rfl
  have r1 := blk_cell kr 1 _ rfl
  have g1 := blk_cell kg 1 _ rfl
  have r2 := blk_cell kr 2 _ rfl
  have g2 := blk_cell kg 2 _ rfl
  have r3 := blk_cell kr 3 _ rfl
  have g3 := blk_cell kg 3 _ rfl
  have r4 := blk_cell kr 4 _ rfl
  have g4 := blk_cell kg 4 _ rfl
  have r5 := blk_cell kr 5 _ rfl
  have g5 := blk_cell kg 5 _ rfl
  have fg := blk_free kg
  have HW := Lib.hid hWs
  obtain ⟨z, hz⟩ : ∃ z, z = w.heap.size := ⟨_, rfl⟩
  rw [← hz] at kr r0 r1 r2 r3 r4 r5 ⊢
  have HZ := Lib.hid hz
  clear hW hWs hz h1 hin
  go_quiet (fail)
  go_wp2_with fail
  go_quiet (fail)
  go_wp2_with fail
  go_ret
  have hBE := fun (p : Nat × Nat) => below_drewN (below_drewN hB0 p.1) p.2
  rw [HP.out]
  exact ⟨X, w.heap.size, rfl, HS.out.below (hBE (_, _)), fun j hj => .inl hj, (hBE (_, _)).size, Only.of_below (hBE (_, _))⟩

set_option maxHeartbeats 2000000 in
theorem hear_knone (s : Side) (X : Nat → Prop) (g : Nat) (ch cy : Int) (I : In) (a : Option Addr) (cap : Nat) (w : World) (h : SideAt w X g s) (hch : s.ch = 0 ∨ s.ch = 1) (hin : InAt w a cap I) (hcc : ch = 1 - s.ch) (hcy : s.cy < cy) (hk : s.kept = none) :
    Calls Try.prog 17 #[.pointer (some ⟨g, 0, none⟩), .iface 35 (.agg #[.int .i64 ch, .int .i64 cy, .int .u64 (I.o : Int), .int .u32 (I.n : Int), .int .u32 (I.r : Int), .slice a I.c.length cap])] w
      fun e w' => ∃ X' M, e = .returned (.int .i64 (s.hear ch cy I).2) ∧ SideAt w' X' g (s.hear ch cy I).1 ∧ Gr X X' w.heap.size M ∧ M ≤ w'.heap.size ∧ Only g w w' := by
  have HP : Hid (s.hear ch cy I = (⟨s.ch, s.cy, s.own, s.other, some (cy, I), s.broken⟩, 0)) := Lib.hid (by unfold Side.hear; rw [if_neg (by simpa using hcc)]; rw [if_neg (show ¬ cy < s.cy by omega)]; rw [if_pos hcy]; rw [hk]; try rfl)
  have HS := Lib.hid h
  have hlt := h.lt
  obtain ⟨po, pt, pk, h1, hXg, hbd, h4, h5, h6⟩ := unfold_side h
  have H4 := Lib.hid h4
  have H5 := Lib.hid h5
  have H6 := Lib.hid h6
  subst hcc
  rw [hk] at h6
  unfold OptAt at h6
  subst h6
  have m1 : wrap64 (1 - s.ch) = 1 - s.ch := by unfold wrap64; omega
  have m2 : IntKind.i64.wrap (1 - s.ch) = 1 - s.ch := by rw [IntWalk.i64_left]; exact m1
  have m3 : (1 - s.ch != 1 - s.ch) = false := by simp
  have m4 : (1 - s.ch == 1 - s.ch) = true := by simp
  have d1 : decide (cy < s.cy) = false := decide_eq_false (by omega)
  have d2 : decide (s.cy < cy) = true := decide_eq_true hcy
  have d3 : decide (cy > s.cy) = true := decide_eq_true hcy
  have hta := assert_is
  have HXG := Lib.hid hXg
  have HBD := Lib.hid hbd
  clear h4 h5 hbd hXg hch hcy hk
  go_enter Try.func17, Try.ntmps17
  go_wp2_with fail
  refine name_world ?_
  intro W hW
  have kr : W.heap[w.heap.size]? = some (.cells #[.int .i64 (1 - s.ch), .int .i64 cy, .int .u64 (I.o : Int), .int .u32 (I.n : Int), .int .u32 (I.r : Int), .slice a I.c.length cap] 35 (0, 0)) := by rw [hW]; exact heap_new1 _ _
  have hB0 : Below w.heap.size w W := by rw [hW]; exact below1 _ _
  have hWs : W.heap.size = w.heap.size + 1 := by rw [hW]; exact Array.size_push ..
  have kg := blk_keep hB0 h1
  have hinW := hin.below hB0
  have r0 := blk_cell kr 0 _ rfl
  have g0 := blk_cell kg 0 _ rfl
  have r1 := blk_cell kr 1 _ rfl
  have g1 := blk_cell kg 1 _ rfl
  have r2 := blk_cell kr 2 _ rfl
  have g2 := blk_cell kg 2 _ rfl
  have r3 := blk_cell kr 3 _ rfl
  have g3 := blk_cell kg 3 _ rfl
  have r4 := blk_cell kr 4 _ rfl
  have g4 := blk_cell kg 4 _ rfl
  have r5 := blk_cell kr 5 _ rfl
  have g5 := blk_cell kg 5 _ rfl
  have fg := blk_free kg
  have HW := Lib.hid hWs
  obtain ⟨z, hz⟩ : ∃ z, z = w.heap.size := ⟨_, rfl⟩
  rw [← hz] at kr r0 r1 r2 r3 r4 r5 ⊢
  have HZ := Lib.hid hz
  clear hW hWs hz h1 hin
  go_quiet (fail)
  go_wp2_with fail
  go_quiet (fail)
  go_wp2_with fail
  go_quiet (fail)
  go_wp2_with fail
  go_quiet (fail)
  go_wp2_with fail
  refine (clone_is I (1 - s.ch) cy a cap _ (hinW.below (below_drewN (Below.refl _ _) _))).mono ?_
  rintro e w1 ⟨kk, a1, c1, rfl, hk1, hkl1, hkb, hm1, hi1, hb1⟩
  have hb1 : Below W.heap.size W w1 := (below_drewN (Below.refl _ _) _).trans hb1
  have hB1 := below_on hB0 hb1
  have kg1 := blk_keep hb1 kg
  have q4 := blk_cell kg1 4 _ rfl
  have fg1 := blk_free kg1
  have HBL := Lib.hid (fun k hk => (hm1.blk (k := k) hk).2)
  have hkl2 : W.heap.size ≤ kk := hkl1
  have hm1 : MyIn w1 W.heap.size a1 := hm1
  have HWW := Lib.hid hb1.size
  clear hb1 hkl1
  go_wp2_with fail
  go_ret
  rw [HP.out]
  have ho : Only g w1 (w1.setCell ⟨g, 4, none⟩ (.pointer (some ⟨kk, 0, none⟩))) := (Only.refl g w1).setCell (p := ⟨g, 4, none⟩) rfl _
  have hkeep : ∀ j, X j → (w1.setCell ⟨g, 4, none⟩ (.pointer (some ⟨kk, 0, none⟩))).heap[j]? = w.heap[j]? := fun j hj => (ho.block j (by have := HBD.out j hj; have := hB1.size; omega) (by rintro rfl; exact HXG.out hj)).trans (hB1.block j (HBD.out j hj))
  have hs := hB1.size
  have hw := HW.out
  have hww := HWW.out
  have hmy := my_only ⟨hm1, hi1⟩ ho (by omega)
  have hnew : OptAt (w1.setCell ⟨g, 4, none⟩ (.pointer (some ⟨kk, 0, none⟩))) (Plus X W.heap.size w1.heap.size) (.pointer (some ⟨kk, 0, none⟩)) (some (cy, I)) :=
    optAt_new (ho.keep (by omega) hk1) hmy.2 ⟨hkl2, blk_lt hk1⟩ (hmy.1.inPlus' HBL.out X)
  refine ⟨Plus X W.heap.size w1.heap.size, w1.heap.size, rfl, SideAt.make (w := w) (blk_set kg1 4 _) HXG.out HBD.out (by omega) (by omega) hww ho.size (H4.out.plus hkeep) (H5.out.plus hkeep) hnew, Plus.gr (by omega) (Nat.le_refl _), ho.size, (Only.of_below hB1).trans ho⟩

set_option maxHeartbeats 2000000 in
theorem hear_klt (s : Side) (X : Nat → Prop) (g : Nat) (ch cy : Int) (I : In) (a : Option Addr) (cap : Nat) (w : World) (h : SideAt w X g s) (hch : s.ch = 0 ∨ s.ch = 1) (hin : InAt w a cap I) (hcc : ch = 1 - s.ch) (hcy : s.cy < cy) (c : Int) (J : In) (hk : s.kept = some (c, J)) (hc : c < cy) :
    Calls Try.prog 17 #[.pointer (some ⟨g, 0, none⟩), .iface 35 (.agg #[.int .i64 ch, .int .i64 cy, .int .u64 (I.o : Int), .int .u32 (I.n : Int), .int .u32 (I.r : Int), .slice a I.c.length cap])] w
      fun e w' => ∃ X' M, e = .returned (.int .i64 (s.hear ch cy I).2) ∧ SideAt w' X' g (s.hear ch cy I).1 ∧ Gr X X' w.heap.size M ∧ M ≤ w'.heap.size ∧ Only g w w' := by
  have HP : Hid (s.hear ch cy I = (⟨s.ch, s.cy, s.own, s.other, some (cy, I), s.broken⟩, 0)) := Lib.hid (by unfold Side.hear; rw [if_neg (by simpa using hcc)]; rw [if_neg (show ¬ cy < s.cy by omega)]; rw [if_pos hcy]; rw [hk]; simp only []; rw [if_pos hc])
  have HS := Lib.hid h
  have hlt := h.lt
  obtain ⟨po, pt, pk, h1, hXg, hbd, h4, h5, h6⟩ := unfold_side h
  have H4 := Lib.hid h4
  have H5 := Lib.hid h5
  have H6 := Lib.hid h6
  subst hcc
  rw [hk] at h6
  unfold OptAt RdAt at h6
  obtain ⟨kp, ap, cp, chp, rfl, hXk, kp0, hinp, _⟩ := h6
  have HIP := Lib.hid hinp
  have hkl : kp < w.heap.size := blk_lt kp0
  clear hinp hXk
  have m1 : wrap64 (1 - s.ch) = 1 - s.ch := by unfold wrap64; omega
  have m2 : IntKind.i64.wrap (1 - s.ch) = 1 - s.ch := by rw [IntWalk.i64_left]; exact m1
  have m3 : (1 - s.ch != 1 - s.ch) = false := by simp
  have m4 : (1 - s.ch == 1 - s.ch) = true := by simp
  have d1 : decide (cy < s.cy) = false := decide_eq_false (by omega)
  have d2 : decide (s.cy < cy) = true := decide_eq_true hcy
  have d3 : decide (cy > s.cy) = true := decide_eq_true hcy
  have d4 : decide (c < cy) = true := decide_eq_true hc
  have d5 : decide (cy > c) = true := decide_eq_true hc
  have hta := assert_is
  have HXG := Lib.hid hXg
  have HBD := Lib.hid hbd
  clear h4 h5 hbd hXg hch hcy hk hc
  go_enter Try.func17, Try.ntmps17
  go_wp2_with fail
  refine name_world ?_
  intro W hW
  have kr : W.heap[w.heap.size]? = some (.cells #[.int .i64 (1 - s.ch), .int .i64 cy, .int .u64 (I.o : Int), .int .u32 (I.n : Int), .int .u32 (I.r : Int), .slice a I.c.length cap] 35 (0, 0)) := by rw [hW]; exact heap_new1 _ _
  have hB0 : Below w.heap.size w W := by rw [hW]; exact below1 _ _
  have hWs : W.heap.size = w.heap.size + 1 := by rw [hW]; exact Array.size_push ..
  have kg := blk_keep hB0 h1
  have hinW := hin.below hB0
  have r0 := blk_cell kr 0 _ rfl
  have g0 := blk_cell kg 0 _ rfl
  have r1 := blk_cell kr 1 _ rfl
  have g1 := blk_cell kg 1 _ rfl
  have r2 := blk_cell kr 2 _ rfl
  have g2 := blk_cell kg 2 _ rfl
  have r3 := blk_cell kr 3 _ rfl
  have g3 := blk_cell kg 3 _ rfl
  have r4 := blk_cell kr 4 _ rfl
  have g4 := blk_cell kg 4 _ rfl
  have r5 := blk_cell kr 5 _ rfl
  have g5 := blk_cell kg 5 _ rfl
  have kp1 := blk_keep hB0 kp0
  have p1 := blk_cell kp1 1 _ rfl
  have hinp := HIP.out.below hB0
  have fg := blk_free kg
  have HW := Lib.hid hWs
  obtain ⟨z, hz⟩ : ∃ z, z = w.heap.size := ⟨_, rfl⟩
  rw [← hz] at kr r0 r1 r2 r3 r4 r5 ⊢
  have HZ := Lib.hid hz
  clear hW hWs hz h1 hin
  go_quiet (fail)
  go_wp2_with fail
  go_quiet (fail)
  go_wp2_with fail
  go_quiet (fail)
  go_wp2_with fail
  go_quiet (fail)
  go_wp2_with fail
  refine (clone_is I (1 - s.ch) cy a cap _ (hinW.below (below_drewN (Below.refl _ _) _))).mono ?_
  rintro e w1 ⟨kk, a1, c1, rfl, hk1, hkl1, hkb, hm1, hi1, hb1⟩
  have hb1 : Below W.heap.size W w1 := (below_drewN (Below.refl _ _) _).trans hb1
  have hB1 := below_on hB0 hb1
  have kg1 := blk_keep hb1 kg
  have q4 := blk_cell kg1 4 _ rfl
  have fg1 := blk_free kg1
  have HBL := Lib.hid (fun k hk => (hm1.blk (k := k) hk).2)
  have hkl2 : W.heap.size ≤ kk := hkl1
  have hm1 : MyIn w1 W.heap.size a1 := hm1
  have HWW := Lib.hid hb1.size
  clear hb1 hkl1
  go_wp2_with fail
  go_ret
  rw [HP.out]
  have ho : Only g w1 (w1.setCell ⟨g, 4, none⟩ (.pointer (some ⟨kk, 0, none⟩))) := (Only.refl g w1).setCell (p := ⟨g, 4, none⟩) rfl _
  have hkeep : ∀ j, X j → (w1.setCell ⟨g, 4, none⟩ (.pointer (some ⟨kk, 0, none⟩))).heap[j]? = w.heap[j]? := fun j hj => (ho.block j (by have := HBD.out j hj; have := hB1.size; omega) (by rintro rfl; exact HXG.out hj)).trans (hB1.block j (HBD.out j hj))
  have hs := hB1.size
  have hw := HW.out
  have hww := HWW.out
  have hmy := my_only ⟨hm1, hi1⟩ ho (by omega)
  have hnew : OptAt (w1.setCell ⟨g, 4, none⟩ (.pointer (some ⟨kk, 0, none⟩))) (Plus X W.heap.size w1.heap.size) (.pointer (some ⟨kk, 0, none⟩)) (some (cy, I)) :=
    optAt_new (ho.keep (by omega) hk1) hmy.2 ⟨hkl2, blk_lt hk1⟩ (hmy.1.inPlus' HBL.out X)
  refine ⟨Plus X W.heap.size w1.heap.size, w1.heap.size, rfl, SideAt.make (w := w) (blk_set kg1 4 _) HXG.out HBD.out (by omega) (by omega) hww ho.size (H4.out.plus hkeep) (H5.out.plus hkeep) hnew, Plus.gr (by omega) (Nat.le_refl _), ho.size, (Only.of_below hB1).trans ho⟩

set_option maxHeartbeats 2000000 in
theorem hear_kgeT (s : Side) (X : Nat → Prop) (g : Nat) (ch cy : Int) (I : In) (a : Option Addr) (cap : Nat) (w : World) (h : SideAt w X g s) (hch : s.ch = 0 ∨ s.ch = 1) (hin : InAt w a cap I) (hcc : ch = 1 - s.ch) (hcy : s.cy < cy) (c : Int) (J : In) (hk : s.kept = some (c, J)) (hc : ¬ c < cy) (hB : (c == cy && J.same I) = true) :
    Calls Try.prog 17 #[.pointer (some ⟨g, 0, none⟩), .iface 35 (.agg #[.int .i64 ch, .int .i64 cy, .int .u64 (I.o : Int), .int .u32 (I.n : Int), .int .u32 (I.r : Int), .slice a I.c.length cap])] w
      fun e w' => ∃ X' M, e = .returned (.int .i64 (s.hear ch cy I).2) ∧ SideAt w' X' g (s.hear ch cy I).1 ∧ Gr X X' w.heap.size M ∧ M ≤ w'.heap.size ∧ Only g w w' := by
  have HP : Hid (s.hear ch cy I = (s, 0)) := Lib.hid (by unfold Side.hear; rw [if_neg (by simpa using hcc)]; rw [if_neg (show ¬ cy < s.cy by omega)]; rw [if_pos hcy]; rw [hk]; simp only []; rw [if_neg hc]; rw [if_pos (by simpa using hB)])
  have HS := Lib.hid h
  have hlt := h.lt
  obtain ⟨po, pt, pk, h1, hXg, hbd, h4, h5, h6⟩ := unfold_side h
  have H4 := Lib.hid h4
  have H5 := Lib.hid h5
  have H6 := Lib.hid h6
  subst hcc
  rw [hk] at h6
  unfold OptAt RdAt at h6
  obtain ⟨kp, ap, cp, chp, rfl, hXk, kp0, hinp, _⟩ := h6
  have HIP := Lib.hid hinp
  have hkl : kp < w.heap.size := blk_lt kp0
  clear hinp hXk
  have m1 : wrap64 (1 - s.ch) = 1 - s.ch := by unfold wrap64; omega
  have m2 : IntKind.i64.wrap (1 - s.ch) = 1 - s.ch := by rw [IntWalk.i64_left]; exact m1
  have m3 : (1 - s.ch != 1 - s.ch) = false := by simp
  have m4 : (1 - s.ch == 1 - s.ch) = true := by simp
  have d1 : decide (cy < s.cy) = false := decide_eq_false (by omega)
  have d2 : decide (s.cy < cy) = true := decide_eq_true hcy
  have d3 : decide (cy > s.cy) = true := decide_eq_true hcy
  have d4 : decide (c < cy) = false := decide_eq_false hc
  have d5 : decide (cy > c) = false := decide_eq_false hc
  have hta := assert_is
  have HBB := Lib.hid hB
  have HXG := Lib.hid hXg
  have HBD := Lib.hid hbd
  clear h4 h5 hbd hXg hch hcy hk hc hB
  go_enter Try.func17, Try.ntmps17
  go_wp2_with fail
  refine name_world ?_
  intro W hW
  have kr : W.heap[w.heap.size]? = some (.cells #[.int .i64 (1 - s.ch), .int .i64 cy, .int .u64 (I.o : Int), .int .u32 (I.n : Int), .int .u32 (I.r : Int), .slice a I.c.length cap] 35 (0, 0)) := by rw [hW]; exact heap_new1 _ _
  have hB0 : Below w.heap.size w W := by rw [hW]; exact below1 _ _
  have hWs : W.heap.size = w.heap.size + 1 := by rw [hW]; exact Array.size_push ..
  have kg := blk_keep hB0 h1
  have hinW := hin.below hB0
  have r0 := blk_cell kr 0 _ rfl
  have g0 := blk_cell kg 0 _ rfl
  have r1 := blk_cell kr 1 _ rfl
  have g1 := blk_cell kg 1 _ rfl
  have r2 := blk_cell kr 2 _ rfl
  have g2 := blk_cell kg 2 _ rfl
  have r3 := blk_cell kr 3 _ rfl
  have g3 := blk_cell kg 3 _ rfl
  have r4 := blk_cell kr 4 _ rfl
  have g4 := blk_cell kg 4 _ rfl
  have r5 := blk_cell kr 5 _ rfl
  have g5 := blk_cell kg 5 _ rfl
  have kp1 := blk_keep hB0 kp0
  have p1 := blk_cell kp1 1 _ rfl
  have hinp := HIP.out.below hB0
  have fg := blk_free kg
  have HW := Lib.hid hWs
  obtain ⟨z, hz⟩ : ∃ z, z = w.heap.size := ⟨_, rfl⟩
  rw [← hz] at kr r0 r1 r2 r3 r4 r5 ⊢
  have HZ := Lib.hid hz
  clear hW hWs hz h1 hin
  go_quiet (fail)
  go_wp2_with fail
  go_quiet (fail)
  go_wp2_with fail
  go_quiet (fail)
  go_wp2_with fail
  go_quiet (fail)
  go_wp2_with fail
  refine (hsame_is I J (1 - s.ch) cy chp c kp z a ap cap cp _ (hinW.below (below_drewN (Below.refl _ _) _)) (hinp.below (below_drewN (Below.refl _ _) _)) (blk_drewN kr _) (blk_drewN kp1 _)).mono ?_
  rintro e w1 ⟨rfl, hb1⟩
  rw [HBB.out]
  have hb1 : Below W.heap.size W w1 := (below_drewN (Below.refl _ _) _).trans hb1
  have hB1 := below_on hB0 hb1
  clear hb1
  go_wp2_with fail
  go_ret
  rw [HP.out]
  exact ⟨X, w.heap.size, rfl, HS.out.below hB1, fun j hj => .inl hj, hB1.size, Only.of_below hB1⟩

set_option maxHeartbeats 2000000 in
theorem hear_kgeF (s : Side) (X : Nat → Prop) (g : Nat) (ch cy : Int) (I : In) (a : Option Addr) (cap : Nat) (w : World) (h : SideAt w X g s) (hch : s.ch = 0 ∨ s.ch = 1) (hin : InAt w a cap I) (hcc : ch = 1 - s.ch) (hcy : s.cy < cy) (c : Int) (J : In) (hk : s.kept = some (c, J)) (hc : ¬ c < cy) (hB : (c == cy && J.same I) = false) :
    Calls Try.prog 17 #[.pointer (some ⟨g, 0, none⟩), .iface 35 (.agg #[.int .i64 ch, .int .i64 cy, .int .u64 (I.o : Int), .int .u32 (I.n : Int), .int .u32 (I.r : Int), .slice a I.c.length cap])] w
      fun e w' => ∃ X' M, e = .returned (.int .i64 (s.hear ch cy I).2) ∧ SideAt w' X' g (s.hear ch cy I).1 ∧ Gr X X' w.heap.size M ∧ M ≤ w'.heap.size ∧ Only g w w' := by
  have HP : Hid (s.hear ch cy I = (s, 4)) := Lib.hid (by unfold Side.hear; rw [if_neg (by simpa using hcc)]; rw [if_neg (show ¬ cy < s.cy by omega)]; rw [if_pos hcy]; rw [hk]; simp only []; rw [if_neg hc]; rw [if_neg (by simpa using hB)])
  have HS := Lib.hid h
  have hlt := h.lt
  obtain ⟨po, pt, pk, h1, hXg, hbd, h4, h5, h6⟩ := unfold_side h
  have H4 := Lib.hid h4
  have H5 := Lib.hid h5
  have H6 := Lib.hid h6
  subst hcc
  rw [hk] at h6
  unfold OptAt RdAt at h6
  obtain ⟨kp, ap, cp, chp, rfl, hXk, kp0, hinp, _⟩ := h6
  have HIP := Lib.hid hinp
  have hkl : kp < w.heap.size := blk_lt kp0
  clear hinp hXk
  have m1 : wrap64 (1 - s.ch) = 1 - s.ch := by unfold wrap64; omega
  have m2 : IntKind.i64.wrap (1 - s.ch) = 1 - s.ch := by rw [IntWalk.i64_left]; exact m1
  have m3 : (1 - s.ch != 1 - s.ch) = false := by simp
  have m4 : (1 - s.ch == 1 - s.ch) = true := by simp
  have d1 : decide (cy < s.cy) = false := decide_eq_false (by omega)
  have d2 : decide (s.cy < cy) = true := decide_eq_true hcy
  have d3 : decide (cy > s.cy) = true := decide_eq_true hcy
  have d4 : decide (c < cy) = false := decide_eq_false hc
  have d5 : decide (cy > c) = false := decide_eq_false hc
  have hta := assert_is
  have HBB := Lib.hid hB
  have HXG := Lib.hid hXg
  have HBD := Lib.hid hbd
  clear h4 h5 hbd hXg hch hcy hk hc hB
  go_enter Try.func17, Try.ntmps17
  go_wp2_with fail
  refine name_world ?_
  intro W hW
  have kr : W.heap[w.heap.size]? = some (.cells #[.int .i64 (1 - s.ch), .int .i64 cy, .int .u64 (I.o : Int), .int .u32 (I.n : Int), .int .u32 (I.r : Int), .slice a I.c.length cap] 35 (0, 0)) := by rw [hW]; exact heap_new1 _ _
  have hB0 : Below w.heap.size w W := by rw [hW]; exact below1 _ _
  have hWs : W.heap.size = w.heap.size + 1 := by rw [hW]; exact Array.size_push ..
  have kg := blk_keep hB0 h1
  have hinW := hin.below hB0
  have r0 := blk_cell kr 0 _ rfl
  have g0 := blk_cell kg 0 _ rfl
  have r1 := blk_cell kr 1 _ rfl
  have g1 := blk_cell kg 1 _ rfl
  have r2 := blk_cell kr 2 _ rfl
  have g2 := blk_cell kg 2 _ rfl
  have r3 := blk_cell kr 3 _ rfl
  have g3 := blk_cell kg 3 _ rfl
  have r4 := blk_cell kr 4 _ rfl
  have g4 := blk_cell kg 4 _ rfl
  have r5 := blk_cell kr 5 _ rfl
  have g5 := blk_cell kg 5 _ rfl
  have kp1 := blk_keep hB0 kp0
  have p1 := blk_cell kp1 1 _ rfl
  have hinp := HIP.out.below hB0
  have fg := blk_free kg
  have HW := Lib.hid hWs
  obtain ⟨z, hz⟩ : ∃ z, z = w.heap.size := ⟨_, rfl⟩
  rw [← hz] at kr r0 r1 r2 r3 r4 r5 ⊢
  have HZ := Lib.hid hz
  clear hW hWs hz h1 hin
  go_quiet (fail)
  go_wp2_with fail
  go_quiet (fail)
  go_wp2_with fail
  go_quiet (fail)
  go_wp2_with fail
  go_quiet (fail)
  go_wp2_with fail
  refine (hsame_is I J (1 - s.ch) cy chp c kp z a ap cap cp _ (hinW.below (below_drewN (Below.refl _ _) _)) (hinp.below (below_drewN (Below.refl _ _) _)) (blk_drewN kr _) (blk_drewN kp1 _)).mono ?_
  rintro e w1 ⟨rfl, hb1⟩
  rw [HBB.out]
  have hb1 : Below W.heap.size W w1 := (below_drewN (Below.refl _ _) _).trans hb1
  have hB1 := below_on hB0 hb1
  clear hb1
  go_wp2_with fail
  go_ret
  rw [HP.out]
  exact ⟨X, w.heap.size, rfl, HS.out.below hB1, fun j hj => .inl hj, hB1.size, Only.of_below hB1⟩

set_option maxHeartbeats 2000000 in
theorem hear_onone (s : Side) (X : Nat → Prop) (g : Nat) (ch cy : Int) (I : In) (a : Option Addr) (cap : Nat) (w : World) (h : SideAt w X g s) (hch : s.ch = 0 ∨ s.ch = 1) (hin : InAt w a cap I) (hcc : ch = 1 - s.ch) (hcy : cy = s.cy) (hk : s.other = none) :
    Calls Try.prog 17 #[.pointer (some ⟨g, 0, none⟩), .iface 35 (.agg #[.int .i64 ch, .int .i64 cy, .int .u64 (I.o : Int), .int .u32 (I.n : Int), .int .u32 (I.r : Int), .slice a I.c.length cap])] w
      fun e w' => ∃ X' M, e = .returned (.int .i64 (s.hear ch cy I).2) ∧ SideAt w' X' g (s.hear ch cy I).1 ∧ Gr X X' w.heap.size M ∧ M ≤ w'.heap.size ∧ Only g w w' := by
  have HP : Hid (s.hear ch cy I = (⟨s.ch, s.cy, s.own, some I, s.kept, s.broken⟩, 0)) := Lib.hid (by unfold Side.hear; rw [if_neg (by simpa using hcc)]; rw [if_neg (show ¬ cy < s.cy by omega)]; rw [if_neg (show ¬ s.cy < cy by omega)]; rw [hk])
  have HS := Lib.hid h
  have hlt := h.lt
  obtain ⟨po, pt, pk, h1, hXg, hbd, h4, h5, h6⟩ := unfold_side h
  have H4 := Lib.hid h4
  have H5 := Lib.hid h5
  have H6 := Lib.hid h6
  subst hcc
  rw [hk] at h5
  unfold OptAt at h5
  simp only [Option.map_none] at h5
  subst h5
  have m1 : wrap64 (1 - s.ch) = 1 - s.ch := by unfold wrap64; omega
  have m2 : IntKind.i64.wrap (1 - s.ch) = 1 - s.ch := by rw [IntWalk.i64_left]; exact m1
  have m3 : (1 - s.ch != 1 - s.ch) = false := by simp
  have m4 : (1 - s.ch == 1 - s.ch) = true := by simp
  subst hcy
  have d1 : decide (s.cy < s.cy) = false := decide_eq_false (by omega)
  have d3 : decide (s.cy > s.cy) = false := decide_eq_false (by omega)
  have hta := assert_is
  have HXG := Lib.hid hXg
  have HBD := Lib.hid hbd
  clear h4 h6 hbd hXg hch hk
  go_enter Try.func17, Try.ntmps17
  go_wp2_with fail
  refine name_world ?_
  intro W hW
  have kr : W.heap[w.heap.size]? = some (.cells #[.int .i64 (1 - s.ch), .int .i64 s.cy, .int .u64 (I.o : Int), .int .u32 (I.n : Int), .int .u32 (I.r : Int), .slice a I.c.length cap] 35 (0, 0)) := by rw [hW]; exact heap_new1 _ _
  have hB0 : Below w.heap.size w W := by rw [hW]; exact below1 _ _
  have hWs : W.heap.size = w.heap.size + 1 := by rw [hW]; exact Array.size_push ..
  have kg := blk_keep hB0 h1
  have hinW := hin.below hB0
  have r0 := blk_cell kr 0 _ rfl
  have g0 := blk_cell kg 0 _ rfl
  have r1 := blk_cell kr 1 _ rfl
  have g1 := blk_cell kg 1 _ rfl
  have r2 := blk_cell kr 2 _ rfl
  have g2 := blk_cell kg 2 _ rfl
  have r3 := blk_cell kr 3 _ rfl
  have g3 := blk_cell kg 3 _ rfl
  have r4 := blk_cell kr 4 _ rfl
  have g4 := blk_cell kg 4 _ rfl
  have r5 := blk_cell kr 5 _ rfl
  have g5 := blk_cell kg 5 _ rfl
  have fg := blk_free kg
  have HW := Lib.hid hWs
  obtain ⟨z, hz⟩ : ∃ z, z = w.heap.size := ⟨_, rfl⟩
  rw [← hz] at kr r0 r1 r2 r3 r4 r5 ⊢
  have HZ := Lib.hid hz
  clear hW hWs hz h1 hin
  go_quiet (fail)
  go_wp2_with fail
  go_quiet (fail)
  go_wp2_with fail
  go_quiet (fail)
  go_wp2_with fail
  refine (clone_is I (1 - s.ch) s.cy a cap _ (hinW.below (below_drewN (Below.refl _ _) _))).mono ?_
  rintro e w1 ⟨kk, a1, c1, rfl, hk1, hkl1, hkb, hm1, hi1, hb1⟩
  have hb1 : Below W.heap.size W w1 := (below_drewN (Below.refl _ _) _).trans hb1
  have hB1 := below_on hB0 hb1
  have kg1 := blk_keep hb1 kg
  have q3 := blk_cell kg1 3 _ rfl
  have fg1 := blk_free kg1
  have HBL := Lib.hid (fun k hk => (hm1.blk (k := k) hk).2)
  have hkl2 : W.heap.size ≤ kk := hkl1
  have hm1 : MyIn w1 W.heap.size a1 := hm1
  have HWW := Lib.hid hb1.size
  clear hb1 hkl1
  go_wp2_with fail
  go_ret
  rw [HP.out]
  have ho : Only g w1 (w1.setCell ⟨g, 3, none⟩ (.pointer (some ⟨kk, 0, none⟩))) := (Only.refl g w1).setCell (p := ⟨g, 3, none⟩) rfl _
  have hkeep : ∀ j, X j → (w1.setCell ⟨g, 3, none⟩ (.pointer (some ⟨kk, 0, none⟩))).heap[j]? = w.heap[j]? := fun j hj => (ho.block j (by have := HBD.out j hj; have := hB1.size; omega) (by rintro rfl; exact HXG.out hj)).trans (hB1.block j (HBD.out j hj))
  have hs := hB1.size
  have hw := HW.out
  have hww := HWW.out
  have hmy := my_only ⟨hm1, hi1⟩ ho (by omega)
  have hnew : OptAt (w1.setCell ⟨g, 3, none⟩ (.pointer (some ⟨kk, 0, none⟩))) (Plus X W.heap.size w1.heap.size) (.pointer (some ⟨kk, 0, none⟩)) (some (s.cy, I)) :=
    optAt_new (ho.keep (by omega) hk1) hmy.2 ⟨hkl2, blk_lt hk1⟩ (hmy.1.inPlus' HBL.out X)
  refine ⟨Plus X W.heap.size w1.heap.size, w1.heap.size, rfl, SideAt.make (w := w) (blk_set kg1 3 _) HXG.out HBD.out (by omega) (by omega) hww ho.size (H4.out.plus hkeep) hnew (H6.out.plus hkeep), Plus.gr (by omega) (Nat.le_refl _), ho.size, (Only.of_below hB1).trans ho⟩

set_option maxHeartbeats 2000000 in
theorem hear_oT (s : Side) (X : Nat → Prop) (g : Nat) (ch cy : Int) (I : In) (a : Option Addr) (cap : Nat) (w : World) (h : SideAt w X g s) (hch : s.ch = 0 ∨ s.ch = 1) (hin : InAt w a cap I) (hcc : ch = 1 - s.ch) (hcy : cy = s.cy) (J : In) (hk : s.other = some J) (hB : J.same I = true) :
    Calls Try.prog 17 #[.pointer (some ⟨g, 0, none⟩), .iface 35 (.agg #[.int .i64 ch, .int .i64 cy, .int .u64 (I.o : Int), .int .u32 (I.n : Int), .int .u32 (I.r : Int), .slice a I.c.length cap])] w
      fun e w' => ∃ X' M, e = .returned (.int .i64 (s.hear ch cy I).2) ∧ SideAt w' X' g (s.hear ch cy I).1 ∧ Gr X X' w.heap.size M ∧ M ≤ w'.heap.size ∧ Only g w w' := by
  have HP : Hid (s.hear ch cy I = (s, 0)) := Lib.hid (by unfold Side.hear; rw [if_neg (by simpa using hcc)]; rw [if_neg (show ¬ cy < s.cy by omega)]; rw [if_neg (show ¬ s.cy < cy by omega)]; rw [hk]; simp only []; rw [if_pos hB])
  have HS := Lib.hid h
  have hlt := h.lt
  obtain ⟨po, pt, pk, h1, hXg, hbd, h4, h5, h6⟩ := unfold_side h
  have H4 := Lib.hid h4
  have H5 := Lib.hid h5
  have H6 := Lib.hid h6
  subst hcc
  rw [hk] at h5
  simp only [Option.map_some] at h5
  unfold OptAt RdAt at h5
  obtain ⟨kp, ap, cp, chp, rfl, hXk, kp0, hinp, _⟩ := h5
  have HIP := Lib.hid hinp
  have hkl : kp < w.heap.size := blk_lt kp0
  clear hinp hXk
  have m1 : wrap64 (1 - s.ch) = 1 - s.ch := by unfold wrap64; omega
  have m2 : IntKind.i64.wrap (1 - s.ch) = 1 - s.ch := by rw [IntWalk.i64_left]; exact m1
  have m3 : (1 - s.ch != 1 - s.ch) = false := by simp
  have m4 : (1 - s.ch == 1 - s.ch) = true := by simp
  subst hcy
  have d1 : decide (s.cy < s.cy) = false := decide_eq_false (by omega)
  have d3 : decide (s.cy > s.cy) = false := decide_eq_false (by omega)
  have hta := assert_is
  have HBB := Lib.hid hB
  have HXG := Lib.hid hXg
  have HBD := Lib.hid hbd
  clear h4 h6 hbd hXg hch hk hB
  go_enter Try.func17, Try.ntmps17
  go_wp2_with fail
  refine name_world ?_
  intro W hW
  have kr : W.heap[w.heap.size]? = some (.cells #[.int .i64 (1 - s.ch), .int .i64 s.cy, .int .u64 (I.o : Int), .int .u32 (I.n : Int), .int .u32 (I.r : Int), .slice a I.c.length cap] 35 (0, 0)) := by rw [hW]; exact heap_new1 _ _
  have hB0 : Below w.heap.size w W := by rw [hW]; exact below1 _ _
  have hWs : W.heap.size = w.heap.size + 1 := by rw [hW]; exact Array.size_push ..
  have kg := blk_keep hB0 h1
  have hinW := hin.below hB0
  have r0 := blk_cell kr 0 _ rfl
  have g0 := blk_cell kg 0 _ rfl
  have r1 := blk_cell kr 1 _ rfl
  have g1 := blk_cell kg 1 _ rfl
  have r2 := blk_cell kr 2 _ rfl
  have g2 := blk_cell kg 2 _ rfl
  have r3 := blk_cell kr 3 _ rfl
  have g3 := blk_cell kg 3 _ rfl
  have r4 := blk_cell kr 4 _ rfl
  have g4 := blk_cell kg 4 _ rfl
  have r5 := blk_cell kr 5 _ rfl
  have g5 := blk_cell kg 5 _ rfl
  have kp1 := blk_keep hB0 kp0
  have p1 := blk_cell kp1 1 _ rfl
  have hinp := HIP.out.below hB0
  have fg := blk_free kg
  have HW := Lib.hid hWs
  obtain ⟨z, hz⟩ : ∃ z, z = w.heap.size := ⟨_, rfl⟩
  rw [← hz] at kr r0 r1 r2 r3 r4 r5 ⊢
  have HZ := Lib.hid hz
  clear hW hWs hz h1 hin
  go_quiet (fail)
  go_wp2_with fail
  go_quiet (fail)
  go_wp2_with fail
  go_quiet (fail)
  go_wp2_with fail
  refine (hsame_is I J (1 - s.ch) s.cy chp s.cy kp z a ap cap cp _ (hinW.below (below_drewN (Below.refl _ _) _)) (hinp.below (below_drewN (Below.refl _ _) _)) (blk_drewN kr _) (blk_drewN kp1 _)).mono ?_
  rintro e w1 ⟨rfl, hb1⟩
  rw [(show (s.cy == s.cy && J.same I) = true by rw [HBB.out]; simp)]
  have hb1 : Below W.heap.size W w1 := (below_drewN (Below.refl _ _) _).trans hb1
  have hB1 := below_on hB0 hb1
  clear hb1
  go_wp2_with fail
  go_ret
  rw [HP.out]
  exact ⟨X, w.heap.size, rfl, HS.out.below hB1, fun j hj => .inl hj, hB1.size, Only.of_below hB1⟩

set_option maxHeartbeats 2000000 in
theorem hear_oF (s : Side) (X : Nat → Prop) (g : Nat) (ch cy : Int) (I : In) (a : Option Addr) (cap : Nat) (w : World) (h : SideAt w X g s) (hch : s.ch = 0 ∨ s.ch = 1) (hin : InAt w a cap I) (hcc : ch = 1 - s.ch) (hcy : cy = s.cy) (J : In) (hk : s.other = some J) (hB : J.same I = false) :
    Calls Try.prog 17 #[.pointer (some ⟨g, 0, none⟩), .iface 35 (.agg #[.int .i64 ch, .int .i64 cy, .int .u64 (I.o : Int), .int .u32 (I.n : Int), .int .u32 (I.r : Int), .slice a I.c.length cap])] w
      fun e w' => ∃ X' M, e = .returned (.int .i64 (s.hear ch cy I).2) ∧ SideAt w' X' g (s.hear ch cy I).1 ∧ Gr X X' w.heap.size M ∧ M ≤ w'.heap.size ∧ Only g w w' := by
  have HP : Hid (s.hear ch cy I = (⟨s.ch, s.cy, s.own, s.other, s.kept, true⟩, 4)) := Lib.hid (by unfold Side.hear; rw [if_neg (by simpa using hcc)]; rw [if_neg (show ¬ cy < s.cy by omega)]; rw [if_neg (show ¬ s.cy < cy by omega)]; rw [hk]; simp only []; rw [if_neg (by simp [hB])])
  have HS := Lib.hid h
  have hlt := h.lt
  obtain ⟨po, pt, pk, h1, hXg, hbd, h4, h5, h6⟩ := unfold_side h
  have H4 := Lib.hid h4
  have H5 := Lib.hid h5
  have H6 := Lib.hid h6
  subst hcc
  rw [hk] at h5
  simp only [Option.map_some] at h5
  unfold OptAt RdAt at h5
  obtain ⟨kp, ap, cp, chp, rfl, hXk, kp0, hinp, _⟩ := h5
  have HIP := Lib.hid hinp
  have hkl : kp < w.heap.size := blk_lt kp0
  clear hinp hXk
  have m1 : wrap64 (1 - s.ch) = 1 - s.ch := by unfold wrap64; omega
  have m2 : IntKind.i64.wrap (1 - s.ch) = 1 - s.ch := by rw [IntWalk.i64_left]; exact m1
  have m3 : (1 - s.ch != 1 - s.ch) = false := by simp
  have m4 : (1 - s.ch == 1 - s.ch) = true := by simp
  subst hcy
  have d1 : decide (s.cy < s.cy) = false := decide_eq_false (by omega)
  have d3 : decide (s.cy > s.cy) = false := decide_eq_false (by omega)
  have hta := assert_is
  have HBB := Lib.hid hB
  have HXG := Lib.hid hXg
  have HBD := Lib.hid hbd
  clear h4 h6 hbd hXg hch hk hB
  go_enter Try.func17, Try.ntmps17
  go_wp2_with fail
  refine name_world ?_
  intro W hW
  have kr : W.heap[w.heap.size]? = some (.cells #[.int .i64 (1 - s.ch), .int .i64 s.cy, .int .u64 (I.o : Int), .int .u32 (I.n : Int), .int .u32 (I.r : Int), .slice a I.c.length cap] 35 (0, 0)) := by rw [hW]; exact heap_new1 _ _
  have hB0 : Below w.heap.size w W := by rw [hW]; exact below1 _ _
  have hWs : W.heap.size = w.heap.size + 1 := by rw [hW]; exact Array.size_push ..
  have kg := blk_keep hB0 h1
  have hinW := hin.below hB0
  have r0 := blk_cell kr 0 _ rfl
  have g0 := blk_cell kg 0 _ rfl
  have r1 := blk_cell kr 1 _ rfl
  have g1 := blk_cell kg 1 _ rfl
  have r2 := blk_cell kr 2 _ rfl
  have g2 := blk_cell kg 2 _ rfl
  have r3 := blk_cell kr 3 _ rfl
  have g3 := blk_cell kg 3 _ rfl
  have r4 := blk_cell kr 4 _ rfl
  have g4 := blk_cell kg 4 _ rfl
  have r5 := blk_cell kr 5 _ rfl
  have g5 := blk_cell kg 5 _ rfl
  have kp1 := blk_keep hB0 kp0
  have p1 := blk_cell kp1 1 _ rfl
  have hinp := HIP.out.below hB0
  have fg := blk_free kg
  have HW := Lib.hid hWs
  obtain ⟨z, hz⟩ : ∃ z, z = w.heap.size := ⟨_, rfl⟩
  rw [← hz] at kr r0 r1 r2 r3 r4 r5 ⊢
  have HZ := Lib.hid hz
  clear hW hWs hz h1 hin
  go_quiet (fail)
  go_wp2_with fail
  go_quiet (fail)
  go_wp2_with fail
  go_quiet (fail)
  go_wp2_with fail
  refine (hsame_is I J (1 - s.ch) s.cy chp s.cy kp z a ap cap cp _ (hinW.below (below_drewN (Below.refl _ _) _)) (hinp.below (below_drewN (Below.refl _ _) _)) (blk_drewN kr _) (blk_drewN kp1 _)).mono ?_
  rintro e w1 ⟨rfl, hb1⟩
  rw [(show (s.cy == s.cy && J.same I) = false by rw [HBB.out]; simp)]
  have hb1 : Below W.heap.size W w1 := (below_drewN (Below.refl _ _) _).trans hb1
  have hB1 := below_on hB0 hb1
  have kg1 := blk_keep hb1 kg
  have q5 := blk_cell kg1 5 _ rfl
  have fg1 := blk_free kg1
  clear hb1
  go_wp2_with fail
  go_ret
  rw [HP.out]
  have ho : Only g w1 (w1.setCell ⟨g, 5, none⟩ (.bool true)) := (Only.refl g w1).setCell (p := ⟨g, 5, none⟩) rfl _
  have hkeep : ∀ j, X j → (w1.setCell ⟨g, 5, none⟩ (.bool true)).heap[j]? = w.heap[j]? := fun j hj => (ho.block j (by have := HBD.out j hj; have := hB1.size; omega) (by rintro rfl; exact HXG.out hj)).trans (hB1.block j (HBD.out j hj))
  have hs := hB1.size
  refine ⟨Plus X w1.heap.size w1.heap.size, w1.heap.size, rfl, SideAt.make (w := w) (blk_set kg1 5 _) HXG.out HBD.out (by omega) hs (Nat.le_refl _) ho.size (H4.out.plus hkeep) (H5.out.plus hkeep) (H6.out.plus hkeep), Plus.gr hs (Nat.le_refl _), ho.size, (Only.of_below hB1).trans ho⟩
end Go.Proofs.Ytbbacmlcimgjbaa
