/-
  Chapter 26: do a switch and the document's tell the same of themselves; any row of calls.
-/
import Derived.Test.YtoedipajcmmhjaaSwK
namespace Go.Proofs.Ytoedipajcmmhjaa
open Go.RowKit

theorem take_ok {ge gu a b : Int} (h1 : 0 ≤ ge) (h2 : ge ≤ 1099511627784) (h3 : 0 ≤ gu) (h4 : gu ≤ 1099511627784) : 0 ≤ (takeR ge gu a b).ge ∧ (takeR ge gu a b).ge ≤ 1099511627784 ∧ 0 ≤ (takeR ge gu a b).gu ∧ (takeR ge gu a b).gu ≤ 1099511627784 := by
  by_cases hi : inL 1099511627784 [a, b] = true
  · have hj := hi
    rw [inL_two, Bool.and_eq_true] at hj
    unfold inB at hj
    have j1 := of_decide_eq_true hj.1
    have j2 := of_decide_eq_true hj.2
    unfold takeR
    rw [if_pos hi]
    repeat' split
    all_goals dsimp only; omega
  · unfold takeR
    rw [if_neg hi]
    exact ⟨h1, h2, h3, h4⟩
theorem Sw.ok.back {s : Sw} (h : s.ok) : s.back.ok := ⟨h.e1, h.e2, h.u1, h.u2, Int.le_refl 0, show (0 : Int) ≤ 4 by decide, h.k1, h.k2⟩
theorem Sw.ok.tick {s : Sw} (h : s.ok) (t : Int) : (tickR s t).1.ok := by
  unfold tickR leadR standR
  repeat' split
  · exact h.back
  · exact h
  · exact h
  · exact ⟨h.e1, h.e2, h.u1, h.u2, by have := h.q1; show (0 : Int) ≤ s.qu + 1; omega, by show s.qu + 1 ≤ 4; omega, h.k1, h.k2⟩
  · exact ⟨h.e1, h.e2, h.u1, h.u2, Int.le_refl 0, show (0 : Int) ≤ 4 by decide, h.k1, h.k2⟩
theorem Sw.ok.grant {s : Sw} (h : s.ok) (a b : Int) : (grantR s a b).1.ok := by
  unfold grantR
  split
  · exact h
  split
  · exact h
  split
  · exact h
  split
  · exact h
  · obtain ⟨t1, t2, t3, t4⟩ := take_ok (a := a) (b := b) h.e1 h.e2 h.u1 h.u2
    exact ⟨t1, t2, t3, t4, Int.le_refl 0, show (0 : Int) ≤ 4 by decide, show 0 ≤ a by omega, show a ≤ 1099511627776 by omega⟩
theorem Sw.ok.ref {s : Sw} (h : s.ok) : (refR s).1.ok := by
  unfold refR; split
  · exact h.back
  · exact h
theorem Sw.ok.beat {s : Sw} (h : s.ok) (e : Int) : (beatR s e).1.ok := by
  unfold beatR
  split
  · exact h
  · rename_i c
    have c1 : 0 ≤ e := by omega
    have c2 : e ≤ 1099511627776 := by omega
    split
    · exact ⟨h.e1, h.e2, h.u1, h.u2, Int.le_refl 0, show (0 : Int) ≤ 4 by decide, c1, c2⟩
    split
    · exact ⟨h.e1, h.e2, h.u1, h.u2, Int.le_refl 0, show (0 : Int) ≤ 4 by decide, c1, c2⟩
    · exact ⟨h.e1, h.e2, h.u1, h.u2, h.q1, h.q2, c1, c2⟩
theorem ok_new (p : Int) : Sw.ok ⟨p, 0, 0, false, 0, 0⟩ := by constructor <;> simp
attribute [local irreducible] takeR holdsB tm inB inL tickR grantR refR beatR holdR rol
set_option maxHeartbeats 1000000 in
theorem same_is (s : Sw) (gs gm : Nat) (t : Int) (w : World) (hs : s.ok) (h : SwAt w gs s) (hd : DwAt w gm s) : Calls Try.prog 30 #[.pointer (some ⟨gs, 0, none⟩), .pointer (some ⟨gm, 0, none⟩), .int .i64 t] w fun e w' => e = .returned (.bool true) ∧ Below w.heap.size w w' := by
  have HS := Lib.hid h
  have HD := Lib.hid hd
  have HO := Lib.hid hs
  have c0 := blk_cell hd 0 _ rfl
  obtain ⟨b, hb⟩ : ∃ b, holdR s t = b := ⟨_, rfl⟩
  have HB := Lib.hid hb
  clear h hs hb hd
  obtain ⟨RV, hRV⟩ : ∃ RV, rol s.ac = RV := ⟨_, rfl⟩
  have HRV := Lib.hid hRV
  have k1 : ∀ w', Below w.heap.size w w' → Calls Try.prog 8 #[.pointer (some ⟨gs, 0, none⟩)] w' fun e w'' => e = .returned (.int .u8 RV) ∧ Below w.heap.size w w'' :=
    fun w' hw' => (role_to RV s gs w' HRV.out (HS.out.below hw')).mono (fun e w9 ⟨h1, h2⟩ => ⟨h1, h2 ▸ hw'⟩)
  have k2 : ∀ w', Below w.heap.size w w' → Calls Try.prog 12 #[.pointer (some ⟨gs, 0, none⟩)] w' fun e w'' => e = .returned (.int .i64 s.ge) ∧ Below w.heap.size w w'' :=
    fun w' hw' => (epoch_is s gs w' (HS.out.below hw')).mono (fun e w9 ⟨h1, h2⟩ => ⟨h1, h2 ▸ hw'⟩)
  have k3 : ∀ w', Below w.heap.size w w' → Calls Try.prog 16 #[.pointer (some ⟨gs, 0, none⟩)] w' fun e w'' => e = .returned (.int .i64 s.kn) ∧ Below w.heap.size w w'' :=
    fun w' hw' => (known_is s gs w' (HS.out.below hw')).mono (fun e w9 ⟨h1, h2⟩ => ⟨h1, h2 ▸ hw'⟩)
  have k4 : ∀ w', Below w.heap.size w w' → Calls Try.prog 13 #[.pointer (some ⟨gs, 0, none⟩), .int .i64 t] w' fun e w'' => e = .returned (.bool b) ∧ Below w.heap.size w w'' :=
    fun w' hw' => (holds_to b s gs t w' HB.out HO.out (HS.out.below hw')).mono (fun e w9 ⟨h1, h2⟩ => ⟨h1, below_on hw' h2⟩)
  have k5 : ∀ w', Below w.heap.size w w' → Calls Try.prog 38 #[.pointer (some ⟨gm, 0, none⟩), .int .i64 t] w' fun e w'' => e = .returned (.bool b) ∧ Below w.heap.size w w'' :=
    fun w' hw' => (rholds_is b s gm t w' HB.out HO.out (HD.out.below hw')).mono (fun e w9 ⟨h1, h2⟩ => ⟨h1, below_on hw' h2⟩)
  cases ha : s.ac with
  | true =>
    have hr : RV = 1 := by rw [← hRV, ha]; unfold rol; rfl
    rw [ha] at c0
    subst hr
    clear ha hRV
    go_enter Try.func30, Try.ntmps30
    go_wp2_with fail
    refine wp_region_calm (by kernel_rfl) ?_ ?_
    · kernel_rfl
    repeat first
     | go_big_quiet_skip
     | (go_big_quiet_want; go_big_quiet_op; go_big_quiet_on)
     | (with_reducible apply wpQuiet_step
        intro K hK
        go_simp
        first
          | (refine hK _ ?_; clear hK K)
          | (apply Exists.intro
             refine ⟨fun w' hw' => ?_, hK _ ?_⟩
             ·
               (first
                | with_reducible exact k1 _ hw'
                | with_reducible exact k2 _ hw'
                | with_reducible exact k3 _ hw'
                | with_reducible exact k4 _ hw'
                | with_reducible exact k5 _ hw'
                | (have e0 := blk_cell (blk_keep hw' HD.out) 1 _ rfl
                   have e1 := blk_cell (blk_keep hw' HD.out) 3 _ rfl
                   go_simp
                   first | done | with_reducible exact rfl | with_reducible exact ⟨rfl, rfl⟩ | with_reducible exact k1 _ hw' | with_reducible exact k2 _ hw' | with_reducible exact k3 _ hw' | with_reducible exact k4 _ hw' | with_reducible exact k5 _ hw'))
             clear hK K))
    refine wpQuiet_nil ?_
    intro w7 hw7
    go_wp2_with fail
    go_ret
    exact ⟨rfl, hw7⟩
  | false =>
    have hr : RV = 0 := by rw [← hRV, ha]; unfold rol; rfl
    rw [ha] at c0
    subst hr
    clear ha hRV
    go_enter Try.func30, Try.ntmps30
    go_wp2_with fail
    refine wp_region_calm (by kernel_rfl) ?_ ?_
    · kernel_rfl
    repeat first
     | go_big_quiet_skip
     | (go_big_quiet_want; go_big_quiet_op; go_big_quiet_on)
     | (with_reducible apply wpQuiet_step
        intro K hK
        go_simp
        first
          | (refine hK _ ?_; clear hK K)
          | (apply Exists.intro
             refine ⟨fun w' hw' => ?_, hK _ ?_⟩
             ·
               (first
                | with_reducible exact k1 _ hw'
                | with_reducible exact k2 _ hw'
                | with_reducible exact k3 _ hw'
                | with_reducible exact k4 _ hw'
                | with_reducible exact k5 _ hw'
                | (have e0 := blk_cell (blk_keep hw' HD.out) 1 _ rfl
                   have e1 := blk_cell (blk_keep hw' HD.out) 3 _ rfl
                   go_simp
                   first | done | with_reducible exact rfl | with_reducible exact ⟨rfl, rfl⟩ | with_reducible exact k1 _ hw' | with_reducible exact k2 _ hw' | with_reducible exact k3 _ hw' | with_reducible exact k4 _ hw' | with_reducible exact k5 _ hw'))
             clear hK K))
    refine wpQuiet_nil ?_
    intro w7 hw7
    go_wp2_with fail
    go_ret
    exact ⟨rfl, hw7⟩
theorem rtick_to (r : Int) (s s' : Sw) (g : Nat) (t : Int) (w : World) (hR : tickR s t = (s', r)) (hs : s.ok) (h : DwAt w g s) : Calls Try.prog 26 #[.pointer (some ⟨g, 0, none⟩), .int .i64 t] w fun e w' => e = .returned (.int .u8 r) ∧ DwAt w' g s' ∧ Only g w w' := by
  have := rtick_is s g t w hs h
  rw [hR] at this
  exact this
theorem rgranted_to (r : Int) (s s' : Sw) (g : Nat) (a b : Int) (w : World) (hR : grantR s a b = (s', r)) (h : DwAt w g s) : Calls Try.prog 27 #[.pointer (some ⟨g, 0, none⟩), .int .i64 a, .int .i64 b] w fun e w' => e = .returned (.int .i64 r) ∧ DwAt w' g s' ∧ Only g w w' := by
  have := rgranted_is s g a b w h
  rw [hR] at this
  exact this
theorem beat_to (r : Int) (s s' : Sw) (g : Nat) (t : Int) (w : World) (hR : beatR s t = (s', r)) (h : SwAt w g s) : Calls Try.prog 11 #[.pointer (some ⟨g, 0, none⟩), .int .i64 t] w fun e w' => e = .returned (.int .u8 r) ∧ SwAt w' g s' ∧ Only g w w' := by
  have := beat_is s g t w h
  rw [hR] at this
  exact this
theorem rbeat_to (r : Int) (s s' : Sw) (g : Nat) (t : Int) (w : World) (hR : beatR s t = (s', r)) (h : DwAt w g s) : Calls Try.prog 29 #[.pointer (some ⟨g, 0, none⟩), .int .i64 t] w fun e w' => e = .returned (.int .u8 r) ∧ DwAt w' g s' ∧ Only g w w' := by
  have := rbeat_is s g t w h
  rw [hR] at this
  exact this
theorem refused_to (r : Int) (s s' : Sw) (g : Nat) (w : World) (hR : refR s = (s', r)) (h : SwAt w g s) : Calls Try.prog 15 #[.pointer (some ⟨g, 0, none⟩)] w fun e w' => e = .returned (.int .u8 r) ∧ SwAt w' g s' ∧ Only g w w' := by
  have := refused_is s g w h
  rw [hR] at this
  exact this
theorem rrefused_to (r : Int) (s s' : Sw) (g : Nat) (w : World) (hR : refR s = (s', r)) (h : DwAt w g s) : Calls Try.prog 28 #[.pointer (some ⟨g, 0, none⟩)] w fun e w' => e = .returned (.int .u8 r) ∧ DwAt w' g s' ∧ Only g w w' := by
  have := rrefused_is s g w h
  rw [hR] at this
  exact this
/-- a call: its kind, a time, a grant -/
structure Cl where
  k : Nat
  n : Int
  a : Int
  b : Int
def ClsAt (w : World) (x : Option Addr) (l : List Cl) : Prop := (∀ c ∈ l, c.k < 256) ∧ (l = [] ∨ ∃ b off, x = some ⟨b, off, none⟩ ∧ ∀ i c, l[i]? = some c → w.cell? ⟨b, off + i * 4, none⟩ = some (.int .u8 (c.k : Int)) ∧ w.cell? ⟨b, off + i * 4 + 1, none⟩ = some (.int .i64 c.n) ∧ w.cell? ⟨b, off + i * 4 + 2, none⟩ = some (.int .i64 c.a) ∧ w.cell? ⟨b, off + i * 4 + 3, none⟩ = some (.int .i64 c.b))
theorem ClsAt.below {w w' : World} {a : Option Addr} {l : List Cl} (hb : Below w.heap.size w w') (h : ClsAt w a l) : ClsAt w' a l := by
  refine ⟨h.1, h.2.imp id ?_⟩
  rintro ⟨b, off, rfl, hc⟩
  refine ⟨b, off, rfl, fun i c hi => ?_⟩
  obtain ⟨h0, h1, h2, h3⟩ := hc i c hi
  exact ⟨cell_later hb h0, cell_later hb h1, cell_later hb h2, cell_later hb h3⟩
/-- two switches, and a call's copy -/
structure Duo (w0 w : World) (gs gm gx : Nat) (c : Cl) (s m : Sw) : Prop where
  a : SwAt w gs s
  b : DwAt w gm m
  x : w.heap[gx]? = some (.cells #[.int .u8 (c.k : Int), .int .i64 c.n, .int .i64 c.a, .int .i64 c.b] 46)
  o1 : w0.heap.size ≤ gs
  o2 : gs < gm
  o3 : gm < gx
  below : Below w0.heap.size w0 w
variable {w0 w w' : World} {gs gm gx : Nat} {c : Cl} {s m : Sw}
theorem Duo.step (h : Duo w0 w gs gm gx c s m) (hb : Below w.heap.size w w') : Duo w0 w' gs gm gx c s m := ⟨h.a.below hb, h.b.below hb, blk_keep hb h.x, h.o1, h.o2, h.o3, h.below.trans (hb.mono h.below.size)⟩
theorem Duo.a_set {s' : Sw} (h : Duo w0 w gs gm gx c s m) (ho : Only gs w w') (hs : SwAt w' gs s') : Duo w0 w' gs gm gx c s' m := by
  obtain ⟨x1, x2, x3, o1, o2, o3, bl⟩ := h
  exact ⟨hs, x2.only ho (by omega), ho.keep (by omega) x3, o1, o2, o3, Only.below bl (by omega) bl.size ho⟩
theorem Duo.b_set {m' : Sw} (h : Duo w0 w gs gm gx c s m) (ho : Only gm w w') (hs : DwAt w' gm m') : Duo w0 w' gs gm gx c s m' := by
  obtain ⟨x1, x2, x3, o1, o2, o3, bl⟩ := h
  exact ⟨x1.only ho (by omega), hs, ho.keep (by omega) x3, o1, o2, o3, Only.below bl (by omega) bl.size ho⟩
theorem Duo.cells (h : Duo w0 w gs gm gx c s m) : w.cell? ⟨gx, 0, none⟩ = some (.int .u8 (c.k : Int)) ∧ w.cell? ⟨gx, 1, none⟩ = some (.int .i64 c.n) ∧ w.cell? ⟨gx, 2, none⟩ = some (.int .i64 c.a) ∧ w.cell? ⟨gx, 3, none⟩ = some (.int .i64 c.b) :=
  ⟨blk_cell h.x 0 _ rfl, blk_cell h.x 1 _ rfl, blk_cell h.x 2 _ rfl, blk_cell h.x 3 _ rfl⟩
theorem name_world {P : Program} {c : Code} {Q : Exit → Act → World → Prop} {a : Act} {w : World} (h : ∀ W, W = w → c.wp P Q a W) : c.wp P Q a w := h w rfl

set_option maxRecDepth 100000 in
set_option maxHeartbeats 200000000 in
theorem plays_any (p : Int) (x : Option Addr) (n cap : Nat) (l : List Cl) (w : World) (hn : l.length = n) (hm : n ≤ maxLen) (hl : ClsAt w x l) :
    Calls Try.prog 17 #[.int .i64 p, .slice x n cap] w fun e w' => e = .returned (.bool true) ∧ Below w.heap.size w w' := by
  have HN := Lib.hid hn
  have hm' : (n : Int) ≤ 9223372036854775807 := by unfold maxLen at hm; omega
  clear hn hm
  by_cases h300 : 300 < n
  · go_enter Try.func17, Try.ntmps17
    go_wp2_with fail
    refine (works_any _).mono ?_
    rintro e w3 ⟨rfl, hb3⟩
    go_wp2_with fail
    go_ret
    exact ⟨rfl, hb3⟩
  by_cases hp : p = 0 ∨ p = 1
  · go_enter Try.func17, Try.ntmps17
    go_wp2_with fail
    refine (new_one p _ hp).mono ?_
    rintro e w1 ⟨rfl, hs1, hb1⟩
    have HS1 := Lib.hid hs1
    have HB1 := Lib.hid hb1
    have hl1 := hl.below hb1
    obtain ⟨gs, hgs⟩ : ∃ gs, gs = w.heap.size := ⟨_, rfl⟩
    rw [← hgs] at HS1 ⊢
    have HGS := Lib.hid hgs
    clear hs1 hb1 hgs
    go_upto_region 4 with fail
    go_cut [25] (fun s25 wx => s25 = .bool false ∧ w1 = wx)
    case first =>
      rcases hp with rfl | rfl
      · go_wp2_with fail
        go_meet
        exact ⟨rfl, rfl⟩
      · go_wp2_with fail
        go_meet
        exact ⟨rfl, rfl⟩
    case rest =>
      obtain ⟨rfl, rfl⟩ := hcut
      clear hp
      go_upto_region 9 with fail
      refine name_world ?_
      intro W hW
      obtain ⟨gm, hgm⟩ : ∃ gm, gm = w1.heap.size := ⟨_, rfl⟩
      have HF0 : Hid (SwAt W gs ⟨p, 0, 0, false, 0, 0⟩ ∧ DwAt W gm ⟨p, 0, 0, false, 0, 0⟩ ∧ Below w.heap.size w W ∧ w.heap.size ≤ gs ∧ gs < gm) := Lib.hid (by
        subst hW
        rw [hgm]
        refine ⟨HS1.out.below (below1 _ _), alloc1 w1 _ (Below.refl _ _), below_on HB1.out (below1 _ _), by rw [HGS.out]; exact Nat.le_refl _, ?_⟩
        have := HB1.out.size
        exact blk_lt HS1.out)
      rw [← hgm]
      clear hgm hW HS1 HB1 HGS
      go_wp2_with fail
      go_loopg [8] n (fun m i wr => ∃ (k : Nat) (s : Sw), k + m = n ∧ i = .int .i64 k ∧ s.ok ∧ SwAt wr gs s ∧ DwAt wr gm s ∧ Below w.heap.size w wr ∧ w.heap.size ≤ gs ∧ gs < gm)
      case atStart => exact ⟨0, _, by omega, rfl, ok_new p, HF0.out.1, HF0.out.2.1, HF0.out.2.2.1, HF0.out.2.2.2.1, HF0.out.2.2.2.2⟩
      case round =>
        obtain ⟨k, s, hk, rfl, hok, hs, hd, hbl, o1, o2⟩ := hrel
        clear HF0
        by_cases hlt : k < n
        · obtain ⟨hcl, hwhere⟩ := hl.below hbl
          rcases hwhere with hnil | ⟨xb, off, rfl, hcells⟩
          · rw [hnil] at HN; exact absurd HN.out (by simp; omega)
          obtain ⟨cc, hc⟩ : ∃ cc, l[k]? = some cc := ⟨_, List.getElem?_eq_getElem (by rw [HN.out]; exact hlt)⟩
          obtain ⟨z0, z1, z2, z3⟩ := hcells k cc hc
          have c1 := hcl cc (List.mem_of_getElem? hc)
          have d1 : (0 : Int) ≤ k := by omega
          have d2 : (k : Int) < n := by omega
          obtain ⟨ck, cn, ca, cb⟩ := cc
          dsimp only at z0 z1 z2 z3 c1
          clear hcells hc hcl
          have lm := blk_lt hd
          obtain ⟨gx, hgx⟩ : ∃ gx, gx = wr.heap.size := ⟨_, rfl⟩
          have HD00 : Hid (∀ W, W = wr.alloc (.cells #[.int .u8 (ck : Int), .int .i64 cn, .int .i64 ca, .int .i64 cb] 46) → Duo w W gs gm gx ⟨ck, cn, ca, cb⟩ s s) := Lib.hid (by
            rintro W rfl
            have b := below1 wr (.cells #[.int .u8 (ck : Int), .int .i64 cn, .int .i64 ca, .int .i64 cb] 46)
            exact ⟨hs.below b, hd.below b, by rw [hgx]; exact alloc1 wr _ (Below.refl _ _), o1, o2, by rw [hgx]; exact lm, below_on hbl b⟩)
          have HOO := Lib.hid hok
          have HO12 := Lib.hid (And.intro o1 o2)
          clear hs hd hbl o1 o2 lm hok
          go_upto_region 13 with fail
          refine name_world ?_
          intro W hW
          have HD := Lib.hid (HD00.out W (by rw [hW]))
          rw [← hgx]
          clear HD00 hgx hW z0 z1 z2 z3
          have x0 := HD.out.cells
          obtain ⟨y0, y1, y2, y3⟩ := HD.out.cells
          dsimp only at x0 y0 y1 y2 y3
          go_upto_block 2 with fail
          go_cut [10, 51] (fun s10 _s51 wx => ∃ s2 : Sw, s10 = .bool true ∧ s2.ok ∧ Duo w wx gs gm gx ⟨ck, cn, ca, cb⟩ s2 s2)
          case first =>
            have HD0 := Lib.hid (HD.out.step (Below.refl _ W).drew)
            rcases (show ck % 6 = 0 ∨ ck % 6 = 1 ∨ ck % 6 = 2 ∨ ck % 6 = 3 ∨ ck % 6 = 4 ∨ ck % 6 = 5 by omega) with hk6 | hk6 | hk6 | hk6 | hk6 | hk6
            · skip
              as_aux_lemma =>
                have hm : (ck : Int) % 6 = 0 := by omega
                clear hk6

                obtain ⟨s', r, hT⟩ : ∃ s' r, tickR s cn = (s', r) := ⟨_, _, rfl⟩
                have HT := Lib.hid hT
                have HOK : Hid s'.ok := Lib.hid (by have := HOO.out.tick cn; rw [hT] at this; exact this)
                clear hT

                go_upto_region 17 with fail
                go_region_held3 (fun w' => w'.cell? ⟨gx, 0, none⟩ = some (.int .u8 (ck : Int)) ∧ w'.cell? ⟨gx, 1, none⟩ = some (.int .i64 cn) ∧ w'.cell? ⟨gx, 2, none⟩ = some (.int .i64 ca) ∧ w'.cell? ⟨gx, 3, none⟩ = some (.int .i64 cb))
                  (first | exact xF | exact x8 | exact x9 | exact x0)
                  (first
                    | (go_at_call 9; first | (with_reducible refine (tick_to r s s' gs cn _ HT.out HOO.out HD0.out.a).mono ?_; rintro e w8 ⟨rfl, hs8, ho8⟩; have hD8 := HD0.out.a_set ho8 hs8; have x8 := hD8.cells) | (with_reducible refine (tick_to r s s' gs cn _ HT.out HOO.out hD9.a).mono ?_; rintro e w8 ⟨rfl, hs8, ho8⟩; have hDF := hD9.a_set ho8 hs8; have xF := hDF.cells))
                    | (go_at_call 26; first | (with_reducible refine (rtick_to r s s' gm cn _ HT.out HOO.out HD0.out.b).mono ?_; rintro e w9 ⟨rfl, hs9, ho9⟩; have hD9 := HD0.out.b_set ho9 hs9; have x9 := hD9.cells) | (with_reducible refine (rtick_to r s s' gm cn _ HT.out HOO.out hD8.b).mono ?_; rintro e w9 ⟨rfl, hs9, ho9⟩; have hDF := hD8.b_set ho9 hs9; have xF := hDF.cells)))
                all_goals
                  have HF := Lib.hid hDF
                  clear hDF
                  go_wp2_with fail
                  go_meet
                  exact ⟨s', rfl, HOK.out, HF.out⟩
            · skip
              as_aux_lemma =>
                have hm : (ck : Int) % 6 = 1 := by omega
                clear hk6

                obtain ⟨s', r, hT⟩ : ∃ s' r, tickR s cn = (s', r) := ⟨_, _, rfl⟩
                have HT := Lib.hid hT
                have HOK : Hid s'.ok := Lib.hid (by have := HOO.out.tick cn; rw [hT] at this; exact this)
                clear hT

                go_upto_region 17 with fail
                go_region_held3 (fun w' => w'.cell? ⟨gx, 0, none⟩ = some (.int .u8 (ck : Int)) ∧ w'.cell? ⟨gx, 1, none⟩ = some (.int .i64 cn) ∧ w'.cell? ⟨gx, 2, none⟩ = some (.int .i64 ca) ∧ w'.cell? ⟨gx, 3, none⟩ = some (.int .i64 cb))
                  (first | exact xF | exact x8 | exact x9 | exact x0)
                  (first
                    | (go_at_call 9; first | (with_reducible refine (tick_to r s s' gs cn _ HT.out HOO.out HD0.out.a).mono ?_; rintro e w8 ⟨rfl, hs8, ho8⟩; have hD8 := HD0.out.a_set ho8 hs8; have x8 := hD8.cells) | (with_reducible refine (tick_to r s s' gs cn _ HT.out HOO.out hD9.a).mono ?_; rintro e w8 ⟨rfl, hs8, ho8⟩; have hDF := hD9.a_set ho8 hs8; have xF := hDF.cells))
                    | (go_at_call 26; first | (with_reducible refine (rtick_to r s s' gm cn _ HT.out HOO.out HD0.out.b).mono ?_; rintro e w9 ⟨rfl, hs9, ho9⟩; have hD9 := HD0.out.b_set ho9 hs9; have x9 := hD9.cells) | (with_reducible refine (rtick_to r s s' gm cn _ HT.out HOO.out hD8.b).mono ?_; rintro e w9 ⟨rfl, hs9, ho9⟩; have hDF := hD8.b_set ho9 hs9; have xF := hDF.cells)))
                all_goals
                  have HF := Lib.hid hDF
                  clear hDF
                  go_wp2_with fail
                  go_meet
                  exact ⟨s', rfl, HOK.out, HF.out⟩
            · skip
              as_aux_lemma =>
                have hm : (ck : Int) % 6 = 2 := by omega
                clear hk6

                obtain ⟨s', r, hT⟩ : ∃ s' r, grantR s ca cb = (s', r) := ⟨_, _, rfl⟩
                have HT := Lib.hid hT
                have HOK : Hid s'.ok := Lib.hid (by have := HOO.out.grant ca cb; rw [hT] at this; exact this)
                clear hT

                go_upto_region 19 with fail
                go_region_held3 (fun w' => w'.cell? ⟨gx, 0, none⟩ = some (.int .u8 (ck : Int)) ∧ w'.cell? ⟨gx, 1, none⟩ = some (.int .i64 cn) ∧ w'.cell? ⟨gx, 2, none⟩ = some (.int .i64 ca) ∧ w'.cell? ⟨gx, 3, none⟩ = some (.int .i64 cb))
                  (first | exact xF | exact x8 | exact x9 | exact x0)
                  (first
                    | (go_at_call 14; first | (with_reducible refine (granted_to r s s' gs ca cb _ HT.out HD0.out.a).mono ?_; rintro e w8 ⟨rfl, hs8, ho8⟩; have hD8 := HD0.out.a_set ho8 hs8; have x8 := hD8.cells) | (with_reducible refine (granted_to r s s' gs ca cb _ HT.out hD9.a).mono ?_; rintro e w8 ⟨rfl, hs8, ho8⟩; have hDF := hD9.a_set ho8 hs8; have xF := hDF.cells))
                    | (go_at_call 27; first | (with_reducible refine (rgranted_to r s s' gm ca cb _ HT.out HD0.out.b).mono ?_; rintro e w9 ⟨rfl, hs9, ho9⟩; have hD9 := HD0.out.b_set ho9 hs9; have x9 := hD9.cells) | (with_reducible refine (rgranted_to r s s' gm ca cb _ HT.out hD8.b).mono ?_; rintro e w9 ⟨rfl, hs9, ho9⟩; have hDF := hD8.b_set ho9 hs9; have xF := hDF.cells)))
                all_goals
                  have HF := Lib.hid hDF
                  clear hDF
                  go_wp2_with fail
                  go_meet
                  exact ⟨s', rfl, HOK.out, HF.out⟩
            · skip
              as_aux_lemma =>
                have hm : (ck : Int) % 6 = 3 := by omega
                clear hk6

                obtain ⟨s', r, hT⟩ : ∃ s' r, refR s = (s', r) := ⟨_, _, rfl⟩
                have HT := Lib.hid hT
                have HOK : Hid s'.ok := Lib.hid (by have := HOO.out.ref; rw [hT] at this; exact this)
                clear hT

                go_wp2_with fail
                refine (refused_to r s s' gs _ HT.out HD.out.a).mono ?_
                rintro e w8 ⟨rfl, hs8, ho8⟩
                have HD8 := Lib.hid (HD.out.a_set ho8 hs8)
                clear hs8 ho8
                go_wp2_with fail
                refine (rrefused_to r s s' gm _ HT.out HD8.out.b).mono ?_
                rintro e w9 ⟨rfl, hs9, ho9⟩
                have HD9 := Lib.hid (HD8.out.b_set ho9 hs9)
                clear hs9 ho9
                go_wp2_with fail
                go_meet
                exact ⟨s', by first | rfl | simp, HOK.out, HD9.out⟩
            · skip
              as_aux_lemma =>
                have hm : (ck : Int) % 6 = 4 := by omega
                clear hk6

                obtain ⟨s', r, hT⟩ : ∃ s' r, beatR s cn = (s', r) := ⟨_, _, rfl⟩
                have HT := Lib.hid hT
                have HOK : Hid s'.ok := Lib.hid (by have := HOO.out.beat cn; rw [hT] at this; exact this)
                clear hT

                go_upto_region 23 with fail
                go_region_held3 (fun w' => w'.cell? ⟨gx, 0, none⟩ = some (.int .u8 (ck : Int)) ∧ w'.cell? ⟨gx, 1, none⟩ = some (.int .i64 cn) ∧ w'.cell? ⟨gx, 2, none⟩ = some (.int .i64 ca) ∧ w'.cell? ⟨gx, 3, none⟩ = some (.int .i64 cb))
                  (first | exact xF | exact x8 | exact x9 | exact x0)
                  (first
                    | (go_at_call 11; first | (with_reducible refine (beat_to r s s' gs cn _ HT.out HD0.out.a).mono ?_; rintro e w8 ⟨rfl, hs8, ho8⟩; have hD8 := HD0.out.a_set ho8 hs8; have x8 := hD8.cells) | (with_reducible refine (beat_to r s s' gs cn _ HT.out hD9.a).mono ?_; rintro e w8 ⟨rfl, hs8, ho8⟩; have hDF := hD9.a_set ho8 hs8; have xF := hDF.cells))
                    | (go_at_call 29; first | (with_reducible refine (rbeat_to r s s' gm cn _ HT.out HD0.out.b).mono ?_; rintro e w9 ⟨rfl, hs9, ho9⟩; have hD9 := HD0.out.b_set ho9 hs9; have x9 := hD9.cells) | (with_reducible refine (rbeat_to r s s' gm cn _ HT.out hD8.b).mono ?_; rintro e w9 ⟨rfl, hs9, ho9⟩; have hDF := hD8.b_set ho9 hs9; have xF := hDF.cells)))
                all_goals
                  have HF := Lib.hid hDF
                  clear hDF
                  go_wp2_with fail
                  go_meet
                  exact ⟨s', rfl, HOK.out, HF.out⟩
            · skip
              as_aux_lemma =>
                have hm : (ck : Int) % 6 = 5 := by omega
                clear hk6

                go_wp2_with fail
                go_meet
                exact ⟨s, rfl, HOO.out, HD.out⟩
          case rest =>
            obtain ⟨s2, rfl, hok2, hD2⟩ := hcut
            have HO2 := Lib.hid hok2
            have HD2 := Lib.hid hD2
            obtain ⟨v0, v1, v2, v3⟩ := hD2.cells
            dsimp only at v0 v1 v2 v3
            clear hok2 hD2 HD HOO x0 y0 y1 y2 y3
            go_wp2_with fail
            refine (same_is s2 gs gm cn _ HO2.out HD2.out.a HD2.out.b).mono ?_
            rintro e w8 ⟨rfl, hb8⟩
            have HD3 := Lib.hid (HD2.out.step hb8)
            clear hb8 HD2 v0 v1 v2 v3
            obtain ⟨v0, v1, v2, v3⟩ := HD3.out.cells
            dsimp only at v0 v1 v2 v3
            go_wp2_with fail
            refine (same_is s2 gs gm _ _ HO2.out HD3.out.a HD3.out.b).mono ?_
            rintro e w9 ⟨rfl, hb9⟩
            have HD4 := Lib.hid (HD3.out.step hb9)
            clear hb9 HD3 v0 v1 v2 v3
            go_wp2_with fail
            go_roundg (n - (k + 1))
            case rel => exact ⟨k + 1, s2, by omega, by go_num, HO2.out, HD4.out.a, HD4.out.b, HD4.out.below, HO12.out.1, HO12.out.2⟩
            case measure => omega
        · obtain rfl : k = n := by omega
          have HBL := Lib.hid hbl
          clear hbl hs hd hok
          go_wp2_with fail
          refine (works_any _).mono ?_
          rintro e w5 ⟨rfl, hb5⟩
          go_wp2_with fail
          go_ret
          exact ⟨rfl, below_on HBL.out hb5⟩
  · have hp' : p < 0 ∨ 1 < p := by omega
    have d0 : (p == 0) = false := by simp; omega
    have d1 : (p == 1) = false := by simp; omega
    have d2 : (p != 0) = true := by simp; omega
    have d3 : (p != 1) = true := by simp; omega
    have d4 : ¬ p = 0 := by omega
    have d5 : ¬ p = 1 := by omega
    have HP := Lib.hid hp'
    clear hp hp'
    go_enter Try.func17, Try.ntmps17
    go_wp2_with fail
    refine (new_no p _ HP.out).mono ?_
    rintro e w1 ⟨rfl, rfl⟩
    go_wp2_with fail
    refine (works_any _).mono ?_
    rintro e w5 ⟨rfl, hb5⟩
    go_wp2_with fail
    go_ret
    exact ⟨rfl, hb5⟩
end Go.Proofs.Ytoedipajcmmhjaa
