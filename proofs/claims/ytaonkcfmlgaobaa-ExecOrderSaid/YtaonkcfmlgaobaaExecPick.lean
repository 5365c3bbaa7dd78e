/-
  Walks of package exec and of the document's answer for chapter 19: New, Pick.
-/
import Derived.Test.YtaonkcfmlgaobaaExecWalks
import Derived.Deep.LoopGhost
import Derived.WalkMore
namespace Go.Proofs.Ytaonkcfmlgaobaa
open Go.RowKit
attribute [local irreducible] ESt.tick ESt.done ESt.reset ESt.left

/-- a row of numbers that lies in memory -/
def IntsAt (w : World) (a : Option Addr) (l : List Int) : Prop := l = [] ∨ ∃ b off, a = some ⟨b, off, none⟩ ∧ ∀ i x, l[i]? = some x → w.cell? ⟨b, off + i, none⟩ = some (.int .i64 x)
theorem IntsAt.below {w w' : World} {a : Option Addr} {l : List Int} (hb : Below w.heap.size w w') (h : IntsAt w a l) : IntsAt w' a l := by
  refine h.imp id ?_
  rintro ⟨b, off, rfl, hc⟩
  exact ⟨b, off, rfl, fun i x hi => cell_later hb (hc i x hi)⟩
theorem IntsAt.only {w w' : World} {a : Option Addr} {l : List Int} {g : Nat} (hb : Only g w w') (hg : ∀ x, a = some x → l ≠ [] → x.block ≠ g) (h : IntsAt w a l) : IntsAt w' a l := by
  by_cases hl : l = []
  · exact .inl hl
  obtain ⟨b, off, rfl, hc⟩ := h.resolve_left hl
  refine .inr ⟨b, off, rfl, fun i x hi => ?_⟩
  rw [World.cell?_of_block (w := w) (hb.block b (World.block_lt_of_cell? _ _ (hc i x hi)) (hg _ rfl hl))]
  exact hc i x hi
def ESt.pick (s : ESt) (c : Int) : List Int → ESt × Int × Int
  | [] => (s, c, 0)
  | x :: l => if (s.done x).2 = 0 then ESt.pick (s.done x).1 (c + 1) l else if (s.done x).2 = 4 then ESt.pick (s.done x).1 c l else ((s.done x).1, c, (s.done x).2)
theorem EInv.pick : ∀ (l : List Int) (s : ESt) (c : Int), EInv s → EInv (s.pick c l).1 := by
  intro l
  induction l with
  | nil => intro s c h; exact h
  | cons x l ih =>
    intro s c h
    unfold ESt.pick
    split
    · exact ih _ _ (h.done x)
    split
    · exact ih _ _ (h.done x)
    · exact h.done x
theorem pick_ok {s s1 : ESt} {c x : Int} {l : List Int} (h : s.done x = (s1, 0)) : s.pick c (x :: l) = s1.pick (c + 1) l := by
  rw [ESt.pick, h]; rfl
theorem pick_skip {s s1 : ESt} {c x : Int} {l : List Int} (h : s.done x = (s1, 4)) : s.pick c (x :: l) = s1.pick c l := by
  rw [ESt.pick, h]; rfl
theorem pick_out {s s1 : ESt} {c x r : Int} {l : List Int} (h : s.done x = (s1, r)) (h0 : ¬ r = 0) (h4 : ¬ r = 4) : s.pick c (x :: l) = (s1, c, r) := by
  rw [ESt.pick, h]; simp only [h0, h4, if_false]
theorem drop_at {l : List Int} {k : Nat} {x : Int} (h : l[k]? = some x) : l.drop k = x :: l.drop (k + 1) := by
  obtain ⟨hk, rfl⟩ := List.getElem?_eq_some_iff.1 h
  exact List.drop_eq_getElem_cons hk
attribute [local irreducible] ESt.pick
theorem done_is (s s1 : ESt) (r n : Int) (g : Nat) (w : World) (hd : s.done n = (s1, r)) (h : ExAt w g s) (hi : EInv s) : Calls Try.prog 14 #[.pointer (some ⟨g, 0, none⟩), .int .i64 n] w fun e w' => e = .returned (.int .i64 r) ∧ ExAt w' g s1 ∧ Only g w w' :=
  (done_any s n g w h hi).mono fun e w' ⟨h1, h2, h3⟩ => by rw [hd] at h1 h2; exact ⟨h1, h2, h3⟩
theorem rdone_is (s s1 : ESt) (r n : Int) (g : Nat) (w : World) (hd : s.done n = (s1, r)) (h : RxAt w g s) (hi : EInv s) : Calls Try.prog 20 #[.pointer (some ⟨g, 0, none⟩), .int .i64 n] w fun e w' => e = .returned (.int .i64 r) ∧ RxAt w' g s1 ∧ Only g w w' :=
  (rdone_any s n g w h hi).mono fun e w' ⟨h1, h2, h3⟩ => by rw [hd] at h1 h2; exact ⟨h1, h2, h3⟩

set_option maxHeartbeats 4000000 in
theorem pick_any (s : ESt) (a : Option Addr) (n cap : Nat) (l : List Int) (g : Nat) (w : World) (hn : l.length = n) (hnl : n ≤ 100000) (hl : IntsAt w a l) (hag : ∀ x, a = some x → l ≠ [] → x.block ≠ g) (h : ExAt w g s) (hi : EInv s) :
    Calls Try.prog 17 #[.pointer (some ⟨g, 0, none⟩), .slice a n cap] w fun e w' => e = .returned (.tuple #[.int .i64 (s.pick 0 l).2.1, .int .i64 (s.pick 0 l).2.2]) ∧ ExAt w' g (s.pick 0 l).1 ∧ Only g w w' := by
  have HN := Lib.hid hn
  have HG := Lib.hid hag
  clear hn hag
  go_enter Try.func17, Try.ntmps17
  go_wp2_with fail
  go_step3
  go_wp2_with fail
  go_step3
  go_wp2_with fail
  go_loopg [6, 14] n (fun m c i wr => ∃ (k cn : Nat) (t : ESt), k + m = n ∧ cn ≤ k ∧ i = .int .i64 k ∧ c = .int .i64 cn ∧ Hid (s.pick 0 l = t.pick cn (l.drop k)) ∧ ExAt wr g t ∧ EInv t ∧ Only g w wr)
  case atStart => exact ⟨0, 0, s, by omega, by omega, rfl, rfl, Lib.hid rfl, h, hi, Only.refl _ _⟩
  case round =>
    obtain ⟨k, cn, t, hk, hcn, rfl, rfl, hpk, ht, hti, ho⟩ := hrel
    by_cases hlt : k < n
    · rcases hl.only ho HG.out with hnil | ⟨b, off, rfl, hcells⟩
      · rw [hnil] at HN; exact absurd HN.out (by simp; omega)
      obtain ⟨x, hx⟩ : ∃ x, l[k]? = some x := ⟨_, List.getElem?_eq_getElem (by rw [HN.out]; exact hlt)⟩
      have z0 := hcells k x hx
      have d1 : (0 : Int) ≤ k := by omega
      have d2 : (k : Int) < n := by omega
      have d3 : (0 : Int) ≤ cn := by omega
      have d4 : (cn : Int) ≤ 100000 := by omega
      obtain ⟨t1, r, hd⟩ : ∃ t1 r, t.done x = (t1, r) := ⟨_, _, rfl⟩
      have hp2 : Hid (s.pick 0 l = t.pick cn (x :: l.drop (k + 1))) := Lib.hid (by rw [← drop_at hx]; exact hpk.out)
      have ht1 : EInv t1 := by have := hti.done x; rw [hd] at this; exact this
      have HD := Lib.hid hd
      clear hcells hx hd hpk
      by_cases h0 : r = 0
      · subst h0
        have hp3 : Hid (s.pick 0 l = t1.pick (cn + 1 : Nat) (l.drop (k + 1))) := Lib.hid (by rw [hp2.out, pick_ok HD.out]; rfl)
        go_wp2_with fail
        refine (done_is t t1 0 x g _ HD.out ht hti).mono ?_
        rintro e w1 ⟨rfl, h1, ho1⟩
        go_wp2_with fail
        go_roundg (n - (k + 1))
        case rel => exact ⟨k + 1, cn + 1, t1, by omega, by omega, by go_num, by go_num, hp3, h1, ht1, ho.trans ho1⟩
        case measure => omega
      by_cases h4 : r = 4
      · subst h4
        have hp3 : Hid (s.pick 0 l = t1.pick cn (l.drop (k + 1))) := Lib.hid (by rw [hp2.out, pick_skip HD.out])
        go_wp2_with fail
        refine (done_is t t1 4 x g _ HD.out ht hti).mono ?_
        rintro e w1 ⟨rfl, h1, ho1⟩
        go_wp2_with fail
        go_roundg (n - (k + 1))
        case rel => exact ⟨k + 1, cn, t1, by omega, by omega, by go_num, rfl, hp3, h1, ht1, ho.trans ho1⟩
        case measure => omega
      have hp3 : Hid (s.pick 0 l = (t1, (cn : Int), r)) := Lib.hid (by rw [hp2.out, pick_out HD.out h0 h4])
      have b0 : (r == 0) = false := by simpa using h0
      have b4 : (r == 4) = false := by simpa using h4
      have b5 : (r != 4) = true := by simpa using h4
      clear h0 h4
      go_wp2_with fail
      refine (done_is t t1 r x g _ HD.out ht hti).mono ?_
      rintro e w1 ⟨rfl, h1, ho1⟩
      go_wp2_with fail
      try rw [Exit.noGoto_ret]
      go_ret2
      rw [hp3.out]
      exact ⟨rfl, h1, ho.trans ho1⟩
    · obtain rfl : k = n := by omega
      have hp3 : Hid (s.pick 0 l = (t, (cn : Int), 0)) := Lib.hid (by rw [hpk.out, List.drop_of_length_le (by rw [HN.out]; omega)]; unfold ESt.pick; rfl)
      go_wp2_with fail
      try rw [Exit.noGoto_ret]
      go_ret2
      rw [hp3.out]
      exact ⟨rfl, ht, ho⟩

set_option maxHeartbeats 4000000 in
theorem rpick_any (s : ESt) (a : Option Addr) (n cap : Nat) (l : List Int) (g : Nat) (w : World) (hn : l.length = n) (hnl : n ≤ 100000) (hl : IntsAt w a l) (hag : ∀ x, a = some x → l ≠ [] → x.block ≠ g) (h : RxAt w g s) (hi : EInv s) :
    Calls Try.prog 21 #[.pointer (some ⟨g, 0, none⟩), .slice a n cap] w fun e w' => e = .returned (.tuple #[.int .i64 (s.pick 0 l).2.1, .int .i64 (s.pick 0 l).2.2]) ∧ RxAt w' g (s.pick 0 l).1 ∧ Only g w w' := by
  have HN := Lib.hid hn
  have HG := Lib.hid hag
  clear hn hag
  go_enter Try.func21, Try.ntmps21
  go_wp2_with fail
  go_loopw [6, 7] (fun c i wr => ∃ (k cn : Nat) (t : ESt), k ≤ n ∧ cn ≤ k ∧ i = .int .i64 k ∧ c = .int .i64 cn ∧ Hid (s.pick 0 l = t.pick cn (l.drop k)) ∧ RxAt wr g t ∧ EInv t ∧ Only g w wr) (fun _ i _ => n - (intOf i).toNat)
  case atStart => exact ⟨0, 0, s, by omega, by omega, rfl, rfl, Lib.hid rfl, h, hi, Only.refl _ _⟩
  case round =>
    obtain ⟨k, cn, t, hk, hcn, rfl, rfl, hpk, ht, hti, ho⟩ := hrel
    by_cases hlt : k < n
    · rcases hl.only ho HG.out with hnil | ⟨b, off, rfl, hcells⟩
      · rw [hnil] at HN; exact absurd HN.out (by simp; omega)
      obtain ⟨x, hx⟩ : ∃ x, l[k]? = some x := ⟨_, List.getElem?_eq_getElem (by rw [HN.out]; exact hlt)⟩
      have z0 := hcells k x hx
      have d1 : (0 : Int) ≤ k := by omega
      have d2 : (k : Int) < n := by omega
      have d3 : (0 : Int) ≤ cn := by omega
      have d4 : (cn : Int) ≤ 100000 := by omega
      obtain ⟨t1, r, hd⟩ : ∃ t1 r, t.done x = (t1, r) := ⟨_, _, rfl⟩
      have hp2 : Hid (s.pick 0 l = t.pick cn (x :: l.drop (k + 1))) := Lib.hid (by rw [← drop_at hx]; exact hpk.out)
      have ht1 : EInv t1 := by have := hti.done x; rw [hd] at this; exact this
      have HD := Lib.hid hd
      clear hcells hx hd hpk
      by_cases h0 : r = 0
      · subst h0
        have hp3 : Hid (s.pick 0 l = t1.pick (cn + 1 : Nat) (l.drop (k + 1))) := Lib.hid (by rw [hp2.out, pick_ok HD.out]; rfl)
        go_wp2_with fail
        refine (rdone_is t t1 0 x g _ HD.out ht hti).mono ?_
        rintro e w1 ⟨rfl, h1, ho1⟩
        go_wp2_with fail
        go_roundw
        case rel => exact ⟨k + 1, cn + 1, t1, by omega, by omega, by go_num, by go_num, hp3, h1, ht1, ho.trans ho1⟩
        case measure => simp [intOf]; omega
      by_cases h4 : r = 4
      · subst h4
        have hp3 : Hid (s.pick 0 l = t1.pick cn (l.drop (k + 1))) := Lib.hid (by rw [hp2.out, pick_skip HD.out])
        go_wp2_with fail
        refine (rdone_is t t1 4 x g _ HD.out ht hti).mono ?_
        rintro e w1 ⟨rfl, h1, ho1⟩
        go_wp2_with fail
        go_roundw
        case rel => exact ⟨k + 1, cn, t1, by omega, by omega, by go_num, rfl, hp3, h1, ht1, ho.trans ho1⟩
        case measure => simp [intOf]; omega
      have hp3 : Hid (s.pick 0 l = (t1, (cn : Int), r)) := Lib.hid (by rw [hp2.out, pick_out HD.out h0 h4])
      have b0 : (r == 0) = false := by simpa using h0
      have b4 : (r == 4) = false := by simpa using h4
      have b5 : (r != 4) = true := by simpa using h4
      clear h0 h4
      go_wp2_with fail
      refine (rdone_is t t1 r x g _ HD.out ht hti).mono ?_
      rintro e w1 ⟨rfl, h1, ho1⟩
      go_wp2_with fail
      
      go_ret2
      rw [hp3.out]
      exact ⟨rfl, h1, ho.trans ho1⟩
    · obtain rfl : k = n := by omega
      have hp3 : Hid (s.pick 0 l = (t, (cn : Int), 0)) := Lib.hid (by rw [hpk.out, List.drop_of_length_le (by rw [HN.out]; omega)]; unfold ESt.pick; rfl)
      go_wp2_with fail
      
      go_ret2
      rw [hp3.out]
      exact ⟨rfl, ht, ho⟩

def badB (a b c : Int) : Bool := decide (a < 1 ∨ 16 < a ∨ b < 1 ∨ 1000 < b ∨ c < 0 ∨ 1099511627776 < c)
theorem badB_false {a b c : Int} (h : badB a b c = false) : 1 ≤ a ∧ a ≤ 16 ∧ 1 ≤ b ∧ b ≤ 1000 ∧ 0 ≤ c ∧ c ≤ 1099511627776 := by unfold badB at h; have := of_decide_eq_false h; omega
theorem einv_new {a b c : Int} (h : badB a b c = false) : EInv ⟨a, b, c, 0, 0, false⟩ := by
  obtain ⟨h1, h2, h3, h4, h5, h6⟩ := badB_false h
  exact ⟨h1, h2, h3, h4, h5, h6, by dsimp only; omega, by dsimp only; omega, by dsimp only; omega, by dsimp only; omega⟩
attribute [local irreducible] badB

set_option maxHeartbeats 2000000 in
theorem new_bad (a b c : Int) (w : World) (h : badB a b c = true) : Calls Try.prog 7 #[.int .i64 a, .int .i64 b, .int .i64 c] w fun e w' => e = .returned (.tuple #[.pointer none, .int .i64 2]) ∧ w = w' := by
  unfold badB at h
  have hb := of_decide_eq_true h
  clear h
  by_cases h0 : a < 1
  · have t0 : decide (a < 1) = true := decide_eq_true h0
    clear hb
    go_enter Try.func7, Try.ntmps7
    go_wp2_with fail
    go_ret2
    exact ⟨rfl, rfl⟩
  have d0 : decide (a < 1) = false := decide_eq_false h0
  by_cases h1 : 16 < a
  · have t1 : decide (16 < a) = true := decide_eq_true h1
    clear hb
    go_enter Try.func7, Try.ntmps7
    go_wp2_with fail
    go_ret2
    exact ⟨rfl, rfl⟩
  have d1 : decide (16 < a) = false := decide_eq_false h1
  by_cases h2 : b < 1
  · have t2 : decide (b < 1) = true := decide_eq_true h2
    clear hb
    go_enter Try.func7, Try.ntmps7
    go_wp2_with fail
    go_ret2
    exact ⟨rfl, rfl⟩
  have d2 : decide (b < 1) = false := decide_eq_false h2
  by_cases h3 : 1000 < b
  · have t3 : decide (1000 < b) = true := decide_eq_true h3
    clear hb
    go_enter Try.func7, Try.ntmps7
    go_wp2_with fail
    go_ret2
    exact ⟨rfl, rfl⟩
  have d3 : decide (1000 < b) = false := decide_eq_false h3
  by_cases h4 : c < 0
  · have t4 : decide (c < 0) = true := decide_eq_true h4
    clear hb
    go_enter Try.func7, Try.ntmps7
    go_wp2_with fail
    go_ret2
    exact ⟨rfl, rfl⟩
  have d4 : decide (c < 0) = false := decide_eq_false h4
  by_cases h5 : 1099511627776 < c
  · have t5 : decide (1099511627776 < c) = true := decide_eq_true h5
    clear hb
    go_enter Try.func7, Try.ntmps7
    go_wp2_with fail
    go_ret2
    exact ⟨rfl, rfl⟩
  have d5 : decide (1099511627776 < c) = false := decide_eq_false h5
  exact absurd hb (by omega)
set_option maxHeartbeats 2000000 in
theorem new_ok (a b c : Int) (w : World) (h : badB a b c = false) : Calls Try.prog 7 #[.int .i64 a, .int .i64 b, .int .i64 c] w fun e w' => e = .returned (.tuple #[.pointer (some ⟨w.heap.size, 0, none⟩), .int .i64 0]) ∧ ExAt w' w.heap.size ⟨a, b, c, 0, 0, false⟩ ∧ Below w.heap.size w w' := by
  obtain ⟨h1, h2, h3, h4, h5, h6⟩ := badB_false h
  have d0 : decide (a < 1) = false := decide_eq_false (by omega)
  have d1 : decide (16 < a) = false := decide_eq_false (by omega)
  have d2 : decide (b < 1) = false := decide_eq_false (by omega)
  have d3 : decide (1000 < b) = false := decide_eq_false (by omega)
  have d4 : decide (c < 0) = false := decide_eq_false (by omega)
  have d5 : decide (1099511627776 < c) = false := decide_eq_false (by omega)
  clear h h1 h2 h3 h4 h5 h6
  go_enter Try.func7, Try.ntmps7
  go_wp2_with fail
  go_ret2
  exact ⟨rfl, alloc1 w _ (Below.refl _ _), below1 _ _⟩

set_option maxHeartbeats 2000000 in
theorem rnew_bad (a b c : Int) (w : World) (h : badB a b c = true) : Calls Try.prog 8 #[.int .i64 a, .int .i64 b, .int .i64 c] w fun e w' => e = .returned (.pointer none) ∧ w = w' := by
  unfold badB at h
  have hb := of_decide_eq_true h
  clear h
  by_cases h0 : a < 1
  · have t0 : decide (a < 1) = true := decide_eq_true h0
    clear hb
    go_enter Try.func8, Try.ntmps8
    go_wp2_with fail
    go_ret
    exact ⟨rfl, rfl⟩
  have d0 : decide (a < 1) = false := decide_eq_false h0
  by_cases h1 : 16 < a
  · have t1 : decide (16 < a) = true := decide_eq_true h1
    clear hb
    go_enter Try.func8, Try.ntmps8
    go_wp2_with fail
    go_ret
    exact ⟨rfl, rfl⟩
  have d1 : decide (16 < a) = false := decide_eq_false h1
  by_cases h2 : b < 1
  · have t2 : decide (b < 1) = true := decide_eq_true h2
    clear hb
    go_enter Try.func8, Try.ntmps8
    go_wp2_with fail
    go_ret
    exact ⟨rfl, rfl⟩
  have d2 : decide (b < 1) = false := decide_eq_false h2
  by_cases h3 : 1000 < b
  · have t3 : decide (1000 < b) = true := decide_eq_true h3
    clear hb
    go_enter Try.func8, Try.ntmps8
    go_wp2_with fail
    go_ret
    exact ⟨rfl, rfl⟩
  have d3 : decide (1000 < b) = false := decide_eq_false h3
  by_cases h4 : c < 0
  · have t4 : decide (c < 0) = true := decide_eq_true h4
    clear hb
    go_enter Try.func8, Try.ntmps8
    go_wp2_with fail
    go_ret
    exact ⟨rfl, rfl⟩
  have d4 : decide (c < 0) = false := decide_eq_false h4
  by_cases h5 : 1099511627776 < c
  · have t5 : decide (1099511627776 < c) = true := decide_eq_true h5
    clear hb
    go_enter Try.func8, Try.ntmps8
    go_wp2_with fail
    go_ret
    exact ⟨rfl, rfl⟩
  have d5 : decide (1099511627776 < c) = false := decide_eq_false h5
  exact absurd hb (by omega)
set_option maxHeartbeats 2000000 in
theorem rnew_ok (a b c : Int) (w : World) (h : badB a b c = false) : Calls Try.prog 8 #[.int .i64 a, .int .i64 b, .int .i64 c] w fun e w' => e = .returned (.pointer (some ⟨w.heap.size, 0, none⟩)) ∧ RxAt w' w.heap.size ⟨a, b, c, 0, 0, false⟩ ∧ Below w.heap.size w w' := by
  obtain ⟨h1, h2, h3, h4, h5, h6⟩ := badB_false h
  have d0 : decide (a < 1) = false := decide_eq_false (by omega)
  have d1 : decide (16 < a) = false := decide_eq_false (by omega)
  have d2 : decide (b < 1) = false := decide_eq_false (by omega)
  have d3 : decide (1000 < b) = false := decide_eq_false (by omega)
  have d4 : decide (c < 0) = false := decide_eq_false (by omega)
  have d5 : decide (1099511627776 < c) = false := decide_eq_false (by omega)
  clear h h1 h2 h3 h4 h5 h6
  go_enter Try.func8, Try.ntmps8
  go_wp2_with fail
  go_ret
  exact ⟨rfl, ⟨0, fun _ => rfl, by omega, by omega, alloc1 w _ (Below.refl _ _)⟩, below1 _ _⟩
end Go.Proofs.Ytaonkcfmlgaobaa
