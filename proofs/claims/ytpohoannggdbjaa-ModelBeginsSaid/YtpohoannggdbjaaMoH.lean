/-
 Layer 28: Explains, few, Pick.
-/
import Derived.Test.YtpohoannggdbjaaMoG
import Derived.Test.YtpohoannggdbjaaMC
namespace Go.Proofs.Ytpohoannggdbjaa
open Go.RowKit
set_option maxRecDepth 100000
/-- is it explained? -/
def explS (L : Lay) (X : List Iv) (Y : List Sh) : Bool := decide ((checkS L).1 = 0) && (decide (X.length = Y.length) && !(reachN (tbL L) X Y X.length).isEmpty)
theorem expl_no {L : Lay} {X : List Iv} {Y : List Sh} (h : ¬ (checkS L).1 = 0) : explS L X Y = false := by unfold explS; rw [decide_eq_false h]; rfl
theorem expl_arg {L : Lay} {X : List Iv} {Y : List Sh} (h : ¬ X.length = Y.length) : explS L X Y = false := by unfold explS; rw [decide_eq_false h, Bool.false_and, Bool.and_false]
theorem expl_is {L : Lay} {X : List Iv} {Y : List Sh} (h1 : (checkS L).1 = 0) (h2 : X.length = Y.length) : explS L X Y = !(reachN (tbL L) X Y X.length).isEmpty := by unfold explS; rw [decide_eq_true h1, decide_eq_true h2, Bool.true_and, Bool.true_and]
theorem same_empty {A B : List St} (h : SameSt A B) : A.isEmpty = B.isEmpty := by
 rw [Bool.eq_iff_iff, List.isEmpty_iff, List.isEmpty_iff]
 exact h.nil
def fewS (L : Lay) (X : List Iv) (top : Nat) : Bool := decide (weightS 300 L ≤ 300) && (decide (X.length ≤ top) && X.all (fun x => decide (x.len ≤ 20)))
theorem few_no {L : Lay} {X : List Iv} {top : Nat} (h : 300 < weightS 300 L) : fewS L X top = false := by unfold fewS; rw [decide_eq_false (by omega)]; rfl
theorem few_long {L : Lay} {X : List Iv} {top : Nat} (h : top < X.length) : fewS L X top = false := by unfold fewS; rw [decide_eq_false (p := X.length ≤ top) (by omega), Bool.false_and, Bool.and_false]
theorem few_one {L : Lay} {X : List Iv} {top : Nat} {x : Iv} (hx : x ∈ X) (h : 20 < x.len) : fewS L X top = false := by
 unfold fewS
 have : X.all (fun x => decide (x.len ≤ 20)) = false := List.all_eq_false.2 ⟨x, hx, by simpa using h⟩
 rw [this, Bool.and_false, Bool.and_false]
theorem few_yes {L : Lay} {X : List Iv} {top : Nat} (h1 : ¬ 300 < weightS 300 L) (h2 : ¬ top < X.length) (h3 : ∀ x ∈ X, x.len ≤ 20) : fewS L X top = true := by
 unfold fewS
 rw [decide_eq_true (by omega), decide_eq_true (by omega), Bool.true_and, Bool.true_and, List.all_eq_true]
 exact fun x hx => decide_eq_true (h3 x hx)
theorem few_ok {L : Lay} {X : List Iv} {top : Nat} (h : fewS L X top = true) : X.length ≤ top ∧ ∀ x ∈ X, x.len ≤ 20 := by
 unfold fewS at h
 rw [Bool.and_eq_true, Bool.and_eq_true, decide_eq_true_eq, decide_eq_true_eq, List.all_eq_true] at h
 exact ⟨h.2.1, fun x hx => by simpa using h.2.2 x hx⟩
attribute [local irreducible] Sl.v hasBit pw withBit woBit cyL stL stV tmL freeS ndBad maySet ptL setS mayCan canS canD nedS flipB mayMov movS comG relS rouS proS tidyS comsG rousS prosS nextG outS lnOk rightK rgtS eqS Mc.tb upd mayS checkS sideN
attribute [local irreducible] addS cycL leads shows stepT reachN
attribute [local irreducible] tbL rwL secOf cofL zS zSt explS fewS weightS
set_option maxHeartbeats 8000000 in
theorem explains_is (L : Lay) (ra : Option Addr) (n rc : Nat) (sa : Option Addr) (k sc : Nat) (X : List Iv) (Y : List Sh) (b : Bool) (w : World) (hL : LayAt w L) (hX : RowAt 4 ivC w ra X) (hxn : X.length = n) (hxo : ∀ x ∈ X, IvOk w x ∧ x.len ≤ 100000) (hY : RowAt 3 shC w sa Y) (hyn : Y.length = k) (h11 : n ≤ 11) (hb : explS L X Y = b) :
 Calls Try.prog 7 #[.agg #[L.se.v, L.po.v, L.sg.v, L.rt.v], .slice ra n rc, .slice sa k sc] w fun e w' => e = .returned (.bool b) ∧ Below w.heap.size w w' := by
 by_cases h0 : (checkS L).1 = 0
 ·by_cases hk : n = k
  ·subst hk
   have KR : Hid (∀ V, Below w.heap.size w V → Calls Try.prog 12 #[.agg #[L.se.v, L.po.v, L.sg.v, L.rt.v], .slice ra n rc, .slice sa n sc] V fun e w' => ∃ (v : Value) (ss : List St), e = .returned (.tuple #[v, .int .i64 0]) ∧ SameSt ss (reachN (tbL L) X Y n) ∧ w'.ownsRow V.heap.size 66 68 v ss.length (ss.flatMap stL) ∧ Below V.heap.size V w') := Lib.hid (fun V hV => reach_is L ra n rc sa sc X Y V (hL.below hV) (hX.below hV) hxn (fun x hx => ⟨(hxo x hx).1.below hV, (hxo x hx).2⟩) (hY.below hV) hyn h11 h0)
   rw [expl_is h0 (hxn.trans hyn.symm), hxn] at hb
   have HBB := Lib.hid hb
   clear hX hxn hxo hY hyn h11 hb h0
   obtain ⟨n1, hn1⟩ : ∃ n, L.se.l.length = n := ⟨_, rfl⟩
   obtain ⟨n2, hn2⟩ : ∃ n, L.po.l.length = n := ⟨_, rfl⟩
   obtain ⟨n3, hn3⟩ : ∃ n, L.sg.l.length = n := ⟨_, rfl⟩
   obtain ⟨n4, hn4⟩ : ∃ n, L.rt.l.length = n := ⟨_, rfl⟩
   rw [slv hn1, slv hn2, slv hn3, slv hn4] at KR ⊢
   clear hn1 hn2 hn3 hn4 hL
   go_enter Try.func7, Try.ntmps7
   go_upto_region 1 with fail
   refine name_last (os := [.cells #[.slice L.se.a n1 L.se.c, .slice L.po.a n2 L.po.c, .slice L.sg.a n3 L.sg.c, .slice L.rt.a n4 L.rt.c] 27]) (w0 := w) rfl ?_
   intro W hat hbw
   obtain ⟨gl, hgl⟩ : ∃ g, g = w.heap.size := ⟨_, rfl⟩
   have q0 := hat 0 _ rfl
   rw [Nat.add_zero, ← hgl] at q0
   rw [← hgl]
   have HQl := Lib.hid q0
   have HB0 := Lib.hid hbw
   clear hat hbw q0 hgl
   have l0 := blk_cell HQl.out 0 _ rfl
   have l1 := blk_cell HQl.out 1 _ rfl
   have l2 := blk_cell HQl.out 2 _ rfl
   have l3 := blk_cell HQl.out 3 _ rfl
   go_wp2_with fail
   refine (KR.out _ HB0.out).mono ?_
   rintro e w1 ⟨v, ss, rfl, hss, hrow, hb1⟩
   have HB1 := Lib.hid (below_on HB0.out hb1)
   have HE : Hid ((!ss.isEmpty) = b) := Lib.hid (by rw [same_empty hss]; exact HBB.out)
   rcases hrow.2 with ⟨rfl, h0⟩ | ⟨g, cap, cur, rfl, _⟩
   ·have hbf : b = false := by rw [← HE.out, List.eq_nil_of_length_eq_zero h0]; rfl
    subst hbf
    clear hb1 l0 l1 l2 l3 hss hrow h0 HBB HE KR
    go_wp2_with fail
    go_ret
    exact ⟨rfl, HB1.out⟩
   ·obtain ⟨q, hq⟩ : ∃ q, ss.length = q := ⟨_, rfl⟩
    rw [hq]
    cases q with
    | zero =>
      have hbf : b = false := by rw [← HE.out, List.eq_nil_of_length_eq_zero hq]; rfl
      subst hbf
      clear hb1 l0 l1 l2 l3 hss hrow HBB HE KR hq
      go_wp2_with fail
      go_ret
      exact ⟨rfl, HB1.out⟩
    | succ q =>
      have hbt : b = true := by
       rw [← HE.out]
       cases ss with
       | nil => cases hq
       | cons _ _ => rfl
      subst hbt
      have d : (0 : Int) < ((q + 1 : Nat) : Int) := by omega
      clear hb1 l0 l1 l2 l3 hss hrow HBB HE KR hq
      go_wp2_with fail
      go_ret
      exact ⟨rfl, HB1.out⟩
  ·have KR : Hid (∀ V, Below w.heap.size w V → Calls Try.prog 12 #[.agg #[L.se.v, L.po.v, L.sg.v, L.rt.v], .slice ra n rc, .slice sa k sc] V fun e w' => e = .returned (.tuple #[.slice none 0 0, .int .i64 2]) ∧ Below V.heap.size V w') := Lib.hid (fun V hV => reach_arg L ra n rc sa k sc V (hL.below hV) h0 hk)
   obtain rfl : false = b := by rw [← hb]; exact (expl_arg (by omega)).symm
   clear hX hxn hxo hY hyn h11 hb h0 hk
   obtain ⟨n1, hn1⟩ : ∃ n, L.se.l.length = n := ⟨_, rfl⟩
   obtain ⟨n2, hn2⟩ : ∃ n, L.po.l.length = n := ⟨_, rfl⟩
   obtain ⟨n3, hn3⟩ : ∃ n, L.sg.l.length = n := ⟨_, rfl⟩
   obtain ⟨n4, hn4⟩ : ∃ n, L.rt.l.length = n := ⟨_, rfl⟩
   rw [slv hn1, slv hn2, slv hn3, slv hn4] at KR ⊢
   clear hn1 hn2 hn3 hn4 hL
   go_enter Try.func7, Try.ntmps7
   go_upto_region 1 with fail
   refine name_last (os := [.cells #[.slice L.se.a n1 L.se.c, .slice L.po.a n2 L.po.c, .slice L.sg.a n3 L.sg.c, .slice L.rt.a n4 L.rt.c] 27]) (w0 := w) rfl ?_
   intro W hat hbw
   obtain ⟨gl, hgl⟩ : ∃ g, g = w.heap.size := ⟨_, rfl⟩
   have q0 := hat 0 _ rfl
   rw [Nat.add_zero, ← hgl] at q0
   rw [← hgl]
   have HQl := Lib.hid q0
   have HB0 := Lib.hid hbw
   clear hat hbw q0 hgl
   have l0 := blk_cell HQl.out 0 _ rfl
   have l1 := blk_cell HQl.out 1 _ rfl
   have l2 := blk_cell HQl.out 2 _ rfl
   have l3 := blk_cell HQl.out 3 _ rfl
   go_wp2_with fail
   refine (KR.out _ HB0.out).mono ?_
   rintro e w1 ⟨rfl, hb1⟩
   have HB1 := Lib.hid (below_on HB0.out hb1)
   clear hb1 l0 l1 l2 l3
   go_wp2_with fail
   go_ret
   exact ⟨rfl, HB1.out⟩
 ·obtain ⟨c, hc⟩ : ∃ c, (checkS L).1 = c := ⟨_, rfl⟩
  have KR : Hid (∀ V, Below w.heap.size w V → Calls Try.prog 12 #[.agg #[L.se.v, L.po.v, L.sg.v, L.rt.v], .slice ra n rc, .slice sa k sc] V fun e w' => e = .returned (.tuple #[.slice none 0 0, .int .i64 c]) ∧ Below V.heap.size V w') := Lib.hid (fun V hV => reach_no L ra n rc sa k sc V (hL.below hV) c hc (hc ▸ h0))
  obtain rfl : false = b := by rw [← hb]; exact (expl_no h0).symm
  have c1 : (c == 0) = false := by rw [beq_eq_false_iff_ne, ← hc]; exact h0
  clear hX hxn hxo hY hyn h11 hb h0 hc
  obtain ⟨n1, hn1⟩ : ∃ n, L.se.l.length = n := ⟨_, rfl⟩
  obtain ⟨n2, hn2⟩ : ∃ n, L.po.l.length = n := ⟨_, rfl⟩
  obtain ⟨n3, hn3⟩ : ∃ n, L.sg.l.length = n := ⟨_, rfl⟩
  obtain ⟨n4, hn4⟩ : ∃ n, L.rt.l.length = n := ⟨_, rfl⟩
  rw [slv hn1, slv hn2, slv hn3, slv hn4] at KR ⊢
  clear hn1 hn2 hn3 hn4 hL
  go_enter Try.func7, Try.ntmps7
  go_upto_region 1 with fail
  refine name_last (os := [.cells #[.slice L.se.a n1 L.se.c, .slice L.po.a n2 L.po.c, .slice L.sg.a n3 L.sg.c, .slice L.rt.a n4 L.rt.c] 27]) (w0 := w) rfl ?_
  intro W hat hbw
  obtain ⟨gl, hgl⟩ : ∃ g, g = w.heap.size := ⟨_, rfl⟩
  have q0 := hat 0 _ rfl
  rw [Nat.add_zero, ← hgl] at q0
  rw [← hgl]
  have HQl := Lib.hid q0
  have HB0 := Lib.hid hbw
  clear hat hbw q0 hgl
  have l0 := blk_cell HQl.out 0 _ rfl
  have l1 := blk_cell HQl.out 1 _ rfl
  have l2 := blk_cell HQl.out 2 _ rfl
  have l3 := blk_cell HQl.out 3 _ rfl
  go_wp2_with fail
  refine (KR.out _ HB0.out).mono ?_
  rintro e w1 ⟨rfl, hb1⟩
  have HB1 := Lib.hid (below_on HB0.out hb1)
  clear hb1 l0 l1 l2 l3
  go_wp2_with fail
  go_ret
  exact ⟨rfl, HB1.out⟩

set_option maxHeartbeats 8000000 in
theorem few_is (L : Lay) (ra : Option Addr) (n rc top : Nat) (X : List Iv) (b : Bool) (w : World) (hL : LayAt w L) (hX : RowAt 4 ivC w ra X) (hxn : X.length = n) (ht : top ≤ 1000) (hb : fewS L X top = b) :
 Calls Try.prog 4 #[.agg #[L.se.v, L.po.v, L.sg.v, L.rt.v], .slice ra n rc, .int .i64 (top : Int)] w fun e w' => e = .returned (.bool b) ∧ Below w.heap.size w w' := by
 obtain ⟨z, hz⟩ : ∃ z, weightS 300 L = z := ⟨_, rfl⟩
 have KW : Hid (∀ V, Below w.heap.size w V → Calls Try.prog 9 #[.agg #[L.se.v, L.po.v, L.sg.v, L.rt.v], .int .i64 300] V fun e w' => e = .returned (.int .i64 z) ∧ Below V.heap.size V w') := Lib.hid (fun V hV => hz ▸ (weight_is 300 L V (hL.below hV)).mono (fun _ _ h => ⟨h.1, h.2⟩))
 by_cases h3 : 300 < z
 ·obtain rfl : false = b := by rw [← hb]; exact (few_no (hz ▸ h3)).symm
  clear hX hxn ht hb
  obtain ⟨n1, hn1⟩ : ∃ n, L.se.l.length = n := ⟨_, rfl⟩
  obtain ⟨n2, hn2⟩ : ∃ n, L.po.l.length = n := ⟨_, rfl⟩
  obtain ⟨n3, hn3⟩ : ∃ n, L.sg.l.length = n := ⟨_, rfl⟩
  obtain ⟨n4, hn4⟩ : ∃ n, L.rt.l.length = n := ⟨_, rfl⟩
  rw [slv hn1, slv hn2, slv hn3, slv hn4] at KW ⊢
  clear hn1 hn2 hn3 hn4 hL hz
  go_enter Try.func4, Try.ntmps4
  go_upto_region 1 with fail
  refine name_last (os := [.cells #[.slice L.se.a n1 L.se.c, .slice L.po.a n2 L.po.c, .slice L.sg.a n3 L.sg.c, .slice L.rt.a n4 L.rt.c] 27]) (w0 := w) rfl ?_
  intro W hat hbw
  obtain ⟨gl, hgl⟩ : ∃ g, g = w.heap.size := ⟨_, rfl⟩
  have q0 := hat 0 _ rfl
  rw [Nat.add_zero, ← hgl] at q0
  rw [← hgl]
  have HQl := Lib.hid q0
  have HB0 := Lib.hid hbw
  clear hat hbw q0 hgl
  have l0 := blk_cell HQl.out 0 _ rfl
  have l1 := blk_cell HQl.out 1 _ rfl
  have l2 := blk_cell HQl.out 2 _ rfl
  have l3 := blk_cell HQl.out 3 _ rfl
  go_wp2_with fail
  refine (KW.out _ HB0.out).mono ?_
  rintro e w1 ⟨rfl, hb1⟩
  have HB1 := Lib.hid (below_on HB0.out hb1)
  clear hb1 l0 l1 l2 l3
  go_wp2_with fail
  go_ret
  exact ⟨rfl, HB1.out⟩
 by_cases hnt : top < n
 ·obtain rfl : false = b := by rw [← hb]; exact (few_long (by omega)).symm
  have d : (top : Int) < (n : Int) := by omega
  clear hX hxn ht hb hnt
  obtain ⟨n1, hn1⟩ : ∃ n, L.se.l.length = n := ⟨_, rfl⟩
  obtain ⟨n2, hn2⟩ : ∃ n, L.po.l.length = n := ⟨_, rfl⟩
  obtain ⟨n3, hn3⟩ : ∃ n, L.sg.l.length = n := ⟨_, rfl⟩
  obtain ⟨n4, hn4⟩ : ∃ n, L.rt.l.length = n := ⟨_, rfl⟩
  rw [slv hn1, slv hn2, slv hn3, slv hn4] at KW ⊢
  clear hn1 hn2 hn3 hn4 hL hz
  go_enter Try.func4, Try.ntmps4
  go_upto_region 1 with fail
  refine name_last (os := [.cells #[.slice L.se.a n1 L.se.c, .slice L.po.a n2 L.po.c, .slice L.sg.a n3 L.sg.c, .slice L.rt.a n4 L.rt.c] 27]) (w0 := w) rfl ?_
  intro W hat hbw
  obtain ⟨gl, hgl⟩ : ∃ g, g = w.heap.size := ⟨_, rfl⟩
  have q0 := hat 0 _ rfl
  rw [Nat.add_zero, ← hgl] at q0
  rw [← hgl]
  have HQl := Lib.hid q0
  have HB0 := Lib.hid hbw
  clear hat hbw q0 hgl
  have l0 := blk_cell HQl.out 0 _ rfl
  have l1 := blk_cell HQl.out 1 _ rfl
  have l2 := blk_cell HQl.out 2 _ rfl
  have l3 := blk_cell HQl.out 3 _ rfl
  go_wp2_with fail
  refine (KW.out _ HB0.out).mono ?_
  rintro e w1 ⟨rfl, hb1⟩
  have HB1 := Lib.hid (below_on HB0.out hb1)
  clear hb1 l0 l1 l2 l3
  go_wp2_with fail
  go_ret
  exact ⟨rfl, HB1.out⟩
 have d : ¬ (top : Int) < (n : Int) := by omega
 have dd : decide ((300 : Int) < z) = false := decide_eq_false h3
 have dn : decide (top < n) = false := decide_eq_false hnt
 have HN : Hid (n ≤ 1000) := Lib.hid (by omega)
 have HXR := Lib.hid hX
 have HXN := Lib.hid hxn
 have HNO : Hid (∀ x ∈ X, 20 < x.len → false = b) := Lib.hid (fun x hx h => by rw [← hb]; exact (few_one hx h).symm)
 have HYES : Hid ((∀ x ∈ X, x.len ≤ 20) → true = b) := Lib.hid (fun h => by rw [← hb]; exact (few_yes (by rw [hz]; exact h3) (by omega) h).symm)
 clear hX hxn ht hb
 obtain ⟨n1, hn1⟩ : ∃ n, L.se.l.length = n := ⟨_, rfl⟩
 obtain ⟨n2, hn2⟩ : ∃ n, L.po.l.length = n := ⟨_, rfl⟩
 obtain ⟨n3, hn3⟩ : ∃ n, L.sg.l.length = n := ⟨_, rfl⟩
 obtain ⟨n4, hn4⟩ : ∃ n, L.rt.l.length = n := ⟨_, rfl⟩
 rw [slv hn1, slv hn2, slv hn3, slv hn4] at KW ⊢
 clear hn1 hn2 hn3 hn4 hL hz
 go_enter Try.func4, Try.ntmps4
 go_upto_region 1 with fail
 refine name_last (os := [.cells #[.slice L.se.a n1 L.se.c, .slice L.po.a n2 L.po.c, .slice L.sg.a n3 L.sg.c, .slice L.rt.a n4 L.rt.c] 27]) (w0 := w) rfl ?_
 intro W hat hbw
 obtain ⟨gl, hgl⟩ : ∃ g, g = w.heap.size := ⟨_, rfl⟩
 have q0 := hat 0 _ rfl
 rw [Nat.add_zero, ← hgl] at q0
 rw [← hgl]
 have HQl := Lib.hid q0
 have HB0 := Lib.hid hbw
 clear hat hbw q0 hgl
 have l0 := blk_cell HQl.out 0 _ rfl
 have l1 := blk_cell HQl.out 1 _ rfl
 have l2 := blk_cell HQl.out 2 _ rfl
 have l3 := blk_cell HQl.out 3 _ rfl
 go_wp2_with fail
 refine (KW.out _ HB0.out).mono ?_
 rintro e w1 ⟨rfl, hb1⟩
 have HB1 := Lib.hid (below_on HB0.out hb1)
 clear hb1 l0 l1 l2 l3
 go_upto_region 4 with fail
 clear d h3 dd dn hnt
 go_loopg [7] n (fun g v wr => ∃ i : Nat, i + g = n ∧ v = .int .i64 (i : Int) ∧ (∀ x ∈ X.take i, x.len ≤ 20) ∧ wr = w1)
 case atStart => exact ⟨0, by omega, rfl, fun x hx => (nomatch hx), rfl⟩
 case round =>
  obtain ⟨i, hi, rfl, hall, rfl⟩ := hrel
  have HI := Lib.hid hi
  have HALL := Lib.hid hall
  clear hi hall
  by_cases hlt : i < n
  ·have d1 : (0 : Int) ≤ i := by omega
   have d2 : (i : Int) < n := by omega
   have e1 := k_succ hlt (Nat.le_trans HN.out (by decide))
   have HLT := Lib.hid hlt
   obtain ⟨x, hx⟩ : ∃ x, X[i]? = some x := ⟨_, List.getElem?_eq_getElem (by rw [HXN.out]; exact hlt)⟩
   rcases HXR.out with hnil | ⟨rb, ro, hra, hc⟩
   ·rw [hnil] at hx; cases hx
   have z3 := cell_later HB1.out (hc i _ hx 3 _ rfl)
   have HXM := Lib.hid (List.mem_of_getElem? hx)
   have HNX : Hid (x.len ≤ 20 → ∀ y ∈ X.take (i + 1), y.len ≤ 20) := Lib.hid (fun h y hy => by
    rw [List.take_add_one, hx] at hy
    rcases List.mem_append.1 hy with hy | hy
    ·exact HALL.out y hy
    ·simp at hy; rw [hy]; exact h)
   obtain ⟨A, hA⟩ : ∃ a, ra = a := ⟨_, rfl⟩
   have HAA := Lib.hid hA
   rw [hA] at hra ⊢
   subst hra
   clear hlt hx hc hA
   by_cases h20 : 20 < x.len
   ·have d4 : (20 : Int) < (x.len : Int) := by omega
    obtain rfl := HNO.out x HXM.out h20
    clear h20
    go_wp2_with fail
    go_ret
    exact ⟨rfl, HB1.out⟩
   ·have d4 : ¬ (20 : Int) < (x.len : Int) := by omega
    have HX2 := Lib.hid (HNX.out (by omega))
    clear h20
    go_wp2_with fail
    rw [← HAA.out]
    go_roundg (n - (i + 1))
    case rel => exact ⟨i + 1, k_next HI.out HLT.out, by go_num, HX2.out, rfl⟩
    case measure => exact k_less HI.out HLT.out
  ·have d2 : ¬ ((i : Int) < (n : Int)) := by omega
   obtain rfl := HYES.out (fun x hx => HALL.out x (by rw [List.take_of_length_le (by rw [HXN.out]; omega)]; exact hx))
   clear hlt
   go_wp2_with fail
   go_ret
   exact ⟨rfl, HB1.out⟩
theorem tmodn (i n : Int) (hn : 0 < n) : (i.tmod n + n).tmod n = i % n := by
 have h1 := Int.tmod_eq_emod (a := i) (b := n)
 have h2 := Int.lt_tmod_of_pos i hn
 have h4 : (i.tmod n + n).tmod n = (i.tmod n + n) % n := Int.tmod_eq_emod_of_nonneg (by omega)
 rw [h4, Int.add_emod_right, h1]
 split
 ·simp
 ·rw [show (n.natAbs : Int) = n by omega, Int.sub_emod_right, Int.emod_emod]
theorem pick_any (i n : Int) (w : World) (hn : 0 < n) (hm : n < 1000) : Calls Try.prog 8 #[.int .i64 i, .int .i64 n] w fun e w' => e = .returned (.int .i64 (i % n)) ∧ w = w' := by
 have h1 := Int.lt_tmod_of_pos i hn
 have h2 := Int.tmod_lt_of_pos i hn
 have ht := tmodn i n hn
 have h3 : ¬ n = 0 := by omega
 have h4 : ¬ n ≤ 0 := by omega
 have h5 : wrap64 (i.tmod n + n) = i.tmod n + n := by unfold wrap64; omega
 have h6 : wrap64 (i.tmod n) = i.tmod n := by unfold wrap64; omega
 have h7 : wrap64 (i % n) = i % n := by
  have a1 := Int.emod_nonneg i h3
  have a2 := Int.emod_lt_of_pos i hn
  unfold wrap64; omega
 go_enter Try.func8, Try.ntmps8
 go_wp2
 go_ret
 exact ⟨rfl, rfl⟩
end Go.Proofs.Ytpohoannggdbjaa
