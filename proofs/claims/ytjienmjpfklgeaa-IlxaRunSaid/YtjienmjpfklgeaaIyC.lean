/-
 Layer 10: made, works.
-/
import Derived.Test.YtjienmjpfklgeaaIxL
import Derived.Test.YtjienmjpfklgeaaIxN
import Derived.Test.YtjienmjpfklgeaaIxT
import Derived.Test.YtjienmjpfklgeaaMC
namespace Go.Proofs.Ytjienmjpfklgeaa
open Go.RowKit
set_option maxRecDepth 100000
def wkL (b : Nat) : Lay := ⟨⟨some ⟨b, 0, none⟩, 3, [⟨#[97]⟩, ⟨#[98]⟩, ⟨#[99]⟩]⟩, ⟨some ⟨b + 1, 0, none⟩, 1, [(⟨#[80]⟩, 1)]⟩, ⟨some ⟨b + 1 + 1, 0, none⟩, 1, [(⟨#[71]⟩, 0)]⟩, ⟨some ⟨b + 1 + 1 + 1 + 1 + 1, 0, none⟩, 1, [⟨⟨#[82]⟩, 0, ⟨some ⟨b + 1 + 1 + 1, 0, none⟩, 2, [1, 2]⟩, ⟨some ⟨b + 1 + 1 + 1 + 1, 0, none⟩, 1, [(0, false)]⟩, ⟨none, 0, []⟩, ⟨none, 0, []⟩⟩]⟩⟩
theorem wk_at {W : World} {b : Nat} (q0 : W.heap[b]? = some (.cells #[.string ⟨#[97]⟩, .string ⟨#[98]⟩, .string ⟨#[99]⟩] 9)) (q1 : W.heap[b + 1]? = some (.cells #[.string ⟨#[80]⟩, .int .i64 1] 71)) (q2 : W.heap[b + 1 + 1]? = some (.cells #[.string ⟨#[71]⟩, .int .i64 0] 72)) (q3 : W.heap[b + 1 + 1 + 1]? = some (.cells #[.int .i64 1, .int .i64 2] 3)) (q4 : W.heap[b + 1 + 1 + 1 + 1]? = some (.cells #[.int .i64 0, .bool false] 46)) (q5 : W.heap[b + 1 + 1 + 1 + 1 + 1]? = some (.cells #[.string ⟨#[82]⟩, .int .i64 0, .slice (some ⟨b + 1 + 1 + 1, 0, none⟩) 2 2, .slice (some ⟨b + 1 + 1 + 1 + 1, 0, none⟩) 1 1, .slice none 0 0, .slice none 0 0] 44)) : LayAt W (wkL b) := by
 refine ⟨sl_blk str_len q0 rfl rfl (by decide), sl_blk pt_len q1 rfl rfl (by decide), sl_blk pt_len q2 rfl rfl (by decide), sl_blk rt_len q5 rfl rfl (by decide), ?_, ?_, ?_, ?_⟩
 ·intro s hs
  simp [wkL] at hs
  rcases hs with rfl | rfl | rfl <;> decide
 ·intro s hs
  simp [wkL] at hs
  subst hs
  decide
 ·intro s hs
  simp [wkL] at hs
  subst hs
  decide
 ·intro s hs
  simp [wkL] at hs
  subst hs
  exact ⟨by show (⟨#[82]⟩ : BA).size ≤ maxLen; decide, sl_blk int_len q3 rfl rfl (by decide), sl_blk nd_len q4 rfl rfl (by decide), sl_none, sl_none⟩
theorem wk_c (b : Nat) : (checkS (wkL b)).1 = 0 := by kernel_rfl
def wkT : Tb := ⟨[⟨1, 0, [1, 2], [(0, false)], []⟩], [1]⟩
theorem wk_t (b : Nat) : tbL (wkL b) = wkT := by kernel_rfl
theorem wk_new (b : Nat) (W : World) (hL : LayAt W (wkL b)) :
 Calls Try.prog 15 #[.agg #[.slice (some ⟨b, 0, none⟩) 3 3, .slice (some ⟨b + 1, 0, none⟩) 1 1, .slice (some ⟨b + 1 + 1, 0, none⟩) 1 1, .slice (some ⟨b + 1 + 1 + 1 + 1 + 1, 0, none⟩) 1 1]] W fun e w' => ∃ m M, e = .returned (.tuple #[.pointer (some ⟨m, 0, none⟩), .int .i64 0]) ∧ MachX (fun b => b < W.heap.size) w' m M ∧ M.tb = wkT ∧ M.pt = pw M.li.l.length - 1 ∧ TbOk M.tb ∧ Below W.heap.size W w' := by
 refine (new_is (wkL b) W hL (wk_c b)).mono ?_
 rintro e w' ⟨m, M, h1, h2, h3, h4, h5⟩
 have h : M.li.l.length = (tbL (wkL b)).li.length := congrArg (fun T : Tb => T.li.length) h3
 exact ⟨m, M, h1, h2, h3.trans (wk_t b), by rw [h4, h, tbl_li], by rw [h3]; exact tbl_ok (wk_c b), h5⟩
def sA : St := ⟨1, 0, 0, fun _ => 0, 0⟩
def sB : St := ⟨1, 1, 0, fun _ => 0, 0⟩
def sC : St := ⟨1, 0, 1, fun n => if n = 0 then 19 else 0, 0⟩
theorem wk_1 : (stL (nextS wkT zS 0 [(1, 0)]) = stL sA ∧ outS wkT (nextS wkT zS 0 [(1, 0)]) 0 1 0 = 1) ∧ (nextS wkT zS 0 [(1, 0)]).pt = 0 := ⟨⟨by kernel_rfl, by kernel_rfl⟩, by kernel_rfl⟩
theorem wk_2 : (stL (nextS wkT zS 0 [(1, 0)]) = stL sA ∧ outS wkT (nextS wkT zS 0 [(1, 0)]) 0 0 0 = 0) ∧ (nextS wkT zS 0 [(1, 0)]).pt = 0 := ⟨⟨by kernel_rfl, by kernel_rfl⟩, by kernel_rfl⟩
theorem wk_3 : (stL (nextS wkT zS 4 [(1, 0)]) = stL zS ∧ outS wkT (nextS wkT zS 4 [(1, 0)]) 4 1 0 = 0) ∧ (nextS wkT zS 4 [(1, 0)]).pt = 0 := ⟨⟨by kernel_rfl, by kernel_rfl⟩, by kernel_rfl⟩
theorem wk_4 : (stL (nextS wkT sA 2 []) = stL sB ∧ outS wkT (nextS wkT sA 2 []) 2 1 0 = 0) ∧ (nextS wkT sA 2 []).pt = 0 := ⟨⟨by kernel_rfl, by kernel_rfl⟩, by kernel_rfl⟩
theorem wk_5 : (stL (nextS wkT sB 0 []) = stL zS ∧ outS wkT (nextS wkT sB 0 []) 0 1 0 = 0) ∧ (nextS wkT sB 0 []).pt = 0 := ⟨⟨by kernel_rfl, by kernel_rfl⟩, by kernel_rfl⟩
theorem wk_6 : (stL (nextS wkT sA 1 [(2, 0)]) = stL sC ∧ outS wkT (nextS wkT sA 1 [(2, 0)]) 1 1 0 = 0) ∧ (nextS wkT sA 1 [(2, 0)]).pt = 0 := ⟨⟨by kernel_rfl, by kernel_rfl⟩, by kernel_rfl⟩
theorem ok_A : sA.ok := ⟨by decide, by decide, by decide, fun _ => by show 0 ≤ 255; omega, by decide⟩
theorem ok_B : sB.ok := ⟨by decide, by decide, by decide, fun _ => by show 0 ≤ 255; omega, by decide⟩
theorem ok_Z : zS.ok := ⟨by decide, by decide, by decide, fun _ => by show 0 ≤ 255; omega, by decide⟩
/-- a step of a machine that lies below w -/
theorem mstep {w V : World} {m : Nat} {M : Mc} (hM : MachX (fun b => w.heap.size ≤ b) w m M) (hV : Below w.heap.size w V) (hT : TbOk M.tb) (hp : M.pt = pw M.li.l.length - 1) (s : St) (hs : s.ok) (oc no re : Nat) (ho : oc < 18446744073709551616) (hn : no < 4294967296) (hr : re < 4294967296) (ca : Option Addr) (cn cc : Nat) (l : List (Nat × Int)) (hl : CmdsAt V ca l) (hln : l.length = cn) (hcc : cn ≤ cc) (hcn : cn ≤ 100000) :
 Calls Try.prog 11 #[.pointer (some ⟨m, 0, none⟩), .agg (stL s).toArray, .agg #[.int .u64 (oc : Int), .int .u32 (no : Int), .int .u32 (re : Int), .slice ca cn cc]] V fun e w' => e = .returned (.tuple #[.agg (stL (nextS M.tb s oc l)).toArray, .agg #[.int .u64 (outS M.tb (nextS M.tb s oc l) oc no re : Int), .int .u32 ((nextS M.tb s oc l).pt : Int)]]) ∧ Below V.heap.size V w' :=
 step_is (fun b => w.heap.size ≤ b) m M s ⟨oc, no, re, .slice ca cn cc⟩ ca cn cc l V (hM.step (WX.of_below hV)) (fun _ hb => Nat.le_trans hV.size hb) hT hp hs ⟨ho, hn, hr, _, _, _, rfl⟩ rfl hl hln hcc hcn
theorem wstep {w V : World} {m : Nat} {M : Mc} (hM : MachX (fun b => w.heap.size ≤ b) w m M) (hV : Below w.heap.size w V) (hT : TbOk M.tb) (hp : M.pt = pw M.li.l.length - 1) (ht : M.tb = wkT) (s s' : St) (hs : s.ok) (oc no x : Nat) (ho : oc < 18446744073709551616) (hn : no < 4294967296) (ca : Option Addr) (cn cc : Nat) (l : List (Nat × Int)) (hl : CmdsAt V ca l) (hln : l.length = cn) (hcc : cn ≤ cc) (hcn : cn ≤ 100000)
 (h : (stL (nextS wkT s oc l) = stL s' ∧ outS wkT (nextS wkT s oc l) oc no 0 = x) ∧ (nextS wkT s oc l).pt = 0) :
 Calls Try.prog 11 #[.pointer (some ⟨m, 0, none⟩), .agg (stL s).toArray, .agg #[.int .u64 (oc : Int), .int .u32 (no : Int), .int .u32 0, .slice ca cn cc]] V fun e w' => e = .returned (.tuple #[.agg (stL s').toArray, .agg #[.int .u64 (x : Int), .int .u32 0]]) ∧ Below V.heap.size V w' := by
 have k := mstep hM hV hT hp s hs oc no 0 ho hn (by omega) ca cn cc l hl hln hcc hcn
 rw [ht, h.1.1, h.1.2, h.2] at k
 exact k
theorem alloc_size (w : World) (o : Obj) : (w.alloc o).heap.size = w.heap.size + 1 := Array.size_push _
theorem sA_0 : (stL sA).toArray[0]? = some (.int .u64 1) := rfl
theorem sB_1 : (stL sB).toArray[1]? = some (.int .u64 1) := rfl
theorem sC_2 : (stL sC).toArray[2]? = some (.int .u64 1) := rfl
theorem sC_3 : (stL sC).toArray[3]? = some (.int .u8 19) := rfl
theorem eq_zz (w : World) : (binOp .eql 32 (.agg (stL zS).toArray) (.agg (stL zS).toArray)).run Try.prog w = .ok (.bool true) w := by
 have h := eql_st zS zS w
 rw [show eqS zS zS = true by kernel_rfl] at h
 exact h
theorem cmds_nil (V : World) : CmdsAt V none [] := ⟨fun _ hc => (nomatch hc), .inl rfl⟩
theorem mach_low {w0 w : World} {m : Nat} {M : Mc} (h : MachX (fun k => k < w0.heap.size) w m M) : MachX (fun b => w.heap.size ≤ b) w m M := h.weak (fun _ hb hx => absurd hb (by have hx : w.heap.size ≤ _ := hx; omega))
attribute [local irreducible] Sl.v hasBit pw withBit woBit cyL stL stV tmL freeS ndBad maySet ptL setS mayCan canS canD nedS flipB mayMov movS comG relS rouS proS tidyS comsG rousS prosS nextG outS lnOk rightK rgtS eqS Mc.tb upd mayS checkS sideN
attribute [local irreducible] tbL rwL secOf cofL Rt.tr Rt.nd conflictS pairS formedS
attribute [local irreducible] mskS
attribute [local irreducible] wkT sA sB sC zS

set_option maxHeartbeats 8000000 in
theorem made_big (L : Lay) (w : World) (hL : LayAt w L) (z : Int) (hz : weightS 400 L = z) (h4 : 400 < z) :
 Calls Try.prog 10 #[.agg #[L.se.v, L.po.v, L.sg.v, L.rt.v]] w fun e w' => e = .returned (.tuple #[.pointer none, .bool false]) ∧ Below w.heap.size w w' := by
 have KW : Hid (∀ V, Below w.heap.size w V → Calls Try.prog 14 #[.agg #[L.se.v, L.po.v, L.sg.v, L.rt.v], .int .i64 400] V fun e w' => e = .returned (.int .i64 z) ∧ Below V.heap.size V w') := Lib.hid (fun V hV => hz ▸ (weight_is 400 L V (hL.below hV)).mono (fun _ _ h => ⟨h.1, h.2⟩))
 have KN : Hid True := Lib.hid trivial
 clear hz
 obtain ⟨n1, hn1⟩ : ∃ n, L.se.l.length = n := ⟨_, rfl⟩
 obtain ⟨n2, hn2⟩ : ∃ n, L.po.l.length = n := ⟨_, rfl⟩
 obtain ⟨n3, hn3⟩ : ∃ n, L.sg.l.length = n := ⟨_, rfl⟩
 obtain ⟨n4, hn4⟩ : ∃ n, L.rt.l.length = n := ⟨_, rfl⟩
 rw [slv hn1, slv hn2, slv hn3, slv hn4] at KW ⊢
 clear hn1 hn2 hn3 hn4 hL
 go_enter Try.func10, Try.ntmps10
 go_upto_region 1 with fail
 refine name_last (os := [.cells #[.slice L.se.a n1 L.se.c, .slice L.po.a n2 L.po.c, .slice L.sg.a n3 L.sg.c, .slice L.rt.a n4 L.rt.c] 27]) (w0 := w) rfl ?_
 intro W hat hbw
 obtain ⟨gl, hgl⟩ : ∃ g, g = w.heap.size := ⟨_, rfl⟩
 have q0 := hat 0 _ rfl
 rw [Nat.add_zero, ← hgl] at q0
 rw [← hgl]
 have HQl := Lib.hid q0
 have HB0 := Lib.hid hbw
 clear hat hbw q0 hgl
 have l0 := blk_cell HQl.out 0 _ rfl
 have l1 := blk_cell HQl.out 1 _ rfl
 have l2 := blk_cell HQl.out 2 _ rfl
 have l3 := blk_cell HQl.out 3 _ rfl
 go_wp2_with fail
 refine (KW.out _ HB0.out).mono ?_
 rintro e w1 ⟨rfl, hb1⟩
 have HB1 := Lib.hid (below_on HB0.out hb1)
 have HQ1 := Lib.hid (blk_keep hb1 HQl.out)
 clear hb1 l0 l1 l2 l3 HQl HB0
 go_wp2_with fail
 go_ret2
 exact ⟨rfl, HB1.out⟩
set_option maxHeartbeats 8000000 in
theorem made_no (L : Lay) (w : World) (hL : LayAt w L) (z : Int) (hz : weightS 400 L = z) (h4 : ¬ 400 < z) (c : Int) (hc : (checkS L).1 = c) (h0 : ¬ c = 0) :
 Calls Try.prog 10 #[.agg #[L.se.v, L.po.v, L.sg.v, L.rt.v]] w fun e w' => e = .returned (.tuple #[.pointer none, .bool false]) ∧ Below w.heap.size w w' := by
 have KW : Hid (∀ V, Below w.heap.size w V → Calls Try.prog 14 #[.agg #[L.se.v, L.po.v, L.sg.v, L.rt.v], .int .i64 400] V fun e w' => e = .returned (.int .i64 z) ∧ Below V.heap.size V w') := Lib.hid (fun V hV => hz ▸ (weight_is 400 L V (hL.below hV)).mono (fun _ _ h => ⟨h.1, h.2⟩))
 have KN : Hid (∀ V, Below w.heap.size w V → Calls Try.prog 15 #[.agg #[L.se.v, L.po.v, L.sg.v, L.rt.v]] V fun e w' => e = .returned (.tuple #[.pointer none, .int .i64 c]) ∧ Below V.heap.size V w') := Lib.hid (fun V hV => new_no L c V (hL.below hV) hc h0)
 have c1 : (c == 0) = false := by rw [beq_eq_false_iff_ne]; exact h0
 clear hz hc h0
 obtain ⟨n1, hn1⟩ : ∃ n, L.se.l.length = n := ⟨_, rfl⟩
 obtain ⟨n2, hn2⟩ : ∃ n, L.po.l.length = n := ⟨_, rfl⟩
 obtain ⟨n3, hn3⟩ : ∃ n, L.sg.l.length = n := ⟨_, rfl⟩
 obtain ⟨n4, hn4⟩ : ∃ n, L.rt.l.length = n := ⟨_, rfl⟩
 rw [slv hn1, slv hn2, slv hn3, slv hn4] at KW KN ⊢
 clear hn1 hn2 hn3 hn4 hL
 go_enter Try.func10, Try.ntmps10
 go_upto_region 1 with fail
 refine name_last (os := [.cells #[.slice L.se.a n1 L.se.c, .slice L.po.a n2 L.po.c, .slice L.sg.a n3 L.sg.c, .slice L.rt.a n4 L.rt.c] 27]) (w0 := w) rfl ?_
 intro W hat hbw
 obtain ⟨gl, hgl⟩ : ∃ g, g = w.heap.size := ⟨_, rfl⟩
 have q0 := hat 0 _ rfl
 rw [Nat.add_zero, ← hgl] at q0
 rw [← hgl]
 have HQl := Lib.hid q0
 have HB0 := Lib.hid hbw
 clear hat hbw q0 hgl
 have l0 := blk_cell HQl.out 0 _ rfl
 have l1 := blk_cell HQl.out 1 _ rfl
 have l2 := blk_cell HQl.out 2 _ rfl
 have l3 := blk_cell HQl.out 3 _ rfl
 go_wp2_with fail
 refine (KW.out _ HB0.out).mono ?_
 rintro e w1 ⟨rfl, hb1⟩
 have HB1 := Lib.hid (below_on HB0.out hb1)
 have HQ1 := Lib.hid (blk_keep hb1 HQl.out)
 clear hb1 l0 l1 l2 l3 HQl HB0
 have l0 := blk_cell HQ1.out 0 _ rfl
 have l1 := blk_cell HQ1.out 1 _ rfl
 have l2 := blk_cell HQ1.out 2 _ rfl
 have l3 := blk_cell HQ1.out 3 _ rfl
 go_wp2_with fail
 refine (KN.out _ HB1.out).mono ?_
 rintro e w2 ⟨rfl, hb2⟩
 have HB2 := Lib.hid (below_on HB1.out hb2)
 clear hb2 l0 l1 l2 l3
 go_wp2_with fail
 go_ret2
 exact ⟨rfl, HB2.out⟩
set_option maxHeartbeats 8000000 in
theorem made_is (L : Lay) (w : World) (hL : LayAt w L) (z : Int) (hz : weightS 400 L = z) (h4 : ¬ 400 < z) (hc : (checkS L).1 = 0) :
 Calls Try.prog 10 #[.agg #[L.se.v, L.po.v, L.sg.v, L.rt.v]] w fun e w' => ∃ m M, e = .returned (.tuple #[.pointer (some ⟨m, 0, none⟩), .bool true]) ∧ MachX (fun b => b < w.heap.size) w' m M ∧ M.tb = tbL L ∧ M.pt = pw L.po.l.length - 1 ∧ Below w.heap.size w w' := by
 have KW : Hid (∀ V, Below w.heap.size w V → Calls Try.prog 14 #[.agg #[L.se.v, L.po.v, L.sg.v, L.rt.v], .int .i64 400] V fun e w' => e = .returned (.int .i64 z) ∧ Below V.heap.size V w') := Lib.hid (fun V hV => hz ▸ (weight_is 400 L V (hL.below hV)).mono (fun _ _ h => ⟨h.1, h.2⟩))
 have KN : Hid (∀ V, Below w.heap.size w V → Calls Try.prog 15 #[.agg #[L.se.v, L.po.v, L.sg.v, L.rt.v]] V fun e w' => ∃ m M, e = .returned (.tuple #[.pointer (some ⟨m, 0, none⟩), .int .i64 0]) ∧ MachX (fun b => b < w.heap.size) w' m M ∧ M.tb = tbL L ∧ M.pt = pw L.po.l.length - 1 ∧ Below V.heap.size V w') := Lib.hid (fun V hV => (new_is L V (hL.below hV) hc).mono (fun _ _ ⟨m, M, e1, e2, e3, e4, e5⟩ => ⟨m, M, e1, e2.weak (fun b _ hb => Nat.lt_of_lt_of_le hb hV.size), e3, e4, e5⟩))
 clear hz hc
 obtain ⟨n1, hn1⟩ : ∃ n, L.se.l.length = n := ⟨_, rfl⟩
 obtain ⟨n2, hn2⟩ : ∃ n, L.po.l.length = n := ⟨_, rfl⟩
 obtain ⟨n3, hn3⟩ : ∃ n, L.sg.l.length = n := ⟨_, rfl⟩
 obtain ⟨n4, hn4⟩ : ∃ n, L.rt.l.length = n := ⟨_, rfl⟩
 rw [slv hn1, slv hn2, slv hn3, slv hn4] at KW KN ⊢
 clear hn1 hn2 hn3 hn4 hL
 go_enter Try.func10, Try.ntmps10
 go_upto_region 1 with fail
 refine name_last (os := [.cells #[.slice L.se.a n1 L.se.c, .slice L.po.a n2 L.po.c, .slice L.sg.a n3 L.sg.c, .slice L.rt.a n4 L.rt.c] 27]) (w0 := w) rfl ?_
 intro W hat hbw
 obtain ⟨gl, hgl⟩ : ∃ g, g = w.heap.size := ⟨_, rfl⟩
 have q0 := hat 0 _ rfl
 rw [Nat.add_zero, ← hgl] at q0
 rw [← hgl]
 have HQl := Lib.hid q0
 have HB0 := Lib.hid hbw
 clear hat hbw q0 hgl
 have l0 := blk_cell HQl.out 0 _ rfl
 have l1 := blk_cell HQl.out 1 _ rfl
 have l2 := blk_cell HQl.out 2 _ rfl
 have l3 := blk_cell HQl.out 3 _ rfl
 go_wp2_with fail
 refine (KW.out _ HB0.out).mono ?_
 rintro e w1 ⟨rfl, hb1⟩
 have HB1 := Lib.hid (below_on HB0.out hb1)
 have HQ1 := Lib.hid (blk_keep hb1 HQl.out)
 clear hb1 l0 l1 l2 l3 HQl HB0
 have l0 := blk_cell HQ1.out 0 _ rfl
 have l1 := blk_cell HQ1.out 1 _ rfl
 have l2 := blk_cell HQ1.out 2 _ rfl
 have l3 := blk_cell HQ1.out 3 _ rfl
 go_wp2_with fail
 refine (KN.out _ HB1.out).mono ?_
 rintro e w2 ⟨m, M, rfl, h1, h2, h3, hb2⟩
 have HB2 := Lib.hid (below_on HB1.out hb2)
 have HMM := Lib.hid (And.intro h1 (And.intro h2 h3))
 clear hb2 l0 l1 l2 l3 h1 h2 h3
 go_wp2_with fail
 go_ret2
 exact ⟨m, M, rfl, HMM.out.1, HMM.out.2.1, HMM.out.2.2, HB2.out⟩
end Go.Proofs.Ytjienmjpfklgeaa
