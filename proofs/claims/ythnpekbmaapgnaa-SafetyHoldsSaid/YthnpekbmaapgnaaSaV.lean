/-
 Layer 29: SafetyHolds.
-/
import Derived.Test.YthnpekbmaapgnaaSaU
import Derived.Test.YthnpekbmaapgnaaSaL
import Derived.Test.YthnpekbmaapgnaaSaRa
import Derived.Test.YthnpekbmaapgnaaIxL
import Derived.Test.YthnpekbmaapgnaaIxN
import Derived.Test.YthnpekbmaapgnaaRelT
import Derived.Test.YthnpekbmaapgnaaMA
import Derived.Test.YthnpekbmaapgnaaMC
namespace Go.Proofs.Ythnpekbmaapgnaa
open Go.RowKit
set_option maxRecDepth 100000
theorem own_shape {w : World} {base : Nat} {e : TypeId} {sz : Nat} {v : Value} {n : Nat} {xs : List Value} (h : w.ownsRow base e sz v n xs) : ∃ a c, v = .slice a n c := by
 rcases h.2 with ⟨h1, h2⟩ | ⟨g, cap, cur, h1, _⟩
 ·exact ⟨none, 0, by rw [h1, h2]⟩
 ·exact ⟨_, _, h1⟩
section
variable {P : Program}
theorem rel_load {r : Operand → Value} {w : World} {F : Value → World → Prop} {o : Oper} (ty : TypeId) (x : Operand) (ho : o.op = .load ty x) (vx v : Value) (hx : r x = vx) (hr : (Instr.loadAt ty vx).run P w = .ok v w) (h : F v w) : relUpon P w F ((execOp r o).run P w) := by
 unfold execOp
 simp only [ho, hx, Sem.run_bind, hr, Result.andThen_ok, Sem.run_pure]
 exact ⟨Below.refl _ _, h⟩
theorem wp_store_is {w : World} {o : Oper} {a : Act} {K : Act → World → Prop} {Q : Exit → Act → World → Prop} (ty : TypeId) (x y : Operand) (ho : o.op = .store ty x y) (vx vy : Value) (hx : a.eval x = vx) (hy : a.eval y = vy) (w' : World) (hr : (Instr.storeAt ty vx vy).run P w = .ok () w') (h : K (a.put o.dst undef) w') : o.wp P a w K Q := by
 unfold Oper.wp execOp
 simp only [ho, hx, hy, Sem.run_bind, hr, Result.andThen_ok, Sem.run_pure]
 exact h
theorem ne_cells {w : World} {g h : Nat} {a b : Array Value} {s t : TypeId} {f k : Nat × Nat} (h1 : w.heap[g]? = some (.cells a s f)) (h2 : w.heap[h]? = some (.cells b t k)) (hs : a.size ≠ b.size) : g ≠ h := by
 rintro rfl
 rw [h1] at h2
 cases h2
 exact hs rfl
theorem st_size (s : St) : (stL s).toArray.size = 68 := by rw [List.size_toArray, st_len]
end
theorem alloc_st (w : World) : (w.alloc (.cells (stL zS).toArray 63)).heap[w.heap.size]? = some (.cells (stL zS).toArray 63) := alloc1 w _ (Below.refl _ _)
theorem rg_zero0 {T : Tb} : Rg T zS := by
 have hz : ∀ i, hasBit 0 i = false := fun i => by rw [hasBit_test]; exact Nat.zero_testBit i
 refine ⟨⟨by decide, by decide, by decide, fun _ => by show 0 ≤ 255; omega, by decide⟩, fun n h => ?_, fun n h => ?_, fun n h => ?_, fun _ _ _ => rfl, fun _ _ => by show 0 ≤ 20; omega, fun p h => ?_, fun n x _ => ?_⟩
 ·have h : hasBit 0 n = true := h
  rw [hz] at h; cases h
 ·have h : hasBit 0 n = true := h
  rw [hz] at h; cases h
 ·have h : hasBit 0 n = true := h
  rw [hz] at h; cases h
 ·have h : hasBit 0 p = true := h
  rw [hz] at h; cases h
 ·rw [ln_iff]
  intro h
  have h : hasBit 0 n = true := h
  rw [hz] at h; cases h
theorem u8_natS {a : Int} (h : (Lit.int .u8 a).wf = true) : ∃ n : Nat, a = n ∧ n ≤ 255 := by have := bounds_u8 h; exact ⟨a.toNat, by omega, by omega⟩
theorem u64_nat {a : Int} (h : (Lit.int .u64 a).wf = true) : ∃ n : Nat, a = n ∧ n < 18446744073709551616 := by have := bounds_u64 h; exact ⟨a.toNat, by omega, by omega⟩
theorem u32_nat {a : Int} (h : (Lit.int .u32 a).wf = true) : ∃ n : Nat, a = n ∧ n < 4294967296 := by have := bounds_u32 h; exact ⟨a.toNat, by omega, by omega⟩
theorem cmd_of {w : World} {cs : List Value} (h : Rd Try.prog w 101 cs) : ∃ (k : Nat) (n : Int), cs = [.int .u8 (k : Int), .int .i64 n] ∧ k < 256 ∧ -9223372036854775808 ≤ n ∧ n ≤ 9223372036854775807 := by
 obtain ⟨hl, hf⟩ := h.fields (L := [(5, 0), (3, 1)]) (by kernel_rfl) (by kernel_rfl)
 rw [show Try.prog.cellsOf 101 = 2 by kernel_rfl] at hl
 match cs, hl with
 | [x, y], _ =>
   have h0 := hf (5, 0) (by simp)
   have h1 := hf (3, 1) (by simp)
   simp only [show Try.prog.cellsOf 5 = 1 by kernel_rfl, show Try.prog.cellsOf 3 = 1 by kernel_rfl] at h0 h1
   obtain ⟨a, ha, wa⟩ := h0.int Try.underlying5
   obtain ⟨b, hb, wb⟩ := h1.int Try.underlying3
   simp at ha hb
   obtain ⟨k, rfl, hk⟩ := u8_natS wa
   have := bounds_i64 wb
   exact ⟨k, b, by rw [ha, hb], by omega, this.1, by omega⟩
theorem cmds_of {w : World} {a : Option Addr} {len cap : Nat} (h : Rd Try.prog w 30 [.slice a len cap]) : ∃ l : List (Nat × Int), l.length = len ∧ len ≤ maxLen ∧ CmdsAt w a l ∧ (a = none → cap = 0) ∧ len ≤ cap ∧ cap ≤ maxLen := by
 rcases h.slice Try.underlying30 with h | ⟨x, n, c, h, hlc, hcm, hel⟩
 ·simp only [List.cons.injEq, Value.slice.injEq, and_true] at h
  obtain ⟨rfl, rfl, rfl⟩ := h
  exact ⟨[], rfl, Nat.zero_le _, ⟨fun _ h => (nomatch h), .inl rfl⟩, fun _ => rfl, Nat.le_refl _, Nat.zero_le _⟩
 ·simp only [List.cons.injEq, Value.slice.injEq, and_true] at h
  obtain ⟨rfl, rfl, rfl⟩ := h
  have hsz : Try.prog.cellsOf 101 = 2 := by kernel_rfl
  have H : ∀ i, i < len → ∃ c : Nat × Int, (c.1 < 256 ∧ -9223372036854775808 ≤ c.2 ∧ c.2 ≤ 9223372036854775807) ∧ w.cell? ((x.add (i * 2)).add 0) = some (.int .u8 (c.1 : Int)) ∧ w.cell? ((x.add (i * 2)).add 1) = some (.int .i64 c.2) := by
   intro i hi
   obtain ⟨ecs, he, hr⟩ := hel i (by omega)
   rw [hsz] at he
   obtain ⟨k, n, rfl, hk, hn1, hn2⟩ := cmd_of hr
   obtain ⟨_, hg⟩ := cells_get he
   obtain ⟨v0, g0, c0⟩ := hg 0 (by omega)
   obtain ⟨v1, g1, c1⟩ := hg 1 (by omega)
   simp at g0 g1
   subst g0; subst g1
   exact ⟨(k, n), ⟨hk, hn1, hn2⟩, c0, c1⟩
  obtain ⟨l, hl, hq⟩ := list_of len H
  refine ⟨l, hl, Nat.le_trans hlc hcm, ⟨fun c hc => ?_, ?_⟩, (fun h => by cases h), hlc, hcm⟩
  ·obtain ⟨i, hi⟩ := List.getElem?_of_mem hc
   exact (hq i c hi).1
  ·rcases l with _ | ⟨c0, l⟩
   ·exact .inl rfl
   ·right
    have h0 := (hq 0 c0 rfl).2.1
    have hs : x.spot = none := World.cell?_spot (show w.cell? x = some _ by simpa [Addr.add] using h0)
    obtain ⟨b, off, spot⟩ := x
    subst hs
    refine ⟨b, off, rfl, fun i c hi => ?_⟩
    obtain ⟨_, q1, q2⟩ := hq i c hi
    simp only [Addr.add_lit, Nat.add_zero] at q1 q2
    exact ⟨q1, q2⟩
theorem input_of {w : World} {c : Array Value} (h : Rd Try.prog w 32 c.toList) : ∃ (o n r : Nat) (a : Option Addr) (len cap : Nat) (l : List (Nat × Int)),
 c = #[.int .u64 (o : Int), .int .u32 (n : Int), .int .u32 (r : Int), .slice a len cap] ∧ o < 18446744073709551616 ∧ n < 4294967296 ∧ r < 4294967296 ∧ l.length = len ∧ len ≤ maxLen ∧ CmdsAt w a l ∧ (a = none → cap = 0) ∧ len ≤ cap ∧ cap ≤ maxLen := by
 obtain ⟨hl, hf⟩ := h.fields (L := [(28, 0), (29, 1), (29, 2), (30, 3)]) (by kernel_rfl) (by kernel_rfl)
 rw [show Try.prog.cellsOf 32 = 4 by kernel_rfl] at hl
 match hc : c.toList, hl with
 | [x, y, z, t], _ =>
   rw [hc] at hf
   have h0 := hf (28, 0) (by simp)
   have h1 := hf (29, 1) (by simp)
   have h2 := hf (29, 2) (by simp)
   have h3 := hf (30, 3) (by simp)
   simp only [show Try.prog.cellsOf 28 = 1 by kernel_rfl, show Try.prog.cellsOf 29 = 1 by kernel_rfl, show Try.prog.cellsOf 30 = 1 by kernel_rfl] at h0 h1 h2 h3
   obtain ⟨o, ho, wo⟩ := h0.int Try.underlying28
   obtain ⟨n, hn, wn⟩ := h1.int Try.underlying29
   obtain ⟨r, hr, wr⟩ := h2.int Try.underlying29
   have hsl := h3.slice Try.underlying30
   simp at ho hn hr
   subst ho; subst hn; subst hr
   obtain ⟨o, rfl, ho⟩ := u64_nat wo
   obtain ⟨n, rfl, hn⟩ := u32_nat wn
   obtain ⟨r, rfl, hr⟩ := u32_nat wr
   have hform : ∃ a len cap, t = .slice a len cap := by
    rcases hsl with h | ⟨x, n, c, h, _⟩
    ·simp at h; exact ⟨_, _, _, h⟩
    ·simp at h; exact ⟨_, _, _, h⟩
   obtain ⟨a, len, cap, rfl⟩ := hform
   obtain ⟨l, hl1, hl2, hl3, hl4⟩ := cmds_of (a := a) (len := len) (cap := cap) (by simpa using h3)
   exact ⟨o, n, r, a, len, cap, l, array_of_list hc, ho, hn, hr, hl1, hl2, hl3, hl4⟩
def IpOk (w : World) (x : Ip) : Prop := x.ok ∧ ∃ l : List (Nat × Int), l.length = x.len ∧ x.len ≤ x.cap ∧ CmdsAt w x.a l
theorem ipr_el {w : World} {cs : List Value} (h : Rd Try.prog w 32 cs) : ∃ c : Ip, cs = ipC c ∧ IpOk w c := by
 obtain ⟨o, n, r, a, len, cap, l, hc, ho, hn, hr, hl, _, hcm, _, hlc, _⟩ := input_of (c := cs.toArray) h
 exact ⟨⟨o, n, r, a, len, cap⟩, congrArg Array.toList hc, ⟨ho, hn, hr⟩, l, hl, hlc, hcm⟩
theorem iprs_of {w : World} {cs : List Value} (h : Rd Try.prog w 44 cs) : ∃ s : Sl Ip, cs = [s.v] ∧ SlAt 4 ipC w s ∧ ∀ c ∈ s.l, IpOk w c := sl_of (f := ipC) (sz := 4) Try.underlying44 (by kernel_rfl) (by decide) (fun _ => rfl) (fun _ h => ipr_el h) h
theorem op_lenC (c : Op) : (opC c).length = 2 := rfl
theorem op_one (c : Op) : ∀ u ∈ opC c, u.oneCell' = true := by
 intro u h; simp [opC] at h
 rcases h with rfl | rfl <;> rfl
theorem info_outS : (Try.prog.info? 34).map (fun i => (i.zero, i.size, i.bytes)) = some (some (.agg #[.int .u64 0, .int .u32 0]), 2, 16) := by kernel_rfl
theorem src_out {w : World} {g p q : Nat} {t : TypeId} {fr : Nat × Nat} (h : w.heap[g]? = some (.cells #[.int .u64 (p : Int), .int .u32 (q : Int)] t fr)) : SrcAt w (some ⟨g, 0, none⟩) 1 ([(⟨p, q⟩ : Op)].flatMap opC) :=
 src_blk h rfl (by
  intro u hu
  obtain ⟨c, _, hc⟩ := List.mem_flatMap.1 hu
  exact op_one c u hc)
theorem cycp_safe {L : Lay} {x : Ip} {t : St} {OP : Nat} (hc : (checkS L).1 = 0) (hR : Rg (tbL L) t) (hO : outS (tbL L) t x.o x.n x.r = OP) : cycP L x ⟨OP, t.pt⟩ = 0 := cyc_safe hc hR hO
theorem cyci_zero {L : Lay} {X : List Ip} {Y : List Op} (h : ∀ (j : Nat) (x : Ip) (y : Op), X[j]? = some x → Y[j]? = some y → cycP L x y = 0) (j : Nat) : cycI L X Y j = 0 := by
 cases hx : X[j]? with
 | none => unfold cycI; rw [hx]
 | some x =>
   cases hy : Y[j]? with
   | none => unfold cycI; rw [hx, hy]
   | some y => rw [cycI_at hx hy]; exact h j x y hx hy
theorem outs_lt {T : Tb} {s : St} {oc no re : Nat} (hT : TbOk T) : outS T s oc no re < 18446744073709551616 := pros_lt _ _ _ _ _ _ hT.rn
theorem mach_lowS {w0 w : World} {m : Nat} {M : Mc} (h : MachX (fun k => k < w0.heap.size) w m M) : MachX (fun b => w.heap.size ≤ b) w m M := h.weak (fun _ hb hx => absurd hb (by have hx : w.heap.size ≤ _ := hx; omega))
theorem mstepH {w V : World} {m : Nat} {M : Mc} {L : Lay} (hM : MachX (fun b => w.heap.size ≤ b) w m M) (hV : Below w.heap.size w V) (hc : (checkS L).1 = 0) (ht : M.tb = tbL L) (hp : M.pt = pw L.po.l.length - 1) (s : St) (hs : s.ok) (oc no re : Nat) (ho : oc < 18446744073709551616) (hn : no < 4294967296) (hr : re < 4294967296) (ca : Option Addr) (cn cc : Nat) (l : List (Nat × Int)) (hl : CmdsAt V ca l) (hln : l.length = cn) (hcc : cn ≤ cc) (hcn : cn ≤ 100000) :
 Calls Try.prog 18 #[.pointer (some ⟨m, 0, none⟩), .agg (stL s).toArray, .agg #[.int .u64 (oc : Int), .int .u32 (no : Int), .int .u32 (re : Int), .slice ca cn cc]] V fun e w' => e = .returned (.tuple #[.agg (stL (nextS (tbL L) s oc l)).toArray, .agg #[.int .u64 (outS (tbL L) (nextS (tbL L) s oc l) oc no re : Int), .int .u32 ((nextS (tbL L) s oc l).pt : Int)]]) ∧ Below V.heap.size V w' := by
 have h2 : M.li.l.length = L.po.l.length := by rw [← tb_li, ht, tbl_li]
 have h := step_is (fun b => w.heap.size ≤ b) m M s ⟨oc, no, re, .slice ca cn cc⟩ ca cn cc l V (hM.step (WX.of_below hV)) (fun _ hb => Nat.le_trans hV.size hb) (by rw [ht]; exact tbl_ok hc) (by rw [hp, h2]) hs ⟨ho, hn, hr, _, _, _, rfl⟩ rfl hl hln hcc hcn
 rw [ht] at h
 exact h
attribute [local irreducible] Sl.v hasBit pw withBit woBit cyL stL stV tmL freeS ndBad maySet ptL setS mayCan canS canD nedS flipB mayMov movS comG relS rouS proS tidyS comsG rousS prosS nextG outS lnOk rightK rgtS eqS Mc.tb upd mayS checkS sideN
attribute [local irreducible] tbL rwL secOf cofL Rt.tr Rt.nd conflictS pairS formedS zS IpOk fstS cycI cycP cycS weightS
theorem alloc_sizeS (w : World) (o : Obj) : (w.alloc o).heap.size = w.heap.size + 1 := Array.size_push _

set_option maxHeartbeats 16000000 in
theorem safetyHolds_is (L : Lay) (ra : Option Addr) (n rc : Nat) (X : List Ip) (w : World) (hL : LayAt w L) (hX : SlAt 4 ipC w ⟨ra, rc, X⟩) (hxn : X.length = n) (hxo : ∀ x ∈ X, IpOk w x) :
 Calls Try.prog 7 #[.agg #[L.se.v, L.po.v, L.sg.v, L.rt.v], .slice ra n rc] w fun e w' => e = .returned (.bool true) ∧ Below w.heap.size w w' := by
 obtain ⟨n1, hn1⟩ : ∃ n, L.se.l.length = n := ⟨_, rfl⟩
 obtain ⟨n2, hn2⟩ : ∃ n, L.po.l.length = n := ⟨_, rfl⟩
 obtain ⟨n3, hn3⟩ : ∃ n, L.sg.l.length = n := ⟨_, rfl⟩
 obtain ⟨n4, hn4⟩ : ∃ n, L.rt.l.length = n := ⟨_, rfl⟩
 obtain ⟨z, hz⟩ : ∃ z, weightS 400 L = z := ⟨_, rfl⟩
 have KW : Hid (∀ V, Below w.heap.size w V → Calls Try.prog 8 #[.agg #[L.se.v, L.po.v, L.sg.v, L.rt.v], .int .i64 400] V fun e w' => e = .returned (.int .i64 z) ∧ Below V.heap.size V w') := Lib.hid (fun V hV => hz ▸ (weight_is 400 L V (hL.below hV)).mono (fun _ _ h => ⟨h.1, h.2⟩))
 by_cases h4 : 400 < z
 ·rw [slv hn1, slv hn2, slv hn3, slv hn4] at KW ⊢
  clear hn1 hn2 hn3 hn4 hL hz hX hxn hxo
  go_enter Try.func7, Try.ntmps7
  go_upto_region 1 with fail
  refine name_last (os := [.cells #[.slice L.se.a n1 L.se.c, .slice L.po.a n2 L.po.c, .slice L.sg.a n3 L.sg.c, .slice L.rt.a n4 L.rt.c] 27]) (w0 := w) rfl ?_
  intro W hat hbw
  obtain ⟨gl, hgl⟩ : ∃ g, g = w.heap.size := ⟨_, rfl⟩
  have q0 := hat 0 _ rfl
  rw [Nat.add_zero, ← hgl] at q0
  rw [← hgl]
  have HQl := Lib.hid q0
  have HB0 := Lib.hid hbw
  clear hat hbw q0 hgl
  have l0 := blk_cell HQl.out 0 _ rfl
  have l1 := blk_cell HQl.out 1 _ rfl
  have l2 := blk_cell HQl.out 2 _ rfl
  have l3 := blk_cell HQl.out 3 _ rfl
  go_wp2_with fail
  refine (KW.out _ HB0.out).mono ?_
  rintro e w0 ⟨rfl, hb⟩
  have HBa := Lib.hid (below_on HB0.out hb)
  have HLa := Lib.hid (blk_keep hb HQl.out)
  clear hb l0 l1 l2 l3
  go_wp2_with fail
  refine (works_is _).mono ?_
  rintro e w2 ⟨rfl, hb⟩
  have HBE := Lib.hid (below_on HBa.out hb)
  clear hb
  go_wp2_with fail
  go_ret
  exact ⟨rfl, HBE.out⟩
 ·have dz : decide ((400 : Int) < z) = false := decide_eq_false h4
  by_cases h50 : 50 < n
  ·rw [slv hn1, slv hn2, slv hn3, slv hn4] at KW ⊢
   clear hn1 hn2 hn3 hn4 hL hz hX hxn hxo
   go_enter Try.func7, Try.ntmps7
   go_upto_region 1 with fail
   refine name_last (os := [.cells #[.slice L.se.a n1 L.se.c, .slice L.po.a n2 L.po.c, .slice L.sg.a n3 L.sg.c, .slice L.rt.a n4 L.rt.c] 27]) (w0 := w) rfl ?_
   intro W hat hbw
   obtain ⟨gl, hgl⟩ : ∃ g, g = w.heap.size := ⟨_, rfl⟩
   have q0 := hat 0 _ rfl
   rw [Nat.add_zero, ← hgl] at q0
   rw [← hgl]
   have HQl := Lib.hid q0
   have HB0 := Lib.hid hbw
   clear hat hbw q0 hgl
   have l0 := blk_cell HQl.out 0 _ rfl
   have l1 := blk_cell HQl.out 1 _ rfl
   have l2 := blk_cell HQl.out 2 _ rfl
   have l3 := blk_cell HQl.out 3 _ rfl
   go_wp2_with fail
   refine (KW.out _ HB0.out).mono ?_
   rintro e w0 ⟨rfl, hb⟩
   have HBa := Lib.hid (below_on HB0.out hb)
   have HLa := Lib.hid (blk_keep hb HQl.out)
   clear hb l0 l1 l2 l3
   have d : (50 : Int) < (n : Int) := by omega
   have dd : decide ((50 : Int) < (n : Int)) = true := decide_eq_true d
   go_wp2_with fail
   refine (works_is _).mono ?_
   rintro e w2 ⟨rfl, hb⟩
   have HBE := Lib.hid (below_on HBa.out hb)
   clear hb
   go_wp2_with fail
   go_ret
   exact ⟨rfl, HBE.out⟩
  ·have HN50 : Hid (n ≤ 50) := Lib.hid (by omega)
   obtain ⟨c, hc⟩ : ∃ c, (checkS L).1 = c := ⟨_, rfl⟩
   by_cases h0 : c = 0
   rotate_left
   ·have KN : Hid (∀ V, Below w.heap.size w V → Calls Try.prog 17 #[.agg #[L.se.v, L.po.v, L.sg.v, L.rt.v]] V fun e w' => e = .returned (.tuple #[.pointer none, .int .i64 c]) ∧ Below V.heap.size V w') := Lib.hid (fun V hV => new_no L c V (hL.below hV) hc h0)
    have cn : (c != 0) = true := by rw [bne_iff_ne]; exact h0
    rw [slv hn1, slv hn2, slv hn3, slv hn4] at KW KN ⊢
    clear hn1 hn2 hn3 hn4 hL hz hX hxn hxo hc h0
    go_enter Try.func7, Try.ntmps7
    go_upto_region 1 with fail
    refine name_last (os := [.cells #[.slice L.se.a n1 L.se.c, .slice L.po.a n2 L.po.c, .slice L.sg.a n3 L.sg.c, .slice L.rt.a n4 L.rt.c] 27]) (w0 := w) rfl ?_
    intro W hat hbw
    obtain ⟨gl, hgl⟩ : ∃ g, g = w.heap.size := ⟨_, rfl⟩
    have q0 := hat 0 _ rfl
    rw [Nat.add_zero, ← hgl] at q0
    rw [← hgl]
    have HQl := Lib.hid q0
    have HB0 := Lib.hid hbw
    clear hat hbw q0 hgl
    have l0 := blk_cell HQl.out 0 _ rfl
    have l1 := blk_cell HQl.out 1 _ rfl
    have l2 := blk_cell HQl.out 2 _ rfl
    have l3 := blk_cell HQl.out 3 _ rfl
    go_wp2_with fail
    refine (KW.out _ HB0.out).mono ?_
    rintro e w0 ⟨rfl, hb⟩
    have HBa := Lib.hid (below_on HB0.out hb)
    have HLa := Lib.hid (blk_keep hb HQl.out)
    clear hb l0 l1 l2 l3
    have d : ¬ (50 : Int) < (n : Int) := by omega
    have dd : decide ((50 : Int) < (n : Int)) = false := decide_eq_false d
    have l0 := blk_cell HLa.out 0 _ rfl
    have l1 := blk_cell HLa.out 1 _ rfl
    have l2 := blk_cell HLa.out 2 _ rfl
    have l3 := blk_cell HLa.out 3 _ rfl
    go_wp2_with fail
    refine (KN.out _ HBa.out).mono ?_
    rintro e w1 ⟨rfl, hb⟩
    have HB1 := Lib.hid (below_on HBa.out hb)
    clear hb l0 l1 l2 l3
    go_wp2_with fail
    refine (works_is _).mono ?_
    rintro e w2 ⟨rfl, hb⟩
    have HBE := Lib.hid (below_on HB1.out hb)
    clear hb
    go_wp2_with fail
    go_ret
    exact ⟨rfl, HBE.out⟩
   ·subst h0
    have KN : Hid (∀ V, Below w.heap.size w V → Calls Try.prog 17 #[.agg #[L.se.v, L.po.v, L.sg.v, L.rt.v]] V fun e w' => ∃ m M, e = .returned (.tuple #[.pointer (some ⟨m, 0, none⟩), .int .i64 0]) ∧ MachX (fun b => b < V.heap.size) w' m M ∧ M.tb = tbL L ∧ M.pt = pw L.po.l.length - 1 ∧ Below V.heap.size V w') := Lib.hid (fun V hV => new_is L V (hL.below hV) hc)
    have HCK := Lib.hid hc
    have HTR := Lib.hid (tbl_right hc)
    have HXR := Lib.hid hX.row
    have HXN := Lib.hid hxn
    have HXO := Lib.hid hxo
    have KRW : Hid (∀ V, Below w.heap.size w V → ∀ (Y : List Op) (ya : Option Addr) (yc i : Nat), Y.length = i → i = n → (∀ (j : Nat) (x : Ip) (y : Op), X[j]? = some x → Y[j]? = some y → cycP L x y = 0) → (∀ y ∈ Y, y.ok) → RowAt 2 opC V ya Y → Calls Try.prog 14 #[.agg #[L.se.v, L.po.v, L.sg.v, L.rt.v], .slice ra n rc, .slice ya i yc] V fun e w' => e = .returned (.tuple #[.int .i64 (-1), .int .u8 0]) ∧ Below V.heap.size V w') := Lib.hid (fun V hV Y ya yc i hyl hin hcy hyo hyr => srow_is (-1) 0 L X Y ra ya n i rc yc (fstS_none (fun j _ => cyci_zero hcy j)) (fun x hx => by have h := hxo x hx; unfold IpOk at h; exact h.1) hyo (by have := HN50.out; omega) (by have := HN50.out; omega) hxn hyl V (hL.below hV) (hX.row.below hV) hyr)
    rw [slv hn1, slv hn2, slv hn3, slv hn4] at KW KN KRW ⊢
    clear hn1 hn2 hn3 hn4 hL hz hX hxn hxo hc
    go_enter Try.func7, Try.ntmps7
    go_upto_region 1 with fail
    refine name_last (os := [.cells #[.slice L.se.a n1 L.se.c, .slice L.po.a n2 L.po.c, .slice L.sg.a n3 L.sg.c, .slice L.rt.a n4 L.rt.c] 27]) (w0 := w) rfl ?_
    intro W hat hbw
    obtain ⟨gl, hgl⟩ : ∃ g, g = w.heap.size := ⟨_, rfl⟩
    have q0 := hat 0 _ rfl
    rw [Nat.add_zero, ← hgl] at q0
    rw [← hgl]
    have HQl := Lib.hid q0
    have HB0 := Lib.hid hbw
    clear hat hbw q0 hgl
    have l0 := blk_cell HQl.out 0 _ rfl
    have l1 := blk_cell HQl.out 1 _ rfl
    have l2 := blk_cell HQl.out 2 _ rfl
    have l3 := blk_cell HQl.out 3 _ rfl
    go_wp2_with fail
    refine (KW.out _ HB0.out).mono ?_
    rintro e w0 ⟨rfl, hb⟩
    have HBa := Lib.hid (below_on HB0.out hb)
    have HLa := Lib.hid (blk_keep hb HQl.out)
    clear hb l0 l1 l2 l3
    have d : ¬ (50 : Int) < (n : Int) := by have := HN50.out; omega
    have dd : decide ((50 : Int) < (n : Int)) = false := decide_eq_false d
    have l0 := blk_cell HLa.out 0 _ rfl
    have l1 := blk_cell HLa.out 1 _ rfl
    have l2 := blk_cell HLa.out 2 _ rfl
    have l3 := blk_cell HLa.out 3 _ rfl
    go_wp2_with fail
    refine (KN.out _ HBa.out).mono ?_
    rintro e w1 ⟨m, M, rfl, hM, ht, hp, hb⟩
    have HM := Lib.hid (And.intro (mach_lowS hM) (And.intro ht hp))
    have HB1 := Lib.hid (below_on HBa.out hb)
    have HL1 := Lib.hid (blk_keep hb HLa.out)
    clear hb hM ht hp l0 l1 l2 l3
    have ha := alloc1 w1 (.cells (stL zS).toArray 63) (Below.refl _ _)
    have hk := below1 w1 (.cells (stL zS).toArray 63)
    obtain ⟨hst, hq9, ho9⟩ := store_st (s' := zS) ha
    have HST := Lib.hid hst
    have HG0 := Lib.hid hq9
    have HB40 : Hid (Below w1.heap.size w1 ((w1.alloc (.cells (stL zS).toArray 63)).setCells w1.heap.size 0 (stL zS))) := Lib.hid (Only.below hk (Nat.le_refl _) hk.size ho9)
    obtain ⟨V4, hV4⟩ : ∃ V', V' = (w1.alloc (.cells (stL zS).toArray 63)).setCells w1.heap.size 0 (stL zS) := ⟨_, rfl⟩
    rw [← hV4] at HST HG0 HB40
    clear ha hk hst hq9 ho9 hV4
    go_upto_region 8 with (first
     | rw [zero_st]
     | ((with_reducible refine wpList_build_is (op := ⟨some 31, _, _, _, _, _⟩) rfl 63 rfl _ built_zero ?_))
     | ((with_reducible refine wpList_store_is (op := ⟨none, .store 63 _ _, _, _, _, _⟩) rfl 63 _ _ rfl _ _ ?_ ?_ _ HST.out ?_); (· rfl); (· rfl)))
    (try simp only [Act.put])
    obtain ⟨gs, hgs⟩ : ∃ g, g = w1.heap.size := ⟨_, rfl⟩
    have HGS1 : Hid (w1.heap.size ≤ gs) := Lib.hid (by omega)
    rw [← hgs] at HG0 ⊢
    obtain ⟨lo, hlo⟩ : ∃ g, g = V4.heap.size := ⟨_, rfl⟩
    have HGLO : Hid (gs < lo) := Lib.hid (by rw [hlo]; exact blk_lt HG0.out)
    have HLO4 : Hid (lo ≤ V4.heap.size) := Lib.hid (by omega)
    obtain ⟨inf, hi, hz0, hz1, hz2⟩ := info_parts info_outS
    have HI9 := Lib.hid (And.intro hi (And.intro hz0 (And.intro hz1 hz2)))
    clear hgs HST hlo hi hz0 hz1 hz2 d dd
    go_upto_region 9 with fail
    go_loopg [7, 9] n (fun g ov v wr => ∃ (i : Nat) (S : St) (Y : List Op), i + g = n ∧ v = .int .i64 (i : Int) ∧ Y.length = i ∧ wr.ownsRow lo 34 2 ov i (Y.flatMap opC) ∧ (∀ (j : Nat) (x : Ip) (y : Op), X[j]? = some x → Y[j]? = some y → cycP L x y = 0) ∧ (∀ y ∈ Y, y.ok) ∧ Rg (tbL L) S ∧ wr.heap[gs]? = some (.cells (stL S).toArray 63) ∧ lo ≤ wr.heap.size ∧ Below w1.heap.size w1 wr)
    case atStart => exact ⟨0, zS, [], by omega, rfl, rfl, World.ownsRow_nil _ _ _ _, fun j x y _ h => by simp at h, fun _ h => (nomatch h), rg_zero0, HG0.out, HLO4.out, HB40.out⟩
    case round =>
     obtain ⟨i, S, Y, hi, rfl, hyl, hown, hcy, hyo, hrg, hgs, hls, hbw⟩ := hrel
     obtain ⟨ov, rfl⟩ : ∃ q, q = u7 := ⟨_, rfl⟩
     have HI := Lib.hid hi
     have HYL := Lib.hid hyl
     have HOWN := Lib.hid hown
     have HCY := Lib.hid hcy
     have HYO := Lib.hid hyo
     have HRG := Lib.hid hrg
     have HGS := Lib.hid hgs
     have HLS := Lib.hid hls
     have HB := Lib.hid hbw
     clear hi hyl hown hcy hyo hrg hgs hls hbw
     by_cases hlt : i < n
     ·skip
      have d1 : (0 : Int) ≤ i := by omega
      have d2 : (i : Int) < n := by omega
      have e1 := k_succ hlt (Nat.le_trans HN50.out (by decide))
      have HLT := Lib.hid hlt
      obtain ⟨x, hxx⟩ : ∃ x, X[i]? = some x := ⟨_, List.getElem?_eq_getElem (by rw [HXN.out]; exact hlt)⟩
      have HXX0 := Lib.hid hxx
      have hok := HXO.out x (List.mem_of_getElem? hxx)
      unfold IpOk at hok
      obtain ⟨hbd, cl, hcl1, hcl2, hcl3⟩ := hok
      have HOCX := Lib.hid hbd
      have HCL := Lib.hid (And.intro hcl1 (And.intro hcl2 hcl3))
      rcases HXR.out with hnil | ⟨rb, ro, hra, hc⟩
      ·have := HXN.out; rw [hnil] at this; simp at this; omega
      subst hra
      have z0 := cell_later (below_on HB1.out HB.out) (hc i _ hxx 0 _ rfl)
      have z1 := cell_later (below_on HB1.out HB.out) (hc i _ hxx 1 _ rfl)
      have z2 := cell_later (below_on HB1.out HB.out) (hc i _ hxx 2 _ rfl)
      have z3 := cell_later (below_on HB1.out HB.out) (hc i _ hxx 3 _ rfl)
      rw [Nat.add_zero] at z0
      have HZX := Lib.hid (And.intro z0 (And.intro z1 (And.intro z2 z3)))
      have HD := Lib.hid (And.intro d1 d2)
      clear hlt hxx hbd hcl1 hcl2 hcl3 hc z0 z1 z2
      by_cases h100 : 100 < x.len
      ·have d : (100 : Int) < (x.len : Int) := by omega
       clear h100
       go_wp2_with fail
       refine (works_is _).mono ?_
       rintro e wz ⟨rfl, hb⟩
       have HBE := Lib.hid (below_on HB1.out (below_on HB.out hb))
       clear hb
       go_wp2_with fail
       go_ret
       exact ⟨rfl, HBE.out⟩
      ·have d : ¬ (100 : Int) < (x.len : Int) := by omega
       have H100 := Lib.hid h100
       clear h100
       obtain ⟨NS, hNS⟩ : ∃ t, nextS (tbL L) S x.o cl = t := ⟨_, rfl⟩
       obtain ⟨OP, hOP⟩ : ∃ t, outS (tbL L) NS x.o x.n x.r = t := ⟨_, rfl⟩
       obtain ⟨PT, hPT⟩ : ∃ t, NS.pt = t := ⟨_, rfl⟩
       have HRN : Hid (Rg (tbL L) NS) := Lib.hid (by have h := rg_next HTR.out HRG.out x.o cl; rw [hNS] at h; exact h)
       have HC0 : Hid (cycP L x ⟨OP, PT⟩ = 0) := Lib.hid (hPT ▸ cycp_safe HCK.out HRN.out hOP)
       have HOPL : Hid (OP < 18446744073709551616 ∧ PT < 4294967296) := Lib.hid ⟨hOP ▸ outs_lt HTR.out.ok, hPT ▸ HRN.out.ok.pt⟩
       have KST : Hid (∀ V, Below w1.heap.size w1 V → Calls Try.prog 18 #[.pointer (some ⟨m, 0, none⟩), .agg (stL S).toArray, .agg #[.int .u64 (x.o : Int), .int .u32 (x.n : Int), .int .u32 (x.r : Int), .slice x.a x.len x.cap]] V fun e w' => e = .returned (.tuple #[.agg (stL NS).toArray, .agg #[.int .u64 (OP : Int), .int .u32 (PT : Int)]]) ∧ Below V.heap.size V w') := Lib.hid (fun V hV => by
        have h := mstepH HM.out.1 hV HCK.out HM.out.2.1 HM.out.2.2 S HRG.out.ok x.o x.n x.r HOCX.out.1 HOCX.out.2.1 HOCX.out.2.2 x.a x.len x.cap cl (HCL.out.2.2.below (below_on HB1.out hV)) HCL.out.1 HCL.out.2.1 (by have := H100.out; omega)
        rw [hNS, hOP, hPT] at h
        exact h)
       clear hNS hOP hPT
       go_upto_region 13 with fail
       clear d d1 d2 z3
       refine wp_region_rel4 (by kernel_rfl) [12, 13] 16 [0, 1, 2, 3, 4, 5, 6, 7, 8, 9, 10, 11] [47, 48, 49, 50, 51, 52, 53, 46, 54, 55, 10, 11] #[true, true, true, true, true, true, true, true, true, true, true, true, false, false] #[true, true, true, true, true, true, true, true, true, false, true, true, false, false] 2 [(fun v _ => v = .pointer (some ⟨m, 0, none⟩)), (fun v _ => v = .agg (stL S).toArray), (fun v _ => v = .slice (some ⟨rb, ro, none⟩) n rc), (fun v _ => v = .int .i64 (i : Int)), (fun v _ => v = .pointer (some ⟨rb, ro + i * 4, none⟩)), (fun v _ => v = .agg #[.int .u64 (x.o : Int), .int .u32 (x.n : Int), .int .u32 (x.r : Int), .slice x.a x.len x.cap]), (fun v _ => v = .tuple #[.agg (stL NS).toArray, .agg #[.int .u64 (OP : Int), .int .u32 (PT : Int)]]), (fun v _ => v = .tuple #[.agg (stL NS).toArray, .agg #[.int .u64 (OP : Int), .int .u32 (PT : Int)]]), (fun v _ => v = .agg (stL NS).toArray), (fun v _ => v = .agg #[.int .u64 (OP : Int), .int .u32 (PT : Int)]), (fun v V => ∃ g, v = .pointer (some ⟨g, 0, none⟩) ∧ wr.heap.size ≤ g ∧ V.heap[g]? = some (.cells (stL zS).toArray 63)), (fun v V => ∃ g, v = .pointer (some ⟨g, 0, none⟩) ∧ wr.heap.size ≤ g ∧ V.heap[g]? = some (.cells #[.int .u64 0, .int .u32 0] 34)), (fun _ _ => True), (fun _ _ => True)] 9 55 (.agg #[.int .u64 (OP : Int), .int .u32 (PT : Int)]) (ou := ⟨some 55, _, _, _, _, _⟩) rfl rfl rfl (by kernel_rfl) (by kernel_rfl) (by kernel_rfl) (by kernel_rfl) (fun _ _ _ h => h) (fun _ => rfl) ?_ (by kernel_rfl) (by kernel_rfl) (by kernel_rfl) (by kernel_rfl) (by kernel_rfl) rfl (by kernel_rfl) rfl rfl (by kernel_rfl) rfl rfl (by kernel_rfl) ?_ ?_ ?_
       ·intro a V hx
        have h7 : a.eval (.tmp 46) = .tuple #[.agg (stL NS).toArray, .agg #[.int .u64 (OP : Int), .int .u32 (PT : Int)]] := hx 7 46 rfl rfl
        have h7' : a.tmps[46]?.getD undef = .tuple #[.agg (stL NS).toArray, .agg #[.int .u64 (OP : Int), .int .u32 (PT : Int)]] := by rw [← h7]; simp [Act.eval, Array.getD_eq_getD_getElem?]
        clear hx
        exact Or.inl ⟨by rfl, fun w => by go_simp⟩
       ·exact ⟨stays_is _, stays_is _, stays_is _, stays_is _, stays_is _, stays_is _, stays_is _, stays_is _, stays_is _, stays_is _, (fun v W W2 h hb => by obtain ⟨g, h1, h2, h3⟩ := h; exact ⟨g, h1, h2, blk_keep hb h3⟩), (fun v W W2 h hb => by obtain ⟨g, h1, h2, h3⟩ := h; exact ⟨g, h1, h2, blk_keep hb h3⟩), stays_true, stays_true, trivial⟩
       ·refine ⟨?_, ?_, ?_, ?_, ?_, ?_, ?_, ?_, ?_, ?_, ?_, ?_, trivial⟩
        ·refine relOb_mk (o := ⟨some 47, _, _, _, _, _⟩) rfl (fun r V hc hf hg hs hb hd => ?_)
         have x5 : r (.tmp 5) = .pointer (some ⟨m, 0, none⟩) := hs 5 (by kernel_rfl)
         clear hs hd hg
         go_simp
         exact ⟨Below.refl _ _, rfl⟩
        ·refine relOb_mk (o := ⟨some 48, _, _, _, _, _⟩) rfl (fun r V hc hf hg hs hb hd => ?_)
         have x8 : r (.tmp 8) = .pointer (some ⟨gs, 0, none⟩) := hs 8 (by kernel_rfl)
         clear hs hd hg
         exact rel_load 63 _ rfl _ _ x8 (load_st (blk_keep hb HGS.out)) rfl
        ·refine relOb_mk (o := ⟨some 49, _, _, _, _, _⟩) rfl (fun r V hc hf hg hs hb hd => ?_)
         have x1 : r (.tmp 1) = .slice (some ⟨rb, ro, none⟩) n rc := hs 1 (by kernel_rfl)
         clear hs hd hg
         go_simp
         exact ⟨Below.refl _ _, rfl⟩
        ·refine relOb_mk (o := ⟨some 50, _, _, _, _, _⟩) rfl (fun r V hc hf hg hs hb hd => ?_)
         have x9 : r (.tmp 9) = .int .i64 (i : Int) := hs 9 (by kernel_rfl)
         clear hs hd hg
         go_simp
         exact ⟨Below.refl _ _, rfl⟩
        ·refine relOb_mk (o := ⟨some 51, _, _, _, _, _⟩) rfl (fun r V hc hf hg hs hb hd => ?_)
         have h2 : r (.tmp 49) = .slice (some ⟨rb, ro, none⟩) n rc := hd 2 49 rfl (by kernel_rfl)
         have h3 : r (.tmp 50) = .int .i64 (i : Int) := hd 3 50 rfl (by kernel_rfl)
         clear hs hd hg
         have e1 := HD.out.1
         have e2 := HD.out.2
         go_simp
         exact ⟨Below.refl _ _, rfl⟩
        ·refine relOb_mk (o := ⟨some 52, _, _, _, _, _⟩) rfl (fun r V hc hf hg hs hb hd => ?_)
         have h4 : r (.tmp 51) = .pointer (some ⟨rb, ro + i * 4, none⟩) := hd 4 51 rfl (by kernel_rfl)
         clear hs hd hg
         have z0 := cell_later hb HZX.out.1
         have z1 := cell_later hb HZX.out.2.1
         have z2 := cell_later hb HZX.out.2.2.1
         have z3 := cell_later hb HZX.out.2.2.2
         go_simp
         exact ⟨Below.refl _ _, rfl⟩
        ·refine relOb_mk (o := ⟨some 53, _, _, _, _, _⟩) rfl (fun r V hc hf hg hs hb hd => ?_)
         have h0 : r (.tmp 47) = .pointer (some ⟨m, 0, none⟩) := hd 0 47 rfl (by kernel_rfl)
         have h1 : r (.tmp 48) = .agg (stL S).toArray := hd 1 48 rfl (by kernel_rfl)
         have h5 : r (.tmp 52) = .agg #[.int .u64 (x.o : Int), .int .u32 (x.n : Int), .int .u32 (x.r : Int), .slice x.a x.len x.cap] := hd 5 52 rfl (by kernel_rfl)
         clear hs hd hg
         go_simp
         refine (KST.out V (below_on HB.out hb)).mono ?_
         rintro e w' ⟨rfl, h3⟩
         exact ⟨_, rfl, h3, rfl⟩
        ·refine relOb_mk (o := ⟨some 46, _, _, _, _, _⟩) rfl (fun r V hc hf hg hs hb hd => ?_)
         have h6 : r (.tmp 53) = .tuple #[.agg (stL NS).toArray, .agg #[.int .u64 (OP : Int), .int .u32 (PT : Int)]] := hd 6 53 rfl (by kernel_rfl)
         clear hs hd hg
         go_simp
         exact ⟨Below.refl _ _, rfl⟩
        ·refine relOb_mk (o := ⟨some 54, _, _, _, _, _⟩) rfl (fun r V hc hf hg hs hb hd => ?_)
         have h7 : r (.tmp 46) = .tuple #[.agg (stL NS).toArray, .agg #[.int .u64 (OP : Int), .int .u32 (PT : Int)]] := hd 7 46 rfl (by kernel_rfl)
         clear hs hd hg
         go_simp
         exact ⟨Below.refl _ _, rfl⟩
        ·refine relOb_mk (o := ⟨some 55, _, _, _, _, _⟩) rfl (fun r V hc hf hg hs hb hd => ?_)
         have h7 : r (.tmp 46) = .tuple #[.agg (stL NS).toArray, .agg #[.int .u64 (OP : Int), .int .u32 (PT : Int)]] := hd 7 46 rfl (by kernel_rfl)
         clear hs hd hg
         go_simp
         exact ⟨Below.refl _ _, rfl⟩
        ·refine relOb_mk (o := ⟨some 10, _, _, _, _, _⟩) rfl (fun r V hc hf hg hs hb hd => ?_)
         clear hs hd hg
         have hs := hb.size
         go_simp
         rw [zero_st]
         exact ⟨below1 V _, ⟨_, rfl, hs, alloc1 V _ (Below.refl _ _)⟩⟩
        ·refine relOb_mk (o := ⟨some 11, _, _, _, _, _⟩) rfl (fun r V hc hf hg hs hb hd => ?_)
         clear hs hd hg
         have hs := hb.size
         go_simp
         exact ⟨below1 V _, ⟨_, rfl, hs, alloc1 V _ (Below.refl _ _)⟩⟩
       ·intro a V hb hx
        have h0 : a.eval (.tmp 47) = .pointer (some ⟨m, 0, none⟩) := hx 0 47 rfl rfl
        have h1 : a.eval (.tmp 48) = .agg (stL S).toArray := hx 1 48 rfl rfl
        have h2 : a.eval (.tmp 49) = .slice (some ⟨rb, ro, none⟩) n rc := hx 2 49 rfl rfl
        have h3 : a.eval (.tmp 50) = .int .i64 (i : Int) := hx 3 50 rfl rfl
        have h4 : a.eval (.tmp 51) = .pointer (some ⟨rb, ro + i * 4, none⟩) := hx 4 51 rfl rfl
        have h5 : a.eval (.tmp 52) = .agg #[.int .u64 (x.o : Int), .int .u32 (x.n : Int), .int .u32 (x.r : Int), .slice x.a x.len x.cap] := hx 5 52 rfl rfl
        have h6 : a.eval (.tmp 53) = .tuple #[.agg (stL NS).toArray, .agg #[.int .u64 (OP : Int), .int .u32 (PT : Int)]] := hx 6 53 rfl rfl
        have h7 : a.eval (.tmp 46) = .tuple #[.agg (stL NS).toArray, .agg #[.int .u64 (OP : Int), .int .u32 (PT : Int)]] := hx 7 46 rfl rfl
        have h8 : a.eval (.tmp 54) = .agg (stL NS).toArray := hx 8 54 rfl rfl
        have h9 : a.eval (.tmp 55) = .agg #[.int .u64 (OP : Int), .int .u32 (PT : Int)] := hx 9 55 rfl rfl
        have h10 : (fun v V => ∃ g, v = .pointer (some ⟨g, 0, none⟩) ∧ wr.heap.size ≤ g ∧ V.heap[g]? = some (.cells (stL zS).toArray 63)) (a.eval (.tmp 10)) V := hx 10 10 rfl rfl
        obtain ⟨v10, e10⟩ : ∃ v, a.eval (.tmp 10) = v := ⟨_, rfl⟩
        rw [e10] at h10
        have h11 : (fun v V => ∃ g, v = .pointer (some ⟨g, 0, none⟩) ∧ wr.heap.size ≤ g ∧ V.heap[g]? = some (.cells #[.int .u64 0, .int .u32 0] 34)) (a.eval (.tmp 11)) V := hx 11 11 rfl rfl
        obtain ⟨v11, e11⟩ : ∃ v, a.eval (.tmp 11) = v := ⟨_, rfl⟩
        rw [e11] at h11
        unfold fillAll
        simp only [List.foldl_cons, List.foldl_nil, h0, h1, h2, h3, h4, h5, h6, h7, h8, h9, e10, e11, Act.put, List.setIfInBounds_toArray, List.set_cons_zero, List.set_cons_succ]
        clear h0 h1 h2 h3 h4 h5 h6 h7 h8 h9 e10 e11 hx
        obtain ⟨g9, k9, hg9, q9⟩ := h10
        obtain ⟨gx, kx, hgx, qx⟩ := h11
        subst k9
        subst kx
        have hne : g9 ≠ gx := ne_cells q9 qx (by rw [st_size]; decide)
        obtain ⟨hst, hq9, ho9⟩ := store_st (s' := NS) q9
        have HV9 : Hid (Below wr.heap.size wr (V.setCells g9 0 (stL NS))) := Lib.hid (Only.below hb hg9 hb.size ho9)
        have HX9 := Lib.hid (Only.keep ho9 (fun e => hne e.symm) qx)
        have HT9 := Lib.hid hq9
        have HGX := Lib.hid (And.intro hg9 (And.intro hgx hne))
        refine wpAny_ready (rs := [12]) (by kernel_rfl) (by simp) (AllReady.cons (o := ⟨none, _, _, _, _, _⟩) rfl (fun K hK => ?_) AllReady.nil)
        refine wp_store_is 63 _ _ rfl _ _ rfl rfl _ hst ?_
        refine name_K ?_
        intro VA hVA
        rw [← hVA] at HV9 HX9 HT9
        refine hK _ _ ?_
        clear hK K hst hq9 ho9 hVA hne hg9 hgx q9 qx hb
        refine wpAny_ready (rs := [13]) (by kernel_rfl) (by simp) (AllReady.cons (o := ⟨none, _, _, _, _, _⟩) rfl (fun K hK => ?_) AllReady.nil)
        have c0 := blk_cell HX9.out 0 _ rfl
        have c1 := blk_cell HX9.out 1 _ rfl
        have f0 := blk_free HX9.out 0
        have f1 := blk_free HX9.out 1
        have hl := blk_lt HX9.out
        go_simp
        clear c0 c1 f0 f1 hl
        refine name_K ?_
        intro VB hVB
        have ho : Only gx VA VB := by rw [hVB]; exact ((Only.refl gx VA).setCell rfl _).setCell rfl _
        have HXB : Hid (VB.heap[gx]? = some (.cells #[.int .u64 (OP : Int), .int .u32 (PT : Int)] 34)) := Lib.hid (by rw [hVB]; exact blk_set (blk_set HX9.out 0 _) 1 _)
        have HTB := Lib.hid (Only.keep ho HGX.out.2.2 HT9.out)
        have HVB : Hid (Below wr.heap.size wr VB) := Lib.hid (Only.below HV9.out HGX.out.2.1 HV9.out.size ho)
        refine hK _ _ ?_
        clear hK K hVB ho HX9 HT9 HV9
        refine wpAny_done (by kernel_rfl) ?_ _
        have hown1 := WX.own (X := fun _ => False) (WX.of_below HVB.out) HOWN.out (fun _ _ h => h)
        have hown1 := WX.own (X := fun _ => False) (WX.of_below (below1 VB (.cells #[.int .u64 (OP : Int), .int .u32 (PT : Int)] 34))) hown1 (fun _ _ h => h)
        have hrow := alloc1 VB (.cells #[.int .u64 (OP : Int), .int .u32 (PT : Int)] 34) (Below.refl _ _)
        have hsz := alloc_sizeS VB (.cells #[.int .u64 (OP : Int), .int .u32 (PT : Int)] 34)
        obtain ⟨WB, hWB⟩ : ∃ W, W = VB.alloc (.cells #[.int .u64 (OP : Int), .int .u32 (PT : Int)] 34) := ⟨_, rfl⟩
        have HBB : Hid (Below VB.heap.size VB WB) := Lib.hid (by rw [hWB]; exact below1 _ _)
        rw [← hWB] at hown1 hrow hsz
        have HWB := Lib.hid hWB
        have HOWN1 := Lib.hid hown1
        have HSRC := Lib.hid (src_out hrow)
        have HWR : Hid (Below wr.heap.size wr WB) := Lib.hid (below_on HVB.out HBB.out)
        have HSZB : Hid (lo ≤ WB.heap.size) := Lib.hid (Nat.le_trans HLS.out HWR.out.size)
        have HGSB := Lib.hid (blk_keep HWR.out HGS.out)
        have HTB1 := Lib.hid (blk_keep HBB.out HTB.out)
        clear hown1 hrow hsz hWB KST
        have o0 := blk_cell HXB.out 0 _ rfl
        have o1 := blk_cell HXB.out 1 _ rfl
        go_upto_region 15 with (at_builtin; rw [← HWB.out]; refine wpList_append_src3 rfl _ _ 45 rfl lo 34 inf (.agg #[.int .u64 0, .int .u32 0]) 2 16 Try.underlying45 HI9.out.1 HI9.out.2.1 HI9.out.2.2.1 HI9.out.2.2.2 rfl (by decide) ov i (Y.flatMap opC) rfl HOWN1.out (some ⟨VB.heap.size, 0, none⟩) 1 1 ([(⟨OP, PT⟩ : Op)].flatMap opC) rfl rfl HSRC.out (by have := HN50.out; have := HLT.out; unfold maxLen; omega) (by have := HN50.out; have := HLT.out; omega) HSZB.out ?_; intro v9 W9 hown9 hg9 hn9; rw [← List.flatMap_append] at hown9; have HOWN9 := Lib.hid hown9; have HG9 := Lib.hid hg9; clear hown9 hg9 hn9 o0 o1)
        have HOV : Hid (∀ b, ov.ownBlock = some b → lo ≤ b ∧ b < wr.heap.size) := Lib.hid (fun b hb => HOWN.out.lt b hb)
        have HGS9 := Lib.hid (WX.keep (X := fun b => ov.ownBlock = some b) (WX.of_grown HG9.out (fun _ h => h)) (fun h => by have h1 := (HOV.out _ h).1; have h2 := HGLO.out; omega) HGSB.out)
        have HT9 := Lib.hid (WX.keep (X := fun b => ov.ownBlock = some b) (WX.of_grown HG9.out (fun _ h => h)) (fun h => by have h1 := (HOV.out _ h).2; have h2 := HGX.out.1; omega) HTB1.out)
        have HB9 : Hid (Below w1.heap.size w1 W9) := Lib.hid (Below.grown (below_on HB.out HWR.out) HG9.out (Nat.le_trans HB.out.size HWR.out.size) (fun b hb => by have h1 := (HOV.out b hb).1; have h2 := HGLO.out; have h3 := HGS1.out; omega))
        have HLD := Lib.hid (load_st HT9.out)
        obtain ⟨hst, hq9, ho9⟩ := store_st (s' := NS) HGS9.out
        have HST := Lib.hid hst
        have HQ9 := Lib.hid hq9
        have HOZ : Hid (Only gs W9 (W9.setCells gs 0 (stL NS))) := Lib.hid ho9
        have HBZ : Hid (Below w1.heap.size w1 (W9.setCells gs 0 (stL NS))) := Lib.hid (Only.below HB9.out HGS1.out HB9.out.size ho9)
        obtain ⟨VZ, hVZ⟩ : ∃ V', V' = W9.setCells gs 0 (stL NS) := ⟨_, rfl⟩
        rw [← hVZ] at HST HQ9 HBZ HOZ
        clear hst hq9 ho9 hVZ
        have HOWZ := Lib.hid (WX.own (X := fun b => b = gs) (WX.of_only HOZ.out rfl) HOWN9.out (fun b hb h => by have h1 := (HOWN9.out.lt b hb).1; have h2 := HGLO.out; omega))
        have HLSZ : Hid (lo ≤ VZ.heap.size) := Lib.hid (Nat.le_trans HSZB.out (Nat.le_trans HG9.out.size HOZ.out.size))
        go_upto_region 10 with (first
         | ((with_reducible refine wpList_load_is (op := ⟨some 60, _, _, _, _, _⟩) rfl 63 _ rfl _ _ ?_ HLD.out ?_); (· rfl))
         | ((with_reducible refine wpList_store_is (op := ⟨none, .store 63 _ _, _, _, _, _⟩) rfl 63 _ _ rfl _ _ ?_ ?_ _ HST.out ?_); (· rfl); (· rfl)))
        (try simp only [Act.put])
        go_wp2_with fail
        have HYN : Hid ((Y ++ [(⟨OP, PT⟩ : Op)]).length = i + 1) := Lib.hid (by rw [List.length_append, HYL.out]; rfl)
        have HCN : Hid (∀ (j : Nat) (x : Ip) (y : Op), X[j]? = some x → (Y ++ [(⟨OP, PT⟩ : Op)])[j]? = some y → cycP L x y = 0) := Lib.hid (fun j x' y hx hy => by
         by_cases hj : j < Y.length
         ·rw [List.getElem?_append_left hj] at hy
          exact HCY.out j x' y hx hy
         ·have hjl := (List.getElem?_eq_some_iff.1 hy).1
          rw [List.length_append] at hjl
          have hji : j = Y.length := by
           have : [(⟨OP, PT⟩ : Op)].length = 1 := rfl
           omega
          rw [hji, List.getElem?_append_right (Nat.le_refl _), Nat.sub_self] at hy
          obtain rfl : (⟨OP, PT⟩ : Op) = y := Option.some.inj hy
          rw [hji, HYL.out, HXX0.out] at hx
          obtain rfl := Option.some.inj hx
          exact HC0.out)
        have HYK : Hid (∀ y ∈ Y ++ [(⟨OP, PT⟩ : Op)], y.ok) := Lib.hid (fun y hy => by
         rcases List.mem_append.1 hy with hy | hy
         ·exact HYO.out y hy
         ·obtain rfl := List.mem_singleton.1 hy
          exact ⟨HOPL.out.1, HOPL.out.2⟩)
        go_roundg (n - (i + 1))
        case rel => exact ⟨i + 1, NS, Y ++ [⟨OP, PT⟩], k_next HI.out HLT.out, by go_num, HYN.out, HOWZ.out, HCN.out, HYK.out, HRN.out, HQ9.out, HLSZ.out, HBZ.out⟩
        case measure => exact k_less HI.out HLT.out
     ·have d2 : ¬ ((i : Int) < (n : Int)) := by omega
      have hin : i = n := by have := HI.out; omega
      clear hlt
      have HLr := Lib.hid (blk_keep HB.out HL1.out)
      obtain ⟨ya, yc, hov, hys⟩ := own_sl op_lenC HYL.out HOWN.out
      subst hov
      have KR : Hid (∀ V, Below wr.heap.size wr V → Calls Try.prog 14 #[.agg #[.slice L.se.a n1 L.se.c, .slice L.po.a n2 L.po.c, .slice L.sg.a n3 L.sg.c, .slice L.rt.a n4 L.rt.c], .slice ra n rc, .slice ya i yc] V fun e w' => e = .returned (.tuple #[.int .i64 (-1), .int .u8 0]) ∧ Below V.heap.size V w') := Lib.hid (fun V hV => KRW.out V (below_on HB1.out (below_on HB.out hV)) Y ya yc i HYL.out hin HCY.out HYO.out (hys.row.below hV))
      clear hys hin
      have l0 := blk_cell HLr.out 0 _ rfl
      have l1 := blk_cell HLr.out 1 _ rfl
      have l2 := blk_cell HLr.out 2 _ rfl
      have l3 := blk_cell HLr.out 3 _ rfl
      go_wp2_with fail
      refine (KR.out _ (Below.refl _ _)).mono ?_
      rintro e w5 ⟨rfl, hb⟩
      have HB5 := Lib.hid (below_on HB1.out (below_on HB.out hb))
      clear hb l0 l1 l2 l3
      go_wp2_with fail
      refine (works_is _).mono ?_
      rintro e w6 ⟨rfl, hb⟩
      have HBE := Lib.hid (below_on HB5.out hb)
      clear hb
      go_wp2_with fail
      go_ret
      exact ⟨rfl, HBE.out⟩
theorem walk_SafetyHolds (v0 : Array Value) (a1 : Option Addr) (len1 cap1 : Nat) (w : World) (_s0 : v0.size = Try.prog.cellsOf 27) (w0 : Rd Try.prog w 27 v0.toList) (w1 : Rd Try.prog w 44 [.slice a1 len1 cap1]) :
 Calls Try.prog 7 #[.agg v0, .slice a1 len1 cap1] w fun e w' => e = .returned (.bool true) ∧ Below w.heap.size w w' := by
 obtain ⟨L, hv, hL⟩ := lay_of w0
 obtain rfl : v0 = #[L.se.v, L.po.v, L.sg.v, L.rt.v] := by apply Array.toList_inj.1; rw [hv]
 obtain ⟨⟨xa, xc, X⟩, hx, hX, hxo⟩ := iprs_of w1
 unfold Sl.v at hx
 simp only [List.cons.injEq, Value.slice.injEq, and_true] at hx
 obtain ⟨rfl, rfl, rfl⟩ := hx
 exact safetyHolds_is L a1 X.length cap1 X w hL hX rfl hxo
end Go.Proofs.Ythnpekbmaapgnaa
