/-
 Layer 28: Reach.
-/
import Derived.Test.YtpohoannggdbjaaMoF
import Derived.Test.YtpohoannggdbjaaIxN
import Derived.Test.YtpohoannggdbjaaIyA
namespace Go.Proofs.Ytpohoannggdbjaa
open Go.RowKit
set_option maxRecDepth 100000
theorem canS_ok {s : St} (h : s.ok) (oc : Nat) {n : Nat} (hn : n ≤ 63) (x : Rw) : (canS s oc n x).ok := by
 unfold canS
 split
 ·refine ⟨h.lk, h.us, withBit_lt _ _ hn h.ca, ?_, h.pt⟩
  dsimp only
  split
  ·exact upd_le h.tm n (by omega)
  ·exact h.tm
 ·exact h
theorem comS_ok {T : Tb} (hT : TbOk T) {s : St} (h : s.ok) (oc : Nat) (c : Nat × Int) : (comS T s oc c).ok := by
 unfold comS comG
 split
 ·exact h
 ·split
  ·split
   ·exact movS_ok hT h oc (by assumption)
   ·exact h
  ·cases hx : T.rw[c.2.toNat]? with
   | none => exact h
   | some x =>
     dsimp only
     split
     ·exact setS_ok hT h oc hx
     ·split
      ·exact canS_ok h oc (row_63 hT hx) x
      ·exact h
theorem comsS_ok {T : Tb} (hT : TbOk T) (oc : Nat) : ∀ (l : List (Nat × Int)) (s : St), s.ok → (comsG canS T oc l s).ok
 | [], _, h => h
 | c :: l, s, h => comsS_ok hT oc l (comS T s oc c) (comS_ok hT h oc c)
theorem nextS_ok {T : Tb} (hT : TbOk T) {s : St} (h : s.ok) (oc : Nat) (l : List (Nat × Int)) : (nextS T s oc l).ok :=
 rous_ok hT oc _ (comsS_ok hT oc _ _ (tidy_ok _ _ h)) _
theorem zSt_ok : zSt.ok := ⟨by decide, by decide, by decide, fun _ => by show 0 ≤ 255; omega, by decide⟩
theorem addS_ok {K : List St} {s : St} (h : ∀ t ∈ K, t.ok) (hs : s.ok) : ∀ t ∈ addS K s, t.ok := by
 unfold addS
 split
 ·exact h
 ·intro t ht
  rcases List.mem_append.1 ht with ht | ht
  ·exact h t ht
  ·rw [List.mem_singleton] at ht; rw [ht]; exact hs
theorem li_po {M : Mc} {L : Lay} (h : M.tb = tbL L) : M.li.l.length = L.po.l.length := by rw [← tb_li, h, tbl_li]
/-- a row of inputs -/
def ivC (x : Iv) : List Value := [.int .u64 (x.oc : Int), .int .u32 (x.no : Int), .int .u32 (x.re : Int), .slice x.a x.len x.cap]
def IvOk (w : World) (x : Iv) : Prop := (x.oc < 18446744073709551616 ∧ x.no < 4294967296 ∧ x.re < 4294967296) ∧ x.cl.length = x.len ∧ x.len ≤ x.cap ∧ CmdsAt w x.a x.cl
theorem IvOk.below {w w' : World} {x : Iv} (h : IvOk w x) (hb : Below w.heap.size w w') : IvOk w' x := ⟨h.1, h.2.1, h.2.2.1, h.2.2.2.below hb⟩
/-- the cycle of a machine that lies below w -/
theorem stepV {w V : World} {m : Nat} {M : Mc} (hM : MachX (fun b => w.heap.size ≤ b) w m M) (hV : Below w.heap.size w V) (hT : TbOk M.tb) (hp : M.pt = pw M.li.l.length - 1) (s : St) (hs : s.ok) (x : Iv) (hx : IvOk V x) (hn : x.len ≤ 100000) :
 Calls Try.prog 11 #[.pointer (some ⟨m, 0, none⟩), .agg (stL s).toArray, .agg #[.int .u64 (x.oc : Int), .int .u32 (x.no : Int), .int .u32 (x.re : Int), .slice x.a x.len x.cap]] V fun e w' => e = .returned (.tuple #[.agg (stL (stepT M.tb x s)).toArray, .agg #[.int .u64 (outS M.tb (stepT M.tb x s) x.oc x.no x.re : Int), .int .u32 ((stepT M.tb x s).pt : Int)]]) ∧ Below V.heap.size V w' :=
 step_is (fun b => w.heap.size ≤ b) m M s ⟨x.oc, x.no, x.re, .slice x.a x.len x.cap⟩ x.a x.len x.cap x.cl V (hM.step (WX.of_below hV)) (fun _ hb => Nat.le_trans hV.size hb) hT hp hs ⟨hx.1.1, hx.1.2.1, hx.1.2.2, _, _, _, rfl⟩ rfl hx.2.2.2 hx.2.1 hx.2.2.1 hn
theorem mach_low {w0 w : World} {m : Nat} {M : Mc} (h : MachX (fun k => k < w0.heap.size) w m M) : MachX (fun b => w.heap.size ≤ b) w m M := h.weak (fun _ hb hx => absurd hb (by have hx : w.heap.size ≤ _ := hx; omega))
theorem own_base {w : World} {b b' : Nat} {e : TypeId} {sz : Nat} {v : Value} {n : Nat} {xs : List Value} (hb : b ≤ b') (h : w.ownsRow b' e sz v n xs) : w.ownsRow b e sz v n xs :=
 ⟨h.1, h.2.imp id fun ⟨g, cap, cur, h1, h2, h3⟩ => ⟨g, cap, cur, h1, Nat.le_trans hb h2, h3⟩⟩
theorem MsAt.lt {w : World} {r : Nat} {K : List St} (h : MsAt w r K) : r < w.heap.size := by
 obtain ⟨es, clock, h1, _⟩ := h
 exact blk_lt h1
theorem MsAt.only2 {w w' : World} {r g : Nat} {K : List St} (h : MsAt w r K) (ho : Only g w w') (hne : r ≠ g) : MsAt w' r K := by
 obtain ⟨es, clock, h1, h2⟩ := h
 exact ⟨es, clock, ho.keep hne h1, h2⟩
theorem ms_len {w : World} {r : Nat} {K : List St} (h : MsAt w r K) (ty : TypeId) : (Builtin.len_ #[88] ty #[.map (some r)]).run Try.prog w = .ok (.int .i64 (K.length : Int)) w := by
 obtain ⟨es, clock, h1, h2, _⟩ := h
 have hl : es.size = K.length := by
  have := congrArg List.length h2
  simpa using this
 simp [Builtin.len_, run_underlying Try.underlying88, MapKept.run_getObj_map h1, hl, goInt]
theorem wpList_len_ms {w : World} {r : Nat} {K : List St} (h : MsAt w r K) {ops : Array Oper} {rest : List Oper} {o : Oper} {a : Act} {Q : Exit → Act → World → Prop} (hg : o.guard = none) (x : Operand) (hop : o.op = .call { callee := .builtin .len, args := #[x], argTypes := #[88] }) (hx : a.eval x = .map (some r))
 (hK : wpList Try.prog ops Q rest (a.put o.dst (.int .i64 (K.length : Int))) w) : wpList Try.prog ops Q (o :: rest) a w :=
 wpList_plain hg fun K' hK' => by
  unfold Oper.wp
  simp [execOp, hop, resolve, invoke, builtin, hx, ms_len h, Result.andThen]
  exact hK' _ _ hK
theorem more_all {T : Tb} (hT : TbOk T) {x : Iv} {y : Sh} {D N : List St} (s : St) (hs : s.ok) (hok : ∀ t ∈ N, t.ok) (h : SameSt N (cycL T x y D)) (hl : N.length ≤ 2 * D.length) :
 (∀ t ∈ (if y.st || (outS T (stepT T x s) x.oc x.no x.re == y.p && (stepT T x s).pt == y.q) then addS (if y.st then addS N s else N) (stepT T x s) else (if y.st then addS N s else N)), t.ok) ∧ SameSt (if y.st || (outS T (stepT T x s) x.oc x.no x.re == y.p && (stepT T x s).pt == y.q) then addS (if y.st then addS N s else N) (stepT T x s) else (if y.st then addS N s else N)) (cycL T x y (D ++ [s])) ∧ (if y.st || (outS T (stepT T x s) x.oc x.no x.re == y.p && (stepT T x s).pt == y.q) then addS (if y.st then addS N s else N) (stepT T x s) else (if y.st then addS N s else N)).length ≤ 2 * (D.length + 1) := by
 have h1 : ∀ t ∈ (if y.st then addS N s else N), t.ok := by
  split
  ·exact addS_ok hok hs
  ·exact hok
 refine ⟨?_, cyc_more s h, more_len s hl⟩
 split
 ·exact addS_ok h1 (nextS_ok hT hs x.oc x.cl)
 ·exact h1
theorem zSt_eq : stL zSt = stL zS := rfl
theorem addS_one : addS [] zSt = [zSt] := rfl
theorem reach_zero (T : Tb) (X : List Iv) (Y : List Sh) : reachN T X Y 0 = [zSt] := rfl
attribute [local irreducible] Sl.v hasBit pw withBit woBit cyL stL stV tmL freeS ndBad maySet ptL setS mayCan canS canD nedS flipB mayMov movS comG relS rouS proS tidyS comsG rousS prosS nextG outS lnOk rightK rgtS eqS Mc.tb upd mayS checkS sideN
attribute [local irreducible] addS cycL leads shows stepT reachN
attribute [local irreducible] tbL rwL secOf cofL zS zSt
set_option maxHeartbeats 8000000 in
theorem reach_no (L : Lay) (ra : Option Addr) (n rc : Nat) (sa : Option Addr) (k sc : Nat) (w : World) (hL : LayAt w L) (c : Int) (hc : (checkS L).1 = c) (h0 : ¬ c = 0) :
 Calls Try.prog 12 #[.agg #[L.se.v, L.po.v, L.sg.v, L.rt.v], .slice ra n rc, .slice sa k sc] w fun e w' => e = .returned (.tuple #[.slice none 0 0, .int .i64 c]) ∧ Below w.heap.size w w' := by
 have KN : Hid (∀ V, Below w.heap.size w V → Calls Try.prog 10 #[.agg #[L.se.v, L.po.v, L.sg.v, L.rt.v]] V fun e w' => e = .returned (.tuple #[.pointer none, .int .i64 c]) ∧ Below V.heap.size V w') := Lib.hid (fun V hV => new_no L c V (hL.below hV) hc h0)
 have cn : (c != 0) = true := by rw [bne_iff_ne]; exact h0
 clear hc h0
 obtain ⟨n1, hn1⟩ : ∃ n, L.se.l.length = n := ⟨_, rfl⟩
 obtain ⟨n2, hn2⟩ : ∃ n, L.po.l.length = n := ⟨_, rfl⟩
 obtain ⟨n3, hn3⟩ : ∃ n, L.sg.l.length = n := ⟨_, rfl⟩
 obtain ⟨n4, hn4⟩ : ∃ n, L.rt.l.length = n := ⟨_, rfl⟩
 rw [slv hn1, slv hn2, slv hn3, slv hn4] at KN ⊢
 clear hn1 hn2 hn3 hn4 hL
 go_enter Try.func12, Try.ntmps12
 go_upto_region 1 with fail
 refine name_last (os := [.cells #[.slice L.se.a n1 L.se.c, .slice L.po.a n2 L.po.c, .slice L.sg.a n3 L.sg.c, .slice L.rt.a n4 L.rt.c] 27, .cells #[.slice sa k sc] 29]) (w0 := w) rfl ?_
 intro W hat hbw
 obtain ⟨gl, hgl⟩ : ∃ g, g = w.heap.size := ⟨_, rfl⟩
 have q0 := hat 0 _ rfl
 obtain ⟨gs, hgs⟩ : ∃ g, g = gl + 1 := ⟨_, rfl⟩
 have q1 := hat 1 _ rfl
 rw [Nat.add_zero, ← hgl] at q0
 rw [← hgl, ← hgs] at q1
 rw [← hgl, ← hgs]
 have HQl := Lib.hid q0
 have HQs := Lib.hid q1
 have HB0 := Lib.hid hbw
 clear hat hbw q0 q1 hgl hgs
 have l0 := blk_cell HQl.out 0 _ rfl
 have l1 := blk_cell HQl.out 1 _ rfl
 have l2 := blk_cell HQl.out 2 _ rfl
 have l3 := blk_cell HQl.out 3 _ rfl
 go_wp2_with fail
 refine (KN.out _ HB0.out).mono ?_
 rintro e w1 ⟨rfl, hb1⟩
 have HB1 := Lib.hid (below_on HB0.out hb1)
 clear hb1 l0 l1 l2 l3
 go_wp2_with fail
 go_ret2
 refine ⟨rfl, ?_⟩
 repeat first
  | with_reducible exact HB1.out
  | ((with_reducible refine Below.setCell ?_ ?_ _); rotate_left; (have := HB1.out.size; dsimp only; omega))
  | with_reducible refine Below.alloc ?_ ?_ _
  | (have := HB1.out.size; omega)
set_option maxHeartbeats 8000000 in
theorem reach_arg (L : Lay) (ra : Option Addr) (n rc : Nat) (sa : Option Addr) (k sc : Nat) (w : World) (hL : LayAt w L) (hc : (checkS L).1 = 0) (hnk : ¬ n = k) :
 Calls Try.prog 12 #[.agg #[L.se.v, L.po.v, L.sg.v, L.rt.v], .slice ra n rc, .slice sa k sc] w fun e w' => e = .returned (.tuple #[.slice none 0 0, .int .i64 2]) ∧ Below w.heap.size w w' := by
 have KN : Hid (∀ V, Below w.heap.size w V → Calls Try.prog 10 #[.agg #[L.se.v, L.po.v, L.sg.v, L.rt.v]] V fun e w' => ∃ m M, e = .returned (.tuple #[.pointer (some ⟨m, 0, none⟩), .int .i64 0]) ∧ MachX (fun b => b < w.heap.size) w' m M ∧ M.tb = tbL L ∧ M.pt = pw M.li.l.length - 1 ∧ Below V.heap.size V w') := Lib.hid (fun V hV => (new_is L V (hL.below hV) hc).mono (fun _ _ ⟨m, M, e1, e2, e3, e4, e5⟩ => ⟨m, M, e1, e2.weak (fun b _ hb => Nat.lt_of_lt_of_le hb hV.size), e3, by rw [e4, li_po e3], e5⟩))
 have d : ((n : Int) != (k : Int)) = true := by rw [bne_iff_ne]; omega
 clear hc hnk
 obtain ⟨n1, hn1⟩ : ∃ n, L.se.l.length = n := ⟨_, rfl⟩
 obtain ⟨n2, hn2⟩ : ∃ n, L.po.l.length = n := ⟨_, rfl⟩
 obtain ⟨n3, hn3⟩ : ∃ n, L.sg.l.length = n := ⟨_, rfl⟩
 obtain ⟨n4, hn4⟩ : ∃ n, L.rt.l.length = n := ⟨_, rfl⟩
 rw [slv hn1, slv hn2, slv hn3, slv hn4] at KN ⊢
 clear hn1 hn2 hn3 hn4 hL
 go_enter Try.func12, Try.ntmps12
 go_upto_region 1 with fail
 refine name_last (os := [.cells #[.slice L.se.a n1 L.se.c, .slice L.po.a n2 L.po.c, .slice L.sg.a n3 L.sg.c, .slice L.rt.a n4 L.rt.c] 27, .cells #[.slice sa k sc] 29]) (w0 := w) rfl ?_
 intro W hat hbw
 obtain ⟨gl, hgl⟩ : ∃ g, g = w.heap.size := ⟨_, rfl⟩
 have q0 := hat 0 _ rfl
 obtain ⟨gs, hgs⟩ : ∃ g, g = gl + 1 := ⟨_, rfl⟩
 have q1 := hat 1 _ rfl
 rw [Nat.add_zero, ← hgl] at q0
 rw [← hgl, ← hgs] at q1
 rw [← hgl, ← hgs]
 have HQl := Lib.hid q0
 have HQs := Lib.hid q1
 have HB0 := Lib.hid hbw
 clear hat hbw q0 q1 hgl hgs
 have l0 := blk_cell HQl.out 0 _ rfl
 have l1 := blk_cell HQl.out 1 _ rfl
 have l2 := blk_cell HQl.out 2 _ rfl
 have l3 := blk_cell HQl.out 3 _ rfl
 go_wp2_with fail
 refine (KN.out _ HB0.out).mono ?_
 rintro e w1 ⟨m, M, rfl, h1, h2, h3, hb1⟩
 have HB1 := Lib.hid (below_on HB0.out hb1)
 have HS1 := Lib.hid (blk_keep hb1 HQs.out)
 have s0 := blk_cell HS1.out 0 _ rfl
 have hls := blk_lt HS1.out
 clear hb1 l0 l1 l2 l3 h1 h2 h3
 go_wp2_with fail
 go_ret2
 refine ⟨rfl, ?_⟩
 repeat first
  | with_reducible exact HB1.out
  | ((with_reducible refine Below.setCell ?_ ?_ _); rotate_left; (have := HB1.out.size; dsimp only; omega))
  | with_reducible refine Below.alloc ?_ ?_ _
  | (have := HB1.out.size; omega)

set_option maxHeartbeats 32000000 in
theorem reach_is (L : Lay) (ra : Option Addr) (n rc : Nat) (sa : Option Addr) (sc : Nat) (X : List Iv) (Y : List Sh) (w : World) (hL : LayAt w L) (hX : RowAt 4 ivC w ra X) (hxn : X.length = n) (hxo : ∀ x ∈ X, IvOk w x ∧ x.len ≤ 100000) (hY : RowAt 3 shC w sa Y) (hyn : Y.length = n) (h11 : n ≤ 11) (hc : (checkS L).1 = 0) :
 Calls Try.prog 12 #[.agg #[L.se.v, L.po.v, L.sg.v, L.rt.v], .slice ra n rc, .slice sa n sc] w fun e w' => ∃ (v : Value) (ss : List St), e = .returned (.tuple #[v, .int .i64 0]) ∧ SameSt ss (reachN (tbL L) X Y n) ∧ w'.ownsRow w.heap.size 66 68 v ss.length (ss.flatMap stL) ∧ Below w.heap.size w w' := by
 have KN : Hid (∀ V, Below w.heap.size w V → Calls Try.prog 10 #[.agg #[L.se.v, L.po.v, L.sg.v, L.rt.v]] V fun e w' => ∃ m M, e = .returned (.tuple #[.pointer (some ⟨m, 0, none⟩), .int .i64 0]) ∧ MachX (fun b => b < w.heap.size) w' m M ∧ M.tb = tbL L ∧ M.pt = pw M.li.l.length - 1 ∧ Below V.heap.size V w') := Lib.hid (fun V hV => (new_is L V (hL.below hV) hc).mono (fun _ _ ⟨m, M, e1, e2, e3, e4, e5⟩ => ⟨m, M, e1, e2.weak (fun b _ hb => Nat.lt_of_lt_of_le hb hV.size), e3, by rw [e4, li_po e3], e5⟩))
 obtain ⟨T, hT⟩ : ∃ T, tbL L = T := ⟨_, rfl⟩
 have HTB : Hid (TbOk T) := Lib.hid (hT ▸ tbl_ok hc)
 rw [hT] at KN ⊢
 have HXR := Lib.hid hX
 have HXN := Lib.hid hxn
 have HXO := Lib.hid hxo
 have HYR := Lib.hid hY
 have HYN := Lib.hid hyn
 have H11 := Lib.hid h11
 have d : ((n : Int) != (n : Int)) = false := by simp
 have d4 : ¬ (400 : Int) < (n : Int) := by omega
 clear hc hX hxn hxo hY hyn h11 hT
 obtain ⟨n1, hn1⟩ : ∃ n, L.se.l.length = n := ⟨_, rfl⟩
 obtain ⟨n2, hn2⟩ : ∃ n, L.po.l.length = n := ⟨_, rfl⟩
 obtain ⟨n3, hn3⟩ : ∃ n, L.sg.l.length = n := ⟨_, rfl⟩
 obtain ⟨n4, hn4⟩ : ∃ n, L.rt.l.length = n := ⟨_, rfl⟩
 rw [slv hn1, slv hn2, slv hn3, slv hn4] at KN ⊢
 clear hn1 hn2 hn3 hn4 hL
 go_enter Try.func12, Try.ntmps12
 go_upto_region 1 with fail
 refine name_last (os := [.cells #[.slice L.se.a n1 L.se.c, .slice L.po.a n2 L.po.c, .slice L.sg.a n3 L.sg.c, .slice L.rt.a n4 L.rt.c] 27, .cells #[.slice sa n sc] 29]) (w0 := w) rfl ?_
 intro W hat hbw
 obtain ⟨gl, hgl⟩ : ∃ g, g = w.heap.size := ⟨_, rfl⟩
 have q0 := hat 0 _ rfl
 obtain ⟨gs, hgs⟩ : ∃ g, g = gl + 1 := ⟨_, rfl⟩
 have q1 := hat 1 _ rfl
 rw [Nat.add_zero, ← hgl] at q0
 rw [← hgl, ← hgs] at q1
 rw [← hgl, ← hgs]
 have HQl := Lib.hid q0
 have HQs := Lib.hid q1
 have HB0 := Lib.hid hbw
 clear hat hbw q0 q1 hgl hgs
 have l0 := blk_cell HQl.out 0 _ rfl
 have l1 := blk_cell HQl.out 1 _ rfl
 have l2 := blk_cell HQl.out 2 _ rfl
 have l3 := blk_cell HQl.out 3 _ rfl
 go_wp2_with fail
 refine (KN.out _ HB0.out).mono ?_
 rintro e w1 ⟨m, M, rfl, h1, h2, h3, hb1⟩
 have HB1 := Lib.hid (below_on HB0.out hb1)
 have HS1 := Lib.hid (blk_keep hb1 HQs.out)
 have HM := Lib.hid (And.intro (mach_low h1) (And.intro h2 h3))
 have HYR1 := Lib.hid (HYR.out.below HB1.out)
 have s0 := blk_cell HS1.out 0 _ rfl
 have hls := blk_lt HS1.out
 clear hb1 l0 l1 l2 l3 h1 h2 h3
 go_upto_region 8 with fail
 clear s0 hls d d4
 have hb2 := below1 w1 (.cells #[.pointer (some ⟨m, 0, none⟩)] 61)
 have hq2 := alloc1 w1 (.cells #[.pointer (some ⟨m, 0, none⟩)] 61) (Below.refl _ _)
 obtain ⟨W2, hW2⟩ : ∃ V, V = w1.alloc (.cells #[.pointer (some ⟨m, 0, none⟩)] 61) := ⟨_, rfl⟩
 obtain ⟨bm, hbm⟩ : ∃ g, g = w1.heap.size := ⟨_, rfl⟩
 rw [← hW2] at hb2 hq2 ⊢
 rw [← hbm] at hq2 ⊢
 have HB12 := Lib.hid hb2
 have HB2 := Lib.hid (below_on HB1.out hb2)
 have HBM := Lib.hid hq2
 clear hb2 hq2 hW2 hbm
 have hmm : ∀ (t : TypeId) (w : World), (Instr.makeMap t none).run Try.prog w = .ok (.map (some w.heap.size)) (w.alloc (.map #[] 0)) := fun t w => by simp [Instr.makeMap, Result.andThen]
 have h3a := below1 W2 (.map #[] 0)
 have hm0 : MsAt (W2.alloc (.map #[] 0)) W2.heap.size [] := ⟨#[], 0, alloc1 W2 _ (Below.refl _ _), rfl, List.Pairwise.nil, List.nodup_nil, fun e he => (nomatch he)⟩
 obtain ⟨W3, hup, hm3, ho3⟩ := run_ms_put zSt hm0
 unfold stV at hup
 rw [zSt_eq] at hup
 have HM3 : Hid (MsAt W3 W2.heap.size [zSt]) := Lib.hid (addS_one ▸ hm3)
 have HB3 : Hid (Below W2.heap.size W2 W3) := Lib.hid (Only.below h3a (Nat.le_refl _) h3a.size ho3)
 obtain ⟨r0, hr0⟩ : ∃ g, g = W2.heap.size := ⟨_, rfl⟩
 clear hm0 hm3 ho3 h3a
 go_upto_region 10 with ((with_reducible refine wpList_build_is (op := ⟨some 36, _, _, _, _, _⟩) rfl 66 rfl _ built_zero ?_))
 rw [← hr0] at HM3 ⊢
 clear hup hr0
 go_loopg [10, 40] n (fun g v10 v40 wr => ∃ (i r : Nat) (K : List St), i + g = n ∧ v10 = .map (some r) ∧ v40 = .int .i64 (i : Int) ∧ MsAt wr r K ∧ (∀ t ∈ K, t.ok) ∧ SameSt K (reachN T X Y i) ∧ K.length ≤ 2 ^ i ∧ Below W2.heap.size W2 wr)
 case atStart => exact ⟨0, r0, [zSt], by omega, rfl, rfl, HM3.out, fun t ht => by rw [List.mem_singleton] at ht; rw [ht]; exact zSt_ok, by rw [reach_zero]; exact SameSt.refl _, Nat.le_refl _, HB3.out⟩
 case round =>
  obtain ⟨i, r, K, hi, rfl, rfl, hms, hok, hsame, hlen, hbw⟩ := hrel
  have HK := Lib.hid hi
  have HMS := Lib.hid hms
  have HOK := Lib.hid hok
  have HSAME := Lib.hid hsame
  have HLEN := Lib.hid hlen
  have HB := Lib.hid hbw
  have HK5 : Hid (K.length ≤ 100000) := Lib.hid (by
   have h2 := Nat.pow_le_pow_right (n := 2) (by omega) (show i ≤ 11 by have := H11.out; omega)
   omega)
  clear hi hms hok hsame hlen hbw
  by_cases hlt : i < n
  ·skip
   obtain ⟨wo, rfl⟩ : ∃ q, q = wr := ⟨_, rfl⟩
   have d1 : (0 : Int) ≤ i := by omega
   have d2 : (i : Int) < n := by omega
   have HLT := Lib.hid hlt
   have HD := Lib.hid (And.intro d1 d2)
   obtain ⟨x, hxi⟩ : ∃ x, X[i]? = some x := ⟨_, List.getElem?_eq_getElem (by rw [HXN.out]; exact hlt)⟩
   obtain ⟨y, hyi⟩ : ∃ y, Y[i]? = some y := ⟨_, List.getElem?_eq_getElem (by rw [HYN.out]; exact hlt)⟩
   have HXI := Lib.hid hxi
   have HYI := Lib.hid hyi
   have HXO1 := Lib.hid (HXO.out x (List.mem_of_getElem? hxi))
   rcases HXR.out with hnil | ⟨rb, ro, hra, hc⟩
   ·rw [hnil] at hxi; cases hxi
   rcases HYR.out with hnil | ⟨sb, so, hsa, hcy⟩
   ·rw [hnil] at hyi; cases hyi
   have hbo := below_on HB2.out HB.out
   have z0 := cell_later hbo (hc i _ hxi 0 _ rfl)
   have z1 := cell_later hbo (hc i _ hxi 1 _ rfl)
   have z2 := cell_later hbo (hc i _ hxi 2 _ rfl)
   have z3 := cell_later hbo (hc i _ hxi 3 _ rfl)
   rw [Nat.add_zero] at z0
   have y0 := cell_later HB1.out (hcy i _ hyi 0 _ rfl)
   rw [Nat.add_zero] at y0
   obtain ⟨t, ht⟩ : ∃ t, y.st = t := ⟨_, rfl⟩
   have HYT := Lib.hid ht
   rw [ht] at y0
   have HY0 := Lib.hid y0
   have KSTP : Hid (∀ s : St, s.ok → ∀ V, Below w1.heap.size w1 V → Calls Try.prog 11 #[.pointer (some ⟨m, 0, none⟩), .agg (stL s).toArray, .agg #[.int .u64 (x.oc : Int), .int .u32 (x.no : Int), .int .u32 (x.re : Int), .slice x.a x.len x.cap]] V fun e w' => e = .returned (.tuple #[.agg (stL (stepT T x s)).toArray, .agg #[.int .u64 (outS T (stepT T x s) x.oc x.no x.re : Int), .int .u32 ((stepT T x s).pt : Int)]]) ∧ Below V.heap.size V w') := Lib.hid (fun s hs V hV => HM.out.2.1 ▸ stepV HM.out.1 hV (HM.out.2.1 ▸ HTB.out) HM.out.2.2 s hs x (HXO1.out.1.below (below_on HB1.out hV)) HXO1.out.2)
   obtain ⟨ra', hra'⟩ : ∃ q, ra = q := ⟨_, rfl⟩
   have HXX := Lib.hid hra'
   rw [hra'] at hra ⊢
   subst hra
   subst hsa
   clear hlt hxi hyi hc hcy y0 hbo ht hra'
   go_upto_region 14 with fail
   clear z0 z1 z2 z3 d1 d2
   refine name_last (os := [.cells #[.int .i64 (i : Int)] 3, .cells #[.int .u64 (x.oc : Int), .int .u32 (x.no : Int), .int .u32 (x.re : Int), .slice x.a x.len x.cap] 49, .map #[] 0, .cells #[.map (some (wo.heap.size + 1 + 1))] 88]) (w0 := wo) rfl ?_
   intro W hat hbw
   obtain ⟨gc, hgc⟩ : ∃ g, g = wo.heap.size := ⟨_, rfl⟩
   obtain ⟨gi, hgi⟩ : ∃ g, g = gc + 1 := ⟨_, rfl⟩
   obtain ⟨gr, hgr⟩ : ∃ g, g = gi + 1 := ⟨_, rfl⟩
   obtain ⟨gn, hgn⟩ : ∃ g, g = gr + 1 := ⟨_, rfl⟩
   have q0 := hat 0 _ rfl
   have q1 := hat 1 _ rfl
   have q2 := hat 2 _ rfl
   have q3 := hat 3 _ rfl
   rw [← hgc, ← hgi, ← hgr] at q3
   rw [← hgc] at q0 q1 q2
   rw [Nat.add_zero] at q0
   rw [← hgi] at q1
   rw [show gc + 2 = gr by omega] at q2
   rw [show gc + 3 = gn by omega] at q3
   rw [← hgc, ← hgi, ← hgr, ← hgn]
   have hmsW : MsAt W r K := HMS.out.below hbw
   have hmr : MsAt W gr [] := ⟨#[], 0, q2, rfl, List.Pairwise.nil, List.nodup_nil, fun e he => (nomatch he)⟩
   have hrlt : r < gc := by rw [hgc]; exact HMS.out.lt
   obtain ⟨ob, hrg, hit⟩ := run_it_range hmsW
   have hb4 := below1 W ob
   obtain ⟨it, hite⟩ : ∃ g, g = W.heap.size := ⟨_, rfl⟩
   have hit2 : gn < it := by rw [hite]; exact blk_lt q3
   obtain ⟨W4, hW4⟩ : ∃ V, V = W.alloc ob := ⟨_, rfl⟩
   rw [← hite] at hrg hit
   rw [← hW4] at hrg hit hb4
   have HMR4 := Lib.hid (hmr.below hb4)
   have hbo4 : Below wo.heap.size wo W4 := below_on hbw hb4
   have HB24 : Hid (Below W2.heap.size W2 W4) := Lib.hid (below_on HB.out hbo4)
   have HB14 : Hid (Below w1.heap.size w1 W4) := Lib.hid (below_on HB12.out HB24.out)
   have hge : W2.heap.size ≤ gc := by rw [hgc]; exact HB.out.size
   have hge1 : w1.heap.size ≤ gc := Nat.le_trans HB12.out.size hge
   have hbml := blk_lt HBM.out
   have hgsl := blk_lt HS1.out
   have HGE : Hid (w1.heap.size ≤ gr ∧ w1.heap.size ≤ it) := Lib.hid (by omega)
   have HGE2 : Hid (W2.heap.size ≤ gr ∧ W2.heap.size ≤ it) := Lib.hid (by omega)
   have H4 : Hid ((W4.heap[bm]? = some (.cells #[.pointer (some ⟨m, 0, none⟩)] 61)) ∧ (W4.heap[gi]? = some (.cells #[.int .u64 (x.oc : Int), .int .u32 (x.no : Int), .int .u32 (x.re : Int), .slice x.a x.len x.cap] 49)) ∧ (W4.heap[gs]? = some (.cells #[.slice (some ⟨sb, so, none⟩) n sc] 29)) ∧ (W4.heap[gc]? = some (.cells #[.int .i64 (i : Int)] 3)) ∧ (W4.heap[gn]? = some (.cells #[.map (some gr)] 88))) := Lib.hid ⟨blk_keep HB24.out HBM.out, blk_keep hb4 q1, blk_keep HB14.out HS1.out, blk_keep hb4 q0, blk_keep hb4 q3⟩
   have HX4 : Hid (¬ (bm = gr ∨ bm = it) ∧ ¬ (gi = gr ∨ gi = it) ∧ ¬ (gs = gr ∨ gs = it) ∧ ¬ (gc = gr ∨ gc = it) ∧ ¬ (gn = gr ∨ gn = it)) := Lib.hid (by omega)
   have HNE4 : Hid (it ≠ gr ∧ r ≠ gr ∧ gr ≠ it) := Lib.hid (by omega)
   clear hat hbw q0 q1 q2 q3 hgc hgi hgr hgn hmsW hmr hrlt hite hit2 hW4 hge hge1 hbml hgsl hb4 hbo4
   go_upto_region 15 with fail
   clear hrg
   go_loopg [] K.length (fun g wr => ∃ D L N : List St, L.length = g ∧ K.Perm (D ++ L) ∧ ItAt wr it r K L ∧ MsAt wr gr N ∧ (∀ t ∈ N, t.ok) ∧ SameSt N (cycL T x y D) ∧ N.length ≤ 2 * D.length ∧ WX (fun b => b = gr ∨ b = it) W4 wr)
   case atStart => exact ⟨[], K, [], rfl, List.Perm.refl _, hit, HMR4.out, fun _ h => (nomatch h), by rw [cyc_nil]; exact SameSt.refl _, Nat.le_refl _, WX.refl _ _⟩
   case round =>
    obtain ⟨D, L, N, hlg, hP, hI, hm, hnok, hns, hnl, hw⟩ := hrel
    have HLG := Lib.hid hlg
    have HNOK := Lib.hid hnok
    have HNS := Lib.hid hns
    have HNL := Lib.hid hnl
    have hne := HNE4.out
    clear hlg hnok hns hnl
    rcases run_it_next 0 hI with ⟨hL, hrun⟩ | ⟨s, L', w2, hPL, hrun, hI2, hO, hsz, hen⟩
    ·skip
     subst hL
     have HDL : Hid (D.length = K.length) := Lib.hid (by have := hP.length_eq; rw [List.append_nil] at this; exact this.symm)
     have HSN : Hid (SameSt N (reachN T X Y (i + 1))) := Lib.hid (by
      rw [reach_succ HXI.out HYI.out]
      rw [List.append_nil] at hP
      exact HNS.out.trans (cyc_same HTB.out.rn x y ((perm_same hP.symm).trans HSAME.out)))
     have HLN : Hid (N.length ≤ 2 ^ (i + 1)) := Lib.hid (by have h1 := HNL.out; have h2 := HLEN.out; rw [HDL.out] at h1; rw [Nat.pow_succ]; omega)
     have d3 : ¬ (4096 : Int) < (N.length : Int) := by
      have h1 := HLN.out
      have h2 := Nat.pow_le_pow_right (n := 2) (by omega) (show i + 1 ≤ 11 by have := HLT.out; have := H11.out; omega)
      omega
     have n0 := blk_cell (hw.keep HX4.out.2.2.2.2 H4.out.2.2.2.2) 0 _ rfl
     have HMR := Lib.hid hm
     have HWR := Lib.hid hw
     have e1 := k_succ HLT.out (Nat.le_trans H11.out (by decide))
     clear hP hI hm hw hne
     go_upto_region 21 with (at_len; refine wpList_len_ms HMR.out rfl _ rfl rfl ?_)
     go_wp2_with fail
     rw [← HXX.out]
     go_roundg (n - (i + 1))
     case rel => exact ⟨i + 1, gr, N, k_next HK.out HLT.out, rfl, by go_num, HMR.out, HNOK.out, HSN.out, HLN.out, WX.below HB24.out HWR.out (fun b hb => by have := HGE2.out; rcases hb with rfl | rfl <;> omega)⟩
     case measure => exact k_less HK.out HLT.out
    ·clear hsz
     unfold stV at hrun hen
     have HSK : Hid s.ok := Lib.hid (HOK.out s (hP.mem_iff.2 (List.mem_append_right D (hPL.mem_iff.2 List.mem_cons_self))))
     obtain ⟨hst, hq, hbb⟩ := box_st w2 s
     have HP2 : Hid (K.Perm ((D ++ [s]) ++ L')) := Lib.hid (by
      rw [List.append_assoc]
      exact hP.trans (hPL.append_left D))
     have HLT2 : Hid (L'.length < L.length) := Lib.hid (by rw [hPL.length_eq]; exact Nat.lt_succ_self _)
     have HNE0 := Lib.hid hne
     have HMS5 := Lib.hid ((hm.only2 hO hne.2.2).below hbb)
     have HI5 := Lib.hid (hI2.keep (hbb.block it (hI2.lt).1) (hbb.block r (hI2.lt).2.1))
     have HW5 := Lib.hid (hw.trans ((WX.of_only (X := fun b => b = gr ∨ b = it) hO (Or.inr rfl)).trans (WX.of_below hbb)))
     obtain ⟨w5, hw5⟩ : ∃ V, V = (w2.alloc (.cells (stL zS).toArray 66)).setCells w2.heap.size 0 (stL s) := ⟨_, rfl⟩
     rw [← hw5] at hst hq HMS5 HI5 HW5
     obtain ⟨gS, hgS⟩ : ∃ g, g = w2.heap.size := ⟨_, rfl⟩
     rw [← hgS] at hq
     have HST := Lib.hid hst
     have HQS5 := Lib.hid hq
     have HGS : Hid (¬ gS = gr) := Lib.hid (by
      have := hm.lt
      have h2 := hO.size
      omega)
     clear hst hq hbb hw5 hP hPL hI hI2 hO hne
     go_upto_region 17 with (first
      | rw [zero_st]
      | ((with_reducible refine wpList_store_is (op := ⟨none, .store 66 _ _, _, _, _, _⟩) rfl 66 _ _ rfl _ _ ?_ ?_ _ HST.out ?_); (· rfl); (· rfl)))
     (try simp only [Act.put])
     rw [← hgS]
     clear hrun hen HST hgS
     have HH5 : Hid ((w5.heap[gs]? = some (.cells #[.slice (some ⟨sb, so, none⟩) n sc] 29)) ∧ (w5.heap[gc]? = some (.cells #[.int .i64 (i : Int)] 3)) ∧ (w5.heap[gn]? = some (.cells #[.map (some gr)] 88))) := Lib.hid ⟨HW5.out.keep HX4.out.2.2.1 H4.out.2.2.1, HW5.out.keep HX4.out.2.2.2.1 H4.out.2.2.2.1, HW5.out.keep HX4.out.2.2.2.2 H4.out.2.2.2.2⟩
     have s0 := blk_cell HH5.out.1 0 _ rfl
     have c0 := blk_cell HH5.out.2.1 0 _ rfl
     have y0 := cell_later (WX.below HB14.out HW5.out (fun b hb => by have := HGE.out; rcases hb with rfl | rfl <;> omega)) HY0.out
     have d1 := HD.out.1
     have d2 := HD.out.2
     cases t with
     | true =>
       go_upto_region 18 with fail
       clear s0 c0 y0 d1 d2
       obtain ⟨w6, hup, hms6, ho6⟩ := run_ms_put s HMS5.out
       unfold stV at hup
       obtain ⟨N1, hN1⟩ : ∃ N1, addS N s = N1 := ⟨_, rfl⟩
       have HM6 : Hid (MsAt w6 gr N1) := Lib.hid (hN1 ▸ hms6)
       have MORE : Hid ((∀ t ∈ (if y.st || (outS T (stepT T x s) x.oc x.no x.re == y.p && (stepT T x s).pt == y.q) then addS N1 (stepT T x s) else N1), t.ok) ∧ SameSt (if y.st || (outS T (stepT T x s) x.oc x.no x.re == y.p && (stepT T x s).pt == y.q) then addS N1 (stepT T x s) else N1) (cycL T x y (D ++ [s])) ∧ (if y.st || (outS T (stepT T x s) x.oc x.no x.re == y.p && (stepT T x s).pt == y.q) then addS N1 (stepT T x s) else N1).length ≤ 2 * (D.length + 1)) := Lib.hid (by
        have h := more_all (T := T) HTB.out (y := y) s HSK.out HNOK.out HNS.out HNL.out
        rw [HYT.out, if_pos rfl, hN1] at h
        rw [HYT.out]
        exact h)
       have HW6 := Lib.hid (HW5.out.trans (WX.of_only (X := fun b => b = gr ∨ b = it) ho6 (Or.inl rfl)))
       have HI6 := Lib.hid (HI5.out.keep (ho6.block it (HI5.out.lt).1 HNE0.out.1) (ho6.block r (HI5.out.lt).2.1 HNE0.out.2.1))
       have HNE : Hid (it ≠ gr ∧ r ≠ gr) := Lib.hid ⟨HNE0.out.1, HNE0.out.2.1⟩
       have HQS6 := Lib.hid (ho6.keep HGS.out HQS5.out)
       have n0 := blk_cell HH5.out.2.2 0 _ rfl
       have HLD1 := Lib.hid (load_st HQS5.out)
       clear hms6 ho6 hN1
       have H6 : Hid ((w6.heap[bm]? = some (.cells #[.pointer (some ⟨m, 0, none⟩)] 61)) ∧ (w6.heap[gi]? = some (.cells #[.int .u64 (x.oc : Int), .int .u32 (x.no : Int), .int .u32 (x.re : Int), .slice x.a x.len x.cap] 49)) ∧ (w6.heap[gs]? = some (.cells #[.slice (some ⟨sb, so, none⟩) n sc] 29)) ∧ (w6.heap[gc]? = some (.cells #[.int .i64 (i : Int)] 3)) ∧ (w6.heap[gn]? = some (.cells #[.map (some gr)] 88))) := Lib.hid (by
        have k := fun (g : Nat) (ob : Obj) (hg : W4.heap[g]? = some ob) (hx : ¬ (g = gr ∨ g = it)) => HW6.out.keep hx hg
        exact ⟨k _ _ H4.out.1 HX4.out.1, k _ _ H4.out.2.1 HX4.out.2.1, k _ _ H4.out.2.2.1 HX4.out.2.2.1, k _ _ H4.out.2.2.2.1 HX4.out.2.2.2.1, k _ _ H4.out.2.2.2.2 HX4.out.2.2.2.2⟩)
       have HB6 : Hid (Below w1.heap.size w1 w6) := Lib.hid (WX.below HB14.out HW6.out (fun b hb => by have := HGE.out; rcases hb with rfl | rfl <;> omega))
       have HYR6 := Lib.hid (HYR1.out.below HB6.out)
       have HST6 : Hid (∀ V, Below w6.heap.size w6 V → Calls Try.prog 11 #[.pointer (some ⟨m, 0, none⟩), .agg (stL s).toArray, .agg #[.int .u64 (x.oc : Int), .int .u32 (x.no : Int), .int .u32 (x.re : Int), .slice x.a x.len x.cap]] V fun e w' => e = .returned (.tuple #[.agg (stL (stepT T x s)).toArray, .agg #[.int .u64 (outS T (stepT T x s) x.oc x.no x.re : Int), .int .u32 ((stepT T x s).pt : Int)]]) ∧ Below V.heap.size V w') := Lib.hid (fun V hV => KSTP.out s HSK.out V (below_on HB6.out hV))
       have HLD2 := Lib.hid (load_st HQS6.out)
       go_upto_region 19 with ((with_reducible refine wpList_load_is (op := ⟨some 59, _, _, _, _, _⟩) rfl 66 _ rfl _ _ ?_ HLD1.out ?_); (· rfl))
       clear n0 hup HLD1
       go_wp2_with ((with_reducible refine wpList_load_is (op := ⟨some 61, _, _, _, _, _⟩) rfl 66 _ rfl _ _ ?_ HLD2.out ?_); (· rfl))
       refine (after_is bm gi gs gc gn gr m x s (stepT T x s) (outS T (stepT T x s) x.oc x.no x.re) (stepT T x s).pt (some ⟨sb, so, none⟩) n sc i Y y N1 w6 H6.out.1 H6.out.2.1 H6.out.2.2.1 H6.out.2.2.2.1 H6.out.2.2.2.2 HM6.out HYR6.out HYN.out HYI.out HST6.out).mono ?_
       rintro e w7 ⟨⟨ve, rfl⟩, hms7, ho7⟩
       have HN2 : Hid (∃ N2, MsAt w7 gr N2 ∧ (∀ t ∈ N2, t.ok) ∧ SameSt N2 (cycL T x y (D ++ [s])) ∧ N2.length ≤ 2 * (D.length + 1)) := Lib.hid ⟨_, hms7, MORE.out.1, MORE.out.2.1, MORE.out.2.2⟩
       have HI7 := Lib.hid (HI6.out.keep (ho7.block it (HI6.out.lt).1 HNE.out.1) (ho7.block r (HI6.out.lt).2.1 HNE.out.2))
       have HW7 := Lib.hid (HW6.out.trans (WX.of_only (X := fun b => b = gr ∨ b = it) ho7 (Or.inl rfl)))
       clear hms7 ho7 H6 HM6 HYR6 HST6 HI6 HW6 HQS6 MORE
       go_wp2_with fail
       go_roundg L'.length
       case rel =>
        obtain ⟨N2, a1, a2, a3, a4⟩ := HN2.out
        exact ⟨D ++ [s], L', N2, rfl, HP2.out, HI7.out, a1, a2, a3, by rw [List.length_append]; exact a4, HW7.out⟩
       case measure => rw [← HLG.out]; exact HLT2.out
     | false =>
       obtain ⟨N1, hN1⟩ : ∃ N1, N = N1 := ⟨_, rfl⟩
       obtain ⟨w6, hw6⟩ : ∃ V, V = w5 := ⟨_, rfl⟩
       have HM6 : Hid (MsAt w6 gr N1) := Lib.hid (hN1 ▸ hw6 ▸ HMS5.out)
       have MORE : Hid ((∀ t ∈ (if y.st || (outS T (stepT T x s) x.oc x.no x.re == y.p && (stepT T x s).pt == y.q) then addS N1 (stepT T x s) else N1), t.ok) ∧ SameSt (if y.st || (outS T (stepT T x s) x.oc x.no x.re == y.p && (stepT T x s).pt == y.q) then addS N1 (stepT T x s) else N1) (cycL T x y (D ++ [s])) ∧ (if y.st || (outS T (stepT T x s) x.oc x.no x.re == y.p && (stepT T x s).pt == y.q) then addS N1 (stepT T x s) else N1).length ≤ 2 * (D.length + 1)) := Lib.hid (by
        have h := more_all (T := T) HTB.out (y := y) s HSK.out HNOK.out HNS.out HNL.out
        rw [HYT.out, if_neg Bool.false_ne_true, hN1] at h
        rw [HYT.out]
        exact h)
       have HW6 := Lib.hid (hw6 ▸ HW5.out)
       have HI6 := Lib.hid (hw6 ▸ HI5.out)
       have HNE : Hid (it ≠ gr ∧ r ≠ gr) := Lib.hid ⟨HNE0.out.1, HNE0.out.2.1⟩
       have HQS6 := Lib.hid (hw6 ▸ HQS5.out)
       have H6 : Hid ((w6.heap[bm]? = some (.cells #[.pointer (some ⟨m, 0, none⟩)] 61)) ∧ (w6.heap[gi]? = some (.cells #[.int .u64 (x.oc : Int), .int .u32 (x.no : Int), .int .u32 (x.re : Int), .slice x.a x.len x.cap] 49)) ∧ (w6.heap[gs]? = some (.cells #[.slice (some ⟨sb, so, none⟩) n sc] 29)) ∧ (w6.heap[gc]? = some (.cells #[.int .i64 (i : Int)] 3)) ∧ (w6.heap[gn]? = some (.cells #[.map (some gr)] 88))) := Lib.hid (by
        have k := fun (g : Nat) (ob : Obj) (hg : W4.heap[g]? = some ob) (hx : ¬ (g = gr ∨ g = it)) => HW6.out.keep hx hg
        exact ⟨k _ _ H4.out.1 HX4.out.1, k _ _ H4.out.2.1 HX4.out.2.1, k _ _ H4.out.2.2.1 HX4.out.2.2.1, k _ _ H4.out.2.2.2.1 HX4.out.2.2.2.1, k _ _ H4.out.2.2.2.2 HX4.out.2.2.2.2⟩)
       have HB6 : Hid (Below w1.heap.size w1 w6) := Lib.hid (WX.below HB14.out HW6.out (fun b hb => by have := HGE.out; rcases hb with rfl | rfl <;> omega))
       have HYR6 := Lib.hid (HYR1.out.below HB6.out)
       have HST6 : Hid (∀ V, Below w6.heap.size w6 V → Calls Try.prog 11 #[.pointer (some ⟨m, 0, none⟩), .agg (stL s).toArray, .agg #[.int .u64 (x.oc : Int), .int .u32 (x.no : Int), .int .u32 (x.re : Int), .slice x.a x.len x.cap]] V fun e w' => e = .returned (.tuple #[.agg (stL (stepT T x s)).toArray, .agg #[.int .u64 (outS T (stepT T x s) x.oc x.no x.re : Int), .int .u32 ((stepT T x s).pt : Int)]]) ∧ Below V.heap.size V w') := Lib.hid (fun V hV => KSTP.out s HSK.out V (below_on HB6.out hV))
       have HLD2 := Lib.hid (load_st HQS6.out)
       rw [← hw6] at s0 c0 y0 ⊢
       clear hw6 hN1 HH5 HQS5 HW5 HI5 HMS5
       go_wp2_with ((with_reducible refine wpList_load_is (op := ⟨some 61, _, _, _, _, _⟩) rfl 66 _ rfl _ _ ?_ HLD2.out ?_); (· rfl))
       refine (after_is bm gi gs gc gn gr m x s (stepT T x s) (outS T (stepT T x s) x.oc x.no x.re) (stepT T x s).pt (some ⟨sb, so, none⟩) n sc i Y y N1 w6 H6.out.1 H6.out.2.1 H6.out.2.2.1 H6.out.2.2.2.1 H6.out.2.2.2.2 HM6.out HYR6.out HYN.out HYI.out HST6.out).mono ?_
       rintro e w7 ⟨⟨ve, rfl⟩, hms7, ho7⟩
       have HN2 : Hid (∃ N2, MsAt w7 gr N2 ∧ (∀ t ∈ N2, t.ok) ∧ SameSt N2 (cycL T x y (D ++ [s])) ∧ N2.length ≤ 2 * (D.length + 1)) := Lib.hid ⟨_, hms7, MORE.out.1, MORE.out.2.1, MORE.out.2.2⟩
       have HI7 := Lib.hid (HI6.out.keep (ho7.block it (HI6.out.lt).1 HNE.out.1) (ho7.block r (HI6.out.lt).2.1 HNE.out.2))
       have HW7 := Lib.hid (HW6.out.trans (WX.of_only (X := fun b => b = gr ∨ b = it) ho7 (Or.inl rfl)))
       clear hms7 ho7 H6 HM6 HYR6 HST6 HI6 HW6 HQS6 MORE
       go_wp2_with fail
       go_roundg L'.length
       case rel =>
        obtain ⟨N2, a1, a2, a3, a4⟩ := HN2.out
        exact ⟨D ++ [s], L', N2, rfl, HP2.out, HI7.out, a1, a2, a3, by rw [List.length_append]; exact a4, HW7.out⟩
       case measure => rw [← HLG.out]; exact HLT2.out
  ·skip
   have d2 : ¬ ((i : Int) < (n : Int)) := by omega
   obtain rfl : i = n := by have := HK.out; omega
   clear hlt
   go_wp2_with fail
   refine (keys_any r _).mono ?_
   rintro e w8 ⟨rfl, rfl⟩
   go_wp2_with fail
   refine (collect_any _ r K _ HK5.out (alloc1 _ _ (Below.refl _ _)) (HMS.out.below (below1 _ _))).mono ?_
   rintro e w9 ⟨v, ss, rfl, hss, hrow, hb9⟩
   have HF : Hid (SameSt ss (reachN T X Y i) ∧ w9.ownsRow w.heap.size 66 68 v ss.length (ss.flatMap stL) ∧ Below w.heap.size w w9) := Lib.hid ⟨(perm_same hss).trans HSAME.out, own_base (below_on HB2.out (below_on HB.out (below1 _ _))).size hrow, below_on HB2.out (below_on HB.out (below_on (below1 _ _) hb9))⟩
   clear hss hrow hb9
   go_wp2_with fail
   go_ret2
   exact ⟨v, ss, rfl, HF.out.1, HF.out.2.1, HF.out.2.2⟩
end Go.Proofs.Ytpohoannggdbjaa
