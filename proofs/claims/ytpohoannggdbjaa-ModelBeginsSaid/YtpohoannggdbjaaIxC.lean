/-
 Layer 10: a machine, a cycle; what they do, plainly.
-/
import Derived.Test.YtpohoannggdbjaaIxB
import Derived.Test.YtpohoannggdbjaaIxA
import Derived.Test.YtpohoannggdbjaaCoO
import Derived.Test.YtpohoannggdbjaaME
namespace Go.Proofs.Ytpohoannggdbjaa
open Go.RowKit
set_option maxRecDepth 100000
/-- a line of the table -/
structure Rw where
 fi : Int
 ah : Int
 tr : List Int
 nd : List (Int × Bool)
 cf : List Int
/-- a table: lines, and where points lie -/
structure Tb where
 rw : List Rw
 li : List Int
structure RwOk (N P : Nat) (x : Rw) : Prop where
 fi : 0 ≤ x.fi ∧ x.fi ≤ 63
 ah : 0 ≤ x.ah ∧ x.ah ≤ 63
 tr : ∀ s ∈ x.tr, 0 ≤ s ∧ s ≤ 63
 nd : ∀ n ∈ x.nd, 0 ≤ n.1 ∧ n.1 < (P : Int)
 cf : ∀ k ∈ x.cf, 0 ≤ k ∧ k < (N : Int)
structure TbOk (T : Tb) : Prop where
 rn : T.rw.length ≤ 64
 pn : T.li.length ≤ 32
 rw : ∀ x ∈ T.rw, RwOk T.rw.length T.li.length x
 li : ∀ s ∈ T.li, 0 ≤ s ∧ s ≤ 63
structure St.ok (s : St) : Prop where
 lk : s.lk < 18446744073709551616
 us : s.us < 18446744073709551616
 ca : s.ca < 18446744073709551616
 tm : ∀ n, s.tm n ≤ 255
 pt : s.pt < 4294967296
def upd (f : Nat → Nat) (n v : Nat) : Nat → Nat := fun k => if k = n then v else f k
theorem upd_at (f : Nat → Nat) (n v : Nat) : upd f n v n = v := if_pos rfl
theorem upd_ne (f : Nat → Nat) {n k : Nat} (v : Nat) (h : k ≠ n) : upd f n v k = f k := if_neg h
/-- inputs as sets; their commands' row -/
structure Inp where
 oc : Nat
 no : Nat
 re : Nat
 cm : Value
structure Inp.ok (i : Inp) : Prop where
 oc : i.oc < 18446744073709551616
 no : i.no < 4294967296
 re : i.re < 4294967296
 cm : ∃ a n c, i.cm = .slice a n c
def inL (i : Inp) : List Value := [.int .u64 (i.oc : Int), .int .u32 (i.no : Int), .int .u32 (i.re : Int), i.cm]
/-- is a line's track clear? -/
def freeS (oc : Nat) (x : Rw) : Bool := !x.tr.any (fun k => hasBit oc k.toNat)
/-- does a need ask for points that cannot move? -/
def ndBad (T : Tb) (s : St) (oc : Nat) (n : Int × Bool) : Bool := (hasBit s.pt n.1.toNat != n.2) && hasBit oc (T.li.getD n.1.toNat 0).toNat
def maySet (T : Tb) (s : St) (oc n : Nat) (x : Rw) : Bool := !hasBit s.lk n && (freeS oc x && (!x.cf.any (fun k => hasBit s.lk k.toNat) && !x.nd.any (ndBad T s oc)))
def ptL (l : List (Int × Bool)) (p : Nat) : Nat := l.foldl (fun p n => if n.2 then withBit p n.1.toNat else woBit p n.1.toNat) p
def setS (T : Tb) (s : St) (oc n : Nat) (x : Rw) : St := if maySet T s oc n x then { s with lk := withBit s.lk n, pt := ptL x.nd s.pt } else s
def mayCan (s : St) (n : Nat) : Bool := hasBit s.lk n && (!hasBit s.us n && !hasBit s.ca n)
def canS (s : St) (oc n : Nat) (x : Rw) : St := if mayCan s n then { s with ca := withBit s.ca n, tm := if hasBit oc x.ah.toNat then upd s.tm n 20 else s.tm } else s
/-- as the document says it -/
def canD (s : St) (oc n : Nat) (x : Rw) : St := if mayCan s n then { s with ca := withBit s.ca n, tm := if hasBit oc x.ah.toNat then upd s.tm n 20 else upd s.tm n 0 } else s
/-- does a locked line of the first k need points? -/
def nedS (T : Tb) (s : St) (p : Nat) : Nat → Bool
 | 0 => false
 | k + 1 => nedS T s p k || (hasBit s.lk k && ((T.rw[k]?).map (fun x => x.nd.any (fun n => n.1 == (p : Int)))).getD false)
def flipB (x n : Nat) : Nat := x ^^^ pw n
def mayMov (T : Tb) (s : St) (oc p : Nat) : Bool := !hasBit oc (T.li.getD p 0).toNat && !nedS T s p T.rw.length
def movS (T : Tb) (s : St) (oc p : Nat) : St := if mayMov T s oc p then { s with pt := flipB s.pt p } else s
/-- a command, by its kind and number -/
def comG (can : St → Nat → Nat → Rw → St) (T : Tb) (s : St) (oc : Nat) (c : Nat × Int) : St :=
 if c.2 < 0 then s
 else if c.1 = 3 then (if c.2.toNat < T.li.length then movS T s oc c.2.toNat else s)
 else match T.rw[c.2.toNat]? with
  | none => s
  | some x => if c.1 = 1 then setS T s oc c.2.toNat x else if c.1 = 2 then can s oc c.2.toNat x else s
def comS := comG canS
def comD := comG canD
def relS (s : St) (n : Nat) : St := { lk := woBit s.lk n, us := woBit s.us n, ca := woBit s.ca n, tm := upd s.tm n 0, pt := s.pt }
/-- what becomes of a locked line -/
def rouS (s : St) (oc used n : Nat) (x : Rw) : St :=
 if hasBit used n then (if freeS oc x then relS s n else s)
 else if hasBit oc x.fi.toNat then { s with us := withBit s.us n }
 else if hasBit s.ca n then (if 0 < s.tm n then { s with tm := upd s.tm n (s.tm n - 1) } else if freeS oc x then relS s n else s)
 else s
def proS (s : St) (oc a b n : Nat) (x : Rw) : Bool := mayCan s n && (freeS oc x && x.nd.all (fun m => hasBit (if m.2 then b else a) m.1.toNat))
/-- tidied, as to the first k lines -/
def tidyS (k P : Nat) (s : St) : St where
 lk := s.lk &&& (pw k - 1)
 us := s.us &&& (s.lk &&& (pw k - 1))
 ca := s.ca &&& (s.lk &&& (pw k - 1))
 tm := fun n => if hasBit (s.ca &&& (s.lk &&& (pw k - 1))) n then min (s.tm n) 20 else 0
 pt := s.pt &&& (pw P - 1)
/-- commands, one behind the other -/
def comsG (can : St → Nat → Nat → Rw → St) (T : Tb) (oc : Nat) (l : List (Nat × Int)) (s : St) : St := l.foldl (fun s c => comG can T s oc c) s
/-- what becomes of the first k lines -/
def rousS (T : Tb) (oc used : Nat) (s : St) : Nat → St
 | 0 => s
 | k + 1 => if hasBit (rousS T oc used s k).lk k then ((T.rw[k]?).map (rouS (rousS T oc used s k) oc used k)).getD (rousS T oc used s k) else rousS T oc used s k
/-- which of the first k lines are shown proceed -/
def prosS (T : Tb) (s : St) (oc a b : Nat) : Nat → Nat
 | 0 => 0
 | k + 1 => if ((T.rw[k]?).map (proS s oc a b k)).getD false then withBit (prosS T s oc a b k) k else prosS T s oc a b k
def nextG (can : St → Nat → Nat → Rw → St) (T : Tb) (s : St) (oc : Nat) (l : List (Nat × Int)) : St :=
 rousS T oc (tidyS T.rw.length T.li.length s).us (comsG can T oc (l.take 8) (tidyS T.rw.length T.li.length s)) T.rw.length
def nextS := nextG canS
/-- which sides are detected -/
def sideN (n r : Nat) : Nat := n &&& (4294967295 - r)
def outS (T : Tb) (t : St) (oc n r : Nat) : Nat := prosS T t oc (sideN n r) (sideN r n) T.rw.length
/-- is one line in peace with what is locked, and do its points lie? -/
def lnOk (s : St) (n : Nat) (x : Rw) : Bool := !hasBit s.lk n || (!x.cf.any (fun k => hasBit s.lk k.toNat) && !x.nd.any (fun m => hasBit s.pt m.1.toNat != m.2))
def rightK (T : Tb) (s : St) : Nat → Bool
 | 0 => true
 | k + 1 => rightK T s k && ((T.rw[k]?).map (lnOk s k)).getD true
def rgtS (T : Tb) (s : St) : Bool := eqS (tidyS T.rw.length T.li.length s) s && rightK T s T.rw.length
/-- a line with its rows -/
structure Ln where
 fi : Int
 ah : Int
 tk : Sl Int
 nd : Sl (Int × Bool)
 cf : Sl Int
def lnC (x : Ln) : List Value := [.int .i64 x.fi, .int .i64 x.ah, x.tk.v, x.nd.v, x.cf.v]
def Ln.rw (x : Ln) : Rw := ⟨x.fi, x.ah, x.tk.l, x.nd.l, x.cf.l⟩
structure LnX (X : Nat → Prop) (w : World) (x : Ln) : Prop where
 tk : SlX 1 intC X w x.tk
 nd : SlX 2 ndC X w x.nd
 cf : SlX 1 intC X w x.cf
theorem LnX.step {X : Nat → Prop} {w w' : World} {x : Ln} (h : LnX X w x) (k : WX X w w') : LnX X w' x := ⟨h.tk.step k, h.nd.step k, h.cf.step k⟩
theorem LnX.weak {X Y : Nat → Prop} {w : World} {x : Ln} (h : LnX X w x) (hy : ∀ b, b < w.heap.size → Y b → X b) : LnX Y w x := ⟨h.tk.weak hy, h.nd.weak hy, h.cf.weak hy⟩
structure Mc where
 ln : Sl Ln
 li : Sl Int
 se : Int
 pt : Nat
def Mc.tb (M : Mc) : Tb := ⟨M.ln.l.map Ln.rw, M.li.l⟩
/-- a machine behind a pointer, outside of X -/
structure MachX (X : Nat → Prop) (w : World) (m : Nat) (M : Mc) : Prop where
 blk : w.heap[m]? = some (.cells #[M.ln.v, M.li.v, .int .i64 M.se, .int .u32 (M.pt : Int)] 75)
 off : ¬ X m
 ln : SlX 5 lnC X w M.ln
 li : SlX 1 intC X w M.li
 lns : ∀ x ∈ M.ln.l, LnX X w x
theorem MachX.step {X : Nat → Prop} {w w' : World} {m : Nat} {M : Mc} (h : MachX X w m M) (k : WX X w w') : MachX X w' m M :=
 ⟨k.keep h.off h.blk, h.off, h.ln.step k, h.li.step k, fun x hx => (h.lns x hx).step k⟩
theorem MachX.weak {X Y : Nat → Prop} {w : World} {m : Nat} {M : Mc} (h : MachX X w m M) (hy : ∀ b, b < w.heap.size → Y b → X b) : MachX Y w m M :=
 ⟨h.blk, fun e => h.off (hy m (blk_lt h.blk) e), h.ln.weak hy, h.li.weak hy, fun x hx => (h.lns x hx).weak hy⟩
theorem wx_ge {g : Nat} {w w' : World} (h : Below g w w') (hs : w.heap.size ≤ w'.heap.size) : WX (fun b => g ≤ b) w w' :=
 ⟨h.os, h.tape, h.output, hs, fun k _ hx => h.block k (by omega)⟩
/-- a cycle's cells -/
def cyL (m : Nat) (s : St) (i : Inp) (u : Nat) : List Value :=
 .pointer (some ⟨m, 0, none⟩) :: .int .u64 (s.lk : Int) :: .int .u64 (s.us : Int) :: .int .u64 (s.ca : Int) :: (tmL s.tm ++ [.int .u32 (s.pt : Int), .int .u64 (i.oc : Int), .int .u32 (i.no : Int), .int .u32 (i.re : Int), i.cm, .int .u64 (u : Int)])
theorem cy_len (m : Nat) (s : St) (i : Inp) (u : Nat) : (cyL m s i u).length = 74 := by simp [cyL, tm_len]
theorem cy_0 (m : Nat) (s : St) (i : Inp) (u : Nat) : (cyL m s i u).toArray[0]? = some (.pointer (some ⟨m, 0, none⟩)) := rfl
theorem cy_1 (m : Nat) (s : St) (i : Inp) (u : Nat) : (cyL m s i u).toArray[1]? = some (.int .u64 (s.lk : Int)) := rfl
theorem cy_2 (m : Nat) (s : St) (i : Inp) (u : Nat) : (cyL m s i u).toArray[2]? = some (.int .u64 (s.us : Int)) := rfl
theorem cy_3 (m : Nat) (s : St) (i : Inp) (u : Nat) : (cyL m s i u).toArray[3]? = some (.int .u64 (s.ca : Int)) := rfl
theorem cy_tm (m : Nat) (s : St) (i : Inp) (u : Nat) {n : Nat} (h : n < 64) : (cyL m s i u).toArray[4 + n]? = some (.int .u8 (s.tm n : Int)) := by
 rw [List.getElem?_toArray]
 unfold cyL
 rw [show 4 + n = n + 1 + 1 + 1 + 1 by omega, List.getElem?_cons_succ, List.getElem?_cons_succ, List.getElem?_cons_succ, List.getElem?_cons_succ, List.getElem?_append_left (by rw [tm_len]; exact h), tm_get _ h]
theorem cy_end (m : Nat) (s : St) (i : Inp) (u : Nat) (k : Nat) (hk : k < 6) : (cyL m s i u).toArray[68 + k]? = [Value.int .u32 (s.pt : Int), .int .u64 (i.oc : Int), .int .u32 (i.no : Int), .int .u32 (i.re : Int), i.cm, .int .u64 (u : Int)][k]? := by
 rw [List.getElem?_toArray]
 unfold cyL
 rw [show 68 + k = (64 + k) + 1 + 1 + 1 + 1 by omega, List.getElem?_cons_succ, List.getElem?_cons_succ, List.getElem?_cons_succ, List.getElem?_cons_succ, List.getElem?_append_right (by rw [tm_len]; omega), tm_len, Nat.add_sub_cancel_left]
theorem tm_set (f : Nat → Nat) (n v : Nat) : (tmL f).set n (.int .u8 (v : Int)) = tmL (upd f n v) := by
 apply List.ext_getElem?
 intro k
 rw [List.getElem?_set]
 by_cases h : k < 64
 ·by_cases e : n = k
  ·subst e; rw [if_pos rfl, if_pos (by rw [tm_len]; exact h), tm_get _ h, upd_at]
  ·rw [if_neg e, tm_get _ h, tm_get _ h, upd_ne _ _ (fun e' => e e'.symm)]
 ·rw [List.getElem?_eq_none (by rw [tm_len]; omega), List.getElem?_eq_none (by rw [tm_len]; omega)]
  split
  ·rw [if_neg (by rw [tm_len]; omega)]
  ·rfl
theorem cs_1 (m : Nat) (s : St) (i : Inp) (u x : Nat) : (cyL m s i u).toArray.setIfInBounds 1 (.int .u64 (x : Int)) = (cyL m { s with lk := x } i u).toArray := by rw [List.setIfInBounds_toArray]; rfl
theorem cs_2 (m : Nat) (s : St) (i : Inp) (u x : Nat) : (cyL m s i u).toArray.setIfInBounds 2 (.int .u64 (x : Int)) = (cyL m { s with us := x } i u).toArray := by rw [List.setIfInBounds_toArray]; rfl
theorem cs_3 (m : Nat) (s : St) (i : Inp) (u x : Nat) : (cyL m s i u).toArray.setIfInBounds 3 (.int .u64 (x : Int)) = (cyL m { s with ca := x } i u).toArray := by rw [List.setIfInBounds_toArray]; rfl
theorem cs_tm (m : Nat) (s : St) (i : Inp) (u x : Nat) {n : Nat} (h : n < 64) : (cyL m s i u).toArray.setIfInBounds (4 + n) (.int .u8 (x : Int)) = (cyL m { s with tm := upd s.tm n x } i u).toArray := by
 rw [List.setIfInBounds_toArray]
 unfold cyL
 rw [show 4 + n = n + 1 + 1 + 1 + 1 by omega, List.set_cons_succ, List.set_cons_succ, List.set_cons_succ, List.set_cons_succ, List.set_append, if_pos (by rw [tm_len]; exact h), tm_set]
theorem cs_pt (m : Nat) (s : St) (i : Inp) (u x : Nat) : (cyL m s i u).toArray.setIfInBounds 68 (.int .u32 (x : Int)) = (cyL m { s with pt := x } i u).toArray := by
 rw [List.setIfInBounds_toArray]
 unfold cyL
 rw [show 68 = 64 + 1 + 1 + 1 + 1 by omega, List.set_cons_succ, List.set_cons_succ, List.set_cons_succ, List.set_cons_succ, List.set_append, if_neg (by rw [tm_len]; omega), tm_len]
 rfl
theorem cs_us (m : Nat) (s : St) (i : Inp) (u x : Nat) : (cyL m s i u).toArray.setIfInBounds 73 (.int .u64 (x : Int)) = (cyL m s i x).toArray := by
 rw [List.setIfInBounds_toArray]
 unfold cyL
 rw [show 73 = 69 + 1 + 1 + 1 + 1 by omega, List.set_cons_succ, List.set_cons_succ, List.set_cons_succ, List.set_cons_succ, List.set_append, if_neg (by rw [tm_len]; omega), tm_len]
 rfl
/-- a cycle behind a pointer; its machine is older -/
structure Cy (w : World) (g m : Nat) (M : Mc) (s : St) (i : Inp) (u : Nat) : Prop where
 mach : MachX (fun b => g ≤ b) w m M
 tb : TbOk M.tb
 blk : w.heap[g]? = some (.cells (cyL m s i u).toArray 84)
 sok : s.ok
 iok : i.ok
 uok : u < 18446744073709551616
theorem Cy.below {w w' : World} {g m : Nat} {M : Mc} {s : St} {i : Inp} {u : Nat} (h : Cy w g m M s i u) (hb : Below w.heap.size w w') : Cy w' g m M s i u :=
 ⟨h.mach.step (WX.of_below hb), h.tb, blk_keep hb h.blk, h.sok, h.iok, h.uok⟩
theorem Cy.next {w w' : World} {g m : Nat} {M : Mc} {s s' : St} {i : Inp} {u : Nat} (h : Cy w g m M s i u) (hb : Below g w w') (hs : w.heap.size ≤ w'.heap.size) (hg : w'.heap[g]? = some (.cells (cyL m s' i u).toArray 84)) (ho : s'.ok) : Cy w' g m M s' i u :=
 ⟨h.mach.step (wx_ge hb hs), h.tb, hg, ho, h.iok, h.uok⟩
theorem tb_at {M : Mc} {n : Nat} {x : Ln} (h : M.ln.l[n]? = some x) : M.tb.rw[n]? = some x.rw := by unfold Mc.tb; rw [List.getElem?_map, h]; rfl
theorem tb_len (M : Mc) : M.tb.rw.length = M.ln.l.length := by unfold Mc.tb; rw [List.length_map]
theorem ln_ok {M : Mc} (h : TbOk M.tb) {n : Nat} {x : Ln} (hx : M.ln.l[n]? = some x) : RwOk M.ln.l.length M.li.l.length x.rw := by
 have := h.rw x.rw (List.mem_of_getElem? (tb_at hx))
 rw [tb_len] at this
 exact this
end Go.Proofs.Ytpohoannggdbjaa
