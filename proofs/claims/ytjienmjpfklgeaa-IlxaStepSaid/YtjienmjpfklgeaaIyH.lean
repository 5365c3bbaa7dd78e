/-
 Layer 10: layouts that hold the same; cells that keep their kind; rows of commands, read and copied.
-/
import Derived.Test.YtjienmjpfklgeaaIxM
import Derived.Test.YtjienmjpfklgeaaMC
import Derived.Test.YtjienmjpfklgeaaMA
import Derived.Test.YtjienmjpfklgeaaME
namespace Go.Proofs.Ytjienmjpfklgeaa
open Go.RowKit
set_option maxRecDepth 100000
/-- a route, a layout, wherever its rows lie -/
def Rt.er (r : Rt) : Rt := ⟨r.nm, r.sg, ⟨none, 0, r.pa.l⟩, ⟨none, 0, r.po.l⟩, ⟨none, 0, r.ov.l⟩, ⟨none, 0, r.fl.l⟩⟩
def Lay.er (L : Lay) : Lay := ⟨⟨none, 0, L.se.l⟩, ⟨none, 0, L.po.l⟩, ⟨none, 0, L.sg.l⟩, ⟨none, 0, L.rt.l.map Rt.er⟩⟩
theorem same_er {L M : Lay} (h : SameLay L M) : M.er = L.er := by
 obtain ⟨h1, h2, h3, h4⟩ := h
 have e : ∀ l : List Rt, l.map Rt.er = (l.map rc).map (fun x => (⟨x.1, x.2.1, ⟨none, 0, x.2.2.1⟩, ⟨none, 0, x.2.2.2.1⟩, ⟨none, 0, x.2.2.2.2.1⟩, ⟨none, 0, x.2.2.2.2.2⟩⟩ : Rt)) := fun l => by rw [List.map_map]; rfl
 unfold Lay.er
 rw [h1, h2, h3, e, e, h4]
theorem may_er (L : Lay) : mayS L.er = mayS L := by
 unfold mayS Lay.er Lay.small Lay.n3 Lay.n2 Lay.n1 rtsFrom
 simp only [List.length_map, List.map_map, List.all_map]
 rfl
theorem ixF_map {p : Rt → Bool} : ∀ (l : List Rt) (k : Nat), ixF p k (l.map Rt.er) = ixF (fun r => p r.er) k l := by
 intro l
 induction l with
 | nil => intro k; rfl
 | cons y l ih =>
   intro k
   show (if p y.er = true then (k : Int) else ixF p (k + 1) (l.map Rt.er)) = (if p y.er = true then (k : Int) else ixF (fun r => p r.er) (k + 1) l)
   rw [ih]
theorem formed_er (L : Lay) (r : Rt) : formedS L.er r.er = formedS L r := rfl
theorem check_er (L : Lay) : checkS L.er = checkS L := by
 unfold checkS
 rw [may_er]
 have : badS L.er = badS L := by
  unfold badS
  show ixF (fun r => !formedS L.er r) 0 (L.rt.l.map Rt.er) = _
  rw [ixF_map]
  rfl
 rw [this]
theorem conflict_er (L : Lay) (a b : Rt) : conflictS L.er a.er b.er = conflictS L a b := by
 unfold conflictS reasonsS
 congr 2
 congr 1
 show ptsR a.er b.er 0 L.po.l = ptsR a b 0 L.po.l
 have : ∀ (l : List (BA × Int)) (k : Nat), ptsR a.er b.er k l = ptsR a b k l := by
  intro l
  induction l with
  | nil => intro k; rfl
  | cons p l ih => intro k; show _ :: ptsR a.er b.er (k + 1) l = _ :: ptsR a b (k + 1) l; rw [ih]; rfl
 exact this _ _
theorem pair_er (L : Lay) (a b : Int) : pairS L.er a b = pairS L a b := by
 unfold pairS
 rw [may_er]
 have e : ∀ j, L.er.rt.l[j]? = (L.rt.l[j]?).map Rt.er := fun j => List.getElem?_map
 have e2 : L.er.rt.l.length = L.rt.l.length := List.length_map _
 rw [e, e, e2]
 congr 2
 rcases L.rt.l[a.toNat]? with _ | x <;> rcases L.rt.l[b.toNat]? with _ | y <;> first | rfl | exact conflict_er L x y
theorem cof_er (L : Lay) (n : Int) : cofL L.er n = cofL L n := by
 have e2 : L.er.rt.l.length = L.rt.l.length := List.length_map _
 have e : (fun m : Nat => pairS L.er n (m : Int)) = fun m : Nat => pairS L n (m : Int) := by funext m; exact pair_er L _ _
 unfold cofL cofN
 rw [e2, e]
theorem tbl_er (L : Lay) : tbL L.er = tbL L := by
 unfold tbL
 have h : ∀ (i : Nat) (r : Rt), rwL L.er i r.er = rwL L i r := by
  intro i r
  unfold rwL
  rw [cof_er]
  rfl
 show (⟨(L.rt.l.map Rt.er).mapIdx (rwL L.er), L.po.l.map (fun p => p.2)⟩ : Tb) = _
 congr 1
 apply List.ext_getElem?
 intro i
 rw [List.getElem?_mapIdx, List.getElem?_mapIdx, List.getElem?_map]
 cases L.rt.l[i]? with
 | none => rfl
 | some r => exact congrArg some (h i r)
theorem wtF_map {α β : Type} (g : β → α) {t : Int} {f : Int → α → Int} : ∀ (l : List β) (z : Int), wtF t f z (l.map g) = wtF t (fun z y => f z (g y)) z l
 | [], z => rfl
 | y :: l, z => by
   show (if z ≤ t then wtF t f (f z (g y)) (l.map g) else z) = (if z ≤ t then wtF t (fun z y => f z (g y)) (f z (g y)) l else z)
   rw [wtF_map g l]
theorem weight_er (t : Int) (L : Lay) : weightS t L.er = weightS t L := by
 unfold weightS
 show wtF t (wtR t) _ (L.rt.l.map Rt.er) = _
 rw [wtF_map]
 rfl
theorem same_all {L M : Lay} (h : SameLay L M) : checkS M = checkS L ∧ tbL M = tbL L ∧ (∀ t, weightS t M = weightS t L) ∧ M.po.l.length = L.po.l.length := by
 have e := same_er h
 exact ⟨by rw [← check_er M, e, check_er], by rw [← tbl_er M, e, tbl_er], fun t => by rw [← weight_er t M, e, weight_er], by rw [h.po]⟩
/-- two values of one kind: a slice alone stays what it is -/
def Alike (v u : Value) : Prop := v = u ∨ (∃ s t, v = .string s ∧ u = .string t) ∨ (∃ k a b, v = .int k a ∧ u = .int k b) ∨ (∃ a b, v = .bool a ∧ u = .bool b)
theorem Alike.trans {a b c : Value} (h : Alike a b) (k : Alike b c) : Alike a c := by
 rcases h with rfl | ⟨s, t, rfl, rfl⟩ | ⟨q, x, y, rfl, rfl⟩ | ⟨x, y, rfl, rfl⟩
 ·exact k
 ·rcases k with rfl | ⟨s', t', h1, rfl⟩ | ⟨q', x', y', h1, _⟩ | ⟨x', y', h1, _⟩
  ·exact .inr (.inl ⟨_, _, rfl, rfl⟩)
  ·exact .inr (.inl ⟨_, _, rfl, rfl⟩)
  ·cases h1
  ·cases h1
 ·rcases k with rfl | ⟨s', t', h1, _⟩ | ⟨q', x', y', h1, rfl⟩ | ⟨x', y', h1, _⟩
  ·exact .inr (.inr (.inl ⟨_, _, _, rfl, rfl⟩))
  ·cases h1
  ·cases h1
   exact .inr (.inr (.inl ⟨_, _, _, rfl, rfl⟩))
  ·cases h1
 ·rcases k with rfl | ⟨s', t', h1, _⟩ | ⟨q', x', y', h1, _⟩ | ⟨x', y', h1, rfl⟩
  ·exact .inr (.inr (.inr ⟨_, _, rfl, rfl⟩))
  ·cases h1
  ·cases h1
  ·exact .inr (.inr (.inr ⟨_, _, rfl, rfl⟩))
/-- all cells keep their kind -/
def Kin (w w' : World) : Prop := ∀ a v, w.cell? a = some v → ∃ u, w'.cell? a = some u ∧ Alike v u
theorem Kin.refl (w : World) : Kin w w := fun _ v h => ⟨v, h, .inl rfl⟩
theorem Kin.set {w0 w : World} (h : Kin w0 w) {p : Addr} {v u : Value} (hc : w.cell? p = some v) (ha : Alike v u) : Kin w0 (w.setCell p u) := by
 intro a x hx
 obtain ⟨y, hy, hxy⟩ := h a x hx
 by_cases e : p = a
 ·subst e
  rw [hc] at hy
  obtain rfl := Option.some.inj hy
  exact ⟨u, World.cell?_setCell_same _ _ _ hc, hxy.trans ha⟩
 ·exact ⟨y, by rw [World.cell?_setCell_other _ _ _ _ e]; exact hy, hxy⟩
/-- what stays while a layout of the call's own is scribbled over -/
structure OwI (w0 w : World) (lo hi g : Nat) (o : Obj) : Prop where
 box : w.heap[g]? = some o
 wx : WX (fun b => lo ≤ b ∧ b < hi) w0 w
 kin : Kin w0 w
 fz : ∀ b, b < hi → ∀ i, w0.frozen? ⟨b, i, none⟩ = false → w.frozen? ⟨b, i, none⟩ = false
theorem OwI.put {w0 w : World} {lo hi g : Nat} {o : Obj} (h : OwI w0 w lo hi g o) (hg : hi ≤ g) {b i : Nat} {v u : Value} (h1 : lo ≤ b) (h2 : b < hi) (hc : w.cell? ⟨b, i, none⟩ = some v) (ha : Alike v u) : OwI w0 (w.setCell ⟨b, i, none⟩ u) lo hi g o :=
 ⟨Only.keep ((Only.refl b w).setCell rfl u) (show g ≠ b by omega) h.box, h.wx.trans (WX.set ⟨h1, h2⟩ i u), h.kin.set hc ha, fun k hk j hj => by rw [World.frozen?_setCell]; exact h.fz k hk j hj⟩
theorem OwI.sl {w0 w : World} {lo hi g : Nat} {o : Obj} (h : OwI w0 w lo hi g o) {p : Addr} {a : Option Addr} {n c : Nat} (hc : w0.cell? p = some (.slice a n c)) : w.cell? p = some (.slice a n c) := by
 obtain ⟨u, hu, ha⟩ := h.kin p _ hc
 rcases ha with rfl | ⟨_, _, h1, _⟩ | ⟨_, _, _, h1, _⟩ | ⟨_, _, h1, _⟩
 ·exact hu
 ·cases h1
 ·cases h1
 ·cases h1
theorem OwI.str {w0 w : World} {lo hi g : Nat} {o : Obj} (h : OwI w0 w lo hi g o) {p : Addr} {s : BA} (hc : w0.cell? p = some (.string s)) : ∃ t, w.cell? p = some (.string t) := by
 obtain ⟨u, hu, ha⟩ := h.kin p _ hc
 rcases ha with rfl | ⟨_, t, h1, rfl⟩ | ⟨_, _, _, h1, _⟩ | ⟨_, _, h1, _⟩
 ·exact ⟨_, hu⟩
 ·exact ⟨_, hu⟩
 ·cases h1
 ·cases h1
theorem OwI.int {w0 w : World} {lo hi g : Nat} {o : Obj} (h : OwI w0 w lo hi g o) {p : Addr} {k : IntKind} {s : Int} (hc : w0.cell? p = some (.int k s)) : ∃ t, w.cell? p = some (.int k t) := by
 obtain ⟨u, hu, ha⟩ := h.kin p _ hc
 rcases ha with rfl | ⟨_, t, h1, _⟩ | ⟨_, _, _, h1, rfl⟩ | ⟨_, _, h1, _⟩
 ·exact ⟨_, hu⟩
 ·cases h1
 ·cases h1
  exact ⟨_, hu⟩
 ·cases h1
theorem OwI.bool {w0 w : World} {lo hi g : Nat} {o : Obj} (h : OwI w0 w lo hi g o) {p : Addr} {s : Bool} (hc : w0.cell? p = some (.bool s)) : ∃ t, w.cell? p = some (.bool t) := by
 obtain ⟨u, hu, ha⟩ := h.kin p _ hc
 rcases ha with rfl | ⟨_, t, h1, _⟩ | ⟨_, _, _, h1, _⟩ | ⟨_, _, h1, rfl⟩
 ·exact ⟨_, hu⟩
 ·cases h1
 ·cases h1
 ·exact ⟨_, hu⟩
theorem OwI.below {w0 w w' : World} {lo hi g : Nat} {o : Obj} (h : OwI w0 w lo hi g o) (hg : hi ≤ g) (hb : Below w.heap.size w w') : OwI w0 w' lo hi g o := by
 have hlt := blk_lt h.box
 exact ⟨blk_keep hb h.box, h.wx.trans (WX.of_below hb), fun a v ha => by obtain ⟨u, hu, hk⟩ := h.kin a v ha; exact ⟨u, cell_later hb hu, hk⟩, fun b hk i hi => by rw [hb.frozen (show b < w.heap.size by omega)]; exact h.fz b hk i hi⟩
/-- a row's block: within bounds, not frozen -/
theorem SlX.blk {α : Type} {sz : Nat} {f : α → List Value} {X : Nat → Prop} {w : World} {s : Sl α} (h : SlX sz f X w s) (hne : s.l ≠ []) : ∃ b off, s.a = some ⟨b, off, none⟩ ∧ b < w.heap.size ∧ ¬ X b ∧ (∀ i, w.frozen? ⟨b, i, none⟩ = false) ∧ ∀ i c, s.l[i]? = some c → ∀ j v, (f c)[j]? = some v → w.cell? ⟨b, off + i * sz + j, none⟩ = some v := by
 obtain ⟨b, off, h1, h2, h3⟩ := h.off.resolve_left hne
 obtain ⟨b', off', h1', hf⟩ := h.fr.resolve_left hne
 obtain ⟨b'', off'', h1'', hc⟩ := h.at_.row.resolve_left hne
 rw [h1] at h1' h1''
 cases h1'
 cases h1''
 exact ⟨b, off, h1, h2, h3, hf, hc⟩
theorem SlX.own {α : Type} {sz : Nat} {f : α → List Value} {lo : Nat} {w2 w4 : World} {s : Sl α} (h : SlX sz f (fun b => b < lo) w2 s) (hb : Below w2.heap.size w2 w4) (hne : s.l ≠ []) :
 ∃ b off, s.a = some ⟨b, off, none⟩ ∧ (lo ≤ b ∧ b < w2.heap.size ∧ ∀ i, w4.frozen? ⟨b, i, none⟩ = false) ∧ ∀ i c, s.l[i]? = some c → ∀ j v, (f c)[j]? = some v → w4.cell? ⟨b, off + i * sz + j, none⟩ = some v := by
 obtain ⟨b, off, h1, h2, h3, h4, h5⟩ := h.blk hne
 exact ⟨b, off, h1, ⟨Nat.le_of_not_lt h3, h2, fun i => by rw [hb.frozen (show b < w2.heap.size from h2)]; exact h4 i⟩, fun i c hi j v hv => cell_later hb (h5 i c hi j v hv)⟩
/-- a row of commands, cell by cell -/
def cmdC (c : Nat × Int) : List Value := [.int .u8 (c.1 : Int), .int .i64 c.2]
theorem cmd_lenC (c : Nat × Int) : (cmdC c).length = 2 := rfl
theorem cmd_one (c : Nat × Int) : ∀ u ∈ cmdC c, u.oneCell' = true := by
 intro u h; simp [cmdC] at h
 rcases h with rfl | rfl <;> rfl
theorem cmds_sl {w : World} {a : Option Addr} {c : Nat} {l : List (Nat × Int)} (h : CmdsAt w a l) (hl : l.length ≤ c) (hc : c ≤ maxLen) (h0 : a = none → c = 0) : SlAt 2 cmdC w ⟨a, c, l⟩ := by
 refine ⟨?_, hl, hc, h0⟩
 rcases h.2 with h | ⟨b, off, ha, hk⟩
 ·exact .inl h
 ·refine .inr ⟨b, off, ha, fun i x hx j v hv => ?_⟩
  obtain ⟨k1, k2⟩ := hk i x hx
  match j, hv with
  | 0, hv => cases hv; exact k1
  | 1, hv => cases hv; exact k2
  | j + 2, hv => cases hv
theorem sl_cmds {w : World} {a : Option Addr} {c : Nat} {l : List (Nat × Int)} (h : SlAt 2 cmdC w ⟨a, c, l⟩) (hb : ∀ c ∈ l, c.1 < 256 ∧ -9223372036854775808 ≤ c.2 ∧ c.2 ≤ 9223372036854775807) : CmdsAt w a l := by
 refine ⟨hb, ?_⟩
 rcases h.row with h | ⟨b, off, ha, hk⟩
 ·exact .inl h
 ·exact .inr ⟨b, off, ha, fun i x hx => ⟨hk i x hx 0 _ rfl, hk i x hx 1 _ rfl⟩⟩
theorem info_cmd : (Try.prog.info? 74).map (fun i => (i.zero, i.size, i.bytes)) = some (some (.agg #[.int .u8 0, .int .i64 0]), 2, 16) := by kernel_rfl
set_option maxHeartbeats 400000 in
theorem samecmds_any (a b : Option Addr) (la lb : List (Nat × Int)) (n m ca cb : Nat) (w : World) (hn : la.length = n) (hm : lb.length = m) (hnl : n ≤ 1000) (hml : m ≤ 1000) (ha : CmdsAt w a la) (hb : CmdsAt w b lb) :
 Calls Try.prog 13 #[.slice a n ca, .slice b m cb] w fun e w' => e = .returned (.bool (decide (la = lb))) ∧ Below w.heap.size w w' := by
 have nq := neq_cmd
 have cg := cmd_guard
 have HN := Lib.hid hn
 have HM := Lib.hid hm
 clear hn hm
 by_cases hlen : n = m
 ·subst hlen
  go_enter Try.func13, Try.ntmps13
  go_wp2
  go_loopw [5] (fun i wr => ∃ k : Nat, k ≤ n ∧ i = .int .i64 k ∧ la.take k = lb.take k ∧ Below w.heap.size w wr) (fun i _ => n - (intOf i).toNat)
  case atStart => exact ⟨0, by omega, rfl, rfl, Below.refl _ _⟩
  case round =>
   obtain ⟨k, hk, rfl, heq, hB⟩ := hrel
   have HE := Lib.hid heq
   clear heq
   by_cases hlt : k < n
   ·obtain ⟨b1, o1, k1, n1, rfl, g1, l1, i1, c1, c1'⟩ := (ha.below hB).at (i := k) (by rw [HN.out]; exact hlt)
    obtain ⟨b2, o2, k2, n2, rfl, g2, l2, i2, c2, c2'⟩ := (hb.below hB).at (i := k) (by rw [HM.out]; exact hlt)
    have G1 := Lib.hid g1
    have G2 := Lib.hid g2
    clear g1 g2
    have x1 := World.block_lt_of_cell? _ _ c1
    have x2 := World.block_lt_of_cell? _ _ c2
    have d1 : (0 : Int) ≤ k := by omega
    have d2 : (k : Int) < n := by omega
    go_wp2_with fail
    first
     | (go_quiet (fail); go_wp2_with fail)
     | skip
    ·have ht : (!(k1 : Int) == (k2 : Int)) = true ∨ (!n1 == n2) = true := by assumption
     go_ret
     exact ⟨ret_bool (cmd_diff G1.out G2.out ht).symm, below_drewN hB _⟩
    ·have ht : (!(k1 : Int) == (k2 : Int)) = false ∧ (!n1 == n2) = false := by assumption
     go_roundw
     case rel => exact ⟨k + 1, by omega, by go_num, cmd_same G1.out G2.out ht HE.out, below_drewN hB _⟩
     case measure => simp [intOf]; omega
   ·obtain rfl : k = n := by omega
    go_wp2_with fail
    go_ret
    exact ⟨ret_bool (cmd_all HN.out HM.out HE.out).symm, hB⟩
 ·have h1 : ((n : Int) == (m : Int)) = false := by simp; omega
  have h2 : ((n : Int) != (m : Int)) = true := by simp; omega
  go_enter Try.func13, Try.ntmps13
  go_wp2
  go_ret
  exact ⟨ret_bool (cmd_len HN.out HM.out hlen).symm, Below.refl _ _⟩

end Go.Proofs.Ytjienmjpfklgeaa
