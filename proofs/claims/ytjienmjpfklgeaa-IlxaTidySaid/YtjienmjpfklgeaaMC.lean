/-
  Merged: Grow, Gen, ToM, ToN, ToO, ToP, ToQ, ToR, ToS, ToT, ToU, ToV, ToX, ToW, ToYC, ToZ.
-/
import Derived.Test.YtjienmjpfklgeaaMA
import Derived.Test.YtjienmjpfklgeaaMB
import Derived.Deep.LoopGhost
namespace Go.Proofs.Ytjienmjpfklgeaa
open Go.RowKit

/-- the block of v' is that of v, or a new one -/
def Value.newOr (w : World) (v v' : Value) : Prop := v'.ownBlock = v.ownBlock ∨ ∃ k, v'.ownBlock = some k ∧ w.heap.size ≤ k

theorem run_append_src3 {P : Program} (w : World) (base : Nat) (t ty e : TypeId) (i : TypeInfo) (z : Value) (sz bytes : Nat) (ht : P.underlying t = some (.slice e)) (hi : P.info? e = some i) (hz : i.zero = some z)
    (hsize : i.size = sz) (hby : i.bytes = bytes) (hzs : z.cells.size = sz) (hsz : 0 < sz) (v : Value) (n : Nat) (xs : List Value) (hown : w.ownsRow base e sz v n xs)
    (ao : Option Addr) (m c : Nat) (news : List Value) (hl : news.length = m * sz) (hsrc : SrcAt w ao c news) (h63 : n + m ≤ maxLen) (hbytes : (n + m) * bytes ≤ 140737488355328) (hbase : base ≤ w.heap.size) :
    ∃ v' w', (Builtin.append_ #[t, t] ty #[v, .slice ao m c]).run P w = .ok v' w' ∧ w'.ownsRow base e sz v' (n + m) (xs ++ news) ∧ w.grownBy w' v.ownBlock ∧ Value.newOr w v v' := by
  obtain ⟨v', w', hr, h2, h3⟩ := run_append_src (P := P) w base t ty e i z sz bytes ht hi hz hsize hby hzs hsz v n xs hown ao m c news hl hsrc h63 hbytes hbase
  refine ⟨v', w', hr, h2, h3, ?_⟩
  obtain ⟨s1, s2, s3⟩ := hsrc
  have h63' : n + m ≤ 9223372036854775807 := by simp only [maxLen] at h63; omega
  cases ao with
  | none =>
    obtain ⟨rfl, rfl⟩ := s1 rfl
    obtain rfl : m = 0 := by
      rcases Nat.eq_zero_or_pos m with h | h
      · exact h
      · have := Nat.mul_pos h hsz
        simp at hl; omega
    have hrun := run_append_owned_none (P := P) w base t ty e i sz ht hi v n xs hown
    rw [hrun] at hr
    injection hr with h4 h5
    exact .inl (by rw [h4])
  | some ad =>
    subst hsize
    subst hby
    have hown2 := hown
    rcases hown2.2 with ⟨rfl, rfl⟩ | ⟨g, cap, cur, rfl, hbg, hg, hnc, hcm, hcs, htake⟩
    · by_cases hm : m = 0
      · subst hm
        have h4 := run_append_own (P := P) (w := w) base t ty e i z i.size i.bytes ht hi hz rfl rfl hzs hsz _ 0 xs hown ad 0 c news hl (s3 ad rfl) s2 h63 hbytes hbase
        obtain ⟨v9, w9, g1, _, _, g4⟩ := h4
        rw [hr] at g1
        injection g1 with g1 g2
        rw [g1, g4.2 ⟨rfl, rfl⟩]
        exact .inl rfl
      · have h4 := run_append_nil (P := P) (w := w) t ty e i z ht hi hz ad m c news hl (s3 ad rfl) (by omega) (by omega) (by rw [Nat.zero_add] at hbytes; omega)
        rw [h4] at hr
        injection hr with h5 h6
        exact .inr ⟨w.heap.size, by rw [← h5]; rfl, Nat.le_refl _⟩
    · by_cases hroom : n + m ≤ cap
      · have hfit : n * i.size + news.length ≤ cur.size := by rw [hl, hcs, ← Nat.add_mul]; exact Nat.mul_le_mul_right _ hroom
        have h4 := run_append_room (P := P) (w := w) t ty e i ht hi g n cap cur hg ad m c news hl (s3 ad rfl) s2 hroom hfit
        rw [h4] at hr
        injection hr with h5 h6
        exact .inl (by rw [← h5]; rfl)
      · have h4 := run_append_grow (P := P) (w := w) t ty e i z ht hi hz ⟨g, 0, none⟩ n cap xs hown.1 (hown.cells (g := g) rfl) ad m c news hl (s3 ad rfl) (by omega) (by omega) (growslice_fits (by omega) hbytes)
        rw [h4] at hr
        injection hr with h5 h6
        exact .inr ⟨w.heap.size, by rw [← h5]; rfl, Nat.le_refl _⟩

theorem wp_append_src3 {P : Program} {w : World} {o : Oper} {a : Act} {K : Act → World → Prop} {Q : Exit → Act → World → Prop} (s x : Operand) (t : TypeId)
    (ho : o.op = .call { callee := .builtin .append, args := #[s, x], argTypes := #[t, t] })
    (base : Nat) (e : TypeId) (i : TypeInfo) (z : Value) (sz bytes : Nat) (ht : P.underlying t = some (.slice e)) (hi : P.info? e = some i) (hz : i.zero = some z)
    (hsize : i.size = sz) (hby : i.bytes = bytes) (hzs : z.cells.size = sz) (hsz : 0 < sz) (v : Value) (n : Nat) (xs : List Value) (hs : a.eval s = v) (hown : w.ownsRow base e sz v n xs)
    (ao : Option Addr) (m c : Nat) (news : List Value) (hx : a.eval x = .slice ao m c) (hl : news.length = m * sz) (hsrc : SrcAt w ao c news) (h63 : n + m ≤ maxLen) (hbytes : (n + m) * bytes ≤ 140737488355328) (hbase : base ≤ w.heap.size)
    (h : ∀ v' w', w'.ownsRow base e sz v' (n + m) (xs ++ news) → w.grownBy w' v.ownBlock → Value.newOr w v v' → K (a.put o.dst v') w') : o.wp P a w K Q := by
  obtain ⟨v', w', hr, h2, h3, h4⟩ := run_append_src3 (P := P) w base t o.type e i z sz bytes ht hi hz hsize hby hzs hsz v n xs hown ao m c news hl hsrc h63 hbytes hbase
  unfold Oper.wp execOp
  simp only [ho, resolve, invoke, builtin, Sem.run_bind, Sem.run_pure, Result.andThen_ok, List.map_toArray, List.map_cons, List.map_nil, hs, hx, hr]
  exact h v' w' h2 h3 h4

theorem wpList_append_src3 {P : Program} {w : World} {ops : Array Oper} {rest : List Oper} {o : Oper} {a : Act} {Q : Exit → Act → World → Prop} (hgd : o.guard = none) (s x : Operand) (t : TypeId)
    (ho : o.op = .call { callee := .builtin .append, args := #[s, x], argTypes := #[t, t] })
    (base : Nat) (e : TypeId) (i : TypeInfo) (z : Value) (sz bytes : Nat) (ht : P.underlying t = some (.slice e)) (hi : P.info? e = some i) (hz : i.zero = some z)
    (hsize : i.size = sz) (hby : i.bytes = bytes) (hzs : z.cells.size = sz) (hsz : 0 < sz) (v : Value) (n : Nat) (xs : List Value) (hs : a.eval s = v) (hown : w.ownsRow base e sz v n xs)
    (ao : Option Addr) (m c : Nat) (news : List Value) (hx : a.eval x = .slice ao m c) (hl : news.length = m * sz) (hsrc : SrcAt w ao c news) (h63 : n + m ≤ maxLen) (hbytes : (n + m) * bytes ≤ 140737488355328) (hbase : base ≤ w.heap.size)
    (h : ∀ v' w', w'.ownsRow base e sz v' (n + m) (xs ++ news) → w.grownBy w' v.ownBlock → Value.newOr w v v' → wpList P ops Q rest (a.put o.dst v') w') : wpList P ops Q (o :: rest) a w :=
  wpList_plain hgd fun _ hK => wp_append_src3 s x t ho base e i z sz bytes ht hi hz hsize hby hzs hsz v n xs hs hown ao m c news hx hl hsrc h63 hbytes hbase fun v' w' h2 h3 h4 => hK _ _ (h v' w' h2 h3 h4)
end Go.Proofs.Ytjienmjpfklgeaa
namespace Go.Proofs.Ytjienmjpfklgeaa
open Go.RowKit
theorem allocs_below : ∀ (os : List Obj) (w : World), Below w.heap.size w (os.foldl World.alloc w) := by
  intro os
  induction os with
  | nil => exact fun w => Below.refl _ _
  | cons o os ih => exact fun w => below_on (below1 w o) (ih (w.alloc o))
theorem allocs_at : ∀ (os : List Obj) (w : World) (i : Nat) (o : Obj), os[i]? = some o → (os.foldl World.alloc w).heap[w.heap.size + i]? = some o := by
  intro os
  induction os with
  | nil => intro w i o h; simp at h
  | cons p os ih =>
    intro w i o h
    cases i with
    | zero =>
      simp at h
      subst h
      exact alloc1 w p (allocs_below os (w.alloc p))
    | succ i =>
      have := ih (w.alloc p) i o (by simpa using h)
      have e : (w.alloc p).heap.size = w.heap.size + 1 := by simp
      rw [e, show w.heap.size + 1 + i = w.heap.size + (i + 1) by omega] at this
      exact this
theorem row_blk {α : Type} {sz : Nat} {f : α → List Value} (hf : ∀ c, (f c).length = sz) {w : World} {g : Nat} {cs : Array Value} {t : TypeId} {fr : Nat × Nat} {l : List α} (h : w.heap[g]? = some (.cells cs t fr)) (hcs : cs.toList = l.flatMap f) : RowAt sz f w (some ⟨g, 0, none⟩) l := by
  refine .inr ⟨g, 0, rfl, fun i c hi j v hv => ?_⟩
  rw [Nat.zero_add]
  refine blk_cell h _ _ ?_
  rw [← Array.getElem?_toList, hcs]
  exact flat_get hf l i c j v hi hv
theorem sl_blk {α : Type} {sz : Nat} {f : α → List Value} (hf : ∀ c, (f c).length = sz) {w : World} {g n : Nat} {cs : Array Value} {t : TypeId} {fr : Nat × Nat} {l : List α} (h : w.heap[g]? = some (.cells cs t fr)) (hcs : cs.toList = l.flatMap f) (hn : l.length = n) (hm : n ≤ maxLen) : SlAt sz f w ⟨some ⟨g, 0, none⟩, n, l⟩ :=
  ⟨row_blk hf h hcs, by dsimp only; omega, hm, fun h => by cases h⟩
theorem pt_len (c : BA × Int) : (ptC c).length = 2 := rfl
theorem rt_len (c : Rt) : (rtC c).length = 6 := rfl
theorem sl_none {α : Type} {sz : Nat} {f : α → List Value} {w : World} : SlAt sz f w ⟨none, 0, []⟩ := ⟨.inl rfl, Nat.le_refl _, Nat.zero_le _, fun _ => rfl⟩
theorem name_last {P : World → Prop} {os : List Obj} {w0 w : World} (hw : os.foldl World.alloc w0 = w) (h : ∀ W : World, (∀ i o, os[i]? = some o → W.heap[w0.heap.size + i]? = some o) → Below w0.heap.size w0 W → P W) : P w :=
  h w (fun i o hi => hw ▸ allocs_at os w0 i o hi) (hw ▸ allocs_below os w0)
theorem name_any {P : World → Prop} {w : World} (h : ∀ W, W = w → P W) : P w := h w rfl
theorem name_K {K : Act → World → Prop} {a : Act} {w : World} (h : ∀ W, W = w → K a W) : K a w := h w rfl
theorem below_undrew {w w' : World} (h : Below w.drew.heap.size w.drew w') : Below w.heap.size w w' := ⟨h.os, h.tape, h.output, h.size, h.block⟩
end Go.Proofs.Ytjienmjpfklgeaa
namespace Go.Proofs.Ytjienmjpfklgeaa
open Go.RowKit
set_option maxRecDepth 100000

set_option maxRecDepth 100000 in
set_option maxHeartbeats 2000000 in
theorem track_own (r : Rt) (w : World) (hr : RtAt w r) (hlen : r.pa.l.length + r.ov.l.length ≤ 100000) :
    Calls Try.prog 33 #[.agg #[.string r.nm, .int .i64 r.sg, r.pa.v, r.po.v, r.ov.v, r.fl.v]] w fun e w' => ∃ a n c, e = .returned (.slice a n c) ∧ n = r.pa.l.length + r.ov.l.length ∧ SlAt 1 intC w' ⟨a, c, r.pa.l ++ r.ov.l⟩ ∧ Below w.heap.size w w' ∧ NewRow 1 w.heap.size w' a n := by
  obtain ⟨nm, sg, ⟨pa, pc, pl⟩, ⟨oa, oc, ol⟩, ⟨va, vc, vl⟩, ⟨fa, fc, fl⟩⟩ := r
  have hS1 := src_sl int_len int_one hr.pa
  have hS2 := src_sl int_len int_one hr.ov
  dsimp only at hS1 hS2 hlen ⊢
  obtain ⟨m1, hm1⟩ : ∃ m, pl.length = m := ⟨_, rfl⟩
  obtain ⟨m2, hm2⟩ : ∃ m, ol.length = m := ⟨_, rfl⟩
  obtain ⟨m3, hm3⟩ : ∃ m, vl.length = m := ⟨_, rfl⟩
  obtain ⟨m4, hm4⟩ : ∃ m, fl.length = m := ⟨_, rfl⟩
  rw [slv2 hm1, slv2 hm2, slv2 hm3, slv2 hm4]
  rw [hm1, hm3] at hlen ⊢
  have HM := Lib.hid (And.intro hm1 (And.intro hm2 (And.intro hm3 hm4)))
  have HC : Hid (∀ (g : Nat) (W : World), W.heap[g]? = some (.cells #[.slice pa m1 pc, .slice va m3 vc] 41) → Below w.heap.size w W → Calls Try.prog 68 #[.slice (some ⟨g, 0, none⟩) 2 2] W fun e w' => ∃ a n c, e = .returned (.slice a n c) ∧ n = m1 + m3 ∧ SlAt 1 intC w' ⟨a, c, pl ++ vl⟩ ∧ Below w.heap.size w w' ∧ NewRow 1 w.heap.size w' a n) := Lib.hid (fun g W hg hb => (concat_int2 g 41 (0, 0) pa va m1 pc m3 vc pl vl W hg (srcAt_below hS1 hb) (srcAt_below hS2 hb) hm1 hm3 hlen).mono (fun e w9 ⟨a, n, c, h1, h2, h3, h4, h5⟩ => ⟨a, n, c, h1, h2, h3, below_on hb h4, h5.mono hb.size⟩))
  clear hS1 hS2 hm1 hm2 hm3 hm4 hlen hr
  go_enter Try.func33, Try.ntmps33
  go_wp2_with fail
  refine (HC.out _ _ (alloc2' w _ _).2 (below2' w _ _)).mono ?_
  rintro e w9 ⟨a, n, c, rfl, hn, hS, hb, hN⟩
  have HN := Lib.hid hn
  have HS := Lib.hid hS
  have HNR := Lib.hid hN
  have HB := Lib.hid hb
  clear hn hS hb hN
  go_wp2_with fail
  go_ret
  exact ⟨a, n, c, rfl, HN.out, HS.out, HB.out, HNR.out⟩
theorem track_is (r : Rt) (w : World) (hr : RtAt w r) (hlen : r.pa.l.length + r.ov.l.length ≤ 100000) :
    Calls Try.prog 33 #[.agg #[.string r.nm, .int .i64 r.sg, r.pa.v, r.po.v, r.ov.v, r.fl.v]] w fun e w' => ∃ a n c, e = .returned (.slice a n c) ∧ n = r.pa.l.length + r.ov.l.length ∧ SlAt 1 intC w' ⟨a, c, r.pa.l ++ r.ov.l⟩ ∧ Below w.heap.size w w' :=
  (track_own r w hr hlen).mono (fun _ _ ⟨a, n, c, h1, h2, h3, h4, _⟩ => ⟨a, n, c, h1, h2, h3, h4⟩)

set_option maxRecDepth 100000 in
set_option maxHeartbeats 2000000 in
theorem needs_own (r : Rt) (w : World) (hr : RtAt w r) (hlen : r.po.l.length + r.fl.l.length ≤ 100000) :
    Calls Try.prog 34 #[.agg #[.string r.nm, .int .i64 r.sg, r.pa.v, r.po.v, r.ov.v, r.fl.v]] w fun e w' => ∃ a n c, e = .returned (.slice a n c) ∧ n = r.po.l.length + r.fl.l.length ∧ SlAt 2 ndC w' ⟨a, c, r.po.l ++ r.fl.l⟩ ∧ Below w.heap.size w w' ∧ NewRow 2 w.heap.size w' a n := by
  obtain ⟨nm, sg, ⟨pa, pc, pl⟩, ⟨oa, oc, ol⟩, ⟨va, vc, vl⟩, ⟨fa, fc, fl⟩⟩ := r
  have hS1 := src_sl nd_len nd_one hr.po
  have hS2 := src_sl nd_len nd_one hr.fl
  dsimp only at hS1 hS2 hlen ⊢
  obtain ⟨m1, hm1⟩ : ∃ m, pl.length = m := ⟨_, rfl⟩
  obtain ⟨m2, hm2⟩ : ∃ m, ol.length = m := ⟨_, rfl⟩
  obtain ⟨m3, hm3⟩ : ∃ m, vl.length = m := ⟨_, rfl⟩
  obtain ⟨m4, hm4⟩ : ∃ m, fl.length = m := ⟨_, rfl⟩
  rw [slv2 hm1, slv2 hm2, slv2 hm3, slv2 hm4]
  rw [hm2, hm4] at hlen ⊢
  have HM := Lib.hid (And.intro hm1 (And.intro hm2 (And.intro hm3 hm4)))
  have HC : Hid (∀ (g : Nat) (W : World), W.heap[g]? = some (.cells #[.slice oa m2 oc, .slice fa m4 fc] 42) → Below w.heap.size w W → Calls Try.prog 69 #[.slice (some ⟨g, 0, none⟩) 2 2] W fun e w' => ∃ a n c, e = .returned (.slice a n c) ∧ n = m2 + m4 ∧ SlAt 2 ndC w' ⟨a, c, ol ++ fl⟩ ∧ Below w.heap.size w w' ∧ NewRow 2 w.heap.size w' a n) := Lib.hid (fun g W hg hb => (concat_nd2 g 42 (0, 0) oa fa m2 oc m4 fc ol fl W hg (srcAt_below hS1 hb) (srcAt_below hS2 hb) hm2 hm4 hlen).mono (fun e w9 ⟨a, n, c, h1, h2, h3, h4, h5⟩ => ⟨a, n, c, h1, h2, h3, below_on hb h4, h5.mono hb.size⟩))
  clear hS1 hS2 hm1 hm2 hm3 hm4 hlen hr
  go_enter Try.func34, Try.ntmps34
  go_wp2_with fail
  refine (HC.out _ _ (alloc2' w _ _).2 (below2' w _ _)).mono ?_
  rintro e w9 ⟨a, n, c, rfl, hn, hS, hb, hN⟩
  have HN := Lib.hid hn
  have HS := Lib.hid hS
  have HNR := Lib.hid hN
  have HB := Lib.hid hb
  clear hn hS hb hN
  go_wp2_with fail
  go_ret
  exact ⟨a, n, c, rfl, HN.out, HS.out, HB.out, HNR.out⟩
theorem needs_is (r : Rt) (w : World) (hr : RtAt w r) (hlen : r.po.l.length + r.fl.l.length ≤ 100000) :
    Calls Try.prog 34 #[.agg #[.string r.nm, .int .i64 r.sg, r.pa.v, r.po.v, r.ov.v, r.fl.v]] w fun e w' => ∃ a n c, e = .returned (.slice a n c) ∧ n = r.po.l.length + r.fl.l.length ∧ SlAt 2 ndC w' ⟨a, c, r.po.l ++ r.fl.l⟩ ∧ Below w.heap.size w w' :=
  (needs_own r w hr hlen).mono (fun _ _ ⟨a, n, c, h1, h2, h3, h4, _⟩ => ⟨a, n, c, h1, h2, h3, h4⟩)
end Go.Proofs.Ytjienmjpfklgeaa
namespace Go.Proofs.Ytjienmjpfklgeaa
open Go.RowKit
set_option maxRecDepth 100000
theorem has1_is (gp : Nat) (pt : Int) (t : TypeId) (fr : Nat × Nat) (n : Int × Bool) (w : World) (h : w.heap[gp]? = some (.cells #[.int .i64 pt] t fr)) :
    Calls Try.prog 104 #[.agg #[.int .i64 n.1, .bool n.2], .pointer (some ⟨gp, 0, none⟩)] w fun e w' => e = .returned (.bool (decide (n.1 = pt))) ∧ Below w.heap.size w w' := by
  have c0 := blk_cell h 0 _ rfl
  have hlt := blk_lt h
  clear h
  by_cases hp : n.1 = pt
  · have q1 : (n.1 == pt) = true := by simpa using hp
    have HP := Lib.hid hp
    clear hp
    go_enter Try.func104, Try.ntmps104
    go_wp2_with fail
    go_ret
    refine ⟨?_, below1 _ _⟩
    rw [decide_eq_true HP.out]
    first | rfl | (show Ending.returned (.bool (n.1 == pt)) = _; rw [q1]) | (show Ending.returned (.bool (decide (n.1 = pt))) = _; rw [decide_eq_true HP.out])
  · have q1 : (n.1 == pt) = false := by simpa using hp
    have HP := Lib.hid hp
    clear hp
    go_enter Try.func104, Try.ntmps104
    go_wp2_with fail
    go_ret
    refine ⟨?_, below1 _ _⟩
    rw [decide_eq_false HP.out]
    first | rfl | (show Ending.returned (.bool (n.1 == pt)) = _; rw [q1]) | (show Ending.returned (.bool (decide (n.1 = pt))) = _; rw [decide_eq_false HP.out])
/-- the first place, from place k on, of which p holds; -1: there is none -/
def ixF {α : Type} (p : α → Bool) : Nat → List α → Int
  | _, [] => -1
  | k, y :: t => if p y then (k : Int) else ixF p (k + 1) t
theorem ixF_iff {α : Type} (p : α → Bool) : ∀ (l : List α) (k : Nat), (0 ≤ ixF p k l ∧ l.any p = true) ∨ (ixF p k l < 0 ∧ l.any p = false) := by
  intro l
  induction l with
  | nil => intro k; exact .inr ⟨by unfold ixF; decide, rfl⟩
  | cons y l ih =>
    intro k
    cases h : p y with
    | true => exact .inl ⟨by unfold ixF; rw [if_pos h]; omega, by simp [h]⟩
    | false =>
      have e1 : ixF p k (y :: l) = ixF p (k + 1) l := by
        show (if p y then (k : Int) else ixF p (k + 1) l) = _
        rw [if_neg (by rw [h]; decide)]
      have e2 : (y :: l).any p = l.any p := by simp [h]
      rw [e1, e2]
      exact ih (k + 1)
theorem ixF_drop {α : Type} {p : α → Bool} {l : List α} {y : α} {k : Nat} (h : l[k]? = some y) : ixF p k (l.drop k) = if p y then (k : Int) else ixF p (k + 1) (l.drop (k + 1)) := by
  have hk : k < l.length := (List.getElem?_eq_some_iff.1 h).1
  rw [List.drop_eq_getElem_cons hk, (List.getElem?_eq_some_iff.1 h).2]
  rfl
theorem ixF_end {α : Type} {p : α → Bool} {l : List α} {k : Nat} (h : l.length = k) : ixF p k (l.drop k) = -1 := by rw [List.drop_eq_nil_of_le (by omega)]; rfl
attribute [local irreducible] ixF
set_option maxHeartbeats 1000000 in
theorem ixf_has (gp : Nat) (p : Int × Bool → Bool) (x : Option Addr) (m c : Nat) (l : List (Int × Bool)) (w : World) (hn : l.length = m) (hm : m ≤ 9223372036854775807) (hl : RowAt 2 ndC w x l)
    (hp : ∀ W, Below w.heap.size w W → ∀ n, Calls Try.prog 104 #[.agg #[.int .i64 n.1, .bool n.2], .pointer (some ⟨gp, 0, none⟩)] W fun e w' => e = .returned (.bool (p n)) ∧ Below W.heap.size W w') :
    Calls Try.prog 80 #[.slice x m c, .func (.func 104) #[] #[.pointer (some ⟨gp, 0, none⟩)]] w fun e w' => e = .returned (.int .i64 (ixF p 0 l)) ∧ Below w.heap.size w w' := by
  have HN := Lib.hid hn
  have HP := Lib.hid hp
  have HR := Lib.hid hl
  clear hn hp hl
  go_enter Try.func80, Try.ntmps80
  go_wp2_with fail
  go_loopg [5, 8] m (fun g _ i wr => ∃ k : Nat, k + g = m ∧ i = .int .i64 (k : Int) ∧ ixF p k (l.drop k) = ixF p 0 l ∧ Below w.heap.size w wr)
  case atStart => exact ⟨0, by omega, rfl, rfl, Below.refl _ _⟩
  case round =>
    obtain ⟨k, hk, rfl, hb, hbw⟩ := hrel
    have HB := Lib.hid hb
    have HBW := Lib.hid hbw
    clear hb hbw
    by_cases hlt : k < m
    · obtain ⟨y, hy⟩ : ∃ y, l[k]? = some y := ⟨_, List.getElem?_eq_getElem (by rw [HN.out]; exact hlt)⟩
      rcases HR.out.below HBW.out with hnil | ⟨b, off, rfl, hc⟩
      · rw [hnil] at hy; simp at hy
      have z0 := hc k _ hy 0 _ rfl
      have z1 := hc k _ hy 1 _ rfl
      rw [Nat.add_zero] at z0
      have hd := ixF_drop (p := p) hy
      have d1 : (0 : Int) ≤ k := by omega
      have d2 : (k : Int) < m := by omega
      have e1 : wrap64 ((k : Int) + 1) = (k : Int) + 1 := by unfold wrap64; omega
      have HK := Lib.hid hk
      have hcall := HP.out wr HBW.out y
      obtain ⟨D, hD⟩ : ∃ D, p y = D := ⟨_, rfl⟩
      rw [hD] at hcall hd
      have HC := Lib.hid hcall
      clear hc hy hk hcall hD
      cases D with
      | true =>
        have HF : Hid (ixF p 0 l = k) := Lib.hid (HB.out.symm.trans (by rw [hd, if_pos rfl]))
        clear hd
        go_wp2_with fail
        refine HC.out.mono ?_
        rintro e w5 ⟨rfl, hb5⟩
        have HB5 := Lib.hid (below_on HBW.out hb5)
        clear hb5
        go_wp2_with fail
        go_ret
        exact ⟨by rw [HF.out]; rfl, HB5.out⟩
      | false =>
        have HT : Hid (ixF p (k + 1) (l.drop (k + 1)) = ixF p 0 l) := Lib.hid (Eq.trans (by rw [hd, if_neg (by decide)]) HB.out)
        clear hd
        go_wp2_with fail
        refine HC.out.mono ?_
        rintro e w5 ⟨rfl, hb5⟩
        have HB5 := Lib.hid (below_on HBW.out hb5)
        clear hb5
        go_wp2_with fail
        go_roundg (m - (k + 1))
        case rel => exact ⟨k + 1, by have := HK.out; omega, by go_num, HT.out, HB5.out⟩
        case measure => have := HK.out; omega
    · have hkm : m = k := by omega
      subst hkm
      have HF : Hid (ixF p 0 l = -1) := Lib.hid (HB.out.symm.trans (ixF_end HN.out))
      go_wp2_with fail
      go_ret
      exact ⟨by rw [HF.out]; rfl, HBW.out⟩
end Go.Proofs.Ytjienmjpfklgeaa
namespace Go.Proofs.Ytjienmjpfklgeaa
open Go.RowKit
set_option maxRecDepth 100000
attribute [local irreducible] ixF
theorem containsf_has (b : Bool) (gp : Nat) (p : Int × Bool → Bool) (x : Option Addr) (m c : Nat) (l : List (Int × Bool)) (w : World) (hb : l.any p = b) (hn : l.length = m) (hm : m ≤ 9223372036854775807) (hl : RowAt 2 ndC w x l)
    (hp : ∀ W, Below w.heap.size w W → ∀ n, Calls Try.prog 104 #[.agg #[.int .i64 n.1, .bool n.2], .pointer (some ⟨gp, 0, none⟩)] W fun e w' => e = .returned (.bool (p n)) ∧ Below W.heap.size W w') :
    Calls Try.prog 41 #[.slice x m c, .func (.func 104) #[] #[.pointer (some ⟨gp, 0, none⟩)]] w fun e w' => e = .returned (.bool b) ∧ Below w.heap.size w w' := by
  have hc := ixf_has gp p x m c l w hn hm hl hp
  have hi := ixF_iff p l 0
  obtain ⟨z, hz⟩ : ∃ z, ixF p 0 l = z := ⟨_, rfl⟩
  rw [hz, hb] at hi
  rw [hz] at hc
  have HC := Lib.hid hc
  clear hz hb hn hm hl hp hc
  rcases hi with ⟨h1, rfl⟩ | ⟨h1, rfl⟩
  · go_enter Try.func41, Try.ntmps41
    go_wp2_with fail
    refine HC.out.mono ?_
    rintro e w1 ⟨rfl, hb1⟩
    have HB := Lib.hid hb1
    clear hb1
    go_wp2_with fail
    go_ret
    exact ⟨rfl, HB.out⟩
  · have h2 : ¬ 0 ≤ z := by omega
    go_enter Try.func41, Try.ntmps41
    go_wp2_with fail
    refine HC.out.mono ?_
    rintro e w1 ⟨rfl, hb1⟩
    have HB := Lib.hid hb1
    clear hb1
    go_wp2_with fail
    go_ret
    exact ⟨by show Ending.returned (.bool (decide (0 ≤ z))) = _; rw [decide_eq_false (by omega)], HB.out⟩
theorem has_is (b : Bool) (pt : Int) (x : Option Addr) (m c : Nat) (l : List (Int × Bool)) (w : World) (hb : (l.any fun n => decide (n.1 = pt)) = b) (hn : l.length = m) (hm : m ≤ 9223372036854775807) (hl : RowAt 2 ndC w x l) :
    Calls Try.prog 95 #[.slice x m c, .int .i64 pt] w fun e w' => e = .returned (.bool b) ∧ Below w.heap.size w w' := by
  have hB1 := below1 w (.cells #[.int .i64 pt] 3)
  have hg := alloc1 w (.cells #[.int .i64 pt] 3) (Below.refl _ _)
  have HC := Lib.hid (containsf_has b w.heap.size (fun n => decide (n.1 = pt)) x m c l (w.alloc (.cells #[.int .i64 pt] 3)) hb hn hm (hl.below hB1) (fun W hW n => has1_is w.heap.size pt 3 (0, 0) n W (blk_keep hW hg)))
  have HB := Lib.hid hB1
  clear hb hn hm hl hB1 hg
  go_enter Try.func95, Try.ntmps95
  go_wp2_with fail
  refine HC.out.mono ?_
  rintro e w1 ⟨rfl, hb1⟩
  have HB1 := Lib.hid (below_on HB.out hb1)
  clear hb1
  go_wp2_with fail
  go_ret
  exact ⟨rfl, HB1.out⟩
end Go.Proofs.Ytjienmjpfklgeaa
namespace Go.Proofs.Ytjienmjpfklgeaa
open Go.RowKit
set_option maxRecDepth 100000
attribute [local irreducible] ixF
theorem key_int (y : Int) (w : World) : Calls Try.prog 91 #[.int .i64 y] w fun e w' => e = .returned (.int .i64 y) ∧ w = w' := by
  go_enter Try.func91, Try.ntmps91
  go_wp2_with fail
  go_ret
  exact ⟨rfl, rfl⟩
theorem twice1_is (b : Bool) (gk gx : Nat) (x y : Int) (tk tx : TypeId) (f1 f2 : Nat × Nat) (w : World) (hb : decide (y = x) = b) (hk : w.heap[gk]? = some (.cells #[.func (.func 91) #[] #[]] tk f1)) (hx : w.heap[gx]? = some (.cells #[.int .i64 x] tx f2)) :
    Calls Try.prog 101 #[.int .i64 y, .pointer (some ⟨gk, 0, none⟩), .pointer (some ⟨gx, 0, none⟩)] w fun e w' => e = .returned (.bool b) ∧ Below w.heap.size w w' := by
  have HK := Lib.hid hk
  have HX := Lib.hid hx
  have hbe : (x == y) = b := by
    rw [← hb]
    by_cases h : y = x
    · subst h; simp
    · rw [decide_eq_false h]; simpa using fun q => h q.symm
  clear hk hx hb
  have k1 : ∀ w', Below w.heap.size w w' → Calls Try.prog 91 #[.int .i64 x] w' fun e w'' => e = .returned (.int .i64 x) ∧ Below w.heap.size w w'' :=
    fun w' hw' => (key_int x w').mono (fun e w9 ⟨h1, h2⟩ => ⟨h1, h2 ▸ hw'⟩)
  have k2 : ∀ w', Below w.heap.size w w' → Calls Try.prog 91 #[.int .i64 y] w' fun e w'' => e = .returned (.int .i64 y) ∧ Below w.heap.size w w'' :=
    fun w' hw' => (key_int y w').mono (fun e w9 ⟨h1, h2⟩ => ⟨h1, h2 ▸ hw'⟩)
  go_enter Try.func101, Try.ntmps101
  go_wp2_with fail
  refine wp_region_calm (by kernel_rfl) (by kernel_rfl) ?_
  repeat
    (with_reducible apply wpQuiet_step
     intro K hK
     go_simp
     first
       | (refine hK _ ?_; clear hK K)
       | (apply Exists.intro
          refine ⟨fun w' hw' => ?_, hK _ ?_⟩
          ·
            (first
             | with_reducible exact k1 _ hw'
             | with_reducible exact k2 _ hw'
             | (have e0 := blk_cell (blk_keep hw' HK.out) 0 _ rfl
                have e1 := blk_cell (blk_keep hw' HX.out) 0 _ rfl
                go_simp
                first | done | with_reducible exact rfl | with_reducible exact ⟨rfl, rfl⟩ | with_reducible exact k1 _ hw' | with_reducible exact k2 _ hw'))
          clear hK K))
  refine wpQuiet_nil ?_
  intro w7 hw7
  go_wp2_with fail
  go_ret
  exact ⟨rfl, hw7⟩
end Go.Proofs.Ytjienmjpfklgeaa
namespace Go.Proofs.Ytjienmjpfklgeaa
open Go.RowKit
set_option maxRecDepth 100000
attribute [local irreducible] ixF hasI
set_option maxHeartbeats 1000000 in
theorem ixf_tw (gk gx : Nat) (p : Int → Bool) (x : Option Addr) (m c : Nat) (l : List Int) (w : World) (hn : l.length = m) (hm : m ≤ 9223372036854775807) (hl : RowAt 1 intC w x l)
    (hp : ∀ W, Below w.heap.size w W → ∀ n, Calls Try.prog 101 #[.int .i64 n, .pointer (some ⟨gk, 0, none⟩), .pointer (some ⟨gx, 0, none⟩)] W fun e w' => e = .returned (.bool (p n)) ∧ Below W.heap.size W w') :
    Calls Try.prog 79 #[.slice x m c, .func (.func 101) #[] #[.pointer (some ⟨gk, 0, none⟩), .pointer (some ⟨gx, 0, none⟩)]] w fun e w' => e = .returned (.int .i64 (ixF p 0 l)) ∧ Below w.heap.size w w' := by
  have HN := Lib.hid hn
  have HP := Lib.hid hp
  have HR := Lib.hid hl
  clear hn hp hl
  go_enter Try.func79, Try.ntmps79
  go_wp2_with fail
  go_loopg [5, 8] m (fun g _ i wr => ∃ k : Nat, k + g = m ∧ i = .int .i64 (k : Int) ∧ ixF p k (l.drop k) = ixF p 0 l ∧ Below w.heap.size w wr)
  case atStart => exact ⟨0, by omega, rfl, rfl, Below.refl _ _⟩
  case round =>
    obtain ⟨k, hk, rfl, hb, hbw⟩ := hrel
    have HB := Lib.hid hb
    have HBW := Lib.hid hbw
    clear hb hbw
    by_cases hlt : k < m
    · obtain ⟨y, hy⟩ : ∃ y, l[k]? = some y := ⟨_, List.getElem?_eq_getElem (by rw [HN.out]; exact hlt)⟩
      rcases HR.out.below HBW.out with hnil | ⟨b, off, rfl, hc⟩
      · rw [hnil] at hy; simp at hy
      have z0 := hc k _ hy 0 _ rfl
      rw [Nat.add_zero, Nat.mul_one] at z0
      have hd := ixF_drop (p := p) hy
      have d1 : (0 : Int) ≤ k := by omega
      have d2 : (k : Int) < m := by omega
      have e1 : wrap64 ((k : Int) + 1) = (k : Int) + 1 := by unfold wrap64; omega
      have HK := Lib.hid hk
      have hcall := HP.out wr HBW.out y
      obtain ⟨D, hD⟩ : ∃ D, p y = D := ⟨_, rfl⟩
      rw [hD] at hcall hd
      have HC := Lib.hid hcall
      clear hc hy hk hcall hD
      cases D with
      | true =>
        have HF : Hid (ixF p 0 l = k) := Lib.hid (HB.out.symm.trans (by rw [hd, if_pos rfl]))
        clear hd
        go_wp2_with fail
        refine HC.out.mono ?_
        rintro e w5 ⟨rfl, hb5⟩
        have HB5 := Lib.hid (below_on HBW.out hb5)
        clear hb5
        go_wp2_with fail
        go_ret
        exact ⟨by rw [HF.out]; rfl, HB5.out⟩
      | false =>
        have HT : Hid (ixF p (k + 1) (l.drop (k + 1)) = ixF p 0 l) := Lib.hid (Eq.trans (by rw [hd, if_neg (by decide)]) HB.out)
        clear hd
        go_wp2_with fail
        refine HC.out.mono ?_
        rintro e w5 ⟨rfl, hb5⟩
        have HB5 := Lib.hid (below_on HBW.out hb5)
        clear hb5
        go_wp2_with fail
        go_roundg (m - (k + 1))
        case rel => exact ⟨k + 1, by have := HK.out; omega, by go_num, HT.out, HB5.out⟩
        case measure => have := HK.out; omega
    · have hkm : m = k := by omega
      subst hkm
      have HF : Hid (ixF p 0 l = -1) := Lib.hid (HB.out.symm.trans (ixF_end HN.out))
      go_wp2_with fail
      go_ret
      exact ⟨by rw [HF.out]; rfl, HBW.out⟩
theorem containsf_tw (b : Bool) (gk gx : Nat) (p : Int → Bool) (x : Option Addr) (m c : Nat) (l : List Int) (w : World) (hb : l.any p = b) (hn : l.length = m) (hm : m ≤ 9223372036854775807) (hl : RowAt 1 intC w x l)
    (hp : ∀ W, Below w.heap.size w W → ∀ n, Calls Try.prog 101 #[.int .i64 n, .pointer (some ⟨gk, 0, none⟩), .pointer (some ⟨gx, 0, none⟩)] W fun e w' => e = .returned (.bool (p n)) ∧ Below W.heap.size W w') :
    Calls Try.prog 39 #[.slice x m c, .func (.func 101) #[] #[.pointer (some ⟨gk, 0, none⟩), .pointer (some ⟨gx, 0, none⟩)]] w fun e w' => e = .returned (.bool b) ∧ Below w.heap.size w w' := by
  have hc := ixf_tw gk gx p x m c l w hn hm hl hp
  have hi := ixF_iff p l 0
  obtain ⟨z, hz⟩ : ∃ z, ixF p 0 l = z := ⟨_, rfl⟩
  rw [hz, hb] at hi
  rw [hz] at hc
  have HC := Lib.hid hc
  clear hz hb hn hm hl hp hc
  rcases hi with ⟨h1, rfl⟩ | ⟨h1, rfl⟩
  · go_enter Try.func39, Try.ntmps39
    go_wp2_with fail
    refine HC.out.mono ?_
    rintro e w1 ⟨rfl, hb1⟩
    have HB := Lib.hid hb1
    clear hb1
    go_wp2_with fail
    go_ret
    exact ⟨rfl, HB.out⟩
  · have h2 : ¬ 0 ≤ z := by omega
    go_enter Try.func39, Try.ntmps39
    go_wp2_with fail
    refine HC.out.mono ?_
    rintro e w1 ⟨rfl, hb1⟩
    have HB := Lib.hid hb1
    clear hb1
    go_wp2_with fail
    go_ret
    exact ⟨by show Ending.returned (.bool (decide (0 ≤ z))) = _; rw [decide_eq_false (by omega)], HB.out⟩
/-- is a number of the row among those ahead of it? -/
def dupI : List Int → List Int → Bool
  | _, [] => false
  | pre, y :: t => (pre.any fun n => decide (n = y)) || dupI (pre ++ [y]) t
theorem dupI_drop {l : List Int} {y : Int} {k : Nat} (h : l[k]? = some y) : dupI (l.take k) (l.drop k) = (((l.take k).any fun n => decide (n = y)) || dupI (l.take (k + 1)) (l.drop (k + 1))) := by
  have hk : k < l.length := (List.getElem?_eq_some_iff.1 h).1
  rw [List.drop_eq_getElem_cons hk, (List.getElem?_eq_some_iff.1 h).2, List.take_add_one, h]
  rfl
theorem dupI_end {l : List Int} {k : Nat} (h : l.length = k) : dupI (l.take k) (l.drop k) = false := by rw [List.drop_eq_nil_of_le (by omega)]; rfl
attribute [local irreducible] dupI
set_option maxHeartbeats 2000000 in
theorem twice_int (x : Option Addr) (m c : Nat) (l : List Int) (w : World) (hn : l.length = m) (hmc : m ≤ c) (hm : c ≤ 9223372036854775807) (hl : RowAt 1 intC w x l) :
    Calls Try.prog 90 #[.slice x m c, .func (.func 91) #[] #[]] w fun e w' => e = .returned (.bool (dupI [] l)) ∧ Below w.heap.size w w' := by
  have HN := Lib.hid hn
  have HR := Lib.hid hl
  clear hn hl
  obtain ⟨gkb, hgkb⟩ : ∃ g, g = w.heap.size := ⟨_, rfl⟩
  have HG := Lib.hid hgkb
  go_enter Try.func90, Try.ntmps90
  go_upto_region 1 with fail
  have hk0 := alloc1 w (.cells #[.func (.func 91) #[] #[]] 133) (Below.refl _ _)
  have hb0 := below1 w (.cells #[.func (.func 91) #[] #[]] 133)
  obtain ⟨W, hW⟩ : ∃ W, W = w.alloc (.cells #[.func (.func 91) #[] #[]] 133) := ⟨_, rfl⟩
  rw [← hW] at hk0 hb0 ⊢
  rw [← hgkb] at hk0 ⊢
  have HK0 := Lib.hid hk0
  have HB0 := Lib.hid hb0
  clear hW hk0 hb0 hgkb
  go_wp2_with fail
  go_loopg [5, 6, 9] m (fun g _ _ i wr => ∃ k : Nat, k + g = m ∧ i = .int .i64 (k : Int) ∧ dupI (l.take k) (l.drop k) = dupI [] l ∧ Below W.heap.size W wr)
  case atStart => exact ⟨0, by omega, rfl, rfl, Below.refl _ _⟩
  case round =>
    obtain ⟨k, hk, rfl, hb, hbw⟩ := hrel
    have HB := Lib.hid hb
    have HBW := Lib.hid hbw
    clear hb hbw
    by_cases hlt : k < m
    · obtain ⟨y, hy⟩ : ∃ y, l[k]? = some y := ⟨_, List.getElem?_eq_getElem (by rw [HN.out]; exact hlt)⟩
      have hrow := HR.out.below (below_on HB0.out HBW.out)
      have HROW := Lib.hid hrow
      rcases hrow with hnil | ⟨b, off, rfl, hc⟩
      · rw [hnil] at hy; simp at hy
      have z0 := hc k _ hy 0 _ rfl
      rw [Nat.add_zero, Nat.mul_one] at z0
      have hd := dupI_drop hy
      have d1 : (0 : Int) ≤ k := by omega
      have d2 : (k : Int) < m := by omega
      have d3 : (k : Int) ≤ c := by omega
      have d4 : k ≤ c := by omega
      have e1 : wrap64 ((k : Int) + 1) = (k : Int) + 1 := by unfold wrap64; omega
      have HK := Lib.hid hk
      have hbx := below1 wr (.cells #[.int .i64 y] 3)
      have hgx := alloc1 wr (.cells #[.int .i64 y] 3) (Below.refl _ _)
      obtain ⟨D, hD⟩ : ∃ D, ((l.take k).any fun n => decide (n = y)) = D := ⟨_, rfl⟩
      rw [hD] at hd
      have HC := Lib.hid (containsf_tw D gkb wr.heap.size (fun n => decide (n = y)) (some ⟨b, off, none⟩) k c (l.take k) (wr.alloc (.cells #[.int .i64 y] 3)) hD (by rw [List.length_take, HN.out]; omega) (by omega) ((HROW.out.take k).below hbx) (fun V hV n => twice1_is _ gkb wr.heap.size y n 133 3 (0, 0) (0, 0) V rfl (blk_keep hV (blk_keep hbx (blk_keep HBW.out HK0.out))) (blk_keep hV hgx)))
      have HBX := Lib.hid hbx
      clear hc hy hk hbx hgx hD HROW
      cases D with
      | true =>
        have HF : Hid (dupI [] l = true) := Lib.hid (HB.out.symm.trans (by rw [hd]; rfl))
        clear hd
        go_wp2_with fail
        refine HC.out.mono ?_
        rintro e w5 ⟨rfl, hb5⟩
        have HB5 := Lib.hid (below_on HB0.out (below_on HBW.out (below_on HBX.out hb5)))
        clear hb5
        go_wp2_with fail
        go_ret
        exact ⟨by rw [HF.out]; rfl, HB5.out⟩
      | false =>
        have HT : Hid (dupI (l.take (k + 1)) (l.drop (k + 1)) = dupI [] l) := Lib.hid (Eq.trans (by rw [hd]; rfl) HB.out)
        clear hd
        go_wp2_with fail
        refine HC.out.mono ?_
        rintro e w5 ⟨rfl, hb5⟩
        have HB5 := Lib.hid (below_on HBW.out (below_on HBX.out hb5))
        clear hb5
        go_wp2_with fail
        go_roundg (m - (k + 1))
        case rel => exact ⟨k + 1, by have := HK.out; omega, by go_num, HT.out, HB5.out⟩
        case measure => have := HK.out; omega
    · have hkm : m = k := by omega
      subst hkm
      have HF : Hid (dupI [] l = false) := Lib.hid (HB.out.symm.trans (dupI_end HN.out))
      have HB5 := Lib.hid (below_on HB0.out HBW.out)
      go_wp2_with fail
      go_ret
      exact ⟨by rw [HF.out]; rfl, HB5.out⟩
end Go.Proofs.Ytjienmjpfklgeaa
namespace Go.Proofs.Ytjienmjpfklgeaa
open Go.RowKit
set_option maxRecDepth 100000
attribute [local irreducible] ixF
theorem key_nd (y : Int × Bool) (w : World) : Calls Try.prog 94 #[.agg #[.int .i64 y.1, .bool y.2]] w fun e w' => e = .returned (.int .i64 y.1) ∧ Below w.heap.size w w' := by
  go_enter Try.func94, Try.ntmps94
  go_wp2_with fail
  go_ret
  exact ⟨rfl, below1 _ _⟩
theorem twice1n_is (b : Bool) (gk gx : Nat) (x y : Int × Bool) (tk tx : TypeId) (f1 f2 : Nat × Nat) (w : World) (hb : decide (y.1 = x.1) = b) (hk : w.heap[gk]? = some (.cells #[.func (.func 94) #[] #[]] tk f1)) (hx : w.heap[gx]? = some (.cells #[.int .i64 x.1, .bool x.2] tx f2)) :
    Calls Try.prog 103 #[.agg #[.int .i64 y.1, .bool y.2], .pointer (some ⟨gk, 0, none⟩), .pointer (some ⟨gx, 0, none⟩)] w fun e w' => e = .returned (.bool b) ∧ Below w.heap.size w w' := by
  have HK := Lib.hid hk
  have HX := Lib.hid hx
  have hbe : (x.1 == y.1) = b := by
    rw [← hb]
    by_cases h : y.1 = x.1
    · rw [h]; simp
    · rw [decide_eq_false h]; simpa using fun q => h q.symm
  clear hk hx hb
  go_enter Try.func103, Try.ntmps103
  go_upto_region 1 with fail
  have hbY := below1 w (.cells #[.int .i64 y.1, .bool y.2] 46)
  have hgY := alloc1 w (.cells #[.int .i64 y.1, .bool y.2] 46) (Below.refl _ _)
  obtain ⟨V, hV⟩ : ∃ V, V = w.alloc (.cells #[.int .i64 y.1, .bool y.2] 46) := ⟨_, rfl⟩
  obtain ⟨gy, hgy⟩ : ∃ g, g = w.heap.size := ⟨_, rfl⟩
  rw [← hV] at hbY hgY ⊢
  rw [← hgy] at hgY ⊢
  have HY := Lib.hid hgY
  have HBY := Lib.hid hbY
  have HK := Lib.hid (blk_keep hbY HK.out)
  have HX := Lib.hid (blk_keep hbY HX.out)
  have k1 : ∀ w', Below V.heap.size V w' → Calls Try.prog 94 #[.agg #[.int .i64 x.1, .bool x.2]] w' fun e w'' => e = .returned (.int .i64 x.1) ∧ Below V.heap.size V w'' :=
    fun w' hw' => (key_nd x w').mono (fun e w9 ⟨h1, h2⟩ => ⟨h1, below_on hw' h2⟩)
  have k2 : ∀ w', Below V.heap.size V w' → Calls Try.prog 94 #[.agg #[.int .i64 y.1, .bool y.2]] w' fun e w'' => e = .returned (.int .i64 y.1) ∧ Below V.heap.size V w'' :=
    fun w' hw' => (key_nd y w').mono (fun e w9 ⟨h1, h2⟩ => ⟨h1, below_on hw' h2⟩)
  clear hV hgy hbY hgY
  refine wp_region_calm (by kernel_rfl) (by kernel_rfl) ?_
  repeat
    (with_reducible apply wpQuiet_step
     intro K hK
     go_simp
     first
       | (refine hK _ ?_; clear hK K)
       | (apply Exists.intro
          refine ⟨fun w' hw' => ?_, hK _ ?_⟩
          ·
            (first
             | with_reducible exact k1 _ hw'
             | with_reducible exact k2 _ hw'
             | (have e0 := blk_cell (blk_keep hw' HK.out) 0 _ rfl
                have e1 := blk_cell (blk_keep hw' HX.out) 0 _ rfl
                have e2 := blk_cell (blk_keep hw' HX.out) 1 _ rfl
                have e3 := blk_cell (blk_keep hw' HY.out) 0 _ rfl
                have e4 := blk_cell (blk_keep hw' HY.out) 1 _ rfl
                go_simp
                first | done | with_reducible exact rfl | with_reducible exact ⟨rfl, rfl⟩ | with_reducible exact k1 _ hw' | with_reducible exact k2 _ hw'))
          clear hK K))
  refine wpQuiet_nil ?_
  intro w7 hw7
  go_wp2_with fail
  go_ret
  exact ⟨rfl, below_on HBY.out hw7⟩
end Go.Proofs.Ytjienmjpfklgeaa
namespace Go.Proofs.Ytjienmjpfklgeaa
open Go.RowKit
set_option maxRecDepth 100000
attribute [local irreducible] ixF
set_option maxHeartbeats 1000000 in
theorem ixf_twn (gk gx : Nat) (p : Int × Bool → Bool) (x : Option Addr) (m c : Nat) (l : List (Int × Bool)) (w : World) (hn : l.length = m) (hm : m ≤ 9223372036854775807) (hl : RowAt 2 ndC w x l)
    (hp : ∀ W, Below w.heap.size w W → ∀ n, Calls Try.prog 103 #[.agg #[.int .i64 n.1, .bool n.2], .pointer (some ⟨gk, 0, none⟩), .pointer (some ⟨gx, 0, none⟩)] W fun e w' => e = .returned (.bool (p n)) ∧ Below W.heap.size W w') :
    Calls Try.prog 80 #[.slice x m c, .func (.func 103) #[] #[.pointer (some ⟨gk, 0, none⟩), .pointer (some ⟨gx, 0, none⟩)]] w fun e w' => e = .returned (.int .i64 (ixF p 0 l)) ∧ Below w.heap.size w w' := by
  have HN := Lib.hid hn
  have HP := Lib.hid hp
  have HR := Lib.hid hl
  clear hn hp hl
  go_enter Try.func80, Try.ntmps80
  go_wp2_with fail
  go_loopg [5, 8] m (fun g _ i wr => ∃ k : Nat, k + g = m ∧ i = .int .i64 (k : Int) ∧ ixF p k (l.drop k) = ixF p 0 l ∧ Below w.heap.size w wr)
  case atStart => exact ⟨0, by omega, rfl, rfl, Below.refl _ _⟩
  case round =>
    obtain ⟨k, hk, rfl, hb, hbw⟩ := hrel
    have HB := Lib.hid hb
    have HBW := Lib.hid hbw
    clear hb hbw
    by_cases hlt : k < m
    · obtain ⟨y, hy⟩ : ∃ y, l[k]? = some y := ⟨_, List.getElem?_eq_getElem (by rw [HN.out]; exact hlt)⟩
      rcases HR.out.below HBW.out with hnil | ⟨b, off, rfl, hc⟩
      · rw [hnil] at hy; simp at hy
      have z0 := hc k _ hy 0 _ rfl
      have z1 := hc k _ hy 1 _ rfl
      rw [Nat.add_zero] at z0
      have hd := ixF_drop (p := p) hy
      have d1 : (0 : Int) ≤ k := by omega
      have d2 : (k : Int) < m := by omega
      have e1 : wrap64 ((k : Int) + 1) = (k : Int) + 1 := by unfold wrap64; omega
      have HK := Lib.hid hk
      have hcall := HP.out wr HBW.out y
      obtain ⟨D, hD⟩ : ∃ D, p y = D := ⟨_, rfl⟩
      rw [hD] at hcall hd
      have HC := Lib.hid hcall
      clear hc hy hk hcall hD
      cases D with
      | true =>
        have HF : Hid (ixF p 0 l = k) := Lib.hid (HB.out.symm.trans (by rw [hd, if_pos rfl]))
        clear hd
        go_wp2_with fail
        refine HC.out.mono ?_
        rintro e w5 ⟨rfl, hb5⟩
        have HB5 := Lib.hid (below_on HBW.out hb5)
        clear hb5
        go_wp2_with fail
        go_ret
        exact ⟨by rw [HF.out]; rfl, HB5.out⟩
      | false =>
        have HT : Hid (ixF p (k + 1) (l.drop (k + 1)) = ixF p 0 l) := Lib.hid (Eq.trans (by rw [hd, if_neg (by decide)]) HB.out)
        clear hd
        go_wp2_with fail
        refine HC.out.mono ?_
        rintro e w5 ⟨rfl, hb5⟩
        have HB5 := Lib.hid (below_on HBW.out hb5)
        clear hb5
        go_wp2_with fail
        go_roundg (m - (k + 1))
        case rel => exact ⟨k + 1, by have := HK.out; omega, by go_num, HT.out, HB5.out⟩
        case measure => have := HK.out; omega
    · have hkm : m = k := by omega
      subst hkm
      have HF : Hid (ixF p 0 l = -1) := Lib.hid (HB.out.symm.trans (ixF_end HN.out))
      go_wp2_with fail
      go_ret
      exact ⟨by rw [HF.out]; rfl, HBW.out⟩
theorem containsf_twn (b : Bool) (gk gx : Nat) (p : Int × Bool → Bool) (x : Option Addr) (m c : Nat) (l : List (Int × Bool)) (w : World) (hb : l.any p = b) (hn : l.length = m) (hm : m ≤ 9223372036854775807) (hl : RowAt 2 ndC w x l)
    (hp : ∀ W, Below w.heap.size w W → ∀ n, Calls Try.prog 103 #[.agg #[.int .i64 n.1, .bool n.2], .pointer (some ⟨gk, 0, none⟩), .pointer (some ⟨gx, 0, none⟩)] W fun e w' => e = .returned (.bool (p n)) ∧ Below W.heap.size W w') :
    Calls Try.prog 41 #[.slice x m c, .func (.func 103) #[] #[.pointer (some ⟨gk, 0, none⟩), .pointer (some ⟨gx, 0, none⟩)]] w fun e w' => e = .returned (.bool b) ∧ Below w.heap.size w w' := by
  have hc := ixf_twn gk gx p x m c l w hn hm hl hp
  have hi := ixF_iff p l 0
  obtain ⟨z, hz⟩ : ∃ z, ixF p 0 l = z := ⟨_, rfl⟩
  rw [hz, hb] at hi
  rw [hz] at hc
  have HC := Lib.hid hc
  clear hz hb hn hm hl hp hc
  rcases hi with ⟨h1, rfl⟩ | ⟨h1, rfl⟩
  · go_enter Try.func41, Try.ntmps41
    go_wp2_with fail
    refine HC.out.mono ?_
    rintro e w1 ⟨rfl, hb1⟩
    have HB := Lib.hid hb1
    clear hb1
    go_wp2_with fail
    go_ret
    exact ⟨rfl, HB.out⟩
  · have h2 : ¬ 0 ≤ z := by omega
    go_enter Try.func41, Try.ntmps41
    go_wp2_with fail
    refine HC.out.mono ?_
    rintro e w1 ⟨rfl, hb1⟩
    have HB := Lib.hid hb1
    clear hb1
    go_wp2_with fail
    go_ret
    exact ⟨by show Ending.returned (.bool (decide (0 ≤ z))) = _; rw [decide_eq_false (by omega)], HB.out⟩
/-- is a number of the row among those ahead of it? -/
def dupN : List (Int × Bool) → List (Int × Bool) → Bool
  | _, [] => false
  | pre, y :: t => (pre.any fun n => decide (n.1 = y.1)) || dupN (pre ++ [y]) t
theorem dupN_drop {l : List (Int × Bool)} {y : Int × Bool} {k : Nat} (h : l[k]? = some y) : dupN (l.take k) (l.drop k) = (((l.take k).any fun n => decide (n.1 = y.1)) || dupN (l.take (k + 1)) (l.drop (k + 1))) := by
  have hk : k < l.length := (List.getElem?_eq_some_iff.1 h).1
  rw [List.drop_eq_getElem_cons hk, (List.getElem?_eq_some_iff.1 h).2, List.take_add_one, h]
  rfl
theorem dupN_end {l : List (Int × Bool)} {k : Nat} (h : l.length = k) : dupN (l.take k) (l.drop k) = false := by rw [List.drop_eq_nil_of_le (by omega)]; rfl
attribute [local irreducible] dupN
set_option maxHeartbeats 2000000 in
theorem twice_nd (x : Option Addr) (m c : Nat) (l : List (Int × Bool)) (w : World) (hn : l.length = m) (hmc : m ≤ c) (hm : c ≤ 9223372036854775807) (hl : RowAt 2 ndC w x l) :
    Calls Try.prog 93 #[.slice x m c, .func (.func 94) #[] #[]] w fun e w' => e = .returned (.bool (dupN [] l)) ∧ Below w.heap.size w w' := by
  have HN := Lib.hid hn
  have HR := Lib.hid hl
  clear hn hl
  obtain ⟨gkb, hgkb⟩ : ∃ g, g = w.heap.size := ⟨_, rfl⟩
  have HG := Lib.hid hgkb
  go_enter Try.func93, Try.ntmps93
  go_upto_region 1 with fail
  have hk0 := alloc1 w (.cells #[.func (.func 94) #[] #[]] 135) (Below.refl _ _)
  have hb0 := below1 w (.cells #[.func (.func 94) #[] #[]] 135)
  obtain ⟨W, hW⟩ : ∃ W, W = w.alloc (.cells #[.func (.func 94) #[] #[]] 135) := ⟨_, rfl⟩
  rw [← hW] at hk0 hb0 ⊢
  rw [← hgkb] at hk0 ⊢
  have HK0 := Lib.hid hk0
  have HB0 := Lib.hid hb0
  clear hW hk0 hb0 hgkb
  go_wp2_with fail
  go_loopg [5, 6, 9] m (fun g _ _ i wr => ∃ k : Nat, k + g = m ∧ i = .int .i64 (k : Int) ∧ dupN (l.take k) (l.drop k) = dupN [] l ∧ Below W.heap.size W wr)
  case atStart => exact ⟨0, by omega, rfl, rfl, Below.refl _ _⟩
  case round =>
    obtain ⟨k, hk, rfl, hb, hbw⟩ := hrel
    have HB := Lib.hid hb
    have HBW := Lib.hid hbw
    clear hb hbw
    by_cases hlt : k < m
    · obtain ⟨y, hy⟩ : ∃ y, l[k]? = some y := ⟨_, List.getElem?_eq_getElem (by rw [HN.out]; exact hlt)⟩
      have hrow := HR.out.below (below_on HB0.out HBW.out)
      have HROW := Lib.hid hrow
      rcases hrow with hnil | ⟨b, off, rfl, hc⟩
      · rw [hnil] at hy; simp at hy
      have z0 := hc k _ hy 0 _ rfl
      have z1 := hc k _ hy 1 _ rfl
      rw [Nat.add_zero] at z0
      have hd := dupN_drop hy
      have d1 : (0 : Int) ≤ k := by omega
      have d2 : (k : Int) < m := by omega
      have d3 : (k : Int) ≤ c := by omega
      have d4 : k ≤ c := by omega
      have e1 : wrap64 ((k : Int) + 1) = (k : Int) + 1 := by unfold wrap64; omega
      have HK := Lib.hid hk
      have hbx := below1 wr (.cells #[.int .i64 y.1, .bool y.2] 46)
      have hgx := alloc1 wr (.cells #[.int .i64 y.1, .bool y.2] 46) (Below.refl _ _)
      obtain ⟨D, hD⟩ : ∃ D, ((l.take k).any fun n => decide (n.1 = y.1)) = D := ⟨_, rfl⟩
      rw [hD] at hd
      have HC := Lib.hid (containsf_twn D gkb wr.heap.size (fun n => decide (n.1 = y.1)) (some ⟨b, off, none⟩) k c (l.take k) (wr.alloc (.cells #[.int .i64 y.1, .bool y.2] 46)) hD (by rw [List.length_take, HN.out]; omega) (by omega) ((HROW.out.take k).below hbx) (fun V hV n => twice1n_is _ gkb wr.heap.size y n 135 46 (0, 0) (0, 0) V rfl (blk_keep hV (blk_keep hbx (blk_keep HBW.out HK0.out))) (blk_keep hV hgx)))
      have HBX := Lib.hid hbx
      clear hc hy hk hbx hgx hD HROW
      cases D with
      | true =>
        have HF : Hid (dupN [] l = true) := Lib.hid (HB.out.symm.trans (by rw [hd]; rfl))
        clear hd
        go_wp2_with fail
        refine HC.out.mono ?_
        rintro e w5 ⟨rfl, hb5⟩
        have HB5 := Lib.hid (below_on HB0.out (below_on HBW.out (below_on HBX.out hb5)))
        clear hb5
        go_wp2_with fail
        go_ret
        exact ⟨by rw [HF.out]; rfl, HB5.out⟩
      | false =>
        have HT : Hid (dupN (l.take (k + 1)) (l.drop (k + 1)) = dupN [] l) := Lib.hid (Eq.trans (by rw [hd]; rfl) HB.out)
        clear hd
        go_wp2_with fail
        refine HC.out.mono ?_
        rintro e w5 ⟨rfl, hb5⟩
        have HB5 := Lib.hid (below_on HBW.out (below_on HBX.out hb5))
        clear hb5
        go_wp2_with fail
        go_roundg (m - (k + 1))
        case rel => exact ⟨k + 1, by have := HK.out; omega, by go_num, HT.out, HB5.out⟩
        case measure => have := HK.out; omega
    · have hkm : m = k := by omega
      subst hkm
      have HF : Hid (dupN [] l = false) := Lib.hid (HB.out.symm.trans (dupN_end HN.out))
      have HB5 := Lib.hid (below_on HB0.out HBW.out)
      go_wp2_with fail
      go_ret
      exact ⟨by rw [HF.out]; rfl, HB5.out⟩
end Go.Proofs.Ytjienmjpfklgeaa
namespace Go.Proofs.Ytjienmjpfklgeaa
open Go.RowKit
set_option maxRecDepth 100000

theorem any_eq {l : List Int} {y : Int} : (l.any fun n => decide (n = y)) = false ↔ y ∉ l := by
  rw [List.any_eq_false]
  constructor
  · intro h hm
    have := h y hm
    simp at this
  · intro h x hx
    simp
    intro e
    exact h (e ▸ hx)
theorem dupI_iff : ∀ (l pre : List Int), dupI pre l = false ↔ (l.Nodup ∧ ∀ y ∈ l, y ∉ pre) := by
  intro l
  induction l with
  | nil => intro pre; exact ⟨fun _ => ⟨List.nodup_nil, by simp⟩, fun _ => rfl⟩
  | cons y l ih =>
    intro pre
    have e : dupI pre (y :: l) = ((pre.any fun n => decide (n = y)) || dupI (pre ++ [y]) l) := rfl
    rw [e, Bool.or_eq_false_iff, any_eq, ih]
    constructor
    · rintro ⟨h1, h2, h3⟩
      refine ⟨List.nodup_cons.2 ⟨fun hm => ?_, h2⟩, fun z hz => ?_⟩
      · exact h3 y hm (by simp)
      · rcases List.mem_cons.1 hz with rfl | hz
        · exact h1
        · exact fun hp => h3 z hz (by simp [hp])
    · rintro ⟨h1, h2⟩
      obtain ⟨g1, g2⟩ := List.nodup_cons.1 h1
      refine ⟨h2 y (by simp), g2, fun z hz hp => ?_⟩
      rcases List.mem_append.1 hp with hp | hp
      · exact h2 z (by simp [hz]) hp
      · simp at hp; subst hp; exact g1 hz
theorem dupN_eq : ∀ (l pre : List (Int × Bool)), dupN pre l = dupI (pre.map (·.1)) (l.map (·.1)) := by
  intro l
  induction l with
  | nil => intro pre; rfl
  | cons y l ih =>
    intro pre
    have e1 : dupN pre (y :: l) = ((pre.any fun n => decide (n.1 = y.1)) || dupN (pre ++ [y]) l) := rfl
    have e2 : dupI (pre.map (·.1)) ((y :: l).map (·.1)) = (((pre.map (·.1)).any fun n => decide (n = y.1)) || dupI (pre.map (·.1) ++ [y.1]) (l.map (·.1))) := rfl
    rw [e1, e2, ih, List.map_append, List.any_map]
    rfl
theorem cntI_count (l : List Int) (s : Int) : cntI l s = l.count s := by
  unfold cntI
  rw [List.count_eq_length_filter]
  congr 1
/-- no number is twice just if each is there once at most -/
theorem dup_count (l : List Int) : dupI [] l = false ↔ ∀ y ∈ l, cntI l y ≤ 1 := by
  rw [dupI_iff]
  constructor
  · intro h y _
    rw [cntI_count]
    exact List.nodup_iff_count.1 h.1 y
  · intro h
    refine ⟨List.nodup_iff_count.2 fun y => ?_, by simp⟩
    by_cases hy : y ∈ l
    · have := h y hy; rwa [cntI_count] at this
    · rw [List.count_eq_zero_of_not_mem hy]; exact Nat.zero_le _
theorem cnt_pos (l : List Int) (s : Int) : 0 < cntI l s ↔ hasI l s = true := by
  rw [cntI_count, List.count_pos_iff]
  unfold hasI
  rw [List.any_eq_true]
  constructor
  · exact fun h => ⟨s, h, decide_eq_true rfl⟩
  · rintro ⟨x, hx, h⟩
    have := of_decide_eq_true h
    subst this
    exact hx
end Go.Proofs.Ytjienmjpfklgeaa
namespace Go.Proofs.Ytjienmjpfklgeaa
open Go.RowKit
set_option maxRecDepth 100000

def hasP (l : List (Int × Bool)) (k : Nat) : Bool := l.any fun n => decide (n.1 = (k : Int))
theorem hasP_map (l : List (Int × Bool)) (k : Nat) : hasI (l.map (·.1)) (k : Int) = hasP l k := by
  unfold hasI hasP
  rw [List.any_map]
  rfl
/-- is the kth point, which lies in section s, as a route wants it? -/
def okPt (t : List Int) (po fl : List (Int × Bool)) (k : Nat) (s : Int) : Bool := (hasI t s == hasP po k) && !(hasI t s && hasP fl k)
def okPts (t : List Int) (po fl : List (Int × Bool)) : Nat → List (BA × Int) → Bool
  | _, [] => true
  | k, p :: l => okPt t po fl k p.2 && okPts t po fl (k + 1) l
theorem okPts_drop {t : List Int} {po fl : List (Int × Bool)} {l : List (BA × Int)} {p : BA × Int} {k : Nat} (h : l[k]? = some p) : okPts t po fl k (l.drop k) = (okPt t po fl k p.2 && okPts t po fl (k + 1) (l.drop (k + 1))) := by
  have hk : k < l.length := (List.getElem?_eq_some_iff.1 h).1
  rw [List.drop_eq_getElem_cons hk, (List.getElem?_eq_some_iff.1 h).2]
  rfl
theorem okPts_end {t : List Int} {po fl : List (Int × Bool)} {l : List (BA × Int)} {k : Nat} (h : l.length = k) : okPts t po fl k (l.drop k) = true := by rw [List.drop_eq_nil_of_le (by omega)]; rfl
theorem okPt_ne {t : List Int} {po fl : List (Int × Bool)} {k : Nat} {s : Int} {b c : Bool} (h1 : hasI t s = b) (h2 : hasP po k = c) (h : b ≠ c) : okPt t po fl k s = false := by
  unfold okPt; rw [h1, h2]; cases b <;> cases c <;> first | rfl | exact absurd rfl h
theorem okPt_no {t : List Int} {po fl : List (Int × Bool)} {k : Nat} {s : Int} (h1 : hasI t s = false) (h2 : hasP po k = false) : okPt t po fl k s = true := by
  unfold okPt; rw [h1, h2]; rfl
theorem okPt_in {t : List Int} {po fl : List (Int × Bool)} {k : Nat} {s : Int} {b : Bool} (h1 : hasI t s = true) (h2 : hasP po k = true) (h3 : hasP fl k = b) : okPt t po fl k s = !b := by
  unfold okPt; rw [h1, h2, h3]; cases b <;> rfl
/-- the section of the kth signal -/
def secOf (L : Lay) (k : Int) : Int := ((L.sg.l[k.toNat]?).map (·.2)).getD 0
theorem secOf_at {L : Lay} {k : Nat} {p : BA × Int} (h : L.sg.l[k]? = some p) : secOf L (k : Int) = p.2 := by unfold secOf; rw [Int.toNat_natCast, h]; rfl
def formedS (L : Lay) (r : Rt) : Bool :=
  (!decide (r.pa.l.length = 0) && !dupI [] (r.pa.l ++ r.ov.l)) && (!hasI (r.pa.l ++ r.ov.l) (secOf L r.sg) && !dupN [] (r.po.l ++ r.fl.l)) && okPts (r.pa.l ++ r.ov.l) r.po.l r.fl.l 0 L.po.l
theorem fs_0 {L : Lay} {r : Rt} (h : r.pa.l.length = 0) : formedS L r = false := by unfold formedS; rw [decide_eq_true h]; rfl
theorem fs_1 {L : Lay} {r : Rt} (h : dupI [] (r.pa.l ++ r.ov.l) = true) : formedS L r = false := by unfold formedS; rw [h]; simp
theorem fs_2 {L : Lay} {r : Rt} (h : hasI (r.pa.l ++ r.ov.l) (secOf L r.sg) = true) : formedS L r = false := by unfold formedS; rw [h]; simp
theorem fs_3 {L : Lay} {r : Rt} (h : dupN [] (r.po.l ++ r.fl.l) = true) : formedS L r = false := by unfold formedS; rw [h]; simp
theorem fs_4 {L : Lay} {r : Rt} (h : okPts (r.pa.l ++ r.ov.l) r.po.l r.fl.l 0 L.po.l = false) : formedS L r = false := by unfold formedS; rw [h]; simp
theorem fs_5 {L : Lay} {r : Rt} (h0 : ¬ r.pa.l.length = 0) (h1 : dupI [] (r.pa.l ++ r.ov.l) = false) (h2 : hasI (r.pa.l ++ r.ov.l) (secOf L r.sg) = false) (h3 : dupN [] (r.po.l ++ r.fl.l) = false) (h4 : okPts (r.pa.l ++ r.ov.l) r.po.l r.fl.l 0 L.po.l = true) : formedS L r = true := by
  unfold formedS; rw [decide_eq_false h0, h1, h2, h3, h4]; rfl
/-- by counting -/
theorem dup_big {l : List Int} {y : Int} (hy : y ∈ l) (h : 1 < cntI l y) : dupI [] l = true := by
  cases hd : dupI [] l with
  | true => rfl
  | false => exact absurd ((dup_count l).1 hd y hy) (by omega)
theorem dup_small {l : List Int} (h : ∀ y ∈ l, ¬ 1 < cntI l y) : dupI [] l = false := (dup_count l).2 (fun y hy => Nat.le_of_not_lt (h y hy))
theorem dupN_map (l : List (Int × Bool)) : dupN [] l = dupI [] (l.map (·.1)) := dupN_eq l []
theorem cnt_no {l : List Int} {s : Int} (h : hasI l s = false) : cntI l s = 0 := by
  have := (cnt_pos l s).1
  rw [h] at this
  cases hc : cntI l s with
  | zero => rfl
  | succ n => exact absurd (this (by omega)) (by decide)
theorem cnt_yes {l : List Int} {s : Int} (h : hasI l s = true) : 0 < cntI l s := (cnt_pos l s).2 h
end Go.Proofs.Ytjienmjpfklgeaa
namespace Go.Proofs.Ytjienmjpfklgeaa
open Go.RowKit
set_option maxRecDepth 100000

/-- what lies in memory while a route is looked at: copies of the layout and of the route -/
structure FoAt (w0 w : World) (gl gr : Nat) (L : Lay) (r : Rt) : Prop where
  lay : w.heap[gl]? = some (.cells #[L.se.v, L.po.v, L.sg.v, L.rt.v] 27)
  rt : w.heap[gr]? = some (.cells #[.string r.nm, .int .i64 r.sg, r.pa.v, r.po.v, r.ov.v, r.fl.v] 44)
  below : Below w0.heap.size w0 w
theorem FoAt.step {w0 w w' : World} {gl gr : Nat} {L : Lay} {r : Rt} (h : FoAt w0 w gl gr L r) (hb : Below w.heap.size w w') : FoAt w0 w' gl gr L r := ⟨blk_keep hb h.lay, blk_keep hb h.rt, below_on h.below hb⟩
theorem has_to (b : Bool) (k : Nat) (x : Option Addr) (m c : Nat) (l : List (Int × Bool)) (w : World) (hb : hasP l k = b) (hn : l.length = m) (hm : m ≤ 9223372036854775807) (hl : RowAt 2 ndC w x l) :
    Calls Try.prog 95 #[.slice x m c, .int .i64 (k : Int)] w fun e w' => e = .returned (.bool b) ∧ Below w.heap.size w w' := has_is b k x m c l w (by unfold hasP at hb; exact hb) hn hm hl
attribute [local irreducible] hasI hasP dupI dupN okPt okPts secOf formedS Sl.v

set_option maxRecDepth 100000 in
set_option maxHeartbeats 20000000 in
theorem formed_is (L : Lay) (r : Rt) (w : World) (hL : LayAt w L) (hr : RtAt w r) (hsg : 0 ≤ r.sg) (hsn : r.sg < (L.sg.l.length : Int)) (hl1 : r.pa.l.length + r.ov.l.length ≤ 100000) (hl2 : r.po.l.length + r.fl.l.length ≤ 100000) :
    Calls Try.prog 67 #[.agg #[L.se.v, L.po.v, L.sg.v, L.rt.v], .agg #[.string r.nm, .int .i64 r.sg, r.pa.v, r.po.v, r.ov.v, r.fl.v]] w fun e w' => e = .returned (.bool (formedS L r)) ∧ Below w.heap.size w w' := by
  have HA := Lib.hid hL
  have HTR : Hid (∀ W, Below w.heap.size w W → Calls Try.prog 33 #[.agg #[.string r.nm, .int .i64 r.sg, r.pa.v, r.po.v, r.ov.v, r.fl.v]] W fun e w' => ∃ a n c, e = .returned (.slice a n c) ∧ n = r.pa.l.length + r.ov.l.length ∧ SlAt 1 intC w' ⟨a, c, r.pa.l ++ r.ov.l⟩ ∧ Below W.heap.size W w') := Lib.hid (fun W hb => track_is r W (hr.below hb) hl1)
  have HND : Hid (∀ W, Below w.heap.size w W → Calls Try.prog 34 #[.agg #[.string r.nm, .int .i64 r.sg, r.pa.v, r.po.v, r.ov.v, r.fl.v]] W fun e w' => ∃ a n c, e = .returned (.slice a n c) ∧ n = r.po.l.length + r.fl.l.length ∧ SlAt 2 ndC w' ⟨a, c, r.po.l ++ r.fl.l⟩ ∧ Below W.heap.size W w') := Lib.hid (fun W hb => needs_is r W (hr.below hb) hl2)
  obtain ⟨n1, hn1⟩ : ∃ n, L.se.l.length = n := ⟨_, rfl⟩
  obtain ⟨n2, hn2⟩ : ∃ n, L.po.l.length = n := ⟨_, rfl⟩
  obtain ⟨n3, hn3⟩ : ∃ n, L.sg.l.length = n := ⟨_, rfl⟩
  obtain ⟨n4, hn4⟩ : ∃ n, L.rt.l.length = n := ⟨_, rfl⟩
  obtain ⟨m1, hm1⟩ : ∃ n, r.pa.l.length = n := ⟨_, rfl⟩
  obtain ⟨m2, hm2⟩ : ∃ n, r.po.l.length = n := ⟨_, rfl⟩
  obtain ⟨m3, hm3⟩ : ∃ n, r.ov.l.length = n := ⟨_, rfl⟩
  obtain ⟨m4, hm4⟩ : ∃ n, r.fl.l.length = n := ⟨_, rfl⟩
  have v1 := slv hn1
  have v2 := slv hn2
  have v3 := slv hn3
  have v4 := slv hn4
  have u1 := slv hm1
  have u2 := slv hm2
  have u3 := slv hm3
  have u4 := slv hm4
  have R2 := Lib.hid hL.po.row
  have R3 := Lib.hid hL.sg.row
  have M2 := Lib.hid hL.po.lenM
  have Q2 := Lib.hid hr.po.row
  have Q4 := Lib.hid hr.fl.row
  obtain ⟨T, hT⟩ : ∃ T, r.pa.l ++ r.ov.l = T := ⟨_, rfl⟩
  obtain ⟨N, hN⟩ : ∃ N, r.po.l ++ r.fl.l = N := ⟨_, rfl⟩
  obtain ⟨nm, hnm⟩ : ∃ x, r.nm = x := ⟨_, rfl⟩
  obtain ⟨ks, hks⟩ : ∃ k : Nat, r.sg = (k : Int) := ⟨r.sg.toNat, by omega⟩
  obtain ⟨a1, ha1⟩ : ∃ a, L.se.a = a := ⟨_, rfl⟩
  obtain ⟨c1, hc1⟩ : ∃ a, L.se.c = a := ⟨_, rfl⟩
  rw [ha1, hc1] at v1
  obtain ⟨a2, ha2⟩ : ∃ a, L.po.a = a := ⟨_, rfl⟩
  obtain ⟨c2, hc2⟩ : ∃ a, L.po.c = a := ⟨_, rfl⟩
  rw [ha2, hc2] at v2
  obtain ⟨a3, ha3⟩ : ∃ a, L.sg.a = a := ⟨_, rfl⟩
  obtain ⟨c3, hc3⟩ : ∃ a, L.sg.c = a := ⟨_, rfl⟩
  rw [ha3, hc3] at v3
  obtain ⟨a4, ha4⟩ : ∃ a, L.rt.a = a := ⟨_, rfl⟩
  obtain ⟨c4, hc4⟩ : ∃ a, L.rt.c = a := ⟨_, rfl⟩
  rw [ha4, hc4] at v4
  obtain ⟨b1, hb1⟩ : ∃ a, r.pa.a = a := ⟨_, rfl⟩
  obtain ⟨e1, he1⟩ : ∃ a, r.pa.c = a := ⟨_, rfl⟩
  rw [hb1, he1] at u1
  obtain ⟨b2, hb2⟩ : ∃ a, r.po.a = a := ⟨_, rfl⟩
  obtain ⟨e2, he2⟩ : ∃ a, r.po.c = a := ⟨_, rfl⟩
  rw [hb2, he2] at u2
  obtain ⟨b3, hb3⟩ : ∃ a, r.ov.a = a := ⟨_, rfl⟩
  obtain ⟨e3, he3⟩ : ∃ a, r.ov.c = a := ⟨_, rfl⟩
  rw [hb3, he3] at u3
  obtain ⟨b4, hb4⟩ : ∃ a, r.fl.a = a := ⟨_, rfl⟩
  obtain ⟨e4, he4⟩ : ∃ a, r.fl.c = a := ⟨_, rfl⟩
  rw [hb4, he4] at u4
  rw [ha2] at R2
  rw [ha3] at R3
  rw [hb2] at Q2
  rw [hb4] at Q4
  rw [hn3, hks] at hsn
  rw [hnm, hks, u1, u2, u3, u4] at HTR HND
  rw [hT, hm1, hm3] at HTR
  rw [hN, hm2, hm4] at HND
  rw [hnm, hks, u1, u2, u3, u4, v1, v2, v3, v4]
  have HV := Lib.hid (And.intro v1 (And.intro v2 (And.intro v3 v4)))
  have HU := Lib.hid (And.intro hnm (And.intro hks (And.intro u1 (And.intro u2 (And.intro u3 u4)))))
  have HNN := Lib.hid (And.intro hn2 hn3)
  have HMM := Lib.hid (And.intro hm1 (And.intro hm2 (And.intro hm3 hm4)))
  have HTN := Lib.hid (And.intro hT hN)
  have HT : Hid (T.length = m1 + m3) := Lib.hid (by rw [← hT, List.length_append, hm1, hm3])
  have HN : Hid (N.length = m2 + m4) := Lib.hid (by rw [← hN, List.length_append, hm2, hm4])
  rw [hm1, hm3] at hl1
  rw [hm2, hm4] at hl2
  have HL1 := Lib.hid hl1
  have HL2 := Lib.hid hl2
  have s1 : (0 : Int) ≤ ks := by omega
  have HSN := Lib.hid (show ks < n3 by omega)
  have s2 : (ks : Int) < n3 := hsn
  clear hn1 hn2 hn3 hn4 hm1 hm2 hm3 hm4 ha1 ha2 ha3 ha4 hc1 hc2 hc3 hc4 hb1 hb2 hb3 hb4 he1 he2 he3 he4 v1 v2 v3 v4 u1 u2 u3 u4 hL hr hnm hks hT hN hsg hsn hl1 hl2
  obtain ⟨gl, hgl⟩ : ∃ g, g = w.heap.size := ⟨_, rfl⟩
  obtain ⟨gr, hgr⟩ : ∃ g, g = gl + 1 := ⟨_, rfl⟩
  have HGL := Lib.hid hgl
  have HGR := Lib.hid hgr
  clear hgl hgr
  go_enter Try.func67, Try.ntmps67
  go_wp2_with fail
  refine (HTR.out _ (below2' w _ _)).mono ?_
  rintro e w1 ⟨ta, tn, tc, rfl, hn, hS, hb⟩
  have HM : FoAt w w1 gl gr L r := by
    obtain ⟨q1, q2⟩ := alloc2' w (.cells #[.slice a1 n1 c1, .slice a2 n2 c2, .slice a3 n3 c3, .slice a4 n4 c4] 27) (.cells #[.string nm, .int .i64 (ks : Int), .slice b1 m1 e1, .slice b2 m2 e2, .slice b3 m3 e3, .slice b4 m4 e4] 44)
    obtain ⟨x1, x2, x3, x4⟩ := HV.out
    obtain ⟨y1, y2, y3, y4, y5, y6⟩ := HU.out
    refine ⟨?_, ?_, below_on (below2' w _ _) hb⟩
    · rw [HGL.out, x1, x2, x3, x4]; exact blk_keep hb q1
    · rw [HGR.out, HGL.out, y1, y2, y3, y4, y5, y6]; exact blk_keep hb q2
  rw [← HGL.out, ← HGR.out]
  have HM := Lib.hid HM
  have HS := Lib.hid hS
  obtain rfl := hn
  clear hb hS
  obtain ⟨l1, l2, r1, r2, r3, r5⟩ : w1.cell? ⟨gl, 1, none⟩ = some (.slice a2 n2 c2) ∧ w1.cell? ⟨gl, 2, none⟩ = some (.slice a3 n3 c3) ∧ w1.cell? ⟨gr, 1, none⟩ = some (.int .i64 (ks : Int)) ∧ w1.cell? ⟨gr, 2, none⟩ = some (.slice b1 m1 e1) ∧ w1.cell? ⟨gr, 3, none⟩ = some (.slice b2 m2 e2) ∧ w1.cell? ⟨gr, 5, none⟩ = some (.slice b4 m4 e4) := by
    obtain ⟨x1, x2, x3, x4⟩ := HV.out
    obtain ⟨y1, y2, y3, y4, y5, y6⟩ := HU.out
    rw [← x2, ← x3, ← y2, ← y3, ← y4, ← y6]
    exact ⟨blk_cell HM.out.lay 1 _ rfl, blk_cell HM.out.lay 2 _ rfl, blk_cell HM.out.rt 1 _ rfl, blk_cell HM.out.rt 2 _ rfl, blk_cell HM.out.rt 3 _ rfl, blk_cell HM.out.rt 5 _ rfl⟩
  by_cases h0 : m1 = 0
  · have HF : Hid (formedS L r = false) := Lib.hid (fs_0 (HMM.out.1.trans h0))
    subst h0
    go_wp2_with fail
    go_ret
    exact ⟨by rw [HF.out]; rfl, HM.out.below⟩
  have h01 : ¬ (m1 : Int) = 0 := by omega
  have H0 := Lib.hid h0
  clear h0
  go_wp2_with fail
  clear l1 l2 r1 r2 r3 r5
  refine (twice_int ta _ tc T w1 HT.out (by have := HS.out.len; rw [HT.out] at this; exact this) (by have := HS.out.cap; unfold maxLen at this; omega) HS.out.row).mono ?_
  rintro e w2 ⟨rfl, hb⟩
  have hM := HM.out.step hb
  have hS := HS.out.below hb
  clear HM HS hb h01
  have HM := Lib.hid hM
  have HS := Lib.hid hS
  clear hM hS
  obtain ⟨D, hD⟩ : ∃ D, dupI [] T = D := ⟨_, rfl⟩
  rw [hD]
  cases D with
  | true =>
    have HF : Hid (formedS L r = false) := Lib.hid (fs_1 (by rw [HTN.out.1]; exact hD))
    clear hD
    go_wp2_with fail
    go_ret
    exact ⟨by rw [HF.out]; rfl, HM.out.below⟩
  | false =>
    have HD1 := Lib.hid hD
    clear hD
    obtain ⟨l1, l2, r1, r2, r3, r5⟩ : w2.cell? ⟨gl, 1, none⟩ = some (.slice a2 n2 c2) ∧ w2.cell? ⟨gl, 2, none⟩ = some (.slice a3 n3 c3) ∧ w2.cell? ⟨gr, 1, none⟩ = some (.int .i64 (ks : Int)) ∧ w2.cell? ⟨gr, 2, none⟩ = some (.slice b1 m1 e1) ∧ w2.cell? ⟨gr, 3, none⟩ = some (.slice b2 m2 e2) ∧ w2.cell? ⟨gr, 5, none⟩ = some (.slice b4 m4 e4) := by
      obtain ⟨x1, x2, x3, x4⟩ := HV.out
      obtain ⟨y1, y2, y3, y4, y5, y6⟩ := HU.out
      rw [← x2, ← x3, ← y2, ← y3, ← y4, ← y6]
      exact ⟨blk_cell HM.out.lay 1 _ rfl, blk_cell HM.out.lay 2 _ rfl, blk_cell HM.out.rt 1 _ rfl, blk_cell HM.out.rt 2 _ rfl, blk_cell HM.out.rt 3 _ rfl, blk_cell HM.out.rt 5 _ rfl⟩
    obtain ⟨y, hy⟩ : ∃ y, L.sg.l[ks]? = some y := ⟨_, List.getElem?_eq_getElem (by rw [HNN.out.2]; exact HSN.out)⟩
    rcases R3.out.below HM.out.below with hnil | ⟨xs, os, rfl, hc⟩
    · rw [hnil] at hy; simp at hy
    obtain ⟨y0, y1⟩ := y
    have z1 := hc ks _ hy 1 _ rfl
    have hsec := secOf_at hy
    dsimp only at z1 hsec
    rw [← HU.out.2.1] at hsec
    have HSE := Lib.hid hsec
    clear hc hy hsec
    obtain ⟨D, hD⟩ : ∃ D, hasI T y1 = D := ⟨_, rfl⟩
    have HC := Lib.hid (contains_is D ta (m1 + m3) tc T y1 w2 hD HT.out (by have := HL1.out; omega) HS.out.row)
    go_wp2_with fail
    refine HC.out.mono ?_
    rintro e w3 ⟨rfl, rfl⟩
    clear HC z1
    clear l1 l2 r1 r2 r3 r5
    cases D with
    | true =>
      have HF : Hid (formedS L r = false) := Lib.hid (fs_2 (by rw [HTN.out.1, HSE.out]; exact hD))
      clear hD
      go_wp2_with fail
      go_ret
      exact ⟨by rw [HF.out]; rfl, HM.out.below⟩
    | false =>
      have HD2 : Hid (hasI T (secOf L r.sg) = false) := Lib.hid (by rw [HSE.out]; exact hD)
      clear hD HSE
      obtain ⟨r0, r1, r2, r3, r4, r5⟩ : w2.cell? ⟨gr, 0, none⟩ = some (.string nm) ∧ w2.cell? ⟨gr, 1, none⟩ = some (.int .i64 (ks : Int)) ∧ w2.cell? ⟨gr, 2, none⟩ = some (.slice b1 m1 e1) ∧ w2.cell? ⟨gr, 3, none⟩ = some (.slice b2 m2 e2) ∧ w2.cell? ⟨gr, 4, none⟩ = some (.slice b3 m3 e3) ∧ w2.cell? ⟨gr, 5, none⟩ = some (.slice b4 m4 e4) := by
        obtain ⟨y1, y2, y3, y4, y5, y6⟩ := HU.out
        rw [← y1, ← y2, ← y3, ← y4, ← y5, ← y6]
        exact ⟨blk_cell HM.out.rt 0 _ rfl, blk_cell HM.out.rt 1 _ rfl, blk_cell HM.out.rt 2 _ rfl, blk_cell HM.out.rt 3 _ rfl, blk_cell HM.out.rt 4 _ rfl, blk_cell HM.out.rt 5 _ rfl⟩
      go_wp2_with fail
      clear r0 r1 r2 r3 r4 r5
      refine (HND.out _ HM.out.below).mono ?_
      rintro e w3 ⟨na, nn, nc, rfl, hn, hS2, hb⟩
      have hM := HM.out.step hb
      have hS := HS.out.below hb
      clear HM HS hb
      have HM := Lib.hid hM
      have HS := Lib.hid hS
      have HS2 := Lib.hid hS2
      obtain rfl := hn
      clear hM hS hS2
      go_wp2_with fail
      refine (twice_nd na _ nc N w3 HN.out (by have := HS2.out.len; rw [HN.out] at this; exact this) (by have := HS2.out.cap; unfold maxLen at this; omega) HS2.out.row).mono ?_
      rintro e w4 ⟨rfl, hb⟩
      have hM := HM.out.step hb
      have hS := HS.out.below hb
      clear HM HS HS2 hb
      have HM := Lib.hid hM
      have HS := Lib.hid hS
      clear hM hS
      obtain ⟨D, hD⟩ : ∃ D, dupN [] N = D := ⟨_, rfl⟩
      rw [hD]
      cases D with
      | true =>
        have HF : Hid (formedS L r = false) := Lib.hid (fs_3 (by rw [HTN.out.2]; exact hD))
        clear hD
        go_wp2_with fail
        go_ret
        exact ⟨by rw [HF.out]; rfl, HM.out.below⟩
      | false =>
        have HD3 := Lib.hid hD
        clear hD
        obtain ⟨l1, l2, r1, r2, r3, r5⟩ : w4.cell? ⟨gl, 1, none⟩ = some (.slice a2 n2 c2) ∧ w4.cell? ⟨gl, 2, none⟩ = some (.slice (some ⟨xs, os, none⟩) n3 c3) ∧ w4.cell? ⟨gr, 1, none⟩ = some (.int .i64 (ks : Int)) ∧ w4.cell? ⟨gr, 2, none⟩ = some (.slice b1 m1 e1) ∧ w4.cell? ⟨gr, 3, none⟩ = some (.slice b2 m2 e2) ∧ w4.cell? ⟨gr, 5, none⟩ = some (.slice b4 m4 e4) := by
          obtain ⟨x1, x2, x3, x4⟩ := HV.out
          obtain ⟨y1, y2, y3, y4, y5, y6⟩ := HU.out
          rw [← x2, ← x3, ← y2, ← y3, ← y4, ← y6]
          exact ⟨blk_cell HM.out.lay 1 _ rfl, blk_cell HM.out.lay 2 _ rfl, blk_cell HM.out.rt 1 _ rfl, blk_cell HM.out.rt 2 _ rfl, blk_cell HM.out.rt 3 _ rfl, blk_cell HM.out.rt 5 _ rfl⟩
        go_wp2_with fail
        clear l1 l2 r1 r2 r3 r5
        go_loopg [6, 7, 8, 33] n2 (fun g _ _ _ i wr => ∃ k : Nat, k + g = n2 ∧ i = .int .i64 (k : Int) ∧ okPts T r.po.l r.fl.l k (L.po.l.drop k) = okPts T r.po.l r.fl.l 0 L.po.l ∧ FoAt w wr gl gr L r ∧ SlAt 1 intC wr ⟨ta, tc, T⟩)
        case atStart => exact ⟨0, by omega, rfl, rfl, HM.out, HS.out⟩
        case round =>
          obtain ⟨k, hk, rfl, hst, hM, hS⟩ := hrel
          clear HM HS
          have HM := Lib.hid hM
          have HS := Lib.hid hS
          have HST := Lib.hid hst
          clear hst hM hS
          by_cases hlt : k < n2
          · obtain ⟨y, hy⟩ : ∃ y, L.po.l[k]? = some y := ⟨_, List.getElem?_eq_getElem (by rw [HNN.out.1]; exact hlt)⟩
            rcases R2.out.below HM.out.below with hnil | ⟨xb, off, rfl, hc⟩
            · rw [hnil] at hy; simp at hy
            obtain ⟨y0, y1⟩ := y
            have z0 := hc k _ hy 0 _ rfl
            have z1 := hc k _ hy 1 _ rfl
            rw [Nat.add_zero] at z0
            dsimp only at z0 z1
            have HY := Lib.hid hy
            have d1 : (0 : Int) ≤ k := by omega
            have d2 : (k : Int) < n2 := by omega
            have e0 : wrap64 ((k : Int) + 1) = (k : Int) + 1 := by have := HNN.out; have := M2.out; unfold wrap64; omega
            have HK := Lib.hid hk
            clear hc hy hk
            have hb4 := below1 wr (.cells #[.string y0, .int .i64 y1] 71)
            have hM := HM.out.step hb4
            have hS := HS.out.below hb4
            clear HM HS
            have HM := Lib.hid hM
            have HS := Lib.hid hS
            clear hM hS hb4
            obtain ⟨D, hD⟩ : ∃ D, hasI T y1 = D := ⟨_, rfl⟩
            have HD := Lib.hid hD
            have HC := Lib.hid (contains_is D ta (m1 + m3) tc T y1 (wr.alloc (.cells #[.string y0, .int .i64 y1] 71)) hD HT.out (by have := HL1.out; omega) HS.out.row)
            clear hD
            go_wp2_with fail
            refine HC.out.mono ?_
            rintro e w5 ⟨rfl, rfl⟩
            clear HC z0 z1
            obtain ⟨W5, hW5⟩ : ∃ W, W = wr.alloc (.cells #[.string y0, .int .i64 y1] 71) := ⟨_, rfl⟩
            rw [← hW5] at HM HS ⊢
            clear hW5
            obtain ⟨E, hE⟩ : ∃ E, hasP r.po.l k = E := ⟨_, rfl⟩
            have HE := Lib.hid hE
            have HC := Lib.hid (has_to E k b2 m2 e2 r.po.l W5 hE HMM.out.2.1 (by have := HL2.out; omega) (Q2.out.below HM.out.below))
            clear hE
            obtain ⟨l1, l2, r1, r2, r3, r5⟩ : W5.cell? ⟨gl, 1, none⟩ = some (.slice (some ⟨xb, off, none⟩) n2 c2) ∧ W5.cell? ⟨gl, 2, none⟩ = some (.slice (some ⟨xs, os, none⟩) n3 c3) ∧ W5.cell? ⟨gr, 1, none⟩ = some (.int .i64 (ks : Int)) ∧ W5.cell? ⟨gr, 2, none⟩ = some (.slice b1 m1 e1) ∧ W5.cell? ⟨gr, 3, none⟩ = some (.slice b2 m2 e2) ∧ W5.cell? ⟨gr, 5, none⟩ = some (.slice b4 m4 e4) := by
              obtain ⟨x1, x2, x3, x4⟩ := HV.out
              obtain ⟨y1, y2, y3, y4, y5, y6⟩ := HU.out
              rw [← x2, ← x3, ← y2, ← y3, ← y4, ← y6]
              exact ⟨blk_cell HM.out.lay 1 _ rfl, blk_cell HM.out.lay 2 _ rfl, blk_cell HM.out.rt 1 _ rfl, blk_cell HM.out.rt 2 _ rfl, blk_cell HM.out.rt 3 _ rfl, blk_cell HM.out.rt 5 _ rfl⟩
            go_wp2_with fail
            refine HC.out.mono ?_
            rintro e w6 ⟨rfl, hb⟩
            have hM := HM.out.step hb
            have hS := HS.out.below hb
            clear HM HS HC hb l1 l2 r1 r2 r3 r5
            have HM := Lib.hid hM
            have HS := Lib.hid hS
            clear hM hS
            rcases Decidable.em (D = E) with hde | hde
            · subst hde
              cases D with
              | false =>
                have HX : Hid (okPts T r.po.l r.fl.l (k + 1) (L.po.l.drop (k + 1)) = okPts T r.po.l r.fl.l 0 L.po.l) := Lib.hid (by rw [← HST.out, okPts_drop HY.out, okPt_no HD.out HE.out]; rfl)
                go_wp2_with fail
                go_roundg (n2 - (k + 1))
                case rel => exact ⟨k + 1, by have := HK.out; omega, by go_num, HX.out, HM.out, HS.out⟩
                case measure => have := HK.out; omega
              | true =>
                obtain ⟨F, hF⟩ : ∃ F, hasP r.fl.l k = F := ⟨_, rfl⟩
                have HFF := Lib.hid hF
                have HC := Lib.hid (has_to F k b4 m4 e4 r.fl.l w6 hF HMM.out.2.2.2 (by have := HL2.out; omega) (Q4.out.below HM.out.below))
                clear hF
                obtain ⟨l1, l2, r1, r2, r3, r5⟩ : w6.cell? ⟨gl, 1, none⟩ = some (.slice (some ⟨xb, off, none⟩) n2 c2) ∧ w6.cell? ⟨gl, 2, none⟩ = some (.slice (some ⟨xs, os, none⟩) n3 c3) ∧ w6.cell? ⟨gr, 1, none⟩ = some (.int .i64 (ks : Int)) ∧ w6.cell? ⟨gr, 2, none⟩ = some (.slice b1 m1 e1) ∧ w6.cell? ⟨gr, 3, none⟩ = some (.slice b2 m2 e2) ∧ w6.cell? ⟨gr, 5, none⟩ = some (.slice b4 m4 e4) := by
                  obtain ⟨x1, x2, x3, x4⟩ := HV.out
                  obtain ⟨y1, y2, y3, y4, y5, y6⟩ := HU.out
                  rw [← x2, ← x3, ← y2, ← y3, ← y4, ← y6]
                  exact ⟨blk_cell HM.out.lay 1 _ rfl, blk_cell HM.out.lay 2 _ rfl, blk_cell HM.out.rt 1 _ rfl, blk_cell HM.out.rt 2 _ rfl, blk_cell HM.out.rt 3 _ rfl, blk_cell HM.out.rt 5 _ rfl⟩
                go_wp2_with fail
                refine HC.out.mono ?_
                rintro e w7 ⟨rfl, hb⟩
                have hM := HM.out.step hb
                have hS := HS.out.below hb
                clear HM HS HC hb l1 l2 r1 r2 r3 r5
                have HM := Lib.hid hM
                have HS := Lib.hid hS
                clear hM hS
                cases F with
                | false =>
                  have HX : Hid (okPts T r.po.l r.fl.l (k + 1) (L.po.l.drop (k + 1)) = okPts T r.po.l r.fl.l 0 L.po.l) := Lib.hid (by rw [← HST.out, okPts_drop HY.out, okPt_in HD.out HE.out HFF.out]; rfl)
                  go_wp2_with fail
                  go_roundg (n2 - (k + 1))
                  case rel => exact ⟨k + 1, by have := HK.out; omega, by go_num, HX.out, HM.out, HS.out⟩
                  case measure => have := HK.out; omega
                | true =>
                  have HF : Hid (formedS L r = false) := Lib.hid (fs_4 (by rw [HTN.out.1, ← HST.out, okPts_drop HY.out, okPt_in HD.out HE.out HFF.out]; rfl))
                  go_wp2_with fail
                  go_ret
                  exact ⟨by rw [HF.out]; rfl, HM.out.below⟩
            · have HF : Hid (formedS L r = false) := Lib.hid (fs_4 (by rw [HTN.out.1, ← HST.out, okPts_drop HY.out, okPt_ne HD.out HE.out hde]; rfl))
              cases D <;> cases E <;> first | exact absurd rfl hde | skip
              all_goals
                clear hde
                go_wp2_with fail
                go_ret
                exact ⟨by rw [HF.out]; rfl, HM.out.below⟩
          · have hkm : n2 = k := by omega
            subst hkm
            have HF : Hid (formedS L r = true) := Lib.hid (fs_5 (by rw [HMM.out.1]; exact H0.out) (by rw [HTN.out.1]; exact HD1.out) (by rw [HTN.out.1]; exact HD2.out) (by rw [HTN.out.2]; exact HD3.out) (by rw [HTN.out.1, ← HST.out, okPts_end HNN.out.1]))
            go_wp2_with fail
            go_ret
            exact ⟨by rw [HF.out]; rfl, HM.out.below⟩
end Go.Proofs.Ytjienmjpfklgeaa
namespace Go.Proofs.Ytjienmjpfklgeaa
open Go.RowKit
set_option maxRecDepth 100000

theorem belowB_mem {n : Nat} {l : List Int} (h : belowB n l = true) : ∀ x ∈ l, 0 ≤ x ∧ x < (n : Int) := by
  unfold belowB at h
  rw [List.all_eq_true] at h
  exact fun x hx => of_decide_eq_true (h x hx)
/-- what a layout that may be says of its routes -/
structure RtOk (L : Lay) (r : Rt) : Prop where
  s0 : 0 ≤ r.sg
  s1 : r.sg < (L.sg.l.length : Int)
  pa : r.pa.l.length ≤ 16
  ov : r.ov.l.length ≤ 16
  po : r.po.l.length ≤ 16
  fl : r.fl.l.length ≤ 16
  pb : belowB L.se.l.length r.pa.l = true
  ob : belowB L.se.l.length r.ov.l = true
  qb : belowB L.po.l.length (r.po.l.map (·.1)) = true
  fb : belowB L.po.l.length (r.fl.l.map (·.1)) = true
theorem mayS_rt {L : Lay} (h : mayS L = true) : ∀ r ∈ L.rt.l, RtOk L r := by
  intro r hr
  unfold mayS rtsFrom at h
  simp only [Bool.and_eq_true] at h
  obtain ⟨_, _, ⟨_, h1⟩, h2⟩ := h
  have a := belowB_mem h1 r.sg (List.mem_map.2 ⟨r, hr, rfl⟩)
  rw [List.all_eq_true] at h2
  have b := h2 r hr
  unfold rtB mayB at b
  simp only [Bool.and_eq_true, decide_eq_true_eq] at b
  obtain ⟨⟨⟨⟨b1, b2⟩, b3⟩, b4⟩, ⟨b5, b6⟩, b7, b8⟩ := b
  exact ⟨a.1, a.2, b1, b2, b5, b7, b3, b4, b6, b8⟩
/-- the first route that is not well-formed; -1: there is none -/
def badS (L : Lay) : Int := ixF (fun r => !formedS L r) 0 L.rt.l
def checkS (L : Lay) : Int × Int := if mayS L then (if 0 ≤ badS L then (50, badS L) else (0, 0)) else (2, 0)
def routeS (L : Lay) (n : Int) : Int := if mayS L then (if n < 0 ∨ (L.rt.l.length : Int) ≤ n then 5 else (match L.rt.l[n.toNat]? with | some r => if formedS L r then 0 else 50 | none => 5)) else 2
theorem cs_no {L : Lay} (h : mayS L = false) : checkS L = (2, 0) := by unfold checkS; rw [h]; rfl
theorem cs_bad {L : Lay} {z : Int} (h : mayS L = true) (hz : badS L = z) (h0 : 0 ≤ z) : checkS L = (50, z) := by unfold checkS; rw [h, hz, if_pos rfl, if_pos h0]
theorem cs_ok {L : Lay} {z : Int} (h : mayS L = true) (hz : badS L = z) (h0 : ¬ 0 ≤ z) : checkS L = (0, 0) := by unfold checkS; rw [h, hz, if_pos rfl, if_neg h0]
theorem rs_no {L : Lay} {n : Int} (h : mayS L = false) : routeS L n = 2 := by unfold routeS; rw [h]; rfl
theorem rs_none {L : Lay} {n : Int} (h : mayS L = true) (h0 : n < 0 ∨ (L.rt.l.length : Int) ≤ n) : routeS L n = 5 := by unfold routeS; rw [h, if_pos rfl, if_pos h0]
theorem rs_at {L : Lay} {k : Nat} {r : Rt} (h : mayS L = true) (hk : L.rt.l[k]? = some r) : routeS L (k : Int) = if formedS L r then 0 else 50 := by
  have h1 := (List.getElem?_eq_some_iff.1 hk).1
  unfold routeS
  rw [h, if_pos rfl, if_neg (by omega), Int.toNat_natCast, hk]
attribute [local irreducible] hasI hasP dupI dupN okPt okPts secOf formedS Sl.v cntI ixF mayS

set_option maxRecDepth 100000 in
set_option maxHeartbeats 2000000 in
theorem check1_is (gl : Nat) (t : TypeId) (fr : Nat × Nat) (L : Lay) (r : Rt) (w : World) (b : Bool) (hb : formedS L r = b) (hg : w.heap[gl]? = some (.cells #[L.se.v, L.po.v, L.sg.v, L.rt.v] t fr)) (hL : LayAt w L) (hr : RtAt w r) (ho : RtOk L r) :
    Calls Try.prog 66 #[.agg #[.string r.nm, .int .i64 r.sg, r.pa.v, r.po.v, r.ov.v, r.fl.v], .pointer (some ⟨gl, 0, none⟩)] w fun e w' => e = .returned (.bool (!b)) ∧ Below w.heap.size w w' := by
  have HF : Hid (∀ W, Below w.heap.size w W → Calls Try.prog 67 #[.agg #[L.se.v, L.po.v, L.sg.v, L.rt.v], .agg #[.string r.nm, .int .i64 r.sg, r.pa.v, r.po.v, r.ov.v, r.fl.v]] W fun e w' => e = .returned (.bool b) ∧ Below W.heap.size W w') :=
    Lib.hid (fun W hW => hb ▸ formed_is L r W (hL.below hW) (hr.below hW) ho.s0 ho.s1 (by have := ho.pa; have := ho.ov; omega) (by have := ho.po; have := ho.fl; omega))
  obtain ⟨m1, hm1⟩ : ∃ n, r.pa.l.length = n := ⟨_, rfl⟩
  obtain ⟨m2, hm2⟩ : ∃ n, r.po.l.length = n := ⟨_, rfl⟩
  obtain ⟨m3, hm3⟩ : ∃ n, r.ov.l.length = n := ⟨_, rfl⟩
  obtain ⟨m4, hm4⟩ : ∃ n, r.fl.l.length = n := ⟨_, rfl⟩
  obtain ⟨n1, hn1⟩ : ∃ n, L.se.l.length = n := ⟨_, rfl⟩
  obtain ⟨n2, hn2⟩ : ∃ n, L.po.l.length = n := ⟨_, rfl⟩
  obtain ⟨n3, hn3⟩ : ∃ n, L.sg.l.length = n := ⟨_, rfl⟩
  obtain ⟨n4, hn4⟩ : ∃ n, L.rt.l.length = n := ⟨_, rfl⟩
  rw [slv hm1, slv hm2, slv hm3, slv hm4, slv hn1, slv hn2, slv hn3, slv hn4] at HF
  rw [slv hn1, slv hn2, slv hn3, slv hn4] at hg
  rw [slv hm1, slv hm2, slv hm3, slv hm4]
  clear hm1 hm2 hm3 hm4 hn1 hn2 hn3 hn4 hL hr ho hb
  have l0 := blk_cell hg 0 _ rfl
  have l1 := blk_cell hg 1 _ rfl
  have l2 := blk_cell hg 2 _ rfl
  have l3 := blk_cell hg 3 _ rfl
  have hlt := blk_lt hg
  clear hg
  go_enter Try.func66, Try.ntmps66
  go_wp2_with fail
  refine (HF.out _ (below1 w _)).mono ?_
  rintro e w1 ⟨rfl, hb1⟩
  have HB := Lib.hid (below_on (below1 w _) hb1)
  clear hb1 l0 l1 l2 l3
  go_wp2_with fail
  go_ret
  exact ⟨rfl, HB.out⟩

set_option maxRecDepth 100000 in
set_option maxHeartbeats 2000000 in
theorem ixf_rt (gl : Nat) (p : Rt → Bool) (x : Option Addr) (m c : Nat) (l : List Rt) (w : World) (hn : l.length = m) (hm : m ≤ 9223372036854775807) (hl : RowAt 6 rtC w x l)
    (hp : ∀ W, Below w.heap.size w W → ∀ r ∈ l, Calls Try.prog 66 #[.agg #[.string r.nm, .int .i64 r.sg, r.pa.v, r.po.v, r.ov.v, r.fl.v], .pointer (some ⟨gl, 0, none⟩)] W fun e w' => e = .returned (.bool (p r)) ∧ Below W.heap.size W w') :
    Calls Try.prog 65 #[.slice x m c, .func (.func 66) #[] #[.pointer (some ⟨gl, 0, none⟩)]] w fun e w' => e = .returned (.int .i64 (ixF p 0 l)) ∧ Below w.heap.size w w' := by
  have HN := Lib.hid hn
  have HP := Lib.hid hp
  have HR := Lib.hid hl
  clear hn hp hl
  go_enter Try.func65, Try.ntmps65
  go_wp2_with fail
  go_loopg [5, 8] m (fun g _ i wr => ∃ k : Nat, k + g = m ∧ i = .int .i64 (k : Int) ∧ ixF p k (l.drop k) = ixF p 0 l ∧ Below w.heap.size w wr)
  case atStart => exact ⟨0, by omega, rfl, rfl, Below.refl _ _⟩
  case round =>
    obtain ⟨k, hk, rfl, hb, hbw⟩ := hrel
    have HB := Lib.hid hb
    have HBW := Lib.hid hbw
    clear hb hbw
    by_cases hlt : k < m
    · obtain ⟨y, hy⟩ : ∃ y, l[k]? = some y := ⟨_, List.getElem?_eq_getElem (by rw [HN.out]; exact hlt)⟩
      rcases HR.out.below HBW.out with hnil | ⟨b, off, rfl, hc⟩
      · rw [hnil] at hy; simp at hy
      have z0 := hc k _ hy 0 _ rfl
      have z1 := hc k _ hy 1 _ rfl
      have z2 := hc k _ hy 2 _ rfl
      have z3 := hc k _ hy 3 _ rfl
      have z4 := hc k _ hy 4 _ rfl
      have z5 := hc k _ hy 5 _ rfl
      rw [Nat.add_zero] at z0
      have hd := ixF_drop (p := p) hy
      have d1 : (0 : Int) ≤ k := by omega
      have d2 : (k : Int) < m := by omega
      have e1 : wrap64 ((k : Int) + 1) = (k : Int) + 1 := by unfold wrap64; omega
      have HK := Lib.hid hk
      have hcall := HP.out wr HBW.out y (List.mem_of_getElem? hy)
      obtain ⟨D, hD⟩ : ∃ D, p y = D := ⟨_, rfl⟩
      rw [hD] at hcall hd
      obtain ⟨m1, hm1⟩ : ∃ n, y.pa.l.length = n := ⟨_, rfl⟩
      obtain ⟨m2, hm2⟩ : ∃ n, y.po.l.length = n := ⟨_, rfl⟩
      obtain ⟨m3, hm3⟩ : ∃ n, y.ov.l.length = n := ⟨_, rfl⟩
      obtain ⟨m4, hm4⟩ : ∃ n, y.fl.l.length = n := ⟨_, rfl⟩
      rw [slv hm1, slv hm2, slv hm3, slv hm4] at hcall
      rw [slv hm1] at z2
      rw [slv hm2] at z3
      rw [slv hm3] at z4
      rw [slv hm4] at z5
      have HC := Lib.hid hcall
      clear hc hy hk hcall hD hm1 hm2 hm3 hm4
      cases D with
      | true =>
        have HF : Hid (ixF p 0 l = k) := Lib.hid (HB.out.symm.trans (by rw [hd, if_pos rfl]))
        clear hd
        go_wp2_with fail
        refine HC.out.mono ?_
        rintro e w5 ⟨rfl, hb5⟩
        have HB5 := Lib.hid (below_on HBW.out hb5)
        clear hb5
        go_wp2_with fail
        go_ret
        exact ⟨by rw [HF.out]; rfl, HB5.out⟩
      | false =>
        have HT : Hid (ixF p (k + 1) (l.drop (k + 1)) = ixF p 0 l) := Lib.hid (Eq.trans (by rw [hd, if_neg (by decide)]) HB.out)
        clear hd
        go_wp2_with fail
        refine HC.out.mono ?_
        rintro e w5 ⟨rfl, hb5⟩
        have HB5 := Lib.hid (below_on HBW.out hb5)
        clear hb5
        go_wp2_with fail
        go_roundg (m - (k + 1))
        case rel => exact ⟨k + 1, by have := HK.out; omega, by go_num, HT.out, HB5.out⟩
        case measure => have := HK.out; omega
    · have hkm : m = k := by omega
      subst hkm
      have HF : Hid (ixF p 0 l = -1) := Lib.hid (HB.out.symm.trans (ixF_end HN.out))
      go_wp2_with fail
      go_ret
      exact ⟨by rw [HF.out]; rfl, HBW.out⟩

set_option maxRecDepth 100000 in
set_option maxHeartbeats 2000000 in
theorem check_is (L : Lay) (w : World) (hL : LayAt w L) :
    Calls Try.prog 32 #[.agg #[L.se.v, L.po.v, L.sg.v, L.rt.v]] w fun e w' => e = .returned (.tuple #[.int .i64 (checkS L).1, .int .i64 (checkS L).2]) ∧ Below w.heap.size w w' := by
  have HMAY : Hid (∀ W, Below w.heap.size w W → Calls Try.prog 64 #[.agg #[L.se.v, L.po.v, L.sg.v, L.rt.v]] W fun e w' => e = .returned (.bool (mayS L)) ∧ Below W.heap.size W w') := Lib.hid (fun W hW => may_lay L W (hL.below hW))
  have HLW := Lib.hid hL
  obtain ⟨n1, hn1⟩ : ∃ n, L.se.l.length = n := ⟨_, rfl⟩
  obtain ⟨n2, hn2⟩ : ∃ n, L.po.l.length = n := ⟨_, rfl⟩
  obtain ⟨n3, hn3⟩ : ∃ n, L.sg.l.length = n := ⟨_, rfl⟩
  obtain ⟨n4, hn4⟩ : ∃ n, L.rt.l.length = n := ⟨_, rfl⟩
  have hm4 : n4 ≤ 9223372036854775807 := by rw [← hn4]; exact hL.rt.lenM
  have HN := Lib.hid (And.intro (slv hn1) (And.intro (slv hn2) (And.intro (slv hn3) (And.intro (slv hn4) hm4))))
  have HN4 := Lib.hid hn4
  rw [slv hn1, slv hn2, slv hn3, slv hn4] at HMAY ⊢
  clear hn1 hn2 hn3 hn4 hm4 hL
  obtain ⟨gl, hgl⟩ : ∃ g, g = w.heap.size := ⟨_, rfl⟩
  have HGL := Lib.hid hgl
  clear hgl
  obtain ⟨B, hB⟩ : ∃ B, mayS L = B := ⟨_, rfl⟩
  rw [hB] at HMAY
  have HBB := Lib.hid hB
  clear hB
  go_enter Try.func32, Try.ntmps32
  go_wp2_with fail
  refine (HMAY.out _ (below1 w _)).mono ?_
  rintro e w1 ⟨rfl, hb1⟩
  have hq := blk_keep hb1 (alloc1 w (.cells #[.slice L.se.a n1 L.se.c, .slice L.po.a n2 L.po.c, .slice L.sg.a n3 L.sg.c, .slice L.rt.a n4 L.rt.c] 27) (Below.refl _ _))
  have hbw := below_on (below1 w _) hb1
  rw [← HGL.out] at hq ⊢
  have HB1 := Lib.hid hbw
  clear hb1 hbw
  cases B with
  | false =>
    have HC := Lib.hid (cs_no HBB.out)
    clear hq
    go_wp2_with fail
    go_ret2
    exact ⟨by rw [HC.out]; rfl, HB1.out⟩
  | true =>
    have l3 := blk_cell hq 3 _ rfl
    obtain ⟨z, hz⟩ : ∃ z, badS L = z := ⟨_, rfl⟩
    have HZ := Lib.hid hz
    have HIX : Hid (Calls Try.prog 65 #[.slice L.rt.a n4 L.rt.c, .func (.func 66) #[] #[.pointer (some ⟨gl, 0, none⟩)]] w1 fun e w' => e = .returned (.int .i64 z) ∧ Below w1.heap.size w1 w') := by
      have hLw := HLW.out.below HB1.out
      have hok := mayS_rt HBB.out
      refine Lib.hid (hz ▸ ixf_rt gl (fun r => !formedS L r) _ _ _ L.rt.l w1 HN4.out HN.out.2.2.2.2 hLw.rt.row (fun W hW r hr => check1_is gl 27 (0, 0) L r W _ rfl ?_ (hLw.below hW) ((hLw.rn r hr).below hW) (hok r hr)))
      obtain ⟨x1, x2, x3, x4, _⟩ := HN.out
      rw [x1, x2, x3, x4]
      exact blk_keep hW hq
    clear hq hz
    go_wp2_with fail
    refine HIX.out.mono ?_
    rintro e w2 ⟨rfl, hb2⟩
    have HB2 := Lib.hid (below_on HB1.out hb2)
    clear hb2 l3
    by_cases hz0 : 0 ≤ z
    · have HC := Lib.hid (cs_bad HBB.out HZ.out hz0)
      go_wp2_with fail
      go_ret2
      exact ⟨by rw [HC.out]; rfl, HB2.out⟩
    · have HC := Lib.hid (cs_ok HBB.out HZ.out hz0)
      go_wp2_with fail
      go_ret2
      exact ⟨by rw [HC.out]; rfl, HB2.out⟩
end Go.Proofs.Ytjienmjpfklgeaa
namespace Go.Proofs.Ytjienmjpfklgeaa
open Go.RowKit
set_option maxRecDepth 100000
theorem cnt_lt {l : List Int} {s : Int} {c : Nat} {D : Bool} (hc : cntI l s = c) (hD : hasI l s = D) : (D = true ∧ (0 : Int) < c ∧ 0 < c) ∨ (D = false ∧ ¬ (0 : Int) < c ∧ ¬ 0 < c) := by
  cases D with
  | true => have := cnt_yes hD; exact .inl ⟨rfl, by omega, by omega⟩
  | false => have := cnt_no hD; exact .inr ⟨rfl, by omega, by omega⟩
attribute [local irreducible] hasI hasP dupI dupN okPt okPts secOf formedS Sl.v cntI

set_option maxRecDepth 100000 in
set_option maxHeartbeats 3000000 in
theorem rformed_is (L : Lay) (r : Rt) (w : World) (hL : LayAt w L) (hr : RtAt w r) (hsg : 0 ≤ r.sg) (hsn : r.sg < (L.sg.l.length : Int)) (hl1 : r.pa.l.length + r.ov.l.length ≤ 100000) (hl2 : r.po.l.length + r.fl.l.length ≤ 100000) :
    Calls Try.prog 37 #[.agg #[L.se.v, L.po.v, L.sg.v, L.rt.v], .agg #[.string r.nm, .int .i64 r.sg, r.pa.v, r.po.v, r.ov.v, r.fl.v]] w fun e w' => e = .returned (.bool (formedS L r)) ∧ Below w.heap.size w w' := by
  have HA := Lib.hid hL
  have HTR : Hid (∀ W, Below w.heap.size w W → Calls Try.prog 48 #[.agg #[.string r.nm, .int .i64 r.sg, r.pa.v, r.po.v, r.ov.v, r.fl.v]] W fun e w' => ∃ a n c, e = .returned (.slice a n c) ∧ n = r.pa.l.length + r.ov.l.length ∧ SlAt 1 intC w' ⟨a, c, r.pa.l ++ r.ov.l⟩ ∧ Below W.heap.size W w') := Lib.hid (fun W hb => rtrack_is r W (hr.below hb) hl1)
  have HND : Hid (∀ W, Below w.heap.size w W → Calls Try.prog 45 #[.agg #[.string r.nm, .int .i64 r.sg, r.pa.v, r.po.v, r.ov.v, r.fl.v]] W fun e w' => ∃ a n c, e = .returned (.slice a n c) ∧ n = r.po.l.length + r.fl.l.length ∧ SlAt 2 ndC w' ⟨a, c, r.po.l ++ r.fl.l⟩ ∧ Below W.heap.size W w') := Lib.hid (fun W hb => rneeds_is r W (hr.below hb) hl2)
  obtain ⟨n1, hn1⟩ : ∃ n, L.se.l.length = n := ⟨_, rfl⟩
  obtain ⟨n2, hn2⟩ : ∃ n, L.po.l.length = n := ⟨_, rfl⟩
  obtain ⟨n3, hn3⟩ : ∃ n, L.sg.l.length = n := ⟨_, rfl⟩
  obtain ⟨n4, hn4⟩ : ∃ n, L.rt.l.length = n := ⟨_, rfl⟩
  obtain ⟨m1, hm1⟩ : ∃ n, r.pa.l.length = n := ⟨_, rfl⟩
  obtain ⟨m2, hm2⟩ : ∃ n, r.po.l.length = n := ⟨_, rfl⟩
  obtain ⟨m3, hm3⟩ : ∃ n, r.ov.l.length = n := ⟨_, rfl⟩
  obtain ⟨m4, hm4⟩ : ∃ n, r.fl.l.length = n := ⟨_, rfl⟩
  have v1 := slv hn1
  have v2 := slv hn2
  have v3 := slv hn3
  have v4 := slv hn4
  have u1 := slv hm1
  have u2 := slv hm2
  have u3 := slv hm3
  have u4 := slv hm4
  have R2 := Lib.hid hL.po.row
  have R3 := Lib.hid hL.sg.row
  have M2 := Lib.hid hL.po.lenM
  have Q2 := Lib.hid hr.po.row
  have Q4 := Lib.hid hr.fl.row
  obtain ⟨T, hT⟩ : ∃ T, r.pa.l ++ r.ov.l = T := ⟨_, rfl⟩
  obtain ⟨N, hN⟩ : ∃ N, r.po.l ++ r.fl.l = N := ⟨_, rfl⟩
  obtain ⟨nm, hnm⟩ : ∃ x, r.nm = x := ⟨_, rfl⟩
  obtain ⟨ks, hks⟩ : ∃ k : Nat, r.sg = (k : Int) := ⟨r.sg.toNat, by omega⟩
  obtain ⟨a1, ha1⟩ : ∃ a, L.se.a = a := ⟨_, rfl⟩
  obtain ⟨c1, hc1⟩ : ∃ a, L.se.c = a := ⟨_, rfl⟩
  rw [ha1, hc1] at v1
  obtain ⟨a2, ha2⟩ : ∃ a, L.po.a = a := ⟨_, rfl⟩
  obtain ⟨c2, hc2⟩ : ∃ a, L.po.c = a := ⟨_, rfl⟩
  rw [ha2, hc2] at v2
  obtain ⟨a3, ha3⟩ : ∃ a, L.sg.a = a := ⟨_, rfl⟩
  obtain ⟨c3, hc3⟩ : ∃ a, L.sg.c = a := ⟨_, rfl⟩
  rw [ha3, hc3] at v3
  obtain ⟨a4, ha4⟩ : ∃ a, L.rt.a = a := ⟨_, rfl⟩
  obtain ⟨c4, hc4⟩ : ∃ a, L.rt.c = a := ⟨_, rfl⟩
  rw [ha4, hc4] at v4
  obtain ⟨b1, hb1⟩ : ∃ a, r.pa.a = a := ⟨_, rfl⟩
  obtain ⟨e1, he1⟩ : ∃ a, r.pa.c = a := ⟨_, rfl⟩
  rw [hb1, he1] at u1
  obtain ⟨b2, hb2⟩ : ∃ a, r.po.a = a := ⟨_, rfl⟩
  obtain ⟨e2, he2⟩ : ∃ a, r.po.c = a := ⟨_, rfl⟩
  rw [hb2, he2] at u2
  obtain ⟨b3, hb3⟩ : ∃ a, r.ov.a = a := ⟨_, rfl⟩
  obtain ⟨e3, he3⟩ : ∃ a, r.ov.c = a := ⟨_, rfl⟩
  rw [hb3, he3] at u3
  obtain ⟨b4, hb4⟩ : ∃ a, r.fl.a = a := ⟨_, rfl⟩
  obtain ⟨e4, he4⟩ : ∃ a, r.fl.c = a := ⟨_, rfl⟩
  rw [hb4, he4] at u4
  rw [ha2] at R2
  rw [ha3] at R3
  rw [hb2] at Q2
  rw [hb4] at Q4
  rw [hn3, hks] at hsn
  rw [hnm, hks, u1, u2, u3, u4] at HTR HND
  rw [hT, hm1, hm3] at HTR
  rw [hN, hm2, hm4] at HND
  rw [hnm, hks, u1, u2, u3, u4, v1, v2, v3, v4]
  have HV := Lib.hid (And.intro v1 (And.intro v2 (And.intro v3 v4)))
  have HU := Lib.hid (And.intro hnm (And.intro hks (And.intro u1 (And.intro u2 (And.intro u3 u4)))))
  have HNN := Lib.hid (And.intro hn2 hn3)
  have HMM := Lib.hid (And.intro hm1 (And.intro hm2 (And.intro hm3 hm4)))
  have HTN := Lib.hid (And.intro hT hN)
  have HT : Hid (T.length = m1 + m3) := Lib.hid (by rw [← hT, List.length_append, hm1, hm3])
  have HN : Hid (N.length = m2 + m4) := Lib.hid (by rw [← hN, List.length_append, hm2, hm4])
  rw [hm1, hm3] at hl1
  rw [hm2, hm4] at hl2
  have HL1 := Lib.hid hl1
  have HL2 := Lib.hid hl2
  have s1 : (0 : Int) ≤ ks := by omega
  have HSN := Lib.hid (show ks < n3 by omega)
  have s2 : (ks : Int) < n3 := hsn
  clear hn1 hn2 hn3 hn4 hm1 hm2 hm3 hm4 ha1 ha2 ha3 ha4 hc1 hc2 hc3 hc4 hb1 hb2 hb3 hb4 he1 he2 he3 he4 v1 v2 v3 v4 u1 u2 u3 u4 hL hr hnm hks hT hN hsg hsn hl1 hl2
  obtain ⟨gl, hgl⟩ : ∃ g, g = w.heap.size := ⟨_, rfl⟩
  obtain ⟨gr, hgr⟩ : ∃ g, g = gl + 1 := ⟨_, rfl⟩
  have HGL := Lib.hid hgl
  have HGR := Lib.hid hgr
  clear hgl hgr
  go_enter Try.func37, Try.ntmps37
  go_wp2_with fail
  refine (HTR.out _ (below2' w _ _)).mono ?_
  rintro e w1 ⟨ta, tn, tc, rfl, hn, hS, hb⟩
  have HM : FoAt w w1 gl gr L r := by
    obtain ⟨q1, q2⟩ := alloc2' w (.cells #[.slice a1 n1 c1, .slice a2 n2 c2, .slice a3 n3 c3, .slice a4 n4 c4] 27) (.cells #[.string nm, .int .i64 (ks : Int), .slice b1 m1 e1, .slice b2 m2 e2, .slice b3 m3 e3, .slice b4 m4 e4] 44)
    obtain ⟨x1, x2, x3, x4⟩ := HV.out
    obtain ⟨y1, y2, y3, y4, y5, y6⟩ := HU.out
    refine ⟨?_, ?_, below_on (below2' w _ _) hb⟩
    · rw [HGL.out, x1, x2, x3, x4]; exact blk_keep hb q1
    · rw [HGR.out, HGL.out, y1, y2, y3, y4, y5, y6]; exact blk_keep hb q2
  rw [← HGL.out, ← HGR.out]
  have HM := Lib.hid HM
  have HS := Lib.hid hS
  obtain rfl := hn
  clear hb hS
  obtain ⟨r0, r1, r2, r3, r4, r5⟩ : w1.cell? ⟨gr, 0, none⟩ = some (.string nm) ∧ w1.cell? ⟨gr, 1, none⟩ = some (.int .i64 (ks : Int)) ∧ w1.cell? ⟨gr, 2, none⟩ = some (.slice b1 m1 e1) ∧ w1.cell? ⟨gr, 3, none⟩ = some (.slice b2 m2 e2) ∧ w1.cell? ⟨gr, 4, none⟩ = some (.slice b3 m3 e3) ∧ w1.cell? ⟨gr, 5, none⟩ = some (.slice b4 m4 e4) := by
    obtain ⟨y1, y2, y3, y4, y5, y6⟩ := HU.out
    rw [← y1, ← y2, ← y3, ← y4, ← y5, ← y6]
    exact ⟨blk_cell HM.out.rt 0 _ rfl, blk_cell HM.out.rt 1 _ rfl, blk_cell HM.out.rt 2 _ rfl, blk_cell HM.out.rt 3 _ rfl, blk_cell HM.out.rt 4 _ rfl, blk_cell HM.out.rt 5 _ rfl⟩
  go_wp2_with fail
  clear r0 r1 r2 r3 r4 r5
  refine (HND.out _ HM.out.below).mono ?_
  rintro e w2 ⟨na, nn, nc, rfl, hn, hS2, hb⟩
  have hM := HM.out.step hb
  have hS := HS.out.below hb
  clear HM HS hb
  have HM := Lib.hid hM
  have HS := Lib.hid hS
  clear hM hS
  have HS2 := Lib.hid hS2
  obtain rfl := hn
  clear hS2
  go_wp2_with fail
  refine (r5points_is na _ nc N w2 HN.out (by have := HL2.out; omega) (by have := HL2.out; omega) HS2.out.row).mono ?_
  rintro e w3 ⟨pa, pn, pc, rfl, hn, hP, hb⟩
  have hM := HM.out.step hb
  have hS := HS.out.below hb
  clear HM HS hb
  have HM := Lib.hid hM
  have HS := Lib.hid hS
  clear hM hS
  have HP := Lib.hid hP
  rw [HN.out] at hn
  obtain rfl := hn
  clear hP HS2
  have HPL : Hid ((N.map (·.1)).length = m2 + m4) := Lib.hid (by rw [List.length_map, HN.out])
  obtain ⟨l1, l2, r1, r2, r3, r5⟩ : w3.cell? ⟨gl, 1, none⟩ = some (.slice a2 n2 c2) ∧ w3.cell? ⟨gl, 2, none⟩ = some (.slice a3 n3 c3) ∧ w3.cell? ⟨gr, 1, none⟩ = some (.int .i64 (ks : Int)) ∧ w3.cell? ⟨gr, 2, none⟩ = some (.slice b1 m1 e1) ∧ w3.cell? ⟨gr, 3, none⟩ = some (.slice b2 m2 e2) ∧ w3.cell? ⟨gr, 5, none⟩ = some (.slice b4 m4 e4) := by
    obtain ⟨x1, x2, x3, x4⟩ := HV.out
    obtain ⟨y1, y2, y3, y4, y5, y6⟩ := HU.out
    rw [← x2, ← x3, ← y2, ← y3, ← y4, ← y6]
    exact ⟨blk_cell HM.out.lay 1 _ rfl, blk_cell HM.out.lay 2 _ rfl, blk_cell HM.out.rt 1 _ rfl, blk_cell HM.out.rt 2 _ rfl, blk_cell HM.out.rt 3 _ rfl, blk_cell HM.out.rt 5 _ rfl⟩
  by_cases h0 : m1 = 0
  · have HF : Hid (formedS L r = false) := Lib.hid (fs_0 (HMM.out.1.trans h0))
    subst h0
    go_wp2_with fail
    go_ret
    exact ⟨by rw [HF.out]; rfl, HM.out.below⟩
  have h01 : ¬ (m1 : Int) = 0 := by omega
  have h02 : ((m1 : Int) == 0) = false := by simpa using h01
  have H0 := Lib.hid h0
  clear h0
  obtain ⟨y, hy⟩ : ∃ y, L.sg.l[ks]? = some y := ⟨_, List.getElem?_eq_getElem (by rw [HNN.out.2]; exact HSN.out)⟩
  rcases R3.out.below HM.out.below with hnil | ⟨xs, os, rfl, hc⟩
  · rw [hnil] at hy; simp at hy
  obtain ⟨y0, y1⟩ := y
  have z1 := hc ks _ hy 1 _ rfl
  have hsec := secOf_at hy
  dsimp only at z1 hsec
  rw [← HU.out.2.1] at hsec
  have HSE := Lib.hid hsec
  clear hc hy hsec
  obtain ⟨D, hD⟩ : ∃ D, hasI T y1 = D := ⟨_, rfl⟩
  have HC := Lib.hid (count_is ta (m1 + m3) tc T y1 w3 HT.out (by have := HL1.out; omega) HS.out.row)
  obtain ⟨c, hcc⟩ : ∃ c, cntI T y1 = c := ⟨_, rfl⟩
  rw [hcc] at HC
  have hlt := cnt_lt hcc hD
  have HDD := Lib.hid hD
  clear hcc hD
  have HLT := Lib.hid hlt
  clear hlt
  go_wp2_with fail
  refine HC.out.mono ?_
  rintro e w4 ⟨rfl, rfl⟩
  clear HC z1
  clear l1 l2 r1 r2 r3 r5
  rcases HLT.out with ⟨rfl, c1, c1n⟩ | ⟨rfl, c1, c1n⟩
  · have HF : Hid (formedS L r = false) := Lib.hid (fs_2 (by rw [HTN.out.1, HSE.out]; exact HDD.out))
    clear HLT
    go_wp2_with fail
    go_ret
    exact ⟨by rw [HF.out]; rfl, HM.out.below⟩
  have HD2 : Hid (hasI T (secOf L r.sg) = false) := Lib.hid (by rw [HSE.out]; exact HDD.out)
  clear HDD HSE HLT
  go_wp2_with fail
  clear c1 c1n h01 h02
  go_loopg [7] (m1 + m3) (fun g i wr => ∃ k : Nat, k + g = m1 + m3 ∧ i = .int .i64 (k : Int) ∧ (∀ j y, j < k → T[j]? = some y → ¬ 1 < cntI (T) y) ∧ FoAt w wr gl gr L r ∧ SlAt 1 intC wr ⟨ta, tc, T⟩ ∧ SlAt 1 intC wr ⟨pa, pc, N.map (·.1)⟩)
  case atStart => exact ⟨0, by omega, rfl, fun j y hj => absurd hj (Nat.not_lt_zero _), HM.out, HS.out, HP.out⟩
  case round =>
    obtain ⟨k, hk, rfl, hst, hM, hS, hP⟩ := hrel
    clear HM HS HP
    have HM := Lib.hid hM
    have HS := Lib.hid hS
    have HP := Lib.hid hP
    have HST := Lib.hid hst
    clear hst hM hS hP
    by_cases hlt : k < m1 + m3
    · obtain ⟨y, hy⟩ : ∃ y, T[k]? = some y := ⟨_, List.getElem?_eq_getElem (by rw [HT.out]; exact hlt)⟩
      have hrow := HS.out.row
      dsimp only at hrow
      rcases hrow with hnil | ⟨xb, off, rfl, hc⟩
      · rw [hnil] at hy; simp at hy
      have z0 := hc k _ hy 0 _ rfl
      rw [Nat.add_zero, Nat.mul_one] at z0
      have HY := Lib.hid hy
      have d1 : (0 : Int) ≤ k := by omega
      have d2 : (k : Int) < ((m1 + m3 : Nat) : Int) := by omega
      have d3 := d2
      rw [Int.natCast_add] at d3
      have e0 : wrap64 ((k : Int) + 1) = (k : Int) + 1 := by have := HL1.out; have := HL2.out; unfold wrap64; omega
      have HK := Lib.hid hk
      have HC := Lib.hid (count_is (some ⟨xb, off, none⟩) (m1 + m3) tc (T) y wr HT.out (by have := HL1.out; have := HL2.out; omega) HS.out.row)
      obtain ⟨c, hcc⟩ : ∃ c, cntI (T) y = c := ⟨_, rfl⟩
      rw [hcc] at HC
      have HCC := Lib.hid hcc
      clear hc hy hk hcc
      by_cases c1 : (1 : Int) < c
      · have c1n : 1 < c := by omega
        have HF : Hid (formedS L r = false) := Lib.hid (fs_1 (by rw [HTN.out.1]; exact dup_big (List.mem_of_getElem? HY.out) (by rw [HCC.out]; omega)))
        go_wp2_with fail
        refine HC.out.mono ?_
        rintro e w5 ⟨rfl, rfl⟩
        go_wp2_with fail
        go_ret
        exact ⟨by rw [HF.out]; rfl, HM.out.below⟩
      · have c1n : ¬ 1 < c := by omega
        have HX : Hid (∀ j y, j < k + 1 → T[j]? = some y → ¬ 1 < cntI (T) y) := Lib.hid (fun j y2 hj hs => by
          rcases Nat.lt_or_ge j k with h | h
          · exact HST.out j y2 h hs
          · have hjk : j = k := by omega
            subst hjk
            rw [HY.out] at hs; cases hs
            rw [HCC.out]; omega)
        go_wp2_with fail
        refine HC.out.mono ?_
        rintro e w5 ⟨rfl, rfl⟩
        go_wp2_with fail
        go_roundg (m1 + m3 - (k + 1))
        case rel => exact ⟨k + 1, by have := HK.out; omega, by go_num, HX.out, HM.out, HS.out, HP.out⟩
        case measure => have := HK.out; omega
    · have hkm : k = m1 + m3 := by omega
      have HD1 : Hid (dupI [] (T) = false) := Lib.hid (dup_small (fun y hy => by
        obtain ⟨j, hj⟩ := List.getElem?_of_mem hy
        exact HST.out j y (by have := (List.getElem?_eq_some_iff.1 hj).1; have := HT.out; omega) hj))
      have d2 : ¬ (k : Int) < ((m1 + m3 : Nat) : Int) := by omega
      have d3 := d2
      rw [Int.natCast_add] at d3
      clear hk hlt hkm HST
      go_wp2_with fail
      clear d2 d3
      go_loopg [8] (m2 + m4) (fun g i wr => ∃ k : Nat, k + g = m2 + m4 ∧ i = .int .i64 (k : Int) ∧ (∀ j y, j < k → (N.map (·.1))[j]? = some y → ¬ 1 < cntI ((N.map (·.1))) y) ∧ FoAt w wr gl gr L r ∧ SlAt 1 intC wr ⟨ta, tc, T⟩ ∧ SlAt 1 intC wr ⟨pa, pc, N.map (·.1)⟩)
      case atStart => exact ⟨0, by omega, rfl, fun j y hj => absurd hj (Nat.not_lt_zero _), HM.out, HS.out, HP.out⟩
      case round =>
        obtain ⟨k, hk, rfl, hst, hM, hS, hP⟩ := hrel
        clear HM HS HP
        have HM := Lib.hid hM
        have HS := Lib.hid hS
        have HP := Lib.hid hP
        have HST := Lib.hid hst
        clear hst hM hS hP
        by_cases hlt : k < m2 + m4
        · obtain ⟨y, hy⟩ : ∃ y, (N.map (·.1))[k]? = some y := ⟨_, List.getElem?_eq_getElem (by rw [HPL.out]; exact hlt)⟩
          have hrow := HP.out.row
          dsimp only at hrow
          rcases hrow with hnil | ⟨xb, off, rfl, hc⟩
          · rw [hnil] at hy; simp at hy
          have z0 := hc k _ hy 0 _ rfl
          rw [Nat.add_zero, Nat.mul_one] at z0
          have HY := Lib.hid hy
          have d1 : (0 : Int) ≤ k := by omega
          have d2 : (k : Int) < ((m2 + m4 : Nat) : Int) := by omega
          have d3 := d2
          rw [Int.natCast_add] at d3
          have e0 : wrap64 ((k : Int) + 1) = (k : Int) + 1 := by have := HL1.out; have := HL2.out; unfold wrap64; omega
          have HK := Lib.hid hk
          have HC := Lib.hid (count_is (some ⟨xb, off, none⟩) (m2 + m4) pc ((N.map (·.1))) y wr HPL.out (by have := HL1.out; have := HL2.out; omega) HP.out.row)
          obtain ⟨c, hcc⟩ : ∃ c, cntI ((N.map (·.1))) y = c := ⟨_, rfl⟩
          rw [hcc] at HC
          have HCC := Lib.hid hcc
          clear hc hy hk hcc
          by_cases c1 : (1 : Int) < c
          · have c1n : 1 < c := by omega
            have HF : Hid (formedS L r = false) := Lib.hid (fs_3 (by rw [HTN.out.2, dupN_map]; exact dup_big (List.mem_of_getElem? HY.out) (by rw [HCC.out]; omega)))
            go_wp2_with fail
            refine HC.out.mono ?_
            rintro e w5 ⟨rfl, rfl⟩
            go_wp2_with fail
            go_ret
            exact ⟨by rw [HF.out]; rfl, HM.out.below⟩
          · have c1n : ¬ 1 < c := by omega
            have HX : Hid (∀ j y, j < k + 1 → (N.map (·.1))[j]? = some y → ¬ 1 < cntI ((N.map (·.1))) y) := Lib.hid (fun j y2 hj hs => by
              rcases Nat.lt_or_ge j k with h | h
              · exact HST.out j y2 h hs
              · have hjk : j = k := by omega
                subst hjk
                rw [HY.out] at hs; cases hs
                rw [HCC.out]; omega)
            go_wp2_with fail
            refine HC.out.mono ?_
            rintro e w5 ⟨rfl, rfl⟩
            go_wp2_with fail
            go_roundg (m2 + m4 - (k + 1))
            case rel => exact ⟨k + 1, by have := HK.out; omega, by go_num, HX.out, HM.out, HS.out, HP.out⟩
            case measure => have := HK.out; omega
        · have hkm : k = m2 + m4 := by omega
          have HD3 : Hid (dupI [] ((N.map (·.1))) = false) := Lib.hid (dup_small (fun y hy => by
            obtain ⟨j, hj⟩ := List.getElem?_of_mem hy
            exact HST.out j y (by have := (List.getElem?_eq_some_iff.1 hj).1; have := HPL.out; omega) hj))
          have d2 : ¬ (k : Int) < ((m2 + m4 : Nat) : Int) := by omega
          have d3 := d2
          rw [Int.natCast_add] at d3
          clear hk hlt hkm HST
          go_wp2_with fail
          clear d2 d3
          go_loopg [9, 10] n2 (fun g i _ wr => ∃ k : Nat, k + g = n2 ∧ i = .int .i64 (k : Int) ∧ okPts T r.po.l r.fl.l k (L.po.l.drop k) = okPts T r.po.l r.fl.l 0 L.po.l ∧ FoAt w wr gl gr L r ∧ SlAt 1 intC wr ⟨ta, tc, T⟩)
          case atStart => exact ⟨0, by omega, rfl, rfl, HM.out, HS.out⟩
          case round =>
            obtain ⟨k, hk, rfl, hst, hM, hS⟩ := hrel
            clear HM HS HP
            have HM := Lib.hid hM
            have HS := Lib.hid hS
            have HST := Lib.hid hst
            clear hst hM hS
            by_cases hlt : k < n2
            · obtain ⟨y, hy⟩ : ∃ y, L.po.l[k]? = some y := ⟨_, List.getElem?_eq_getElem (by rw [HNN.out.1]; exact hlt)⟩
              rcases R2.out.below HM.out.below with hnil | ⟨xb, off, rfl, hc⟩
              · rw [hnil] at hy; simp at hy
              obtain ⟨y0, y1⟩ := y
              have z1 := hc k _ hy 1 _ rfl
              dsimp only at z1
              have HY := Lib.hid hy
              have d1 : (0 : Int) ≤ k := by omega
              have d2 : (k : Int) < n2 := by omega
              have e0 : wrap64 ((k : Int) + 1) = (k : Int) + 1 := by have := HNN.out; have := M2.out; unfold wrap64; omega
              have HK := Lib.hid hk
              clear hc hy hk
              obtain ⟨D, hD⟩ : ∃ D, hasI T y1 = D := ⟨_, rfl⟩
              obtain ⟨cD, hcc⟩ : ∃ c, cntI T y1 = c := ⟨_, rfl⟩
              have HC := Lib.hid (count_is ta (m1 + m3) tc T y1 wr HT.out (by have := HL1.out; omega) HS.out.row)
              rw [hcc] at HC
              have HLT := Lib.hid (cnt_lt hcc hD)
              have HDD := Lib.hid hD
              clear hcc hD
              obtain ⟨l1, l2, r1, r2, r3, r5⟩ : wr.cell? ⟨gl, 1, none⟩ = some (.slice (some ⟨xb, off, none⟩) n2 c2) ∧ wr.cell? ⟨gl, 2, none⟩ = some (.slice (some ⟨xs, os, none⟩) n3 c3) ∧ wr.cell? ⟨gr, 1, none⟩ = some (.int .i64 (ks : Int)) ∧ wr.cell? ⟨gr, 2, none⟩ = some (.slice b1 m1 e1) ∧ wr.cell? ⟨gr, 3, none⟩ = some (.slice b2 m2 e2) ∧ wr.cell? ⟨gr, 5, none⟩ = some (.slice b4 m4 e4) := by
                obtain ⟨x1, x2, x3, x4⟩ := HV.out
                obtain ⟨y1, y2, y3, y4, y5, y6⟩ := HU.out
                rw [← x2, ← x3, ← y2, ← y3, ← y4, ← y6]
                exact ⟨blk_cell HM.out.lay 1 _ rfl, blk_cell HM.out.lay 2 _ rfl, blk_cell HM.out.rt 1 _ rfl, blk_cell HM.out.rt 2 _ rfl, blk_cell HM.out.rt 3 _ rfl, blk_cell HM.out.rt 5 _ rfl⟩
              go_wp2_with fail
              refine HC.out.mono ?_
              rintro e w5 ⟨rfl, rfl⟩
              clear HC
              clear l1 l2 r1 r2 r3 r5
              rcases HLT.out with ⟨rfl, d5, d5n⟩ | ⟨rfl, d5, d5n⟩
              · clear HLT
                obtain ⟨l1, l2, r1, r2, r3, r5⟩ : wr.cell? ⟨gl, 1, none⟩ = some (.slice (some ⟨xb, off, none⟩) n2 c2) ∧ wr.cell? ⟨gl, 2, none⟩ = some (.slice (some ⟨xs, os, none⟩) n3 c3) ∧ wr.cell? ⟨gr, 1, none⟩ = some (.int .i64 (ks : Int)) ∧ wr.cell? ⟨gr, 2, none⟩ = some (.slice b1 m1 e1) ∧ wr.cell? ⟨gr, 3, none⟩ = some (.slice b2 m2 e2) ∧ wr.cell? ⟨gr, 5, none⟩ = some (.slice b4 m4 e4) := by
                  obtain ⟨x1, x2, x3, x4⟩ := HV.out
                  obtain ⟨y1, y2, y3, y4, y5, y6⟩ := HU.out
                  rw [← x2, ← x3, ← y2, ← y3, ← y4, ← y6]
                  exact ⟨blk_cell HM.out.lay 1 _ rfl, blk_cell HM.out.lay 2 _ rfl, blk_cell HM.out.rt 1 _ rfl, blk_cell HM.out.rt 2 _ rfl, blk_cell HM.out.rt 3 _ rfl, blk_cell HM.out.rt 5 _ rfl⟩
                go_wp2_with fail
                refine (r5points_is b2 m2 e2 r.po.l wr HMM.out.2.1 (by have := HL2.out; omega) (by have := HL2.out; omega) (Q2.out.below HM.out.below)).mono ?_
                rintro e w6 ⟨qa, qn, qc, rfl, hn, hQ, hb⟩
                rw [HMM.out.2.1] at hn
                obtain rfl : m2 = qn := hn.symm
                clear l1 l2 r1 r2 r3 r5
                have hM := HM.out.step hb
                have hS := HS.out.below hb
                clear HM HS hb
                have HM := Lib.hid hM
                have HS := Lib.hid hS
                clear hM hS
                have HQ := Lib.hid hQ
                clear hQ
                obtain ⟨E, hE⟩ : ∃ E, hasP r.po.l k = E := ⟨_, rfl⟩
                obtain ⟨cE, hcc⟩ : ∃ c, cntI (r.po.l.map (·.1)) (k : Int) = c := ⟨_, rfl⟩
                have HC := Lib.hid (count_is qa m2 qc (r.po.l.map (·.1)) (k : Int) w6 (by rw [List.length_map]; exact HMM.out.2.1) (by have := HL2.out; omega) HQ.out.row)
                rw [hcc] at HC
                have HLT := Lib.hid (cnt_lt hcc ((hasP_map _ _).trans hE))
                have HEE := Lib.hid hE
                clear hcc hE
                go_wp2_with fail
                refine HC.out.mono ?_
                rintro e w9 ⟨rfl, rfl⟩
                clear HC HQ
                clear d5 d5n
                rcases HLT.out with ⟨rfl, d6, d6n⟩ | ⟨rfl, d6, d6n⟩
                · clear HLT
                  obtain ⟨l1, l2, r1, r2, r3, r5⟩ : w6.cell? ⟨gl, 1, none⟩ = some (.slice (some ⟨xb, off, none⟩) n2 c2) ∧ w6.cell? ⟨gl, 2, none⟩ = some (.slice (some ⟨xs, os, none⟩) n3 c3) ∧ w6.cell? ⟨gr, 1, none⟩ = some (.int .i64 (ks : Int)) ∧ w6.cell? ⟨gr, 2, none⟩ = some (.slice b1 m1 e1) ∧ w6.cell? ⟨gr, 3, none⟩ = some (.slice b2 m2 e2) ∧ w6.cell? ⟨gr, 5, none⟩ = some (.slice b4 m4 e4) := by
                    obtain ⟨x1, x2, x3, x4⟩ := HV.out
                    obtain ⟨y1, y2, y3, y4, y5, y6⟩ := HU.out
                    rw [← x2, ← x3, ← y2, ← y3, ← y4, ← y6]
                    exact ⟨blk_cell HM.out.lay 1 _ rfl, blk_cell HM.out.lay 2 _ rfl, blk_cell HM.out.rt 1 _ rfl, blk_cell HM.out.rt 2 _ rfl, blk_cell HM.out.rt 3 _ rfl, blk_cell HM.out.rt 5 _ rfl⟩
                  go_wp2_with fail
                  refine (r5points_is b4 m4 e4 r.fl.l w6 HMM.out.2.2.2 (by have := HL2.out; omega) (by have := HL2.out; omega) (Q4.out.below HM.out.below)).mono ?_
                  rintro e w7 ⟨qa, qn, qc, rfl, hn, hQ, hb⟩
                  rw [HMM.out.2.2.2] at hn
                  obtain rfl : m4 = qn := hn.symm
                  clear l1 l2 r1 r2 r3 r5
                  have hM := HM.out.step hb
                  have hS := HS.out.below hb
                  clear HM HS hb
                  have HM := Lib.hid hM
                  have HS := Lib.hid hS
                  clear hM hS
                  have HQ := Lib.hid hQ
                  clear hQ
                  obtain ⟨F, hF⟩ : ∃ E, hasP r.fl.l k = E := ⟨_, rfl⟩
                  obtain ⟨cF, hcc⟩ : ∃ c, cntI (r.fl.l.map (·.1)) (k : Int) = c := ⟨_, rfl⟩
                  have HC := Lib.hid (count_is qa m4 qc (r.fl.l.map (·.1)) (k : Int) w7 (by rw [List.length_map]; exact HMM.out.2.2.2) (by have := HL2.out; omega) HQ.out.row)
                  rw [hcc] at HC
                  have HLT := Lib.hid (cnt_lt hcc ((hasP_map _ _).trans hF))
                  have HFF := Lib.hid hF
                  clear hcc hF
                  go_wp2_with fail
                  refine HC.out.mono ?_
                  rintro e w9 ⟨rfl, rfl⟩
                  clear HC HQ
                  clear d6 d6n
                  rcases HLT.out with ⟨rfl, d7, d7n⟩ | ⟨rfl, d7, d7n⟩
                  · clear HLT
                    have HF : Hid (formedS L r = false) := Lib.hid (fs_4 (by rw [HTN.out.1, ← HST.out, okPts_drop HY.out, okPt_in HDD.out HEE.out HFF.out]; rfl))
                    go_wp2_with fail
                    go_ret
                    exact ⟨by rw [HF.out]; rfl, HM.out.below⟩
                  · clear HLT
                    have HX : Hid (okPts T r.po.l r.fl.l (k + 1) (L.po.l.drop (k + 1)) = okPts T r.po.l r.fl.l 0 L.po.l) := Lib.hid (by rw [← HST.out, okPts_drop HY.out, okPt_in HDD.out HEE.out HFF.out]; rfl)
                    go_wp2_with fail
                    go_roundg (n2 - (k + 1))
                    case rel => exact ⟨k + 1, by have := HK.out; omega, by go_num, HX.out, HM.out, HS.out⟩
                    case measure => have := HK.out; omega
                · clear HLT
                  have HF : Hid (formedS L r = false) := Lib.hid (fs_4 (by rw [HTN.out.1, ← HST.out, okPts_drop HY.out, okPt_ne HDD.out HEE.out (by decide)]; rfl))
                  go_wp2_with fail
                  go_ret
                  exact ⟨by rw [HF.out]; rfl, HM.out.below⟩
              · clear HLT
                obtain ⟨l1, l2, r1, r2, r3, r5⟩ : wr.cell? ⟨gl, 1, none⟩ = some (.slice (some ⟨xb, off, none⟩) n2 c2) ∧ wr.cell? ⟨gl, 2, none⟩ = some (.slice (some ⟨xs, os, none⟩) n3 c3) ∧ wr.cell? ⟨gr, 1, none⟩ = some (.int .i64 (ks : Int)) ∧ wr.cell? ⟨gr, 2, none⟩ = some (.slice b1 m1 e1) ∧ wr.cell? ⟨gr, 3, none⟩ = some (.slice b2 m2 e2) ∧ wr.cell? ⟨gr, 5, none⟩ = some (.slice b4 m4 e4) := by
                  obtain ⟨x1, x2, x3, x4⟩ := HV.out
                  obtain ⟨y1, y2, y3, y4, y5, y6⟩ := HU.out
                  rw [← x2, ← x3, ← y2, ← y3, ← y4, ← y6]
                  exact ⟨blk_cell HM.out.lay 1 _ rfl, blk_cell HM.out.lay 2 _ rfl, blk_cell HM.out.rt 1 _ rfl, blk_cell HM.out.rt 2 _ rfl, blk_cell HM.out.rt 3 _ rfl, blk_cell HM.out.rt 5 _ rfl⟩
                go_wp2_with fail
                refine (r5points_is b2 m2 e2 r.po.l wr HMM.out.2.1 (by have := HL2.out; omega) (by have := HL2.out; omega) (Q2.out.below HM.out.below)).mono ?_
                rintro e w6 ⟨qa, qn, qc, rfl, hn, hQ, hb⟩
                rw [HMM.out.2.1] at hn
                obtain rfl : m2 = qn := hn.symm
                clear l1 l2 r1 r2 r3 r5
                have hM := HM.out.step hb
                have hS := HS.out.below hb
                clear HM HS hb
                have HM := Lib.hid hM
                have HS := Lib.hid hS
                clear hM hS
                have HQ := Lib.hid hQ
                clear hQ
                obtain ⟨E, hE⟩ : ∃ E, hasP r.po.l k = E := ⟨_, rfl⟩
                obtain ⟨cE, hcc⟩ : ∃ c, cntI (r.po.l.map (·.1)) (k : Int) = c := ⟨_, rfl⟩
                have HC := Lib.hid (count_is qa m2 qc (r.po.l.map (·.1)) (k : Int) w6 (by rw [List.length_map]; exact HMM.out.2.1) (by have := HL2.out; omega) HQ.out.row)
                rw [hcc] at HC
                have HLT := Lib.hid (cnt_lt hcc ((hasP_map _ _).trans hE))
                have HEE := Lib.hid hE
                clear hcc hE
                go_wp2_with fail
                refine HC.out.mono ?_
                rintro e w9 ⟨rfl, rfl⟩
                clear HC HQ
                clear d5 d5n
                rcases HLT.out with ⟨rfl, d6, d6n⟩ | ⟨rfl, d6, d6n⟩
                · clear HLT
                  have HF : Hid (formedS L r = false) := Lib.hid (fs_4 (by rw [HTN.out.1, ← HST.out, okPts_drop HY.out, okPt_ne HDD.out HEE.out (by decide)]; rfl))
                  go_wp2_with fail
                  go_ret
                  exact ⟨by rw [HF.out]; rfl, HM.out.below⟩
                · clear HLT
                  have HX : Hid (okPts T r.po.l r.fl.l (k + 1) (L.po.l.drop (k + 1)) = okPts T r.po.l r.fl.l 0 L.po.l) := Lib.hid (by rw [← HST.out, okPts_drop HY.out, okPt_no HDD.out HEE.out]; rfl)
                  go_wp2_with fail
                  go_roundg (n2 - (k + 1))
                  case rel => exact ⟨k + 1, by have := HK.out; omega, by go_num, HX.out, HM.out, HS.out⟩
                  case measure => have := HK.out; omega
            · have hkm : n2 = k := by omega
              subst hkm
              have HF : Hid (formedS L r = true) := Lib.hid (fs_5 (by rw [HMM.out.1]; exact H0.out) (by rw [HTN.out.1]; exact HD1.out) (by rw [HTN.out.1]; exact HD2.out) (by rw [HTN.out.2, dupN_map]; exact HD3.out) (by rw [HTN.out.1, ← HST.out, okPts_end HNN.out.1]))
              obtain ⟨l1, l2, r1, r2, r3, r5⟩ : wr.cell? ⟨gl, 1, none⟩ = some (.slice a2 n2 c2) ∧ wr.cell? ⟨gl, 2, none⟩ = some (.slice (some ⟨xs, os, none⟩) n3 c3) ∧ wr.cell? ⟨gr, 1, none⟩ = some (.int .i64 (ks : Int)) ∧ wr.cell? ⟨gr, 2, none⟩ = some (.slice b1 m1 e1) ∧ wr.cell? ⟨gr, 3, none⟩ = some (.slice b2 m2 e2) ∧ wr.cell? ⟨gr, 5, none⟩ = some (.slice b4 m4 e4) := by
                obtain ⟨x1, x2, x3, x4⟩ := HV.out
                obtain ⟨y1, y2, y3, y4, y5, y6⟩ := HU.out
                rw [← x2, ← x3, ← y2, ← y3, ← y4, ← y6]
                exact ⟨blk_cell HM.out.lay 1 _ rfl, blk_cell HM.out.lay 2 _ rfl, blk_cell HM.out.rt 1 _ rfl, blk_cell HM.out.rt 2 _ rfl, blk_cell HM.out.rt 3 _ rfl, blk_cell HM.out.rt 5 _ rfl⟩
              go_wp2_with fail
              go_ret
              exact ⟨by rw [HF.out]; rfl, HM.out.below⟩
end Go.Proofs.Ytjienmjpfklgeaa
namespace Go.Proofs.Ytjienmjpfklgeaa
open Go.RowKit
set_option maxRecDepth 100000
attribute [local irreducible] hasI hasP dupI dupN okPt okPts secOf formedS Sl.v cntI ixF mayS

theorem bad_end {L : Lay} {k : Nat} (h : L.rt.l.length = k) (hb : ixF (fun r => !formedS L r) k (L.rt.l.drop k) = badS L) : badS L = -1 := by rw [← hb, ixF_end h]
theorem bad_hit {L : Lay} {k : Nat} {y : Rt} (hy : L.rt.l[k]? = some y) (hf : formedS L y = false) (hb : ixF (fun r => !formedS L r) k (L.rt.l.drop k) = badS L) : badS L = k := by rw [← hb, ixF_drop hy, hf]; rfl
theorem bad_on {L : Lay} {k : Nat} {y : Rt} (hy : L.rt.l[k]? = some y) (hf : formedS L y = true) (hb : ixF (fun r => !formedS L r) k (L.rt.l.drop k) = badS L) : ixF (fun r => !formedS L r) (k + 1) (L.rt.l.drop (k + 1)) = badS L := by rw [← hb, ixF_drop hy, hf]; rfl
attribute [local irreducible] badS
set_option maxRecDepth 100000 in
set_option maxHeartbeats 4000000 in
theorem rcheck_is (L : Lay) (w : World) (hL : LayAt w L) :
    Calls Try.prog 16 #[.agg #[L.se.v, L.po.v, L.sg.v, L.rt.v]] w fun e w' => e = .returned (.tuple #[.int .i64 (checkS L).1, .int .i64 (checkS L).2]) ∧ Below w.heap.size w w' := by
  have HMAY : Hid (∀ W, Below w.heap.size w W → Calls Try.prog 36 #[.agg #[L.se.v, L.po.v, L.sg.v, L.rt.v]] W fun e w' => e = .returned (.bool (mayS L)) ∧ Below W.heap.size W w') := Lib.hid (fun W hW => rmay_lay L W (hL.below hW))
  have HFO : Hid (mayS L = true → ∀ W, Below w.heap.size w W → ∀ r ∈ L.rt.l, Calls Try.prog 37 #[.agg #[L.se.v, L.po.v, L.sg.v, L.rt.v], .agg #[.string r.nm, .int .i64 r.sg, r.pa.v, r.po.v, r.ov.v, r.fl.v]] W fun e w' => e = .returned (.bool (formedS L r)) ∧ Below W.heap.size W w') := Lib.hid (fun hmay W hW r hr => by
    have ho := mayS_rt hmay r hr
    exact rformed_is L r W (hL.below hW) ((hL.rn r hr).below hW) ho.s0 ho.s1 (by have := ho.pa; have := ho.ov; omega) (by have := ho.po; have := ho.fl; omega))
  have HROW := Lib.hid hL.rt.row
  obtain ⟨n1, hn1⟩ : ∃ n, L.se.l.length = n := ⟨_, rfl⟩
  obtain ⟨n2, hn2⟩ : ∃ n, L.po.l.length = n := ⟨_, rfl⟩
  obtain ⟨n3, hn3⟩ : ∃ n, L.sg.l.length = n := ⟨_, rfl⟩
  obtain ⟨n4, hn4⟩ : ∃ n, L.rt.l.length = n := ⟨_, rfl⟩
  have hm4 : n4 ≤ 9223372036854775807 := by rw [← hn4]; exact hL.rt.lenM
  have HN4 := Lib.hid hn4
  have HM4 := Lib.hid hm4
  rw [slv hn1, slv hn2, slv hn3, slv hn4] at HMAY HFO ⊢
  clear hn1 hn2 hn3 hn4 hm4 hL
  obtain ⟨gl, hgl⟩ : ∃ g, g = w.heap.size := ⟨_, rfl⟩
  have HGL := Lib.hid hgl
  clear hgl
  obtain ⟨B, hB⟩ : ∃ B, mayS L = B := ⟨_, rfl⟩
  rw [hB] at HMAY
  have HBB := Lib.hid hB
  clear hB
  go_enter Try.func16, Try.ntmps16
  go_wp2_with fail
  refine (HMAY.out _ (below1 w _)).mono ?_
  rintro e w1 ⟨rfl, hb1⟩
  have hq := blk_keep hb1 (alloc1 w (.cells #[.slice L.se.a n1 L.se.c, .slice L.po.a n2 L.po.c, .slice L.sg.a n3 L.sg.c, .slice L.rt.a n4 L.rt.c] 27) (Below.refl _ _))
  have hbw := below_on (below1 w _) hb1
  rw [← HGL.out] at hq ⊢
  have HB1 := Lib.hid hbw
  have HQ := Lib.hid hq
  clear hb1 hbw hq
  cases B with
  | false =>
    have HF := Lib.hid (cs_no HBB.out)
    clear HQ
    go_wp2_with fail
    go_ret2
    exact ⟨by rw [HF.out]; rfl, HB1.out⟩
  | true =>
    go_wp2_with fail
    go_loopg [2, 3, 4] n4 (fun g _ _ i wr => ∃ k : Nat, k + g = n4 ∧ i = .int .i64 (k : Int) ∧ ixF (fun r => !formedS L r) k (L.rt.l.drop k) = badS L ∧ wr.heap[gl]? = some (.cells #[.slice L.se.a n1 L.se.c, .slice L.po.a n2 L.po.c, .slice L.sg.a n3 L.sg.c, .slice L.rt.a n4 L.rt.c] 27) ∧ Below w.heap.size w wr)
    case atStart => exact ⟨0, by omega, rfl, by unfold badS; rfl, HQ.out, HB1.out⟩
    case round =>
      obtain ⟨k, hk, rfl, hst, hq, hbw⟩ := hrel
      clear HQ HB1
      have HST := Lib.hid hst
      have HQ := Lib.hid hq
      have HB1 := Lib.hid hbw
      have l3 := blk_cell hq 3 _ rfl
      clear hst hq hbw
      by_cases hlt : k < n4
      · have HK := Lib.hid hk
        have e0 : wrap64 ((k : Int) + 1) = (k : Int) + 1 := by have := HM4.out; unfold wrap64; omega
        obtain ⟨y, hy⟩ : ∃ y, L.rt.l[k]? = some y := ⟨_, List.getElem?_eq_getElem (by rw [HN4.out]; exact hlt)⟩
        have hcall := fun W (hW : Below wr.heap.size wr W) => HFO.out HBB.out W (below_on HB1.out hW) y (List.mem_of_getElem? hy)
        have HY := Lib.hid hy
        rcases HROW.out.below HB1.out with hnil | ⟨xb, off, hxb, hc⟩
        · rw [hnil] at hy; simp at hy
        have z0 := hc k _ hy 0 _ rfl
        have z1 := hc k _ hy 1 _ rfl
        have z2 := hc k _ hy 2 _ rfl
        have z3 := hc k _ hy 3 _ rfl
        have z4 := hc k _ hy 4 _ rfl
        have z5 := hc k _ hy 5 _ rfl
        rw [Nat.add_zero] at z0
        obtain ⟨D, hD⟩ : ∃ D, formedS L y = D := ⟨_, rfl⟩
        rw [hD] at hcall
        have HD := Lib.hid hD
        obtain ⟨m1, hm1⟩ : ∃ n, y.pa.l.length = n := ⟨_, rfl⟩
        obtain ⟨m2, hm2⟩ : ∃ n, y.po.l.length = n := ⟨_, rfl⟩
        obtain ⟨m3, hm3⟩ : ∃ n, y.ov.l.length = n := ⟨_, rfl⟩
        obtain ⟨m4, hm4⟩ : ∃ n, y.fl.l.length = n := ⟨_, rfl⟩
        rw [slv hm1, slv hm2, slv hm3, slv hm4] at hcall
        rw [slv hm1] at z2
        rw [slv hm2] at z3
        rw [slv hm3] at z4
        rw [slv hm4] at z5
        have HC : Hid (∀ W, Below wr.heap.size wr W → Calls Try.prog 37 #[.agg #[.slice L.se.a n1 L.se.c, .slice L.po.a n2 L.po.c, .slice L.sg.a n3 L.sg.c, .slice L.rt.a n4 L.rt.c], .agg #[.string y.nm, .int .i64 y.sg, .slice y.pa.a m1 y.pa.c, .slice y.po.a m2 y.po.c, .slice y.ov.a m3 y.ov.c, .slice y.fl.a m4 y.fl.c]] W fun e w' => e = .returned (.bool D) ∧ Below wr.heap.size wr w') := Lib.hid (fun W hW => (hcall W hW).mono (fun e w9 h => ⟨h.1, below_on hW h.2⟩))
        have HZ := Lib.hid (And.intro z0 (And.intro z1 (And.intro z2 (And.intro z3 (And.intro z4 z5)))))
        have d1 : (0 : Int) ≤ k := by omega
        have d2 : (k : Int) < n4 := by omega
        clear hc hcall hy hD hm1 hm2 hm3 hm4 z0 z1 z2 z3 z4 z5
        clear hk
        obtain ⟨x, hx⟩ : ∃ x, L.rt.a = x := ⟨_, rfl⟩
        have HXX := Lib.hid hx
        rw [hx] at l3 HQ HC hxb ⊢
        subst hxb
        clear hx hlt
        go_upto_region 6 with fail
        refine wp_region_calm (by kernel_rfl) ?_ ?_
        · kernel_rfl
        repeat first
         | go_big_quiet_skip
         | (go_big_quiet_want; go_big_quiet_op; go_big_quiet_on)
         | (with_reducible apply wpQuiet_step
            intro K hK
            go_simp
            first
              | (refine hK _ ?_; clear hK K)
              | (apply Exists.intro
                 refine ⟨fun w' hw' => ?_, hK _ ?_⟩
                 ·
                   (first
                    | with_reducible exact HC.out _ hw'
                    | (have g0 := blk_cell (blk_keep hw' HQ.out) 0 _ rfl
                       have g1 := blk_cell (blk_keep hw' HQ.out) 1 _ rfl
                       have g2 := blk_cell (blk_keep hw' HQ.out) 2 _ rfl
                       have g3 := blk_cell (blk_keep hw' HQ.out) 3 _ rfl
                       have f0 := cell_later hw' HZ.out.1
                       have f1 := cell_later hw' HZ.out.2.1
                       have f2 := cell_later hw' HZ.out.2.2.1
                       have f3 := cell_later hw' HZ.out.2.2.2.1
                       have f4 := cell_later hw' HZ.out.2.2.2.2.1
                       have f5 := cell_later hw' HZ.out.2.2.2.2.2
                       go_simp
                       first | done | with_reducible exact rfl | with_reducible exact ⟨rfl, rfl⟩ | with_reducible exact HC.out _ hw'))
                 clear hK K))
        refine wpQuiet_nil ?_
        intro w7 hw7
        have HB7 := Lib.hid (below_on HB1.out hw7)
        have HQ7 := Lib.hid (blk_keep hw7 HQ.out)
        clear hw7 l3
        cases D with
        | false =>
          have HF := Lib.hid (cs_bad HBB.out (bad_hit HY.out HD.out HST.out) (Int.natCast_nonneg k))
          go_wp2_with fail
          go_ret2
          exact ⟨by rw [HF.out]; rfl, HB7.out⟩
        | true =>
          have HX := Lib.hid (bad_on HY.out HD.out HST.out)
          go_wp2_with fail
          rw [← HXX.out]
          go_roundg (n4 - (k + 1))
          case rel => exact ⟨k + 1, by have := HK.out; omega, by go_num, HX.out, by rw [HXX.out]; exact HQ7.out, HB7.out⟩
          case measure => have := HK.out; omega
      · have hkm : n4 = k := by omega
        subst hkm
        have HF := Lib.hid (cs_ok HBB.out (bad_end HN4.out HST.out) (by decide))
        go_wp2_with fail
        go_ret2
        exact ⟨by rw [HF.out]; rfl, HB1.out⟩
end Go.Proofs.Ytjienmjpfklgeaa
namespace Go.Proofs.Ytjienmjpfklgeaa
open Go.RowKit
set_option maxRecDepth 100000

/-- a number that grows with each element, as long as it is t at most -/
def wtF {α : Type} (t : Int) (f : Int → α → Int) : Int → List α → Int
  | z, [] => z
  | z, y :: l => if z ≤ t then wtF t f (f z y) l else z
theorem wtF_drop {α : Type} {t : Int} {f : Int → α → Int} {z : Int} {l : List α} {y : α} {k : Nat} (h : l[k]? = some y) (hz : z ≤ t) : wtF t f z (l.drop k) = wtF t f (f z y) (l.drop (k + 1)) := by
  have hk : k < l.length := (List.getElem?_eq_some_iff.1 h).1
  rw [List.drop_eq_getElem_cons hk, (List.getElem?_eq_some_iff.1 h).2]
  show (if z ≤ t then _ else _) = _
  rw [if_pos hz]
theorem wtF_stop {α : Type} {t : Int} {f : Int → α → Int} {z : Int} {l : List α} {k n : Nat} (hn : l.length = n) (h : n ≤ k ∨ t < z) : wtF t f z (l.drop k) = z := by
  cases hd : l.drop k with
  | nil => rfl
  | cons y m =>
    rcases h with h | h
    · rw [List.drop_eq_nil_of_le (by omega)] at hd; cases hd
    · show (if z ≤ t then _ else _) = _
      rw [if_neg (by omega)]
def wtS (z : Int) (s : BA) : Int := wrap64 (wrap64 (z + 1) + (s.size : Int))
def wtR (t z : Int) (r : Rt) : Int :=
  let y := wrap64 (wrap64 (wrap64 (wrap64 (z + 1) + (r.nm.size : Int)) + (r.pa.l.length : Int)) + (r.po.l.length : Int))
  if y ≤ t then wrap64 (wrap64 (y + (r.ov.l.length : Int)) + (r.fl.l.length : Int)) else y
def weightS (t : Int) (L : Lay) : Int := wtF t (wtR t) (wtF t (fun z (p : BA × Int) => wtS z p.1) (wtF t (fun z (p : BA × Int) => wtS z p.1) (wtF t wtS 0 L.se.l) L.po.l) L.sg.l) L.rt.l
theorem wtS_is (z : Int) (s : BA) : wrap64 (wrap64 (z + 1) + (s.size : Int)) = wtS z s := rfl
theorem wtR_le {t z : Int} {r : Rt} {m1 m2 m3 m4 : Nat} (h : r.pa.l.length = m1 ∧ r.po.l.length = m2 ∧ r.ov.l.length = m3 ∧ r.fl.l.length = m4) (q : wrap64 (wrap64 (wrap64 (wrap64 (z + 1) + (r.nm.size : Int)) + (m1 : Int)) + (m2 : Int)) ≤ t) :
    wrap64 (wrap64 (wrap64 (wrap64 (wrap64 (wrap64 (z + 1) + (r.nm.size : Int)) + (m1 : Int)) + (m2 : Int)) + (m3 : Int)) + (m4 : Int)) = wtR t z r := by
  obtain ⟨rfl, rfl, rfl, rfl⟩ := h
  unfold wtR
  rw [if_pos q]
theorem wtR_gt {t z : Int} {r : Rt} {m1 m2 m3 m4 : Nat} (h : r.pa.l.length = m1 ∧ r.po.l.length = m2 ∧ r.ov.l.length = m3 ∧ r.fl.l.length = m4) (q : ¬ wrap64 (wrap64 (wrap64 (wrap64 (z + 1) + (r.nm.size : Int)) + (m1 : Int)) + (m2 : Int)) ≤ t) :
    wrap64 (wrap64 (wrap64 (wrap64 (z + 1) + (r.nm.size : Int)) + (m1 : Int)) + (m2 : Int)) = wtR t z r := by
  obtain ⟨rfl, rfl, rfl, rfl⟩ := h
  unfold wtR
  rw [if_neg q]
attribute [local irreducible] Sl.v wtF wtR wtS

set_option maxRecDepth 100000 in
set_option maxHeartbeats 4000000 in
theorem weight_is (t : Int) (L : Lay) (w : World) (hL : LayAt w L) :
    Calls Try.prog 14 #[.agg #[L.se.v, L.po.v, L.sg.v, L.rt.v], .int .i64 t] w fun e w' => e = .returned (.int .i64 (weightS t L)) ∧ Below w.heap.size w w' := by
  have HR1 := Lib.hid hL.se.row
  have HR2 := Lib.hid hL.po.row
  have HR3 := Lib.hid hL.sg.row
  have HR4 := Lib.hid hL.rt.row
  obtain ⟨n1, hn1⟩ : ∃ n, L.se.l.length = n := ⟨_, rfl⟩
  obtain ⟨n2, hn2⟩ : ∃ n, L.po.l.length = n := ⟨_, rfl⟩
  obtain ⟨n3, hn3⟩ : ∃ n, L.sg.l.length = n := ⟨_, rfl⟩
  obtain ⟨n4, hn4⟩ : ∃ n, L.rt.l.length = n := ⟨_, rfl⟩
  have HM1 : Hid (n1 ≤ 9223372036854775807) := Lib.hid (by rw [← hn1]; exact hL.se.lenM)
  have HM2 : Hid (n2 ≤ 9223372036854775807) := Lib.hid (by rw [← hn2]; exact hL.po.lenM)
  have HM3 : Hid (n3 ≤ 9223372036854775807) := Lib.hid (by rw [← hn3]; exact hL.sg.lenM)
  have HM4 : Hid (n4 ≤ 9223372036854775807) := Lib.hid (by rw [← hn4]; exact hL.rt.lenM)
  have HN1 := Lib.hid hn1
  have HN2 := Lib.hid hn2
  have HN3 := Lib.hid hn3
  have HN4 := Lib.hid hn4
  rw [slv hn1, slv hn2, slv hn3, slv hn4]
  clear hn1 hn2 hn3 hn4 hL
  obtain ⟨W1, hW1⟩ : ∃ W, W = wtF t wtS 0 L.se.l := ⟨_, rfl⟩
  obtain ⟨W2, hW2⟩ : ∃ W, W = wtF t (fun z (p : BA × Int) => wtS z p.1) W1 L.po.l := ⟨_, rfl⟩
  obtain ⟨W3, hW3⟩ : ∃ W, W = wtF t (fun z (p : BA × Int) => wtS z p.1) W2 L.sg.l := ⟨_, rfl⟩
  obtain ⟨W4, hW4⟩ : ∃ W, W = wtF t (wtR t) W3 L.rt.l := ⟨_, rfl⟩
  have HW : Hid (weightS t L = W4) := Lib.hid (by rw [hW4, hW3, hW2, hW1]; rfl)
  have HW1 := Lib.hid hW1.symm
  have HW2 := Lib.hid hW2.symm
  have HW3 := Lib.hid hW3.symm
  have HW4 := Lib.hid hW4.symm
  clear hW1 hW2 hW3 hW4
  obtain ⟨gl, hgl⟩ : ∃ g, g = w.heap.size := ⟨_, rfl⟩
  have HGL := Lib.hid hgl
  clear hgl
  go_enter Try.func14, Try.ntmps14
  go_wp2_with fail
  refine name_world05 ?_
  intro W0 hW0
  have hq : W0.heap[gl]? = some (.cells #[.slice L.se.a n1 L.se.c, .slice L.po.a n2 L.po.c, .slice L.sg.a n3 L.sg.c, .slice L.rt.a n4 L.rt.c] 27) := by rw [hW0, HGL.out]; exact alloc1 w _ (Below.refl _ _)
  have hb0 : Below w.heap.size w W0 := by rw [hW0]; exact below1 w _
  rw [← HGL.out]
  have HQ := Lib.hid hq
  have HB := Lib.hid hb0
  clear hq hb0 hW0
  skip
  go_loopg [5, 6] n1 (fun g nn i wr => ∃ (k : Nat) (z : Int), k + g = n1 ∧ nn = .int .i64 z ∧ i = .int .i64 (k : Int) ∧ wtF t wtS z (L.se.l.drop k) = W1 ∧ wr.heap[gl]? = some (.cells #[.slice L.se.a n1 L.se.c, .slice L.po.a n2 L.po.c, .slice L.sg.a n3 L.sg.c, .slice L.rt.a n4 L.rt.c] 27) ∧ Below w.heap.size w wr)
  case atStart => exact ⟨0, 0, by omega, rfl, rfl, HW1.out, HQ.out, HB.out⟩
  case round =>
    obtain ⟨k, z, hk, rfl, rfl, hst, hq, hbw⟩ := hrel
    clear HQ HB
    have HST := Lib.hid hst
    have HQ := Lib.hid hq
    have HB := Lib.hid hbw
    have l1 := blk_cell hq 0 _ rfl
    have hgz := blk_lt hq
    have HGZ := Lib.hid hgz
    have HK := Lib.hid hk
    clear hst hq hbw hk hgz
    have e0 : k < n1 → wrap64 ((k : Int) + 1) = (k : Int) + 1 := by intro h; have := HM1.out; unfold wrap64; omega
    have HE := Lib.hid e0
    clear e0
    go_upto_region 3 with fail
    go_cut [15, 16, 17, 18, 19, 20] (fun _s15 _s16 _s17 _s18 _s19 s20 wx => ∃ D : Bool, s20 = .bool D ∧ wr = wx ∧ Hid (D = true → k < n1 ∧ z ≤ t) ∧ Hid (D = false → n1 ≤ k ∨ t < z))
    case first =>
      by_cases hlt : k < n1
      · have d1 : (k : Int) < n1 := by omega
        by_cases hz : z ≤ t
        · go_wp2_with fail
          go_meet
          exact ⟨true, rfl, rfl, Lib.hid (fun _ => ⟨hlt, hz⟩), Lib.hid (fun h => absurd h (by decide))⟩
        · go_wp2_with fail
          go_meet
          exact ⟨false, rfl, rfl, Lib.hid (fun h => absurd h (by decide)), Lib.hid (fun _ => .inr (by omega))⟩
      · have d1 : ¬ (k : Int) < n1 := by omega
        go_wp2_with fail
        go_meet
        exact ⟨false, rfl, rfl, Lib.hid (fun h => absurd h (by decide)), Lib.hid (fun _ => .inl (Nat.le_of_not_lt hlt))⟩
    case rest =>
      obtain ⟨D, rfl, hwx, hD1, hD2⟩ := hcut
      subst hwx
      cases D with
      | true =>
        obtain ⟨hlt, hz⟩ := hD1.out rfl
        clear hD1 hD2
        have e0 := HE.out hlt
        clear HE
        obtain ⟨y, hy⟩ : ∃ y, L.se.l[k]? = some y := ⟨_, List.getElem?_eq_getElem (by rw [HN1.out]; exact hlt)⟩
        have hst := HST.out
        rw [wtF_drop hy hz] at hst
        clear HST
        have hz2 := hz
        clear hz
        rcases HR1.out.below HB.out with hnil | ⟨xb, off, hxb, hc⟩
        · rw [hnil] at hy; simp at hy
        have z0 := hc k _ hy 0 _ rfl
        rw [Nat.add_zero, Nat.mul_one] at z0
        have d1 : (0 : Int) ≤ k := by omega
        have d2 : (k : Int) < n1 := by omega
        have HX := Lib.hid hst
        have HLT := Lib.hid hlt
        clear hc hy hst hlt hz2
        obtain ⟨x, hx⟩ : ∃ x, L.se.a = x := ⟨_, rfl⟩
        have HXX := Lib.hid hx
        rw [hx] at l1 HQ hxb ⊢
        subst hxb
        clear hx
        go_wp2_with fail
        rw [← HXX.out]
        go_roundg (n1 - (k + 1))
        case rel => exact ⟨k + 1, wrap64 (wrap64 (z + 1) + ((y.size : Nat) : Int)), by have := HK.out; have := HLT.out; omega, rfl, by go_num, by rw [wtS_is]; exact HX.out, by rw [HXX.out]; exact HQ.out, HB.out⟩
        case measure => have := HK.out; have := HLT.out; omega
      | false =>
        have h := wtF_stop (f := wtS) HN1.out (hD2.out rfl)
        rw [HST.out] at h
        subst h
        clear hD1 hD2 HST HE l1 HK HGZ
        go_wp2_with fail
        go_loopg [5, 7] n2 (fun g nn i wr => ∃ (k : Nat) (z : Int), k + g = n2 ∧ nn = .int .i64 z ∧ i = .int .i64 (k : Int) ∧ wtF t (fun z (p : BA × Int) => wtS z p.1) z (L.po.l.drop k) = W2 ∧ wr.heap[gl]? = some (.cells #[.slice L.se.a n1 L.se.c, .slice L.po.a n2 L.po.c, .slice L.sg.a n3 L.sg.c, .slice L.rt.a n4 L.rt.c] 27) ∧ Below w.heap.size w wr)
        case atStart => exact ⟨0, W1, by omega, rfl, rfl, HW2.out, HQ.out, HB.out⟩
        case round =>
          obtain ⟨k, z, hk, rfl, rfl, hst, hq, hbw⟩ := hrel
          clear HQ HB
          have HST := Lib.hid hst
          have HQ := Lib.hid hq
          have HB := Lib.hid hbw
          have l2 := blk_cell hq 1 _ rfl
          have hgz := blk_lt hq
          have HGZ := Lib.hid hgz
          have HK := Lib.hid hk
          clear hst hq hbw hk hgz
          have e0 : k < n2 → wrap64 ((k : Int) + 1) = (k : Int) + 1 := by intro h; have := HM2.out; unfold wrap64; omega
          have HE := Lib.hid e0
          clear e0
          go_upto_region 7 with fail
          go_cut [36, 37, 38, 39, 40, 41] (fun _s36 _s37 _s38 _s39 _s40 s41 wx => ∃ D : Bool, s41 = .bool D ∧ wr = wx ∧ Hid (D = true → k < n2 ∧ z ≤ t) ∧ Hid (D = false → n2 ≤ k ∨ t < z))
          case first =>
            by_cases hlt : k < n2
            · have d1 : (k : Int) < n2 := by omega
              by_cases hz : z ≤ t
              · go_wp2_with fail
                go_meet
                exact ⟨true, rfl, rfl, Lib.hid (fun _ => ⟨hlt, hz⟩), Lib.hid (fun h => absurd h (by decide))⟩
              · go_wp2_with fail
                go_meet
                exact ⟨false, rfl, rfl, Lib.hid (fun h => absurd h (by decide)), Lib.hid (fun _ => .inr (by omega))⟩
            · have d1 : ¬ (k : Int) < n2 := by omega
              go_wp2_with fail
              go_meet
              exact ⟨false, rfl, rfl, Lib.hid (fun h => absurd h (by decide)), Lib.hid (fun _ => .inl (Nat.le_of_not_lt hlt))⟩
          case rest =>
            obtain ⟨D, rfl, hwx, hD1, hD2⟩ := hcut
            subst hwx
            cases D with
            | true =>
              obtain ⟨hlt, hz⟩ := hD1.out rfl
              clear hD1 hD2
              have e0 := HE.out hlt
              clear HE
              obtain ⟨y, hy⟩ : ∃ y, L.po.l[k]? = some y := ⟨_, List.getElem?_eq_getElem (by rw [HN2.out]; exact hlt)⟩
              have hst := HST.out
              rw [wtF_drop hy hz] at hst
              clear HST
              have hz2 := hz
              clear hz
              rcases HR2.out.below HB.out with hnil | ⟨xb, off, hxb, hc⟩
              · rw [hnil] at hy; simp at hy
              have z0 := hc k _ hy 0 _ rfl
              rw [Nat.add_zero] at z0
              have d1 : (0 : Int) ≤ k := by omega
              have d2 : (k : Int) < n2 := by omega
              have HX := Lib.hid hst
              have HLT := Lib.hid hlt
              clear hc hy hst hlt hz2
              obtain ⟨x, hx⟩ : ∃ x, L.po.a = x := ⟨_, rfl⟩
              have HXX := Lib.hid hx
              rw [hx] at l2 HQ hxb ⊢
              subst hxb
              clear hx
              go_wp2_with fail
              rw [← HXX.out]
              go_roundg (n2 - (k + 1))
              case rel => exact ⟨k + 1, wrap64 (wrap64 (z + 1) + ((y.1.size : Nat) : Int)), by have := HK.out; have := HLT.out; omega, rfl, by go_num, by rw [wtS_is]; exact HX.out, by rw [HXX.out]; exact HQ.out, HB.out⟩
              case measure => have := HK.out; have := HLT.out; omega
            | false =>
              have h := wtF_stop (f := (fun z (p : BA × Int) => wtS z p.1)) HN2.out (hD2.out rfl)
              rw [HST.out] at h
              subst h
              clear hD1 hD2 HST HE l2 HK HGZ
              go_wp2_with fail
              go_loopg [5, 8] n3 (fun g nn i wr => ∃ (k : Nat) (z : Int), k + g = n3 ∧ nn = .int .i64 z ∧ i = .int .i64 (k : Int) ∧ wtF t (fun z (p : BA × Int) => wtS z p.1) z (L.sg.l.drop k) = W3 ∧ wr.heap[gl]? = some (.cells #[.slice L.se.a n1 L.se.c, .slice L.po.a n2 L.po.c, .slice L.sg.a n3 L.sg.c, .slice L.rt.a n4 L.rt.c] 27) ∧ Below w.heap.size w wr)
              case atStart => exact ⟨0, W2, by omega, rfl, rfl, HW3.out, HQ.out, HB.out⟩
              case round =>
                obtain ⟨k, z, hk, rfl, rfl, hst, hq, hbw⟩ := hrel
                clear HQ HB
                have HST := Lib.hid hst
                have HQ := Lib.hid hq
                have HB := Lib.hid hbw
                have l3 := blk_cell hq 2 _ rfl
                have hgz := blk_lt hq
                have HGZ := Lib.hid hgz
                have HK := Lib.hid hk
                clear hst hq hbw hk hgz
                have e0 : k < n3 → wrap64 ((k : Int) + 1) = (k : Int) + 1 := by intro h; have := HM3.out; unfold wrap64; omega
                have HE := Lib.hid e0
                clear e0
                go_upto_region 11 with fail
                go_cut [58, 59, 60, 61, 62, 63] (fun _s58 _s59 _s60 _s61 _s62 s63 wx => ∃ D : Bool, s63 = .bool D ∧ wr = wx ∧ Hid (D = true → k < n3 ∧ z ≤ t) ∧ Hid (D = false → n3 ≤ k ∨ t < z))
                case first =>
                  by_cases hlt : k < n3
                  · have d1 : (k : Int) < n3 := by omega
                    by_cases hz : z ≤ t
                    · go_wp2_with fail
                      go_meet
                      exact ⟨true, rfl, rfl, Lib.hid (fun _ => ⟨hlt, hz⟩), Lib.hid (fun h => absurd h (by decide))⟩
                    · go_wp2_with fail
                      go_meet
                      exact ⟨false, rfl, rfl, Lib.hid (fun h => absurd h (by decide)), Lib.hid (fun _ => .inr (by omega))⟩
                  · have d1 : ¬ (k : Int) < n3 := by omega
                    go_wp2_with fail
                    go_meet
                    exact ⟨false, rfl, rfl, Lib.hid (fun h => absurd h (by decide)), Lib.hid (fun _ => .inl (Nat.le_of_not_lt hlt))⟩
                case rest =>
                  obtain ⟨D, rfl, hwx, hD1, hD2⟩ := hcut
                  subst hwx
                  cases D with
                  | true =>
                    obtain ⟨hlt, hz⟩ := hD1.out rfl
                    clear hD1 hD2
                    have e0 := HE.out hlt
                    clear HE
                    obtain ⟨y, hy⟩ : ∃ y, L.sg.l[k]? = some y := ⟨_, List.getElem?_eq_getElem (by rw [HN3.out]; exact hlt)⟩
                    have hst := HST.out
                    rw [wtF_drop hy hz] at hst
                    clear HST
                    have hz2 := hz
                    clear hz
                    rcases HR3.out.below HB.out with hnil | ⟨xb, off, hxb, hc⟩
                    · rw [hnil] at hy; simp at hy
                    have z0 := hc k _ hy 0 _ rfl
                    rw [Nat.add_zero] at z0
                    have d1 : (0 : Int) ≤ k := by omega
                    have d2 : (k : Int) < n3 := by omega
                    have HX := Lib.hid hst
                    have HLT := Lib.hid hlt
                    clear hc hy hst hlt hz2
                    obtain ⟨x, hx⟩ : ∃ x, L.sg.a = x := ⟨_, rfl⟩
                    have HXX := Lib.hid hx
                    rw [hx] at l3 HQ hxb ⊢
                    subst hxb
                    clear hx
                    go_wp2_with fail
                    rw [← HXX.out]
                    go_roundg (n3 - (k + 1))
                    case rel => exact ⟨k + 1, wrap64 (wrap64 (z + 1) + ((y.1.size : Nat) : Int)), by have := HK.out; have := HLT.out; omega, rfl, by go_num, by rw [wtS_is]; exact HX.out, by rw [HXX.out]; exact HQ.out, HB.out⟩
                    case measure => have := HK.out; have := HLT.out; omega
                  | false =>
                    have h := wtF_stop (f := (fun z (p : BA × Int) => wtS z p.1)) HN3.out (hD2.out rfl)
                    rw [HST.out] at h
                    subst h
                    clear hD1 hD2 HST HE l3 HK HGZ
                    go_wp2_with fail
                    go_loopg [5, 9, 10] n4 (fun g nn i _ wr => ∃ (k : Nat) (z : Int), k + g = n4 ∧ nn = .int .i64 z ∧ i = .int .i64 (k : Int) ∧ wtF t (wtR t) z (L.rt.l.drop k) = W4 ∧ wr.heap[gl]? = some (.cells #[.slice L.se.a n1 L.se.c, .slice L.po.a n2 L.po.c, .slice L.sg.a n3 L.sg.c, .slice L.rt.a n4 L.rt.c] 27) ∧ Below w.heap.size w wr)
                    case atStart => exact ⟨0, W3, by omega, rfl, rfl, HW4.out, HQ.out, HB.out⟩
                    case round =>
                      obtain ⟨k, z, hk, rfl, rfl, hst, hq, hbw⟩ := hrel
                      clear HQ HB
                      have HST := Lib.hid hst
                      have HQ := Lib.hid hq
                      have HB := Lib.hid hbw
                      have l4 := blk_cell hq 3 _ rfl
                      have hgz := blk_lt hq
                      have HGZ := Lib.hid hgz
                      have HK := Lib.hid hk
                      clear hst hq hbw hk hgz
                      have e0 : k < n4 → wrap64 ((k : Int) + 1) = (k : Int) + 1 := by intro h; have := HM4.out; unfold wrap64; omega
                      have HE := Lib.hid e0
                      clear e0
                      go_upto_region 15 with fail
                      go_cut [80, 81, 82, 83, 84, 85] (fun _s80 _s81 _s82 _s83 _s84 s85 wx => ∃ D : Bool, s85 = .bool D ∧ wr = wx ∧ Hid (D = true → k < n4 ∧ z ≤ t) ∧ Hid (D = false → n4 ≤ k ∨ t < z))
                      case first =>
                        by_cases hlt : k < n4
                        · have d1 : (k : Int) < n4 := by omega
                          by_cases hz : z ≤ t
                          · go_wp2_with fail
                            go_meet
                            exact ⟨true, rfl, rfl, Lib.hid (fun _ => ⟨hlt, hz⟩), Lib.hid (fun h => absurd h (by decide))⟩
                          · go_wp2_with fail
                            go_meet
                            exact ⟨false, rfl, rfl, Lib.hid (fun h => absurd h (by decide)), Lib.hid (fun _ => .inr (by omega))⟩
                        · have d1 : ¬ (k : Int) < n4 := by omega
                          go_wp2_with fail
                          go_meet
                          exact ⟨false, rfl, rfl, Lib.hid (fun h => absurd h (by decide)), Lib.hid (fun _ => .inl (Nat.le_of_not_lt hlt))⟩
                      case rest =>
                        obtain ⟨D, rfl, hwx, hD1, hD2⟩ := hcut
                        subst hwx
                        cases D with
                        | true =>
                          obtain ⟨hlt, hz⟩ := hD1.out rfl
                          clear hD1 hD2
                          have e0 := HE.out hlt
                          clear HE
                          obtain ⟨y, hy⟩ : ∃ y, L.rt.l[k]? = some y := ⟨_, List.getElem?_eq_getElem (by rw [HN4.out]; exact hlt)⟩
                          have hst := HST.out
                          rw [wtF_drop hy hz] at hst
                          clear HST
                          have hz2 := hz
                          clear hz
                          rcases HR4.out.below HB.out with hnil | ⟨xb, off, hxb, hc⟩
                          · rw [hnil] at hy; simp at hy
                          have z0 := hc k _ hy 0 _ rfl
                          have z1 := hc k _ hy 1 _ rfl
                          have z2 := hc k _ hy 2 _ rfl
                          have z3 := hc k _ hy 3 _ rfl
                          have z4 := hc k _ hy 4 _ rfl
                          have z5 := hc k _ hy 5 _ rfl
                          rw [Nat.add_zero] at z0
                          obtain ⟨m1, hm1⟩ : ∃ n, y.pa.l.length = n := ⟨_, rfl⟩
                          obtain ⟨m2, hm2⟩ : ∃ n, y.po.l.length = n := ⟨_, rfl⟩
                          obtain ⟨m3, hm3⟩ : ∃ n, y.ov.l.length = n := ⟨_, rfl⟩
                          obtain ⟨m4, hm4⟩ : ∃ n, y.fl.l.length = n := ⟨_, rfl⟩
                          rw [slv hm1] at z2
                          rw [slv hm2] at z3
                          rw [slv hm3] at z4
                          rw [slv hm4] at z5
                          have HMM := Lib.hid (And.intro hm1 (And.intro hm2 (And.intro hm3 hm4)))
                          clear hm1 hm2 hm3 hm4
                          have d1 : (0 : Int) ≤ k := by omega
                          have d2 : (k : Int) < n4 := by omega
                          have HX := Lib.hid hst
                          have HLT := Lib.hid hlt
                          clear hc hy hst hlt hz2
                          obtain ⟨x, hx⟩ : ∃ x, L.rt.a = x := ⟨_, rfl⟩
                          have HXX := Lib.hid hx
                          rw [hx] at l4 HQ hxb ⊢
                          subst hxb
                          clear hx
                          by_cases hv : wrap64 (wrap64 (wrap64 (wrap64 (z + 1) + (y.nm.size : Int)) + (m1 : Int)) + (m2 : Int)) ≤ t
                          · have HV := Lib.hid hv
                            go_wp2_with fail
                            rw [← HXX.out]
                            go_roundg (n4 - (k + 1))
                            case rel => exact ⟨k + 1, wrap64 (wrap64 (wrap64 (wrap64 (wrap64 (wrap64 (z + 1) + (y.nm.size : Int)) + (m1 : Int)) + (m2 : Int)) + (m3 : Int)) + (m4 : Int)), by have := HK.out; have := HLT.out; omega, rfl, by go_num, by rw [wtR_le (t := t) (z := z) HMM.out (by have := HV.out; omega)]; exact HX.out, by rw [HXX.out]; exact blk_keep (below1 wr _) HQ.out, below_on HB.out (below1 wr _)⟩
                            case measure => have := HK.out; have := HLT.out; omega
                          · have HV := Lib.hid hv
                            go_wp2_with fail
                            rw [← HXX.out]
                            go_roundg (n4 - (k + 1))
                            case rel => exact ⟨k + 1, wrap64 (wrap64 (wrap64 (wrap64 (z + 1) + (y.nm.size : Int)) + (m1 : Int)) + (m2 : Int)), by have := HK.out; have := HLT.out; omega, rfl, by go_num, by rw [wtR_gt (t := t) (z := z) HMM.out (by have := HV.out; omega)]; exact HX.out, by rw [HXX.out]; exact blk_keep (below1 wr _) HQ.out, below_on HB.out (below1 wr _)⟩
                            case measure => have := HK.out; have := HLT.out; omega
                        | false =>
                          have h := wtF_stop (f := (wtR t)) HN4.out (hD2.out rfl)
                          rw [HST.out] at h
                          subst h
                          clear hD1 hD2 HST HE l4 HK HGZ
                          go_wp2_with fail
                          go_ret
                          exact ⟨by rw [HW.out]; rfl, HB.out⟩
end Go.Proofs.Ytjienmjpfklgeaa
