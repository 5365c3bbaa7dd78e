/-
  Walks of the document's answer for chapter 12.
-/
import Derived.Test.YtamgaaakmldlbaaVotePut
namespace Go.Proofs.Ytamgaaakmldlbaa
open Go.RowKit

def RefAt (w : World) (g : Nat) (s : VSt) : Prop :=
  ∃ F0 F1 FS : Frm, w.heap[g]? = some (.cells #[.bool s.p0.isSome, .bool s.p1.isSome, .int .i64 F0.c, .int .i64 F0.e, .int .u64 F0.p, .int .u32 F0.q, .int .i64 F1.c, .int .i64 F1.e, .int .u64 F1.p, .int .u32 F1.q, .bool s.shown.isSome, .int .i64 FS.c, .int .i64 FS.e, .int .u64 FS.p, .int .u32 FS.q, .int .i64 s.last, .bool s.stopped] 43 (0, 0)) ∧
    (∀ f, s.p0 = some f → F0 = f) ∧ (∀ f, s.p1 = some f → F1 = f) ∧ FS = s.frm
theorem RefAt.below {w w' : World} {g : Nat} {s : VSt} (hb : Below w.heap.size w w') (h : RefAt w g s) : RefAt w' g s := by
  obtain ⟨F0, F1, FS, h0, h1, h2, h3⟩ := h
  exact ⟨F0, F1, FS, blk_keep hb h0, h1, h2, h3⟩
theorem RefAt.only {w w' : World} {g k : Nat} {s : VSt} (hk : k ≠ g) (ho : Only k w w') (h : RefAt w g s) : RefAt w' g s := by
  obtain ⟨F0, F1, FS, h0, h1, h2, h3⟩ := h
  exact ⟨F0, F1, FS, ho.keep hk.symm h0, h1, h2, h3⟩
theorem RefAt.lt {w : World} {g : Nat} {s : VSt} (h : RefAt w g s) : g < w.heap.size := by
  obtain ⟨F0, F1, FS, h0, _⟩ := h; exact blk_lt h0
theorem RefAt.ne {w : World} {g k : Nat} {s r : VSt} (h : RefAt w g s) (hv : VoteAt w k r) : g ≠ k := by
  obtain ⟨F0, F1, FS, h0, _⟩ := h
  obtain ⟨v0, v1, v2, k0, _⟩ := hv
  rintro rfl
  rw [h0] at k0
  have := congrArg (fun o : Option Obj => match o with | some (.cells c _ _) => c.size | _ => 0) k0
  simp at this
theorem VoteAt.ref_only {w w' : World} {g k : Nat} {s r : VSt} (h : VoteAt w k r) (hr : RefAt w g s) (ho : Only g w w') : VoteAt w' k r := by
  obtain ⟨F0, F1, FS, h0, _⟩ := hr
  exact h.only h0 (by simp) (by simp) ho
set_option maxHeartbeats 4000000 in
theorem set17 {w : World} {g : Nat} {a0 a1 a2 a3 a4 a5 a6 a7 a8 a9 a10 a11 a12 a13 a14 a15 a16 : Value} {t : TypeId} {fr : Nat × Nat} (h : w.heap[g]? = some (.cells #[a0, a1, a2, a3, a4, a5, a6, a7, a8, a9, a10, a11, a12, a13, a14, a15, a16] t fr)) (v0 v1 v2 v3 v4 v5 v6 v7 v8 v9 v10 v11 v12 v13 v14 v15 v16 : Value) :
    (((((((((((((((((w.setCell ⟨g, 0, none⟩ v0).setCell ⟨g, 1, none⟩ v1).setCell ⟨g, 2, none⟩ v2).setCell ⟨g, 3, none⟩ v3).setCell ⟨g, 4, none⟩ v4).setCell ⟨g, 5, none⟩ v5).setCell ⟨g, 6, none⟩ v6).setCell ⟨g, 7, none⟩ v7).setCell ⟨g, 8, none⟩ v8).setCell ⟨g, 9, none⟩ v9).setCell ⟨g, 10, none⟩ v10).setCell ⟨g, 11, none⟩ v11).setCell ⟨g, 12, none⟩ v12).setCell ⟨g, 13, none⟩ v13).setCell ⟨g, 14, none⟩ v14).setCell ⟨g, 15, none⟩ v15).setCell ⟨g, 16, none⟩ v16).heap[g]? = some (.cells #[v0, v1, v2, v3, v4, v5, v6, v7, v8, v9, v10, v11, v12, v13, v14, v15, v16] t fr) ∧
    Only g w (((((((((((((((((w.setCell ⟨g, 0, none⟩ v0).setCell ⟨g, 1, none⟩ v1).setCell ⟨g, 2, none⟩ v2).setCell ⟨g, 3, none⟩ v3).setCell ⟨g, 4, none⟩ v4).setCell ⟨g, 5, none⟩ v5).setCell ⟨g, 6, none⟩ v6).setCell ⟨g, 7, none⟩ v7).setCell ⟨g, 8, none⟩ v8).setCell ⟨g, 9, none⟩ v9).setCell ⟨g, 10, none⟩ v10).setCell ⟨g, 11, none⟩ v11).setCell ⟨g, 12, none⟩ v12).setCell ⟨g, 13, none⟩ v13).setCell ⟨g, 14, none⟩ v14).setCell ⟨g, 15, none⟩ v15).setCell ⟨g, 16, none⟩ v16) := by
  have o0 : Only g w w := Only.refl g w
  have h1 : (w.setCell ⟨g, 0, none⟩ v0).heap[g]? = some (.cells #[v0, a1, a2, a3, a4, a5, a6, a7, a8, a9, a10, a11, a12, a13, a14, a15, a16] t fr) := blk_set h 0 v0
  have o1 := o0.setCell (p := ⟨g, 0, none⟩) rfl v0
  generalize w.setCell ⟨g, 0, none⟩ v0 = w1 at h1 o1 ⊢
  have h2 : (w1.setCell ⟨g, 1, none⟩ v1).heap[g]? = some (.cells #[v0, v1, a2, a3, a4, a5, a6, a7, a8, a9, a10, a11, a12, a13, a14, a15, a16] t fr) := blk_set h1 1 v1
  have o2 := o1.setCell (p := ⟨g, 1, none⟩) rfl v1
  generalize w1.setCell ⟨g, 1, none⟩ v1 = w2 at h2 o2 ⊢
  have h3 : (w2.setCell ⟨g, 2, none⟩ v2).heap[g]? = some (.cells #[v0, v1, v2, a3, a4, a5, a6, a7, a8, a9, a10, a11, a12, a13, a14, a15, a16] t fr) := blk_set h2 2 v2
  have o3 := o2.setCell (p := ⟨g, 2, none⟩) rfl v2
  generalize w2.setCell ⟨g, 2, none⟩ v2 = w3 at h3 o3 ⊢
  have h4 : (w3.setCell ⟨g, 3, none⟩ v3).heap[g]? = some (.cells #[v0, v1, v2, v3, a4, a5, a6, a7, a8, a9, a10, a11, a12, a13, a14, a15, a16] t fr) := blk_set h3 3 v3
  have o4 := o3.setCell (p := ⟨g, 3, none⟩) rfl v3
  generalize w3.setCell ⟨g, 3, none⟩ v3 = w4 at h4 o4 ⊢
  have h5 : (w4.setCell ⟨g, 4, none⟩ v4).heap[g]? = some (.cells #[v0, v1, v2, v3, v4, a5, a6, a7, a8, a9, a10, a11, a12, a13, a14, a15, a16] t fr) := blk_set h4 4 v4
  have o5 := o4.setCell (p := ⟨g, 4, none⟩) rfl v4
  generalize w4.setCell ⟨g, 4, none⟩ v4 = w5 at h5 o5 ⊢
  have h6 : (w5.setCell ⟨g, 5, none⟩ v5).heap[g]? = some (.cells #[v0, v1, v2, v3, v4, v5, a6, a7, a8, a9, a10, a11, a12, a13, a14, a15, a16] t fr) := blk_set h5 5 v5
  have o6 := o5.setCell (p := ⟨g, 5, none⟩) rfl v5
  generalize w5.setCell ⟨g, 5, none⟩ v5 = w6 at h6 o6 ⊢
  have h7 : (w6.setCell ⟨g, 6, none⟩ v6).heap[g]? = some (.cells #[v0, v1, v2, v3, v4, v5, v6, a7, a8, a9, a10, a11, a12, a13, a14, a15, a16] t fr) := blk_set h6 6 v6
  have o7 := o6.setCell (p := ⟨g, 6, none⟩) rfl v6
  generalize w6.setCell ⟨g, 6, none⟩ v6 = w7 at h7 o7 ⊢
  have h8 : (w7.setCell ⟨g, 7, none⟩ v7).heap[g]? = some (.cells #[v0, v1, v2, v3, v4, v5, v6, v7, a8, a9, a10, a11, a12, a13, a14, a15, a16] t fr) := blk_set h7 7 v7
  have o8 := o7.setCell (p := ⟨g, 7, none⟩) rfl v7
  generalize w7.setCell ⟨g, 7, none⟩ v7 = w8 at h8 o8 ⊢
  have h9 : (w8.setCell ⟨g, 8, none⟩ v8).heap[g]? = some (.cells #[v0, v1, v2, v3, v4, v5, v6, v7, v8, a9, a10, a11, a12, a13, a14, a15, a16] t fr) := blk_set h8 8 v8
  have o9 := o8.setCell (p := ⟨g, 8, none⟩) rfl v8
  generalize w8.setCell ⟨g, 8, none⟩ v8 = w9 at h9 o9 ⊢
  have h10 : (w9.setCell ⟨g, 9, none⟩ v9).heap[g]? = some (.cells #[v0, v1, v2, v3, v4, v5, v6, v7, v8, v9, a10, a11, a12, a13, a14, a15, a16] t fr) := blk_set h9 9 v9
  have o10 := o9.setCell (p := ⟨g, 9, none⟩) rfl v9
  generalize w9.setCell ⟨g, 9, none⟩ v9 = w10 at h10 o10 ⊢
  have h11 : (w10.setCell ⟨g, 10, none⟩ v10).heap[g]? = some (.cells #[v0, v1, v2, v3, v4, v5, v6, v7, v8, v9, v10, a11, a12, a13, a14, a15, a16] t fr) := blk_set h10 10 v10
  have o11 := o10.setCell (p := ⟨g, 10, none⟩) rfl v10
  generalize w10.setCell ⟨g, 10, none⟩ v10 = w11 at h11 o11 ⊢
  have h12 : (w11.setCell ⟨g, 11, none⟩ v11).heap[g]? = some (.cells #[v0, v1, v2, v3, v4, v5, v6, v7, v8, v9, v10, v11, a12, a13, a14, a15, a16] t fr) := blk_set h11 11 v11
  have o12 := o11.setCell (p := ⟨g, 11, none⟩) rfl v11
  generalize w11.setCell ⟨g, 11, none⟩ v11 = w12 at h12 o12 ⊢
  have h13 : (w12.setCell ⟨g, 12, none⟩ v12).heap[g]? = some (.cells #[v0, v1, v2, v3, v4, v5, v6, v7, v8, v9, v10, v11, v12, a13, a14, a15, a16] t fr) := blk_set h12 12 v12
  have o13 := o12.setCell (p := ⟨g, 12, none⟩) rfl v12
  generalize w12.setCell ⟨g, 12, none⟩ v12 = w13 at h13 o13 ⊢
  have h14 : (w13.setCell ⟨g, 13, none⟩ v13).heap[g]? = some (.cells #[v0, v1, v2, v3, v4, v5, v6, v7, v8, v9, v10, v11, v12, v13, a14, a15, a16] t fr) := blk_set h13 13 v13
  have o14 := o13.setCell (p := ⟨g, 13, none⟩) rfl v13
  generalize w13.setCell ⟨g, 13, none⟩ v13 = w14 at h14 o14 ⊢
  have h15 : (w14.setCell ⟨g, 14, none⟩ v14).heap[g]? = some (.cells #[v0, v1, v2, v3, v4, v5, v6, v7, v8, v9, v10, v11, v12, v13, v14, a15, a16] t fr) := blk_set h14 14 v14
  have o15 := o14.setCell (p := ⟨g, 14, none⟩) rfl v14
  generalize w14.setCell ⟨g, 14, none⟩ v14 = w15 at h15 o15 ⊢
  have h16 : (w15.setCell ⟨g, 15, none⟩ v15).heap[g]? = some (.cells #[v0, v1, v2, v3, v4, v5, v6, v7, v8, v9, v10, v11, v12, v13, v14, v15, a16] t fr) := blk_set h15 15 v15
  have o16 := o15.setCell (p := ⟨g, 15, none⟩) rfl v15
  generalize w15.setCell ⟨g, 15, none⟩ v15 = w16 at h16 o16 ⊢
  have h17 : (w16.setCell ⟨g, 16, none⟩ v16).heap[g]? = some (.cells #[v0, v1, v2, v3, v4, v5, v6, v7, v8, v9, v10, v11, v12, v13, v14, v15, v16] t fr) := blk_set h16 16 v16
  have o17 := o16.setCell (p := ⟨g, 16, none⟩) rfl v16
  generalize w16.setCell ⟨g, 16, none⟩ v16 = w17 at h17 o17 ⊢
  exact ⟨h17, o17⟩

theorem rfrm_plain : Try.prog.stoodInHeld 40 = false := by kernel_rfl
theorem rfrm_guard : Try.prog.eqGuardType Try.prog.depth 40 = false := by kernel_rfl
theorem rfrm_fields : (Try.prog.fieldsOf 40).toList.map (fun f => (f.name, f.type, f.offset)) = [("Cycle", 2, 0), ("Epoch", 2, 1), ("Out", 25, 2)] := by kernel_rfl
theorem rfrm_equal (w : World) (c1 e1 p1 q1 c2 e2 p2 q2 : Int) : (Op.equalIn 10000 40 (.agg #[.int .i64 c1, .int .i64 e1, .int .u64 p1, .int .u32 q1]) (.agg #[.int .i64 c2, .int .i64 e2, .int .u64 p2, .int .u32 q2])).run Try.prog w = .ok (c1 == c2 && (e1 == e2 && (p1 == p2 && q1 == q2))) w := by
  rw [run_equalIn_agg w 9999 40 _ _ (by kernel_rfl) rfrm_plain]
  have h := rfrm_fields
  have ho := out_equal
  obtain ⟨f, L1, hL, hf, h1⟩ := List.map_eq_cons_iff.1 h
  obtain ⟨g, L2, hL1, hg, h2⟩ := List.map_eq_cons_iff.1 h1
  obtain ⟨k, L3, hL2, hk, h3⟩ := List.map_eq_cons_iff.1 h2
  obtain rfl := List.map_eq_nil_iff.1 h3
  simp only [Prod.mk.injEq] at hf hg hk
  obtain ⟨a1, a2, a3⟩ := hf
  obtain ⟨b1, b2, b3⟩ := hg
  obtain ⟨k1, k2, k3⟩ := hk
  rw [hL, hL1, hL2]
  cases hc : c1 == c2 <;> cases he : e1 == e2 <;> cases hp : p1 == p2 <;> cases hq : q1 == q2
  all_goals simp [Op.eqFields, a1, a2, a3, b1, b2, b3, k1, k2, k3, part, go_sem, hc, he, hp, hq, ho]
theorem neq_rfrm (f g : Frm) (w : World) : (binOp .neq 40 (.agg #[.int .i64 f.c, .int .i64 f.e, .int .u64 f.p, .int .u32 f.q]) (.agg #[.int .i64 g.c, .int .i64 g.e, .int .u64 g.p, .int .u32 g.q])).run Try.prog w = .ok (.bool (!decide (f = g))) w := by
  rw [run_neq_struct, rfrm_equal, frm_beq]; rfl

set_option maxHeartbeats 1000000 in
theorem rstop_any (s : VSt) (g : Nat) (w : World) (h : RefAt w g s) : Calls Try.prog 23 #[.pointer (some ⟨g, 0, none⟩)] w fun e w' => e = .returned (.tuple #[]) ∧ RefAt w' g s.stop ∧ Only g w w' := by
  obtain ⟨F0, F1, FS, h0, h1, h2, h3⟩ := h
  have e0 : w.cell? ⟨g, 0, none⟩ = some (.bool s.p0.isSome) := blk_cell h0 0 _ rfl
  have e1 : w.cell? ⟨g, 1, none⟩ = some (.bool s.p1.isSome) := blk_cell h0 1 _ rfl
  have e2 : w.cell? ⟨g, 2, none⟩ = some (.int .i64 F0.c) := blk_cell h0 2 _ rfl
  have e3 : w.cell? ⟨g, 3, none⟩ = some (.int .i64 F0.e) := blk_cell h0 3 _ rfl
  have e4 : w.cell? ⟨g, 4, none⟩ = some (.int .u64 F0.p) := blk_cell h0 4 _ rfl
  have e5 : w.cell? ⟨g, 5, none⟩ = some (.int .u32 F0.q) := blk_cell h0 5 _ rfl
  have e6 : w.cell? ⟨g, 6, none⟩ = some (.int .i64 F1.c) := blk_cell h0 6 _ rfl
  have e7 : w.cell? ⟨g, 7, none⟩ = some (.int .i64 F1.e) := blk_cell h0 7 _ rfl
  have e8 : w.cell? ⟨g, 8, none⟩ = some (.int .u64 F1.p) := blk_cell h0 8 _ rfl
  have e9 : w.cell? ⟨g, 9, none⟩ = some (.int .u32 F1.q) := blk_cell h0 9 _ rfl
  have e10 : w.cell? ⟨g, 10, none⟩ = some (.bool s.shown.isSome) := blk_cell h0 10 _ rfl
  have e11 : w.cell? ⟨g, 11, none⟩ = some (.int .i64 FS.c) := blk_cell h0 11 _ rfl
  have e12 : w.cell? ⟨g, 12, none⟩ = some (.int .i64 FS.e) := blk_cell h0 12 _ rfl
  have e13 : w.cell? ⟨g, 13, none⟩ = some (.int .u64 FS.p) := blk_cell h0 13 _ rfl
  have e14 : w.cell? ⟨g, 14, none⟩ = some (.int .u32 FS.q) := blk_cell h0 14 _ rfl
  have e15 : w.cell? ⟨g, 15, none⟩ = some (.int .i64 s.last) := blk_cell h0 15 _ rfl
  have e16 : w.cell? ⟨g, 16, none⟩ = some (.bool s.stopped) := blk_cell h0 16 _ rfl
  have f0 := blk_free h0
  clear h1 h2 h3
  go_enter Try.func23, Try.ntmps23
  go_wp2
  go_end0
  obtain ⟨k, ho⟩ := set17 h0 (.bool false) (.bool false) (.int .i64 0) (.int .i64 0) (.int .u64 0) (.int .u32 0) (.int .i64 0) (.int .i64 0) (.int .u64 0) (.int .u32 0) (.bool false) (.int .i64 0) (.int .i64 0) (.int .u64 0) (.int .u32 0) (.int .i64 s.last) (.bool true)
  exact ⟨rfl, ⟨zf, zf, zf, k, (by intro f hf; cases hf), (by intro f hf; cases hf), rfl⟩, ho⟩

set_option maxHeartbeats 1000000 in
theorem rreset_any (s : VSt) (g : Nat) (w : World) (h : RefAt w g s) : Calls Try.prog 22 #[.pointer (some ⟨g, 0, none⟩)] w fun e w' => e = .returned (.tuple #[]) ∧ RefAt w' g s.reset ∧ Only g w w' := by
  obtain ⟨F0, F1, FS, h0, h1, h2, h3⟩ := h
  have e0 : w.cell? ⟨g, 0, none⟩ = some (.bool s.p0.isSome) := blk_cell h0 0 _ rfl
  have e1 : w.cell? ⟨g, 1, none⟩ = some (.bool s.p1.isSome) := blk_cell h0 1 _ rfl
  have e2 : w.cell? ⟨g, 2, none⟩ = some (.int .i64 F0.c) := blk_cell h0 2 _ rfl
  have e3 : w.cell? ⟨g, 3, none⟩ = some (.int .i64 F0.e) := blk_cell h0 3 _ rfl
  have e4 : w.cell? ⟨g, 4, none⟩ = some (.int .u64 F0.p) := blk_cell h0 4 _ rfl
  have e5 : w.cell? ⟨g, 5, none⟩ = some (.int .u32 F0.q) := blk_cell h0 5 _ rfl
  have e6 : w.cell? ⟨g, 6, none⟩ = some (.int .i64 F1.c) := blk_cell h0 6 _ rfl
  have e7 : w.cell? ⟨g, 7, none⟩ = some (.int .i64 F1.e) := blk_cell h0 7 _ rfl
  have e8 : w.cell? ⟨g, 8, none⟩ = some (.int .u64 F1.p) := blk_cell h0 8 _ rfl
  have e9 : w.cell? ⟨g, 9, none⟩ = some (.int .u32 F1.q) := blk_cell h0 9 _ rfl
  have e10 : w.cell? ⟨g, 10, none⟩ = some (.bool s.shown.isSome) := blk_cell h0 10 _ rfl
  have e11 : w.cell? ⟨g, 11, none⟩ = some (.int .i64 FS.c) := blk_cell h0 11 _ rfl
  have e12 : w.cell? ⟨g, 12, none⟩ = some (.int .i64 FS.e) := blk_cell h0 12 _ rfl
  have e13 : w.cell? ⟨g, 13, none⟩ = some (.int .u64 FS.p) := blk_cell h0 13 _ rfl
  have e14 : w.cell? ⟨g, 14, none⟩ = some (.int .u32 FS.q) := blk_cell h0 14 _ rfl
  have e15 : w.cell? ⟨g, 15, none⟩ = some (.int .i64 s.last) := blk_cell h0 15 _ rfl
  have e16 : w.cell? ⟨g, 16, none⟩ = some (.bool s.stopped) := blk_cell h0 16 _ rfl
  have f0 := blk_free h0
  clear h1 h2 h3
  go_enter Try.func22, Try.ntmps22
  go_wp2
  go_end0
  obtain ⟨k, ho⟩ := set17 h0 (.bool false) (.bool false) (.int .i64 0) (.int .i64 0) (.int .u64 0) (.int .u32 0) (.int .i64 0) (.int .i64 0) (.int .u64 0) (.int .u32 0) (.bool false) (.int .i64 0) (.int .i64 0) (.int .u64 0) (.int .u32 0) (.int .i64 s.last) (.bool false)
  exact ⟨rfl, ⟨zf, zf, zf, k, (by intro f hf; cases hf), (by intro f hf; cases hf), rfl⟩, ho⟩

set_option maxHeartbeats 1000000 in
theorem rend_any (s : VSt) (g : Nat) (w : World) (h : RefAt w g s) : Calls Try.prog 21 #[.pointer (some ⟨g, 0, none⟩)] w fun e w' => e = .returned (.int .i64 s.fin.2) ∧ RefAt w' g s.fin.1 ∧ Only g w w' := by
  have HV := Lib.hid h
  obtain ⟨F0, F1, FS, h0, h1, h2, h3⟩ := h
  have e0 : w.cell? ⟨g, 0, none⟩ = some (.bool s.p0.isSome) := blk_cell h0 0 _ rfl
  have e1 : w.cell? ⟨g, 1, none⟩ = some (.bool s.p1.isSome) := blk_cell h0 1 _ rfl
  have e16 : w.cell? ⟨g, 16, none⟩ = some (.bool s.stopped) := blk_cell h0 16 _ rfl
  clear h0 h1 h2 h3
  obtain ⟨A, hA⟩ : ∃ A, s.p0.isSome = A := ⟨_, rfl⟩
  obtain ⟨B, hB⟩ : ∃ B, s.p1.isSome = B := ⟨_, rfl⟩
  obtain ⟨T, hT⟩ : ∃ T, s.stopped = T := ⟨_, rfl⟩
  rw [hA] at e0; rw [hB] at e1; rw [hT] at e16
  have HAB : Hid ((s.p0.isSome || s.p1.isSome) = (A || B)) := Lib.hid (by rw [hA, hB])
  have HT := Lib.hid hT
  clear hA hB hT
  cases A <;> cases B
  · have HF := Lib.hid (fin_go s HAB.out)
    cases T
    all_goals
      go_enter Try.func21, Try.ntmps21
      go_wp2_with fail
      go_ret
      rw [HF.out, HT.out]
      exact ⟨rfl, HV.out, Only.refl _ _⟩
  all_goals
    have HF := Lib.hid (fin_stop s HAB.out)
    clear e16
    go_enter Try.func21, Try.ntmps21
    go_wp2_with fail
    refine (rstop_any s g _ HV.out).mono ?_
    rintro e w1 ⟨rfl, hv, ho⟩
    have e16 : w1.cell? ⟨g, 16, none⟩ = some (.bool true) := by obtain ⟨_, _, _, k0, _⟩ := hv; exact blk_cell k0 16 _ rfl
    clear e0 e1
    go_wp2_with fail
    go_ret
    rw [HF.out]
    exact ⟨rfl, hv, ho⟩
end Go.Proofs.Ytamgaaakmldlbaa
