/-
  Chapter 14: the document's Copy.
-/
import Derived.Test.YtncijclhfndniaaDiskT
namespace Go.Proofs.Ytncijclhfndniaa
open Go.RowKit
attribute [local irreducible] byteVals okB zeros pad strOf padTo strVals rwVs Dk.ask Dk.count Dk.goes puts Dk.rd Dk.at lastOf fated fateAt
theorem own_srcS {w : World} {B e n sz c : Nat} {a : Option Addr} {xs : List Value} (h : w.ownsRow B e sz (.slice a n c) n xs) (h1 : ∀ v ∈ xs, v.oneCell' = true) : SrcAt w a c xs := by
  refine ⟨fun ha => ?_, h1, fun ad had j u hu => ?_⟩
  · rcases h.2 with ⟨ev, h0⟩ | ⟨g, cap, cur, ev, _⟩
    · cases ev
      refine ⟨rfl, List.eq_nil_of_length_eq_zero ?_⟩
      rw [h.1]; exact Nat.zero_mul _
    · cases ev; cases ha
  · obtain ⟨q, e1, e2, _⟩ := own_cell h hu
    rw [e1] at had
    cases had
    rw [Addr.add_lit, Nat.zero_add]; exact e2
theorem own_n {w : World} {B e sz n m : Nat} {v : Value} {xs : List Value} (h : w.ownsRow B e sz v n xs) (hn : n = m) : w.ownsRow B e sz v m xs := hn ▸ h
set_option maxRecDepth 100000 in
set_option maxHeartbeats 4000000 in
theorem rcopy_any (s : Dk) (Y : Nat → Prop) (r : Nat) (w : World) (h : RAt w Y r s) (hm : s.op.length ≤ maxLen ∧ s.op.length * 24 ≤ 140737488355328) : Calls Try.prog 18 #[.pointer (some ⟨r, 0, none⟩)] w fun e w' => ∃ (Y' : Nat → Prop) (c : Nat), e = .returned (.pointer (some ⟨c, 0, none⟩)) ∧ RAt w' Y' c s ∧ (∀ k, Y' k → w.heap.size ≤ k) ∧ Below w.heap.size w w' := by
  obtain ⟨vb, vo, inn, h⟩ := h
  obtain ⟨ab, cb, hvb⟩ := own_slice h.bl
  obtain ⟨ao, co, hvo⟩ := own_slice h.op
  subst hvb hvo
  obtain ⟨N, hN⟩ : ∃ n, n = s.op.length := ⟨_, rfl⟩
  obtain ⟨M, hM⟩ : ∃ n, n = s.bl.length := ⟨_, rfl⟩
  have hd := h.hd
  rw [← hN, ← hM] at hd
  rw [← hN] at hm
  have hM4 : M ≤ 4096 := by rw [hM]; exact h.ok.n
  have h0 := blk_cell hd 0 _ rfl
  have h1 := blk_cell hd 1 _ rfl
  have h2 := blk_cell hd 2 _ rfl
  have h3 := blk_cell hd 3 _ rfl
  have h4 := blk_cell hd 4 _ rfl
  have h5 := blk_cell hd 5 _ rfl
  have hg := blk_lt hd
  obtain ⟨i0, hi, hz0, hz1, hz2⟩ := info_parts info_str
  obtain ⟨j0, ji, jz0, jz1, jz2⟩ := info_parts info_rw
  have HH := Lib.hid h
  have HN := Lib.hid hN
  have HMM := Lib.hid hM
  have HM := Lib.hid hm
  clear h hd hN hM hm
  go_enter Try.func18, Try.ntmps18
  go_upto_region 2 with (fail)
  have hbW := below1 w (.cells #[.slice ab M cb, .slice ao N co, .int .i64 s.st, .bool s.ar.isSome, .int .i64 inn, .bool s.off] 66)
  have hcW := heap_new1 w (.cells #[.slice ab M cb, .slice ao N co, .int .i64 s.st, .bool s.ar.isSome, .int .i64 inn, .bool s.off] 66)
  refine name_world ?_
  intro W hW
  rw [← hW] at hbW hcW
  have hWs : W.heap.size = w.heap.size + 1 := by rw [hW]; simp
  clear hW
  have g0 := cell_later hbW h0
  have g1 := cell_later hbW h1
  have hE := own_empty W 9 1 [] rfl
  have hsrc : SrcAt (W.alloc (.cells #[] 9)) ab cb (strVals s.bl) := own_srcS (n := s.bl.length) (own_below (hbW.trans ((below1 W _).mono hbW.size)) HH.out.bl) (strVals_one _)
  have HSRC := Lib.hid hsrc
  have HE := Lib.hid hE
  have HBW := Lib.hid hbW
  have HCW := Lib.hid hcW
  have HWS := Lib.hid hWs
  have hne : ¬ r = w.heap.size := by omega
  have hwW : w.heap.size < W.heap.size := by omega
  have rW : r < W.heap.size := by omega
  clear hsrc hE hbW hcW h0 h1 h2 h3 h4 h5 hWs
  go_upto_region 3 with (at_builtin; refine wpList_append_src rfl _ _ 28 rfl W.heap.size 9 i0 _ 1 16 Try.underlying28 hi hz0 hz1 hz2 rfl (by decide) (.slice (some ⟨W.heap.size, 0, none⟩) 0 0) 0 [] rfl HE.out ab M cb (strVals s.bl) rfl (by rw [strVals_length, HMM.out]; omega) HSRC.out (by unfold maxLen; omega) (by omega) (by simp) ?_; intro v1 w1 hown hgr; obtain ⟨a1, c1, rfl⟩ := own_slice hown; have hb1 := (below1 W (.cells #[] 9)).grown hgr (by simp) (fun q e => (by cases e; exact Nat.le_refl _)); rw [Nat.zero_add, List.nil_append] at hown; have H1 := Lib.hid hown; have B1 := Lib.hid hb1; have k1 := blk_keep hb1 HCW.out; have K1 := Lib.hid k1; have cc0 := blk_cell k1 0 _ rfl; have ccf := blk_free k1; have gg1 := cell_later hb1 g1; clear hown hgr hb1 k1)
  refine name_world ?_
  intro W2 hW2
  have ho2 : Only w.heap.size w1 W2 := by rw [hW2]; exact only1' _ _ _ _
  have hk2 : W2.heap[w.heap.size]? = some (.cells #[.slice a1 M c1, .slice ao N co, .int .i64 s.st, .bool s.ar.isSome, .int .i64 inn, .bool s.off] 66 (0, 0)) := by rw [hW2]; exact blk_set K1.out 0 _
  have m1 : W2.cell? ⟨r, 1, none⟩ = some (.slice ao N co) := by rw [hW2, World.cell?_setCell_other _ _ _ _ (by intro e; cases e)]; exact gg1
  have hs2 : w1.heap.size ≤ W2.heap.size := ho2.size
  have hB2 : Below w.heap.size w W2 := Only.below (HBW.out.trans (B1.out.mono HBW.out.size)) (Nat.le_refl _) (Nat.le_trans HBW.out.size B1.out.size) ho2
  have hop2 : W2.ownsRow 0 75 2 (.slice ao s.op.length co) s.op.length (rwVs s.op) := own_below hB2 HH.out.op
  have rW2 : r < W2.heap.size := Nat.lt_of_lt_of_le hg hB2.size
  have cW2 : w.heap.size < W2.heap.size := blk_lt hk2
  have HO2 := Lib.hid ho2
  have HK2 := Lib.hid hk2
  have HB2 := Lib.hid hB2
  have HS2 := Lib.hid hs2
  have HE2 := Lib.hid (own_empty W2 75 2 [] rfl)
  have HSR2 := Lib.hid (own_srcS (n := s.op.length) (own_below (below1 W2 (.cells #[] 75)) hop2) (rwVs_ones _))
  clear hW2 ho2 hk2 hs2 hB2 hop2 cc0 ccf gg1 g0 g1 HE HSRC
  go_wp2_with (at_builtin; refine wpList_append_src rfl _ _ 64 rfl W2.heap.size 75 j0 _ 2 24 Try.underlying64 ji jz0 jz1 jz2 rfl (by decide) (.slice (some ⟨W2.heap.size, 0, none⟩) 0 0) 0 [] rfl HE2.out ao N co (rwVs s.op) rfl (by rw [rwVs_length, HN.out]) HSR2.out (by rw [Nat.zero_add]; exact HM.out.1) (by rw [Nat.zero_add]; exact HM.out.2) (by simp) ?_; intro v3 w3 hown hgr; obtain ⟨a2, c2, rfl⟩ := own_slice hown; have hb3 := (below1 W2 (.cells #[] 75)).grown hgr (by simp) (fun q e => (by cases e; exact Nat.le_refl _)); rw [Nat.zero_add, List.nil_append] at hown; have H3 := Lib.hid hown; have B3 := Lib.hid hb3; have k3 := blk_keep hb3 HK2.out; have K3 := Lib.hid k3; have cc1 := blk_cell k3 1 _ rfl; have ccf := blk_free k3; clear hown hgr hb3 k3)
  go_ret
  refine ⟨fun k => w.heap.size ≤ k ∧ k < (w3.setCell ⟨w.heap.size, 1, none⟩ (.slice a2 N c2)).heap.size, _, rfl, ?_, fun k hk => hk.1, (HB2.out.trans (B3.out.mono HB2.out.size)).setCell (p := ⟨w.heap.size, 1, none⟩) (Nat.le_refl _) _⟩
  have ho4 := only1' w3 w.heap.size 1 (.slice a2 N c2)
  have hd4 := blk_set K3.out 1 (.slice a2 N c2)
  refine ⟨.slice a1 M c1, .slice a2 N c2, inn, hd4, ⟨Nat.le_refl _, blk_lt hd4⟩, fun k hk => hk.2, HH.out.inn, HH.out.ok, ?_, ?_, ?_, ?_⟩
  · have h1 := own_n H1.out HMM.out
    refine own_keep (own_base' (Nat.zero_le _) h1) (fun q hq => ?_)
    obtain ⟨q1, q2⟩ := own_at h1 hq
    have hw := HWS.out
    rw [ho4.block q (by have := B3.out.size; have := HS2.out; omega) (by omega), B3.out.block q (by have := HS2.out; omega), HO2.out.block q q2 (by omega)]
  · intro q hq
    obtain ⟨q1, q2⟩ := own_at H1.out hq
    have hw := HWS.out
    exact ⟨by omega, by have := B3.out.size; have := HS2.out; have := ho4.size; omega⟩
  · have h1 := own_n H3.out HN.out
    refine own_keep (own_base' (Nat.zero_le _) h1) (fun q hq => ?_)
    obtain ⟨q1, q2⟩ := own_at h1 hq
    exact ho4.block q q2 (by omega)
  · intro q hq
    obtain ⟨q1, q2⟩ := own_at H3.out hq
    exact ⟨by omega, Nat.lt_of_lt_of_le q2 ho4.size⟩
end Go.Proofs.Ytncijclhfndniaa
