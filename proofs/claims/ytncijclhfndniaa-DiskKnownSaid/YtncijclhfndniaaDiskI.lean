/-
  Walks of chapter 14: Copy.
-/
import Derived.Test.YtncijclhfndniaaDiskH
namespace Go.Proofs.Ytncijclhfndniaa
open Go.RowKit
attribute [local irreducible] byteVals wrVs wrV BlAt okB zeros puts pad Dk.ask Dk.settle Dk.count Dk.gCode Dk.synced fated fateAt lastOf wrOf Dk.rd Dk.at blVs
theorem own_base' {w : World} {b b' : Nat} {e : TypeId} {sz : Nat} {v : Value} {n : Nat} {xs : List Value} (hb : b ≤ b') (h : w.ownsRow b' e sz v n xs) : w.ownsRow b e sz v n xs :=
  ⟨h.1, h.2.imp id fun ⟨g, cap, cur, h1, h2, h3⟩ => ⟨g, cap, cur, h1, Nat.le_trans hb h2, h3⟩⟩
theorem own_at {w : World} {b q : Nat} {e : TypeId} {sz : Nat} {v : Value} {n : Nat} {xs : List Value} (h : w.ownsRow b e sz v n xs) (hq : v.ownBlock = some q) : b ≤ q ∧ q < w.heap.size := by
  rcases h.2 with ⟨e, _⟩ | ⟨g', cap, cur, e, hg, hc, _⟩
  · rw [e] at hq; cases hq
  · rw [e] at hq; cases hq
    exact ⟨hg, blk_lt hc⟩
theorem copy_fin {s : Dk} {W w1 w2 W4 : World} {c : Nat} {ad' a' ap' : Option Addr} {cb' cap' : Nat} (hW : W.heap.size = c + 1) (hW1 : W.heap.size ≤ w1.heap.size) (hbl : s.bl = [] ∨ ∃ kb, ad' = some ⟨kb, 0, none⟩ ∧ W.heap.size ≤ kb ∧ kb < w1.heap.size ∧ BlAt w1 kb s.bl) (h12 : Below w1.heap.size w1 w2)
    (hown : w2.ownsRow w1.heap.size 60 257 (.slice a' s.op.length cap') s.op.length (wrVs s.op)) (hnil : s.op = [] → Value.slice a' s.op.length cap' = .slice none 0 0) (ho : Only c w2 W4)
    (hd : W4.heap[c]? = some (.cells #[.slice ad' s.bl.length cb', .slice a' s.op.length cap', .int .i64 s.st, .pointer ap', .bool s.off] 54 (0, 0))) (har : ArAt W4 (fun k => c ≤ k ∧ k < W4.heap.size) ap' s.ar) (hok : s.ok) : DAt W4 (fun k => c ≤ k ∧ k < W4.heap.size) c s := by
  refine ⟨ad', cb', .slice a' s.op.length cap', ap', hd, ⟨Nat.le_refl _, blk_lt hd⟩, fun k hk => hk.2, hok, hbl.imp id ?_, ?_, fun q hq => ?_, hnil, har⟩
  · rintro ⟨kb, e, h1, h2, h3⟩
    have h4 : BlAt W4 kb s.bl := h3.keep (by rw [ho.block kb (Nat.lt_of_lt_of_le h2 h12.size) (by omega), h12.block kb h2])
    have h5 := h4
    unfold BlAt at h5
    obtain ⟨⟨C, hC⟩, _⟩ := h5
    exact ⟨kb, e, ⟨by omega, blk_lt hC⟩, h4⟩
  · refine own_keep (own_base' (Nat.zero_le _) hown) (fun q hq => ?_)
    obtain ⟨hq1, hq2⟩ := own_at hown hq
    exact ho.block q hq2 (by omega)
  · obtain ⟨hq1, hq2⟩ := own_at hown hq
    exact ⟨by omega, Nat.lt_of_lt_of_le hq2 ho.size⟩
theorem below1' (W : World) : Below W.heap.size W W.drew := (Below.refl _ W).drew
set_option maxRecDepth 100000 in
set_option maxHeartbeats 4000000 in
theorem copy_any (s : Dk) (X : Nat → Prop) (g : Nat) (w : World) (h : DAt w X g s) (hm : s.op.length ≤ maxLen ∧ s.op.length * 264 ≤ 140737488355328) : Calls Try.prog 19 #[.pointer (some ⟨g, 0, none⟩)] w fun e w' => ∃ (X' : Nat → Prop) (c : Nat), e = .returned (.pointer (some ⟨c, 0, none⟩)) ∧ DAt w' X' c s ∧ (∀ k, X' k → w.heap.size ≤ k) ∧ Below w.heap.size w w' := by
  obtain ⟨ad, cb, v, ap, h⟩ := h
  obtain ⟨a, cap, rfl, _⟩ := own_wr h
  obtain ⟨n, hn⟩ : ∃ n, n = s.bl.length := ⟨_, rfl⟩
  obtain ⟨N, hN⟩ : ∃ n, n = s.op.length := ⟨_, rfl⟩
  have hd := h.hd
  rw [← hn, ← hN] at hd
  rw [← hN] at hm
  have h0 := blk_cell hd 0 _ rfl
  have h1 := blk_cell hd 1 _ rfl
  have h2 := blk_cell hd 2 _ rfl
  have h3 := blk_cell hd 3 _ rfl
  have h4 := blk_cell hd 4 _ rfl
  have hg := blk_lt hd
  have HD := Lib.hid hd
  have HN := Lib.hid hn
  have HNN := Lib.hid hN
  have HH := Lib.hid h
  have HM := Lib.hid hm
  clear h hd hn hN hm
  go_enter Try.func19, Try.ntmps19
  go_wp2_with fail
  have hbW := below1 w (.cells #[.slice ad n cb, .slice a N cap, .int .i64 s.st, .pointer ap, .bool s.off] 54)
  have hcW := heap_new1 w (.cells #[.slice ad n cb, .slice a N cap, .int .i64 s.st, .pointer ap, .bool s.off] 54)
  refine name_world ?_
  intro W hW
  rw [← hW] at hbW hcW
  have hWs : W.heap.size = w.heap.size + 1 := by rw [hW]; simp
  clear hW
  have hD := HH.out.keep hbW.size (fun k hk => hbW.block k (HH.out.lt k hk))
  have g0 := cell_later hbW h0
  have g1 := cell_later hbW h1
  have HDW := Lib.hid hD
  have HBWW := Lib.hid hbW
  have HWS := Lib.hid hWs
  have HLN : Hid (n ≤ 4096) := Lib.hid (by rw [HN.out]; exact hD.ok.n)
  have HCW := Lib.hid hcW
  clear h0 h1 h2 h3 h4 hD hcW
  have hne : ¬ g = w.heap.size := by omega
  have hne2 : ¬ w.heap.size = g := by omega
  refine wp_region_held_drew (S := fun w' => w'.cell? ⟨g, 0, none⟩ = some (.slice ad n cb) ∧ w'.cell? ⟨g, 1, none⟩ = some (.slice a N cap)) (by kernel_rfl) ⟨g0, g1⟩ (fun hH => ?_)
  refine wpAnyH_take (i := 0) (v := .pointer (some ⟨g, 0, none⟩)) rfl (by kernel_rfl) (by kernel_rfl) (by kernel_rfl) (fun _ _ _ h => h) (Or.inl ⟨by rfl, fun w hS => by go_simp⟩) hH ?_
  refine wpAnyH_take (i := 1) (v := .pointer (some ⟨g, 0, none⟩)) rfl (by kernel_rfl) (by kernel_rfl) (by kernel_rfl) (fun _ _ _ h => h) (Or.inl ⟨by rfl, fun w hS => by go_simp⟩) hH ?_
  refine wpAnyH_take (i := 2) (v := .pointer (some ⟨g, 0, none⟩)) rfl (by kernel_rfl) (by kernel_rfl) (by kernel_rfl) (fun _ _ _ h => h) (Or.inl ⟨by rfl, fun w hS => by go_simp⟩) hH ?_
  refine wpAnyH_take (i := 3) (v := .slice ad n cb) rfl (by kernel_rfl) (by kernel_rfl) (by kernel_rfl) (fun _ _ _ h => h) (Or.inl ⟨by rfl, fun w hS => by obtain ⟨e1, e2⟩ := hS; go_simp⟩) hH ?_
  refine wpAnyH_take (i := 5) (v := .pointer (some ⟨g, 0, none⟩)) rfl (by kernel_rfl) (by kernel_rfl) (by kernel_rfl) (fun _ _ _ h => h) (Or.inl ⟨by rfl, fun w hS => by go_simp⟩) hH ?_
  refine wpAnyH_take (i := 6) (v := .pointer (some ⟨g, 0, none⟩)) rfl (by kernel_rfl) (by kernel_rfl) (by kernel_rfl) (fun _ _ _ h => h) (Or.inl ⟨by rfl, fun w hS => by go_simp⟩) hH ?_
  refine wpAnyH_take (i := 7) (v := .pointer (some ⟨g, 1, none⟩)) rfl (by kernel_rfl) (by kernel_rfl) (by kernel_rfl) (fun _ _ _ h => h) (Or.inl ⟨by rfl, fun w hS => by go_simp⟩) hH ?_
  refine wpAnyH_take (i := 8) (v := .slice a N cap) rfl (by kernel_rfl) (by kernel_rfl) (by kernel_rfl) (fun _ _ _ h => h) (Or.inl ⟨by rfl, fun w hS => by obtain ⟨e1, e2⟩ := hS; go_simp⟩) hH ?_
  refine wpAnyH_ready (rs := [4]) (by kernel_rfl) (by simp) (AllReadyH.cons (o := ⟨some 14, _, _, _, _, _⟩) rfl (fun K hK => ?_) AllReadyH.nil)
  go_simp
  refine (cloneb_any ad n cb s.bl W.drew HN.out.symm HLN.out HDW.out.ok.blk (HDW.out.bl.imp id (fun ⟨kb, e, _, hb⟩ => ⟨kb, e, hb.keep rfl⟩))).mono ?_
  rintro e w1 ⟨ad', cb', rfl, hbl', hb1⟩
  have hb1' : Below W.heap.size W w1 := (below1' W).trans hb1
  have HB1 := Lib.hid hbl'
  have HW1 := Lib.hid hb1'
  refine hK.out _ _ ⟨cell_later hb1' g0, cell_later hb1' g1⟩ (fun hH2 => ?_)
  clear hK K hbl' hb1
  refine wpAnyH_ready (rs := [9]) (by kernel_rfl) (by simp) (AllReadyH.cons (o := ⟨some 19, _, _, _, _, _⟩) rfl (fun K hK => ?_) AllReadyH.nil)
  go_simp
  refine (clonew_any a N cap s.op w1 HNN.out.symm HM.out (fun p hp => (HDW.out.ok.opn p hp).2) (by have := own_below HW1.out HDW.out.op; rw [← HNN.out] at this; exact this) (by have := HDW.out.nil; rw [← HNN.out] at this; exact this)).mono ?_
  rintro e w2 ⟨a', cap', rfl, hown', hnil', hb2⟩
  have hb2' : Below W.heap.size W w2 := hb1'.trans (hb2.mono hb1'.size)
  have HO := Lib.hid hown'
  have HNIL := Lib.hid hnil'
  have HW2 := Lib.hid hb2'
  have HW12 := Lib.hid hb2
  refine hK.out _ _ ⟨cell_later hb2' g0, cell_later hb2' g1⟩ (fun hH3 => ?_)
  clear hK K hown' hnil' hb2 hb1' hH hH2 HM
  have hc2 := blk_keep hb2' HCW.out
  have HC2 := Lib.hid hc2
  have c0 := blk_cell hc2 0 _ rfl
  have c1 := blk_cell hc2 1 _ rfl
  have cf := blk_free hc2
  have k0 := cell_later hb2' g0
  have k1 := cell_later hb2' g1
  clear hc2 hb2'
  refine wpAnyH_take (i := 10) (v := .pointer (some ⟨w.heap.size, 0, none⟩)) rfl (by kernel_rfl) (by kernel_rfl) (by kernel_rfl) (fun _ _ _ h => h) (Or.inl ⟨by rfl, fun w hS => by go_simp⟩) hH3 ?_
  refine wpAnyH_ready (rs := [11]) (by kernel_rfl) (by simp) (AllReadyH.cons (o := ⟨none, _, _, _, _, _⟩) rfl (fun K hK => ?_) AllReadyH.nil)
  go_simp
  refine hK.out _ _ (by go_simp) (fun hH4 => ?_)
  clear hK K
  refine wpAnyH_take (i := 12) (v := .pointer (some ⟨w.heap.size, 1, none⟩)) rfl (by kernel_rfl) (by kernel_rfl) (by kernel_rfl) (fun _ _ _ h => h) (Or.inl ⟨by rfl, fun w hS => by go_simp⟩) hH4 ?_
  refine wpAnyH_ready (rs := [13]) (by kernel_rfl) (by simp) (AllReadyH.cons (o := ⟨none, _, _, _, _, _⟩) rfl (fun K hK => ?_) AllReadyH.nil)
  go_simp
  refine hK.out _ _ (by go_simp) (fun hH5 => ?_)
  clear hK K
  refine wpAnyH_done (by kernel_rfl) ?_ _
  have hB1 := HB1.out
  obtain ⟨W3, hW3⟩ : ∃ W3, W3 = (w2.setCell ⟨w.heap.size, 0, none⟩ (.slice ad' n cb')).setCell ⟨w.heap.size, 1, none⟩ (.slice a' N cap') := ⟨_, rfl⟩
  rw [← hW3]
  have ho3 : Only w.heap.size w2 W3 := by rw [hW3]; exact ((Only.refl _ _).setCell (p := ⟨w.heap.size, 0, none⟩) rfl _).setCell (p := ⟨w.heap.size, 1, none⟩) rfl _
  have hc3 : W3.heap[w.heap.size]? = some (.cells #[.slice ad' n cb', .slice a' N cap', .int .i64 s.st, .pointer ap, .bool s.off] 54 (0, 0)) := by rw [hW3]; exact blk_set (blk_set HC2.out 0 _) 1 _
  have hg3 : W3.heap[g]? = some (.cells #[.slice ad n cb, .slice a N cap, .int .i64 s.st, .pointer ap, .bool s.off] 54 (0, 0)) := ho3.keep hne (blk_keep HW2.out (blk_keep HBWW.out HD.out))
  have hwW3 : Below w.heap.size w W3 := Only.below (HBWW.out.trans (HW2.out.mono HBWW.out.size)) (Nat.le_refl _) (Nat.le_trans HBWW.out.size HW2.out.size) ho3
  have hs3 : w.heap.size < W3.heap.size := blk_lt hc3
  clear hW3 c0 c1 cf k0 k1 hH3 hH4 hH5 hB1
  have HO3 := Lib.hid ho3
  have HC3 := Lib.hid hc3
  have HWW3 := Lib.hid hwW3
  have x3 := blk_cell hg3 3 _ rfl
  have xf := blk_free hc3
  have y3 := blk_cell hc3 3 _ rfl
  have hok := HDW.out.ok
  have HOK := Lib.hid hok
  have har0 := HDW.out.arm
  clear hg3 hc3 ho3 hwW3 hok
  cases ha : s.ar with
  | none =>
    rw [ha] at har0
    have e0 : ap = none := har0
    subst e0
    have HA := Lib.hid ha
    clear ha har0
    go_wp2_with fail
    go_ret
    refine ⟨_, _, rfl, copy_fin HWS.out HW1.out.size HB1.out HW12.out (by have := HO.out; rw [HNN.out] at this; exact this) (by have := HNIL.out; rw [HNN.out] at this; exact this) HO3.out (by have := HC3.out; rw [HN.out, HNN.out] at this; exact this) (by rw [HA.out]; rfl) HOK.out, fun k hk => hk.1, HWW3.out⟩
  | some k =>
    rw [ha] at har0
    obtain ⟨ka, rfl, hxk, hka⟩ := har0.blk
    have hka3 : W3.cell? ⟨ka, 0, none⟩ = some (.int .i64 k) := blk_cell (HO3.out.keep (ne_type (blk_keep HW2.out hka) HC2.out (by decide)) (blk_keep HW2.out hka)) 0 _ rfl
    have HA := Lib.hid ha
    clear ha har0 hka hxk
    go_wp2_with fail
    go_ret
    have ho4 : Only w.heap.size w2 ((W3.setCell ⟨w.heap.size, 3, none⟩ (.pointer (some ⟨W3.heap.size, 0, none⟩))).alloc (.cells #[.int .i64 k] 3)) := (HO3.out.setCell (p := ⟨w.heap.size, 3, none⟩) rfl _).alloc _
    have hd4 := blk_keep (below1 _ (.cells #[.int .i64 k] 3)) (blk_set HC3.out 3 (.pointer (some ⟨W3.heap.size, 0, none⟩)))
    have hn4 := heap_new1 (W3.setCell ⟨w.heap.size, 3, none⟩ (.pointer (some ⟨W3.heap.size, 0, none⟩))) (.cells #[.int .i64 k] 3)
    rw [show (W3.setCell ⟨w.heap.size, 3, none⟩ (.pointer (some ⟨W3.heap.size, 0, none⟩))).heap.size = W3.heap.size by simp] at hn4
    refine ⟨_, _, rfl, copy_fin HWS.out HW1.out.size HB1.out HW12.out (by have := HO.out; rw [HNN.out] at this; exact this) (by have := HNIL.out; rw [HNN.out] at this; exact this) ho4 (by have := hd4; rw [HN.out, HNN.out] at this; exact this) (by rw [HA.out]; exact ⟨_, rfl, ⟨by omega, blk_lt hn4⟩, hn4⟩) HOK.out, fun k hk => hk.1, ?_⟩
    exact Below.alloc (HWW3.out.setCell (p := ⟨w.heap.size, 3, none⟩) (Nat.le_refl _) _) (by simp; omega) _
end Go.Proofs.Ytncijclhfndniaa
