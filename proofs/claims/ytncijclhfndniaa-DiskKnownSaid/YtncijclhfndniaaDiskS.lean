/-
  Chapter 14: the document's Write.
-/
import Derived.Test.YtncijclhfndniaaDiskR
namespace Go.Proofs.Ytncijclhfndniaa
open Go.RowKit
attribute [local irreducible] byteVals okB zeros pad strOf padTo strVals rwVs Dk.ask Dk.count Dk.goes
theorem info_rw : (Try.prog.info? 75).map (fun i => (i.zero, i.size, i.bytes)) = some (some (.agg #[.int .i64 0, .string ⟨#[]⟩]), 2, 24) := by kernel_rfl
set_option maxRecDepth 100000 in
set_option maxHeartbeats 4000000 in
theorem rwrite_any (s : Dk) (Y : Nat → Prop) (r : Nat) (i : Int) (b : List Nat) (sb : ByteArray) (w : World) (h : RAt w Y r s) (hs : sb = strOf b) (hb : ∀ x ∈ b, x < 256) (hl : b.length ≤ maxLen) (HLEN : s.op.length + 1 ≤ maxLen ∧ (s.op.length + 1) * 24 ≤ 140737488355328) :
    Calls Try.prog 38 #[.pointer (some ⟨r, 0, none⟩), .int .i64 i, .string sb] w fun e w' => ∃ Y', e = .returned (.int .i64 (s.wCode i b)) ∧ RAt w' Y' r (s.write i b) ∧ Gr Y Y' w.heap.size ∧ Bar Y w w' := by
  subst hs
  have H := Lib.hid h
  have HB := Lib.hid hb
  have hsz : (strOf b).size = b.length := strOf_size b
  have hl2 : (b.length : Int) ≤ 9223372036854775807 := by unfold maxLen at hl; omega
  clear h hb
  by_cases ha : s.ask i = 0
  · by_cases h256 : 256 < b.length
    · have e1 : s.wCode i b = 3 := by unfold Dk.wCode; rw [if_neg (by simpa using ha), if_pos h256]
      have e2 : s.write i b = s := by unfold Dk.write; rw [if_pos (.inr h256)]
      rw [e1, e2]
      clear e1 e2 hl
      have d2 : (256 : Int) < b.length := by omega
      go_enter Try.func38, Try.ntmps38
      go_wp2_with fail
      refine (rasked_any s Y r i w H.out).mono ?_
      rintro e w1 ⟨rfl, rfl⟩
      rw [ha]
      go_wp2_with fail
      go_ret
      exact ⟨Y, rfl, H.out, Gr.refl _ _, Bar.refl _ _⟩
    · obtain ⟨m, rfl, hms⟩ : ∃ m : Nat, i = (m : Int) ∧ m < s.bl.length := by
        unfold Dk.ask at ha
        split at ha
        · cases ha
        · split at ha
          · cases ha
          · exact ⟨i.toNat, by omega, by omega⟩
      have e1 : s.wCode m b = (Dk.gCode { s with op := s.op ++ [(m, pad b)] }) := by unfold Dk.wCode Dk.gCode Dk.goes; rw [if_neg (by simpa using ha), if_neg h256]
      have e2 : s.write m b = Dk.count { s with op := s.op ++ [(m, pad b)] } := by unfold Dk.write; rw [if_neg (by rintro (h | h); exact h ha; exact h256 h)]; rfl
      rw [e1, e2]
      clear e1 e2 hl
      have d2 : ¬ (256 : Int) < b.length := by omega
      have hb256 : b.length ≤ 256 := by omega
      obtain ⟨i0, hi, hz0, hz1, hz2⟩ := info_parts info_rw
      obtain ⟨vb, vo, inn, hK⟩ := H.out
      obtain ⟨a, c, hvo⟩ := own_slice hK.op
      subst hvo
      have h0 := blk_cell hK.hd 1 _ rfl
      have HK := Lib.hid hK
      have HP : Hid ((m, pad b).1 < s.bl.length ∧ okB (m, pad b).2) := Lib.hid ⟨hms, pad_okB hb256 HB.out⟩
      have HMX := Lib.hid HLEN
      have HNI : Hid (s.op.length = s.op.length) := Lib.hid rfl
      clear hK HNI
      go_enter Try.func38, Try.ntmps38
      go_wp2_with fail
      refine (rasked_any s Y r m w H.out).mono ?_
      rintro e w1 ⟨rfl, rfl⟩
      rw [ha]
      go_wp2_with fail
      refine wp_region_any (by kernel_rfl) ?_
      change wpAny _ _ _ _ _ _ _ (World.drew _)
      refine wpAny_take (i := 0) (v := .pointer (some ⟨r, 0, none⟩)) rfl (by kernel_rfl) (by kernel_rfl) (by kernel_rfl) (fun _ _ _ h => h) (Or.inl ⟨by rfl, fun w => by go_simp⟩) ?_
      refine wpAny_take (i := 1) (v := .pointer (some ⟨r, 0, none⟩)) rfl (by kernel_rfl) (by kernel_rfl) (by kernel_rfl) (fun _ _ _ h => h) (Or.inl ⟨by rfl, fun w => by go_simp⟩) ?_
      refine wpAny_take (i := 2) (v := .pointer (some ⟨r, 0, none⟩)) rfl (by kernel_rfl) (by kernel_rfl) (by kernel_rfl) (fun _ _ _ h => h) (Or.inl ⟨by rfl, fun w => by go_simp⟩) ?_
      refine wpAny_take (i := 3) (v := .pointer (some ⟨r, 1, none⟩)) rfl (by kernel_rfl) (by kernel_rfl) (by kernel_rfl) (fun _ _ _ h => h) (Or.inl ⟨by rfl, fun w => by go_simp⟩) ?_
      refine wpAny_take (i := 5) (v := .int .i64 (m : Int)) rfl (by kernel_rfl) (by kernel_rfl) (by kernel_rfl) (fun _ _ _ h => h) (Or.inl ⟨by rfl, fun w => by go_simp⟩) ?_
      refine wpAny_take (i := 6) (v := .string (strOf b)) rfl (by kernel_rfl) (by kernel_rfl) (by kernel_rfl) (fun _ _ _ h => h) (Or.inl ⟨by rfl, fun w => by go_simp⟩) ?_
      refine wpAny_takeU (i := 4) (v := .slice a s.op.length c) (fun w' => w'.cell? ⟨r, 1, none⟩ = some (.slice a s.op.length c)) rfl (by kernel_rfl) (by kernel_rfl) (by kernel_rfl) (fun _ _ _ h => h) (Or.inl ⟨by rfl, fun w hS => by go_simp⟩) h0 ?_
      refine wpAnyU_one (j := 7) (o := ⟨some 24, _, _, _, _, _⟩) (by kernel_rfl) rfl rfl (fun K hK => ?_)
      go_simp
      refine (rblock_any b _ _ rfl HB.out hb256).mono ?_
      rintro e w1 ⟨rfl, hb1⟩
      have hb1' : Below w.heap.size w w1 := (Below.refl _ w).drew.trans hb1
      have h1c0 := cell_later hb1' h0
      refine hK _ _ (.inr h1c0) ?_
      clear hK K hb1
      refine wpAnyU_one (j := 8) (o := ⟨some 25, _, _, _, _, _⟩) (by kernel_rfl) rfl rfl (fun K hK => ?_)
      go_simp
      refine hK _ _ (.inr h1c0) ?_
      clear hK K
      have hbA : Below w.heap.size w (w1.alloc (.cells #[.int .i64 (m : Int), .string (strOf (pad b))] 75)) := below_on hb1' (below1 w1 _)
      have h1c := cell_later hbA h0
      refine wpAnyU_one (j := 9) (o := ⟨some 26, _, _, _, _, _⟩) (by kernel_rfl) rfl rfl (fun K hK => ?_)
      go_simp
      refine hK _ _ (.inr h1c) ?_
      clear hK K
      have HOW : Hid ((w1.alloc (.cells #[.int .i64 (m : Int), .string (strOf (pad b))] 75)).ownsRow 0 75 2 (.slice a s.op.length c) s.op.length (rwVs s.op)) := Lib.hid (own_below hbA HK.out.op)
      have HBA := Lib.hid hbA
      have HNW : Hid ((w1.alloc (.cells #[.int .i64 (m : Int), .string (strOf (pad b))] 75)).heap[w1.heap.size]? = some (.cells #[.int .i64 (m : Int), .string (strOf (pad b))] 75 (0, 0))) := Lib.hid (heap_new1 w1 _)
      clear hbA hb1' h1c0
      refine wpAnyU_one (j := 10) (o := ⟨some 27, _, _, _, _, _⟩) (by kernel_rfl) rfl rfl (fun K hK => ?_)
      refine wp_append_lies _ (.tmp 21) (.tmp 26) 64 rfl 0 75 i0 _ 2 24 Try.underlying64 hi hz0 hz1 hz2 rfl (by decide) (.slice a s.op.length c) s.op.length (rwVs s.op) (by go_simp) HOW.out ⟨w1.heap.size, 0, none⟩ 1 1 (rwV (m, pad b)) (by go_simp) rfl (World.news_of_block HNW.out) (by intro u hu; unfold rwV at hu; simp at hu; rcases hu with rfl | rfl <;> rfl) (by decide) HMX.out.1 HMX.out.2 (Nat.zero_le _) _ rfl ?_
      intro gk cp w8 hown hgr hgv hlt8
      obtain ⟨⟨c1, c2⟩, hD, hBr⟩ := r_opn HK.out HBA.out HP.out hown hgr hgv hlt8
      refine hK _ _ (.inl (by kernel_rfl)) ?_
      have HD := Lib.hid hD
      have HBR := Lib.hid hBr
      clear hK K hown hgr hgv hD hBr h0 h1c HOW HNW HMX
      refine wpAnyU_one (j := 11) (o := ⟨some 28, _, _, _, _, _⟩) (by kernel_rfl) rfl rfl (fun K hK => ?_)
      go_simp
      refine hK _ _ (.inr c1) ?_
      clear hK K
      refine wpAnyU_one (j := 12) (o := ⟨some 29, _, _, _, _, _⟩) (by kernel_rfl) rfl rfl (fun K hK => ?_)
      go_simp
      refine hK _ _ (.inr c1) ?_
      clear hK K
      refine wpAnyU_one (j := 13) (o := ⟨none, _, _, _, _, _⟩) (by kernel_rfl) rfl rfl (fun K hK => ?_)
      go_simp
      refine hK _ _ (.inl (by kernel_rfl)) ?_
      clear hK K
      refine wpAnyU_done (by kernel_rfl) ?_ _
      clear c1 c2
      obtain ⟨w9, hw9⟩ : ∃ w9, w9 = w8.setCell ⟨r, 1, none⟩ (.slice (some ⟨gk, 0, none⟩) (s.op.length + 1) cp) := ⟨_, rfl⟩
      rw [← hw9]
      have HD2 : Hid (RAt w9 (fun k => Y k ∨ (w.heap.size ≤ k ∧ k < w8.heap.size)) r { s with op := s.op ++ [(m, pad b)] } ∧ Bar Y w w9) := Lib.hid (by rw [hw9]; exact ⟨⟨_, _, _, HD.out⟩, HBR.out⟩)
      have HG : Hid (Gr Y (fun k => Y k ∨ (w.heap.size ≤ k ∧ k < w8.heap.size)) w.heap.size) := Lib.hid (fun k hk => hk.imp id (fun h => h.1))
      have HXR := Lib.hid HK.out.xr
      clear hw9 HD HBR
      go_wp2_with fail
      refine (rfails_any _ _ r _ HD2.out.1).mono ?_
      rintro e w1 ⟨rfl, hd, hb⟩
      have HE : Hid (RAt w1 (fun k => Y k ∨ (w.heap.size ≤ k ∧ k < w8.heap.size)) r (Dk.count { s with op := s.op ++ [(m, pad b)] }) ∧ Bar Y w w1) := Lib.hid ⟨hd, HD2.out.2.only hb (fun _ => HXR.out)⟩
      clear hd hb
      cases hgo : Dk.goes { s with op := s.op ++ [(m, pad b)] } with
      | true =>
        have E3 : Hid (Dk.gCode { s with op := s.op ++ [(m, pad b)] } = 140) := Lib.hid (by unfold Dk.gCode; rw [hgo]; rfl)
        clear hgo
        go_wp2_with fail
        go_ret
        exact ⟨_, by rw [E3.out]; rfl, HE.out.1, HG.out, HE.out.2⟩
      | false =>
        have E3 : Hid (Dk.gCode { s with op := s.op ++ [(m, pad b)] } = 0) := Lib.hid (by unfold Dk.gCode; rw [hgo]; rfl)
        clear hgo
        go_wp2_with fail
        go_ret
        exact ⟨_, by rw [E3.out]; rfl, HE.out.1, HG.out, HE.out.2⟩
  · have e1 : s.wCode i b = s.ask i := by unfold Dk.wCode; rw [if_pos ha]
    have e2 : s.write i b = s := by unfold Dk.write; rw [if_pos (.inl ha)]
    rw [e1, e2]
    clear e1 e2 hl
    have d1 : (s.ask i != 0) = true := by simpa using ha
    have d2 : (s.ask i == 0) = false := by simpa using ha
    go_enter Try.func38, Try.ntmps38
    go_wp2_with fail
    refine (rasked_any s Y r i w H.out).mono ?_
    rintro e w1 ⟨rfl, rfl⟩
    go_wp2_with fail
    go_ret
    exact ⟨Y, rfl, H.out, Gr.refl _ _, Bar.refl _ _⟩
end Go.Proofs.Ytncijclhfndniaa
