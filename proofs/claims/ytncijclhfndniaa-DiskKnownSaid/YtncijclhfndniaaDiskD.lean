/-
  Walks of chapter 14: Write.
-/
import Derived.Test.YtncijclhfndniaaDiskC
namespace Go.Proofs.Ytncijclhfndniaa
open Go.RowKit
attribute [local irreducible] byteVals wrVs wrV BlAt okB zeros puts pad Dk.ask Dk.settle Dk.count Dk.gCode Dk.synced
set_option maxHeartbeats 4000000 in
theorem write_any (s : Dk) (X : Nat → Prop) (g : Nat) (i : Int) (b : List Nat) (a : Option Addr) (cap : Nat) (w : World) (h : DAt w X g s) (hb : BytesAt w a b) (hc : a = none → cap = 0) (HLEN : s.op.length + 1 ≤ maxLen ∧ (s.op.length + 1) * 264 ≤ 140737488355328) :
    Calls Try.prog 12 #[.pointer (some ⟨g, 0, none⟩), .int .i64 i, .slice a b.length cap] w fun e w' => ∃ X', e = .returned (.int .i64 (s.wCode i b)) ∧ DAt w' X' g (s.write i b) ∧ Gr X X' w.heap.size ∧ Bar X w w' := by
  have H := Lib.hid h
  have HB := Lib.hid hb
  have HC := Lib.hid hc
  clear hc hb
  obtain ⟨Z, hZ, hzero, hset⟩ := zero_wr
  by_cases ha : s.ask i = 0
  · by_cases h256 : 256 < b.length
    · have e1 : s.wCode i b = 3 := by unfold Dk.wCode; rw [if_neg (by simpa using ha), if_pos h256]
      have e2 : s.write i b = s := by unfold Dk.write; rw [if_pos (.inr h256)]
      rw [e1, e2]
      clear e1 e2
      have d1 : decide ((b.length : Int) > 256) = true := decide_eq_true (by omega)
      have d2 : decide (256 < (b.length : Int)) = true := decide_eq_true (by omega)
      clear h hzero hset
      go_enter Try.func12, Try.ntmps12
      go_wp2_with fail
      refine (asked_any s X g i w H.out).mono ?_
      rintro e w1 ⟨rfl, rfl⟩
      go_wp2_with fail
      go_ret
      exact ⟨X, rfl, H.out, Gr.refl _ _, Bar.refl _ _⟩
    · obtain ⟨m, rfl, hms⟩ : ∃ m : Nat, i = (m : Int) ∧ m < s.bl.length := by
        unfold Dk.ask at ha
        split at ha
        · cases ha
        · split at ha
          · cases ha
          · exact ⟨i.toNat, by omega, by omega⟩
      have e1 : s.wCode m b = (Dk.gCode { s with op := s.op ++ [(m, pad b)] }) := by unfold Dk.wCode Dk.gCode Dk.goes; rw [if_neg (by simpa using ha), if_neg h256]
      have e2 : s.write m b = Dk.count { s with op := s.op ++ [(m, pad b)] } := by unfold Dk.write; rw [if_neg (by rintro (h | h); exact h ha; exact h256 h)]; rfl
      rw [e1, e2]
      clear e1 e2
      have hset2 := hset m
      have d1 : decide ((b.length : Int) > 256) = false := decide_eq_false (by omega)
      have d2 : decide (256 < (b.length : Int)) = false := decide_eq_false (by omega)
      have hZe : ¬ Z = #[] := by rintro rfl; simp at hZ
      have hS0 := store_new w (m, zeros) zeros_okB Z hZ
      have HS0 := Lib.hid hS0
      have HCL : Hid ((byteVals b).length = Nat.min b.length 256) := Lib.hid (by rw [byteVals_length]; exact (Nat.min_eq_left (by omega)).symm)
      have HSR := Lib.hid (SrcAt.bytes (HB.out.below (below1 w (.cells (wrV (m, zeros)).toArray 60))) HC.out)
      have HTH : Hid ((w.alloc (.cells (wrV (m, zeros)).toArray 60)).there w.heap.size 1 (byteVals b).length) := Lib.hid (there_of_blk (heap_new1 w _) _ _ (by rw [byteVals_length, List.size_toArray, wrV_length zeros_okB]; omega))
      clear h hset hS0
      go_enter Try.func12, Try.ntmps12
      go_wp2_with fail
      refine (asked_any s X g m w H.out).mono ?_
      rintro e w1 ⟨rfl, rfl⟩
      rw [ha]
      go_wp2_with (first
        | (refine wpList_store_is (op := ⟨none, .store 60 _ _, _, _, _, _⟩) rfl 60 _ _ rfl _ _ rfl rfl _ HS0.out ?_)
        | (refine wpList_copy_src (o := ⟨some 23, _, _, _, _, _⟩) rfl _ _ 29 29 rfl 5 Try.underlying29 info_u8 w.heap.size 1 256 256 a b.length cap rfl rfl (byteVals b) (HCL.out) (HSR.out) (HTH.out) ?_))
      refine name_world ?_
      intro W hW
      obtain ⟨hr, hbW, hlt⟩ := copied_at (by omega) hW
      have hDW := H.out.below hbW
      obtain ⟨ad, cb, v, ap, hDW⟩ := hDW
      have h1 := blk_cell hDW.hd 1 _ rfl
      have hf := blk_free hDW.hd
      clear hW HS0 HCL HSR HTH
      have hp2 : okB (m, pad b).2 := pad_okB (by omega) HB.out.1
      have HLD : Hid (∀ w', w'.rangeAt w.heap.size 0 (wrV (m, pad b)) → (Instr.loadAt 60 (.pointer (some ⟨w.heap.size, 0, none⟩))).run Try.prog w' = .ok (.agg (wrV (m, pad b)).toArray) w') := Lib.hid (fun w' h => load_wr w' _ 0 _ hp2 h)
      have HRW : Hid (W.drew.rangeAt w.heap.size 0 (wrV (m, pad b)) ∧ (W.drew.alloc (.cells (wrV (m, pad b)).toArray 60)).rangeAt w.heap.size 0 (wrV (m, pad b))) := Lib.hid ⟨hr, World.rangeAt_alloc (w := W.drew) hr _⟩
      have HBU : Hid (∀ w', (Instr.buildSlice 51 1 #[(0, .agg (wrV (m, pad b)).toArray)]).run Try.prog w' = .ok (.slice (some ⟨w'.heap.size, 0, none⟩) 1 1) (w'.alloc (.cells (wrV (m, pad b)).toArray 60))) := Lib.hid (fun w' => run_build_wr w' _ hp2)
      have h1a : (W.drew.alloc (.cells (wrV (m, pad b)).toArray 60)).cell? ⟨g, 1, none⟩ = some v := (ws_alloc (w := W.drew) (l := wrV (m, pad b)) _ ⟨hr, h1, hf 1⟩).2.1
      have h1d : W.drew.cell? ⟨g, 1, none⟩ = some v := h1
      have h1e : (W.alloc (.cells (wrV (m, pad b)).toArray 60)).cell? ⟨g, 1, none⟩ = some v := h1a
      refine wp_region_any (by kernel_rfl) ?_
      change wpAny _ _ _ _ _ _ _ (World.drew _)
      refine wpAny_take (i := 0) (v := .pointer (some ⟨g, 0, none⟩)) rfl (by kernel_rfl) (by kernel_rfl) (by kernel_rfl) (fun _ _ _ h => h) (Or.inl ⟨by rfl, fun w => by go_simp⟩) ?_
      refine wpAny_take (i := 1) (v := .pointer (some ⟨g, 0, none⟩)) rfl (by kernel_rfl) (by kernel_rfl) (by kernel_rfl) (fun _ _ _ h => h) (Or.inl ⟨by rfl, fun w => by go_simp⟩) ?_
      refine wpAny_take (i := 2) (v := .pointer (some ⟨g, 0, none⟩)) rfl (by kernel_rfl) (by kernel_rfl) (by kernel_rfl) (fun _ _ _ h => h) (Or.inl ⟨by rfl, fun w => by go_simp⟩) ?_
      refine wpAny_take (i := 3) (v := .pointer (some ⟨g, 1, none⟩)) rfl (by kernel_rfl) (by kernel_rfl) (by kernel_rfl) (fun _ _ _ h => h) (Or.inl ⟨by rfl, fun w => by go_simp⟩) ?_
      have HP : Hid (DkAt W X g s ad cb v ap ∧ Below w.heap.size w W ∧ (∀ k, X k → k < w.heap.size) ∧ Below W.heap.size W (W.drew.alloc (.cells (wrV (m, pad b)).toArray 60))) := Lib.hid ⟨hDW, hbW, H.out.lt, (Below.refl _ W).drew.trans (below1 W.drew _)⟩
      have HNL : Hid (s.op.length + 1 ≤ maxLen ∧ (s.op.length + 1) * 264 ≤ 140737488355328) := Lib.hid HLEN
      obtain ⟨i0, hi, hz0, hz1, hz2⟩ := info_parts info_wrt
      have HZC : Hid ((Value.agg (#[.int .i64 0] ++ Array.replicate 256 (.int .u8 0))).cells.size = 257) := Lib.hid (by show (#[Value.int .i64 0] ++ Array.replicate 256 (Value.int .u8 0)).size = 257; simp only [Array.size_append, Array.size_replicate, List.size_toArray, List.length_cons, List.length_nil])
      have HOW : Hid ((W.drew.alloc (.cells (wrV (m, pad b)).toArray 60)).ownsRow 0 60 257 v s.op.length (wrVs s.op)) := Lib.hid (own_below HP.out.2.2.2 hDW.op)
      have HNW : Hid ((wrV (m, pad b)).length = 1 * 257) := Lib.hid (by rw [wrV_length hp2])
      have HNC : Hid (∀ (j : Nat) (u : Value), (wrV (m, pad b))[j]? = some u → (W.drew.alloc (.cells (wrV (m, pad b)).toArray 60)).cell? ((⟨W.heap.size, 0, none⟩ : Addr).add j) = some u) := Lib.hid (fun j u hu => by
        have := range_new (heap_new1 W.drew (.cells (wrV (m, pad b)).toArray 60)) 0 j u (by simpa using hu)
        rw [Addr.add_mid]; exact this)
      have HOK := Lib.hid hp2
      clear hDW hbW hlt hr hp2 hset2 hzero hZ hZe
      refine wpAny_mix (i := 4) (j := 5) (k := 6) (oi := ⟨some 28, _, _, _, _, _⟩) (oj := ⟨some 29, _, _, _, _, _⟩) (ok := ⟨some 30, _, _, _, _, _⟩) (vi := v) (vj := .agg (wrV (m, pad b)).toArray) (vk := .slice (some ⟨W.heap.size, 0, none⟩) 1 1) (w' := W.drew.alloc (.cells (wrV (m, pad b)).toArray 60)) (by decide) (by decide) (by kernel_rfl) (by kernel_rfl) (by kernel_rfl) (by kernel_rfl) (by kernel_rfl) rfl rfl rfl rfl rfl rfl (fun d h h2 => absurd (h.trans h2.symm) (by decide)) (fun d h h2 => absurd (h.trans h2.symm) (by decide)) ?_ ?_ ?_ ?_ ?_ ?_ ?_ ?_
      · refine run_load_is 51 (.tmp 27) rfl (vx := .pointer (some ⟨g, 1, none⟩)) ?_ ?_ <;> go_simp
      · refine run_load_is 51 (.tmp 27) rfl (vx := .pointer (some ⟨g, 1, none⟩)) ?_ ?_ <;> go_simp
      · refine run_load_is 51 (.tmp 27) rfl (vx := .pointer (some ⟨g, 1, none⟩)) ?_ ?_ <;> go_simp
      · exact run_load_is 60 (.tmp 8) rfl (vx := .pointer (some ⟨w.heap.size, 0, none⟩)) (by go_simp) (HLD.out _ HRW.out.1)
      · exact run_load_is 60 (.tmp 8) rfl (vx := .pointer (some ⟨w.heap.size, 0, none⟩)) (by go_simp) (HLD.out _ HRW.out.1)
      · exact run_build_is 51 (.tmp 29) rfl (vx := .agg (wrV (m, pad b)).toArray) (by go_simp) (HBU.out _)
      · exact run_build_is 51 (.tmp 29) rfl (vx := .agg (wrV (m, pad b)).toArray) (by go_simp) (HBU.out _)
      refine wpAny_one (i := 7) (o := ⟨some 31, _, _, _, _, _⟩) (by kernel_rfl) rfl rfl (fun K hK => ?_)
      refine wp_append_lies _ (.tmp 28) (.tmp 30) 51 rfl 0 60 i0 _ 257 264 Try.underlying51 hi hz0 hz1 hz2 HZC.out (by decide) v s.op.length (wrVs s.op) (by go_simp) HOW.out ⟨W.heap.size, 0, none⟩ 1 1 (wrV (m, pad b)) (by go_simp) HNW.out HNC.out (wrV_one _) (by decide) HNL.out.1 HNL.out.2 (Nat.zero_le _) _ rfl ?_
      intro gk cp w8 hown hgr hgv hlt
      obtain ⟨⟨c1, c2⟩, hD, hB⟩ := write_mem HP.out.1 HP.out.2.1 HP.out.2.2.1 HP.out.2.2.2 hms HOK.out hown hgr hgv hlt
      refine hK _ _ ?_
      have HD := Lib.hid hD
      have HBR := Lib.hid hB
      clear hK K hown hgr hgv hD hB h1 hf h1a h1d h1e HLD HRW HBU HP HZC HOW HNW HNC HNL
      refine wpAny_take (i := 8) (v := .pointer (some ⟨g, 0, none⟩)) rfl (by kernel_rfl) (by kernel_rfl) (by kernel_rfl) (fun _ _ _ h => h) (Or.inl ⟨by rfl, fun w => by go_simp⟩) ?_
      refine wpAny_take (i := 9) (v := .pointer (some ⟨g, 1, none⟩)) rfl (by kernel_rfl) (by kernel_rfl) (by kernel_rfl) (fun _ _ _ h => h) (Or.inl ⟨by rfl, fun w => by go_simp⟩) ?_
      refine wpAny_one (i := 10) (o := ⟨none, _, _, _, _, _⟩) (by kernel_rfl) rfl rfl (fun K hK => ?_)
      go_simp
      refine hK _ _ ?_
      clear hK K
      refine wpAny_done (by kernel_rfl) ?_ _
      obtain ⟨w9, hw9⟩ : ∃ w9, w9 = w8.setCell ⟨g, 1, none⟩ (.slice (some ⟨gk, 0, none⟩) (s.op.length + 1) cp) := ⟨_, rfl⟩
      rw [← hw9]
      have HG : Hid (Gr X (fun k => X k ∨ (w.heap.size ≤ k ∧ k < w8.heap.size)) w.heap.size) := Lib.hid (fun k hk => hk.imp id (fun h => h.1))
      have HD2 : Hid (DAt w9 (fun k => X k ∨ (w.heap.size ≤ k ∧ k < w8.heap.size)) g { s with op := s.op ++ [(m, pad b)] } ∧ Bar X w w9) := Lib.hid (by rw [hw9]; exact ⟨HD.out, HBR.out⟩)
      clear hw9 HD HBR c1 c2
      go_wp2_with fail
      refine (step_w2 _ _ g _ HD2.out.1).mono ?_
      rintro e w1 ⟨rfl, hd, hb⟩
      go_wp2_with fail
      go_ret
      exact ⟨_, rfl, hd, HG.out, HD2.out.2.grow hb HG.out⟩
  · have e1 : s.wCode i b = s.ask i := by unfold Dk.wCode; rw [if_pos ha]
    have e2 : s.write i b = s := by unfold Dk.write; rw [if_pos (.inl ha)]
    rw [e1, e2]
    clear e1 e2
    have d1 : (s.ask i != 0) = true := by simpa using ha
    have d2 : (s.ask i == 0) = false := by simpa using ha
    clear h hzero hset
    go_enter Try.func12, Try.ntmps12
    go_wp2_with fail
    refine (asked_any s X g i w H.out).mono ?_
    rintro e w1 ⟨rfl, rfl⟩
    go_wp2_with fail
    go_ret
    exact ⟨X, rfl, H.out, Gr.refl _ _, Bar.refl _ _⟩
end Go.Proofs.Ytncijclhfndniaa
