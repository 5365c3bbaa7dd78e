/-
  Chapter 14: the document's New.
-/
import Derived.Test.YtncijclhfndniaaDiskQ
namespace Go.Proofs.Ytncijclhfndniaa
open Go.RowKit
attribute [local irreducible] byteVals okB zeros pad strOf padTo strVals rwVs
theorem str_nil : (⟨#[]⟩ : ByteArray) = strOf [] := by unfold strOf; rfl
theorem own_blk {w : World} {B n sz q : Nat} {e : TypeId} {v : Value} {xs : List Value} (h : w.ownsRow B e sz v n xs) (hq : v.ownBlock = some q) : ∃ C, w.heap[q]? = some (.cells C e (0, 0)) := by
  rcases h.2 with ⟨e, _⟩ | ⟨g', cap, cur, e, _, hc, _⟩
  · rw [e] at hq; cases hq
  · rw [e] at hq; cases hq; exact ⟨cur, hc⟩
/-- behind the append onto a row of type E: blocks of other types are as they were -/
theorem app_keep {W Wa w8 : World} {E : TypeId} {B n sz : Nat} {v : Value} {xs : List Value} (hv : W.ownsRow B E sz v n xs) (hWa : Below W.heap.size W Wa) (hg : Wa.grownBy w8 v.ownBlock) :
    ∀ (k : Nat) (C : Array Value) (t : TypeId), W.heap[k]? = some (.cells C t (0, 0)) → t ≠ E → w8.heap[k]? = W.heap[k]? := fun k C t hk ht => by
  rw [hg.block k (Nat.lt_of_lt_of_le (blk_lt hk) hWa.size) (fun e => by
    obtain ⟨C', hC⟩ := own_blk hv e.symm
    exact ne_type hk hC ht rfl), hWa.block k (blk_lt hk)]
theorem app_bar {W Wa w8 : World} {Y : Nat → Prop} {v : Value} (hWa : Below W.heap.size W Wa) (hg : Wa.grownBy w8 v.ownBlock) (hy : ∀ q, v.ownBlock = some q → Y q) : Bar Y W w8 :=
  ⟨hg.os.trans hWa.os, hg.tape.trans hWa.tape, hg.output.trans hWa.output, Nat.le_trans hWa.size hg.size, fun k hk hx => by
    rw [hg.block k (Nat.lt_of_lt_of_le hk hWa.size) (fun e => hx (hy k e.symm)), hWa.block k hk]⟩
theorem r_blk {W Wa w8 : World} {Y : Nat → Prop} {r : Nat} {s : Dk} {vb vo : Value} {inn : Int} {gk cap : Nat} {l : List Nat} (h : RkAt W Y r s vb vo inn) (hWa : Below W.heap.size W Wa) (hl : okB l) (hn : s.bl.length + 1 ≤ 4096)
    (hown : w8.ownsRow 0 9 1 (.slice (some ⟨gk, 0, none⟩) (s.bl.length + 1) cap) (s.bl.length + 1) (strVals s.bl ++ [.string (strOf l)])) (hg : Wa.grownBy w8 vb.ownBlock) (hgv : vb.ownBlock = some gk ∨ gk = Wa.heap.size) (hgl : gk < w8.heap.size) :
    (w8.cell? ⟨r, 0, none⟩ = some vb ∧ w8.frozen? ⟨r, 0, none⟩ = false) ∧ RkAt (w8.setCell ⟨r, 0, none⟩ (.slice (some ⟨gk, 0, none⟩) (s.bl.length + 1) cap)) (fun k => Y k ∨ (W.heap.size ≤ k ∧ k < w8.heap.size)) r { s with bl := s.bl ++ [l] } (.slice (some ⟨gk, 0, none⟩) (s.bl.length + 1) cap) vo inn ∧ Bar Y W (w8.setCell ⟨r, 0, none⟩ (.slice (some ⟨gk, 0, none⟩) (s.bl.length + 1) cap)) := by
  have h8 := app_keep h.bl hWa hg
  have hd8 := (h8 r _ _ h.hd (by decide)).trans h.hd
  have ho9 := only1' w8 r 0 (.slice (some ⟨gk, 0, none⟩) (s.bl.length + 1) cap)
  have hs8 : W.heap.size ≤ w8.heap.size := Nat.le_trans hWa.size hg.size
  obtain ⟨curg, hcg⟩ := own_blk (q := gk) hown rfl
  have hgg : ¬ gk = r := ne_type hcg hd8 (by decide)
  refine ⟨⟨blk_cell hd8 0 _ rfl, blk_free hd8 0⟩, ⟨blk_set hd8 0 _, .inl h.xr, fun k hk => ?_, h.inn, ⟨fun b hb => ?_, fun p hp => ?_, ?_, h.ok.arm⟩, ?_, fun q hq => ?_, ?_, fun q hq => .inl (h.ox q hq)⟩, (app_bar hWa hg h.bx).only ho9 (fun _ => h.xr)⟩
  · rcases hk with hk | hk
    · exact Nat.lt_of_lt_of_le (h.lt k hk) (Nat.le_trans hs8 ho9.size)
    · exact Nat.lt_of_lt_of_le hk.2 ho9.size
  · rcases List.mem_append.1 hb with hb | hb
    · exact h.ok.blk b hb
    · have : b = l := by simpa using hb
      rw [this]; exact hl
  · have := h.ok.opn p hp
    refine ⟨?_, this.2⟩
    show p.1 < (s.bl ++ [l]).length
    rw [List.length_append]; omega
  · show (s.bl ++ [l]).length ≤ 4096
    rw [List.length_append]; simpa using hn
  · have e1 : (s.bl ++ [l]).length = s.bl.length + 1 := by simp
    have e2 : strVals (s.bl ++ [l]) = strVals s.bl ++ [.string (strOf l)] := by rw [strVals_append]; unfold strVals; rfl
    rw [e1, e2]
    exact own_keep hown (fun q hq => by cases hq; exact ho9.block gk (blk_lt hcg) hgg)
  · cases hq
    rcases hgv with hgv | hgv
    · exact .inl (h.bx _ hgv)
    · refine .inr ⟨?_, hgl⟩
      rw [hgv]; exact hWa.size
  · refine own_keep h.op (fun q hq => ?_)
    obtain ⟨C, hC⟩ := own_blk h.op hq
    rw [ho9.block q (by have := blk_lt hC; omega) (ne_type ((h8 q _ _ hC (by decide)).trans hC) hd8 (by decide)), h8 q _ _ hC (by decide)]
theorem r_opn {W Wa w8 : World} {Y : Nat → Prop} {r : Nat} {s : Dk} {vb vo : Value} {inn : Int} {gk cap : Nat} {p : Nat × List Nat} (h : RkAt W Y r s vb vo inn) (hWa : Below W.heap.size W Wa) (hp : p.1 < s.bl.length ∧ okB p.2)
    (hown : w8.ownsRow 0 75 2 (.slice (some ⟨gk, 0, none⟩) (s.op.length + 1) cap) (s.op.length + 1) (rwVs s.op ++ rwV p)) (hg : Wa.grownBy w8 vo.ownBlock) (hgv : vo.ownBlock = some gk ∨ gk = Wa.heap.size) (hgl : gk < w8.heap.size) :
    (w8.cell? ⟨r, 1, none⟩ = some vo ∧ w8.frozen? ⟨r, 1, none⟩ = false) ∧ RkAt (w8.setCell ⟨r, 1, none⟩ (.slice (some ⟨gk, 0, none⟩) (s.op.length + 1) cap)) (fun k => Y k ∨ (W.heap.size ≤ k ∧ k < w8.heap.size)) r { s with op := s.op ++ [p] } vb (.slice (some ⟨gk, 0, none⟩) (s.op.length + 1) cap) inn ∧ Bar Y W (w8.setCell ⟨r, 1, none⟩ (.slice (some ⟨gk, 0, none⟩) (s.op.length + 1) cap)) := by
  have h8 := app_keep h.op hWa hg
  have hd8 := (h8 r _ _ h.hd (by decide)).trans h.hd
  have ho9 := only1' w8 r 1 (.slice (some ⟨gk, 0, none⟩) (s.op.length + 1) cap)
  have hs8 : W.heap.size ≤ w8.heap.size := Nat.le_trans hWa.size hg.size
  obtain ⟨curg, hcg⟩ := own_blk (q := gk) hown rfl
  have hgg : ¬ gk = r := ne_type hcg hd8 (by decide)
  refine ⟨⟨blk_cell hd8 1 _ rfl, blk_free hd8 1⟩, ⟨blk_set hd8 1 _, .inl h.xr, fun k hk => ?_, h.inn, ⟨h.ok.blk, fun q hq => ?_, h.ok.n, h.ok.arm⟩, ?_, fun q hq => .inl (h.bx q hq), ?_, fun q hq => ?_⟩, (app_bar hWa hg h.ox).only ho9 (fun _ => h.xr)⟩
  · rcases hk with hk | hk
    · exact Nat.lt_of_lt_of_le (h.lt k hk) (Nat.le_trans hs8 ho9.size)
    · exact Nat.lt_of_lt_of_le hk.2 ho9.size
  · rcases List.mem_append.1 hq with hq | hq
    · exact h.ok.opn q hq
    · have : q = p := by simpa using hq
      rw [this]; exact hp
  · refine own_keep h.bl (fun q hq => ?_)
    obtain ⟨C, hC⟩ := own_blk h.bl hq
    rw [ho9.block q (by have := blk_lt hC; omega) (ne_type ((h8 q _ _ hC (by decide)).trans hC) hd8 (by decide)), h8 q _ _ hC (by decide)]
  · have e1 : (s.op ++ [p]).length = s.op.length + 1 := by simp
    have e2 : rwVs (s.op ++ [p]) = rwVs s.op ++ rwV p := by rw [rwVs_append]; simp [rwVs]
    rw [e1, e2]
    exact own_keep hown (fun q hq => by cases hq; exact ho9.block gk (blk_lt hcg) hgg)
  · cases hq
    rcases hgv with hgv | hgv
    · exact .inl (h.ox _ hgv)
    · refine .inr ⟨?_, hgl⟩
      rw [hgv]; exact hWa.size
theorem rnew_ok {w : World} {C : Array Value} (hC : C = #[.slice none 0 0, .slice none 0 0, .int .i64 0, .bool false, .int .i64 0, .bool false]) : RAt (w.alloc (.cells C 66)) (fun k => k = w.heap.size) w.heap.size (Dk.new 0) := by
  subst hC
  refine ⟨.slice none 0 0, .slice none 0 0, 0, heap_new1 w _, rfl, (fun k hk => by rw [hk]; simp), (fun n h => by cases h), ⟨(fun b hb => by simp [Dk.new] at hb), (fun p hp => by simp [Dk.new] at hp), (by simp [Dk.new]), (fun n h => by cases h)⟩, ?_, (fun q h => by cases h), ?_, (fun q h => by cases h)⟩
  · have : strVals (Dk.new 0).bl = [] := by unfold strVals Dk.new; rfl
    rw [this]; exact World.ownsRow_nil _ _ _ _
  · have : rwVs (Dk.new 0).op = [] := by unfold rwVs Dk.new; rfl
    rw [this]; exact World.ownsRow_nil _ _ _ _
theorem new_succ (k : Nat) : { Dk.new k with bl := (Dk.new k).bl ++ [zeros] } = Dk.new (k + 1) := by
  unfold Dk.new
  rw [List.replicate_succ']
theorem pad_nil : pad [] = zeros := by unfold pad zeros; rfl
set_option maxRecDepth 100000 in
set_option maxHeartbeats 4000000 in
theorem rnew_any (n : Int) (m : Nat) (hm : (m : Int) = max 0 (min 4096 n)) (w : World) : Calls Try.prog 17 #[.int .i64 n] w fun e w' => ∃ (Y : Nat → Prop) (r : Nat), e = .returned (.pointer (some ⟨r, 0, none⟩)) ∧ RAt w' Y r (Dk.new m) ∧ (∀ k, Y k → w.heap.size ≤ k) ∧ Below w.heap.size w w' := by
  have HM := Lib.hid hm
  obtain ⟨i0, hi, hz0, hz1, hz2⟩ := info_parts info_str
  clear hm
  go_enter Try.func17, Try.ntmps17
  go_wp2_with fail
  have hR0 := rnew_ok (w := w) rfl
  have hB0 := below1 w (.cells #[.slice none 0 0, .slice none 0 0, .int .i64 0, .bool false, .int .i64 0, .bool false] 66)
  obtain ⟨r, hr⟩ : ∃ r, r = w.heap.size := ⟨_, rfl⟩
  have hrw : w.heap.size ≤ r := by omega
  rw [← hr] at hR0 ⊢
  have HR0 := Lib.hid hR0
  have HB0 := Lib.hid hB0
  have HRW := Lib.hid hrw
  clear hR0 hB0 hr hrw
  go_loopw [4] (fun i wr => ∃ (k : Nat) (Y : Nat → Prop), k ≤ m ∧ i = .int .i64 k ∧ RAt wr Y r (Dk.new k) ∧ (∀ q, Y q → w.heap.size ≤ q) ∧ Below w.heap.size w wr) (fun i _ => m - (intOf i).toNat)
  case atStart => exact ⟨0, _, by omega, rfl, HR0.out, (fun q hq => by rw [hq]; exact HRW.out), HB0.out⟩
  case round =>
    obtain ⟨k, Y, hk, rfl, hR, hY, hB⟩ := hrel
    clear HR0 HB0
    by_cases hlt : k < m
    · have d1 : (k : Int) < n := by have := HM.out; omega
      have d2 : (k : Int) < 4096 := by have := HM.out; omega
      obtain ⟨s, hs⟩ : ∃ s, s = Dk.new k := ⟨_, rfl⟩
      have hbl : s.bl.length = k := by rw [hs]; unfold Dk.new; exact List.length_replicate
      rw [← hs] at hR
      have HS := Lib.hid hs
      clear hs
      obtain ⟨vb, vo, inn, hK⟩ := hR
      obtain ⟨a, c, hvb⟩ := own_slice hK.bl
      rw [hbl] at hvb
      subst hvb
      have h0 := blk_cell hK.hd 0 _ rfl
      have HK := Lib.hid hK
      have HY := Lib.hid hY
      have HBL := Lib.hid hbl
      have HB := Lib.hid hB
      clear hK hY hbl hB
      go_wp2_with fail
      refine wp_region_any (by kernel_rfl) ?_
      change wpAny _ _ _ _ _ _ _ (World.drew _)
      refine wpAny_take (i := 0) (v := .pointer (some ⟨r, 0, none⟩)) rfl (by kernel_rfl) (by kernel_rfl) (by kernel_rfl) (fun _ _ _ h => h) (Or.inl ⟨by rfl, fun w => by go_simp⟩) ?_
      refine wpAny_take (i := 1) (v := .pointer (some ⟨r, 0, none⟩)) rfl (by kernel_rfl) (by kernel_rfl) (by kernel_rfl) (fun _ _ _ h => h) (Or.inl ⟨by rfl, fun w => by go_simp⟩) ?_
      refine wpAny_take (i := 2) (v := .pointer (some ⟨r, 0, none⟩)) rfl (by kernel_rfl) (by kernel_rfl) (by kernel_rfl) (fun _ _ _ h => h) (Or.inl ⟨by rfl, fun w => by go_simp⟩) ?_
      refine wpAny_take (i := 3) (v := .pointer (some ⟨r, 0, none⟩)) rfl (by kernel_rfl) (by kernel_rfl) (by kernel_rfl) (fun _ _ _ h => h) (Or.inl ⟨by rfl, fun w => by go_simp⟩) ?_
      refine wpAny_takeU (i := 4) (v := .slice a k c) (fun w' => w'.cell? ⟨r, 0, none⟩ = some (.slice a k c)) rfl (by kernel_rfl) (by kernel_rfl) (by kernel_rfl) (fun _ _ _ h => h) (Or.inl ⟨by rfl, fun w hS => by go_simp⟩) h0 ?_
      refine wpAnyU_one (j := 5) (o := ⟨some 21, _, _, _, _, _⟩) (by kernel_rfl) rfl rfl (fun K hK => ?_)
      go_simp
      refine (rblock_any [] _ _ str_nil (by simp) (by simp)).mono ?_
      rintro e w1 ⟨rfl, hb1⟩
      rw [pad_nil]
      have hb1' : Below wr.heap.size wr w1 := (Below.refl _ wr).drew.trans hb1
      refine hK _ _ (.inr (cell_later hb1' h0)) ?_
      clear hK K hb1
      have hbA : Below wr.heap.size wr (w1.alloc (.cells #[.string (strOf zeros)] 9)) := below_on hb1' (below1 w1 _)
      have h1c := cell_later hbA h0
      refine wpAnyU_one (j := 6) (o := ⟨some 22, _, _, _, _, _⟩) (by kernel_rfl) rfl rfl (fun K hK => ?_)
      go_simp
      refine hK _ _ (.inr h1c) ?_
      clear hK K
      have HOW : Hid ((w1.alloc (.cells #[.string (strOf zeros)] 9)).ownsRow 0 9 1 (.slice a k c) k (strVals s.bl)) := Lib.hid (by
        have := own_below hbA HK.out.bl
        rw [HBL.out] at this; exact this)
      have HBA := Lib.hid hbA
      have HNW : Hid ((w1.alloc (.cells #[.string (strOf zeros)] 9)).heap[w1.heap.size]? = some (.cells #[.string (strOf zeros)] 9 (0, 0))) := Lib.hid (heap_new1 w1 _)
      have HMX : Hid (k + 1 ≤ maxLen ∧ (k + 1) * 16 ≤ 140737488355328) := Lib.hid ⟨by unfold maxLen; omega, by omega⟩
      clear hbA hb1'
      refine wpAnyU_one (j := 7) (o := ⟨some 23, _, _, _, _, _⟩) (by kernel_rfl) rfl rfl (fun K hK => ?_)
      refine wp_append_lies _ (.tmp 20) (.tmp 22) 28 rfl 0 9 i0 _ 1 16 Try.underlying28 hi hz0 hz1 hz2 rfl (by decide) (.slice a k c) k (strVals s.bl) (by go_simp) HOW.out ⟨w1.heap.size, 0, none⟩ 1 1 [.string (strOf zeros)] (by go_simp) rfl (World.news_of_block HNW.out) (by intro u hu; simp at hu; rw [hu]; rfl) (by decide) HMX.out.1 HMX.out.2 (Nat.zero_le _) _ rfl ?_
      intro gk cp w8 hown hgr hgv hlt8
      rw [← HBL.out] at hown
      obtain ⟨⟨c1, c2⟩, hD, hBr⟩ := r_blk HK.out HBA.out zeros_okB (by rw [HBL.out]; omega) hown hgr hgv hlt8
      rw [HBL.out] at hD hBr
      refine hK _ _ (.inl (by kernel_rfl)) ?_
      have HD := Lib.hid hD
      have HBR := Lib.hid hBr
      clear hK K hown hgr hgv hD hBr h0 h1c HOW HNW HMX
      refine wpAnyU_one (j := 8) (o := ⟨some 24, _, _, _, _, _⟩) (by kernel_rfl) rfl rfl (fun K hK => ?_)
      go_simp
      refine hK _ _ (.inr c1) ?_
      clear hK K
      refine wpAnyU_one (j := 9) (o := ⟨some 25, _, _, _, _, _⟩) (by kernel_rfl) rfl rfl (fun K hK => ?_)
      go_simp
      refine hK _ _ (.inr c1) ?_
      clear hK K
      refine wpAnyU_one (j := 10) (o := ⟨none, _, _, _, _, _⟩) (by kernel_rfl) rfl rfl (fun K hK => ?_)
      go_simp
      refine hK _ _ (.inl (by kernel_rfl)) ?_
      clear hK K
      refine wpAnyU_done (by kernel_rfl) ?_ _
      clear c1 c2
      go_wp2_with fail
      go_roundw
      case rel => exact ⟨k + 1, _, by omega, by go_num, ⟨_, _, _, by have := HD.out; rw [HS.out, new_succ] at this; exact this⟩, (fun q hq => by
        rcases hq with hq | hq
        · exact HY.out q hq
        · exact Nat.le_trans HB.out.size hq.1), Bar.below HB.out HY.out HB.out.size HBR.out⟩
      case measure => simp [intOf]; omega
    · obtain rfl : m = k := by omega
      by_cases hn : n ≤ m
      · have e1 : ¬ (m : Int) < n := by omega
        have HRR := Lib.hid hR
        have HYY := Lib.hid hY
        clear hR hY
        go_wp2_with fail
        go_ret
        exact ⟨_, _, rfl, HRR.out, HYY.out, hB⟩
      · have e2 : ¬ (m : Int) < 4096 := by have := HM.out; omega
        have e1 : (m : Int) < n := by omega
        have HRR := Lib.hid hR
        have HYY := Lib.hid hY
        clear hR hY
        go_wp2_with fail
        go_ret
        exact ⟨_, _, rfl, HRR.out, HYY.out, hB⟩
end Go.Proofs.Ytncijclhfndniaa
