/-
  Walks of chapter 14: Blocks, Steps, Open, On.
-/
import Derived.Test.YtncijclhfndniaaDiskD
namespace Go.Proofs.Ytncijclhfndniaa
open Go.RowKit
attribute [local irreducible] byteVals wrVs wrV BlAt okB zeros puts pad Dk.ask Dk.settle Dk.count Dk.gCode Dk.synced fated fateAt
theorem blocks_any (s : Dk) (X : Nat → Prop) (g : Nat) (w : World) (h : DAt w X g s) : Calls Try.prog 22 #[.pointer (some ⟨g, 0, none⟩)] w fun e w' => e = .returned (.int .i64 (s.bl.length : Int)) ∧ w = w' := by
  obtain ⟨ad, cb, v, ap, h⟩ := h
  have h4 := blk_cell h.hd 0 _ rfl
  clear h
  go_enter Try.func22, Try.ntmps22
  go_wp2_with fail
  go_ret
  exact ⟨rfl, rfl⟩
theorem steps_any (s : Dk) (X : Nat → Prop) (g : Nat) (w : World) (h : DAt w X g s) : Calls Try.prog 23 #[.pointer (some ⟨g, 0, none⟩)] w fun e w' => e = .returned (.int .i64 s.st) ∧ w = w' := by
  obtain ⟨ad, cb, v, ap, h⟩ := h
  have h4 := blk_cell h.hd 2 _ rfl
  clear h
  go_enter Try.func23, Try.ntmps23
  go_wp2_with fail
  go_ret
  exact ⟨rfl, rfl⟩
theorem open_any (s : Dk) (X : Nat → Prop) (g : Nat) (w : World) (h : DAt w X g s) : Calls Try.prog 24 #[.pointer (some ⟨g, 0, none⟩)] w fun e w' => e = .returned (.int .i64 (s.op.length : Int)) ∧ w = w' := by
  obtain ⟨ad, cb, v, ap, h⟩ := h
  obtain ⟨a, cap, rfl, _⟩ := own_wr h
  have h4 := blk_cell h.hd 1 _ rfl
  clear h
  go_enter Try.func24, Try.ntmps24
  go_wp2_with fail
  go_ret
  exact ⟨rfl, rfl⟩
theorem BytesAt.bar {w w' : World} {X : Nat → Prop} {a : Option Addr} {l : List Nat} (hb : Bar X w w') (h : BytesAt w a l) (hx : l ≠ [] → ∀ b o, a = some ⟨b, o, none⟩ → ¬ X b) : BytesAt w' a l := by
  refine ⟨h.1, h.2.imp id ?_⟩
  rintro ⟨b, off, rfl, hc⟩
  refine ⟨b, off, rfl, fun i hi => ?_⟩
  have h1 := hc i hi
  rw [cell_of_blk (hb.block b (World.block_lt_of_cell? _ ⟨b, off + i, none⟩ h1) (hx (by rintro rfl; simp at hi) b off rfl))]
  exact h1
theorem fated_append (f : List Nat) (p : Nat × List Nat) : ∀ (l : List (Nat × List Nat)) (i : Nat) (bl : List (List Nat)), fated f i bl (l ++ [p]) = (fated f i bl l).set p.1 (p.2.take (fateAt f (i + l.length)) ++ ((fated f i bl l).getD p.1 []).drop (fateAt f (i + l.length))) := by
  intro l
  induction l with
  | nil => intro i bl; simp [fated]
  | cons q l ih =>
    intro i bl
    simp only [List.cons_append, fated, List.length_cons]
    rw [ih, show i + 1 + l.length = i + (l.length + 1) by omega]
theorem fated_length (f : List Nat) : ∀ (l : List (Nat × List Nat)) (i : Nat) (bl : List (List Nat)), (fated f i bl l).length = bl.length := by
  intro l
  induction l with
  | nil => intro i bl; simp only [fated]
  | cons q l ih => intro i bl; simp only [fated]; rw [ih, List.length_set]
theorem fated_nil (f : List Nat) (bl : List (List Nat)) : fated f 0 bl [] = bl := by unfold fated; rfl
theorem fateAt_le {f : List Nat} (hf : ∀ x ∈ f, x < 256) (k : Nat) : fateAt f k ≤ 256 := by
  unfold fateAt
  have := getD_lt hf k
  split <;> omega
theorem SrcAt.range {w : World} {b o c : Nat} {l : List Nat} (h : w.rangeAt b o (byteVals l)) (n : Nat) : SrcAt w (some ⟨b, o, none⟩) c (byteVals (l.take n)) := by
  refine ⟨(fun h => (by cases h)), byteVals_one _, fun ad had j u hu => ?_⟩
  cases had
  rw [Addr.add_lit]
  refine h j u ?_
  have hj : j < (l.take n).length := by
    have := (List.getElem?_eq_some_iff.1 hu).1
    rw [byteVals_length] at this; exact this
  rw [byteVals_at _ j hj] at hu
  rw [List.length_take] at hj
  rw [byteVals_at l j (by omega), ← hu]
  simp [List.getD_eq_getElem?_getD, show j < n by omega]
/-- what a fate makes of a block -/
def tornAt (n : Nat) (new old : List Nat) : List Nat := new.take n ++ old.drop n
theorem tornAt_ok {n : Nat} {new old : List Nat} (h1 : okB new) (h2 : okB old) (hn : n ≤ 256) : okB (tornAt n new old) := by
  unfold okB at *
  unfold tornAt
  refine ⟨by rw [List.length_append, List.length_take, List.length_drop]; omega, fun x hx => ?_⟩
  rcases List.mem_append.1 hx with hx | hx
  · exact h1.2 x (List.mem_of_mem_take hx)
  · exact h2.2 x (List.mem_of_mem_drop hx)
theorem tornAt_lo {n : Nat} {new old : List Nat} (j : Nat) (hj : j < (new.take n).length) : (tornAt n new old).getD j 0 = (new.take n).getD j 0 := by
  unfold tornAt
  simp only [List.getD_eq_getElem?_getD]
  rw [List.getElem?_append_left hj]
theorem tornAt_hi {n : Nat} {new old : List Nat} (h1 : new.length = 256) (hn : n ≤ 256) (j : Nat) (hj : (new.take n).length ≤ j) : (tornAt n new old).getD j 0 = old.getD j 0 := by
  unfold tornAt
  simp only [List.getD_eq_getElem?_getD]
  rw [List.getElem?_append_right hj, List.getElem?_drop, List.length_take, h1]
  rw [List.length_take, h1] at hj
  congr 2
  omega
theorem fated_step {f : List Nat} {s : Dk} {k : Nat} {p : Nat × List Nat} {old : List Nat} (hp : s.op[k]? = some p) (ho : (fated f 0 s.bl (s.op.take k))[p.1]? = some old) :
    fated f 0 s.bl (s.op.take (k + 1)) = (fated f 0 s.bl (s.op.take k)).set p.1 (tornAt (fateAt f k) p.2 old) := by
  have hk : k < s.op.length := (List.getElem?_eq_some_iff.1 hp).1
  rw [take_succ_some _ _ _ hp, fated_append, List.getD_eq_getElem?_getD, ho, List.length_take, Nat.min_eq_left (by omega), Nat.zero_add]
  rfl
/-- the disk behind k of its open writes, as it comes on -/
def Dk.half (s : Dk) (f : List Nat) (k : Nat) : Dk := ⟨fated f 0 s.bl (s.op.take k), s.op, s.st, none, false⟩
set_option maxHeartbeats 4000000 in
theorem on_any (s : Dk) (X : Nat → Prop) (g : Nat) (f : List Nat) (fa : Option Addr) (fc : Nat) (w : World) (h : DAt w X g s) (hf : BytesAt w fa f) (hl : f.length ≤ maxLen) (hx : f ≠ [] → ∀ b o, fa = some ⟨b, o, none⟩ → ¬ X b) :
    Calls Try.prog 14 #[.pointer (some ⟨g, 0, none⟩), .slice fa f.length fc] w fun e w' => e = .returned (.tuple #[]) ∧ DAt w' X g (s.on f) ∧ Bar X w w' := by
  obtain ⟨ad, cb, v, ap, h⟩ := h
  obtain ⟨a, cap, rfl, _⟩ := own_wr h
  have h3 := blk_cell h.hd 3 _ rfl
  have h4 := blk_cell h.hd 4 _ rfl
  have hfr := blk_free h.hd
  have xg := h.xg
  have ho1 : Only g w (w.setCell ⟨g, 3, none⟩ (.pointer none)) := (Only.refl g w).setCell (p := ⟨g, 3, none⟩) rfl _
  cases hof : s.off with
  | false =>
    have e : s.on f = { s with ar := none } := by unfold Dk.on; rw [if_neg (by rw [hof]; decide)]
    rw [e]
    clear e
    have k1 := h.store (s' := { s with ar := none }) ho1 (blk_set h.hd 3 _) rfl rfl (fun n h => by simp at h) (fun k h => h) (fun k hk => Nat.lt_of_lt_of_le (h.lt k hk) ho1.size) rfl
    have K1 := Lib.hid k1
    have O1 := Lib.hid ho1
    rw [hof] at h4
    clear k1 ho1 h hf hl hx hof
    go_enter Try.func14, Try.ntmps14
    go_wp2_with fail
    refine bodyPost_ret (results_none rfl _ _ _) rfl ?_
    exact ⟨rfl, ⟨_, _, _, _, K1.out⟩, (Bar.refl X w).only O1.out (fun _ => xg)⟩
  | true =>
    have ho2 : Only g w ((w.setCell ⟨g, 3, none⟩ (.pointer none)).setCell ⟨g, 4, none⟩ (.bool false)) := ho1.setCell (p := ⟨g, 4, none⟩) rfl _
    have e : s.on f = { s with bl := fated f 0 s.bl s.op, op := [], ar := none, off := false } := by unfold Dk.on; rw [if_pos hof]
    have k1 := h.store (s' := { s with ar := none, off := false }) ho2 (blk_set (blk_set h.hd 3 _) 4 _) rfl rfl (fun n h => by simp at h) (fun k h => h) (fun k hk => Nat.lt_of_lt_of_le (h.lt k hk) ho2.size) rfl
    have h0 : DkAt ((w.setCell ⟨g, 3, none⟩ (.pointer none)).setCell ⟨g, 4, none⟩ (.bool false)) X g (s.half f 0) ad cb (.slice a s.op.length cap) none := by unfold Dk.half; rw [List.take_zero, fated_nil]; exact k1
    have hmx : s.op.length ≤ maxLen := by
      rcases h.op.2 with ⟨e, h0⟩ | ⟨q, c2, cur, e, hg, hheap, hncap, hcm, hsz, htake⟩
      · rw [h0]; exact Nat.zero_le _
      · exact Nat.le_trans hncap hcm
    have hmx2 : (s.op.length : Int) ≤ 9223372036854775807 := by unfold maxLen at hmx; omega
    have hB0 : Bar X w ((w.setCell ⟨g, 3, none⟩ (.pointer none)).setCell ⟨g, 4, none⟩ (.bool false)) := (Bar.refl X w).only ho2 (fun _ => xg)
    rw [e]
    rw [hof] at h4
    obtain ⟨Z, hZ, hzero, _⟩ := zero_wr
    have HZ := Lib.hid hZ
    have HF := Lib.hid hf
    have HX := Lib.hid hx
    have HXG := Lib.hid xg
    have HB0 := Lib.hid hB0
    have H0 := Lib.hid h0
    have h1c := blk_cell k1.hd 1 _ rfl
    have hfl : (f.length : Int) ≤ 9223372036854775807 := by unfold maxLen at hl; omega
    obtain ⟨n, hn⟩ : ∃ n, n = s.op.length := ⟨_, rfl⟩
    rw [← hn] at h1c hmx2
    have HN := Lib.hid hn
    have h1w := blk_cell h.hd 1 _ rfl
    rw [← hn] at h1w H0
    clear h hof e k1 ho1 ho2 hZ hf hx xg hB0 h0 hmx hn hl
    go_enter Try.func14, Try.ntmps14
    go_wp2_with fail
    clear h1c h1w h3 h4 hfr
    go_loopw [25] (fun i wr => ∃ k : Nat, k ≤ n ∧ i = .int .i64 k ∧ DkAt wr X g (s.half f k) ad cb (.slice a n cap) none ∧ Bar X w wr) (fun i _ => n - (intOf i).toNat)
    case atStart => exact ⟨0, by omega, rfl, H0.out, HB0.out⟩
    case round =>
      obtain ⟨k, hk, rfl, hD, hB⟩ := hrel
      clear H0 HB0
      by_cases hlt : k < n
      · obtain ⟨p, hp⟩ : ∃ p, s.op[k]? = some p := ⟨_, List.getElem?_eq_getElem (by have := HN.out; omega)⟩
        obtain ⟨a', cap', e1, HR⟩ := own_wr hD
        obtain ⟨q, ea, hxq, hq, C, hqC⟩ := HR k p hp
        have ea2 : a = a' := by cases e1; rfl
        subst ea2
        subst ea
        obtain ⟨hp1', hp2⟩ := hD.ok.opn p (List.mem_of_getElem? hp)
        have hlen : (fated f 0 s.bl (s.op.take k)).length = s.bl.length := fated_length _ _ _ _
        have hp1 : p.1 < s.bl.length := hlen ▸ hp1'
        clear hp1'
        have hl1 := load_wr wr q (k * 257) p hp2 hq
        have hs1 := store_new wr p hp2 Z HZ.out
        have d1 : (k : Int) < n := by omega
        have d2 : (0 : Int) ≤ k := by omega
        have HL := Lib.hid hl1
        have HS := Lib.hid hs1
        have hbf := BytesAt.bar hB HF.out HX.out
        have HBF := Lib.hid hbf
        clear hl1 hs1 hbf HR hq hqC
        by_cases hfl2 : k < f.length
        · obtain ⟨b, off, c, rfl, hc1, hc2, hc3⟩ := NatsAt.at HBF.out.nats hfl2
          have hcd : f.getD k 0 = c := by rw [List.getD_eq_getElem?_getD, hc1]; rfl
          have hc4 : (wr.alloc (.cells (wrV p).toArray 60)).cell? ⟨b, off + k, none⟩ = some (.int .u8 (c : Int)) := by rw [World.cell?_alloc_lt _ _ _ (World.block_lt_of_cell? _ _ hc3)]; exact hc3
          have d3 : (k : Int) < f.length := by omega
          by_cases h255 : c = 255
          · have HFT : Hid (fateAt f k = 256) := Lib.hid (by unfold fateAt; rw [hcd, if_pos h255])
            subst h255
            clear hcd hc1 hc3
            go_wp2_with (first
              | (refine wpList_load_is (op := ⟨some 29, _, _, _, _, _⟩) rfl 60 _ rfl _ _ rfl HL.out ?_)
              | (refine wpList_store_is (op := ⟨none, .store 60 _ _, _, _, _, _⟩) rfl 60 _ _ rfl _ _ rfl rfl _ HS.out ?_))
            refine name_world ?_
            intro W hW
            have km : W.heap[wr.heap.size]? = some (.cells (wrV p).toArray 60 (0, 0)) := by rw [hW]; exact heap_new1 _ _
            have hbW : Below wr.heap.size wr W := by rw [hW]; exact below1 _ _
            have hDW := hD.keep hbW.size (fun k hk => hbW.block k (hD.lt k hk))
            clear hW
            have hm0 : W.cell? ⟨wr.heap.size, 0, none⟩ = some (.int .i64 (p.1 : Int)) := range_new km 0 0 _ (by unfold wrV; rfl)
            have hm1 : W.rangeAt wr.heap.size 1 (byteVals p.2) := by have := range_new km 1; unfold wrV at this; exact this
            have hg0 := blk_cell hDW.hd 0 _ rfl
            have hg1 : W.cell? ⟨g, 0, none⟩ = some (.slice ad s.bl.length cb) := by rw [hg0]; unfold Dk.half; rw [hlen]; rfl
            obtain ⟨kb, ead, hxb, hbl⟩ := hDW.bl.resolve_left (by intro e; have := hp1; have e2 : (fated f 0 s.bl (s.op.take k)) = [] := e; rw [← hlen, e2] at this; simp at this)
            subst ead
            have hbl2 := hbl
            unfold BlAt at hbl2
            obtain ⟨⟨C2, hC2⟩, hbl3⟩ := hbl2
            obtain ⟨ob, hob⟩ : ∃ b, (fated f 0 s.bl (s.op.take k))[p.1]? = some b := ⟨_, List.getElem?_eq_getElem (by rw [hlen]; exact hp1)⟩
            have hobok : okB ob := hDW.ok.blk ob (List.mem_of_getElem? hob)
            have hpl : p.2.length = 256 := by unfold okB at hp2; exact hp2.1
            have hnn : 256 ≤ 256 := by omega
            have hth : W.there kb (p.1 * 256) (byteVals (p.2.take (256))).length := by
              have h0 := there_of_range hC2 (hbl3 p.1 ob hob)
              rw [byteVals_length] at h0
              unfold okB at hobok
              rw [hobok.1] at h0
              intro j hj
              rw [byteVals_length, List.length_take] at hj
              exact h0 j (by omega)
            have HTH := Lib.hid ((World.there_drew _ _ _ _).2 hth)
            have HSR := Lib.hid (SrcAt.range (c := 256) ((World.rangeAt_drew _ _ _ _).2 hm1) (256))
            have HCL : Hid ((byteVals (p.2.take (256))).length = Nat.min 256 (256)) := Lib.hid (by rw [byteVals_length, List.length_take, hpl]; try exact Nat.min_comm _ _)
            have j1 : (p.1 : Int) < s.bl.length := by omega
            have j2 : (0 : Int) ≤ p.1 := by omega
            have HOB := Lib.hid hob
            have HOK := Lib.hid hobok
            have HPL := Lib.hid hpl
            clear hm1 hth hob hobok hbl hbl3 hpl hg0
            refine wp_region_still_tail 11 (by kernel_rfl) (by kernel_rfl) ?_
            simp only [List.take_succ_cons, List.take_zero, List.drop_succ_cons, List.drop_zero]
            repeat
              (with_reducible apply wpStill_step
               intro K hK
               first
                 | (go_simp; refine hK _ ?_; clear hK K))
            refine wpStill_nil ?_
            refine wpList_copy_src (o := ⟨some 52, _, _, _, _, _⟩) rfl _ _ 29 29 rfl 5 Try.underlying29 info_u8 kb (p.1 * 256) (256) 256 (some ⟨wr.heap.size, 1, none⟩) 256 256 rfl rfl (byteVals (p.2.take (256))) (HCL.out) (HSR.out) (HTH.out) ?_
            refine name_worldL ?_
            intro W3 hW3
            have hdw : DkAt W.drew X g (s.half f k) (some ⟨kb, 0, none⟩) cb (.slice (some ⟨q, 0, none⟩) s.op.length cap) none := hDW.keep (Nat.le_refl _) (fun k _ => rfl)
            obtain ⟨hP1, hP2, hP3⟩ := hdw.put (i := p.1) (old := ob) (nb := tornAt (256) p.2 ob) (l := p.2.take (256)) HOB.out (tornAt_ok hp2 HOK.out hnn) (by rw [List.length_take]; omega) (fun j hj => tornAt_lo j hj) (fun j h1 _ => tornAt_hi HPL.out hnn j h1)
            have hB3 := ((hB.trans (Bar.of_below hbW)).drew).only hP2 (fun _ => hP3)
            have hW4 : W3 = W.drew.setCells kb (p.1 * 256) (byteVals (p.2.take (256))) := hW3
            rw [← hW4] at hP1 hB3
            have hP4 : DkAt W3 X g (s.half f (k + 1)) (some ⟨kb, 0, none⟩) cb (.slice (some ⟨q, 0, none⟩) s.op.length cap) none := by
              have e9 := fated_step (f := f) hp HOB.out
              rw [HFT.out] at e9
              unfold Dk.half at hP1 ⊢
              rw [e9]
              exact hP1
            clear hW3 hW4 hP1 hP2 hP3 hdw hDW hD hB km hm0 hg1 hC2 HTH HSR HCL
            go_wp2_with fail
            go_roundw
            case rel => exact ⟨k + 1, by omega, by go_num, hP4, hB3⟩
            case measure => simp [intOf]; omega
          · have HFT : Hid (fateAt f k = c) := Lib.hid (by unfold fateAt; rw [hcd, if_neg h255])
            have d4 : ((c : Int) == 255) = false := by simp; omega
            have d5 : (c : Int) ≤ 256 := by omega
            have d6 : (0 : Int) ≤ c := by omega
            clear hcd hc1 hc3 h255
            go_wp2_with (first
              | (refine wpList_load_is (op := ⟨some 29, _, _, _, _, _⟩) rfl 60 _ rfl _ _ rfl HL.out ?_)
              | (refine wpList_store_is (op := ⟨none, .store 60 _ _, _, _, _, _⟩) rfl 60 _ _ rfl _ _ rfl rfl _ HS.out ?_))
            refine name_world ?_
            intro W hW
            have km : W.heap[wr.heap.size]? = some (.cells (wrV p).toArray 60 (0, 0)) := by rw [hW]; exact heap_new1 _ _
            have hbW : Below wr.heap.size wr W := by rw [hW]; exact below1 _ _
            have hDW := hD.keep hbW.size (fun k hk => hbW.block k (hD.lt k hk))
            clear hW
            have hm0 : W.cell? ⟨wr.heap.size, 0, none⟩ = some (.int .i64 (p.1 : Int)) := range_new km 0 0 _ (by unfold wrV; rfl)
            have hm1 : W.rangeAt wr.heap.size 1 (byteVals p.2) := by have := range_new km 1; unfold wrV at this; exact this
            have hg0 := blk_cell hDW.hd 0 _ rfl
            have hg1 : W.cell? ⟨g, 0, none⟩ = some (.slice ad s.bl.length cb) := by rw [hg0]; unfold Dk.half; rw [hlen]; rfl
            obtain ⟨kb, ead, hxb, hbl⟩ := hDW.bl.resolve_left (by intro e; have := hp1; have e2 : (fated f 0 s.bl (s.op.take k)) = [] := e; rw [← hlen, e2] at this; simp at this)
            subst ead
            have hbl2 := hbl
            unfold BlAt at hbl2
            obtain ⟨⟨C2, hC2⟩, hbl3⟩ := hbl2
            obtain ⟨ob, hob⟩ : ∃ b, (fated f 0 s.bl (s.op.take k))[p.1]? = some b := ⟨_, List.getElem?_eq_getElem (by rw [hlen]; exact hp1)⟩
            have hobok : okB ob := hDW.ok.blk ob (List.mem_of_getElem? hob)
            have hpl : p.2.length = 256 := by unfold okB at hp2; exact hp2.1
            have hnn : c ≤ 256 := by omega
            have hth : W.there kb (p.1 * 256) (byteVals (p.2.take (c))).length := by
              have h0 := there_of_range hC2 (hbl3 p.1 ob hob)
              rw [byteVals_length] at h0
              unfold okB at hobok
              rw [hobok.1] at h0
              intro j hj
              rw [byteVals_length, List.length_take] at hj
              exact h0 j (by omega)
            have HTH := Lib.hid ((World.there_drew _ _ _ _).2 hth)
            have HSR := Lib.hid (SrcAt.range (c := 256) ((World.rangeAt_drew _ _ _ _).2 hm1) (c))
            have HCL : Hid ((byteVals (p.2.take (c))).length = Nat.min 256 (c)) := Lib.hid (by rw [byteVals_length, List.length_take, hpl]; try exact Nat.min_comm _ _)
            have j1 : (p.1 : Int) < s.bl.length := by omega
            have j2 : (0 : Int) ≤ p.1 := by omega
            have HOB := Lib.hid hob
            have HOK := Lib.hid hobok
            have HPL := Lib.hid hpl
            clear hm1 hth hob hobok hbl hbl3 hpl hg0
            refine wp_region_still_tail 11 (by kernel_rfl) (by kernel_rfl) ?_
            simp only [List.take_succ_cons, List.take_zero, List.drop_succ_cons, List.drop_zero]
            repeat
              (with_reducible apply wpStill_step
               intro K hK
               first
                 | (go_simp; refine hK _ ?_; clear hK K))
            refine wpStill_nil ?_
            refine wpList_copy_src (o := ⟨some 52, _, _, _, _, _⟩) rfl _ _ 29 29 rfl 5 Try.underlying29 info_u8 kb (p.1 * 256) (c) 256 (some ⟨wr.heap.size, 1, none⟩) 256 256 rfl rfl (byteVals (p.2.take (c))) (HCL.out) (HSR.out) (HTH.out) ?_
            refine name_worldL ?_
            intro W3 hW3
            have hdw : DkAt W.drew X g (s.half f k) (some ⟨kb, 0, none⟩) cb (.slice (some ⟨q, 0, none⟩) s.op.length cap) none := hDW.keep (Nat.le_refl _) (fun k _ => rfl)
            obtain ⟨hP1, hP2, hP3⟩ := hdw.put (i := p.1) (old := ob) (nb := tornAt (c) p.2 ob) (l := p.2.take (c)) HOB.out (tornAt_ok hp2 HOK.out hnn) (by rw [List.length_take]; omega) (fun j hj => tornAt_lo j hj) (fun j h1 _ => tornAt_hi HPL.out hnn j h1)
            have hB3 := ((hB.trans (Bar.of_below hbW)).drew).only hP2 (fun _ => hP3)
            have hW4 : W3 = W.drew.setCells kb (p.1 * 256) (byteVals (p.2.take (c))) := hW3
            rw [← hW4] at hP1 hB3
            have hP4 : DkAt W3 X g (s.half f (k + 1)) (some ⟨kb, 0, none⟩) cb (.slice (some ⟨q, 0, none⟩) s.op.length cap) none := by
              have e9 := fated_step (f := f) hp HOB.out
              rw [HFT.out] at e9
              unfold Dk.half at hP1 ⊢
              rw [e9]
              exact hP1
            clear hW3 hW4 hP1 hP2 hP3 hdw hDW hD hB km hm0 hg1 hC2 HTH HSR HCL
            go_wp2_with fail
            go_roundw
            case rel => exact ⟨k + 1, by omega, by go_num, hP4, hB3⟩
            case measure => simp [intOf]; omega
        · have HFT : Hid (fateAt f k = 0) := Lib.hid (by
            have : f.getD k 0 = 0 := by rw [List.getD_eq_getElem?_getD, List.getElem?_eq_none (by omega)]; rfl
            unfold fateAt
            rw [this]
            rfl)
          have d3 : ¬ (k : Int) < f.length := by omega
          clear hfl2
          go_wp2_with (first
            | (refine wpList_load_is (op := ⟨some 29, _, _, _, _, _⟩) rfl 60 _ rfl _ _ rfl HL.out ?_)
            | (refine wpList_store_is (op := ⟨none, .store 60 _ _, _, _, _, _⟩) rfl 60 _ _ rfl _ _ rfl rfl _ HS.out ?_))
          refine name_world ?_
          intro W hW
          have km : W.heap[wr.heap.size]? = some (.cells (wrV p).toArray 60 (0, 0)) := by rw [hW]; exact heap_new1 _ _
          have hbW : Below wr.heap.size wr W := by rw [hW]; exact below1 _ _
          have hDW := hD.keep hbW.size (fun k hk => hbW.block k (hD.lt k hk))
          clear hW
          have hm0 : W.cell? ⟨wr.heap.size, 0, none⟩ = some (.int .i64 (p.1 : Int)) := range_new km 0 0 _ (by unfold wrV; rfl)
          have hm1 : W.rangeAt wr.heap.size 1 (byteVals p.2) := by have := range_new km 1; unfold wrV at this; exact this
          have hg0 := blk_cell hDW.hd 0 _ rfl
          have hg1 : W.cell? ⟨g, 0, none⟩ = some (.slice ad s.bl.length cb) := by rw [hg0]; unfold Dk.half; rw [hlen]; rfl
          obtain ⟨kb, ead, hxb, hbl⟩ := hDW.bl.resolve_left (by intro e; have := hp1; have e2 : (fated f 0 s.bl (s.op.take k)) = [] := e; rw [← hlen, e2] at this; simp at this)
          subst ead
          have hbl2 := hbl
          unfold BlAt at hbl2
          obtain ⟨⟨C2, hC2⟩, hbl3⟩ := hbl2
          obtain ⟨ob, hob⟩ : ∃ b, (fated f 0 s.bl (s.op.take k))[p.1]? = some b := ⟨_, List.getElem?_eq_getElem (by rw [hlen]; exact hp1)⟩
          have hobok : okB ob := hDW.ok.blk ob (List.mem_of_getElem? hob)
          have hpl : p.2.length = 256 := by unfold okB at hp2; exact hp2.1
          have hnn : 0 ≤ 256 := by omega
          have hth : W.there kb (p.1 * 256) (byteVals (p.2.take (0))).length := by
            have h0 := there_of_range hC2 (hbl3 p.1 ob hob)
            rw [byteVals_length] at h0
            unfold okB at hobok
            rw [hobok.1] at h0
            intro j hj
            rw [byteVals_length, List.length_take] at hj
            exact h0 j (by omega)
          have HTH := Lib.hid ((World.there_drew _ _ _ _).2 hth)
          have HSR := Lib.hid (SrcAt.range (c := 256) ((World.rangeAt_drew _ _ _ _).2 hm1) (0))
          have HCL : Hid ((byteVals (p.2.take (0))).length = Nat.min 256 (0)) := Lib.hid (by rw [byteVals_length, List.length_take, hpl]; try exact Nat.min_comm _ _)
          have j1 : (p.1 : Int) < s.bl.length := by omega
          have j2 : (0 : Int) ≤ p.1 := by omega
          have HOB := Lib.hid hob
          have HOK := Lib.hid hobok
          have HPL := Lib.hid hpl
          clear hm1 hth hob hobok hbl hbl3 hpl hg0
          refine wp_region_still_tail 11 (by kernel_rfl) (by kernel_rfl) ?_
          simp only [List.take_succ_cons, List.take_zero, List.drop_succ_cons, List.drop_zero]
          repeat
            (with_reducible apply wpStill_step
             intro K hK
             first
               | (go_simp; refine hK _ ?_; clear hK K))
          refine wpStill_nil ?_
          refine wpList_copy_src (o := ⟨some 52, _, _, _, _, _⟩) rfl _ _ 29 29 rfl 5 Try.underlying29 info_u8 kb (p.1 * 256) (0) 256 (some ⟨wr.heap.size, 1, none⟩) 256 256 rfl rfl (byteVals (p.2.take (0))) (HCL.out) (HSR.out) (HTH.out) ?_
          refine name_worldL ?_
          intro W3 hW3
          have hdw : DkAt W.drew X g (s.half f k) (some ⟨kb, 0, none⟩) cb (.slice (some ⟨q, 0, none⟩) s.op.length cap) none := hDW.keep (Nat.le_refl _) (fun k _ => rfl)
          obtain ⟨hP1, hP2, hP3⟩ := hdw.put (i := p.1) (old := ob) (nb := tornAt (0) p.2 ob) (l := p.2.take (0)) HOB.out (tornAt_ok hp2 HOK.out hnn) (by rw [List.length_take]; omega) (fun j hj => tornAt_lo j hj) (fun j h1 _ => tornAt_hi HPL.out hnn j h1)
          have hB3 := ((hB.trans (Bar.of_below hbW)).drew).only hP2 (fun _ => hP3)
          have hW4 : W3 = W.drew.setCells kb (p.1 * 256) (byteVals (p.2.take (0))) := hW3
          rw [← hW4] at hP1 hB3
          have hP4 : DkAt W3 X g (s.half f (k + 1)) (some ⟨kb, 0, none⟩) cb (.slice (some ⟨q, 0, none⟩) s.op.length cap) none := by
            have e9 := fated_step (f := f) hp HOB.out
            rw [HFT.out] at e9
            unfold Dk.half at hP1 ⊢
            rw [e9]
            exact hP1
          clear hW3 hW4 hP1 hP2 hP3 hdw hDW hD hB km hm0 hg1 hC2 HTH HSR HCL
          go_wp2_with fail
          go_roundw
          case rel => exact ⟨k + 1, by omega, by go_num, hP4, hB3⟩
          case measure => simp [intOf]; omega
      · obtain rfl : k = n := by omega
        have hc := hD.clear
        have h1 := blk_cell hD.hd 1 _ rfl
        have hfr := blk_free hD.hd
        have xg := HXG.out
        have HC := Lib.hid hc
        clear hc hD
        go_wp2_with fail
        go_end0
        have h9 := HC.out.1
        unfold Dk.half at h9
        rw [HN.out, List.take_length] at h9
        exact ⟨rfl, ⟨ad, cb, .slice none 0 0, none, h9⟩, hB.only HC.out.2 (fun _ => xg)⟩
end Go.Proofs.Ytncijclhfndniaa
