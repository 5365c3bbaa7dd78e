/-
  Chapter 14: the document's Read, On.
-/
import Derived.Test.YtncijclhfndniaaDiskT
import Derived.Laws.Concat
namespace Go.Proofs.Ytncijclhfndniaa
open Go.RowKit
attribute [local irreducible] byteVals okB zeros pad strOf padTo strVals rwVs Dk.ask Dk.count Dk.goes puts Dk.rd Dk.at lastOf fated fateAt
theorem str_nil' : (⟨#[]⟩ : ByteArray) = strOf [] := str_nil
set_option maxHeartbeats 4000000 in
theorem rread_any (s : Dk) (Y : Nat → Prop) (r : Nat) (i : Int) (w : World) (h : RAt w Y r s) : Calls Try.prog 34 #[.pointer (some ⟨r, 0, none⟩), .int .i64 i] w fun e w' => e = .returned (.tuple #[.string (strOf (s.rd i)), .int .i64 (s.ask i)]) ∧ w = w' := by
  have H := Lib.hid h
  by_cases ha : s.ask i = 0
  · obtain ⟨m, rfl, hms⟩ : ∃ m : Nat, i = (m : Int) ∧ m < s.bl.length := by
      unfold Dk.ask at ha
      split at ha
      · cases ha
      · split at ha
        · cases ha
        · exact ⟨i.toNat, by omega, by omega⟩
    have e1 : s.rd m = s.at m := by unfold Dk.rd; rw [if_pos ha]; rfl
    obtain ⟨vb, vo, inn, hK⟩ := h
    obtain ⟨ab, cb, hvb⟩ := own_slice hK.bl
    obtain ⟨ao, co, hvo⟩ := own_slice hK.op
    subst hvb hvo
    have x0 := blk_cell hK.hd 0 _ rfl
    have x1 := blk_cell hK.hd 1 _ rfl
    obtain ⟨qb, rfl, z3, _⟩ := own_cell hK.bl (strVals_get s.bl m hms)
    have hNm : s.op.length ≤ maxLen := by
      rcases hK.op.2 with ⟨_, h0⟩ | ⟨g, cap, cur, ev, hg, hheap, hncap, hcm, hsz, htake⟩
      · rw [h0]; exact Nat.zero_le _
      · exact Nat.le_trans hncap hcm
    obtain ⟨N, hN⟩ : ∃ N, N = s.op.length := ⟨_, rfl⟩
    have hNm2 : (N : Int) ≤ 9223372036854775807 := by rw [hN]; unfold maxLen at hNm; omega
    have hop := hK.op
    have hbm : s.bl[m]? = some (getL s.bl m) := by
      unfold getL
      rw [List.getD_eq_getElem?_getD, List.getElem?_eq_getElem hms]; rfl
    rw [← hN] at x1 hop
    rw [ha, e1]
    have d3 : (m : Int) < s.bl.length := by omega
    have d4 : (0 : Int) ≤ m := by omega
    have HN := Lib.hid hN
    have HA := Lib.hid ha
    have HOP := Lib.hid hop
    have HBM := Lib.hid hbm
    have HNIL : Hid ((s.op.drop N).reverse = []) := Lib.hid (by rw [hN, List.drop_length]; rfl)
    clear hK hNm hN ha hop hbm e1 hms
    go_enter Try.func34, Try.ntmps34
    go_wp2_with fail
    refine (rasked_any s Y r m w H.out).mono ?_
    rintro e w1 ⟨rfl, rfl⟩
    rw [HA.out]
    go_wp2_with fail
    go_loop [7] (fun u => ∃ k : Nat, k ≤ N ∧ u = prevI k ∧ Hid (∀ p ∈ (s.op.drop k).reverse, p.1 ≠ m)) (fun u => (intOf u + 1).toNat)
    case atStart => exact ⟨N, Nat.le_refl _, prevI_eq N, Lib.hid (by rw [HNIL.out]; simp)⟩
    case round =>
      obtain ⟨k, hk, rfl, hall⟩ := hrel
      rcases k with _ | j
      · unfold prevI
        have e9 : s.at m = getL s.bl m := at_none (ys := s.op.reverse) rfl (by have := hall.out; rw [List.drop_zero] at this; exact this) HBM.out
        have E9 := Lib.hid e9
        clear e9
        go_wp2_with fail
        go_ret2
        exact ⟨by rw [E9.out]; rfl, rfl⟩
      · unfold prevI
        obtain ⟨p, hp⟩ : ∃ p, s.op[j]? = some p := ⟨_, List.getElem?_eq_getElem (by have := HN.out; omega)⟩
        obtain ⟨y1, y2⟩ := rwVs_at s.op j p hp
        obtain ⟨qo, rfl, z1, _⟩ := own_cell HOP.out y1
        obtain ⟨qo', e9, z2, _⟩ := own_cell HOP.out y2
        cases e9
        have d1 : (j : Int) < N := by omega
        have d2 : (0 : Int) ≤ j := by omega
        by_cases hpm : p.1 = m
        · have e9 : s.at m = p.2 := at_some (drop_rev hp).symm hall.out hpm
          have E9 := Lib.hid e9
          have q1 : ((p.1 : Int) == (m : Int)) = true := by rw [hpm]; simp
          clear e9 y1 y2 hp hpm
          go_wp2_with fail
          go_ret2
          exact ⟨by rw [E9.out]; rfl, rfl⟩
        · have q1 : ((p.1 : Int) == (m : Int)) = false := by simp; omega
          have HP := Lib.hid hp
          have HPM := Lib.hid hpm
          clear y1 y2 hp hpm
          go_wp2_with fail
          go_round
          case rel => exact ⟨j, by omega, prevI_eq j, Lib.hid (by
            rw [drop_rev HP.out]
            intro q hq
            rcases List.mem_append.1 hq with hq | hq
            · exact hall.out q hq
            · have : q = p := by simpa using hq
              rw [this]; exact HPM.out)⟩
          case measure => simp [intOf]
  · have e1 : s.rd i = [] := by unfold Dk.rd; rw [if_neg ha]
    have d1 : (s.ask i != 0) = true := by simpa using ha
    have d2 : (s.ask i == 0) = false := by simpa using ha
    rw [e1, ← str_nil]
    clear h ha e1
    go_enter Try.func34, Try.ntmps34
    go_wp2_with fail
    refine (rasked_any s Y r i w H.out).mono ?_
    rintro e w1 ⟨rfl, rfl⟩
    go_wp2_with fail
    go_ret2
    exact ⟨rfl, rfl⟩
theorem tornAt_str (n : Nat) (new old : List Nat) : strOf (new.take n ++ old.drop n) = strOf (tornAt n new old) := by unfold tornAt; rfl
theorem on_rel {wr w w9 : World} {Y : Nat → Prop} {r N q : Nat} {s : Dk} {f : List Nat} {vb vo : Value} {inn : Int} {u : Value} {k : Nat} {W : World} (h1 : RkAt w9 Y r (s.half f (k + 1)) vb vo inn) (h2 : Only q W.drew w9) (h3 : Y q) (hB : Bar Y w wr) (hW : Below wr.heap.size wr W) (hk : k + 1 ≤ N) (hu : u = .int .i64 ((k + 1 : Nat) : Int)) :
    ∃ k : Nat, k ≤ N ∧ u = .int .i64 k ∧ RkAt w9 Y r (s.half f k) vb vo inn ∧ Bar Y w w9 :=
  ⟨k + 1, hk, hu, h1, ((hB.trans (Bar.of_below hW)).drew).only h2 (fun _ => h3)⟩
set_option maxRecDepth 100000 in
set_option maxHeartbeats 8000000 in
theorem ron_any (s : Dk) (Y : Nat → Prop) (r : Nat) (f : List Nat) (fa : Option Addr) (fc : Nat) (w : World) (h : RAt w Y r s) (hf : BytesAt w fa f) (hl : f.length ≤ maxLen) (hx : f ≠ [] → ∀ b o, fa = some ⟨b, o, none⟩ → ¬ Y b) :
    Calls Try.prog 37 #[.pointer (some ⟨r, 0, none⟩), .slice fa f.length fc] w fun e w' => e = .returned (.tuple #[]) ∧ RAt w' Y r (s.on f) ∧ Bar Y w w' := by
  obtain ⟨vb, vo, inn, h⟩ := h
  obtain ⟨ab, cb, hvb⟩ := own_slice h.bl
  obtain ⟨ao, co, hvo⟩ := own_slice h.op
  subst hvb hvo
  have h3 := blk_cell h.hd 3 _ rfl
  have h5 := blk_cell h.hd 5 _ rfl
  have hfr := blk_free h.hd
  have xr := h.xr
  have ho1 := only1' w r 3 (.bool false)
  cases hof : s.off with
  | false =>
    have e : s.on f = { s with ar := none } := by unfold Dk.on; rw [if_neg (by rw [hof]; decide)]
    rw [e]
    clear e
    have k1 := h.store (s' := { s with ar := none }) (inn' := inn) ho1 (blk_set h.hd 3 _) rfl rfl (fun n h => by simp at h) (fun n h => by simp at h)
    have K1 := Lib.hid k1
    have O1 := Lib.hid ho1
    rw [hof] at h5
    clear k1 ho1 h hf hl hx hof
    go_enter Try.func37, Try.ntmps37
    go_wp2_with fail
    refine bodyPost_ret (results_none rfl _ _ _) rfl ?_
    exact ⟨rfl, ⟨_, _, _, K1.out⟩, (Bar.refl Y w).only O1.out (fun _ => xr)⟩
  | true =>
    have ho2 : Only r w ((w.setCell ⟨r, 3, none⟩ (.bool false)).setCell ⟨r, 5, none⟩ (.bool false)) := ho1.setCell (p := ⟨r, 5, none⟩) rfl _
    have e : s.on f = { s with bl := fated f 0 s.bl s.op, op := [], ar := none, off := false } := by unfold Dk.on; rw [if_pos hof]
    have k1 := h.store (s' := { s with ar := none, off := false }) (inn' := inn) ho2 (blk_set (blk_set h.hd 3 _) 5 _) rfl rfl (fun n h => by simp at h) (fun n h => by simp at h)
    have hmx : s.op.length ≤ maxLen := by
      rcases h.op.2 with ⟨e, h0⟩ | ⟨q, c2, cur, e, hg, hheap, hncap, hcm, hsz, htake⟩
      · rw [h0]; exact Nat.zero_le _
      · exact Nat.le_trans hncap hcm
    obtain ⟨N, hN⟩ : ∃ N, N = s.op.length := ⟨_, rfl⟩
    obtain ⟨M, hM⟩ : ∃ M, M = s.bl.length := ⟨_, rfl⟩
    have h0 : RkAt ((w.setCell ⟨r, 3, none⟩ (.bool false)).setCell ⟨r, 5, none⟩ (.bool false)) Y r (s.half f 0) (.slice ab M cb) (.slice ao N co) inn := by unfold Dk.half; rw [List.take_zero, fated_nil, hN, hM]; exact k1
    have hmx2 : (N : Int) ≤ 9223372036854775807 := by rw [hN]; unfold maxLen at hmx; omega
    have hB0 : Bar Y w ((w.setCell ⟨r, 3, none⟩ (.bool false)).setCell ⟨r, 5, none⟩ (.bool false)) := (Bar.refl Y w).only ho2 (fun _ => xr)
    rw [e]
    rw [hof] at h5
    have HF := Lib.hid hf
    have HX := Lib.hid hx
    have HXR := Lib.hid xr
    have HB0 := Lib.hid hB0
    have H0 := Lib.hid h0
    have HN := Lib.hid hN
    have HM := Lib.hid hM
    have h1c : ((w.setCell ⟨r, 3, none⟩ (.bool false)).setCell ⟨r, 5, none⟩ (.bool false)).cell? ⟨r, 1, none⟩ = some (.slice ao N co) := blk_cell h0.hd 1 _ rfl
    have h1w : w.cell? ⟨r, 1, none⟩ = some (.slice ao N co) := by rw [hN]; exact blk_cell h.hd 1 _ rfl
    have hfl : (f.length : Int) ≤ 9223372036854775807 := by unfold maxLen at hl; omega
    clear h hof e k1 ho1 ho2 hf hx xr hB0 h0 hmx hN hM hl
    go_enter Try.func37, Try.ntmps37
    go_wp2_with fail
    clear h1c h1w h3 h5 hfr
    go_loopw [4] (fun i wr => ∃ k : Nat, k ≤ N ∧ i = .int .i64 k ∧ RkAt wr Y r (s.half f k) (.slice ab M cb) (.slice ao N co) inn ∧ Bar Y w wr) (fun i _ => N - (intOf i).toNat)
    case atStart => exact ⟨0, by omega, rfl, H0.out, HB0.out⟩
    case round =>
      obtain ⟨k, hk, rfl, hD, hB⟩ := hrel
      clear H0 HB0
      have x0 := blk_cell hD.hd 0 _ rfl
      have x1 := blk_cell hD.hd 1 _ rfl
      have xf := blk_free hD.hd
      have HK := Lib.hid hD
      by_cases hlt : k < N
      · obtain ⟨p, hp⟩ : ∃ p, s.op[k]? = some p := ⟨_, List.getElem?_eq_getElem (by have := HN.out; omega)⟩
        obtain ⟨hp1, hp2⟩ := hD.ok.opn p (List.mem_of_getElem? hp)
        have hlen : (fated f 0 s.bl (s.op.take k)).length = M := by rw [fated_length]; exact HM.out.symm
        have hp1' : p.1 < (fated f 0 s.bl (s.op.take k)).length := hp1
        rw [hlen] at hp1'
        obtain ⟨y1, y2⟩ := rwVs_at s.op k p hp
        have hop := hD.op
        have hbl := hD.bl
        rw [show (s.half f k).op.length = N from HN.out.symm] at hop
        rw [show (s.half f k).bl.length = M from hlen] at hbl
        obtain ⟨qo, rfl, z1, _⟩ := own_cell hop y1
        obtain ⟨qo', e9, z2, _⟩ := own_cell hop y2
        cases e9
        obtain ⟨old, hold⟩ : ∃ b, (fated f 0 s.bl (s.op.take k))[p.1]? = some b := ⟨_, List.getElem?_eq_getElem (by rw [hlen]; exact hp1')⟩
        have holdL : getL (fated f 0 s.bl (s.op.take k)) p.1 = old := by unfold getL; rw [List.getD_eq_getElem?_getD, hold]; rfl
        obtain ⟨qb, rfl, z3, z4, _⟩ := own_cell hbl (strVals_get (fated f 0 s.bl (s.op.take k)) p.1 (by rw [hlen]; exact hp1'))
        rw [holdL] at z3
        have hobok : okB old := hD.ok.blk old (List.mem_of_getElem? hold)
        have hol : old.length = 256 := by unfold okB at hobok; exact hobok.1
        have hpl : p.2.length = 256 := by unfold okB at hp2; exact hp2.1
        have so : (strOf old).size = 256 := by rw [strOf_size, hol]
        have sp : (strOf p.2).size = 256 := by rw [strOf_size, hpl]
        have qbl : qb < wr.heap.size := World.block_lt_of_cell? _ _ z3
        have qol : qo < wr.heap.size := World.block_lt_of_cell? _ _ z1
        have rl : r < wr.heap.size := blk_lt hD.hd
        have d1 : (k : Int) < N := by omega
        have d2 : (0 : Int) ≤ k := by omega
        have d3 : (p.1 : Int) < M := by omega
        have d4 : (0 : Int) ≤ p.1 := by omega
        have HBF := Lib.hid (BytesAt.bar hB HF.out HX.out)
        have HP := Lib.hid hp
        have HP2 := Lib.hid hp2
        have HL := Lib.hid hlen
        have HPL := Lib.hid hp1'
        have HOLD := Lib.hid hold
        have HOB := Lib.hid hobok
        have HOL := Lib.hid hol
        have HPP := Lib.hid hpl
        have HBB := Lib.hid hB
        clear hD hop hbl hp hp1 hp2 hlen hp1' y1 y2 xf hold holdL hobok hol hpl hB
        by_cases hfl2 : k < f.length
        · obtain ⟨b, off, c, rfl, hc1, hc2, hc3⟩ := NatsAt.at HBF.out.nats hfl2
          have hcd : f.getD k 0 = c := by rw [List.getD_eq_getElem?_getD, hc1]; rfl
          have d5 : (k : Int) < f.length := by omega
          have bl : b < wr.heap.size := World.block_lt_of_cell? _ _ hc3
          by_cases h255 : c = 255
          · have HFT : Hid (fateAt f k = 256) := Lib.hid (by unfold fateAt; rw [hcd, if_pos h255])
            subst h255
            clear hcd hc1
            have hnn : 256 ≤ 256 := by omega
            have s1 := strOf_take p.2 (256)
            have s2 := strOf_drop old (256) 256 HOL.out
            have s3 : ∀ w, (Op.stringOp .add (strOf (p.2.take (256))) (strOf (old.drop (256)))).run Try.prog w = .ok (.string (strOf (tornAt (256) p.2 old))) w := fun w => by
              have l1 : (p.2.take (256)).length ≤ 256 := by rw [List.length_take]; exact Nat.le_trans (Nat.min_le_left _ _) (by omega)
              have l2 : (old.drop (256)).length ≤ 256 := by rw [List.length_drop]; have := HOL.out; omega
              rw [run_string_add w _ _ (by rw [strOf_size]; omega) (by rw [strOf_size]; omega), strOf_append, tornAt_str]
            have s3b : ∀ w, (Op.stringOp .add (strOf (p.2.take 256)) ByteArray.empty).run Try.prog w = .ok (.string (strOf (tornAt 256 p.2 old))) w := fun w => by
              have s4 : ByteArray.empty = strOf (old.drop 256) := by rw [List.drop_of_length_le (by rw [HOL.out]; exact Nat.le_refl _)]; exact str_nil
              rw [s4]; exact s3 w
            go_wp2_with fail
            refine name_world ?_
            intro W hW
            have km : W.heap[wr.heap.size]? = some (.cells #[.int .i64 (p.1 : Int), .string (strOf p.2)] 75 (0, 0)) := by rw [hW]; exact heap_new1 _ _
            have hbW : Below wr.heap.size wr W := by rw [hW]; exact below1 _ _
            clear hW
            have m0 := blk_cell km 0 _ rfl
            have m1 := blk_cell km 1 _ rfl
            have n0 := cell_later hbW x0
            have n1 := cell_later hbW x1
            have n3 := cell_later hbW z3
            have n4 : W.frozen? ⟨qb, p.1, none⟩ = false := (hbW.frozen (p := ⟨qb, p.1, none⟩) qbl).trans z4
            have HBW := Lib.hid hbW
            clear km hbW x0 x1 z1 z2 z3 z4
            refine wp_region_still_tail 22 (by kernel_rfl) (by kernel_rfl) ?_
            simp only [List.take_succ_cons, List.take_zero, List.drop_succ_cons, List.drop_zero]
            repeat
              (with_reducible apply wpStill_step
               intro K hK
               first
                 | (go_simp; refine hK _ ?_; clear hK K))
            refine wpStill_nil ?_
            go_wp2_with fail
            go_roundw
            case rel =>
              have h9 := HK.out
              have hbl : M = (s.half f k).bl.length := HL.out.symm
              have hbA := HBW.out
              have hdw : RkAt W.drew Y r (s.half f k) (.slice (some ⟨qb, 0, none⟩) (s.half f k).bl.length cb) (.slice (some ⟨qo, 0, none⟩) N co) inn := by rw [← hbl]; exact (h9.keep hbA.size (fun k hk => hbA.block k (h9.lt k hk))).keep (Nat.le_refl _) (fun k _ => rfl)
              obtain ⟨hP1, hP2, hP3⟩ := hdw.put p.1 (tornAt (256) p.2 old) (tornAt_ok HP2.out HOB.out hnn)
              rw [← hbl] at hP1
              have e9 := fated_step (f := f) HP.out HOLD.out
              rw [HFT.out] at e9
              have hP4 : RkAt (W.drew.setCell ⟨qb, p.1, none⟩ (.string (strOf (tornAt (256) p.2 old)))) Y r (s.half f (k + 1)) (.slice (some ⟨qb, 0, none⟩) M cb) (.slice (some ⟨qo, 0, none⟩) N co) inn := by
                unfold Dk.half at hP1 ⊢
                rw [e9]
                exact hP1
              exact on_rel hP4 hP2 hP3 HBB.out HBW.out (by omega) (by go_num)
            case measure => simp [intOf]; omega
          · have HFT : Hid (fateAt f k = c) := Lib.hid (by unfold fateAt; rw [hcd, if_neg h255])
            have d6 : ((c : Int) == 255) = false := by simp; omega
            have d7 : (c : Int) ≤ 256 := by omega
            have d8 : (0 : Int) ≤ c := by omega
            clear hcd hc1 h255
            have hnn : c ≤ 256 := by omega
            have s1 := strOf_take p.2 (c)
            have s2 := strOf_drop old (c) 256 HOL.out
            have s3 : ∀ w, (Op.stringOp .add (strOf (p.2.take (c))) (strOf (old.drop (c)))).run Try.prog w = .ok (.string (strOf (tornAt (c) p.2 old))) w := fun w => by
              have l1 : (p.2.take (c)).length ≤ 256 := by rw [List.length_take]; exact Nat.le_trans (Nat.min_le_left _ _) (by omega)
              have l2 : (old.drop (c)).length ≤ 256 := by rw [List.length_drop]; have := HOL.out; omega
              rw [run_string_add w _ _ (by rw [strOf_size]; omega) (by rw [strOf_size]; omega), strOf_append, tornAt_str]
            go_wp2_with fail
            refine name_world ?_
            intro W hW
            have km : W.heap[wr.heap.size]? = some (.cells #[.int .i64 (p.1 : Int), .string (strOf p.2)] 75 (0, 0)) := by rw [hW]; exact heap_new1 _ _
            have hbW : Below wr.heap.size wr W := by rw [hW]; exact below1 _ _
            clear hW
            have m0 := blk_cell km 0 _ rfl
            have m1 := blk_cell km 1 _ rfl
            have n0 := cell_later hbW x0
            have n1 := cell_later hbW x1
            have n3 := cell_later hbW z3
            have n4 : W.frozen? ⟨qb, p.1, none⟩ = false := (hbW.frozen (p := ⟨qb, p.1, none⟩) qbl).trans z4
            have HBW := Lib.hid hbW
            clear km hbW x0 x1 z1 z2 z3 z4
            refine wp_region_still_tail 22 (by kernel_rfl) (by kernel_rfl) ?_
            simp only [List.take_succ_cons, List.take_zero, List.drop_succ_cons, List.drop_zero]
            repeat
              (with_reducible apply wpStill_step
               intro K hK
               first
                 | (go_simp; refine hK _ ?_; clear hK K))
            refine wpStill_nil ?_
            go_wp2_with fail
            go_roundw
            case rel =>
              have h9 := HK.out
              have hbl : M = (s.half f k).bl.length := HL.out.symm
              have hbA := HBW.out
              have hdw : RkAt W.drew Y r (s.half f k) (.slice (some ⟨qb, 0, none⟩) (s.half f k).bl.length cb) (.slice (some ⟨qo, 0, none⟩) N co) inn := by rw [← hbl]; exact (h9.keep hbA.size (fun k hk => hbA.block k (h9.lt k hk))).keep (Nat.le_refl _) (fun k _ => rfl)
              obtain ⟨hP1, hP2, hP3⟩ := hdw.put p.1 (tornAt (c) p.2 old) (tornAt_ok HP2.out HOB.out hnn)
              rw [← hbl] at hP1
              have e9 := fated_step (f := f) HP.out HOLD.out
              rw [HFT.out] at e9
              have hP4 : RkAt (W.drew.setCell ⟨qb, p.1, none⟩ (.string (strOf (tornAt (c) p.2 old)))) Y r (s.half f (k + 1)) (.slice (some ⟨qb, 0, none⟩) M cb) (.slice (some ⟨qo, 0, none⟩) N co) inn := by
                unfold Dk.half at hP1 ⊢
                rw [e9]
                exact hP1
              exact on_rel hP4 hP2 hP3 HBB.out HBW.out (by omega) (by go_num)
            case measure => simp [intOf]; omega
        · have HFT : Hid (fateAt f k = 0) := Lib.hid (by
            have : f.getD k 0 = 0 := by rw [List.getD_eq_getElem?_getD, List.getElem?_eq_none (by omega)]; rfl
            unfold fateAt
            rw [this]
            rfl)
          have d5 : ¬ (k : Int) < f.length := by omega
          clear hfl2
          have hnn : 0 ≤ 256 := by omega
          have s1 := strOf_take p.2 (0)
          have s2 := strOf_drop old (0) 256 HOL.out
          have s3 : ∀ w, (Op.stringOp .add (strOf (p.2.take (0))) (strOf (old.drop (0)))).run Try.prog w = .ok (.string (strOf (tornAt (0) p.2 old))) w := fun w => by
            have l1 : (p.2.take (0)).length ≤ 256 := by rw [List.length_take]; exact Nat.le_trans (Nat.min_le_left _ _) (by omega)
            have l2 : (old.drop (0)).length ≤ 256 := by rw [List.length_drop]; have := HOL.out; omega
            rw [run_string_add w _ _ (by rw [strOf_size]; omega) (by rw [strOf_size]; omega), strOf_append, tornAt_str]
          go_wp2_with fail
          refine name_world ?_
          intro W hW
          have km : W.heap[wr.heap.size]? = some (.cells #[.int .i64 (p.1 : Int), .string (strOf p.2)] 75 (0, 0)) := by rw [hW]; exact heap_new1 _ _
          have hbW : Below wr.heap.size wr W := by rw [hW]; exact below1 _ _
          clear hW
          have m0 := blk_cell km 0 _ rfl
          have m1 := blk_cell km 1 _ rfl
          have n0 := cell_later hbW x0
          have n1 := cell_later hbW x1
          have n3 := cell_later hbW z3
          have n4 : W.frozen? ⟨qb, p.1, none⟩ = false := (hbW.frozen (p := ⟨qb, p.1, none⟩) qbl).trans z4
          have HBW := Lib.hid hbW
          clear km hbW x0 x1 z1 z2 z3 z4
          refine wp_region_still_tail 22 (by kernel_rfl) (by kernel_rfl) ?_
          simp only [List.take_succ_cons, List.take_zero, List.drop_succ_cons, List.drop_zero]
          repeat
            (with_reducible apply wpStill_step
             intro K hK
             first
               | (go_simp; refine hK _ ?_; clear hK K))
          refine wpStill_nil ?_
          go_wp2_with fail
          go_roundw
          case rel =>
            have h9 := HK.out
            have hbl : M = (s.half f k).bl.length := HL.out.symm
            have hbA := HBW.out
            have hdw : RkAt W.drew Y r (s.half f k) (.slice (some ⟨qb, 0, none⟩) (s.half f k).bl.length cb) (.slice (some ⟨qo, 0, none⟩) N co) inn := by rw [← hbl]; exact (h9.keep hbA.size (fun k hk => hbA.block k (h9.lt k hk))).keep (Nat.le_refl _) (fun k _ => rfl)
            obtain ⟨hP1, hP2, hP3⟩ := hdw.put p.1 (tornAt (0) p.2 old) (tornAt_ok HP2.out HOB.out hnn)
            rw [← hbl] at hP1
            have e9 := fated_step (f := f) HP.out HOLD.out
            rw [HFT.out] at e9
            have hP4 : RkAt (W.drew.setCell ⟨qb, p.1, none⟩ (.string (strOf (tornAt (0) p.2 old)))) Y r (s.half f (k + 1)) (.slice (some ⟨qb, 0, none⟩) M cb) (.slice (some ⟨qo, 0, none⟩) N co) inn := by
              unfold Dk.half at hP1 ⊢
              rw [e9]
              exact hP1
            exact on_rel hP4 hP2 hP3 HBB.out HBW.out (by omega) (by go_num)
          case measure => simp [intOf]; omega
      · obtain rfl : N = k := by omega
        clear hD
        go_wp2_with fail
        go_end0
        have h9 := HK.out.clear
        unfold Dk.half at h9
        rw [HN.out, List.take_length] at h9
        refine ⟨rfl, ?_, hB.only (only1' _ _ _ _) (fun _ => HXR.out)⟩
        exact ⟨_, _, _, h9⟩
end Go.Proofs.Ytncijclhfndniaa
