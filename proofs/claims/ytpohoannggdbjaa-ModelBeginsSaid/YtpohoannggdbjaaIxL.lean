/-
 Layer 10: Step of a machine.
-/
import Derived.Test.YtpohoannggdbjaaIxLa
namespace Go.Proofs.Ytpohoannggdbjaa
open Go.RowKit
set_option maxRecDepth 100000
attribute [local irreducible] Sl.v hasBit pw withBit woBit cyL stL stV tmL freeS ndBad maySet ptL setS mayCan canS canD nedS flipB mayMov movS comG relS rouS proS tidyS comsG rousS prosS nextG outS lnOk rightK rgtS eqS Mc.tb upd mayS checkS sideN
set_option maxHeartbeats 16000000 in
theorem step_is (X : Nat → Prop) (m : Nat) (M : Mc) (s : St) (i : Inp) (ca : Option Addr) (cn cc : Nat) (l : List (Nat × Int)) (w : World) (hM : MachX X w m M) (hX : ∀ b, w.heap.size ≤ b → X b) (hT : TbOk M.tb) (hp : M.pt = pw M.li.l.length - 1) (hs : s.ok) (hi : i.ok) (hcm : i.cm = .slice ca cn cc) (hl : CmdsAt w ca l) (hln : l.length = cn) (hcc : cn ≤ cc) (hcn : cn ≤ 100000) :
 Calls Try.prog 11 #[.pointer (some ⟨m, 0, none⟩), .agg (stL s).toArray, .agg #[.int .u64 (i.oc : Int), .int .u32 (i.no : Int), .int .u32 (i.re : Int), .slice ca cn cc]] w fun e w' => e = .returned (.tuple #[.agg (stL (nextS M.tb s i.oc l)).toArray, .agg #[.int .u64 (outS M.tb (nextS M.tb s i.oc l) i.oc i.no i.re : Int), .int .u32 ((nextS M.tb s i.oc l).pt : Int)]]) ∧ Below w.heap.size w w' := by
 obtain ⟨N1, hN1⟩ : ∃ k, M.ln.l.length = k := ⟨_, rfl⟩
 have hle : N1 ≤ 64 := by have := hT.rn; rw [tb_len, hN1] at this; exact this
 have hpn := hT.pn
 rw [tb_li] at hpn
 obtain ⟨TS, hTS⟩ : ∃ t, tidyS N1 M.li.l.length s = t := ⟨_, rfl⟩
 have HTD : Hid (∀ V, Below w.heap.size w V → Calls Try.prog 17 #[.pointer (some ⟨m, 0, none⟩), .agg (stL s).toArray] V fun e w' => e = .returned (.agg (stL TS).toArray) ∧ Below V.heap.size V w') := Lib.hid (fun V hV => hTS ▸ tidy_is X m M s N1 M.li.l.length V (hM.step (WX.of_below hV)) hN1 hle hp hpn hs)
 have HTSO : Hid TS.ok := Lib.hid (hTS ▸ tidy_ok N1 M.li.l.length hs)
 have HTSE : Hid (tidyS M.tb.rw.length M.tb.li.length s = TS) := Lib.hid (by rw [tb_len, tb_li, hN1]; exact hTS)
 have HM := Lib.hid hM
 have HXX := Lib.hid hX
 have HTB := Lib.hid hT
 have HIO := Lib.hid hi
 have HCM := Lib.hid hcm
 have HL := Lib.hid hl
 have HLN := Lib.hid hln
 have HCC := Lib.hid hcc
 have HCN := Lib.hid hcn
 have HN1 := Lib.hid hN1
 have HLE := Lib.hid hle
 clear hN1 hle hpn hTS hM hX hT hp hs hi hcm hl hln hcc hcn
 go_enter Try.func11, Try.ntmps11
 go_upto_region 3 with fail
 rw [zero_st]
 refine name_last (os := [.cells (stL s).toArray 66, .cells #[.int .u64 (i.oc : Int), .int .u32 (i.no : Int), .int .u32 (i.re : Int), .slice ca cn cc] 49, .cells (stL zS).toArray 66, .cells #[.int .u64 0, .int .u32 0] 35]) (w0 := w) rfl ?_
 intro W hat hbw
 obtain ⟨g4, hg4⟩ : ∃ g, g = w.heap.size := ⟨_, rfl⟩
 obtain ⟨g5, hg5⟩ : ∃ g, g = g4 + 1 := ⟨_, rfl⟩
 obtain ⟨g6, hg6⟩ : ∃ g, g = g5 + 1 := ⟨_, rfl⟩
 obtain ⟨g7, hg7⟩ : ∃ g, g = g6 + 1 := ⟨_, rfl⟩
 have q0 := hat 0 _ rfl
 have q1 := hat 1 _ rfl
 have q2 := hat 2 _ rfl
 have q3 := hat 3 _ rfl
 rw [Nat.add_zero, ← hg4] at q0
 rw [← hg4, ← hg5] at q1
 rw [← hg4, show g4 + 2 = g6 by omega] at q2
 rw [← hg4, show g4 + 3 = g7 by omega] at q3
 rw [← hg4, ← hg5, ← hg6, ← hg7]
 have HQ4 := Lib.hid q0
 have HQ5 := Lib.hid q1
 have HQ6 := Lib.hid q2
 have HQ7 := Lib.hid q3
 have HBW := Lib.hid hbw
 have HG : Hid (w.heap.size ≤ g6 ∧ w.heap.size ≤ g7 ∧ g6 ≠ g7) := Lib.hid (by omega)
 clear hat hbw q0 q1 q2 q3 hg4 hg5 hg6 hg7
 have HTD2 : Hid (∀ V, Below W.heap.size W V → Calls Try.prog 17 #[.pointer (some ⟨m, 0, none⟩), .agg (stL s).toArray] V fun e w' => e = .returned (.agg (stL TS).toArray) ∧ Below V.heap.size V w') := Lib.hid (fun V hV => HTD.out V (below_on HBW.out hV))
 clear HTD
 have HTD := HTD2
 clear HTD2
 refine wp_region_rel (by kernel_rfl) [7] 10 [0, 1, 2, 3, 4, 5, 6] [18, 19, 20, 21, 22, 23, 24] #[true, true, true, true, true, true, true, false] 1 [(fun v _ => v = .pointer (some ⟨m, 0, none⟩)), (fun v _ => v = .pointer (some ⟨m, 0, none⟩)), (fun v _ => v = .agg (stL s).toArray), (fun v _ => v = .agg (stL TS).toArray), (fun v _ => v = .agg #[.int .u64 (i.oc : Int), .int .u32 (i.no : Int), .int .u32 (i.re : Int), .slice ca cn cc]), (fun v _ => v = .agg (cyL m TS i 0).toArray), (fun v V => ∃ g, v = .pointer (some ⟨g, 0, none⟩) ∧ V.heap[g]? = some (.cells (cyL m TS i 0).toArray 84) ∧ W.heap.size ≤ g), (fun _ _ => True)] (by kernel_rfl) (by kernel_rfl) (by kernel_rfl) (by kernel_rfl) (by kernel_rfl) rfl (by kernel_rfl) rfl ?_ ?_ ?_
 ·exact ⟨stays_is _, stays_is _, stays_is _, stays_is _, stays_is _, stays_is _, (fun v W W2 h hb => by obtain ⟨g, h1, h2, h3⟩ := h; exact ⟨g, h1, blk_keep hb h2, h3⟩), stays_true, trivial⟩
 ·refine ⟨?_, ?_, ?_, ?_, ?_, ?_, ?_, trivial⟩
  ·refine relOb_mk (o := ⟨some 18, _, _, _, _, _⟩) rfl (fun r V hc hf hg hs hb hd => ?_)
   have x0 : r (.tmp 0) = .pointer (some ⟨m, 0, none⟩) := hs 0 (by kernel_rfl)
   clear hs hd hg
   go_simp
   exact ⟨Below.refl _ _, rfl⟩
  ·refine relOb_mk (o := ⟨some 19, _, _, _, _, _⟩) rfl (fun r V hc hf hg hs hb hd => ?_)
   have x0 : r (.tmp 0) = .pointer (some ⟨m, 0, none⟩) := hs 0 (by kernel_rfl)
   clear hs hd hg
   go_simp
   exact ⟨Below.refl _ _, rfl⟩
  ·refine relOb_mk (o := ⟨some 20, _, _, _, _, _⟩) rfl (fun r V hc hf hg hs hb hd => ?_)
   have x4 : r (.tmp 4) = .pointer (some ⟨g4, 0, none⟩) := hs 4 (by kernel_rfl)
   clear hs hd hg
   exact rel_load_is (o := ⟨some 20, _, _, _, _, _⟩) 66 _ rfl _ _ x4 (load_st (blk_keep hb HQ4.out)) rfl
  ·refine relOb_mk (o := ⟨some 21, _, _, _, _, _⟩) rfl (fun r V hc hf hg hs hb hd => ?_)
   have h1 : r (.tmp 19) = .pointer (some ⟨m, 0, none⟩) := hd 1 19 rfl (by kernel_rfl)
   have h2 : r (.tmp 20) = .agg (stL s).toArray := hd 2 20 rfl (by kernel_rfl)
   clear hs hd hg
   go_simp
   refine (HTD.out V hb).mono ?_
   rintro e w' ⟨rfl, h9⟩
   exact ⟨_, rfl, h9, rfl⟩
  ·refine relOb_mk (o := ⟨some 22, _, _, _, _, _⟩) rfl (fun r V hc hf hg hs hb hd => ?_)
   have x5 : r (.tmp 5) = .pointer (some ⟨g5, 0, none⟩) := hs 5 (by kernel_rfl)
   clear hs hd hg
   have l0 := blk_cell (blk_keep hb HQ5.out) 0 _ rfl
   have l1 := blk_cell (blk_keep hb HQ5.out) 1 _ rfl
   have l2 := blk_cell (blk_keep hb HQ5.out) 2 _ rfl
   have l3 := blk_cell (blk_keep hb HQ5.out) 3 _ rfl
   go_simp
   exact ⟨Below.refl _ _, rfl⟩
  ·refine relOb_mk (o := ⟨some 23, _, _, _, _, _⟩) rfl (fun r V hc hf hg hs hb hd => ?_)
   have h0 : r (.tmp 18) = .pointer (some ⟨m, 0, none⟩) := hd 0 18 rfl (by kernel_rfl)
   have h3 : r (.tmp 21) = .agg (stL TS).toArray := hd 3 21 rfl (by kernel_rfl)
   have h4 : r (.tmp 22) = .agg #[.int .u64 (i.oc : Int), .int .u32 (i.no : Int), .int .u32 (i.re : Int), .slice ca cn cc] := hd 4 22 rfl (by kernel_rfl)
   clear hs hd hg
   refine rel_build_is (o := ⟨some 23, _, _, _, _, _⟩) 84 _ rfl _ ?_ _ (built_cy m TS i) rfl
   rw [HCM.out]
   simp only [List.map_toArray, List.map_cons, List.map_nil, h0, h3, h4]
  ·refine relOb_mk (o := ⟨some 24, _, _, _, _, _⟩) rfl (fun r V hc hf hg hs hb hd => ?_)
   have h5 : r (.tmp 23) = .agg (cyL m TS i 0).toArray := hd 5 23 rfl (by kernel_rfl)
   clear hs hd hg
   go_simp
   exact ⟨below1 V _, ⟨_, rfl, alloc1 V _ (Below.refl _ _), hb.size⟩⟩
 ·intro a V hb hx
  have h0 : a.eval (.tmp 18) = .pointer (some ⟨m, 0, none⟩) := hx 0 18 rfl rfl
  have h1 : a.eval (.tmp 19) = .pointer (some ⟨m, 0, none⟩) := hx 1 19 rfl rfl
  have h2 : a.eval (.tmp 20) = .agg (stL s).toArray := hx 2 20 rfl rfl
  have h3 : a.eval (.tmp 21) = .agg (stL TS).toArray := hx 3 21 rfl rfl
  have h4 : a.eval (.tmp 22) = .agg #[.int .u64 (i.oc : Int), .int .u32 (i.no : Int), .int .u32 (i.re : Int), .slice ca cn cc] := hx 4 22 rfl rfl
  have h5 : a.eval (.tmp 23) = .agg (cyL m TS i 0).toArray := hx 5 23 rfl rfl
  have h6 : (fun v V => ∃ g, v = .pointer (some ⟨g, 0, none⟩) ∧ V.heap[g]? = some (.cells (cyL m TS i 0).toArray 84) ∧ W.heap.size ≤ g) (a.eval (.tmp 24)) V := hx 6 24 rfl rfl
  obtain ⟨v24, e24⟩ : ∃ v, a.eval (.tmp 24) = v := ⟨_, rfl⟩
  rw [e24] at h6
  unfold fillAll
  simp only [List.foldl_cons, List.foldl_nil, h0, h1, h2, h3, h4, h5, e24, Act.put, List.setIfInBounds_toArray, List.set_cons_zero, List.set_cons_succ]
  clear h0 h1 h2 h3 h4 h5 e24 hx
  obtain ⟨g, rfl, hqc, hgc⟩ := h6
  have hc0 : Cy V g m M TS i 0 := ⟨(HM.out.step (WX.of_below (X := X) (below_on HBW.out hb))).weak (fun b hb1 hb2 => HXX.out b (by have := HG.out; have h2 := HBW.out.size; have h3 := hb.size; omega)), HTB.out, hqc, HTSO.out, HIO.out, by decide⟩
  have HC0 := Lib.hid hc0
  have HBA := Lib.hid (below_on HBW.out hb)
  have HGC : Hid (g6 < g ∧ g7 < g ∧ g5 < g ∧ w.heap.size ≤ g ∧ g < V.heap.size) := Lib.hid (by have h1 := blk_lt HQ5.out; have h2 := blk_lt HQ6.out; have h3 := blk_lt HQ7.out; have h4 := HBW.out.size; have h5 := blk_lt hqc; omega)
  have HQ6V := Lib.hid (blk_keep hb HQ6.out)
  have HQ7V := Lib.hid (blk_keep hb HQ7.out)
  have HQ5V := Lib.hid (blk_keep hb HQ5.out)
  clear hb hqc hgc hc0
  refine wpAny_ready (rs := [7]) (by kernel_rfl) (by simp) (AllReady.cons (o := ⟨some 8, _, _, _, _, _⟩) rfl (fun K hK => ?_) AllReady.nil)
  go_simp
  refine hK _ _ ?_
  clear hK K
  refine wpAny_done (by kernel_rfl) ?_ _
  obtain ⟨VA, hVA⟩ : ∃ W', W' = V := ⟨_, rfl⟩
  rw [← hVA] at HC0 HBA HGC HQ6V HQ7V HQ5V ⊢
  clear hVA
  have c2 := blk_cell HC0.out.blk 2 _ (cy_2 _ _ _ _)
  have c0 := blk_cell HC0.out.blk 73 _ (cy_us _ _ _ _)
  have f0 := blk_free HC0.out.blk 73
  have hl := blk_lt HC0.out.blk
  go_upto_region 5 with fail
  clear c0 c2 f0 hl
  refine name_any ?_
  intro VZ hVZ
  have hput := HC0.out.putU TS.us HTSO.out.us
  rw [← hVZ] at hput
  have HCZ := Lib.hid hput.1
  have HBZ := Lib.hid hput.2
  clear hVZ hput
  obtain ⟨K8, hK8⟩ : ∃ k, min cn 8 = k := ⟨_, rfl⟩
  have e8 : min (cn : Int) 8 = (K8 : Int) := by omega
  have d8 : (0 : Int) ≤ K8 := by omega
  have d9 : (K8 : Int) ≤ cc := by have := HCC.out; omega
  have HK8 : Hid ((l.take 8).length = K8 ∧ K8 ≤ 8 ∧ K8 ≤ cn) := Lib.hid ⟨by rw [List.length_take, HLN.out]; omega, by omega, by omega⟩
  have l3 := blk_cell (keep_g HBZ.out HGC.out.2.2.1 HQ5V.out) 3 _ rfl
  clear hK8
  go_upto_region 6 with fail
  clear l3 e8 d8 d9
  go_loopg [41] K8 (fun g9 v wr => ∃ k : Nat, k + g9 = K8 ∧ v = .int .i64 (k : Int) ∧ Cy wr g m M (comsG canS M.tb i.oc ((l.take 8).take k) TS) i TS.us ∧ Below g VA wr)
  case atStart => exact ⟨0, by omega, rfl, by rw [coms_zero]; exact HCZ.out, HBZ.out⟩
  case round =>
   obtain ⟨k, hk, rfl, hcy, hbw⟩ := hrel
   have HK := Lib.hid hk
   have HB := Lib.hid hbw
   have HCR := Lib.hid hcy
   clear hk hbw hcy HCZ HBZ
   by_cases hlt : k < K8
   ·have d1 : (0 : Int) ≤ k := by omega
    have d2 : (k : Int) < K8 := by omega
    have e1 : wrap64 ((k : Int) + 1) = (k : Int) + 1 := k_succ hlt (Nat.le_trans HK8.out.2.1 (by decide))
    have HLT := Lib.hid hlt
    obtain ⟨S, hS⟩ : ∃ S, comsG canS M.tb i.oc ((l.take 8).take k) TS = S := ⟨_, rfl⟩
    have HS := Lib.hid hS
    rw [hS] at HCR
    obtain ⟨rb, off, kd, nn, hca, hget, hkd, _, hz0, hz1⟩ := HL.out.at (i := k) (by rw [HLN.out]; have := HK8.out.2.2; omega)
    have HGET : Hid ((l.take 8)[k]? = some (kd, nn)) := Lib.hid (by rw [List.getElem?_take, if_pos (by have := HK8.out.2.1; omega)]; exact hget)
    have HKD : Hid (kd ≤ 255) := Lib.hid (by omega)
    have hbw := below_tr HBA.out (below_w HB.out HGC.out.2.2.2.1)
    have z0 := cell_later hbw hz0
    have z1 := cell_later hbw hz1
    have HCA := Lib.hid hca
    rw [hca]
    clear hS hget hkd hz0 hz1 hbw hlt hca
    go_upto_region 8 with fail
    have hbn := below1 wr (.cells #[.int .u8 (kd : Int), .int .i64 nn] 60)
    have hqn := alloc1 wr (.cells #[.int .u8 (kd : Int), .int .i64 nn] 60) (Below.refl _ _)
    obtain ⟨VN, hVN⟩ : ∃ V, V = wr.alloc (.cells #[.int .u8 (kd : Int), .int .i64 nn] 60) := ⟨_, rfl⟩
    rw [← hVN] at hbn hqn ⊢
    obtain ⟨gx, hgx⟩ : ∃ g, g = wr.heap.size := ⟨_, rfl⟩
    rw [← hgx] at hqn ⊢
    have HCN := Lib.hid (HCR.out.below hbn)
    have HBN := Lib.hid (below_tr HB.out (below_g hbn HCR.out.gle))
    have c0 := blk_cell hqn 0 _ rfl
    have c1 := blk_cell hqn 1 _ rfl
    clear hbn hqn hVN hgx z0 z1
    go_wp2_with fail
    refine (command_is g m TS.us M S i VN HCN.out kd HKD.out nn).mono ?_
    rintro e w5 ⟨rfl, hc, hb⟩
    have HC5 := Lib.hid hc
    have HB5 := Lib.hid (below_tr HBN.out hb)
    clear hc hb c0 c1
    go_wp2_with fail
    rw [← HCA.out]
    go_roundg (K8 - (k + 1))
    case rel => exact ⟨k + 1, k_next HK.out HLT.out, by go_num, by rw [coms_succ HGET.out, HS.out]; exact HC5.out, HB5.out⟩
    case measure => exact k_less HK.out HLT.out
   ·have d2 : ¬ (k : Int) < K8 := by omega
    obtain ⟨S1, hS1⟩ : ∃ S, comsG canS M.tb i.oc (l.take 8) TS = S := ⟨_, rfl⟩
    have HS1 := Lib.hid hS1
    have HC1 : Hid (Cy wr g m M S1 i TS.us) := Lib.hid (by rw [← hS1]; have h := HCR.out; rw [List.take_of_length_le (by have := HK.out; have := HK8.out.1; omega)] at h; exact h)
    obtain ⟨VB, hVB⟩ : ∃ W', W' = wr := ⟨_, rfl⟩
    rw [← hVB] at HC1 HB ⊢
    have cm0 := blk_cell HC1.out.mach.blk 0 _ rfl
    rw [slv HN1.out] at cm0
    clear hlt hS1 HCR hVB
    go_upto_region 11 with fail
    clear cm0 d2
    go_loopg [54] N1 (fun g9 v wr => ∃ k : Nat, k + g9 = N1 ∧ v = .int .i64 (k : Int) ∧ Cy wr g m M (rousS M.tb i.oc TS.us S1 k) i TS.us ∧ Below g VA wr)
    case atStart => exact ⟨0, by omega, rfl, by rw [rous_zero]; exact HC1.out, HB.out⟩
    case round =>
     obtain ⟨k2, hk, rfl, hcy, hbw⟩ := hrel
     have HK := Lib.hid hk
     have HB := Lib.hid hbw
     have HCR := Lib.hid hcy
     clear hk hbw hcy HC1
     by_cases hlt : k2 < N1
     ·have d1 : (0 : Int) ≤ k2 := by omega
      have d2 : (k2 : Int) < N1 := by omega
      have e1 := k_succ hlt (Nat.le_trans HLE.out (by decide))
      have HLT := Lib.hid hlt
      have HK63 : Hid (k2 ≤ 63) := Lib.hid (by have := HLE.out; omega)
      obtain ⟨S, hS⟩ : ∃ S, rousS M.tb i.oc TS.us S1 k2 = S := ⟨_, rfl⟩
      rw [hS] at HCR
      obtain ⟨x, hx⟩ : ∃ x, M.ln.l[k2]? = some x := ⟨_, List.getElem?_eq_getElem (by rw [HN1.out]; exact hlt)⟩
      obtain ⟨bl, hbl⟩ : ∃ b, hasBit S.lk k2 = b := ⟨_, rfl⟩
      have HX := Lib.hid hx
      have HS := Lib.hid hS
      have HBL := Lib.hid hbl
      clear hS hx hlt hbl
      go_wp2_with fail
      refine (locked_is bl g m TS.us M S i wr HCR.out k2 HK63.out HBL.out).mono ?_
      rintro e w5 ⟨rfl, hb⟩
      have HC5 := Lib.hid (HCR.out.below hb)
      have HB5 := Lib.hid (below_tr HB.out (below_g hb HCR.out.gle))
      clear hb
      cases bl with
      | false =>
        go_wp2_with fail
        go_roundg (N1 - (k2 + 1))
        case rel => exact ⟨k2 + 1, k_next HK.out HLT.out, by go_num, by rw [rous_no (by rw [HS.out]; exact HBL.out), HS.out]; exact HC5.out, HB5.out⟩
        case measure => exact k_less HK.out HLT.out
      | true =>
        go_wp2_with fail
        refine (route_is g m TS.us M S i w5 HC5.out k2 x HX.out).mono ?_
        rintro e w6 ⟨rfl, hc, hb⟩
        have HC6 := Lib.hid hc
        have HB6 := Lib.hid (below_tr HB5.out hb)
        clear hc hb
        go_wp2_with fail
        go_roundg (N1 - (k2 + 1))
        case rel => exact ⟨k2 + 1, k_next HK.out HLT.out, by go_num, by rw [rous_yes (by rw [HS.out]; exact HBL.out) (tb_at HX.out), HS.out]; exact HC6.out, HB6.out⟩
        case measure => exact k_less HK.out HLT.out
     ·have d2 : ¬ (k2 : Int) < N1 := by omega
      obtain ⟨S2, hS2⟩ : ∃ S, rousS M.tb i.oc TS.us S1 N1 = S := ⟨_, rfl⟩
      have HC2 : Hid (Cy wr g m M S2 i TS.us) := Lib.hid (by rw [← hS2, show N1 = k2 by have := HK.out; omega]; exact HCR.out)
      have HNX : Hid (nextS M.tb s i.oc l = S2) := Lib.hid (by rw [next_is, HTSE.out, HS1.out, tb_len, HN1.out]; exact hS2)
      have c68 := blk_cell HC2.out.blk 68 _ (cy_pt _ _ _ _)
      clear hlt hS2 HCR
      go_upto_region 17 with fail
      have hbn := below1 wr (.cells #[.int .u64 0, .int .u32 (S2.pt : Int)] 35)
      have hqn := alloc1 wr (.cells #[.int .u64 0, .int .u32 (S2.pt : Int)] 35) (Below.refl _ _)
      obtain ⟨VO, hVO⟩ : ∃ V, V = wr.alloc (.cells #[.int .u64 0, .int .u32 (S2.pt : Int)] 35) := ⟨_, rfl⟩
      rw [← hVO] at hbn hqn ⊢
      obtain ⟨g12, hg12⟩ : ∃ g, g = wr.heap.size := ⟨_, rfl⟩
      rw [← hg12] at hqn ⊢
      have HC3 := Lib.hid (HC2.out.below hbn)
      have HBO := Lib.hid (below_tr HB.out (below_g hbn HC2.out.gle))
      have HQO := Lib.hid hqn
      have HG12 : Hid (g < g12) := Lib.hid (by have := blk_lt HC2.out.blk; omega)
      have cm0 := blk_cell HC3.out.mach.blk 0 _ rfl
      rw [slv HN1.out] at cm0
      clear hbn hqn hVO hg12 c68 d2
      obtain ⟨SA, hSA⟩ : ∃ a, sideN i.no i.re = a := ⟨_, rfl⟩
      obtain ⟨SB, hSB⟩ : ∃ a, sideN i.re i.no = a := ⟨_, rfl⟩
      have HSA := Lib.hid hSA
      have HSB := Lib.hid hSB
      clear hSA hSB
      go_upto_region 18 with fail
      clear cm0
      go_loopg [75] N1 (fun g9 v wr => ∃ k : Nat, k + g9 = N1 ∧ v = .int .i64 (k : Int) ∧ wr.heap[g12]? = some (.cells #[.int .u64 (prosS M.tb S2 i.oc SA SB k : Int), .int .u32 (S2.pt : Int)] 35) ∧ WX (fun b => b = g12) VO wr)
      case atStart => exact ⟨0, by omega, rfl, by rw [pros_zero]; exact HQO.out, WX.refl _ _⟩
      case round =>
       obtain ⟨k3, hk, rfl, hqq, hxx⟩ := hrel
       have HK := Lib.hid hk
       have HQQ := Lib.hid hqq
       have HWX := Lib.hid hxx
       clear hk hqq hxx HQO
       have HCR := Lib.hid (HC3.out.at_ HWX.out HG12.out)
       by_cases hlt : k3 < N1
       ·have d1 : (0 : Int) ≤ k3 := by omega
        have d2 : (k3 : Int) < N1 := by omega
        have e1 := k_succ hlt (Nat.le_trans HLE.out (by decide))
        have HLT := Lib.hid hlt
        have HN63 : Hid (k3 ≤ 63) := Lib.hid (by have := HLE.out; omega)
        obtain ⟨A, hA⟩ : ∃ A, prosS M.tb S2 i.oc SA SB k3 = A := ⟨_, rfl⟩
        have HAL : Hid (A < 18446744073709551616) := Lib.hid (hA ▸ pros_lt M.tb S2 i.oc SA SB k3 (by have := HN63.out; omega))
        rw [hA] at HQQ
        obtain ⟨x, hx⟩ : ∃ x, M.ln.l[k3]? = some x := ⟨_, List.getElem?_eq_getElem (by rw [HN1.out]; exact hlt)⟩
        obtain ⟨bp, hbp⟩ : ∃ b, proS S2 i.oc SA SB k3 x.rw = b := ⟨_, rfl⟩
        have HPC : Hid (Calls Try.prog 21 #[.pointer (some ⟨g, 0, none⟩), .int .i64 (k3 : Int)] wr fun e w' => e = .returned (.bool bp) ∧ Below wr.heap.size wr w') := Lib.hid (by
         have h := proceeds_is g m TS.us M S2 i wr HCR.out k3 x hx
         rw [HSA.out, HSB.out, hbp] at h
         exact h)
        have HX := Lib.hid (tb_at hx)
        have HA := Lib.hid hA
        have HBP := Lib.hid hbp
        clear hA hx hlt hbp
        go_wp2_with fail
        refine HPC.out.mono ?_
        rintro e w5 ⟨rfl, hb⟩
        have HQ5' := Lib.hid (blk_keep hb HQQ.out)
        have HW5 := Lib.hid (HWX.out.trans (WX.of_below hb))
        clear hb HPC
        cases bp with
        | false =>
          go_wp2_with fail
          go_roundg (N1 - (k3 + 1))
          case rel => exact ⟨k3 + 1, k_next HK.out HLT.out, by go_num, by rw [pros_no HX.out HBP.out, HA.out]; exact HQ5'.out, HW5.out⟩
          case measure => exact k_less HK.out HLT.out
        | true =>
          go_upto_region 21 with fail
          refine wp_region_rel (by kernel_rfl) [6] 9 [0, 1, 2, 3, 4, 5] [81, 82, 83, 84, 85, 86] #[true, true, true, true, true, true, false] 1 [(fun v _ => v = .pointer (some ⟨g12, 0, none⟩)), (fun v _ => v = .int .u64 (A : Int)), (fun v _ => v = .int .i64 (k3 : Int)), (fun v _ => v = .int .u64 (pw k3 : Int)), (fun v _ => v = .int .u64 ((withBit A k3 : Nat) : Int)), (fun v _ => v = .pointer (some ⟨g12, 0, none⟩)), (fun _ _ => True)] (by kernel_rfl) (by kernel_rfl) (by kernel_rfl) (by kernel_rfl) (by kernel_rfl) rfl (by kernel_rfl) rfl ?_ ?_ ?_
          ·exact ⟨stays_is _, stays_is _, stays_is _, stays_is _, stays_is _, stays_is _, stays_true, trivial⟩
          ·refine ⟨?_, ?_, ?_, ?_, ?_, ?_, trivial⟩
           ·refine relOb_mk (o := ⟨some 81, _, _, _, _, _⟩) rfl (fun r V hc hf hg hs hb hd => ?_)
            have x12 : r (.tmp 12) = .pointer (some ⟨g12, 0, none⟩) := hs 12 (by kernel_rfl)
            clear hs hd hg
            go_simp
            exact ⟨Below.refl _ _, rfl⟩
           ·refine relOb_mk (o := ⟨some 82, _, _, _, _, _⟩) rfl (fun r V hc hf hg hs hb hd => ?_)
            have h0 : r (.tmp 81) = .pointer (some ⟨g12, 0, none⟩) := hd 0 81 rfl (by kernel_rfl)
            clear hs hd hg
            have l := blk_cell (blk_keep hb HQ5'.out) 0 _ rfl
            go_simp
            exact ⟨Below.refl _ _, rfl⟩
           ·refine relOb_mk (o := ⟨some 83, _, _, _, _, _⟩) rfl (fun r V hc hf hg hs hb hd => ?_)
            have x13 : r (.tmp 13) = .int .i64 (k3 : Int) := hs 13 (by kernel_rfl)
            clear hs hd hg
            go_simp
            exact ⟨Below.refl _ _, rfl⟩
           ·refine relOb_mk (o := ⟨some 84, _, _, _, _, _⟩) rfl (fun r V hc hf hg hs hb hd => ?_)
            have h2 : r (.tmp 83) = .int .i64 (k3 : Int) := hd 2 83 rfl (by kernel_rfl)
            clear hs hd hg
            have h63 := HN63.out
            have h0 : (0 : Int) ≤ k3 := by omega
            have h1 : min k3 64 = k3 := by omega
            have h2 : ¬ (64 : Int) ≤ k3 := by omega
            have hs1 := one_form k3 h63
            go_simp
            exact ⟨Below.refl _ _, by simp⟩
           ·refine relOb_mk (o := ⟨some 85, _, _, _, _, _⟩) rfl (fun r V hc hf hg hs hb hd => ?_)
            have h1 : r (.tmp 82) = .int .u64 (A : Int) := hd 1 82 rfl (by kernel_rfl)
            have h3 : r (.tmp 84) = .int .u64 (pw k3 : Int) := hd 3 84 rfl (by kernel_rfl)
            clear hs hd hg
            have ho1 := or_form A k3 HN63.out HAL.out
            go_simp
            exact ⟨Below.refl _ _, rfl⟩
           ·refine relOb_mk (o := ⟨some 86, _, _, _, _, _⟩) rfl (fun r V hc hf hg hs hb hd => ?_)
            have x12 : r (.tmp 12) = .pointer (some ⟨g12, 0, none⟩) := hs 12 (by kernel_rfl)
            clear hs hd hg
            go_simp
            exact ⟨Below.refl _ _, rfl⟩
          ·intro a V hb hx
           have h0 : a.eval (.tmp 81) = .pointer (some ⟨g12, 0, none⟩) := hx 0 81 rfl rfl
           have h1 : a.eval (.tmp 82) = .int .u64 (A : Int) := hx 1 82 rfl rfl
           have h2 : a.eval (.tmp 83) = .int .i64 (k3 : Int) := hx 2 83 rfl rfl
           have h3 : a.eval (.tmp 84) = .int .u64 (pw k3 : Int) := hx 3 84 rfl rfl
           have h4 : a.eval (.tmp 85) = .int .u64 ((withBit A k3 : Nat) : Int) := hx 4 85 rfl rfl
           have h5 : a.eval (.tmp 86) = .pointer (some ⟨g12, 0, none⟩) := hx 5 86 rfl rfl
           unfold fillAll
           simp only [List.foldl_cons, List.foldl_nil, h0, h1, h2, h3, h4, h5, Act.put, List.setIfInBounds_toArray, List.set_cons_zero, List.set_cons_succ]
           clear h0 h1 h2 h3 h4 h5 hx
           have HQV := Lib.hid (blk_keep hb HQ5'.out)
           have HXV := Lib.hid (HW5.out.trans (WX.of_below hb))
           clear hb HQ5' HW5
           refine wpAny_ready (rs := [6]) (by kernel_rfl) (by simp) (AllReady.cons (o := ⟨none, _, _, _, _, _⟩) rfl (fun K hK => ?_) AllReady.nil)
           have c0 := blk_cell HQV.out 0 _ rfl
           have f0 := blk_free HQV.out 0
           have hl := blk_lt HQV.out
           go_simp
           clear c0 f0 hl
           refine name_K ?_
           intro VZ hVZ
           have ho : Only g12 V VZ := by rw [hVZ]; exact (Only.refl g12 V).setCell rfl _
           have HQZ : Hid (VZ.heap[g12]? = some (.cells #[.int .u64 ((withBit A k3 : Nat) : Int), .int .u32 (S2.pt : Int)] 35)) := Lib.hid (by rw [hVZ]; exact blk_set HQV.out 0 _)
           have HXZ := Lib.hid (HXV.out.trans (WX.of_only (X := fun b => b = g12) ho rfl))
           clear hVZ ho HQV HXV
           refine hK _ _ ?_
           clear hK K
           refine wpAny_done (by kernel_rfl) ?_ _
           go_wp2_with fail
           go_roundg (N1 - (k3 + 1))
           case rel => exact ⟨k3 + 1, k_next HK.out HLT.out, by go_num, by rw [pros_yes HX.out HBP.out, HA.out]; exact HQZ.out, HXZ.out⟩
           case measure => exact k_less HK.out HLT.out
       ·have d2 : ¬ (k3 : Int) < N1 := by omega
        have hkn : k3 = N1 := by have := HK.out; omega
        obtain ⟨PR, hPR⟩ : ∃ A, prosS M.tb S2 i.oc SA SB N1 = A := ⟨_, rfl⟩
        have HQE : Hid (wr.heap[g12]? = some (.cells #[.int .u64 (PR : Int), .int .u32 (S2.pt : Int)] 35)) := Lib.hid (by rw [← hPR, ← hkn]; exact HQQ.out)
        have HOUT : Hid (outS M.tb S2 i.oc i.no i.re = PR) := Lib.hid (by rw [out_is, HSA.out, HSB.out, tb_len, HN1.out]; exact hPR)
        have HBE := Lib.hid (below_tr HBO.out (HWX.out.below' HG12.out HC3.out.gle))
        clear hlt hkn hPR HQQ
        go_upto_region 23 with fail
        clear d2
        have HS6 : Hid (wr.heap[g6]? = some (.cells (stL zS).toArray 66)) := Lib.hid (keep_g HBE.out HGC.out.1 HQ6V.out)
        have HS7 : Hid (wr.heap[g7]? = some (.cells #[.int .u64 0, .int .u32 0] 35)) := Lib.hid (keep_g HBE.out HGC.out.2.1 HQ7V.out)
        have HBV := Lib.hid (below_tr HBA.out (below_w HBE.out HGC.out.2.2.2.1))
        have HNE : Hid (g6 ≠ g ∧ g7 ≠ g ∧ g6 ≠ g12 ∧ g7 ≠ g12) := Lib.hid (by have h1 := HGC.out; have h2 := HG12.out; omega)
        obtain ⟨WR, hWR⟩ : ∃ W', W' = wr := ⟨_, rfl⟩
        rw [← hWR] at HS6 HS7 HBV HCR HQE ⊢
        clear hWR
        refine wp_region_held_drew (S := fun w' => w'.heap[g]? = some (.cells (cyL m S2 i TS.us).toArray 84) ∧ w'.heap[g12]? = some (.cells #[.int .u64 (PR : Int), .int .u32 (S2.pt : Int)] 35)) (by kernel_rfl) ⟨HCR.out.blk, HQE.out⟩ (fun hH => ?_)
        refine wpAnyH_take (i := 0) (oi := ⟨some 88, _, _, _, _, _⟩) (v := .pointer (some ⟨g, 0, none⟩)) rfl (by kernel_rfl) (by kernel_rfl) (by kernel_rfl) (fun _ _ _ h => h) (Or.inl ⟨by rfl, fun w hS => by go_simp⟩) hH ?_
        refine wpAnyH_take (i := 1) (oi := ⟨some 89, _, _, _, _, _⟩) (v := .pointer (some ⟨g, 0, none⟩)) rfl (by kernel_rfl) (by kernel_rfl) (by kernel_rfl) (fun _ _ _ h => h) (Or.inl ⟨by rfl, fun w hS => by go_simp⟩) hH ?_
        refine wpAnyH_take (i := 2) (oi := ⟨some 90, _, _, _, _, _⟩) (v := .pointer (some ⟨g, 1, none⟩)) rfl (by kernel_rfl) (by kernel_rfl) (by kernel_rfl) (fun _ _ _ h => h) (Or.inl ⟨by rfl, fun w hS => by go_simp⟩) hH ?_
        refine wpAnyH_take (i := 3) (oi := ⟨some 91, _, _, _, _, _⟩) (v := .agg (stL S2).toArray) rfl (by kernel_rfl) (by kernel_rfl) (by kernel_rfl) (fun _ _ _ h => h) (Or.inl ⟨by rfl, fun w hS => run_load_is 66 (.tmp 90) rfl (vx := .pointer (some ⟨g, 1, none⟩)) (by go_simp) (load_cy hS.1)⟩) hH ?_
        refine wpAnyH_take (i := 4) (oi := ⟨some 92, _, _, _, _, _⟩) (v := .agg #[.int .u64 (PR : Int), .int .u32 (S2.pt : Int)]) rfl (by kernel_rfl) (by kernel_rfl) (by kernel_rfl) (fun _ _ _ h => h) (Or.inl ⟨by rfl, fun w hS => by have l0 := blk_cell hS.2 0 _ rfl; have l1 := blk_cell hS.2 1 _ rfl; go_simp⟩) hH ?_
        obtain ⟨hst, hq9, ho9⟩ := store_st (w := WR.drew) (s' := S2) (b := g6) (t := 66) HS6.out
        have HST := Lib.hid hst
        have HQ9 := Lib.hid hq9
        have HQ97 := Lib.hid (blk_only ho9 (fun e => HG.out.2.2 e.symm) HS7.out)
        have HCG := Lib.hid (blk_only ho9 (fun e => HNE.out.1 e.symm) HCR.out.blk)
        have HC12 := Lib.hid (blk_only ho9 (fun e => HNE.out.2.2.1 e.symm) HQE.out)
        have HB9 : Hid (Below w.heap.size w (WR.drew.setCells g6 0 (stL S2))) := Lib.hid (Only.below HBV.out.drew HG.out.1 HBV.out.size ho9)
        obtain ⟨V6, hV6⟩ : ∃ V, V = WR.drew.setCells g6 0 (stL S2) := ⟨_, rfl⟩
        rw [← hV6] at HST HQ9 HQ97 HB9 HCG HC12
        clear hst hq9 ho9 hV6
        refine wpAnyH_ready (rs := [5]) (by kernel_rfl) (by simp) (AllReadyH.cons (o := ⟨none, _, _, _, _, _⟩) rfl (fun K hK => ?_) AllReadyH.nil)
        rw [if_pos (by rfl)]
        simp only [Act.put, List.setIfInBounds_toArray, List.set_cons_zero, List.set_cons_succ]
        refine wp_run_skip (w' := V6) ?_ ?_
        ·refine run_store_is 66 (.tmp 6) (.tmp 91) rfl (vx := .pointer (some ⟨g6, 0, none⟩)) (vy := .agg (stL S2).toArray) ?_ ?_ HST.out
         ·go_simp
         ·go_simp
        simp only [Act.put]
        refine hK.out _ _ ⟨HCG.out, HC12.out⟩ (fun hH3 => ?_)
        refine wpAnyH_ready (rs := [6]) (by kernel_rfl) (by simp) (AllReadyH.cons (o := ⟨none, _, _, _, _, _⟩) rfl (fun K9 hK9 => ?_) AllReadyH.nil)
        rw [if_pos (by rfl)]
        have c0 := blk_cell HQ97.out 0 _ rfl
        have c1 := blk_cell HQ97.out 1 _ rfl
        have f0 := blk_free HQ97.out 0
        have f1 := blk_free HQ97.out 1
        have hl := blk_lt HQ97.out
        go_simp
        clear c0 c1 f0 f1 hl
        refine name_K ?_
        intro V7 hV7
        have ho : Only g7 V6 V7 := by rw [hV7]; exact ((Only.refl g7 V6).setCell rfl _).setCell rfl _
        have HQ7E : Hid (V7.heap[g7]? = some (.cells #[.int .u64 (PR : Int), .int .u32 (S2.pt : Int)] 35)) := Lib.hid (by rw [hV7]; exact blk_set (blk_set HQ97.out 0 _) 1 _)
        have HQ6E : Hid (V7.heap[g6]? = some (.cells (stL S2).toArray 66)) := Lib.hid (blk_only ho HG.out.2.2 HQ9.out)
        have HBE7 : Hid (Below w.heap.size w V7) := Lib.hid (Only.below HB9.out HG.out.2.1 HB9.out.size ho)
        have hS7 : V7.heap[g]? = some (.cells (cyL m S2 i TS.us).toArray 84) ∧ V7.heap[g12]? = some (.cells #[.int .u64 (PR : Int), .int .u32 (S2.pt : Int)] 35) := ⟨blk_only ho (fun e => HNE.out.2.1 e.symm) HCG.out, blk_only ho (fun e => HNE.out.2.2.2 e.symm) HC12.out⟩
        clear hV7 ho
        refine hK9.out _ _ hS7 (fun hH4 => ?_)
        refine wpAnyH_done (by kernel_rfl) ?_ _
        go_wp2_with fail
        (try simp only [Exit.inBlock, Exit.then])
        refine bodyPost_ret (results_cells2 rfl _ _ g6 g7 66 35 (stL S2).toArray #[.int .u64 (PR : Int), .int .u32 (S2.pt : Int)] (0, 0) (0, 0) _ _ rfl HQ6E.out Try.underlying66 rfl (by rw [List.size_toArray, st_len]; exact info_st) rfl HQ7E.out Try.underlying35 rfl info_out) rfl ?_
        rw [HNX.out, HOUT.out]
        exact ⟨rfl, HBE7.out⟩
end Go.Proofs.Ytpohoannggdbjaa
