/-
  Chapter 14: the document's Sync, Read.
-/
import Derived.Test.YtncijclhfndniaaDiskS
namespace Go.Proofs.Ytncijclhfndniaa
open Go.RowKit
attribute [local irreducible] byteVals okB zeros pad strOf padTo strVals rwVs Dk.ask Dk.count Dk.goes puts Dk.rd Dk.at lastOf
theorem own_cell {w : World} {B e sz n c j : Nat} {a : Option Addr} {xs : List Value} {v : Value} (h : w.ownsRow B e sz (.slice a n c) n xs) (hv : xs[j]? = some v) : ∃ q, a = some ⟨q, 0, none⟩ ∧ w.cell? ⟨q, j, none⟩ = some v ∧ w.frozen? ⟨q, j, none⟩ = false ∧ ∃ C, w.heap[q]? = some (.cells C e (0, 0)) := by
  have hj : j < n * sz := by
    have := (List.getElem?_eq_some_iff.1 hv).1
    rw [h.1] at this; exact this
  rcases h.2 with ⟨_, h0⟩ | ⟨g, cap, cur, ev, hg, hheap, hncap, hcm, hsz, htake⟩
  · rw [h0, Nat.zero_mul] at hj; omega
  · cases ev
    rw [← htake, List.getElem?_take, if_pos hj, Array.getElem?_toList] at hv
    exact ⟨g, rfl, blk_cell hheap _ _ hv, blk_free hheap _, cur, hheap⟩
theorem own_set {w : World} {B e sz n c j q : Nat} {xs : List Value} (h : w.ownsRow B e sz (.slice (some ⟨q, 0, none⟩) n c) n xs) (v : Value) : (w.setCell ⟨q, j, none⟩ v).ownsRow B e sz (.slice (some ⟨q, 0, none⟩) n c) n (xs.set j v) := by
  rcases h.2 with ⟨ev, _⟩ | ⟨g, cap, cur, ev, hg, hheap, hncap, hcm, hsz, htake⟩
  · cases ev
  · cases ev
    refine ⟨by rw [List.length_set]; exact h.1, .inr ⟨_, _, cur.setIfInBounds j v, rfl, hg, blk_set hheap j v, hncap, hcm, by rw [Array.size_setIfInBounds]; exact hsz, ?_⟩⟩
    rw [Array.toList_setIfInBounds, List.take_set, htake]
/-- a text is stored into the row of blocks -/
theorem RkAt.put {w : World} {Y : Nat → Prop} {r q c : Nat} {s : Dk} {vo : Value} {inn : Int} (h : RkAt w Y r s (.slice (some ⟨q, 0, none⟩) s.bl.length c) vo inn) (i : Nat) (l : List Nat) (hl : okB l) :
    RkAt (w.setCell ⟨q, i, none⟩ (.string (strOf l))) Y r { s with bl := s.bl.set i l } (.slice (some ⟨q, 0, none⟩) s.bl.length c) vo inn ∧ Only q w (w.setCell ⟨q, i, none⟩ (.string (strOf l))) ∧ Y q := by
  have ho := only1' w q i (.string (strOf l))
  obtain ⟨C, hC⟩ := own_blk (q := q) h.bl rfl
  have hne : ∀ (k : Nat) (C' : Array Value) (t : TypeId), w.heap[k]? = some (.cells C' t (0, 0)) → t ≠ 9 → (w.setCell ⟨q, i, none⟩ (.string (strOf l))).heap[k]? = w.heap[k]? := fun k C' t hk ht => ho.block k (blk_lt hk) (ne_type hk hC ht)
  refine ⟨⟨by rw [hne r _ _ h.hd (by decide)]; exact h.hd, h.xr, fun k hk => Nat.lt_of_lt_of_le (h.lt k hk) ho.size, h.inn, ⟨fun b hb => ?_, fun p hp => by show p.1 < (s.bl.set i l).length ∧ _; rw [List.length_set]; exact h.ok.opn p hp, by show (s.bl.set i l).length ≤ _; rw [List.length_set]; exact h.ok.n, h.ok.arm⟩, ?_, h.bx, own_keep h.op (fun k hk => ?_), h.ox⟩, ho, h.bx q rfl⟩
  · rcases List.mem_or_eq_of_mem_set hb with hb | rfl
    · exact h.ok.blk b hb
    · exact hl
  · show (w.setCell ⟨q, i, none⟩ (.string (strOf l))).ownsRow 0 9 1 _ (s.bl.set i l).length (strVals (s.bl.set i l))
    rw [List.length_set, ← strVals_set]
    exact own_set h.bl _
  · obtain ⟨C', hC'⟩ := own_blk h.op hk
    exact hne k _ _ hC' (by decide)
theorem RkAt.clear {w : World} {Y : Nat → Prop} {r : Nat} {s : Dk} {vb vo : Value} {inn : Int} (h : RkAt w Y r s vb vo inn) : RkAt (w.setCell ⟨r, 1, none⟩ (.slice none 0 0)) Y r { s with op := [] } vb (.slice none 0 0) inn := by
  have ho := only1' w r 1 (.slice none 0 0)
  refine ⟨blk_set h.hd 1 _, h.xr, fun k hk => Nat.lt_of_lt_of_le (h.lt k hk) ho.size, h.inn, ⟨h.ok.blk, (fun p hp => by simp at hp), h.ok.n, h.ok.arm⟩, own_keep h.bl (fun k hk => ?_), h.bx, ?_, (fun q hq => by cases hq)⟩
  · obtain ⟨C', hC'⟩ := own_blk h.bl hk
    exact ho.block k (blk_lt hC') (ne_type hC' h.hd (by decide))
  · have : rwVs ([] : List (Nat × List Nat)) = [] := by unfold rwVs; rfl
    rw [this]; exact World.ownsRow_nil _ _ _ _
set_option maxRecDepth 100000 in
set_option maxHeartbeats 4000000 in
theorem rsync_any (s : Dk) (Y : Nat → Prop) (r : Nat) (w : World) (h : RAt w Y r s) : Calls Try.prog 33 #[.pointer (some ⟨r, 0, none⟩)] w fun e w' => e = .returned (.int .i64 s.sCode) ∧ RAt w' Y r s.sync ∧ Bar Y w w' := by
  have H := Lib.hid h
  obtain ⟨vb, vo, inn, h⟩ := h
  have h5 := blk_cell h.hd 5 _ rfl
  have XR := Lib.hid h.xr
  clear h
  cases ho : s.off with
  | true =>
    rw [ho] at h5
    have e1 : s.sCode = 140 := by unfold Dk.sCode; rw [if_pos (.inl ho)]
    have e2 : s.sync = s := by unfold Dk.sync; rw [if_pos ho]
    rw [e1, e2]
    clear e1 e2 ho
    go_enter Try.func33, Try.ntmps33
    go_wp2_with fail
    go_ret
    exact ⟨rfl, H.out, Bar.refl _ _⟩
  | false =>
    rw [ho] at h5
    cases hg : s.goes with
    | true =>
      have e1 : s.sCode = 140 := by unfold Dk.sCode; rw [if_pos (.inr hg)]
      have e2 : s.sync = s.count := by unfold Dk.sync; rw [ho, hg]; rfl
      rw [e1, e2]
      have HG := Lib.hid hg
      clear e1 e2 ho hg
      go_enter Try.func33, Try.ntmps33
      go_wp2_with fail
      refine (rfails_any s Y r _ H.out).mono ?_
      rintro e w1 ⟨rfl, hd, hb⟩
      rw [HG.out]
      have HD := Lib.hid hd
      have HB := Lib.hid hb
      clear hd hb
      go_wp2_with fail
      go_ret
      exact ⟨rfl, HD.out, (Bar.refl Y w).only HB.out (fun _ => XR.out)⟩
    | false =>
      have e1 : s.sCode = 0 := by unfold Dk.sCode; rw [ho, hg]; rfl
      have e2 : s.sync = s.count.settle := by unfold Dk.sync; rw [ho, hg]; rfl
      rw [e1, e2]
      have HG := Lib.hid hg
      clear e1 e2 ho hg
      go_enter Try.func33, Try.ntmps33
      go_wp2_with fail
      refine (rfails_any s Y r _ H.out).mono ?_
      rintro e w1 ⟨rfl, hd, hb⟩
      rw [HG.out]
      obtain ⟨s1, hs1⟩ : ∃ s1, s1 = s.count := ⟨_, rfl⟩
      rw [← hs1] at hd
      have HS1 := Lib.hid hs1
      obtain ⟨vb, vo, inn, hd⟩ := hd
      obtain ⟨ab, cb, hvb⟩ := own_slice hd.bl
      obtain ⟨ao, co, hvo⟩ := own_slice hd.op
      subst hvb hvo
      have HB := Lib.hid ((Bar.refl Y w).only hb (fun _ => XR.out))
      obtain ⟨N, hN⟩ : ∃ N, N = s1.op.length := ⟨_, rfl⟩
      obtain ⟨M, hM⟩ : ∃ M, M = s1.bl.length := ⟨_, rfl⟩
      have h0 : RkAt w1 Y r { s1 with bl := puts s1.bl (s1.op.take 0) } (.slice ab M cb) (.slice ao N co) inn := by rw [List.take_zero, puts_nil, hN, hM]; exact hd
      have HN := Lib.hid hN
      have HM := Lib.hid hM
      have hNm : N ≤ maxLen := by
        rcases hd.op.2 with ⟨_, h0⟩ | ⟨g, cap, cur, ev, hg, hheap, hncap, hcm, hsz, htake⟩
        · rw [hN, h0]; exact Nat.zero_le _
        · rw [hN]; exact Nat.le_trans hncap hcm
      have hNm2 : (N : Int) ≤ 9223372036854775807 := by unfold maxLen at hNm; omega
      have H0 := Lib.hid h0
      clear h0 hd hb hs1 hN hM hNm h5
      go_wp2_with fail
      go_loopw [3] (fun i wr => ∃ k : Nat, k ≤ N ∧ i = .int .i64 k ∧ RkAt wr Y r { s1 with bl := puts s1.bl (s1.op.take k) } (.slice ab M cb) (.slice ao N co) inn ∧ Bar Y w wr) (fun i _ => N - (intOf i).toNat)
      case atStart => exact ⟨0, by omega, rfl, H0.out, HB.out⟩
      case round =>
        obtain ⟨k, hk, rfl, hK, hB⟩ := hrel
        clear H0 HB
        have x0 := blk_cell hK.hd 0 _ rfl
        have x1 := blk_cell hK.hd 1 _ rfl
        have xf := blk_free hK.hd
        have HK := Lib.hid hK
        by_cases hlt : k < N
        · obtain ⟨p, hp⟩ : ∃ p, s1.op[k]? = some p := ⟨_, List.getElem?_eq_getElem (by have := HN.out; omega)⟩
          obtain ⟨hp1, hp2⟩ := hK.ok.opn p (List.mem_of_getElem? hp)
          have hlen : (puts s1.bl (s1.op.take k)).length = M := by rw [puts_length]; exact HM.out.symm
          have hp1' : p.1 < (puts s1.bl (s1.op.take k)).length := hp1
          rw [hlen] at hp1'
          obtain ⟨y1, y2⟩ := rwVs_at s1.op k p hp
          have hop := hK.op
          have hbl := hK.bl
          rw [show ({ s1 with bl := puts s1.bl (s1.op.take k) } : Dk).op.length = N from HN.out.symm] at hop
          rw [show ({ s1 with bl := puts s1.bl (s1.op.take k) } : Dk).bl.length = M from hlen] at hbl
          obtain ⟨qo, rfl, z1, _⟩ := own_cell hop y1
          obtain ⟨qo', e9, z2, _⟩ := own_cell hop y2
          cases e9
          obtain ⟨qb, rfl, z3, z4, _⟩ := own_cell hbl (strVals_get (puts s1.bl (s1.op.take k)) p.1 (by rw [hlen]; exact hp1'))
          have d1 : (k : Int) < N := by omega
          have d2 : (0 : Int) ≤ k := by omega
          have d3 : (p.1 : Int) < M := by omega
          have d4 : (0 : Int) ≤ p.1 := by omega
          have HP := Lib.hid hp
          have HP2 := Lib.hid hp2
          have HL := Lib.hid hlen
          have HPL := Lib.hid hp1'
          clear hK hop hbl hp hp1 hp2 hlen hp1' y1 y2 xf
          go_wp2_with fail
          refine wp_region_still_tail 21 (by kernel_rfl) (by kernel_rfl) ?_
          simp only [List.take_succ_cons, List.take_zero, List.drop_succ_cons, List.drop_zero]
          repeat
            (with_reducible apply wpStill_step
             intro K hK
             first
               | (go_simp; refine hK _ ?_; clear hK K))
          refine wpStill_nil ?_
          go_wp2_with fail
          go_roundw
          case rel =>
            have h9 := HK.out
            have hbl : M = ({ s1 with bl := puts s1.bl (s1.op.take k) } : Dk).bl.length := HL.out.symm
            have hdw : RkAt wr.drew Y r { s1 with bl := puts s1.bl (s1.op.take k) } (.slice (some ⟨qb, 0, none⟩) ({ s1 with bl := puts s1.bl (s1.op.take k) } : Dk).bl.length cb) (.slice (some ⟨qo, 0, none⟩) N co) inn := by rw [← hbl]; exact h9.keep (Nat.le_refl _) (fun k _ => rfl)
            obtain ⟨hP1, hP2, hP3⟩ := hdw.put p.1 p.2 HP2.out
            rw [← hbl] at hP1
            refine ⟨k + 1, by omega, by go_num, ?_, (Bar.drew hB).only hP2 (fun _ => hP3)⟩
            rw [take_succ_some _ _ _ HP.out, puts_append]
            exact hP1
          case measure => simp [intOf]; omega
        · obtain rfl : N = k := by omega
          clear hK
          go_wp2_with fail
          go_ret
          have h9 := HK.out.clear
          rw [HN.out, List.take_length] at h9
          have e9 : s.count.settle = { s1 with bl := puts s1.bl s1.op, op := [] } := by unfold Dk.settle; rw [← HS1.out]
          refine ⟨rfl, ?_, hB.only (only1' _ _ _ _) (fun _ => XR.out)⟩
          rw [e9]
          exact ⟨_, _, _, h9⟩
end Go.Proofs.Ytncijclhfndniaa
