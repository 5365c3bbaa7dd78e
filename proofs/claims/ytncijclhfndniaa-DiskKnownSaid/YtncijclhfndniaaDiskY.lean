/-
  Chapter 14: the walk of 'tells'.
-/
import Derived.Test.YtncijclhfndniaaDiskX
namespace Go.Proofs.Ytncijclhfndniaa
open Go.RowKit
attribute [local irreducible] byteVals okB zeros pad strOf Dk.wCode Dk.sCode Dk.write Dk.sync Dk.crash Dk.on Dk.rd Dk.ask Dk.fail P2 Kz Dk.app
/-- what 'tells' reads of the document's disk -/
theorem P2.reads {Z : Nat → Prop} {w : World} {d m : Nat} {s t : Dk} (h : P2 Z w d m s t) : ∃ ab cb ao co, w.cell? ⟨m, 0, none⟩ = some (.slice ab t.bl.length cb) ∧ w.cell? ⟨m, 1, none⟩ = some (.slice ao t.op.length co) ∧ w.cell? ⟨m, 2, none⟩ = some (.int .i64 t.st) ∧ w.cell? ⟨m, 5, none⟩ = some (.bool t.off) ∧ t.bl.length ≤ 4096 := by
  unfold P2 at h
  obtain ⟨h1, X, Y, h2, h3, h4, h5, h6⟩ := h
  obtain ⟨vb, vo, inn, hk⟩ := h3
  obtain ⟨ab, cb, e1⟩ := own_slice hk.bl
  obtain ⟨ao, co, e2⟩ := own_slice hk.op
  subst e1 e2
  exact ⟨ab, cb, ao, co, blk_cell hk.hd 0 _ rfl, blk_cell hk.hd 1 _ rfl, blk_cell hk.hd 2 _ rfl, blk_cell hk.hd 5 _ rfl, hk.ok.n⟩
theorem P2.tell {Z : Nat → Prop} {w : World} {d m : Nat} {s t : Dk} (h : P2 Z w d m s t) (q : Nat) :
    Calls Try.prog 22 #[.pointer (some ⟨d, 0, none⟩)] (w.drewN q) (fun e w' => e = .returned (.int .i64 (s.bl.length : Int)) ∧ w' = w.drewN q) ∧
    Calls Try.prog 23 #[.pointer (some ⟨d, 0, none⟩)] (w.drewN q) (fun e w' => e = .returned (.int .i64 s.st) ∧ w' = w.drewN q) ∧
    Calls Try.prog 10 #[.pointer (some ⟨d, 0, none⟩)] (w.drewN q) (fun e w' => e = .returned (.bool s.off) ∧ w' = w.drewN q) ∧
    Calls Try.prog 24 #[.pointer (some ⟨d, 0, none⟩)] (w.drewN q) (fun e w' => e = .returned (.int .i64 (s.op.length : Int)) ∧ w' = w.drewN q) := by
  unfold P2 at h
  obtain ⟨h1, X, Y, h2, h3, h4, h5, h6⟩ := h
  have h2' : DAt (w.drewN q) X d s := h2.keep (Nat.le_refl _) (fun k _ => rfl)
  exact ⟨(blocks_any s X d _ h2').mono (fun e w' ⟨a, b⟩ => ⟨a, b.symm⟩), (steps_any s X d _ h2').mono (fun e w' ⟨a, b⟩ => ⟨a, b.symm⟩), (off_any s X d _ h2').mono (fun e w' ⟨a, b⟩ => ⟨a, b.symm⟩), (open_any s X d _ h2').mono (fun e w' ⟨a, b⟩ => ⟨a, b.symm⟩)⟩
set_option maxRecDepth 100000 in
set_option maxHeartbeats 8000000 in
theorem tells_any (Z : Nat → Prop) (d m : Nat) (s : Dk) (w : World) (h : P2 Z w d m s s) : Calls Try.prog 21 #[.pointer (some ⟨d, 0, none⟩), .pointer (some ⟨m, 0, none⟩)] w fun e w' => e = .returned (.bool true) ∧ Below w.heap.size w w' := by
  obtain ⟨ab, cb, ao, co, x0, x1, x2, x5, hM⟩ := h.reads
  have HT := Lib.hid h.tell
  have H := Lib.hid h
  obtain ⟨M, hMe⟩ : ∃ M, M = s.bl.length := ⟨_, rfl⟩
  obtain ⟨N, hNe⟩ : ∃ N, N = s.op.length := ⟨_, rfl⟩
  have HR := Lib.hid (fun W (hW : P2 Z W d m s s) => hW.reads)
  rw [← hMe] at x0 hM HT HR
  rw [← hNe] at x1 HT
  clear h hMe hNe
  go_enter Try.func21, Try.ntmps21
  go_wp2_with fail
  go_quiet ((first
    | (go_at_call 22; exact Calls.quiet_of_same (HT.out _).1)
    | (go_at_call 23; exact Calls.quiet_of_same (HT.out _).2.1)
    | (go_at_call 10; exact Calls.quiet_of_same (HT.out _).2.2.1)
    | (go_at_call 24; exact Calls.quiet_of_same (HT.out _).2.2.2)))
  have HP := Lib.hid (H.out.below (below_drewN (Below.refl _ w) nq))
  have HB := Lib.hid (below_drewN (Below.refl w.heap.size w) nq)
  clear x0 x1 x2 x5 HT
  go_wp2_with fail
  go_loopw [5] (fun i wr => ∃ ii : Int, -1 ≤ ii ∧ ii ≤ (M : Int) + 1 ∧ i = .int .i64 ii ∧ P2 Z wr d m s s ∧ Below w.heap.size w wr) (fun i _ => ((M : Int) + 1 - intOf i).toNat)
  case atStart => exact ⟨-1, by omega, by omega, rfl, HP.out, HB.out⟩
  case round =>
    obtain ⟨ii, hi1, hi2, rfl, hP, hB⟩ := hrel
    obtain ⟨ab, cb, ao, co, x0, _, _, _, _⟩ := HR.out _ hP
    clear HP HB
    by_cases hlt : ii ≤ (M : Int)
    · have HP := Lib.hid hP
      have HB := Lib.hid hB
      clear hP hB
      go_wp2_with fail
      refine (p_read_d HP.out ii).mono ?_
      rintro e w2 ⟨a2, c2, n2, hn2, rfl, hby, h256, hmn, hb2⟩
      have hcv := run_str w2 a2 (s.rd ii) n2 c2 hn2.symm hby
      have HP2 := Lib.hid (HP.out.below hb2)
      have HN2 := Lib.hid hn2
      have HBA := Lib.hid (below_on HB.out hb2)
      have HSW := Lib.hid HB.out.size
      have HB2 := Lib.hid hb2
      clear hn2 hby hb2
      rcases hmn with rfl | ⟨B, rfl, hB1, hB2, hmine⟩
      · go_wp2_with fail
        refine (p_read_m HP2.out ii).mono ?_
        rintro e w3 ⟨rfl, rfl⟩
        go_wp2_with fail
        go_loopw [10] (fun u wr => u = .int .i64 0 ∧ w2 = wr) (fun _ _ => 0)
        case atStart => exact ⟨rfl, rfl⟩
        case round =>
          obtain ⟨rfl, rfl⟩ := hrel
          go_wp2_with fail
          go_roundw
          case rel => exact ⟨ii + 1, by omega, by omega, by go_num, HP2.out, HBA.out⟩
          case measure => simp [intOf]; omega
      · have hBw : w.heap.size ≤ B := Nat.le_trans HSW.out hB1
        have HPV : Hid (P2 (fun k => Z k ∨ k = B) w2 d m s s) := Lib.hid (HP.out.news HB2.out (N := fun k => k = B) (fun k hk => by rw [hk]; exact ⟨hB1, hB2⟩) (fun k hk => hk))
        have HMI := Lib.hid hmine
        clear hmine
        go_wp2_with fail
        refine (p_read_m HP2.out ii).mono ?_
        rintro e w3 ⟨rfl, rfl⟩
        go_wp2_with fail
        go_loopw [10] (fun u wr => ∃ (k : Nat) (l : List Nat), k ≤ n2 ∧ u = .int .i64 k ∧ l.length = n2 ∧ Mine wr B l ∧ P2 (fun k => Z k ∨ k = B) wr d m s s ∧ Below w.heap.size w wr) (fun u _ => n2 - (intOf u).toNat)
        case atStart => exact ⟨0, s.rd ii, by omega, rfl, HN2.out.symm, HMI.out, HPV.out, HBA.out⟩
        case round =>
          obtain ⟨k, l, hk, rfl, hl, hM, hP, hZ⟩ := hrel
          clear HMI HPV HBA
          by_cases hlt2 : k < n2
          · have c1 := hM.2.1 k (by omega)
            have c2' := hM.2.2 k (by omega)
            obtain ⟨y, hy, hyw⟩ := plus_one (l.getD k 0)
            have e1 : (0 : Int) ≤ k := by omega
            have e2 : (k : Int) < n2 := by omega
            obtain ⟨x, hx⟩ : ∃ x, x = l.getD k 0 := ⟨_, rfl⟩
            rw [← hx] at c1 hyw
            have HM := Lib.hid hM
            have HPP := Lib.hid hP
            have HZ := Lib.hid hZ
            have HL := Lib.hid hl
            clear hx hM hP hZ hl
            go_wp2_with fail
            go_roundw
            case rel => exact ⟨k + 1, l.set k y, by omega, by go_num, by rw [List.length_set]; exact HL.out, HM.out.store (by rw [HL.out]; exact hlt2) hy, HPP.out.set (only1' _ _ _ _) (.inr rfl), HZ.out.setCell (p := ⟨B, k, none⟩) hBw _⟩
            case measure => simp [intOf]; omega
          · obtain rfl : n2 = k := by omega
            have HPP := Lib.hid hP
            have HZ := Lib.hid hZ
            clear hM hP hZ hl
            go_wp2_with fail
            go_roundw
            case rel => exact ⟨ii + 1, by omega, by omega, by go_num, HPP.out.mono (fun _ hk => .inl hk), HZ.out⟩
            case measure => simp [intOf]; omega
    · clear hP
      go_wp2_with fail
      go_ret
      exact ⟨rfl, hB⟩
end Go.Proofs.Ytncijclhfndniaa
