/-
  Chapter 14: the walk of the statement DiskPlays.
-/
import Derived.Test.YtncijclhfndniaaDiskY
namespace Go.Proofs.Ytncijclhfndniaa
open Go.RowKit
attribute [local irreducible] byteVals okB zeros pad strOf Dk.wCode Dk.sCode Dk.write Dk.sync Dk.crash Dk.on Dk.rd Dk.ask Dk.fail Dk.new
theorem app_op (s : Dk) (c : Cl) : (s.app c).op.length ≤ s.op.length + 1 := by
  unfold Dk.app
  split
  · unfold Dk.sync
    split
    · omega
    · split
      · rw [count_op]; omega
      · show ([] : List (Nat × List Nat)).length ≤ _; simp
  split
  · omega
  split
  · unfold Dk.fail; show s.op.length ≤ _; omega
  split
  · unfold Dk.crash; show s.op.length ≤ _; omega
  split
  · unfold Dk.on
    split
    · show ([] : List (Nat × List Nat)).length ≤ _; simp
    · show s.op.length ≤ _; omega
  · unfold Dk.write
    split
    · omega
    · rw [count_op]; simp
attribute [local irreducible] Dk.app
theorem copy_pair {Z : Nat → Prop} {wr w4 w5 : World} {d m c was : Nat} {s : Dk} {X' Yw : Nat → Prop} (h : P2 Z wr d m s s) (hR : RAt w4 Yw was s) (hYw : ∀ k, Yw k → wr.heap.size ≤ k) (hb4 : Below wr.heap.size wr w4) (hD : DAt w5 X' c s) (hX' : ∀ k, X' k → w4.heap.size ≤ k) (hb5 : Below w4.heap.size w4 w5) :
    ∃ Z2 : Nat → Prop, (∀ k, Z k → Z2 k) ∧ P2 Z2 w5 c m s s ∧ ∀ w', Kz Z2 w5 w' → P2 (fun _ => False) w' d was s s := by
  obtain ⟨h1, X, Y, h2, h3, h4, h5, h6⟩ := h
  have hs4 := hb4.size
  have hs5 := hb5.size
  refine ⟨fun k => Z k ∨ X k ∨ Yw k, fun k hk => .inl hk, ⟨fun k hk => ?_, X', Y, hD, (h3.below hb4).below hb5, fun k hk hn => ?_, fun k hk hn => ?_, fun k hk hn => ?_⟩, fun w' hz => ⟨fun k hk => hk.elim, X, Yw, ?_, ?_, fun _ _ h => h, fun _ _ h => h, fun k hk hn => ?_⟩⟩
  · rcases hk with hk | hk | hk
    · have := h1 k hk; omega
    · have := h2.lt k hk; omega
    · have := hR.lt k hk; omega
  · have := hX' k hk
    rcases hn with hn | hn | hn
    · have := h1 k hn; omega
    · have := h2.lt k hn; omega
    · have := hR.lt k hn; omega
  · have := h3.lt k hk
    rcases hn with hn | hn | hn
    · exact h5 k hk hn
    · exact h6 k hn hk
    · have := hYw k hn; omega
  · have := hX' k hk; have := h3.lt k hn; omega
  · exact ((h2.below hb4).below hb5).keep (by unfold Kz at hz; exact hz.size) (fun k hk => hz.blk (.inr (.inl hk)) (by have := h2.lt k hk; omega))
  · exact (hR.below hb5).keep (by unfold Kz at hz; exact hz.size) (fun k hk => hz.blk (.inr (.inr hk)) (by have := hR.lt k hk; omega))
  · have := h2.lt k hk; have := hYw k hn; omega
theorem new_pair {w1 w2 w3 : World} {d m : Nat} {s : Dk} {Y : Nat → Prop} (hd : DZ (fun k => k < w1.heap.size) w2 d s) (hR : RAt w3 Y m s) (hY : ∀ k, Y k → w2.heap.size ≤ k) (hb2 : Below w1.heap.size w1 w2) (hb : Below w2.heap.size w2 w3) : P2 (fun k => k < w1.heap.size) w3 d m s s := by
  unfold DZ at hd
  obtain ⟨h1, X, h2, h3⟩ := hd
  have hs2 := hb2.size
  exact ⟨fun k hk => Nat.lt_of_lt_of_le (h1 k hk) hb.size, X, Y, h2.below hb, hR, h3, fun k hk hn => by have := hY k hk; omega, fun k hk hn => by have := hY k hn; have := h2.lt k hk; omega⟩
theorem P2.rcopy {Z : Nat → Prop} {w : World} {d m : Nat} {s t : Dk} (h : P2 Z w d m s t) (hl : t.op.length ≤ 100000) : Calls Try.prog 18 #[.pointer (some ⟨m, 0, none⟩)] w fun e w' => ∃ (Y' : Nat → Prop) (c : Nat), e = .returned (.pointer (some ⟨c, 0, none⟩)) ∧ RAt w' Y' c t ∧ (∀ k, Y' k → w.heap.size ≤ k) ∧ Below w.heap.size w w' := by
  obtain ⟨h1, X, Y, h2, h3, h4, h5, h6⟩ := h
  exact rcopy_any t Y m w h3 ⟨by unfold maxLen; omega, by omega⟩
theorem P2.dcopy {Z : Nat → Prop} {w : World} {d m : Nat} {s t : Dk} (h : P2 Z w d m s t) (hl : s.op.length ≤ 100000) : Calls Try.prog 19 #[.pointer (some ⟨d, 0, none⟩)] w fun e w' => ∃ (X' : Nat → Prop) (c : Nat), e = .returned (.pointer (some ⟨c, 0, none⟩)) ∧ DAt w' X' c s ∧ (∀ k, X' k → w.heap.size ≤ k) ∧ Below w.heap.size w w' := by
  obtain ⟨h1, X, Y, h2, h3, h4, h5, h6⟩ := h
  exact copy_any s X d w h2 ⟨by unfold maxLen; omega, by omega⟩
attribute [local irreducible] P2 Kz DZ
def pZ (B : Nat) (k : Nat) : Prop := k < B
set_option maxRecDepth 100000 in
set_option maxHeartbeats 20000000 in
theorem plays_any (blocks : Int) (a : Option Addr) (n cap : Nat) (l : List Cl) (w : World) (hn : l.length = n) (hm : n ≤ maxLen) (hl : ClsAt w a l) :
    Calls Try.prog 4 #[.int .i64 blocks, .slice a n cap] w fun e w' => e = .returned (.bool true) ∧ Below w.heap.size w w' := by
  have hf := large_any a n cap l w hn hm hl
  have HN := Lib.hid hn
  clear hn
  go_enter Try.func4, Try.ntmps4
  go_wp2_with fail
  refine hf.mono ?_
  rintro e w1 ⟨B, rfl, hB, hb1⟩
  cases B with
  | true =>
    clear hB hf
    go_wp2_with fail
    refine (works_any _).mono ?_
    rintro e w3 ⟨rfl, hb3⟩
    go_wp2_with fail
    go_ret
    exact ⟨rfl, below_on hb1 hb3⟩
  | false =>
  have hsm := (hB rfl).1
  have hn80 : n ≤ 80 := by rw [← HN.out]; exact hsm
  have HL1 := Lib.hid (hl.below hb1)
  have HB1 := Lib.hid hb1
  clear hB hf hsm hl hb1
  by_cases h40 : 40 < blocks
  · go_wp2_with fail
    refine (works_any _).mono ?_
    rintro e w3 ⟨rfl, hb3⟩
    go_wp2_with fail
    go_ret
    exact ⟨rfl, below_on HB1.out hb3⟩
  obtain ⟨mm, hmm⟩ : ∃ mm : Nat, (mm : Int) = max 0 (min 4096 blocks) := ⟨(max 0 (min 4096 blocks)).toNat, by omega⟩
  have HMM := Lib.hid hmm
  clear hmm
  go_wp2_with fail
  refine (new_z blocks mm HMM.out w1).mono ?_
  rintro e w2 ⟨d, rfl, hd2, hb2⟩
  have D2 := Lib.hid hd2
  have HB2 := Lib.hid hb2
  clear hd2 hb2
  go_wp2_with fail
  refine (rnew_any blocks mm HMM.out w2).mono ?_
  rintro e w3 ⟨Y, m, rfl, hR, hY, hb3⟩
  have HP0 : Hid (P2 (pZ w1.heap.size) w3 d m (Dk.new mm) (Dk.new mm)) := Lib.hid (new_pair D2.out hR hY HB2.out hb3)
  have HB0 := Lib.hid (below_on HB2.out hb3)
  have HO0 : Hid ((Dk.new mm).op.length = 0) := Lib.hid (by unfold Dk.new; rfl)
  clear hR hY hb3 D2 HB2
  go_wp2_with fail
  go_loopw [5, 7] (fun u5 u7 wr => ∃ (i d : Nat) (s : Dk), i ≤ n ∧ s.op.length ≤ i ∧ u5 = .pointer (some ⟨d, 0, none⟩) ∧ u7 = .int .i64 i ∧ P2 (pZ w1.heap.size) wr d m s s ∧ Below w1.heap.size w1 wr) (fun _ u7 _ => n - (intOf u7).toNat)
  case atStart => exact ⟨0, d, Dk.new mm, by omega, by rw [HO0.out]; exact Nat.le_refl _, rfl, rfl, HP0.out, HB0.out⟩
  case round =>
    obtain ⟨i, d, s, hi, hop, rfl, rfl, hP, hB⟩ := hrel
    clear HP0 HB0 HO0
    by_cases hlt : i < n
    · obtain ⟨c, hc⟩ : ∃ c, l[i]? = some c := ⟨_, List.getElem?_eq_getElem (by rw [HN.out]; exact hlt)⟩
      have hlr := HL1.out.below hB
      rcases HL1.out.2 with hnil | ⟨b, off, rfl, hcells⟩
      · rw [hnil] at HN; exact absurd HN.out (by simp; omega)
      obtain ⟨z0, z1, z2, z3⟩ := hcells i c hc
      have HBL : Hid (b < w1.heap.size) := Lib.hid (World.block_lt_of_cell? _ _ z0)
      have z0 := cell_later hB z0
      have z1 := cell_later hB z1
      have z2 := cell_later hB z2
      have z3 := cell_later hB z3
      have hcl := hlr.1 c (List.mem_of_getElem? hc)
      have hcl1 := HL1.out.1 c (List.mem_of_getElem? hc)
      have hk256 := hcl.1
      have d1 : (0 : Int) ≤ i := by omega
      have d2 : (i : Int) < n := by omega
      have m1 : (0 : Int) ≤ c.k := by omega
      have m2 : (c.k : Int) < 256 := by omega
      have HW9 : Hid (IntKind.u8.wrap ((c.k : Int) / 9) = (c.k : Int) / 9) := Lib.hid (by rw [IntKind.wrap_u8]; omega)
      obtain ⟨nb, hnb⟩ : ∃ nb, nb = c.b.length := ⟨_, rfl⟩
      obtain ⟨nf, hnf⟩ : ∃ nf, nf = c.f.length := ⟨_, rfl⟩
      rw [← hnb] at z2
      rw [← hnf] at z3
      have HNB := Lib.hid hnb.symm
      have HNF := Lib.hid hnf.symm
      have HCL := Lib.hid hcl
      have HC1 := Lib.hid hcl1
      have HP := Lib.hid hP
      have HB := Lib.hid hB
      have HOP := Lib.hid hop
      clear hc hlr hcells hcl hcl1 hnb hnf hP hB hop hk256
      by_cases h8 : c.k % 9 = 8
      · have q8 : (((c.k : Int) % 9) == 8) = true := by simp; omega
        clear h8
        go_wp2_with fail
        refine (HP.out.rcopy (Nat.le_trans HOP.out (by omega))).mono ?_
        rintro e w4 ⟨Yw, was, rfl, hR4, hYw, hb4⟩
        have HP4 := Lib.hid (HP.out.below hb4)
        have HR4 := Lib.hid hR4
        have HYW := Lib.hid hYw
        have HB4 := Lib.hid hb4
        clear hR4 hYw hb4
        go_wp2_with fail
        refine (HP4.out.dcopy (Nat.le_trans HOP.out (by omega))).mono ?_
        rintro e w5 ⟨X', dc, rfl, hD5, hX', hb5⟩
        obtain ⟨Z2, hZ2, hP5, hold⟩ := copy_pair HP.out HR4.out HYW.out HB4.out hD5 hX' hb5
        have hb15 := below_on HB.out (below_on HB4.out hb5)
        have hb05 := below_on HB4.out hb5
        have z0 := cell_later hb05 z0
        have z1 := cell_later hb05 z1
        have z2 := cell_later hb05 z2
        have HP5 := Lib.hid hP5
        have HOLD := Lib.hid hold
        have HZ2 := Lib.hid hZ2
        have HB15 := Lib.hid hb15
        have HB05 := Lib.hid hb05
        clear hD5 hX' hb5 hP5 hold hZ2 hb15 hb05 z3 HP4 HR4 HYW HB4
        obtain ⟨c2, hc2⟩ : ∃ c2 : Cl, c2 = ⟨c.k / 9, c.i, c.a, c.c, c.b, none, 0, []⟩ := ⟨_, rfl⟩
        have hcl2 : ClAt w5 c2 := by
          have h := HCL.out.below HB05.out
          rw [hc2]
          exact ⟨by show c.k / 9 < 256; have := h.1; omega, h.2.1, h.2.2.1, Nat.zero_le _, ⟨by simp, .inl rfl⟩, fun _ => rfl, fun b o e => by cases e⟩
        have hzb2 : c2.b ≠ [] → ∀ b o, c2.a = some ⟨b, o, none⟩ → Z2 b := by
          rw [hc2]; exact fun hne b o e => HZ2.out b (HC1.out.2.2.1.2.2.2 b o e hne)
        have hzf2 : c2.f ≠ [] → ∀ b o, c2.fa = some ⟨b, o, none⟩ → Z2 b := by
          rw [hc2]; exact fun hne => absurd rfl hne
        have hD : ∀ W, DoIn Z2 W dc m s c2 → Calls Try.prog 20 #[.pointer (some ⟨dc, 0, none⟩), .pointer (some ⟨m, 0, none⟩), .agg (clV c2 nb 0)] W (DoTo Z2 W dc m (s.app c2)) := fun W hW => does_any Z2 dc m nb 0 s c2 W hW (by rw [hc2]; exact HNB.out) (by rw [hc2]; rfl)
        have hcv : clV c2 nb 0 = #[.int .u8 ((c.k : Int) / 9), .int .i64 c.i, .slice c.a nb c.c, .slice none 0 0] := by
          rw [hc2]; unfold clV; rfl
        rw [hcv] at hD
        have HD := Lib.hid hD
        have HDI : Hid (DoIn Z2 w5.drew dc m s c2) := Lib.hid ⟨HP5.out.below ((Below.refl _ w5).drew), hcl2.below ((Below.refl _ w5).drew), hzb2, hzf2, Nat.le_trans HOP.out (by omega)⟩
        clear hcl2 hzb2 hzf2 hD hcv hc2
        go_wp2_with fail
        have hw9 := HW9.out
        refine wp_region_held_drew (S := fun w' => w'.cell? ⟨b, off + i * 4, none⟩ = some (.int .u8 (c.k : Int)) ∧ w'.cell? ⟨b, off + i * 4 + 1, none⟩ = some (.int .i64 c.i) ∧ w'.cell? ⟨b, off + i * 4 + 2, none⟩ = some (.slice c.a nb c.c)) (by kernel_rfl) ⟨z0, z1, z2⟩ (fun hH => ?_)
        refine wpAnyH_take (i := 0) (v := .pointer (some ⟨dc, 0, none⟩)) rfl (by kernel_rfl) (by kernel_rfl) (by kernel_rfl) (fun _ _ _ h => h) (Or.inl ⟨by rfl, fun w hS => by obtain ⟨e1, e2, e3⟩ := hS; go_simp⟩) hH ?_
        refine wpAnyH_take (i := 1) (v := .pointer (some ⟨m, 0, none⟩)) rfl (by kernel_rfl) (by kernel_rfl) (by kernel_rfl) (fun _ _ _ h => h) (Or.inl ⟨by rfl, fun w hS => by obtain ⟨e1, e2, e3⟩ := hS; go_simp⟩) hH ?_
        refine wpAnyH_take (i := 2) (v := .slice (some ⟨b, off, none⟩) n cap) rfl (by kernel_rfl) (by kernel_rfl) (by kernel_rfl) (fun _ _ _ h => h) (Or.inl ⟨by rfl, fun w hS => by obtain ⟨e1, e2, e3⟩ := hS; go_simp⟩) hH ?_
        refine wpAnyH_take (i := 3) (v := .int .i64 (i : Int)) rfl (by kernel_rfl) (by kernel_rfl) (by kernel_rfl) (fun _ _ _ h => h) (Or.inl ⟨by rfl, fun w hS => by obtain ⟨e1, e2, e3⟩ := hS; go_simp⟩) hH ?_
        refine wpAnyH_take (i := 4) (v := .pointer (some ⟨b, off + i * 4, none⟩)) rfl (by kernel_rfl) (by kernel_rfl) (by kernel_rfl) (fun _ _ _ h => h) (Or.inl ⟨by rfl, fun w hS => by obtain ⟨e1, e2, e3⟩ := hS; go_simp⟩) hH ?_
        refine wpAnyH_take (i := 5) (v := .pointer (some ⟨b, off + i * 4, none⟩)) rfl (by kernel_rfl) (by kernel_rfl) (by kernel_rfl) (fun _ _ _ h => h) (Or.inl ⟨by rfl, fun w hS => by obtain ⟨e1, e2, e3⟩ := hS; go_simp⟩) hH ?_
        refine wpAnyH_take (i := 6) (v := .int .u8 (c.k : Int)) rfl (by kernel_rfl) (by kernel_rfl) (by kernel_rfl) (fun _ _ _ h => h) (Or.inl ⟨by rfl, fun w hS => by obtain ⟨e1, e2, e3⟩ := hS; go_simp⟩) hH ?_
        refine wpAnyH_take (i := 7) (v := .int .u8 ((c.k : Int) / 9)) rfl (by kernel_rfl) (by kernel_rfl) (by kernel_rfl) (fun _ _ _ h => h) (Or.inl ⟨by rfl, fun w hS => by obtain ⟨e1, e2, e3⟩ := hS; go_simp⟩) hH ?_
        refine wpAnyH_take (i := 8) (v := .slice (some ⟨b, off, none⟩) n cap) rfl (by kernel_rfl) (by kernel_rfl) (by kernel_rfl) (fun _ _ _ h => h) (Or.inl ⟨by rfl, fun w hS => by obtain ⟨e1, e2, e3⟩ := hS; go_simp⟩) hH ?_
        refine wpAnyH_take (i := 9) (v := .int .i64 (i : Int)) rfl (by kernel_rfl) (by kernel_rfl) (by kernel_rfl) (fun _ _ _ h => h) (Or.inl ⟨by rfl, fun w hS => by obtain ⟨e1, e2, e3⟩ := hS; go_simp⟩) hH ?_
        refine wpAnyH_take (i := 10) (v := .pointer (some ⟨b, off + i * 4, none⟩)) rfl (by kernel_rfl) (by kernel_rfl) (by kernel_rfl) (fun _ _ _ h => h) (Or.inl ⟨by rfl, fun w hS => by obtain ⟨e1, e2, e3⟩ := hS; go_simp⟩) hH ?_
        refine wpAnyH_take (i := 11) (v := .pointer (some ⟨b, off + i * 4 + 1, none⟩)) rfl (by kernel_rfl) (by kernel_rfl) (by kernel_rfl) (fun _ _ _ h => h) (Or.inl ⟨by rfl, fun w hS => by obtain ⟨e1, e2, e3⟩ := hS; go_simp⟩) hH ?_
        refine wpAnyH_take (i := 12) (v := .int .i64 c.i) rfl (by kernel_rfl) (by kernel_rfl) (by kernel_rfl) (fun _ _ _ h => h) (Or.inl ⟨by rfl, fun w hS => by obtain ⟨e1, e2, e3⟩ := hS; go_simp⟩) hH ?_
        refine wpAnyH_take (i := 13) (v := .slice (some ⟨b, off, none⟩) n cap) rfl (by kernel_rfl) (by kernel_rfl) (by kernel_rfl) (fun _ _ _ h => h) (Or.inl ⟨by rfl, fun w hS => by obtain ⟨e1, e2, e3⟩ := hS; go_simp⟩) hH ?_
        refine wpAnyH_take (i := 14) (v := .int .i64 (i : Int)) rfl (by kernel_rfl) (by kernel_rfl) (by kernel_rfl) (fun _ _ _ h => h) (Or.inl ⟨by rfl, fun w hS => by obtain ⟨e1, e2, e3⟩ := hS; go_simp⟩) hH ?_
        refine wpAnyH_take (i := 15) (v := .pointer (some ⟨b, off + i * 4, none⟩)) rfl (by kernel_rfl) (by kernel_rfl) (by kernel_rfl) (fun _ _ _ h => h) (Or.inl ⟨by rfl, fun w hS => by obtain ⟨e1, e2, e3⟩ := hS; go_simp⟩) hH ?_
        refine wpAnyH_take (i := 16) (v := .pointer (some ⟨b, off + i * 4 + 2, none⟩)) rfl (by kernel_rfl) (by kernel_rfl) (by kernel_rfl) (fun _ _ _ h => h) (Or.inl ⟨by rfl, fun w hS => by obtain ⟨e1, e2, e3⟩ := hS; go_simp⟩) hH ?_
        refine wpAnyH_take (i := 17) (v := .slice c.a nb c.c) rfl (by kernel_rfl) (by kernel_rfl) (by kernel_rfl) (fun _ _ _ h => h) (Or.inl ⟨by rfl, fun w hS => by obtain ⟨e1, e2, e3⟩ := hS; go_simp⟩) hH ?_
        refine wpAnyH_take (i := 18) (v := .agg #[.int .u8 ((c.k : Int) / 9), .int .i64 c.i, .slice c.a nb c.c, .slice none 0 0]) rfl (by kernel_rfl) (by kernel_rfl) (by kernel_rfl) (fun _ _ _ h => h) (Or.inl ⟨by rfl, fun w hS => by obtain ⟨e1, e2, e3⟩ := hS; go_simp⟩) hH ?_
        refine wpAnyH_ready (rs := [19]) (by kernel_rfl) (by simp) (AllReadyH.cons (o := ⟨some 58, _, _, _, _, _⟩) rfl (fun K hK => ?_) AllReadyH.nil)
        go_simp
        refine (HD.out _ HDI.out).mono ?_
        rintro e w6 ⟨rfl, hp6, hk6⟩
        have hk6' : Kz Z2 w5 w6 := (Kz.of_below ((Below.refl _ w5).drew)).trans hk6
        have zb : Z2 b := HZ2.out b HBL.out
        have y0 := hk6'.cell zb z0
        have y1 := hk6'.cell zb z1
        have y2 := hk6'.cell zb z2
        have HP6 := Lib.hid (hp6.mono HZ2.out)
        have HO6 := Lib.hid (HOLD.out w6 hk6')
        have HB6 := Lib.hid (Kz.below HB15.out HB15.out.size (fun k hk => HZ2.out k hk) hk6')
        refine hK.out _ _ ⟨y0, y1, y2⟩ (fun hH3 => ?_)
        clear hK K hp6 hk6 hk6' hH z0 z1 z2 HD HDI HP5 HOLD
        refine wpAnyH_take (i := 20) (v := .bool false) rfl (by kernel_rfl) (by kernel_rfl) (by kernel_rfl) (fun _ _ _ h => h) (Or.inl ⟨by rfl, fun w hS => by go_simp⟩) hH3 ?_
        refine wpAnyH_take (i := 21) (v := .bool false) rfl (by kernel_rfl) (by kernel_rfl) (by kernel_rfl) (fun _ _ _ h => h) (Or.inl ⟨by rfl, fun w hS => by go_simp⟩) hH3 ?_
        refine wpAnyH_take (i := 22) (v := .pointer (some ⟨d, 0, none⟩)) rfl (by kernel_rfl) (by kernel_rfl) (by kernel_rfl) (fun _ _ _ h => h) (Or.inl ⟨by rfl, fun w hS => by go_simp⟩) hH3 ?_
        refine wpAnyH_take (i := 23) (v := .pointer (some ⟨was, 0, none⟩)) rfl (by kernel_rfl) (by kernel_rfl) (by kernel_rfl) (fun _ _ _ h => h) (Or.inl ⟨by rfl, fun w hS => by go_simp⟩) hH3 ?_
        refine wpAnyH_ready (rs := [24]) (by kernel_rfl) (by simp) (AllReadyH.cons (o := ⟨some 63, _, _, _, _, _⟩) rfl (fun K hK => ?_) AllReadyH.nil)
        go_simp
        refine (tells_any _ d was s _ HO6.out).mono ?_
        rintro e w7 ⟨rfl, hb7⟩
        have HP7 := Lib.hid (HP6.out.below hb7)
        have HB7 := Lib.hid (below_on HB6.out hb7)
        refine hK.out _ _ ⟨cell_later hb7 y0, cell_later hb7 y1, cell_later hb7 y2⟩ (fun hH4 => ?_)
        clear hK K hb7 hH3 y0 y1 y2 hw9
        refine wpAnyH_take (i := 25) (v := .bool false) rfl (by kernel_rfl) (by kernel_rfl) (by kernel_rfl) (fun _ _ _ h => h) (Or.inl ⟨by rfl, fun w hS => by go_simp⟩) hH4 ?_
        refine wpAnyH_take (i := 26) (v := .bool false) rfl (by kernel_rfl) (by kernel_rfl) (by kernel_rfl) (fun _ _ _ h => h) (Or.inl ⟨by rfl, fun w hS => by go_simp⟩) hH4 ?_
        refine wpAnyH_done (by kernel_rfl) ?_ _
        clear hH4
        go_wp2_with fail
        go_roundw
        case rel => exact ⟨i + 1, dc, s.app c2, by omega, Nat.le_trans (app_op s c2) (Nat.succ_le_succ HOP.out), rfl, by go_num, HP7.out, HB7.out⟩
        case measure => simp [intOf]; omega
      · have q8 : (((c.k : Int) % 9) == 8) = false := by simp; omega
        clear h8
        have hD : ∀ W, DoIn (pZ w1.heap.size) W d m s c → Calls Try.prog 20 #[.pointer (some ⟨d, 0, none⟩), .pointer (some ⟨m, 0, none⟩), .agg (clV c nb nf)] W (DoTo (pZ w1.heap.size) W d m (s.app c)) := fun W hW => does_any (pZ w1.heap.size) d m nb nf s c W hW HNB.out HNF.out
        unfold clV at hD
        have HD := Lib.hid hD
        clear hD
        go_wp2_with fail
        refine (HD.out _ ⟨HP.out, HCL.out, fun hne b o e => HC1.out.2.2.1.2.2.2 b o e hne, fun hne b o e => HC1.out.2.2.2.2.2.2 b o e hne, Nat.le_trans HOP.out (by omega)⟩).mono ?_
        rintro e w4 ⟨rfl, hp4, hk4⟩
        have HP4 := Lib.hid hp4
        have HB4 := Lib.hid (Kz.below HB.out HB.out.size (fun k hk => hk) hk4)
        clear hp4 hk4 z0 z1 z2 z3
        go_wp2_with fail
        refine (tells_any _ d m _ _ HP4.out).mono ?_
        rintro e w5 ⟨rfl, hb5⟩
        have HP5 := Lib.hid (HP4.out.below hb5)
        have HB5 := Lib.hid (below_on HB4.out hb5)
        clear hb5
        go_wp2_with fail
        go_roundw
        case rel => exact ⟨i + 1, d, s.app c, by omega, Nat.le_trans (app_op s c) (Nat.succ_le_succ HOP.out), rfl, by go_num, HP5.out, HB5.out⟩
        case measure => simp [intOf]; omega
    · clear hP
      go_wp2_with fail
      refine (works_any _).mono ?_
      rintro e w3 ⟨rfl, hb3⟩
      go_wp2_with fail
      go_ret
      exact ⟨rfl, below_on HB1.out (below_on hB hb3)⟩
end Go.Proofs.Ytncijclhfndniaa
