/-
  Chapter 14: the walk of 'does'.
-/
import Derived.Test.YtncijclhfndniaaDiskW
import Derived.Deep.RegionHeld3
namespace Go.Proofs.Ytncijclhfndniaa
open Go.RowKit
attribute [local irreducible] byteVals okB zeros pad strOf Dk.wCode Dk.sCode Dk.write Dk.sync Dk.crash Dk.on Dk.rd Dk.ask Dk.fail P2 Kz
def clV (c : Cl) (n nf : Nat) : Array Value := #[.int .u8 (c.k : Int), .int .i64 c.i, .slice c.a n c.c, .slice c.fa nf c.fc]
theorem Mine.blk {w w' : World} {g : Nat} {l : List Nat} (h : Mine w g l) (hk : w'.heap[g]? = w.heap[g]?) : Mine w' g l :=
  ⟨h.1, fun i hi => by rw [cell_of_blk hk]; exact h.2.1 i hi, fun i hi => by rw [World.frozen?_of_block (w := w) (a := ⟨g, i, none⟩) hk]; exact h.2.2 i hi⟩
theorem BytesAt.kz {Z : Nat → Prop} {w w' : World} {a : Option Addr} {l : List Nat} (h : BytesAt w a l) (hk : Kz Z w w') (hz : l ≠ [] → ∀ b o, a = some ⟨b, o, none⟩ → Z b) : BytesAt w' a l := by
  unfold Kz at hk
  exact BytesAt.bar hk h (fun hne b o e hn => hn (hz hne b o e))
theorem RowIn.kz {Z : Nat → Prop} {w w' : World} {a : Option Addr} {c : Nat} {l : List Nat} (h : RowIn w a c l) (hk : Kz Z w w') (hz : l ≠ [] → ∀ b o, a = some ⟨b, o, none⟩ → Z b) : RowIn w' a c l :=
  ⟨h.1, h.2.1.kz hk hz, h.2.2.1, fun b o e hne => Nat.lt_of_lt_of_le (h.2.2.2 b o e hne) (by unfold Kz at hk; exact hk.size)⟩
theorem Kz.blk {Z : Nat → Prop} {w w' : World} {k : Nat} (h : Kz Z w w') (hk : Z k) (hl : k < w.heap.size) : w'.heap[k]? = w.heap[k]? := by
  unfold Kz at h; exact h.block k hl (fun hn => hn hk)
theorem plus_one (x : Nat) : ∃ y : Nat, y < 256 ∧ IntKind.u8.wrap ((x : Int) + 1) = (y : Int) := ⟨(x + 1) % 256, Nat.mod_lt _ (by omega), by rw [IntKind.wrap_u8]; omega⟩
def Dk.app (s : Dk) (c : Cl) : Dk := if c.k % 9 = 3 then s.sync else if c.k % 9 = 4 then s else if c.k % 9 = 5 then s.fail c.i else if c.k % 9 = 6 then s.crash else if c.k % 9 = 7 then s.on c.f else s.write c.i c.b
/-- what 'does' is handed: the call, and that its rows are protected -/
structure DoIn (Z : Nat → Prop) (w : World) (d m : Nat) (s : Dk) (c : Cl) : Prop where
  p : P2 Z w d m s s
  cl : ClAt w c
  zb : c.b ≠ [] → ∀ b o, c.a = some ⟨b, o, none⟩ → Z b
  zf : c.f ≠ [] → ∀ b o, c.fa = some ⟨b, o, none⟩ → Z b
  op : s.op.length ≤ 100000
def DoTo (Z : Nat → Prop) (w : World) (d m : Nat) (s' : Dk) (e : Ending) (w' : World) : Prop := e = .returned (.bool true) ∧ P2 Z w' d m s' s' ∧ Kz Z w w'
def DoZ (Z : Nat → Prop) (B : Nat) (k : Nat) : Prop := Z k ∨ (k = B ∨ k = B + 1)
/-- behind the box of the call and its bytes as a row of one's own -/
theorem does_head {Z : Nat → Prop} {w : World} {d m n nf : Nat} {s : Dk} {c : Cl} (h : DoIn Z w d m s c) (hn : c.b.length = n) :
    ∃ W1 ci, (convert 29 9 (.slice c.a n c.c)).run Try.prog (w.alloc (.cells (clV c n nf) 32)) = .ok (.string (strOf c.b)) (w.alloc (.cells (clV c n nf) 32)) ∧
      (convert 9 29 (.string (strOf c.b))).run Try.prog (w.alloc (.cells (clV c n nf) 32)) = .ok (.slice (some ⟨w.heap.size + 1, 0, none⟩) n ci) W1 ∧
      W1.heap[w.heap.size]? = some (.cells (clV c n nf) 32 (0, 0)) ∧ Mine W1 (w.heap.size + 1) c.b ∧ Below w.heap.size w W1 ∧ w.heap.size + 1 < W1.heap.size ∧ P2 (DoZ Z w.heap.size) W1 d m s s ∧ RowIn W1 c.a c.c c.b ∧ RowIn W1 c.fa c.fc c.f := by
  have hbA := below1 w (.cells (clV c n nf) 32)
  have hsz : (w.alloc (.cells (clV c n nf) 32)).heap.size = w.heap.size + 1 := by simp
  have h1 := run_str (w.alloc (.cells (clV c n nf) 32)) c.a c.b n c.c hn (h.cl.2.2.1.2.1.below hbA)
  obtain ⟨W1, ci, h2, h3, h4, h5⟩ := run_byt_mine (w.alloc (.cells (clV c n nf) 32)) c.b n h.cl.2.2.1.2.1.1 hn
  have hbW := below_on hbA h4
  rw [hsz] at h2 h3 h5
  exact ⟨W1, ci, h1, h2, blk_keep h4 (heap_new1 w _), h3, hbW, h5, h.p.news hbW (N := fun k => k = w.heap.size ∨ k = w.heap.size + 1) (fun k hk => by rcases hk with rfl | rfl <;> omega) (fun k hk => hk), h.cl.2.2.1.below hbW, h.cl.2.2.2.below hbW⟩
set_option maxRecDepth 100000 in
set_option maxHeartbeats 8000000 in
theorem does_3 (Z : Nat → Prop) (d m n nf : Nat) (s : Dk) (c : Cl) (w : World) (h : DoIn Z w d m s c) (hn : c.b.length = n) (hnf : c.f.length = nf) (hk : c.k % 9 = 3) :
    Calls Try.prog 20 #[.pointer (some ⟨d, 0, none⟩), .pointer (some ⟨m, 0, none⟩), .agg (clV c n nf)] w (DoTo Z w d m s.sync) := by
  obtain ⟨W1, ci, hcv1, hcv2, hbox, hmine, hbW, hlt, hp, hrb, hrf⟩ := does_head (nf := nf) h hn
  have H := Lib.hid h
  have HN := Lib.hid hn
  have HNF := Lib.hid hnf
  have HMI := Lib.hid hmine
  have HBX := Lib.hid hbox
  have HBW := Lib.hid hbW
  have HP := Lib.hid hp
  have HRB := Lib.hid hrb
  have HRF := Lib.hid hrf
  have HLT := Lib.hid hlt
  unfold clV at hbox hcv1 hcv2
  have b0 := blk_cell hbox 0 _ rfl
  have b1 := blk_cell hbox 1 _ rfl
  have b2 := blk_cell hbox 2 _ rfl
  have b3 := blk_cell hbox 3 _ rfl
  have m1 : (0 : Int) ≤ c.k := by omega
  have m2 : (c.k : Int) < 256 := by have := h.cl.1; omega
  have q3 : (((c.k : Int) % 9) == 3) = true := by simp; omega
  have q4 : (((c.k : Int) % 9) == 4) = false := by simp; omega
  have q5 : (((c.k : Int) % 9) == 5) = false := by simp; omega
  have q6 : (((c.k : Int) % 9) == 6) = false := by simp; omega
  have q7 : (((c.k : Int) % 9) == 7) = false := by simp; omega
  have hn2 : (n : Int) ≤ 9223372036854775807 := by have := hrb.1; unfold maxLen at this; omega
  clear h hn hnf hmine hbox hbW hp hrb hrf hlt hk
  unfold clV
  go_enter Try.func20, Try.ntmps20
  go_wp2_with fail
  refine (p_sync_d HP.out).mono ?_
  rintro e w2 ⟨rfl, hp2, hk2⟩
  have HP2 := Lib.hid hp2
  have HK2 := Lib.hid hk2
  clear hp2 hk2
  go_wp2_with fail
  refine (p_sync_m HP2.out).mono ?_
  rintro e w3 ⟨rfl, hp3, hk3⟩
  have HP9 := Lib.hid hp3
  have HK9 := Lib.hid (HK2.out.trans hk3)
  clear hp3 hk3 HP2 HK2
  have d2 := HK9.out.cell (.inr (.inl rfl)) b2
  have hm9 : Mine w3 (w.heap.size + 1) c.b := HMI.out.blk (HK9.out.blk (.inr (.inr rfl)) HLT.out)
  have hcvA := run_str w3 (some ⟨w.heap.size + 1, 0, none⟩) c.b n ci HN.out hm9.bytes
  have hcvB := run_str w3 c.a c.b n c.c HN.out (HRB.out.2.1.kz HK9.out (fun hne b o e => .inl (H.out.zb hne b o e)))
  have HM9 := Lib.hid hm9
  have HKZ : Hid (Kz Z w w3) := Lib.hid ((Kz.of_below HBW.out).trans (HK9.out.mono (fun k hk => .inl hk)))
  have HPZ := Lib.hid H.out.p
  clear hm9 HMI HBX HBW HP HRB HRF hcv1 hcv2 
  go_wp2_with fail
  go_loopw [13] (fun i wr => ∃ (k : Nat) (l : List Nat), k ≤ n ∧ i = .int .i64 k ∧ l.length = n ∧ Mine wr (w.heap.size + 1) l ∧ P2 (DoZ Z w.heap.size) wr d m s.sync s.sync ∧ Kz Z w wr) (fun i _ => n - (intOf i).toNat)
  case atStart => exact ⟨0, c.b, by omega, rfl, HN.out, HM9.out, HP9.out, HKZ.out⟩
  case round =>
    obtain ⟨k, l, hk, rfl, hl, hM, hP, hZ⟩ := hrel
    clear HM9 HKZ HP9 hcvA hcvB
    by_cases hlt : k < n
    · have c1 := hM.2.1 k (by omega)
      have c2 := hM.2.2 k (by omega)
      obtain ⟨y, hy, hyw⟩ := plus_one (l.getD k 0)
      have e1 : (0 : Int) ≤ k := by omega
      have e2 : (k : Int) < n := by omega
      obtain ⟨x, hx⟩ : ∃ x, x = l.getD k 0 := ⟨_, rfl⟩
      rw [← hx] at c1 hyw
      have HM := Lib.hid hM
      have HPP := Lib.hid hP
      have HZ := Lib.hid hZ
      have HL := Lib.hid hl
      clear hx hM hP hZ hl
      go_wp2_with fail
      go_roundw
      case rel => exact ⟨k + 1, l.set k y, by omega, by go_num, by rw [List.length_set]; exact HL.out, HM.out.store (by rw [HL.out]; exact hlt) hy, HPP.out.set (only1' _ _ _ _) (.inr (.inr rfl)), HZ.out.trans (Kz.only (only1' _ _ _ _) (fun hz => by have := HPZ.out; unfold P2 at this; have := this.1 _ hz; omega))⟩
      case measure => simp [intOf]; omega
    · obtain rfl : n = k := by omega
      have HPP := Lib.hid hP
      have HZ := Lib.hid hZ
      clear hM hP hZ hl
      go_wp2_with fail
      go_ret
      exact ⟨rfl, HPP.out.mono (fun _ hk => .inl hk), HZ.out⟩
set_option maxRecDepth 100000 in
set_option maxHeartbeats 8000000 in
theorem does_4 (Z : Nat → Prop) (d m n nf : Nat) (s : Dk) (c : Cl) (w : World) (h : DoIn Z w d m s c) (hn : c.b.length = n) (hnf : c.f.length = nf) (hk : c.k % 9 = 4) :
    Calls Try.prog 20 #[.pointer (some ⟨d, 0, none⟩), .pointer (some ⟨m, 0, none⟩), .agg (clV c n nf)] w (DoTo Z w d m s) := by
  obtain ⟨W1, ci, hcv1, hcv2, hbox, hmine, hbW, hlt, hp, hrb, hrf⟩ := does_head (nf := nf) h hn
  have H := Lib.hid h
  have HN := Lib.hid hn
  have HNF := Lib.hid hnf
  have HMI := Lib.hid hmine
  have HBX := Lib.hid hbox
  have HBW := Lib.hid hbW
  have HP := Lib.hid hp
  have HRB := Lib.hid hrb
  have HRF := Lib.hid hrf
  have HLT := Lib.hid hlt
  unfold clV at hbox hcv1 hcv2
  have b0 := blk_cell hbox 0 _ rfl
  have b1 := blk_cell hbox 1 _ rfl
  have b2 := blk_cell hbox 2 _ rfl
  have b3 := blk_cell hbox 3 _ rfl
  have m1 : (0 : Int) ≤ c.k := by omega
  have m2 : (c.k : Int) < 256 := by have := h.cl.1; omega
  have q3 : (((c.k : Int) % 9) == 3) = false := by simp; omega
  have q4 : (((c.k : Int) % 9) == 4) = true := by simp; omega
  have q5 : (((c.k : Int) % 9) == 5) = false := by simp; omega
  have q6 : (((c.k : Int) % 9) == 6) = false := by simp; omega
  have q7 : (((c.k : Int) % 9) == 7) = false := by simp; omega
  have hn2 : (n : Int) ≤ 9223372036854775807 := by have := hrb.1; unfold maxLen at this; omega
  clear h hn hnf hmine hbox hbW hp hrb hrf hlt hk
  unfold clV
  go_enter Try.func20, Try.ntmps20
  go_wp2_with fail
  refine (p_read_d HP.out c.i).mono ?_
  rintro e w2 ⟨a2, c2, n2, hn3, rfl, hby, h256, _, hb2⟩
  have b1' := cell_later hb2 b1
  have hcvR := run_str w2 a2 (s.rd c.i) n2 c2 hn3.symm hby
  have HP9 := Lib.hid (HP.out.below hb2)
  have HK9 : Hid (Kz (DoZ Z w.heap.size) W1 w2) := Lib.hid (Kz.of_below hb2)
  clear hn3 hby hb2
  go_wp2_with fail
  refine (p_read_m HP9.out c.i).mono ?_
  rintro e w3 ⟨rfl, rfl⟩
  have d2 := HK9.out.cell (.inr (.inl rfl)) b2
  have hm9 : Mine w2 (w.heap.size + 1) c.b := HMI.out.blk (HK9.out.blk (.inr (.inr rfl)) HLT.out)
  have hcvA := run_str w2 (some ⟨w.heap.size + 1, 0, none⟩) c.b n ci HN.out hm9.bytes
  have hcvB := run_str w2 c.a c.b n c.c HN.out (HRB.out.2.1.kz HK9.out (fun hne b o e => .inl (H.out.zb hne b o e)))
  have HM9 := Lib.hid hm9
  have HKZ : Hid (Kz Z w w2) := Lib.hid ((Kz.of_below HBW.out).trans (HK9.out.mono (fun k hk => .inl hk)))
  have HPZ := Lib.hid H.out.p
  clear hm9 HMI HBX HBW HP HRB HRF hcv1 hcv2 
  go_wp2_with fail
  go_loopw [13] (fun i wr => ∃ (k : Nat) (l : List Nat), k ≤ n ∧ i = .int .i64 k ∧ l.length = n ∧ Mine wr (w.heap.size + 1) l ∧ P2 (DoZ Z w.heap.size) wr d m s s ∧ Kz Z w wr) (fun i _ => n - (intOf i).toNat)
  case atStart => exact ⟨0, c.b, by omega, rfl, HN.out, HM9.out, HP9.out, HKZ.out⟩
  case round =>
    obtain ⟨k, l, hk, rfl, hl, hM, hP, hZ⟩ := hrel
    clear HM9 HKZ HP9 hcvA hcvB
    by_cases hlt : k < n
    · have c1 := hM.2.1 k (by omega)
      have c2 := hM.2.2 k (by omega)
      obtain ⟨y, hy, hyw⟩ := plus_one (l.getD k 0)
      have e1 : (0 : Int) ≤ k := by omega
      have e2 : (k : Int) < n := by omega
      obtain ⟨x, hx⟩ : ∃ x, x = l.getD k 0 := ⟨_, rfl⟩
      rw [← hx] at c1 hyw
      have HM := Lib.hid hM
      have HPP := Lib.hid hP
      have HZ := Lib.hid hZ
      have HL := Lib.hid hl
      clear hx hM hP hZ hl
      go_wp2_with fail
      go_roundw
      case rel => exact ⟨k + 1, l.set k y, by omega, by go_num, by rw [List.length_set]; exact HL.out, HM.out.store (by rw [HL.out]; exact hlt) hy, HPP.out.set (only1' _ _ _ _) (.inr (.inr rfl)), HZ.out.trans (Kz.only (only1' _ _ _ _) (fun hz => by have := HPZ.out; unfold P2 at this; have := this.1 _ hz; omega))⟩
      case measure => simp [intOf]; omega
    · obtain rfl : n = k := by omega
      have HPP := Lib.hid hP
      have HZ := Lib.hid hZ
      clear hM hP hZ hl
      go_wp2_with fail
      go_ret
      exact ⟨rfl, HPP.out.mono (fun _ hk => .inl hk), HZ.out⟩
set_option maxRecDepth 100000 in
set_option maxHeartbeats 8000000 in
theorem does_5 (Z : Nat → Prop) (d m n nf : Nat) (s : Dk) (c : Cl) (w : World) (h : DoIn Z w d m s c) (hn : c.b.length = n) (hnf : c.f.length = nf) (hk : c.k % 9 = 5) :
    Calls Try.prog 20 #[.pointer (some ⟨d, 0, none⟩), .pointer (some ⟨m, 0, none⟩), .agg (clV c n nf)] w (DoTo Z w d m (s.fail c.i)) := by
  obtain ⟨W1, ci, hcv1, hcv2, hbox, hmine, hbW, hlt, hp, hrb, hrf⟩ := does_head (nf := nf) h hn
  have H := Lib.hid h
  have HN := Lib.hid hn
  have HNF := Lib.hid hnf
  have HMI := Lib.hid hmine
  have HBX := Lib.hid hbox
  have HBW := Lib.hid hbW
  have HP := Lib.hid hp
  have HRB := Lib.hid hrb
  have HRF := Lib.hid hrf
  have HLT := Lib.hid hlt
  unfold clV at hbox hcv1 hcv2
  have b0 := blk_cell hbox 0 _ rfl
  have b1 := blk_cell hbox 1 _ rfl
  have b2 := blk_cell hbox 2 _ rfl
  have b3 := blk_cell hbox 3 _ rfl
  have m1 : (0 : Int) ≤ c.k := by omega
  have m2 : (c.k : Int) < 256 := by have := h.cl.1; omega
  have q3 : (((c.k : Int) % 9) == 3) = false := by simp; omega
  have q4 : (((c.k : Int) % 9) == 4) = false := by simp; omega
  have q5 : (((c.k : Int) % 9) == 5) = true := by simp; omega
  have q6 : (((c.k : Int) % 9) == 6) = false := by simp; omega
  have q7 : (((c.k : Int) % 9) == 7) = false := by simp; omega
  have hn2 : (n : Int) ≤ 9223372036854775807 := by have := hrb.1; unfold maxLen at this; omega
  clear h hn hnf hmine hbox hbW hp hrb hrf hlt hk
  unfold clV
  go_enter Try.func20, Try.ntmps20
  go_wp2_with fail
  refine (p_fail_d HP.out c.i (by have := H.out.cl.2.1.2; exact this)).mono ?_
  rintro e w2 ⟨rfl, hp2, hk2⟩
  have HP2 := Lib.hid hp2
  have HK2 := Lib.hid hk2
  clear hp2 hk2
  have b1' := HK2.out.cell (.inr (.inl rfl)) b1
  go_wp2_with fail
  refine (p_fail_m HP2.out c.i (by have := H.out.cl.2.1.2; exact this)).mono ?_
  rintro e w3 ⟨rfl, hp3, hk3⟩
  have HP9 := Lib.hid hp3
  have HK9 := Lib.hid (HK2.out.trans hk3)
  clear hp3 hk3 HP2 HK2
  have d2 := HK9.out.cell (.inr (.inl rfl)) b2
  have hm9 : Mine w3 (w.heap.size + 1) c.b := HMI.out.blk (HK9.out.blk (.inr (.inr rfl)) HLT.out)
  have hcvA := run_str w3 (some ⟨w.heap.size + 1, 0, none⟩) c.b n ci HN.out hm9.bytes
  have hcvB := run_str w3 c.a c.b n c.c HN.out (HRB.out.2.1.kz HK9.out (fun hne b o e => .inl (H.out.zb hne b o e)))
  have HM9 := Lib.hid hm9
  have HKZ : Hid (Kz Z w w3) := Lib.hid ((Kz.of_below HBW.out).trans (HK9.out.mono (fun k hk => .inl hk)))
  have HPZ := Lib.hid H.out.p
  clear hm9 HMI HBX HBW HP HRB HRF hcv1 hcv2 b1'
  go_wp2_with fail
  go_loopw [13] (fun i wr => ∃ (k : Nat) (l : List Nat), k ≤ n ∧ i = .int .i64 k ∧ l.length = n ∧ Mine wr (w.heap.size + 1) l ∧ P2 (DoZ Z w.heap.size) wr d m (s.fail c.i) (s.fail c.i) ∧ Kz Z w wr) (fun i _ => n - (intOf i).toNat)
  case atStart => exact ⟨0, c.b, by omega, rfl, HN.out, HM9.out, HP9.out, HKZ.out⟩
  case round =>
    obtain ⟨k, l, hk, rfl, hl, hM, hP, hZ⟩ := hrel
    clear HM9 HKZ HP9 hcvA hcvB
    by_cases hlt : k < n
    · have c1 := hM.2.1 k (by omega)
      have c2 := hM.2.2 k (by omega)
      obtain ⟨y, hy, hyw⟩ := plus_one (l.getD k 0)
      have e1 : (0 : Int) ≤ k := by omega
      have e2 : (k : Int) < n := by omega
      obtain ⟨x, hx⟩ : ∃ x, x = l.getD k 0 := ⟨_, rfl⟩
      rw [← hx] at c1 hyw
      have HM := Lib.hid hM
      have HPP := Lib.hid hP
      have HZ := Lib.hid hZ
      have HL := Lib.hid hl
      clear hx hM hP hZ hl
      go_wp2_with fail
      go_roundw
      case rel => exact ⟨k + 1, l.set k y, by omega, by go_num, by rw [List.length_set]; exact HL.out, HM.out.store (by rw [HL.out]; exact hlt) hy, HPP.out.set (only1' _ _ _ _) (.inr (.inr rfl)), HZ.out.trans (Kz.only (only1' _ _ _ _) (fun hz => by have := HPZ.out; unfold P2 at this; have := this.1 _ hz; omega))⟩
      case measure => simp [intOf]; omega
    · obtain rfl : n = k := by omega
      have HPP := Lib.hid hP
      have HZ := Lib.hid hZ
      clear hM hP hZ hl
      go_wp2_with fail
      go_ret
      exact ⟨rfl, HPP.out.mono (fun _ hk => .inl hk), HZ.out⟩
set_option maxRecDepth 100000 in
set_option maxHeartbeats 8000000 in
theorem does_6 (Z : Nat → Prop) (d m n nf : Nat) (s : Dk) (c : Cl) (w : World) (h : DoIn Z w d m s c) (hn : c.b.length = n) (hnf : c.f.length = nf) (hk : c.k % 9 = 6) :
    Calls Try.prog 20 #[.pointer (some ⟨d, 0, none⟩), .pointer (some ⟨m, 0, none⟩), .agg (clV c n nf)] w (DoTo Z w d m s.crash) := by
  obtain ⟨W1, ci, hcv1, hcv2, hbox, hmine, hbW, hlt, hp, hrb, hrf⟩ := does_head (nf := nf) h hn
  have H := Lib.hid h
  have HN := Lib.hid hn
  have HNF := Lib.hid hnf
  have HMI := Lib.hid hmine
  have HBX := Lib.hid hbox
  have HBW := Lib.hid hbW
  have HP := Lib.hid hp
  have HRB := Lib.hid hrb
  have HRF := Lib.hid hrf
  have HLT := Lib.hid hlt
  unfold clV at hbox hcv1 hcv2
  have b0 := blk_cell hbox 0 _ rfl
  have b1 := blk_cell hbox 1 _ rfl
  have b2 := blk_cell hbox 2 _ rfl
  have b3 := blk_cell hbox 3 _ rfl
  have m1 : (0 : Int) ≤ c.k := by omega
  have m2 : (c.k : Int) < 256 := by have := h.cl.1; omega
  have q3 : (((c.k : Int) % 9) == 3) = false := by simp; omega
  have q4 : (((c.k : Int) % 9) == 4) = false := by simp; omega
  have q5 : (((c.k : Int) % 9) == 5) = false := by simp; omega
  have q6 : (((c.k : Int) % 9) == 6) = true := by simp; omega
  have q7 : (((c.k : Int) % 9) == 7) = false := by simp; omega
  have hn2 : (n : Int) ≤ 9223372036854775807 := by have := hrb.1; unfold maxLen at this; omega
  clear h hn hnf hmine hbox hbW hp hrb hrf hlt hk
  unfold clV
  go_enter Try.func20, Try.ntmps20
  go_wp2_with fail
  refine (p_crash_d HP.out).mono ?_
  rintro e w2 ⟨rfl, hp2, hk2⟩
  have HP2 := Lib.hid hp2
  have HK2 := Lib.hid hk2
  clear hp2 hk2
  go_wp2_with fail
  refine (p_crash_m HP2.out).mono ?_
  rintro e w3 ⟨rfl, hp3, hk3⟩
  have HP9 := Lib.hid hp3
  have HK9 := Lib.hid (HK2.out.trans hk3)
  clear hp3 hk3 HP2 HK2
  have d2 := HK9.out.cell (.inr (.inl rfl)) b2
  have hm9 : Mine w3 (w.heap.size + 1) c.b := HMI.out.blk (HK9.out.blk (.inr (.inr rfl)) HLT.out)
  have hcvA := run_str w3 (some ⟨w.heap.size + 1, 0, none⟩) c.b n ci HN.out hm9.bytes
  have hcvB := run_str w3 c.a c.b n c.c HN.out (HRB.out.2.1.kz HK9.out (fun hne b o e => .inl (H.out.zb hne b o e)))
  have HM9 := Lib.hid hm9
  have HKZ : Hid (Kz Z w w3) := Lib.hid ((Kz.of_below HBW.out).trans (HK9.out.mono (fun k hk => .inl hk)))
  have HPZ := Lib.hid H.out.p
  clear hm9 HMI HBX HBW HP HRB HRF hcv1 hcv2 
  go_wp2_with fail
  go_loopw [13] (fun i wr => ∃ (k : Nat) (l : List Nat), k ≤ n ∧ i = .int .i64 k ∧ l.length = n ∧ Mine wr (w.heap.size + 1) l ∧ P2 (DoZ Z w.heap.size) wr d m s.crash s.crash ∧ Kz Z w wr) (fun i _ => n - (intOf i).toNat)
  case atStart => exact ⟨0, c.b, by omega, rfl, HN.out, HM9.out, HP9.out, HKZ.out⟩
  case round =>
    obtain ⟨k, l, hk, rfl, hl, hM, hP, hZ⟩ := hrel
    clear HM9 HKZ HP9 hcvA hcvB
    by_cases hlt : k < n
    · have c1 := hM.2.1 k (by omega)
      have c2 := hM.2.2 k (by omega)
      obtain ⟨y, hy, hyw⟩ := plus_one (l.getD k 0)
      have e1 : (0 : Int) ≤ k := by omega
      have e2 : (k : Int) < n := by omega
      obtain ⟨x, hx⟩ : ∃ x, x = l.getD k 0 := ⟨_, rfl⟩
      rw [← hx] at c1 hyw
      have HM := Lib.hid hM
      have HPP := Lib.hid hP
      have HZ := Lib.hid hZ
      have HL := Lib.hid hl
      clear hx hM hP hZ hl
      go_wp2_with fail
      go_roundw
      case rel => exact ⟨k + 1, l.set k y, by omega, by go_num, by rw [List.length_set]; exact HL.out, HM.out.store (by rw [HL.out]; exact hlt) hy, HPP.out.set (only1' _ _ _ _) (.inr (.inr rfl)), HZ.out.trans (Kz.only (only1' _ _ _ _) (fun hz => by have := HPZ.out; unfold P2 at this; have := this.1 _ hz; omega))⟩
      case measure => simp [intOf]; omega
    · obtain rfl : n = k := by omega
      have HPP := Lib.hid hP
      have HZ := Lib.hid hZ
      clear hM hP hZ hl
      go_wp2_with fail
      go_ret
      exact ⟨rfl, HPP.out.mono (fun _ hk => .inl hk), HZ.out⟩
set_option maxRecDepth 100000 in
set_option maxHeartbeats 8000000 in
theorem does_7 (Z : Nat → Prop) (d m n nf : Nat) (s : Dk) (c : Cl) (w : World) (h : DoIn Z w d m s c) (hn : c.b.length = n) (hnf : c.f.length = nf) (hk : c.k % 9 = 7) :
    Calls Try.prog 20 #[.pointer (some ⟨d, 0, none⟩), .pointer (some ⟨m, 0, none⟩), .agg (clV c n nf)] w (DoTo Z w d m (s.on c.f)) := by
  obtain ⟨W1, ci, hcv1, hcv2, hbox, hmine, hbW, hlt, hp, hrb, hrf⟩ := does_head (nf := nf) h hn
  have H := Lib.hid h
  have HN := Lib.hid hn
  have HNF := Lib.hid hnf
  have HMI := Lib.hid hmine
  have HBX := Lib.hid hbox
  have HBW := Lib.hid hbW
  have HP := Lib.hid hp
  have HRB := Lib.hid hrb
  have HRF := Lib.hid hrf
  have HLT := Lib.hid hlt
  unfold clV at hbox hcv1 hcv2
  have b0 := blk_cell hbox 0 _ rfl
  have b1 := blk_cell hbox 1 _ rfl
  have b2 := blk_cell hbox 2 _ rfl
  have b3 := blk_cell hbox 3 _ rfl
  have m1 : (0 : Int) ≤ c.k := by omega
  have m2 : (c.k : Int) < 256 := by have := h.cl.1; omega
  have q3 : (((c.k : Int) % 9) == 3) = false := by simp; omega
  have q4 : (((c.k : Int) % 9) == 4) = false := by simp; omega
  have q5 : (((c.k : Int) % 9) == 5) = false := by simp; omega
  have q6 : (((c.k : Int) % 9) == 6) = false := by simp; omega
  have q7 : (((c.k : Int) % 9) == 7) = true := by simp; omega
  have hn2 : (n : Int) ≤ 9223372036854775807 := by have := hrb.1; unfold maxLen at this; omega
  clear h hn hnf hmine hbox hbW hp hrb hrf hlt hk
  unfold clV
  go_enter Try.func20, Try.ntmps20
  go_wp2_with fail
  refine (p_on_d HP.out c.f c.fa c.fc nf HNF.out HRF.out (fun hne b o e => .inl (H.out.zf hne b o e))).mono ?_
  rintro e w2 ⟨rfl, hp2, hk2⟩
  have HP2 := Lib.hid hp2
  have HK2 := Lib.hid hk2
  clear hp2 hk2
  have b3' := HK2.out.cell (.inr (.inl rfl)) b3
  go_wp2_with fail
  refine (p_on_m HP2.out c.f c.fa c.fc nf HNF.out (HRF.out.kz HK2.out (fun hne b o e => .inl (H.out.zf hne b o e))) (fun hne b o e => .inl (H.out.zf hne b o e))).mono ?_
  rintro e w3 ⟨rfl, hp3, hk3⟩
  have HP9 := Lib.hid hp3
  have HK9 := Lib.hid (HK2.out.trans hk3)
  clear hp3 hk3 HP2 HK2
  have d2 := HK9.out.cell (.inr (.inl rfl)) b2
  have hm9 : Mine w3 (w.heap.size + 1) c.b := HMI.out.blk (HK9.out.blk (.inr (.inr rfl)) HLT.out)
  have hcvA := run_str w3 (some ⟨w.heap.size + 1, 0, none⟩) c.b n ci HN.out hm9.bytes
  have hcvB := run_str w3 c.a c.b n c.c HN.out (HRB.out.2.1.kz HK9.out (fun hne b o e => .inl (H.out.zb hne b o e)))
  have HM9 := Lib.hid hm9
  have HKZ : Hid (Kz Z w w3) := Lib.hid ((Kz.of_below HBW.out).trans (HK9.out.mono (fun k hk => .inl hk)))
  have HPZ := Lib.hid H.out.p
  clear hm9 HMI HBX HBW HP HRB HRF hcv1 hcv2 b3'
  go_wp2_with fail
  go_loopw [13] (fun i wr => ∃ (k : Nat) (l : List Nat), k ≤ n ∧ i = .int .i64 k ∧ l.length = n ∧ Mine wr (w.heap.size + 1) l ∧ P2 (DoZ Z w.heap.size) wr d m (s.on c.f) (s.on c.f) ∧ Kz Z w wr) (fun i _ => n - (intOf i).toNat)
  case atStart => exact ⟨0, c.b, by omega, rfl, HN.out, HM9.out, HP9.out, HKZ.out⟩
  case round =>
    obtain ⟨k, l, hk, rfl, hl, hM, hP, hZ⟩ := hrel
    clear HM9 HKZ HP9 hcvA hcvB
    by_cases hlt : k < n
    · have c1 := hM.2.1 k (by omega)
      have c2 := hM.2.2 k (by omega)
      obtain ⟨y, hy, hyw⟩ := plus_one (l.getD k 0)
      have e1 : (0 : Int) ≤ k := by omega
      have e2 : (k : Int) < n := by omega
      obtain ⟨x, hx⟩ : ∃ x, x = l.getD k 0 := ⟨_, rfl⟩
      rw [← hx] at c1 hyw
      have HM := Lib.hid hM
      have HPP := Lib.hid hP
      have HZ := Lib.hid hZ
      have HL := Lib.hid hl
      clear hx hM hP hZ hl
      go_wp2_with fail
      go_roundw
      case rel => exact ⟨k + 1, l.set k y, by omega, by go_num, by rw [List.length_set]; exact HL.out, HM.out.store (by rw [HL.out]; exact hlt) hy, HPP.out.set (only1' _ _ _ _) (.inr (.inr rfl)), HZ.out.trans (Kz.only (only1' _ _ _ _) (fun hz => by have := HPZ.out; unfold P2 at this; have := this.1 _ hz; omega))⟩
      case measure => simp [intOf]; omega
    · obtain rfl : n = k := by omega
      have HPP := Lib.hid hP
      have HZ := Lib.hid hZ
      clear hM hP hZ hl
      go_wp2_with fail
      go_ret
      exact ⟨rfl, HPP.out.mono (fun _ hk => .inl hk), HZ.out⟩
set_option maxRecDepth 100000 in
set_option maxHeartbeats 8000000 in
theorem does_0 (Z : Nat → Prop) (d m n nf : Nat) (s : Dk) (c : Cl) (w : World) (h : DoIn Z w d m s c) (hn : c.b.length = n) (hnf : c.f.length = nf) (hk : (c.k % 9 ≠ 3 ∧ c.k % 9 ≠ 4 ∧ c.k % 9 ≠ 5 ∧ c.k % 9 ≠ 6 ∧ c.k % 9 ≠ 7)) :
    Calls Try.prog 20 #[.pointer (some ⟨d, 0, none⟩), .pointer (some ⟨m, 0, none⟩), .agg (clV c n nf)] w (DoTo Z w d m (s.write c.i c.b)) := by
  obtain ⟨W1, ci, hcv1, hcv2, hbox, hmine, hbW, hlt, hp, hrb, hrf⟩ := does_head (nf := nf) h hn
  have H := Lib.hid h
  have HN := Lib.hid hn
  have HNF := Lib.hid hnf
  have HMI := Lib.hid hmine
  have HBX := Lib.hid hbox
  have HBW := Lib.hid hbW
  have HP := Lib.hid hp
  have HRB := Lib.hid hrb
  have HRF := Lib.hid hrf
  have HLT := Lib.hid hlt
  unfold clV at hbox hcv1 hcv2
  have b0 := blk_cell hbox 0 _ rfl
  have b1 := blk_cell hbox 1 _ rfl
  have b2 := blk_cell hbox 2 _ rfl
  have b3 := blk_cell hbox 3 _ rfl
  have m1 : (0 : Int) ≤ c.k := by omega
  have m2 : (c.k : Int) < 256 := by have := h.cl.1; omega
  have q3 : (((c.k : Int) % 9) == 3) = false := by simp; omega
  have q4 : (((c.k : Int) % 9) == 4) = false := by simp; omega
  have q5 : (((c.k : Int) % 9) == 5) = false := by simp; omega
  have q6 : (((c.k : Int) % 9) == 6) = false := by simp; omega
  have q7 : (((c.k : Int) % 9) == 7) = false := by simp; omega
  have hn2 : (n : Int) ≤ 9223372036854775807 := by have := hrb.1; unfold maxLen at this; omega
  clear h hn hnf hmine hbox hbW hp hrb hrf hlt hk
  unfold clV
  go_enter Try.func20, Try.ntmps20
  go_wp2_with fail
  have hby := HRB.out.2.1
  refine wp_region_held_drew (S := (fun w' => w'.cell? ⟨w.heap.size, 1, none⟩ = some (.int .i64 c.i) ∧ w'.cell? ⟨w.heap.size, 2, none⟩ = some (.slice c.a n c.c) ∧ BytesAt w' c.a c.b)) (by kernel_rfl) ⟨b1, b2, hby⟩ (fun hH => ?_)
  refine wpAnyH_take (i := 0) (v := .pointer (some ⟨d, 0, none⟩)) rfl (by kernel_rfl) (by kernel_rfl) (by kernel_rfl) (fun _ _ _ h => h) (Or.inl ⟨by rfl, fun w hS => by obtain ⟨e1, e2, e3⟩ := hS; go_simp⟩) hH ?_
  refine wpAnyH_take (i := 1) (v := .pointer (some ⟨w.heap.size, 1, none⟩)) rfl (by kernel_rfl) (by kernel_rfl) (by kernel_rfl) (fun _ _ _ h => h) (Or.inl ⟨by rfl, fun w hS => by obtain ⟨e1, e2, e3⟩ := hS; go_simp⟩) hH ?_
  refine wpAnyH_take (i := 2) (v := .int .i64 c.i) rfl (by kernel_rfl) (by kernel_rfl) (by kernel_rfl) (fun _ _ _ h => h) (Or.inl ⟨by rfl, fun w hS => by obtain ⟨e1, e2, e3⟩ := hS; go_simp⟩) hH ?_
  refine wpAnyH_take (i := 3) (v := .slice (some ⟨w.heap.size + 1, 0, none⟩) n ci) rfl (by kernel_rfl) (by kernel_rfl) (by kernel_rfl) (fun _ _ _ h => h) (Or.inl ⟨by rfl, fun w hS => by obtain ⟨e1, e2, e3⟩ := hS; go_simp⟩) hH ?_
  refine wpAnyH_take (i := 5) (v := .pointer (some ⟨m, 0, none⟩)) rfl (by kernel_rfl) (by kernel_rfl) (by kernel_rfl) (fun _ _ _ h => h) (Or.inl ⟨by rfl, fun w hS => by obtain ⟨e1, e2, e3⟩ := hS; go_simp⟩) hH ?_
  refine wpAnyH_take (i := 6) (v := .pointer (some ⟨w.heap.size, 1, none⟩)) rfl (by kernel_rfl) (by kernel_rfl) (by kernel_rfl) (fun _ _ _ h => h) (Or.inl ⟨by rfl, fun w hS => by obtain ⟨e1, e2, e3⟩ := hS; go_simp⟩) hH ?_
  refine wpAnyH_take (i := 7) (v := .int .i64 c.i) rfl (by kernel_rfl) (by kernel_rfl) (by kernel_rfl) (fun _ _ _ h => h) (Or.inl ⟨by rfl, fun w hS => by obtain ⟨e1, e2, e3⟩ := hS; go_simp⟩) hH ?_
  refine wpAnyH_take (i := 8) (v := .pointer (some ⟨w.heap.size, 2, none⟩)) rfl (by kernel_rfl) (by kernel_rfl) (by kernel_rfl) (fun _ _ _ h => h) (Or.inl ⟨by rfl, fun w hS => by obtain ⟨e1, e2, e3⟩ := hS; go_simp⟩) hH ?_
  refine wpAnyH_take (i := 9) (v := .slice c.a n c.c) rfl (by kernel_rfl) (by kernel_rfl) (by kernel_rfl) (fun _ _ _ h => h) (Or.inl ⟨by rfl, fun w hS => by obtain ⟨e1, e2, e3⟩ := hS; go_simp⟩) hH ?_
  refine wpAnyH_take (i := 10) (v := .string (strOf c.b)) rfl (by kernel_rfl) (by kernel_rfl) (by kernel_rfl) (fun _ _ _ h => h) (Or.inl ⟨by rfl, fun w hS => by have e4 := run_str w c.a c.b n c.c HN.out hS.2.2; go_simp⟩) hH ?_
  refine wpAnyH_ready (rs := [4]) (by kernel_rfl) (by simp) (AllReadyH.cons (o := ⟨some 25, _, _, _, _, _⟩) rfl (fun K hK => ?_) AllReadyH.nil)
  go_simp
  have hP1 : P2 (DoZ Z w.heap.size) W1.drew d m s s := HP.out.below ((Below.refl _ W1).drew)
  refine (p_write_d hP1 c.i c.b _ n ci HN.out HMI.out.bytes (fun e => (by cases e)) H.out.op).mono ?_
  rintro e w2 ⟨rfl, hp2, hk2⟩
  have hk2' : Kz (DoZ Z w.heap.size) W1 w2 := (Kz.of_below ((Below.refl _ W1).drew)).trans hk2
  have HP2 := Lib.hid hp2
  have HK2 := Lib.hid hk2'
  refine hK.out _ _ ⟨hk2'.cell (.inr (.inl rfl)) b1, hk2'.cell (.inr (.inl rfl)) b2, hby.kz hk2' (fun hne b o e => .inl (H.out.zb hne b o e))⟩ (fun hH2 => ?_)
  clear hK K hp2 hk2 hk2' hP1
  refine wpAnyH_ready (rs := [11]) (by kernel_rfl) (by simp) (AllReadyH.cons (o := ⟨some 32, _, _, _, _, _⟩) rfl (fun K hK => ?_) AllReadyH.nil)
  go_simp
  refine (p_write_m HP2.out c.i c.b HRB.out.2.1.1 HRB.out.1 H.out.op).mono ?_
  rintro e w3 ⟨rfl, hp3, hk3⟩
  have hk9 := HK2.out.trans hk3
  have HP9 := Lib.hid hp3
  have HK9 := Lib.hid hk9
  have hS3 := (show w3.cell? ⟨w.heap.size, 1, none⟩ = some (.int .i64 c.i) ∧ w3.cell? ⟨w.heap.size, 2, none⟩ = some (.slice c.a n c.c) ∧ BytesAt w3 c.a c.b from ⟨hk9.cell (.inr (.inl rfl)) b1, hk9.cell (.inr (.inl rfl)) b2, hby.kz hk9 (fun hne b o e => .inl (H.out.zb hne b o e))⟩)
  refine hK.out _ _ hS3 (fun hH3 => ?_)
  clear hK K hp3 hk3 hk9 HP2 HK2 hH hH2 hS3
  refine wpAnyH_take (i := 12) (v := .bool true) rfl (by kernel_rfl) (by kernel_rfl) (by kernel_rfl) (fun _ _ _ h => h) (Or.inl ⟨by rfl, fun w hS => by go_simp⟩) hH3 ?_
  refine wpAnyH_take (i := 13) (v := .bool true) rfl (by kernel_rfl) (by kernel_rfl) (by kernel_rfl) (fun _ _ _ h => h) (Or.inl ⟨by rfl, fun w hS => by go_simp⟩) hH3 ?_
  refine wpAnyH_done (by kernel_rfl) ?_ _
  clear hH3 hby
  have d2 := HK9.out.cell (.inr (.inl rfl)) b2
  have hm9 : Mine w3 (w.heap.size + 1) c.b := HMI.out.blk (HK9.out.blk (.inr (.inr rfl)) HLT.out)
  have hcvA := run_str w3 (some ⟨w.heap.size + 1, 0, none⟩) c.b n ci HN.out hm9.bytes
  have hcvB := run_str w3 c.a c.b n c.c HN.out (HRB.out.2.1.kz HK9.out (fun hne b o e => .inl (H.out.zb hne b o e)))
  have HM9 := Lib.hid hm9
  have HKZ : Hid (Kz Z w w3) := Lib.hid ((Kz.of_below HBW.out).trans (HK9.out.mono (fun k hk => .inl hk)))
  have HPZ := Lib.hid H.out.p
  clear hm9 HMI HBX HBW HP HRB HRF hcv1 hcv2 
  go_wp2_with fail
  go_loopw [13] (fun i wr => ∃ (k : Nat) (l : List Nat), k ≤ n ∧ i = .int .i64 k ∧ l.length = n ∧ Mine wr (w.heap.size + 1) l ∧ P2 (DoZ Z w.heap.size) wr d m (s.write c.i c.b) (s.write c.i c.b) ∧ Kz Z w wr) (fun i _ => n - (intOf i).toNat)
  case atStart => exact ⟨0, c.b, by omega, rfl, HN.out, HM9.out, HP9.out, HKZ.out⟩
  case round =>
    obtain ⟨k, l, hk, rfl, hl, hM, hP, hZ⟩ := hrel
    clear HM9 HKZ HP9 hcvA hcvB
    by_cases hlt : k < n
    · have c1 := hM.2.1 k (by omega)
      have c2 := hM.2.2 k (by omega)
      obtain ⟨y, hy, hyw⟩ := plus_one (l.getD k 0)
      have e1 : (0 : Int) ≤ k := by omega
      have e2 : (k : Int) < n := by omega
      obtain ⟨x, hx⟩ : ∃ x, x = l.getD k 0 := ⟨_, rfl⟩
      rw [← hx] at c1 hyw
      have HM := Lib.hid hM
      have HPP := Lib.hid hP
      have HZ := Lib.hid hZ
      have HL := Lib.hid hl
      clear hx hM hP hZ hl
      go_wp2_with fail
      go_roundw
      case rel => exact ⟨k + 1, l.set k y, by omega, by go_num, by rw [List.length_set]; exact HL.out, HM.out.store (by rw [HL.out]; exact hlt) hy, HPP.out.set (only1' _ _ _ _) (.inr (.inr rfl)), HZ.out.trans (Kz.only (only1' _ _ _ _) (fun hz => by have := HPZ.out; unfold P2 at this; have := this.1 _ hz; omega))⟩
      case measure => simp [intOf]; omega
    · obtain rfl : n = k := by omega
      have HPP := Lib.hid hP
      have HZ := Lib.hid hZ
      clear hM hP hZ hl
      go_wp2_with fail
      go_ret
      exact ⟨rfl, HPP.out.mono (fun _ hk => .inl hk), HZ.out⟩
theorem does_any (Z : Nat → Prop) (d m n nf : Nat) (s : Dk) (c : Cl) (w : World) (h : DoIn Z w d m s c) (hn : c.b.length = n) (hnf : c.f.length = nf) :
    Calls Try.prog 20 #[.pointer (some ⟨d, 0, none⟩), .pointer (some ⟨m, 0, none⟩), .agg (clV c n nf)] w (DoTo Z w d m (s.app c)) := by
  unfold Dk.app
  by_cases h3 : c.k % 9 = 3
  · rw [if_pos h3]; exact does_3 Z d m n nf s c w h hn hnf h3
  rw [if_neg h3]
  by_cases h4 : c.k % 9 = 4
  · rw [if_pos h4]; exact does_4 Z d m n nf s c w h hn hnf h4
  rw [if_neg h4]
  by_cases h5 : c.k % 9 = 5
  · rw [if_pos h5]; exact does_5 Z d m n nf s c w h hn hnf h5
  rw [if_neg h5]
  by_cases h6 : c.k % 9 = 6
  · rw [if_pos h6]; exact does_6 Z d m n nf s c w h hn hnf h6
  rw [if_neg h6]
  by_cases h7 : c.k % 9 = 7
  · rw [if_pos h7]; exact does_7 Z d m n nf s c w h hn hnf h7
  rw [if_neg h7]
  exact does_0 Z d m n nf s c w h hn hnf ⟨h3, h4, h5, h6, h7⟩
end Go.Proofs.Ytncijclhfndniaa
