/-
  Chapter 14: the disk's calls beside blocks that nobody may write; the walk of 'works'.
-/
import Derived.Test.YtncijclhfndniaaDiskJ
import Derived.Test.YtncijclhfndniaaBytes
import Derived.Lib.SlBytesConst
namespace Go.Proofs.Ytncijclhfndniaa
open Go.RowKit
attribute [local irreducible] byteVals wrVs wrV BlAt okB

/-- the disk lies beside the blocks of Z -/
def DZ (Z : Nat → Prop) (w : World) (g : Nat) (s : Dk) : Prop := (∀ k, Z k → k < w.heap.size) ∧ ∃ X, DAt w X g s ∧ ∀ k, X k → ¬ Z k
/-- the blocks of Z are as they were -/
def Kz (Z : Nat → Prop) (w w' : World) : Prop := Bar (fun k => ¬ Z k) w w'
theorem Kz.refl (Z : Nat → Prop) (w : World) : Kz Z w w := Bar.refl _ _
theorem Kz.trans {Z : Nat → Prop} {a b c : World} (h : Kz Z a b) (k : Kz Z b c) : Kz Z a c := Bar.trans h k
theorem Kz.of_below {Z : Nat → Prop} {w w' : World} (h : Below w.heap.size w w') : Kz Z w w' := Bar.of_below h
theorem Kz.keep {Z : Nat → Prop} {w w' : World} {k : Nat} {o : Obj} (h : Kz Z w w') (hk : Z k) (hw : w.heap[k]? = some o) : w'.heap[k]? = some o := by
  rw [h.block k (blk_lt hw) (fun hn => hn hk), hw]
theorem Kz.mono {Z Y : Nat → Prop} {w w' : World} (h : Kz Z w w') (hy : ∀ k, Y k → Z k) : Kz Y w w' := Bar.mono h (fun _ _ hz hk => hz (hy _ hk))
theorem Kz.below {Z : Nat → Prop} {B : Nat} {a w w' : World} (h : Below B a w) (hs : B ≤ w.heap.size) (hz : ∀ k, k < B → Z k) (k : Kz Z w w') : Below B a w' :=
  Bar.below h (fun i hi => by rcases Nat.lt_or_ge i B with h | h; exact absurd (hz i h) hi; exact h) hs k
theorem Kz.only {Z : Nat → Prop} {g : Nat} {w w' : World} (h : Only g w w') (hg : ¬ Z g) : Kz Z w w' := ⟨h.os, h.tape, h.output, h.size, fun k hk hz => h.block k hk (fun e => hz (e ▸ hg))⟩
theorem Kz.cell {Z : Nat → Prop} {w w' : World} {k o : Nat} {v : Value} (h : Kz Z w w') (hk : Z k) (hc : w.cell? ⟨k, o, none⟩ = some v) : w'.cell? ⟨k, o, none⟩ = some v := by
  rw [cell_of_blk (h.block k (World.block_lt_of_cell? _ ⟨k, o, none⟩ hc) (fun hn => hn hk))]; exact hc
theorem DZ.below {Z : Nat → Prop} {w w' : World} {g : Nat} {s : Dk} (h : DZ Z w g s) (hb : Below w.heap.size w w') : DZ Z w' g s := by
  obtain ⟨h1, X, h2, h3⟩ := h
  exact ⟨fun k hk => Nat.lt_of_lt_of_le (h1 k hk) hb.size, X, h2.below hb, h3⟩
theorem DZ.mono {Z Y : Nat → Prop} {w : World} {g : Nat} {s : Dk} (h : DZ Z w g s) (hy : ∀ k, Y k → Z k) : DZ Y w g s := by
  obtain ⟨h1, X, h2, h3⟩ := h
  exact ⟨fun k hk => h1 k (hy k hk), X, h2, fun k hk hn => h3 k hk (hy k hn)⟩
/-- what is new may be added -/
theorem DZ.add {Z : Nat → Prop} {w w' : World} {g lo : Nat} {s : Dk} (h : DZ Z w g s) (hb : Below w.heap.size w w') (hlo : w.heap.size ≤ lo) (hs : lo < w'.heap.size) : DZ (fun k => Z k ∨ k = lo) w' g s := by
  obtain ⟨h1, X, h2, h3⟩ := h
  refine ⟨fun k hk => ?_, X, h2.below hb, fun k hk hn => ?_⟩
  · rcases hk with hk | hk
    · exact Nat.lt_of_lt_of_le (h1 k hk) hb.size
    · rw [hk]; exact hs
  · rcases hn with hn | hn
    · exact h3 k hk hn
    · have := h2.lt k hk; omega
/-- a block of Z is written -/
theorem DZ.set {Z : Nat → Prop} {w w' : World} {g b : Nat} {s : Dk} (h : DZ Z w g s) (ho : Only b w w') (hb : Z b) : DZ Z w' g s := by
  obtain ⟨h1, X, h2, h3⟩ := h
  exact ⟨fun k hk => Nat.lt_of_lt_of_le (h1 k hk) ho.size, X, h2.keep ho.size (fun k hk => ho.block k (h2.lt k hk) (fun e => h3 k hk (e ▸ hb))), h3⟩
theorem DZ.ok {Z : Nat → Prop} {w : World} {g : Nat} {s : Dk} (h : DZ Z w g s) : s.ok := by obtain ⟨_, X, h2, _⟩ := h; exact h2.ok
theorem dz_step {Z X X' : Nat → Prop} {w w' : World} {g : Nat} {s' : Dk} (h1 : ∀ k, Z k → k < w.heap.size) (h3 : ∀ k, X k → ¬ Z k) (hd : DAt w' X' g s') (hg : Gr X X' w.heap.size) (hb : Bar X w w') : DZ Z w' g s' ∧ Kz Z w w' :=
  ⟨⟨fun k hk => Nat.lt_of_lt_of_le (h1 k hk) hb.size, X', hd, fun k hk hn => by
    rcases hg k hk with h | h
    · exact h3 k h hn
    · have := h1 k hn; omega⟩, hb.mono (fun k _ hk => h3 k hk)⟩
theorem new_z (n : Int) (m : Nat) (hm : (m : Int) = max 0 (min 4096 n)) (w : World) : Calls Try.prog 8 #[.int .i64 n] w fun e w' => ∃ g, e = .returned (.pointer (some ⟨g, 0, none⟩)) ∧ DZ (fun k => k < w.heap.size) w' g (Dk.new m) ∧ Below w.heap.size w w' := by
  refine (new_any n w).mono ?_
  rintro e w' ⟨X, g, m', h1, rfl, h3, h4, h5⟩
  obtain rfl : m' = m := by omega
  exact ⟨g, rfl, ⟨fun k hk => Nat.lt_of_lt_of_le hk h5.size, X, h3, fun k hk hn => by have := h4 k hk; omega⟩, h5⟩
theorem write_z {Z : Nat → Prop} {s : Dk} {g : Nat} {w : World} (h : DZ Z w g s) (i : Int) (b : List Nat) (a : Option Addr) (n cap : Nat) (hn : b.length = n) (hb : BytesAt w a b) (hc : a = none → cap = 0) (hl : s.op.length ≤ 100000) (v : Int) (hv : s.wCode i b = v) (s' : Dk) (hs : s.write i b = s') :
    Calls Try.prog 12 #[.pointer (some ⟨g, 0, none⟩), .int .i64 i, .slice a n cap] w fun e w' => e = .returned (.int .i64 v) ∧ DZ Z w' g s' ∧ Kz Z w w' := by
  obtain ⟨h1, X, h2, h3⟩ := h
  subst hn hv hs
  refine (write_any s X g i b a cap w h2 hb hc ⟨by unfold maxLen; omega, by omega⟩).mono ?_
  rintro e w' ⟨X', rfl, hd, hg, hb⟩
  exact ⟨rfl, dz_step h1 h3 hd hg hb⟩
theorem sync_z {Z : Nat → Prop} {s : Dk} {g : Nat} {w : World} (h : DZ Z w g s) (v : Int) (hv : s.sCode = v) (s' : Dk) (hs : s.sync = s') :
    Calls Try.prog 11 #[.pointer (some ⟨g, 0, none⟩)] w fun e w' => e = .returned (.int .i64 v) ∧ DZ Z w' g s' ∧ Kz Z w w' := by
  obtain ⟨h1, X, h2, h3⟩ := h
  subst hv hs
  refine (sync_any s X g w h2).mono ?_
  rintro e w' ⟨rfl, hd, hb⟩
  exact ⟨rfl, dz_step h1 h3 hd (Gr.refl _ _) hb⟩
theorem fail_z {Z : Nat → Prop} {s : Dk} {g : Nat} {w : World} (h : DZ Z w g s) (n : Int) (hn : n ≤ 9223372036854775807) (s' : Dk) (hs : s.fail n = s') :
    Calls Try.prog 9 #[.pointer (some ⟨g, 0, none⟩), .int .i64 n] w fun e w' => e = .returned (.tuple #[]) ∧ DZ Z w' g s' ∧ Kz Z w w' := by
  obtain ⟨h1, X, h2, h3⟩ := h
  subst hs
  have hxg : X g := by obtain ⟨ad, cb, v, ap, h⟩ := h2; exact h.xg
  refine (fail_any s X g n w h2 hn).mono ?_
  rintro e w' ⟨X', rfl, hd, hg, hb⟩
  exact ⟨rfl, dz_step h1 h3 hd hg ((Bar.refl X w).only hb (fun _ => hxg))⟩
theorem crash_z {Z : Nat → Prop} {s : Dk} {g : Nat} {w : World} (h : DZ Z w g s) (s' : Dk) (hs : s.crash = s') :
    Calls Try.prog 13 #[.pointer (some ⟨g, 0, none⟩)] w fun e w' => e = .returned (.tuple #[]) ∧ DZ Z w' g s' ∧ Kz Z w w' := by
  obtain ⟨h1, X, h2, h3⟩ := h
  subst hs
  have hxg : X g := by obtain ⟨ad, cb, v, ap, h⟩ := h2; exact h.xg
  refine (crash_any s X g w h2).mono ?_
  rintro e w' ⟨rfl, hd, hb⟩
  exact ⟨rfl, dz_step h1 h3 hd (Gr.refl _ _) ((Bar.refl X w).only hb (fun _ => hxg))⟩
theorem on_z {Z : Nat → Prop} {s : Dk} {g : Nat} {w : World} (h : DZ Z w g s) (f : List Nat) (fa : Option Addr) (n fc : Nat) (hn : f.length = n) (hf : BytesAt w fa f) (hl : n ≤ maxLen) (hx : f = [] ∨ ∀ b o, fa = some ⟨b, o, none⟩ → Z b) (s' : Dk) (hs : s.on f = s') :
    Calls Try.prog 14 #[.pointer (some ⟨g, 0, none⟩), .slice fa n fc] w fun e w' => e = .returned (.tuple #[]) ∧ DZ Z w' g s' ∧ Kz Z w w' := by
  obtain ⟨h1, X, h2, h3⟩ := h
  subst hn hs
  refine (on_any s X g f fa fc w h2 hf hl (fun hne b o e hn => h3 b hn (hx.resolve_left hne b o e))).mono ?_
  rintro e w' ⟨rfl, hd, hb⟩
  exact ⟨rfl, dz_step h1 h3 hd (Gr.refl _ _) hb⟩
theorem off_z {Z : Nat → Prop} {s : Dk} {g : Nat} {w : World} (h : DZ Z w g s) (v : Bool) (hv : s.off = v) : Calls Try.prog 10 #[.pointer (some ⟨g, 0, none⟩)] w fun e w' => e = .returned (.bool v) ∧ w = w' := by
  obtain ⟨h1, X, h2, h3⟩ := h
  subst hv
  exact off_any s X g w h2
theorem blocks_z {Z : Nat → Prop} {s : Dk} {g : Nat} {w : World} (h : DZ Z w g s) (v : Int) (hv : (s.bl.length : Int) = v) : Calls Try.prog 22 #[.pointer (some ⟨g, 0, none⟩)] w fun e w' => e = .returned (.int .i64 v) ∧ w = w' := by
  obtain ⟨h1, X, h2, h3⟩ := h
  subst hv
  exact blocks_any s X g w h2
theorem steps_z {Z : Nat → Prop} {s : Dk} {g : Nat} {w : World} (h : DZ Z w g s) (v : Int) (hv : s.st = v) : Calls Try.prog 23 #[.pointer (some ⟨g, 0, none⟩)] w fun e w' => e = .returned (.int .i64 v) ∧ w = w' := by
  obtain ⟨h1, X, h2, h3⟩ := h
  subst hv
  exact steps_any s X g w h2
theorem open_z {Z : Nat → Prop} {s : Dk} {g : Nat} {w : World} (h : DZ Z w g s) (v : Int) (hv : (s.op.length : Int) = v) : Calls Try.prog 24 #[.pointer (some ⟨g, 0, none⟩)] w fun e w' => e = .returned (.int .i64 v) ∧ w = w' := by
  obtain ⟨h1, X, h2, h3⟩ := h
  subst hv
  exact open_any s X g w h2
/-- what Read answers: a row of the call's own -/
def ReadTo (w : World) (l : List Nat) (n : Nat) (v : Int) (e : Ending) (w' : World) : Prop := ∃ B, e = .returned (.tuple #[.slice (some ⟨B, 0, none⟩) n 256, .int .i64 v]) ∧ w.heap.size ≤ B ∧ B < w'.heap.size ∧ Mine w' B l ∧ l.length = n ∧ Below w.heap.size w w'
theorem read_z {Z : Nat → Prop} {s : Dk} {g : Nat} {w : World} (h : DZ Z w g s) (i : Int) (ha : s.ask i = 0) (l : List Nat) (hl : s.rd i = l) (hne : l.length = 256) : Calls Try.prog 15 #[.pointer (some ⟨g, 0, none⟩), .int .i64 i] w (ReadTo w l 256 0) := by
  obtain ⟨h1, X, h2, h3⟩ := h
  refine (read_any s X g i w h2).mono ?_
  rintro e w' ⟨⟨a, c, rfl, h⟩, hb⟩
  rw [hl] at h
  rcases h with ⟨h, _⟩ | ⟨B, rfl, hB, hB2, rfl, hm⟩
  · rw [h] at hne; cases hne
  · exact ⟨B, by rw [hl, hne, ha], hB, hB2, hm, hne, hb⟩

theorem bytes_lit {w : World} {g : Nat} {t : TypeId} {fr : Nat × Nat} {C : Array Value} (l : List Nat) (hl : ∀ c ∈ l, c < 256) (hC : C = (l.map fun (c : Nat) => Value.int .u8 (c : Int)).toArray) (hg : w.heap[g]? = some (.cells C t fr)) :
    BytesAt w (some ⟨g, 0, none⟩) l := by
  subst hC
  refine ⟨hl, .inr ⟨g, 0, rfl, fun i hi => ?_⟩⟩
  simp only [World.cell?, hg]
  simp [hi]
def W0 : Dk := Dk.new 2
def W1 : Dk := W0.write 0 [65, 66]
def W2 : Dk := W1.sync
def W3 : Dk := W2.write 0 [99, 100]
def W4 : Dk := W3.crash
def W5 : Dk := W4.on [1]
theorem w0_op : W0.op.length = 0 := by decide +kernel
theorem w2_op : W2.op.length = 0 := by decide +kernel
theorem w5_ask : W5.ask 0 = 0 := by decide +kernel
theorem w5_len : (W5.rd 0).length = 256 := by decide +kernel
theorem w5_three : (W5.rd 0).take 3 = [99, 66, 0] := by decide +kernel
theorem w5_bl : (W5.bl.length : Int) = 2 := by decide +kernel
theorem w5_op : (W5.op.length : Int) = 0 := by decide +kernel
theorem w1_code : W0.wCode 0 [65, 66] = 0 := by decide +kernel
theorem w2_code : W1.sCode = 0 := by decide +kernel
theorem w3_code : W2.wCode 0 [99, 100] = 0 := by decide +kernel
attribute [local irreducible] Dk.wCode Dk.sCode Dk.write Dk.sync Dk.crash Dk.on Dk.rd Dk.ask Dk.fail W0 W1 W2 W3 W4 W5 DZ Kz
theorem BytesAt.take3 {w : World} {a : Option Addr} {l t : List Nat} (h : BytesAt w a l) (ht : l.take 3 = t) : BytesAt w a t := ht ▸ h.take 3
set_option maxHeartbeats 2000000 in
theorem works_any (w : World) : Calls Try.prog 7 #[] w fun e w' => e = .returned (.bool true) ∧ Below w.heap.size w w' := by
  have kc := fun (w : World) (C : Array Value) (n c : Nat) => Lib.run_convert_bytes_const (P := Try.prog) w 29 5 C n c Try.underlying29 Try.underlying5
  go_enter Try.func7, Try.ntmps7
  go_wp2_with fail
  refine (new_z 2 2 (by omega) w).mono ?_
  rintro e w0 ⟨g, rfl, hd0, hb0⟩
  have D0 : Hid (DZ (fun k => k < w.heap.size) w0 g W0) := Lib.hid (by unfold W0; exact hd0)
  have B0 := Lib.hid hb0
  clear hd0 hb0
  go_wp2_with fail
  refine (write_z (D0.out.below (below1 w0 _)) 0 [65, 66] _ 2 2 rfl (bytes_lit _ (by decide) rfl (heap_new _ _)) (fun h => (by cases h)) (by rw [w0_op]; decide) 0 w1_code W1 (by unfold W1; rfl)).mono ?_
  rintro e w1 ⟨rfl, hd1, hk1⟩
  have D1 := Lib.hid hd1
  have B1 := Lib.hid (Kz.below (below_on B0.out (below1 w0 _)) (Nat.le_trans B0.out.size (below1 w0 _).size) (fun k hk => hk) hk1)
  clear hd1 hk1 D0 B0
  go_wp2_with fail
  refine (sync_z D1.out 0 w2_code W2 (by unfold W2; rfl)).mono ?_
  rintro e w2 ⟨rfl, hd2, hk2⟩
  have D2 := Lib.hid hd2
  have B2 := Lib.hid (Kz.below B1.out B1.out.size (fun k hk => hk) hk2)
  clear hd2 hk2 D1 B1
  go_wp2_with fail
  refine (write_z (D2.out.below (below1 w2 _)) 0 [99, 100] _ 2 2 rfl (bytes_lit _ (by decide) rfl (heap_new _ _)) (fun h => (by cases h)) (by rw [w2_op]; decide) 0 w3_code W3 (by unfold W3; rfl)).mono ?_
  rintro e w3 ⟨rfl, hd3, hk3⟩
  have D3 := Lib.hid hd3
  have B3 := Lib.hid (Kz.below (below_on B2.out (below1 w2 _)) (Nat.le_trans B2.out.size (below1 w2 _).size) (fun k hk => hk) hk3)
  clear hd3 hk3 D2 B2
  go_wp2_with fail
  refine (crash_z D3.out W4 (by unfold W4; rfl)).mono ?_
  rintro e w4 ⟨rfl, hd4, hk4⟩
  have D4 := Lib.hid hd4
  have B4 := Lib.hid (Kz.below B3.out B3.out.size (fun k hk => hk) hk4)
  clear hd4 hk4 D3 B3
  go_wp2_with fail
  refine (on_z ((D4.out.add (below1 w4 _) (Nat.le_refl _) (by simp))) [1] _ 1 1 rfl (bytes_lit _ (by decide) rfl (heap_new _ _)) (by unfold maxLen; omega) (.inr (fun b o h => (by cases h; exact .inr rfl))) W5 (by unfold W5; rfl)).mono ?_
  rintro e w5 ⟨rfl, hd5, hk5⟩
  have D5 := Lib.hid (DZ.mono (Y := fun k => k < w.heap.size) hd5 (fun k hk => .inl hk))
  have B5 := Lib.hid (Kz.below (below_on B4.out (below1 w4 _)) (Nat.le_trans B4.out.size (below1 w4 _).size) (fun k hk => .inl hk) hk5)
  clear hd5 hk5 D4 B4
  go_wp2_with fail
  refine (read_z D5.out 0 w5_ask (W5.rd 0) rfl w5_len).mono ?_
  rintro e w6 ⟨B, rfl, hB1, hB2, hm, hlen, hb6⟩
  have D6 := Lib.hid (D5.out.below hb6)
  have B6 := Lib.hid (below_on B5.out hb6)
  have hs := run_str w6 (some ⟨B, 0, none⟩) [99, 66, 0] 3 256 rfl (hm.bytes.take3 w5_three)
  rw [show strOf [99, 66, 0] = ⟨#[99, 66, 0]⟩ by decide +kernel] at hs
  clear hm hlen hb6
  go_wp2_with fail
  refine (blocks_z D6.out 2 w5_bl).mono ?_
  rintro e w7 ⟨rfl, rfl⟩
  go_wp2_with fail
  refine (open_z D6.out 0 w5_op).mono ?_
  rintro e w7 ⟨rfl, rfl⟩
  go_wp2_with fail
  go_ret
  exact ⟨rfl, B6.out⟩
end Go.Proofs.Ytncijclhfndniaa
