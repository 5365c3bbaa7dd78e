/-
  Chapter 14: the walk of DiskKeeps.
-/
import Derived.Test.YtncijclhfndniaaDiskM
import Derived.Deep.CutRange
namespace Go.Proofs.Ytncijclhfndniaa
open Go.RowKit
attribute [local irreducible] byteVals wrVs wrV BlAt okB zeros pad strOf strRow boolRow byteRow Dk.wCode Dk.sCode Dk.write Dk.sync Dk.crash Dk.on Dk.rd Dk.ask Dk.fail Dk.goes Dk.count Dk.settle Dk.new DZ Kz getL StrAt BoolAt ByteAt
def fillZ (z : List Nat) (k : Nat) : List (List Nat) := List.replicate k z ++ List.replicate (8 - k) []
theorem fillZ_set (z : List Nat) (k : Nat) (hk : k < 8) : (fillZ z k).set k z = fillZ z (k + 1) := by
  match k, hk with
  | 0, _ => rfl
  | 1, _ => rfl
  | 2, _ => rfl
  | 3, _ => rfl
  | 4, _ => rfl
  | 5, _ => rfl
  | 6, _ => rfl
  | 7, _ => rfl
theorem fillZ_len (z : List Nat) (k : Nat) (hk : k ≤ 8) : (fillZ z k).length = 8 := by unfold fillZ; simp; omega
theorem fillZ_zero (z : List Nat) : fillZ z 0 = List.replicate 8 [] := rfl
theorem fillZ_all (z : List Nat) : fillZ z 8 = List.replicate 8 z := by unfold fillZ; simp
theorem StrAt.lt {w : World} {b : Nat} {L : List (List Nat)} (h : StrAt w b L) : b < w.heap.size := by unfold StrAt at h; exact blk_lt h
theorem StrAt.cell {w : World} {b : Nat} {L : List (List Nat)} (h : StrAt w b L) (j : Nat) (hj : j < L.length) : w.cell? ⟨b, j, none⟩ = some (.string (strOf (getL L j))) := by unfold StrAt at h; exact blk_cell h j _ (strRow_get L j hj)
theorem StrAt.free {w : World} {b : Nat} {L : List (List Nat)} (h : StrAt w b L) (j : Nat) : w.frozen? ⟨b, j, none⟩ = false := by unfold StrAt at h; exact blk_free h j
theorem StrAt.keep {w w' : World} {b : Nat} {L : List (List Nat)} (h : StrAt w b L) (hk : w'.heap[b]? = w.heap[b]?) : StrAt w' b L := by unfold StrAt at *; rw [hk, h]
theorem StrAt.below {w w' : World} {b : Nat} {L : List (List Nat)} (h : StrAt w b L) (hb : Below w.heap.size w w') : StrAt w' b L := h.keep (hb.block b h.lt)
theorem StrAt.other {w w' : World} {b c : Nat} {L : List (List Nat)} (h : StrAt w b L) (ho : Only c w w') (hc : ¬ b = c) : StrAt w' b L := h.keep (ho.block b h.lt hc)
theorem StrAt.kz {Z : Nat → Prop} {w w' : World} {b : Nat} {L : List (List Nat)} (h : StrAt w b L) (hk : Kz Z w w') (hz : Z b) : StrAt w' b L := by unfold Kz at hk; exact h.keep (hk.block b h.lt (fun hn => hn hz))
theorem BoolAt.lt {w : World} {b : Nat} {L : List Bool} (h : BoolAt w b L) : b < w.heap.size := by unfold BoolAt at h; exact blk_lt h
theorem BoolAt.cell {w : World} {b : Nat} {L : List Bool} (h : BoolAt w b L) (j : Nat) (hj : j < L.length) : w.cell? ⟨b, j, none⟩ = some (.bool (L.getD j false)) := by unfold BoolAt at h; exact blk_cell h j _ (boolRow_get L j hj)
theorem BoolAt.free {w : World} {b : Nat} {L : List Bool} (h : BoolAt w b L) (j : Nat) : w.frozen? ⟨b, j, none⟩ = false := by unfold BoolAt at h; exact blk_free h j
theorem BoolAt.keep {w w' : World} {b : Nat} {L : List Bool} (h : BoolAt w b L) (hk : w'.heap[b]? = w.heap[b]?) : BoolAt w' b L := by unfold BoolAt at *; rw [hk, h]
theorem BoolAt.below {w w' : World} {b : Nat} {L : List Bool} (h : BoolAt w b L) (hb : Below w.heap.size w w') : BoolAt w' b L := h.keep (hb.block b h.lt)
theorem BoolAt.other {w w' : World} {b c : Nat} {L : List Bool} (h : BoolAt w b L) (ho : Only c w w') (hc : ¬ b = c) : BoolAt w' b L := h.keep (ho.block b h.lt hc)
theorem BoolAt.kz {Z : Nat → Prop} {w w' : World} {b : Nat} {L : List Bool} (h : BoolAt w b L) (hk : Kz Z w w') (hz : Z b) : BoolAt w' b L := by unfold Kz at hk; exact h.keep (hk.block b h.lt (fun hn => hn hz))
theorem only1 (w : World) (b o : Nat) (v : Value) : Only b w (w.setCell ⟨b, o, none⟩ v) := (Only.refl b w).setCell (p := ⟨b, o, none⟩) rfl v
/-- two new rows of texts, each of its own -/
def TwoRows (w w' : World) (b1 b2 : Nat) : Prop := ¬ b1 = b2 ∧ w.heap.size ≤ b1 ∧ w.heap.size ≤ b2 ∧ StrAt w' b1 (List.replicate 8 []) ∧ StrAt w' b2 (List.replicate 8 []) ∧ Below w.heap.size w w'
theorem two_rows (w : World) {C : Array Value} (hC : C = strRow (List.replicate 8 [])) : StrAt ((w.alloc (.cells C 9)).alloc (.cells C 9)).drew w.heap.size (List.replicate 8 []) ∧ StrAt ((w.alloc (.cells C 9)).alloc (.cells C 9)).drew (w.heap.size + 1) (List.replicate 8 []) ∧ Below w.heap.size w ((w.alloc (.cells C 9)).alloc (.cells C 9)).drew := by
  have h := two_new w (.cells C 9) (.cells C 9)
  unfold StrAt
  rw [hC] at h ⊢
  exact ⟨h.1, h.2, below2 _ _ _⟩
theorem two_up (w : World) {C : Array Value} (hC : C = strRow (List.replicate 8 [])) : TwoRows w ((w.alloc (.cells C 9)).alloc (.cells C 9)).drew w.heap.size (w.heap.size + 1) :=
  ⟨by omega, by omega, by omega, two_rows w hC⟩
theorem two_down (w : World) {C : Array Value} (hC : C = strRow (List.replicate 8 [])) : TwoRows w ((w.alloc (.cells C 9)).alloc (.cells C 9)).drew (w.heap.size + 1) w.heap.size :=
  ⟨by omega, by omega, by omega, (two_rows w hC).2.1, (two_rows w hC).1, (two_rows w hC).2.2⟩
theorem zeros_okB' : ∀ x ∈ zeros, x < 256 := by have := zeros_okB; unfold okB at this; exact this.2
theorem DZ.news {Z Y V : Nat → Prop} {w w' : World} {g : Nat} {s : Dk} (h : DZ Z w g s) (hb : Below w.heap.size w w') (hY : ∀ k, Y k → w.heap.size ≤ k ∧ k < w'.heap.size) (hV : ∀ k, V k → Z k ∨ Y k) : DZ V w' g s := by
  unfold DZ at *
  obtain ⟨h1, X, h2, h3⟩ := h
  refine ⟨fun k hk => ?_, X, h2.below hb, fun k hk hn => ?_⟩
  · rcases hV k hk with hk | hk
    · exact Nat.lt_of_lt_of_le (h1 k hk) hb.size
    · exact (hY k hk).2
  · rcases hV k hn with hn | hn
    · exact h3 k hk hn
    · have := h2.lt k hk; have := (hY k hn).1; omega
/-- the blocks that the disk may not write -/
def ZB (B bs bn : Nat) (k : Nat) : Prop := k < B ∨ k = bs ∨ k = bn
def ZC (B bs bn bf : Nat) (k : Nat) : Prop := ZB B bs bn k ∨ k = bf
structure KAt (w1 : World) (g bs bn bf : Nat) (s : Dk) (su no : List (List Nat)) (fr : List Bool) (wr : World) : Prop where
  ki : KI s su no fr
  su : StrAt wr bs su
  no : StrAt wr bn no
  fr : BoolAt wr bf fr
  dz : DZ (ZC w1.heap.size bs bn bf) wr g s
  fs : ¬ bf = bs
  fn : ¬ bf = bn
  lo : w1.heap.size ≤ bf
  be : Below w1.heap.size w1 wr
/-- what holds at the head of DiskKeeps's loop -/
def KRel (w1 : World) (g bs bn n : Nat) (s9 s10 : Value) (wr : World) : Prop := ∃ (i : Nat) (s : Dk) (su no : List (List Nat)) (fr : List Bool) (bf : Nat), i ≤ n ∧ s.op.length ≤ i ∧ s10 = .int .i64 i ∧ s9 = .slice (some ⟨bf, 0, none⟩) 8 8 ∧ KAt w1 g bs bn bf s su no fr wr
theorem sync_go {s : Dk} (h1 : s.off = false) (h2 : s.goes = true) : s.sCode = 140 ∧ s.sync = s.count ∧ s.count.off = true := by
  refine ⟨?_, ?_, by rw [count_off h1]; exact h2⟩
  · unfold Dk.sCode; rw [if_pos (.inr h2)]
  · unfold Dk.sync; rw [h1, h2]; rfl
theorem sync_ok {s : Dk} (h1 : s.off = false) (h2 : s.goes = false) : s.sCode = 0 ∧ s.sync = s.count.settle ∧ s.count.settle.off = false ∧ s.count.settle.op = [] := by
  refine ⟨?_, ?_, ?_, ?_⟩
  · unfold Dk.sCode; rw [h1, h2]; rfl
  · unfold Dk.sync; rw [h1, h2]; rfl
  · unfold Dk.settle; show s.count.off = false; rw [count_off h1]; exact h2
  · unfold Dk.settle; rfl
theorem mix_set {no su : List (List Nat)} (hn : no.length = 8) (hs : su.length = 8) (j : Nat) (hj : j < 8) : (no.take j ++ su.drop j).set j (getL no j) = no.take (j + 1) ++ su.drop (j + 1) := by
  have e1 : no.take (j + 1) = no.take j ++ [getL no j] := by
    rw [List.take_succ_eq_append_getElem (by omega)]
    unfold getL
    rw [List.getD_eq_getElem?_getD, List.getElem?_eq_getElem (by omega)]; rfl
  have e2 : su.drop j = getL su j :: su.drop (j + 1) := by
    rw [List.drop_eq_getElem_cons (by omega)]
    unfold getL
    rw [List.getD_eq_getElem?_getD, List.getElem?_eq_getElem (by omega)]; rfl
  have e3 : (no.take j).length = j := by rw [List.length_take]; omega
  rw [e2, e1, List.append_assoc, List.set_append_right _ _ (by omega), e3, Nat.sub_self]
  rfl
theorem mix_len {no su : List (List Nat)} (hn : no.length = 8) (hs : su.length = 8) (j : Nat) (hj : j ≤ 8) : (no.take j ++ su.drop j).length = 8 := by
  rw [List.length_append, List.length_take, List.length_drop]; omega
theorem KAt.kz {w1 w w' : World} {g bs bn bf : Nat} {s s' : Dk} {su no : List (List Nat)} {fr : List Bool} (h : KAt w1 g bs bn bf s su no fr w) (hki : KI s' su no fr) (hd : DZ (ZC w1.heap.size bs bn bf) w' g s') (hk : Kz (ZC w1.heap.size bs bn bf) w w') : KAt w1 g bs bn bf s' su no fr w' :=
  ⟨hki, h.su.kz hk (.inl (.inr (.inl rfl))), h.no.kz hk (.inl (.inr (.inr rfl))), h.fr.kz hk (.inr rfl), hd, h.fs, h.fn, h.lo, Kz.below h.be h.be.size (fun _ hk => .inl (.inl hk)) hk⟩
/-- behind the Sync that may be -/
def KMid (w1 : World) (g bs bn i k : Nat) (no : List (List Nat)) (s9 : Value) (wx : World) : Prop := ∃ (s' : Dk) (su' : List (List Nat)) (fr' : List Bool) (bf' : Nat), s9 = .slice (some ⟨bf', 0, none⟩) 8 8 ∧ KAt w1 g bs bn bf' s' su' no fr' wx ∧ s'.op.length ≤ i ∧ (s'.off = false → fr'.getD k false = false)
theorem write_go {s : Dk} {k : Nat} {b : List Nat} (h1 : s.off = false) (hk : k < 8) (h8 : s.bl.length = 8) (hb : b.length ≤ 256) : s.write k b = Dk.count { s with op := s.op ++ [(k, pad b)] } := by
  have ha : s.ask k = 0 := by
    unfold Dk.ask
    rw [h1, h8, if_neg (by decide), if_neg (by omega)]
  unfold Dk.write
  rw [if_neg (by rintro (h | h); exact h ha; omega)]
  rfl
theorem bmix_set {b : List Nat} {z : List Nat} (hz : z.length = 256) (j : Nat) (hj : j < b.length) (hb : b.length ≤ 256) : (b.take j ++ z.drop j).set j (b.getD j 0) = b.take (j + 1) ++ z.drop (j + 1) := by
  have e1 : b.take (j + 1) = b.take j ++ [b.getD j 0] := take_succ_getD b j hj
  have e2 : z.drop j = z[j] :: z.drop (j + 1) := List.drop_eq_getElem_cons (by omega)
  have e3 : (b.take j).length = j := by rw [List.length_take]; omega
  rw [e2, e1, List.append_assoc, List.set_append_right _ _ (by omega), e3, Nat.sub_self]
  rfl
theorem bmix_all {b : List Nat} : b.take b.length ++ zeros.drop b.length = pad b := by
  unfold pad zeros
  rw [List.take_length, List.drop_replicate]
theorem bmix_len {b z : List Nat} (hz : z.length = 256) (j : Nat) (hj : j ≤ b.length) (hb : b.length ≤ 256) : (b.take j ++ z.drop j).length = 256 := by
  rw [List.length_append, List.length_take, List.length_drop]; omega
/-- the same without what the plain law says, beside one block more -/
structure KB (w1 : World) (g bs bn bf bb : Nat) (s : Dk) (su no : List (List Nat)) (fr : List Bool) (wr : World) : Prop where
  su : StrAt wr bs su
  no : StrAt wr bn no
  fr : BoolAt wr bf fr
  dz : DZ (fun k => ZC w1.heap.size bs bn bf k ∨ k = bb) wr g s
  be : Below w1.heap.size w1 wr
theorem KB.put {w1 w w' : World} {g bs bn bf bb : Nat} {s : Dk} {su no : List (List Nat)} {fr : List Bool} (h : KB w1 g bs bn bf bb s su no fr w) (ho : Only bb w w') (h1 : ¬ bs = bb) (h2 : ¬ bn = bb) (h3 : ¬ bf = bb) (h4 : w1.heap.size ≤ bb) : KB w1 g bs bn bf bb s su no fr w' :=
  ⟨h.su.other ho h1, h.no.other ho h2, h.fr.other ho h3, h.dz.set ho (.inr rfl), Only.below h.be h4 h.be.size ho⟩
theorem KB.done {w1 w : World} {g bs bn bf bb k : Nat} {s : Dk} {su no : List (List Nat)} {fr : List Bool} {p : List Nat} (h : KB w1 g bs bn bf bb s su no fr w) (hne : ¬ bs = bn) (hfs : ¬ bf = bs) (hfn : ¬ bf = bn) (hlo : w1.heap.size ≤ bn) (hlf : w1.heap.size ≤ bf) (hki : KI s su (no.set k p) (fr.set k true)) :
    KAt w1 g bs bn bf s su (no.set k p) (fr.set k true) ((w.setCell ⟨bn, k, none⟩ (.string (strOf p))).setCell ⟨bf, k, none⟩ (.bool true)) := by
  have o1 := only1 w bn k (.string (strOf p))
  have o2 := only1 (w.setCell ⟨bn, k, none⟩ (.string (strOf p))) bf k (.bool true)
  have hd := (h.dz.set o1 (.inl (.inl (.inr (.inr rfl))))).set o2 (.inl (.inr rfl))
  exact ⟨hki, (h.su.other o1 hne).other o2 (fun e => hfs e.symm), (h.no.set k p).other o2 (fun e => hfn e.symm), (h.fr.other o1 hfn).set k true, hd.mono (fun _ hk => .inl hk), hfs, hfn, hlf, (h.be.setCell (p := ⟨bn, k, none⟩) hlo _).setCell (p := ⟨bf, k, none⟩) hlf _⟩
theorem ByteAt.lt {w : World} {b : Nat} {L : List Nat} (h : ByteAt w b L) : b < w.heap.size := by unfold ByteAt at h; exact blk_lt h
theorem ByteAt.cell {w : World} {b : Nat} {L : List Nat} (h : ByteAt w b L) (j : Nat) (hj : j < L.length) : w.cell? ⟨b, j, none⟩ = some (.int .u8 ((L.getD j 0 : Nat) : Int)) := by unfold ByteAt at h; exact blk_cell h j _ (byteRow_get L j hj)
theorem ByteAt.free {w : World} {b : Nat} {L : List Nat} (h : ByteAt w b L) (j : Nat) : w.frozen? ⟨b, j, none⟩ = false := by unfold ByteAt at h; exact blk_free h j
theorem ByteAt.bytes {w : World} {b : Nat} {L : List Nat} (h : ByteAt w b L) (hl : ∀ x ∈ L, x < 256) : BytesAt w (some ⟨b, 0, none⟩) L := by unfold ByteAt at h; exact byteRow_bytes hl h
theorem and7 (a : Int) : ∃ k : Nat, k < 8 ∧ bits .and .i64 a 7 = (k : Int) := by
  refine ⟨(BitVec.ofInt 64 a &&& BitVec.ofInt 64 7).toNat, ?_, ?_⟩
  · rw [BitVec.toNat_and]
    have : (BitVec.ofInt 64 7).toNat = 7 := by decide
    rw [this]
    have := Nat.and_le_right (n := (BitVec.ofInt 64 a).toNat) (m := 7)
    omega
  · show IntKind.i64.wrap ((BitVec.ofInt 64 a &&& BitVec.ofInt 64 7).toNat : Int) = _
    have h : (BitVec.ofInt 64 a &&& BitVec.ofInt 64 7).toNat ≤ 7 := by
      rw [BitVec.toNat_and]
      have : (BitVec.ofInt 64 7).toNat = 7 := by decide
      rw [this]
      exact Nat.and_le_right
    rw [IntKind.wrap_i64]
    omega
theorem fates_at {w1 : World} {a : Option Addr} {l : List Cl} {n : Nat} (h : ClsAt w1 a l) (hn : l.length = n) (hs : ∀ (j : Nat) c, l[j]? = some c → c.b.length ≤ 6000 ∧ c.f.length ≤ 6000) :
    ∃ (fa : Option Addr) (fc : Nat) (f : List Nat), RowIn w1 fa fc f ∧ f.length ≤ 6000 ∧ ((n = 0 ∧ fa = none ∧ fc = 0 ∧ f.length = 0) ∨ (0 < n ∧ ∃ b off, a = some ⟨b, off, none⟩ ∧ ∀ W, Below w1.heap.size w1 W → W.cell? ⟨b, off + 3, none⟩ = some (.slice fa f.length fc))) := by
  rcases l with _ | ⟨c, l⟩
  · exact ⟨none, 0, [], ⟨Nat.zero_le _, ⟨(by simp), .inl rfl⟩, fun _ => rfl, fun b o h => by cases h⟩, Nat.zero_le _, .inl ⟨hn.symm, rfl, rfl, rfl⟩⟩
  · have hc : (c :: l)[0]? = some c := rfl
    refine ⟨c.fa, c.fc, c.f, (h.1 c List.mem_cons_self).2.2.2, (hs 0 c hc).2, .inr ⟨by rw [← hn]; simp, ?_⟩⟩
    obtain ⟨b, off, rfl, hcells⟩ := h.2.resolve_left (by simp)
    refine ⟨b, off, rfl, fun W hW => ?_⟩
    have := (hcells 0 c hc).2.2.2
    rw [Nat.zero_mul, Nat.add_zero] at this
    exact cell_later hW this
set_option maxRecDepth 100000 in
set_option maxHeartbeats 20000000 in
theorem keeps_any (a : Option Addr) (n cap : Nat) (l : List Cl) (pin : Int) (w : World) (hn : l.length = n) (hm : n ≤ maxLen) (hl : ClsAt w a l) (hp : pin ≤ 9223372036854775807) :
    Calls Try.prog 3 #[.slice a n cap, .int .i64 pin] w fun e w' => e = .returned (.bool true) ∧ Below w.heap.size w w' := by
  have hf := large_any a n cap l w hn hm hl
  have HN := Lib.hid hn
  have HP := Lib.hid hp
  clear hn hp
  go_enter Try.func3, Try.ntmps3
  go_wp2_with fail
  refine hf.mono ?_
  rintro e w1 ⟨B, rfl, hB, hb1⟩
  cases B with
  | true =>
    clear hB hf
    go_wp2_with fail
    refine (works_any _).mono ?_
    rintro e w3 ⟨rfl, hb3⟩
    go_wp2_with fail
    go_ret
    exact ⟨rfl, below_on hb1 hb3⟩
  | false =>
  have hsm := (hB rfl).2
  have HSM := Lib.hid hsm
  have hl1 := hl.below hb1
  clear hB hf hsm hl
  by_cases h40 : 40 < n
  · go_wp2_with fail
    refine (works_any _).mono ?_
    rintro e w3 ⟨rfl, hb3⟩
    go_wp2_with fail
    go_ret
    exact ⟨rfl, below_on hb1 hb3⟩
  have HL1 := Lib.hid hl1
  clear hl1
  go_wp2_with fail
  refine (new_z 8 8 (by omega) w1).mono ?_
  rintro e w2 ⟨g, rfl, hd2, hb2⟩
  have D2 := Lib.hid hd2
  have B2 := Lib.hid (below_on hb1 hb2)
  have HL1' := HL1
  have HB1W := Lib.hid hb1
  have HB2 := Lib.hid hb2
  clear hd2 hb2 HL1
  obtain ⟨s0, hs0⟩ : ∃ s, (Dk.new 8).fail pin = s := ⟨_, rfl⟩
  go_upto_region 5 with (fail)
  refine (fail_z D2.out pin HP.out s0 hs0).mono ?_
  rintro e w3 ⟨rfl, hd3, hk3⟩
  have D3 := Lib.hid hd3
  have K0 : Hid (KI s0 (List.replicate 8 zeros) (List.replicate 8 zeros) (List.replicate 8 false)) := Lib.hid (KI.start s0 (by rw [← hs0]; unfold Dk.fail Dk.new; rfl) (by rw [← hs0]; unfold Dk.fail Dk.new; rfl))
  have O0 : Hid (s0.op.length = 0) := Lib.hid (by rw [← hs0]; unfold Dk.fail Dk.new; rfl)
  have B3 : Hid (Below w1.heap.size w1 w3) := Lib.hid (Kz.below HB2.out HB2.out.size (fun k hk => hk) hk3)
  clear hd3 hk3 D2 HB2 hs0
  obtain ⟨C, hC, hmk⟩ := mk_str
  have HC := Lib.hid hC
  clear hC
  go_upto_region 5 with (fail)
  go_cut [6, 7] from 31 to 32 (fun s6 s7 wx => ∃ b1 b2 : Nat, s6 = .slice (some ⟨b1, 0, none⟩) 8 8 ∧ s7 = .slice (some ⟨b2, 0, none⟩) 8 8 ∧ TwoRows w3 wx b1 b2)
  case first =>
    go_region
    all_goals go_wp2
    all_goals go_meet
    all_goals first
      | exact ⟨_, _, rfl, rfl, two_up w3 HC.out⟩
      | exact ⟨_, _, rfl, rfl, two_down w3 HC.out⟩
  case rest =>
  obtain ⟨bs, bn, rfl, rfl, hne, hbs, hbn, hS, hN, hbc⟩ := hcut
  have hne2 : ¬ bn = bs := fun e => hne e.symm
  have hD' : DZ (ZB w1.heap.size bs bn) wc g s0 := D3.out.news hbc (Y := fun k => k = bs ∨ k = bn) (fun k hk => by rcases hk with rfl | rfl; exact ⟨hbs, hS.lt⟩; exact ⟨hbn, hN.lt⟩) (fun k hk => hk)
  have hB := below_on B3.out hbc
  have h13 := B3.out.size
  have hb1s : w1.heap.size ≤ bs := by omega
  have hb1n : w1.heap.size ≤ bn := by omega
  have HDc := Lib.hid hD'
  have HBc := Lib.hid hB
  have HSc := Lib.hid hS
  have HNc := Lib.hid hN
  clear hD' hB hS hN hbc D3 B3 HC
  obtain ⟨C2, hC2, hmk2⟩ := mk_byte
  have HC2 := Lib.hid hC2
  have HZL : Hid (zeros.length = 256) := Lib.hid (by unfold zeros; exact List.length_replicate)
  clear hC2
  go_wp2_with fail
  go_loopw [8] (fun i wr => ∃ k : Nat, k ≤ 8 ∧ i = .int .i64 k ∧ StrAt wr bs (fillZ zeros k) ∧ StrAt wr bn (fillZ zeros k) ∧ DZ (ZB w1.heap.size bs bn) wr g s0 ∧ Below w1.heap.size w1 wr) (fun i _ => 8 - (intOf i).toNat)
  case atStart => exact ⟨0, by omega, rfl, by rw [fillZ_zero]; exact HSc.out, by rw [fillZ_zero]; exact HNc.out, HDc.out, HBc.out⟩
  case round =>
    obtain ⟨k, hk, rfl, hS, hN, hD, hB⟩ := hrel
    clear HSc HNc HDc HBc
    by_cases hlt : k < 8
    · have d1 : (k : Int) < 8 := by omega
      have d2 : (0 : Int) ≤ k := by omega
      have hsl := hS.lt
      have hnl := hN.lt
      have c1 := hS.cell k (by rw [fillZ_len _ _ hk]; exact hlt)
      have c2 := hN.cell k (by rw [fillZ_len _ _ hk]; exact hlt)
      have f1 := hS.free k
      have f2 := hN.free k
      have hcv := run_str (wr.alloc (.cells C2 5)) (some ⟨wr.heap.size, 0, none⟩) zeros 256 256 HZL.out (byteRow_bytes zeros_okB' (by rw [HC2.out]; exact heap_new1 _ _))
      have HS := Lib.hid hS
      have HNN := Lib.hid hN
      have HD := Lib.hid hD
      have hbA := below1 wr (.cells C2 5)
      have HBA := Lib.hid hbA
      clear hS hN hD hbA
      go_wp2_with fail
      go_roundw
      case rel =>
        have hSA := HS.out.set k zeros
        rw [fillZ_set _ _ hlt] at hSA
        have hNA := (HNN.out.other (only1 _ bs k (.string (strOf zeros))) hne2).set k zeros
        rw [fillZ_set _ _ hlt] at hNA
        exact ⟨k + 1, by omega, by go_num, (hSA.other (only1 _ bn k _) hne).below (below1 _ _), hNA.below (below1 _ _), ((HD.out.set (only1 _ bs k _) (.inr (.inl rfl))).set (only1 _ bn k _) (.inr (.inr rfl))).below (below1 _ _), below_on ((hB.setCell (p := ⟨bs, k, none⟩) hb1s _).setCell (p := ⟨bn, k, none⟩) hb1n _) (below1 _ _)⟩
      case measure => simp [intOf]; omega
    · obtain rfl : k = 8 := by omega
      rw [fillZ_all] at hS hN
      obtain ⟨C3, hC3, hmk3⟩ := mk_bool
      have HC3 := Lib.hid hC3
      have HS := Lib.hid hS
      have HNN := Lib.hid hN
      have HD := Lib.hid hD
      have HB := Lib.hid hB
      have hsl := hS.lt
      have hnl := hN.lt
      clear hC3 hS hN hD hB hmk
      clear hb1
      go_wp2_with fail
      have hbA := below1 wr (.cells C3 4)
      have hF : BoolAt (wr.alloc (.cells C3 4)) wr.heap.size (List.replicate 8 false) := by unfold BoolAt; rw [HC3.out]; exact heap_new1 _ _
      have hK0 : KAt w1 g bs bn wr.heap.size s0 (List.replicate 8 zeros) (List.replicate 8 zeros) (List.replicate 8 false) (wr.alloc (.cells C3 4)) :=
        ⟨K0.out, HS.out.below hbA, HNN.out.below hbA, hF, HD.out.news hbA (Y := fun k => k = wr.heap.size) (fun k hk => by rw [hk]; exact ⟨Nat.le_refl _, hF.lt⟩) (fun k hk => hk), by omega, by omega, (by have := HB.out.size; omega), below_on HB.out hbA⟩
      have HK0 : Hid (KRel w1 g bs bn n (.slice (some ⟨wr.heap.size, 0, none⟩) 8 8) (.int .i64 0) (wr.alloc (.cells C3 4))) := Lib.hid ⟨0, s0, _, _, _, _, by omega, by rw [O0.out]; exact Nat.le_refl _, rfl, rfl, hK0⟩
      clear hK0 hF hbA HS HNN HD HB K0 O0 hsl hnl
      rw [show ((8 : Nat) : Int) = 8 from rfl]
      go_loopw [9, 10] (fun u9 u10 wx => KRel w1 g bs bn n u9 u10 wx) (fun _ i _ => n - (intOf i).toNat)
      case atStart => exact HK0.out
      case round =>
        obtain ⟨i, s, su, no, fr, bf, hi, hop, rfl, rfl, hK⟩ := hrel
        clear HK0
        by_cases hgo : i < n ∧ s.off = false
        · obtain ⟨hlt, hoff⟩ := hgo
          have HOFF := Lib.hid hoff
          have HK := Lib.hid hK
          have hbR := hK.be
          obtain ⟨c, hc⟩ : ∃ c, l[i]? = some c := ⟨_, List.getElem?_eq_getElem (by rw [HN.out]; exact hlt)⟩
          have hlr := HL1'.out.below hbR
          rcases hlr.2 with hnil | ⟨b, off, rfl, hcells⟩
          · rw [hnil] at HN; exact absurd HN.out (by simp; omega)
          obtain ⟨z0, z1, z2, z3⟩ := hcells i c hc
          obtain ⟨hk256, _, hcb, _⟩ := hlr.1 c (List.mem_of_getElem? hc)
          obtain ⟨k, hk8, hand⟩ := and7 c.i
          have d1 : (0 : Int) ≤ i := by omega
          have d2 : (i : Int) < n := by omega
          have HC5 := Lib.hid hc
          clear hcells hlr hc hK hoff
          go_wp2_with fail
          refine (off_z HK.out.dz false HOFF.out).mono ?_
          rintro e w' ⟨rfl, rfl⟩
          go_upto_region 16 with (fail)
          obtain ⟨F, hF⟩ : ∃ F, F = fr.getD k false := ⟨_, rfl⟩
          have cf := HK.out.fr.cell k (by rw [HK.out.ki.fl]; exact hk8)
          rw [← hF] at cf
          have HF := Lib.hid hF
          clear hF
          obtain ⟨T, hT⟩ : ∃ T, T = (F || decide (c.k % 4 = 0)) := ⟨_, rfl⟩
          have m1 : (0 : Int) ≤ c.k := by omega
          have m2 : (c.k : Int) < 256 := by omega
          have k1 : (0 : Int) ≤ k := by omega
          have k2 : (k : Int) < 8 := by omega
          go_cut [79] from 67 to 78 (fun s79 wx => s79 = .bool T ∧ wx = wr)
          case first =>
            cases F with
            | true =>
              have HT : Hid (T = true) := Lib.hid (by rw [hT]; rfl)
              clear hT
              go_wp2_with fail
              go_meet
              exact ⟨by rw [HT.out], rfl⟩
            | false =>
              by_cases hm4 : c.k % 4 = 0
              · have HT : Hid (T = true) := Lib.hid (by rw [hT, hm4]; rfl)
                have q1 : ((c.k : Int) % 4 == 0) = true := by simp; omega
                clear hT hm4
                go_wp2_with fail
                go_meet
                exact ⟨by rw [HT.out], rfl⟩
              · have HT : Hid (T = false) := Lib.hid (by rw [hT]; simp [hm4])
                have q1 : ((c.k : Int) % 4 == 0) = false := by simp; omega
                clear hT hm4
                go_wp2_with fail
                go_meet
                exact ⟨by rw [HT.out], rfl⟩
          case rest =>
          obtain ⟨rfl, rfl⟩ := hcut
          have HT := Lib.hid hT
          clear hT
          have HHOP := Lib.hid hop
          have HM3 := Lib.hid hmk3
          have HM2 := Lib.hid hmk2
          clear cf z0 m1 m2 hop
          go_upto_if 79 with (fail)
          go_cut [9, 12] from 80 to 94 (fun s9 _ wx => KMid w1 g bs bn i k no s9 wx)
          case first =>
            cases T with
            | false =>
              go_wp2_with fail
              go_meet
              refine ⟨s, su, fr, bf, rfl, HK.out, HHOP.out, fun _ => ?_⟩
              have h1 := HT.out
              rw [HF.out] at h1
              cases hfk : fr.getD k false with
              | false => rfl
              | true => rw [hfk] at h1; cases h1
            | true =>
              go_wp2_with fail
              cases hgs : s.goes with
              | true =>
                obtain ⟨y1, y2, y3⟩ := sync_go HOFF.out hgs
                refine (sync_z HK.out.dz 140 y1 s.count y2).mono ?_
                rintro e w4 ⟨rfl, hd4, hk4⟩
                have HR : Hid (KMid w1 g bs bn i k no (.slice (some ⟨bf, 0, none⟩) 8 8) w4) := Lib.hid ⟨s.count, su, fr, bf, rfl, HK.out.kz HK.out.ki.count hd4 hk4, by rw [count_op]; exact HHOP.out, fun h => by rw [y3] at h; cases h⟩
                clear y1 y2 y3 hd4 hk4 hgs
                go_wp2_with fail
                go_meet
                exact HR.out
              | false =>
                obtain ⟨y1, y2, y3, y4⟩ := sync_ok HOFF.out hgs
                refine (sync_z HK.out.dz 0 y1 s.count.settle y2).mono ?_
                rintro e w4 ⟨rfl, hd4, hk4⟩
                have KI2 := Lib.hid (HK.out.ki.settled HK.out.dz.ok)
                have S4 := Lib.hid (HK.out.su.kz hk4 (.inl (.inr (.inl rfl))))
                have N4 := Lib.hid (HK.out.no.kz hk4 (.inl (.inr (.inr rfl))))
                have D4 := Lib.hid (hd4.mono (Y := ZB w1.heap.size bs bn) (fun k hk => .inl hk))
                have B4 := Lib.hid (Kz.below HK.out.be HK.out.be.size (fun k hk => .inl (.inl hk)) hk4)
                have Y3 := Lib.hid y3
                have Y4 := Lib.hid y4
                have SL := Lib.hid HK.out.ki.sl
                have NL := Lib.hid HK.out.ki.nl
                clear y1 y2 y3 y4 hd4 hk4 hgs
                obtain ⟨s2, hs2⟩ : ∃ s2, s2 = s.count.settle := ⟨_, rfl⟩
                rw [← hs2] at KI2 D4 Y3
                have HS2 := Lib.hid hs2
                clear hs2
                go_wp2_with fail
                go_loopw [12] (fun u wr => ∃ j : Nat, j ≤ 8 ∧ u = .int .i64 j ∧ StrAt wr bs (no.take j ++ su.drop j) ∧ StrAt wr bn no ∧ DZ (ZB w1.heap.size bs bn) wr g s2 ∧ Below w1.heap.size w1 wr) (fun u _ => 8 - (intOf u).toNat)
                case atStart => exact ⟨0, by omega, rfl, by rw [List.take_zero, List.drop_zero, List.nil_append]; exact S4.out, N4.out, D4.out, B4.out⟩
                case round =>
                  obtain ⟨j, hj, rfl, hS, hN, hD, hB⟩ := hrel
                  clear S4 N4 D4 B4
                  by_cases hjl : j < 8
                  · have e1 : (j : Int) < 8 := by omega
                    have e2 : (0 : Int) ≤ j := by omega
                    have c1 := hS.cell j (by rw [mix_len NL.out SL.out j hj]; exact hjl)
                    have c2 := hN.cell j (by rw [NL.out]; exact hjl)
                    have f1 := hS.free j
                    have HS := Lib.hid hS
                    have HNN := Lib.hid hN
                    have HD := Lib.hid hD
                    clear hS hN hD
                    go_wp2_with fail
                    go_roundw
                    case rel =>
                      have hSA := HS.out.set j (getL no j)
                      rw [mix_set NL.out SL.out j hjl] at hSA
                      exact ⟨j + 1, by omega, by go_num, hSA, HNN.out.other (only1 _ bs j _) hne2, HD.out.set (only1 _ bs j _) (.inr (.inl rfl)), hB.setCell (p := ⟨bs, j, none⟩) hb1s _⟩
                    case measure => simp [intOf]; omega
                  · obtain rfl : j = 8 := by omega
                    have hS2 : StrAt wr bs no := by
                      have := hS
                      rw [List.take_of_length_le (by rw [NL.out]; exact Nat.le_refl _), List.drop_of_length_le (by rw [SL.out]; exact Nat.le_refl _), List.append_nil] at this
                      exact this
                    have hsl := hS2.lt
                    have hnl := hN.lt
                    have hmk3 := HM3.out
                    have HS := Lib.hid hS2
                    have HNN := Lib.hid hN
                    have HD := Lib.hid hD
                    have HB := Lib.hid hB
                    clear hS hS2 hN hD hB
                    go_wp2_with fail
                    go_meet
                    have hbA := below1 wr (.cells C3 4)
                    have hF : BoolAt (wr.alloc (.cells C3 4)) wr.heap.size (List.replicate 8 false) := by unfold BoolAt; rw [HC3.out]; exact heap_new1 _ _
                    exact ⟨s2, no, List.replicate 8 false, wr.heap.size, rfl, ⟨KI2.out, HS.out.below hbA, HNN.out.below hbA, hF, HD.out.news hbA (Y := fun k => k = wr.heap.size) (fun k hk => by rw [hk]; exact ⟨Nat.le_refl _, hF.lt⟩) (fun k hk => hk), by omega, by omega, (by have := HB.out.size; omega), below_on HB.out hbA⟩, by rw [HS2.out, Y4.out]; exact Nat.zero_le _, fun _ => rep_false k⟩
          case rest =>
          obtain ⟨s', su', fr', bf', rfl, hK', hop', hfr'⟩ := hcut
          have HROW : Hid (∀ W, Below w1.heap.size w1 W → W.cell? ⟨b, off + i * 4 + 2, none⟩ = some (.slice c.a c.b.length c.c) ∧ RowIn W c.a c.c c.b) := Lib.hid (fun W hW => by
            have hlr := HL1'.out.below hW
            rcases hlr.2 with hnil | ⟨b2, off2, e, hcells⟩
            · rw [hnil] at HN; exact absurd HN.out (by simp; omega)
            · cases e
              exact ⟨(hcells i c HC5.out).2.2.1, (hlr.1 c (List.mem_of_getElem? HC5.out)).2.2.1⟩)
          have HK := Lib.hid hK'
          have HOP := Lib.hid hop'
          have HFR := Lib.hid hfr'
          obtain ⟨z2, hrow⟩ := HROW.out _ hK'.be
          have hbm := hrow.1
          unfold maxLen at hbm
          obtain ⟨m, hmm⟩ : ∃ m, m = c.b.length := ⟨_, rfl⟩
          rw [← hmm] at z2 hbm
          have HMM := Lib.hid hmm
          clear hK' hop' hfr' hrow hcb hmm
          cases ho' : s'.off with
          | true =>
            go_wp2_with fail
            refine (off_z HK.out.dz true ho').mono ?_
            rintro e w' ⟨rfl, rfl⟩
            clear ho'
            go_wp2_with fail
            go_roundw
            case rel => exact ⟨i + 1, s', su', no, fr', bf', by omega, Nat.le_succ_of_le HOP.out, by go_num, rfl, HK.out⟩
            case measure => simp [intOf]; omega
          | false =>
          have HOF := Lib.hid ho'
          clear ho'
          by_cases h256 : 256 < m
          · go_wp2_with fail
            refine (off_z HK.out.dz false HOF.out).mono ?_
            rintro e w' ⟨rfl, rfl⟩
            go_wp2_with fail
            go_roundw
            case rel => exact ⟨i + 1, s', su', no, fr', bf', by omega, Nat.le_succ_of_le HOP.out, by go_num, rfl, HK.out⟩
            case measure => simp [intOf]; omega
          · have g1 : ¬ (256 : Int) < m := by omega
            go_wp2_with fail
            refine (off_z HK.out.dz false HOF.out).mono ?_
            rintro e w' ⟨rfl, rfl⟩
            obtain ⟨s5, hs5⟩ : ∃ s5, s5 = Dk.count { s' with op := s'.op ++ [(k, pad c.b)] } := ⟨_, rfl⟩
            have hki5 : KI s5 su' (no.set k (pad c.b)) (fr'.set k true) := by rw [hs5]; exact HK.out.ki.write hk8 (HFR.out HOF.out) (pad c.b)
            have hop5 : s5.op.length ≤ i + 1 := by rw [hs5, count_op]; show (s'.op ++ [_]).length ≤ _; rw [List.length_append]; have := HOP.out; simp; omega
            have hws : s'.write k c.b = s5 := by rw [hs5]; exact write_go HOF.out hk8 (by rw [HK.out.ki.bl]; exact HK.out.ki.sl) (by have := HMM.out; omega)
            have KI5 := Lib.hid hki5
            have OP5 := Lib.hid hop5
            have WS := Lib.hid hws
            clear hki5 hop5 hws hs5
            go_wp2_with fail
            refine (write_z HK.out.dz k c.b c.a m c.c HMM.out.symm (HROW.out _ HK.out.be).2.2.1 (HROW.out _ HK.out.be).2.2.2.1 (Nat.le_trans HOP.out (by omega)) _ rfl s5 WS.out).mono ?_
            rintro e w5 ⟨rfl, hd5, hk5⟩
            have hK5 : KAt w1 g bs bn bf' s' su' no fr' w5 ∨ True := .inr trivial
            clear hK5
            have S5 := Lib.hid (HK.out.su.kz hk5 (.inl (.inr (.inl rfl))))
            have N5 := Lib.hid (HK.out.no.kz hk5 (.inl (.inr (.inr rfl))))
            have F5 := Lib.hid (HK.out.fr.kz hk5 (.inr rfl))
            have D5 := Lib.hid hd5
            have B5 := Lib.hid (Kz.below HK.out.be HK.out.be.size (fun k hk => .inl (.inl hk)) hk5)
            have G1 := HK.out.fs
            have G2 := HK.out.fn
            have G3 := HK.out.lo
            have FL := Lib.hid HK.out.ki.fl
            have NL := Lib.hid HK.out.ki.nl
            clear hd5 hk5
            have hmk2 := HM2.out
            go_wp2_with fail
            have hbA := below1 w5 (.cells C2 5)
            have hbb : ByteAt (w5.alloc (.cells C2 5)) w5.heap.size zeros := by unfold ByteAt; rw [HC2.out]; exact heap_new1 _ _
            have hls := S5.out.lt
            have hln := N5.out.lt
            have hlf := F5.out.lt
            have hKB : KB w1 g bs bn bf' w5.heap.size s5 su' no fr' (w5.alloc (.cells C2 5)) := ⟨S5.out.below hbA, N5.out.below hbA, F5.out.below hbA, D5.out.news hbA (Y := fun k => k = w5.heap.size) (fun k hk => by rw [hk]; exact ⟨Nat.le_refl _, hbb.lt⟩) (fun k hk => hk), below_on B5.out hbA⟩
            obtain ⟨bb, hbbe⟩ : ∃ bb, bb = w5.heap.size := ⟨_, rfl⟩
            have hlb : w1.heap.size ≤ bb := by rw [hbbe]; exact B5.out.size
            rw [← hbbe] at hbb hKB hls hln hlf ⊢
            have x1 : ¬ bs = bb := by omega
            have x2 : ¬ bn = bb := by omega
            have x3 : ¬ bf' = bb := by omega
            have x4 : ¬ bb = bs := by omega
            have x5 : ¬ bb = bn := by omega
            have HKB := Lib.hid hKB
            have HBB := Lib.hid hbb
            have HG3 := Lib.hid G3
            clear hbA hbb hKB hbbe S5 N5 F5 D5 B5 hmk2 hls hln hlf z2
            go_loopw [14] (fun u wr => ∃ j : Nat, j ≤ m ∧ u = .int .i64 j ∧ ByteAt wr bb (c.b.take j ++ zeros.drop j) ∧ KB w1 g bs bn bf' bb s5 su' no fr' wr) (fun u _ => m - (intOf u).toNat)
            case atStart => exact ⟨0, by omega, rfl, by rw [List.take_zero, List.drop_zero, List.nil_append]; exact HBB.out, HKB.out⟩
            case round =>
              obtain ⟨j, hj, rfl, hbj, hKB⟩ := hrel
              clear HBB HKB
              obtain ⟨z2, hrow⟩ := HROW.out wr hKB.be
              rw [← HMM.out] at z2
              have HKB := Lib.hid hKB
              have HBB := Lib.hid hbj
              by_cases hjl : j < m
              · obtain ⟨b3, off3, v, hae, hv1, hv2, hv3⟩ := NatsAt.at hrow.2.1.nats (i := j) (by rw [← HMM.out]; exact hjl)
                have hvd : c.b.getD j 0 = v := by rw [List.getD_eq_getElem?_getD, hv1]; rfl
                have HV := Lib.hid hvd
                rw [hae] at z2
                have e1 : (j : Int) < m := by omega
                have e2 : (0 : Int) ≤ j := by omega
                have e3 : (j : Int) < 256 := by omega
                have cb := hbj.cell j (by rw [bmix_len HZL.out j (by rw [← HMM.out]; exact hj) (by rw [← HMM.out]; omega)]; omega)
                have fb := hbj.free j
                clear hKB hbj hrow hv1 hvd hae
                go_wp2_with fail
                go_roundw
                case rel =>
                  have hS := HBB.out.set j v
                  rw [← HV.out, bmix_set HZL.out j (by rw [← HMM.out]; exact hjl) (by rw [← HMM.out]; omega)] at hS
                  rw [HV.out] at hS
                  exact ⟨j + 1, by omega, by go_num, hS, HKB.out.put (only1 _ bb j _) x1 x2 x3 hlb⟩
                case measure => simp [intOf]; omega
              · obtain rfl : j = m := by omega
                have hbp : ByteAt wr bb (pad c.b) := by
                  have := hbj
                  rw [HMM.out, bmix_all] at this
                  exact this
                have hpl : ∀ x ∈ pad c.b, x < 256 := by
                  have := pad_okB (b := c.b) (by rw [← HMM.out]; omega) hrow.2.1.1
                  unfold okB at this; exact this.2
                have hp256 : (pad c.b).length = 256 := by
                  have := pad_okB (b := c.b) (by rw [← HMM.out]; omega) hrow.2.1.1
                  unfold okB at this; exact this.1
                have hcv := run_str wr (some ⟨bb, 0, none⟩) (pad c.b) 256 256 hp256 (hbp.bytes hpl)
                have cn := hKB.no.cell k (by rw [NL.out]; exact hk8)
                have fn := hKB.no.free k
                have cf := hKB.fr.cell k (by rw [FL.out]; exact hk8)
                have ff := hKB.fr.free k
                have y1 : ¬ bf' = bn := G2
                have y2 : ¬ bn = bf' := fun e => G2 e.symm
                clear hKB hbj hrow hbp hpl hp256
                go_wp2_with fail
                go_roundw
                case rel => exact ⟨i + 1, s5, su', no.set k (pad c.b), fr'.set k true, bf', by omega, OP5.out, by go_num, rfl, HKB.out.done hne G1 G2 hb1n HG3.out KI5.out⟩
                case measure => simp [intOf]; omega
        · have HK := Lib.hid hK
          have HOP := Lib.hid hop
          clear hK hop
          have hlr := HL1'.out
          rcases Nat.lt_or_ge i n with hlt | hge
          · have hoff : s.off = true := by
              cases h : s.off with
              | true => rfl
              | false => exact absurd ⟨hlt, h⟩ hgo
            have HOFF := Lib.hid hoff
            have d2 : (i : Int) < n := by omega
            clear hoff hgo
            go_wp2_with fail
            refine (off_z HK.out.dz true HOFF.out).mono ?_
            rintro e w' ⟨rfl, rfl⟩
            go_upto_region 33 with (fail)
            obtain ⟨fa, fc, f, hfr, hfx, hfz⟩ : ∃ (fa : Option Addr) (fc : Nat) (f : List Nat), RowIn w1 fa fc f ∧ f.length ≤ 6000 ∧ ((n = 0 ∧ fa = none ∧ fc = 0 ∧ f.length = 0) ∨ (0 < n ∧ ∃ b off, a = some ⟨b, off, none⟩ ∧ ∀ W, Below w1.heap.size w1 W → W.cell? ⟨b, off + 3, none⟩ = some (.slice fa f.length fc))) := fates_at HL1'.out HN.out HSM.out
            obtain ⟨nf, hnf⟩ : ∃ nf, nf = f.length := ⟨_, rfl⟩
            rw [← hnf] at hfz
            have HNF := Lib.hid hnf
            have HFX := Lib.hid hfx
            have HFR := Lib.hid hfr
            obtain ⟨s6, hs6⟩ : ∃ s6, s6 = s.crash.on f := ⟨_, rfl⟩
            have hfin : ∀ j : Nat, j < 8 → s6.ask j = 0 ∧ ∃ K, K ≤ 256 ∧ s6.rd j = (getL no j).take K ++ (getL su j).drop K ∧ (fr.getD j false = false → s6.rd j = getL su j) := fun j hj => by rw [hs6]; exact HK.out.ki.final HK.out.dz.ok f HFR.out.2.1.1 j hj
            have HFIN := Lib.hid hfin
            have HS6 := Lib.hid hs6
            clear hnf hfx hfr hfin hs6
            rcases hfz with ⟨h0, rfl, rfl, h00⟩ | ⟨hpos, b, off, rfl, hz⟩
            · omega
            · have e0 : (0 : Int) < n := by omega
              have z3 := hz _ HK.out.be
              clear hz
              go_wp2_with fail
              refine (crash_z HK.out.dz s.crash rfl).mono ?_
              rintro e w7 ⟨rfl, hd7, hk7⟩
              have H7 : Hid (StrAt w7 bs su ∧ StrAt w7 bn no ∧ BoolAt w7 bf fr ∧ DZ (ZC w1.heap.size bs bn bf) w7 g s.crash ∧ Below w1.heap.size w1 w7) := Lib.hid ⟨HK.out.su.kz hk7 (.inl (.inr (.inl rfl))), HK.out.no.kz hk7 (.inl (.inr (.inr rfl))), HK.out.fr.kz hk7 (.inr rfl), hd7, Kz.below HK.out.be HK.out.be.size (fun k hk => .inl (.inl hk)) hk7⟩
              clear hd7 hk7
              go_wp2_with fail
              refine (on_z H7.out.2.2.2.1 f fa nf fc HNF.out.symm (HFR.out.below H7.out.2.2.2.2).2.1 (by unfold maxLen; rw [HNF.out]; have := HFX.out; omega) (by
                rcases List.eq_nil_or_concat f with h | ⟨_, _, h⟩
                · exact .inl h
                · exact .inr (fun b o e => .inl (.inl (HFR.out.2.2.2 b o e (by rw [h]; simp))))) s6 HS6.out.symm).mono ?_
              rintro e w8 ⟨rfl, hd8, hk8⟩
              have H8 : Hid (StrAt w8 bs su ∧ StrAt w8 bn no ∧ BoolAt w8 bf fr ∧ DZ (ZC w1.heap.size bs bn bf) w8 g s6 ∧ Below w1.heap.size w1 w8) := Lib.hid ⟨H7.out.1.kz hk8 (.inl (.inr (.inl rfl))), H7.out.2.1.kz hk8 (.inl (.inr (.inr rfl))), H7.out.2.2.1.kz hk8 (.inr rfl), hd8, Kz.below H7.out.2.2.2.2 H7.out.2.2.2.2.size (fun k hk => .inl (.inl hk)) hk8⟩
              have HLN := Lib.hid (fun (j : Nat) (hj : j < 8) => HK.out.ki.no_ok HK.out.dz.ok j hj)
              have HSL := Lib.hid HK.out.ki.sl
              have HNL := Lib.hid HK.out.ki.nl
              have HFL := Lib.hid HK.out.ki.fl
              clear hd8 hk8 H7
              go_wp2_with fail
              go_loopw [16] (fun u wr => ∃ j : Nat, j ≤ 8 ∧ u = .int .i64 j ∧ StrAt wr bs su ∧ StrAt wr bn no ∧ BoolAt wr bf fr ∧ DZ (ZC w1.heap.size bs bn bf) wr g s6 ∧ Below w1.heap.size w1 wr) (fun u _ => 8 - (intOf u).toNat)
              case atStart => exact ⟨0, by omega, rfl, H8.out⟩
              case round =>
                obtain ⟨j, hj, rfl, hS, hN, hF, hD, hB⟩ := hrel
                clear H8
                by_cases hjl : j < 8
                · have e1 : (j : Int) < 8 := by omega
                  have e2 : (0 : Int) ≤ j := by omega
                  obtain ⟨r1, K, r2, r3, r4⟩ := HFIN.out j hjl
                  obtain ⟨o1, o2⟩ := HLN.out j hjl
                  have hrl : (s6.rd j).length = 256 := by
                    rw [r3]
                    unfold okB at o1 o2
                    rw [List.length_append, List.length_take, List.length_drop]; omega
                  have R1 := Lib.hid r1
                  have R3 := Lib.hid r3
                  have R4 := Lib.hid r4
                  have RL := Lib.hid hrl
                  have O1 := Lib.hid o1
                  have O2 := Lib.hid o2
                  have HS := Lib.hid hS
                  have HNN := Lib.hid hN
                  have HFF := Lib.hid hF
                  have HD := Lib.hid hD
                  clear r1 r3 r4 hrl o1 o2 hS hN hF hD
                  go_wp2_with fail
                  refine (read_z HD.out j R1.out (s6.rd j) rfl RL.out).mono ?_
                  rintro e w9 ⟨B9, rfl, hB1, hB2, hm, hlen, hb9⟩
                  go_wp2_with fail
                  have hcv : ∀ q, (convert 29 9 (.slice (some ⟨B9, 0, none⟩) 256 256)).run Try.prog (w9.drewN q) = .ok (.string (strOf (s6.rd j))) (w9.drewN q) := fun q => run_str (w9.drewN q) (some ⟨B9, 0, none⟩) (s6.rd j) 256 256 RL.out hm.bytes
                  have cs := (HS.out.below hb9).cell j (by rw [HSL.out]; exact hjl)
                  have cn := (HNN.out.below hb9).cell j (by rw [HNL.out]; exact hjl)
                  have cf := (HFF.out.below hb9).cell j (by rw [HFL.out]; exact hjl)
                  obtain ⟨F, hFe⟩ : ∃ F, F = fr.getD j false := ⟨_, rfl⟩
                  rw [← hFe] at cf
                  have HFE := Lib.hid hFe
                  have HB9 := Lib.hid hb9
                  have HTN : Hid (∀ W, Calls Try.prog 16 #[.string (strOf (s6.rd j)), .string (strOf (getL su j)), .string (strOf (getL no j))] W fun e w' => e = .returned (.bool true) ∧ ∃ m, w' = W.drewN m) := Lib.hid (fun W => torn_any (s6.rd j) (getL su j) (getL no j) K W RL.out (by have := O1.out; unfold okB at this; exact this.1) (by have := O2.out; unfold okB at this; exact this.1) r2 R3.out)
                  have hS2 := HS.out.below hb9
                  have hN2 := HNN.out.below hb9
                  have hF2 := HFF.out.below hb9
                  have hD2 := HD.out.below hb9
                  have H9 : Hid (StrAt w9 bs su ∧ StrAt w9 bn no ∧ BoolAt w9 bf fr ∧ DZ (ZC w1.heap.size bs bn bf) w9 g s6 ∧ Below w1.heap.size w1 w9) := Lib.hid ⟨hS2, hN2, hF2, hD2, below_on hB hb9⟩
                  clear hFe hb9 hm hlen hS2 hN2 hF2 hD2 hB1 hB2 hB
                  cases F with
                  | true =>
                    go_quiet ((go_at_call 16; exact Calls.quiet_of (HTN.out _)))
                    go_wp2_with fail
                    go_roundw
                    case rel => exact ⟨j + 1, by omega, by go_num, H9.out.1.keep rfl, H9.out.2.1.keep rfl, H9.out.2.2.1.keep rfl, H9.out.2.2.2.1.below (below_drewN (Below.refl _ _) _), below_drewN H9.out.2.2.2.2 _⟩
                    case measure => simp [intOf]; omega
                  | false =>
                    have e9 := R4.out HFE.out.symm
                    rw [e9] at hcv HTN
                    clear e9
                    go_quiet ((go_at_call 16; exact Calls.quiet_of (HTN.out _)))
                    go_wp2_with fail
                    go_roundw
                    case rel => exact ⟨j + 1, by omega, by go_num, H9.out.1.keep rfl, H9.out.2.1.keep rfl, H9.out.2.2.1.keep rfl, H9.out.2.2.2.1.below (below_drewN (Below.refl _ _) _), below_drewN H9.out.2.2.2.2 _⟩
                    case measure => simp [intOf]; omega
                · obtain rfl : j = 8 := by omega
                  clear hS hN hF hD
                  go_wp2_with fail
                  refine (works_any _).mono ?_
                  rintro e w9 ⟨rfl, hb9⟩
                  go_wp2_with fail
                  go_ret
                  exact ⟨rfl, below_on HB1W.out (below_on hB hb9)⟩
          · obtain rfl : n = i := by omega
            clear hgo hge
            go_upto_region 33 with (fail)
            obtain ⟨fa, fc, f, hfr, hfx, hfz⟩ : ∃ (fa : Option Addr) (fc : Nat) (f : List Nat), RowIn w1 fa fc f ∧ f.length ≤ 6000 ∧ ((n = 0 ∧ fa = none ∧ fc = 0 ∧ f.length = 0) ∨ (0 < n ∧ ∃ b off, a = some ⟨b, off, none⟩ ∧ ∀ W, Below w1.heap.size w1 W → W.cell? ⟨b, off + 3, none⟩ = some (.slice fa f.length fc))) := fates_at HL1'.out HN.out HSM.out
            obtain ⟨nf, hnf⟩ : ∃ nf, nf = f.length := ⟨_, rfl⟩
            rw [← hnf] at hfz
            have HNF := Lib.hid hnf
            have HFX := Lib.hid hfx
            have HFR := Lib.hid hfr
            obtain ⟨s6, hs6⟩ : ∃ s6, s6 = s.crash.on f := ⟨_, rfl⟩
            have hfin : ∀ j : Nat, j < 8 → s6.ask j = 0 ∧ ∃ K, K ≤ 256 ∧ s6.rd j = (getL no j).take K ++ (getL su j).drop K ∧ (fr.getD j false = false → s6.rd j = getL su j) := fun j hj => by rw [hs6]; exact HK.out.ki.final HK.out.dz.ok f HFR.out.2.1.1 j hj
            have HFIN := Lib.hid hfin
            have HS6 := Lib.hid hs6
            clear hnf hfx hfr hfin hs6
            rcases hfz with ⟨h0, rfl, rfl, h00⟩ | ⟨hpos, b, off, rfl, hz⟩
            · have e0 : ¬ (0 : Int) < n := by omega
              clear h0
              subst h00
              go_wp2_with fail
              refine (crash_z HK.out.dz s.crash rfl).mono ?_
              rintro e w7 ⟨rfl, hd7, hk7⟩
              have H7 : Hid (StrAt w7 bs su ∧ StrAt w7 bn no ∧ BoolAt w7 bf fr ∧ DZ (ZC w1.heap.size bs bn bf) w7 g s.crash ∧ Below w1.heap.size w1 w7) := Lib.hid ⟨HK.out.su.kz hk7 (.inl (.inr (.inl rfl))), HK.out.no.kz hk7 (.inl (.inr (.inr rfl))), HK.out.fr.kz hk7 (.inr rfl), hd7, Kz.below HK.out.be HK.out.be.size (fun k hk => .inl (.inl hk)) hk7⟩
              clear hd7 hk7
              go_wp2_with fail
              refine (on_z H7.out.2.2.2.1 f none 0 0 HNF.out.symm (HFR.out.below H7.out.2.2.2.2).2.1 (by unfold maxLen; rw [HNF.out]; have := HFX.out; omega) (by
                rcases List.eq_nil_or_concat f with h | ⟨_, _, h⟩
                · exact .inl h
                · exact .inr (fun b o e => .inl (.inl (HFR.out.2.2.2 b o e (by rw [h]; simp))))) s6 HS6.out.symm).mono ?_
              rintro e w8 ⟨rfl, hd8, hk8⟩
              have H8 : Hid (StrAt w8 bs su ∧ StrAt w8 bn no ∧ BoolAt w8 bf fr ∧ DZ (ZC w1.heap.size bs bn bf) w8 g s6 ∧ Below w1.heap.size w1 w8) := Lib.hid ⟨H7.out.1.kz hk8 (.inl (.inr (.inl rfl))), H7.out.2.1.kz hk8 (.inl (.inr (.inr rfl))), H7.out.2.2.1.kz hk8 (.inr rfl), hd8, Kz.below H7.out.2.2.2.2 H7.out.2.2.2.2.size (fun k hk => .inl (.inl hk)) hk8⟩
              have HLN := Lib.hid (fun (j : Nat) (hj : j < 8) => HK.out.ki.no_ok HK.out.dz.ok j hj)
              have HSL := Lib.hid HK.out.ki.sl
              have HNL := Lib.hid HK.out.ki.nl
              have HFL := Lib.hid HK.out.ki.fl
              clear hd8 hk8 H7
              go_wp2_with fail
              go_loopw [16] (fun u wr => ∃ j : Nat, j ≤ 8 ∧ u = .int .i64 j ∧ StrAt wr bs su ∧ StrAt wr bn no ∧ BoolAt wr bf fr ∧ DZ (ZC w1.heap.size bs bn bf) wr g s6 ∧ Below w1.heap.size w1 wr) (fun u _ => 8 - (intOf u).toNat)
              case atStart => exact ⟨0, by omega, rfl, H8.out⟩
              case round =>
                obtain ⟨j, hj, rfl, hS, hN, hF, hD, hB⟩ := hrel
                clear H8
                by_cases hjl : j < 8
                · have e1 : (j : Int) < 8 := by omega
                  have e2 : (0 : Int) ≤ j := by omega
                  obtain ⟨r1, K, r2, r3, r4⟩ := HFIN.out j hjl
                  obtain ⟨o1, o2⟩ := HLN.out j hjl
                  have hrl : (s6.rd j).length = 256 := by
                    rw [r3]
                    unfold okB at o1 o2
                    rw [List.length_append, List.length_take, List.length_drop]; omega
                  have R1 := Lib.hid r1
                  have R3 := Lib.hid r3
                  have R4 := Lib.hid r4
                  have RL := Lib.hid hrl
                  have O1 := Lib.hid o1
                  have O2 := Lib.hid o2
                  have HS := Lib.hid hS
                  have HNN := Lib.hid hN
                  have HFF := Lib.hid hF
                  have HD := Lib.hid hD
                  clear r1 r3 r4 hrl o1 o2 hS hN hF hD
                  go_wp2_with fail
                  refine (read_z HD.out j R1.out (s6.rd j) rfl RL.out).mono ?_
                  rintro e w9 ⟨B9, rfl, hB1, hB2, hm, hlen, hb9⟩
                  go_wp2_with fail
                  have hcv : ∀ q, (convert 29 9 (.slice (some ⟨B9, 0, none⟩) 256 256)).run Try.prog (w9.drewN q) = .ok (.string (strOf (s6.rd j))) (w9.drewN q) := fun q => run_str (w9.drewN q) (some ⟨B9, 0, none⟩) (s6.rd j) 256 256 RL.out hm.bytes
                  have cs := (HS.out.below hb9).cell j (by rw [HSL.out]; exact hjl)
                  have cn := (HNN.out.below hb9).cell j (by rw [HNL.out]; exact hjl)
                  have cf := (HFF.out.below hb9).cell j (by rw [HFL.out]; exact hjl)
                  obtain ⟨F, hFe⟩ : ∃ F, F = fr.getD j false := ⟨_, rfl⟩
                  rw [← hFe] at cf
                  have HFE := Lib.hid hFe
                  have HB9 := Lib.hid hb9
                  have HTN : Hid (∀ W, Calls Try.prog 16 #[.string (strOf (s6.rd j)), .string (strOf (getL su j)), .string (strOf (getL no j))] W fun e w' => e = .returned (.bool true) ∧ ∃ m, w' = W.drewN m) := Lib.hid (fun W => torn_any (s6.rd j) (getL su j) (getL no j) K W RL.out (by have := O1.out; unfold okB at this; exact this.1) (by have := O2.out; unfold okB at this; exact this.1) r2 R3.out)
                  have hS2 := HS.out.below hb9
                  have hN2 := HNN.out.below hb9
                  have hF2 := HFF.out.below hb9
                  have hD2 := HD.out.below hb9
                  have H9 : Hid (StrAt w9 bs su ∧ StrAt w9 bn no ∧ BoolAt w9 bf fr ∧ DZ (ZC w1.heap.size bs bn bf) w9 g s6 ∧ Below w1.heap.size w1 w9) := Lib.hid ⟨hS2, hN2, hF2, hD2, below_on hB hb9⟩
                  clear hFe hb9 hm hlen hS2 hN2 hF2 hD2 hB1 hB2 hB
                  cases F with
                  | true =>
                    go_quiet ((go_at_call 16; exact Calls.quiet_of (HTN.out _)))
                    go_wp2_with fail
                    go_roundw
                    case rel => exact ⟨j + 1, by omega, by go_num, H9.out.1.keep rfl, H9.out.2.1.keep rfl, H9.out.2.2.1.keep rfl, H9.out.2.2.2.1.below (below_drewN (Below.refl _ _) _), below_drewN H9.out.2.2.2.2 _⟩
                    case measure => simp [intOf]; omega
                  | false =>
                    have e9 := R4.out HFE.out.symm
                    rw [e9] at hcv HTN
                    clear e9
                    go_quiet ((go_at_call 16; exact Calls.quiet_of (HTN.out _)))
                    go_wp2_with fail
                    go_roundw
                    case rel => exact ⟨j + 1, by omega, by go_num, H9.out.1.keep rfl, H9.out.2.1.keep rfl, H9.out.2.2.1.keep rfl, H9.out.2.2.2.1.below (below_drewN (Below.refl _ _) _), below_drewN H9.out.2.2.2.2 _⟩
                    case measure => simp [intOf]; omega
                · obtain rfl : j = 8 := by omega
                  clear hS hN hF hD
                  go_wp2_with fail
                  refine (works_any _).mono ?_
                  rintro e w9 ⟨rfl, hb9⟩
                  go_wp2_with fail
                  go_ret
                  exact ⟨rfl, below_on HB1W.out (below_on hB hb9)⟩
            · have e0 : (0 : Int) < n := by omega
              have z3 := hz _ HK.out.be
              clear hz
              go_wp2_with fail
              refine (crash_z HK.out.dz s.crash rfl).mono ?_
              rintro e w7 ⟨rfl, hd7, hk7⟩
              have H7 : Hid (StrAt w7 bs su ∧ StrAt w7 bn no ∧ BoolAt w7 bf fr ∧ DZ (ZC w1.heap.size bs bn bf) w7 g s.crash ∧ Below w1.heap.size w1 w7) := Lib.hid ⟨HK.out.su.kz hk7 (.inl (.inr (.inl rfl))), HK.out.no.kz hk7 (.inl (.inr (.inr rfl))), HK.out.fr.kz hk7 (.inr rfl), hd7, Kz.below HK.out.be HK.out.be.size (fun k hk => .inl (.inl hk)) hk7⟩
              clear hd7 hk7
              go_wp2_with fail
              refine (on_z H7.out.2.2.2.1 f fa nf fc HNF.out.symm (HFR.out.below H7.out.2.2.2.2).2.1 (by unfold maxLen; rw [HNF.out]; have := HFX.out; omega) (by
                rcases List.eq_nil_or_concat f with h | ⟨_, _, h⟩
                · exact .inl h
                · exact .inr (fun b o e => .inl (.inl (HFR.out.2.2.2 b o e (by rw [h]; simp))))) s6 HS6.out.symm).mono ?_
              rintro e w8 ⟨rfl, hd8, hk8⟩
              have H8 : Hid (StrAt w8 bs su ∧ StrAt w8 bn no ∧ BoolAt w8 bf fr ∧ DZ (ZC w1.heap.size bs bn bf) w8 g s6 ∧ Below w1.heap.size w1 w8) := Lib.hid ⟨H7.out.1.kz hk8 (.inl (.inr (.inl rfl))), H7.out.2.1.kz hk8 (.inl (.inr (.inr rfl))), H7.out.2.2.1.kz hk8 (.inr rfl), hd8, Kz.below H7.out.2.2.2.2 H7.out.2.2.2.2.size (fun k hk => .inl (.inl hk)) hk8⟩
              have HLN := Lib.hid (fun (j : Nat) (hj : j < 8) => HK.out.ki.no_ok HK.out.dz.ok j hj)
              have HSL := Lib.hid HK.out.ki.sl
              have HNL := Lib.hid HK.out.ki.nl
              have HFL := Lib.hid HK.out.ki.fl
              clear hd8 hk8 H7
              go_wp2_with fail
              go_loopw [16] (fun u wr => ∃ j : Nat, j ≤ 8 ∧ u = .int .i64 j ∧ StrAt wr bs su ∧ StrAt wr bn no ∧ BoolAt wr bf fr ∧ DZ (ZC w1.heap.size bs bn bf) wr g s6 ∧ Below w1.heap.size w1 wr) (fun u _ => 8 - (intOf u).toNat)
              case atStart => exact ⟨0, by omega, rfl, H8.out⟩
              case round =>
                obtain ⟨j, hj, rfl, hS, hN, hF, hD, hB⟩ := hrel
                clear H8
                by_cases hjl : j < 8
                · have e1 : (j : Int) < 8 := by omega
                  have e2 : (0 : Int) ≤ j := by omega
                  obtain ⟨r1, K, r2, r3, r4⟩ := HFIN.out j hjl
                  obtain ⟨o1, o2⟩ := HLN.out j hjl
                  have hrl : (s6.rd j).length = 256 := by
                    rw [r3]
                    unfold okB at o1 o2
                    rw [List.length_append, List.length_take, List.length_drop]; omega
                  have R1 := Lib.hid r1
                  have R3 := Lib.hid r3
                  have R4 := Lib.hid r4
                  have RL := Lib.hid hrl
                  have O1 := Lib.hid o1
                  have O2 := Lib.hid o2
                  have HS := Lib.hid hS
                  have HNN := Lib.hid hN
                  have HFF := Lib.hid hF
                  have HD := Lib.hid hD
                  clear r1 r3 r4 hrl o1 o2 hS hN hF hD
                  go_wp2_with fail
                  refine (read_z HD.out j R1.out (s6.rd j) rfl RL.out).mono ?_
                  rintro e w9 ⟨B9, rfl, hB1, hB2, hm, hlen, hb9⟩
                  go_wp2_with fail
                  have hcv : ∀ q, (convert 29 9 (.slice (some ⟨B9, 0, none⟩) 256 256)).run Try.prog (w9.drewN q) = .ok (.string (strOf (s6.rd j))) (w9.drewN q) := fun q => run_str (w9.drewN q) (some ⟨B9, 0, none⟩) (s6.rd j) 256 256 RL.out hm.bytes
                  have cs := (HS.out.below hb9).cell j (by rw [HSL.out]; exact hjl)
                  have cn := (HNN.out.below hb9).cell j (by rw [HNL.out]; exact hjl)
                  have cf := (HFF.out.below hb9).cell j (by rw [HFL.out]; exact hjl)
                  obtain ⟨F, hFe⟩ : ∃ F, F = fr.getD j false := ⟨_, rfl⟩
                  rw [← hFe] at cf
                  have HFE := Lib.hid hFe
                  have HB9 := Lib.hid hb9
                  have HTN : Hid (∀ W, Calls Try.prog 16 #[.string (strOf (s6.rd j)), .string (strOf (getL su j)), .string (strOf (getL no j))] W fun e w' => e = .returned (.bool true) ∧ ∃ m, w' = W.drewN m) := Lib.hid (fun W => torn_any (s6.rd j) (getL su j) (getL no j) K W RL.out (by have := O1.out; unfold okB at this; exact this.1) (by have := O2.out; unfold okB at this; exact this.1) r2 R3.out)
                  have hS2 := HS.out.below hb9
                  have hN2 := HNN.out.below hb9
                  have hF2 := HFF.out.below hb9
                  have hD2 := HD.out.below hb9
                  have H9 : Hid (StrAt w9 bs su ∧ StrAt w9 bn no ∧ BoolAt w9 bf fr ∧ DZ (ZC w1.heap.size bs bn bf) w9 g s6 ∧ Below w1.heap.size w1 w9) := Lib.hid ⟨hS2, hN2, hF2, hD2, below_on hB hb9⟩
                  clear hFe hb9 hm hlen hS2 hN2 hF2 hD2 hB1 hB2 hB
                  cases F with
                  | true =>
                    go_quiet ((go_at_call 16; exact Calls.quiet_of (HTN.out _)))
                    go_wp2_with fail
                    go_roundw
                    case rel => exact ⟨j + 1, by omega, by go_num, H9.out.1.keep rfl, H9.out.2.1.keep rfl, H9.out.2.2.1.keep rfl, H9.out.2.2.2.1.below (below_drewN (Below.refl _ _) _), below_drewN H9.out.2.2.2.2 _⟩
                    case measure => simp [intOf]; omega
                  | false =>
                    have e9 := R4.out HFE.out.symm
                    rw [e9] at hcv HTN
                    clear e9
                    go_quiet ((go_at_call 16; exact Calls.quiet_of (HTN.out _)))
                    go_wp2_with fail
                    go_roundw
                    case rel => exact ⟨j + 1, by omega, by go_num, H9.out.1.keep rfl, H9.out.2.1.keep rfl, H9.out.2.2.1.keep rfl, H9.out.2.2.2.1.below (below_drewN (Below.refl _ _) _), below_drewN H9.out.2.2.2.2 _⟩
                    case measure => simp [intOf]; omega
                · obtain rfl : j = 8 := by omega
                  clear hS hN hF hD
                  go_wp2_with fail
                  refine (works_any _).mono ?_
                  rintro e w9 ⟨rfl, hb9⟩
                  go_wp2_with fail
                  go_ret
                  exact ⟨rfl, below_on HB1W.out (below_on hB hb9)⟩
end Go.Proofs.Ytncijclhfndniaa
