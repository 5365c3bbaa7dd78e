/-
  Walks of chapter 14: slices.Clone of blocks and of open writes.
-/
import Derived.Test.YtncijclhfndniaaDiskG
namespace Go.Proofs.Ytncijclhfndniaa
open Go.RowKit
attribute [local irreducible] byteVals wrVs wrV BlAt okB zeros puts pad Dk.ask Dk.settle Dk.count Dk.gCode Dk.synced fated fateAt lastOf wrOf Dk.rd Dk.at
theorem read_any (s : Dk) (X : Nat → Prop) (g : Nat) (i : Int) (w : World) (h : DAt w X g s) : Calls Try.prog 15 #[.pointer (some ⟨g, 0, none⟩), .int .i64 i] w (ReadIs s i w) := by
  by_cases ha : s.ask i = 0
  · have h0 : 0 ≤ i := by
      unfold Dk.ask at ha
      split at ha
      · cases ha
      · split at ha
        · cases ha
        · omega
    obtain ⟨m, rfl⟩ : ∃ m : Nat, i = (m : Int) := ⟨i.toNat, by omega⟩
    exact read_yes s X g m w h ha
  · exact read_no s X g i w h ha
/-- settled blocks, one behind the other -/
def blVs : List (List Nat) → List Value
  | [] => []
  | b :: l => byteVals b ++ blVs l
theorem blVs_length (l : List (List Nat)) (h : ∀ b ∈ l, okB b) : (blVs l).length = l.length * 256 := by
  induction l with
  | nil => rfl
  | cons b l ih =>
    have h1 := ih (fun q hq => h q (List.mem_cons_of_mem _ hq))
    have h2 := h b List.mem_cons_self
    unfold okB at h2
    simp only [blVs, List.length_append, byteVals_length, h2.1, h1, List.length_cons]; omega
theorem blVs_at (l : List (List Nat)) (h : ∀ b ∈ l, okB b) : ∀ (i : Nat) (b : List Nat), l[i]? = some b → ∀ j, j < 256 → (blVs l)[i * 256 + j]? = (byteVals b)[j]? := by
  induction l with
  | nil => intro i p hp; simp at hp
  | cons q l ih =>
    have hq := h q List.mem_cons_self
    unfold okB at hq
    have hq2 : (byteVals q).length = 256 := by rw [byteVals_length]; exact hq.1
    intro i p hp j hj
    rcases i with _ | i
    · simp at hp; subst hp
      simp only [blVs, Nat.zero_mul, Nat.zero_add]
      rw [List.getElem?_append_left (by omega)]
    · simp only [blVs]
      rw [show (i + 1) * 256 + j = (byteVals q).length + (i * 256 + j) by rw [hq2]; omega, List.getElem?_append_right (by omega), Nat.add_sub_cancel_left]
      exact ih (fun r hr => h r (List.mem_cons_of_mem _ hr)) i p (by simpa using hp) j hj
theorem blVs_one (l : List (List Nat)) : ∀ v ∈ blVs l, v.oneCell' = true := by
  induction l with
  | nil => intro v hv; simp [blVs] at hv
  | cons b l ih =>
    intro v hv
    simp only [blVs] at hv
    rcases List.mem_append.1 hv with hv | hv
    · exact byteVals_one _ v hv
    · exact ih v hv
theorem wrVs_ones (l : List (Nat × List Nat)) : ∀ v ∈ wrVs l, v.oneCell' = true := by
  induction l with
  | nil => intro v hv; rw [wrVs_nil] at hv; simp at hv
  | cons b l ih =>
    intro v hv
    have e : wrVs (b :: l) = wrV b ++ wrVs l := by simp only [wrVs]
    rw [e] at hv
    rcases List.mem_append.1 hv with hv | hv
    · exact wrV_one _ v hv
    · exact ih v hv
theorem BlAt.src {w : World} {kb c : Nat} {bl : List (List Nat)} (h : BlAt w kb bl) (hok : ∀ b ∈ bl, okB b) : SrcAt w (some ⟨kb, 0, none⟩) c (blVs bl) := by
  unfold BlAt at h
  refine ⟨(fun h => (by cases h)), blVs_one _, fun ad had j u hu => ?_⟩
  cases had
  rw [Addr.add_lit]
  have hj : j < bl.length * 256 := by
    have := (List.getElem?_eq_some_iff.1 hu).1
    rw [blVs_length _ hok] at this; exact this
  have hi : j / 256 < bl.length := by omega
  obtain ⟨b, hb⟩ : ∃ b, bl[j / 256]? = some b := ⟨_, List.getElem?_eq_getElem hi⟩
  have h1 := blVs_at bl hok _ b hb (j % 256) (by omega)
  rw [show j / 256 * 256 + j % 256 = j by omega, hu] at h1
  have h2 := h.2 _ b hb (j % 256) u h1.symm
  rw [show j / 256 * 256 + j % 256 = j by omega] at h2
  rw [Nat.zero_add]; exact h2
theorem BlAt.own {w : World} {B n : Nat} {v : Value} {bl : List (List Nat)} (h : w.ownsRow B 58 256 v n (blVs bl)) (hok : ∀ b ∈ bl, okB b) (hn : bl.length = n) (hp : bl ≠ []) : ∃ kb cap, v = .slice (some ⟨kb, 0, none⟩) n cap ∧ B ≤ kb ∧ kb < w.heap.size ∧ BlAt w kb bl := by
  rcases h.2 with ⟨e, h0⟩ | ⟨q, cap, cur, e, hg, hheap, hncap, hcm, hsz, htake⟩
  · exact absurd (List.eq_nil_of_length_eq_zero (by omega)) hp
  · refine ⟨q, cap, e, hg, blk_lt hheap, ?_⟩
    unfold BlAt
    refine ⟨⟨_, hheap⟩, fun i b hb j u hu => ?_⟩
    have hi : i < bl.length := (List.getElem?_eq_some_iff.1 hb).1
    have hokb := hok b (List.mem_of_getElem? hb)
    unfold okB at hokb
    have hj : j < 256 := by
      have := (List.getElem?_eq_some_iff.1 hu).1
      rw [byteVals_length, hokb.1] at this; exact this
    have h2 := blVs_at bl hok i b hb j hj
    have h3 : (i + 1) * 256 ≤ bl.length * 256 := Nat.mul_le_mul_right _ hi
    rw [hu, ← htake, List.getElem?_take, if_pos (by omega), Array.getElem?_toList] at h2
    exact blk_cell hheap _ _ h2
theorem own_src {w : World} {B e n q cap c : Nat} {xs : List Value} (h : w.ownsRow B e 257 (.slice (some ⟨q, 0, none⟩) n cap) n xs) (h1 : ∀ v ∈ xs, v.oneCell' = true) : SrcAt w (some ⟨q, 0, none⟩) c xs := by
  refine ⟨(fun h => (by cases h)), h1, fun ad had j u hu => ?_⟩
  cases had
  rw [Addr.add_lit, Nat.zero_add]
  rcases h.2 with ⟨e, h0⟩ | ⟨q', cap', cur, e, hg, hheap, hncap, hcm, hsz, htake⟩
  · cases e
  · cases e
    have hj : j < n * 257 := by
      have := (List.getElem?_eq_some_iff.1 hu).1
      rw [h.1] at this; exact this
    rw [← htake, List.getElem?_take, if_pos hj, Array.getElem?_toList] at hu
    exact blk_cell hheap _ _ hu
theorem own_empty (w : World) (E : TypeId) (sz : Nat) (xs : List Value) (hx : xs = []) : (w.alloc (.cells #[] E)).ownsRow w.heap.size E sz (.slice (some ⟨w.heap.size, 0, none⟩) 0 0) 0 xs := by
  subst hx
  refine ⟨by simp, .inr ⟨w.heap.size, 0, #[], rfl, Nat.le_refl _, heap_new1 w _, Nat.le_refl _, Nat.zero_le _, by simp, by simp⟩⟩
set_option maxHeartbeats 1000000 in
theorem cloneb_any (ad : Option Addr) (n cb : Nat) (bl : List (List Nat)) (w : World) (hn : bl.length = n) (hm : n ≤ 4096) (hok : ∀ b ∈ bl, okB b) (h : bl = [] ∨ ∃ kb, ad = some ⟨kb, 0, none⟩ ∧ BlAt w kb bl) :
    Calls Try.prog 31 #[.slice ad n cb] w fun e w' => ∃ ad' cb', e = .returned (.slice ad' n cb') ∧ (bl = [] ∨ ∃ kb, ad' = some ⟨kb, 0, none⟩ ∧ w.heap.size ≤ kb ∧ kb < w'.heap.size ∧ BlAt w' kb bl) ∧ Below w.heap.size w w' := by
  have HN := Lib.hid hn
  have HO := Lib.hid hok
  have HH := Lib.hid h
  clear hn hok h
  cases ad with
  | none =>
    have HE : Hid (bl = []) := Lib.hid (by
      rcases HH.out with h | ⟨kb, h, _⟩
      · exact h
      · cases h)
    have hq := fun (w : World) => Lib.run_eql_slice_nil (P := Try.prog) w 50 58 none n cb 0 0 Try.underlying50
    obtain rfl : n = 0 := by have := HN.out; rw [HE.out] at this; simpa using this.symm
    go_enter Try.func31, Try.ntmps31
    go_wp2_with fail
    go_ret
    exact ⟨none, 0, rfl, .inl HE.out, Below.refl _ _⟩
  | some x =>
    have hq := fun (w : World) => Lib.run_eql_slice_nil (P := Try.prog) w 50 58 (some x) n cb 0 0 Try.underlying50
    have hsrc : SrcAt (w.alloc (.cells #[] 58)) (some x) cb (blVs bl) := by
      rcases HH.out with h | ⟨kb, h, hb⟩
      · rw [h]; exact ⟨(fun h => (by cases h)), (fun u hu => by simp [blVs] at hu), (fun ad _ j u hu => by simp [blVs] at hu)⟩
      · cases h
        have hb2 := hb
        unfold BlAt at hb2
        obtain ⟨⟨C, hC⟩, _⟩ := hb2
        exact (hb.keep ((below1 w _).block kb (blk_lt hC))).src HO.out
    obtain ⟨i0, hi, hz0, hz1, hz2⟩ := info_parts info_blk
    have HSRC := Lib.hid hsrc
    have HLN : Hid ((blVs bl).length = n * 256) := Lib.hid (by rw [blVs_length bl HO.out, HN.out])
    have HZC : Hid ((Value.agg (Array.replicate 256 (.int .u8 0))).cells.size = 256) := Lib.hid (by show (Array.replicate 256 (Value.int .u8 0)).size = 256; exact Array.size_replicate)
    clear hsrc
    go_enter Try.func31, Try.ntmps31
    go_wp2_with (at_builtin; refine wpList_append_src rfl _ _ 50 rfl w.heap.size 58 i0 _ 256 256 Try.underlying50 hi hz0 hz1 hz2 HZC.out (by decide) (.slice (some ⟨w.heap.size, 0, none⟩) 0 0) 0 [] rfl (own_empty w 58 256 [] rfl) (some x) n cb (blVs bl) rfl HLN.out HSRC.out (by unfold maxLen; omega) (by omega) (by simp) ?_; intro v1 w1 hown hgr; obtain ⟨H1, H2⟩ : Hid (w1.ownsRow w.heap.size 58 256 v1 (0 + n) ([] ++ blVs bl)) ∧ Hid ((w.alloc (.cells #[] 58)).grownBy w1 (some w.heap.size)) := ⟨Lib.hid hown, Lib.hid hgr⟩; clear hown hgr)
    go_ret
    have hown := H1.out
    rw [Nat.zero_add, List.nil_append] at hown
    have hB : Below w.heap.size w w1 := ⟨H2.out.os, H2.out.tape, H2.out.output, Nat.le_trans (below1 w _).size H2.out.size, fun i hi => by
      rw [H2.out.block i (by show i < (w.heap.push _).size; rw [Array.size_push]; omega) (by intro e; cases e; omega)]; exact (below1 w _).block i hi⟩
    by_cases hbl : bl = []
    · obtain rfl : n = 0 := by have := HN.out; rw [hbl] at this; simpa using this.symm
      rcases hown.2 with ⟨e, _⟩ | ⟨q, cap, cur, e, _⟩
      · rw [e]; exact ⟨none, 0, rfl, .inl hbl, hB⟩
      · rw [e]; exact ⟨_, cap, rfl, .inl hbl, hB⟩
    · obtain ⟨kb, cap, e, h1, h2, h3⟩ := BlAt.own hown HO.out HN.out hbl
      rw [e]
      exact ⟨_, cap, rfl, .inr ⟨kb, rfl, h1, h2, h3⟩, hB⟩
set_option maxHeartbeats 1000000 in
theorem clonew_any (a : Option Addr) (n cap : Nat) (op : List (Nat × List Nat)) (w : World) (hn : op.length = n) (hm : n ≤ maxLen ∧ n * 264 ≤ 140737488355328) (hok : ∀ p ∈ op, okB p.2) (h : w.ownsRow 0 60 257 (.slice a n cap) n (wrVs op)) (hnil : op = [] → Value.slice a n cap = .slice none 0 0) :
    Calls Try.prog 32 #[.slice a n cap] w fun e w' => ∃ a' cap', e = .returned (.slice a' n cap') ∧ w'.ownsRow w.heap.size 60 257 (.slice a' n cap') n (wrVs op) ∧ (op = [] → Value.slice a' n cap' = .slice none 0 0) ∧ Below w.heap.size w w' := by
  have HN := Lib.hid hn
  have HO := Lib.hid hok
  have HH := Lib.hid h
  have HNI := Lib.hid hnil
  have HM : Hid (0 + n ≤ maxLen ∧ (0 + n) * 264 ≤ 140737488355328) := Lib.hid (by rw [Nat.zero_add]; exact hm)
  clear hn hok h hm hnil
  cases a with
  | none =>
    have HE : Hid (n = 0 ∧ cap = 0) := Lib.hid (by
      rcases HH.out.2 with ⟨e, h⟩ | ⟨g, c, cur, e, _⟩
      · cases e; exact ⟨h, rfl⟩
      · cases e)
    obtain ⟨rfl, rfl⟩ := HE.out
    have HX : Hid (op = []) := Lib.hid (List.eq_nil_of_length_eq_zero HN.out)
    have hq := fun (w : World) => Lib.run_eql_slice_nil (P := Try.prog) w 51 60 none 0 0 0 0 Try.underlying51
    go_enter Try.func32, Try.ntmps32
    go_wp2_with fail
    go_ret
    refine ⟨none, 0, rfl, ?_, (fun _ => by simp), Below.refl _ _⟩
    rw [HX.out, wrVs_nil]; exact World.ownsRow_nil _ _ _ _
  | some x =>
    have HP : Hid (op ≠ []) := Lib.hid (fun e => by have := HNI.out e; cases this)
    have hq := fun (w : World) => Lib.run_eql_slice_nil (P := Try.prog) w 51 60 (some x) n cap 0 0 Try.underlying51
    have hsrc : SrcAt (w.alloc (.cells #[] 60)) (some x) cap (wrVs op) := by
      have h2 := own_below (below1 w (.cells #[] 60)) HH.out
      rcases h2.2 with ⟨e, h⟩ | ⟨g, c, cur, e, _⟩
      · cases e
      · cases e; exact own_src h2 (wrVs_ones op)
    obtain ⟨i0, hi, hz0, hz1, hz2⟩ := info_parts info_wrt
    have HSRC := Lib.hid hsrc
    have HLN : Hid ((wrVs op).length = n * 257) := Lib.hid (by rw [wrVs_length op HO.out, HN.out])
    have HZC : Hid ((Value.agg (#[.int .i64 0] ++ Array.replicate 256 (.int .u8 0))).cells.size = 257) := Lib.hid (by show (#[Value.int .i64 0] ++ Array.replicate 256 (Value.int .u8 0)).size = 257; simp only [Array.size_append, Array.size_replicate, List.size_toArray, List.length_cons, List.length_nil])
    clear hsrc
    go_enter Try.func32, Try.ntmps32
    go_wp2_with (at_builtin; refine wpList_append_src rfl _ _ 51 rfl w.heap.size 60 i0 _ 257 264 Try.underlying51 hi hz0 hz1 hz2 HZC.out (by decide) (.slice (some ⟨w.heap.size, 0, none⟩) 0 0) 0 [] rfl (own_empty w 60 257 [] rfl) (some x) n cap (wrVs op) rfl HLN.out HSRC.out HM.out.1 HM.out.2 (by simp) ?_; intro v1 w1 hown hgr; obtain ⟨H1, H2⟩ : Hid (w1.ownsRow w.heap.size 60 257 v1 (0 + n) ([] ++ wrVs op)) ∧ Hid ((w.alloc (.cells #[] 60)).grownBy w1 (some w.heap.size)) := ⟨Lib.hid hown, Lib.hid hgr⟩; clear hown hgr)
    go_ret
    have hown := H1.out
    rw [Nat.zero_add, List.nil_append] at hown
    have hB : Below w.heap.size w w1 := ⟨H2.out.os, H2.out.tape, H2.out.output, Nat.le_trans (below1 w _).size H2.out.size, fun i hi => by
      rw [H2.out.block i (by show i < (w.heap.push _).size; rw [Array.size_push]; omega) (by intro e; cases e; omega)]; exact (below1 w _).block i hi⟩
    have hne := HP.out
    rcases hown.2 with ⟨e, h0⟩ | ⟨q, c, cur, e, h9⟩
    · exact absurd (List.eq_nil_of_length_eq_zero (HN.out.trans h0)) hne
    · subst e
      exact ⟨_, c, rfl, hown, fun h => absurd h hne, hB⟩
end Go.Proofs.Ytncijclhfndniaa
