/-
  Chapter 14: the document's disk in memory; its small functions.
-/
import Derived.Test.YtncijclhfndniaaDiskM
import Derived.Test.YtncijclhfndniaaUntil
import Derived.Lib.AppendStr
namespace Go.Proofs.Ytncijclhfndniaa
open Go.RowKit
attribute [local irreducible] byteVals okB zeros pad strOf

theorem only1' (w : World) (b o : Nat) (v : Value) : Only b w (w.setCell ⟨b, o, none⟩ v) := (Only.refl b w).setCell (p := ⟨b, o, none⟩) rfl v
def strVals (L : List (List Nat)) : List Value := L.map fun l => Value.string (strOf l)
theorem strVals_append (a b : List (List Nat)) : strVals (a ++ b) = strVals a ++ strVals b := by unfold strVals; exact List.map_append
theorem strVals_length (l : List (List Nat)) : (strVals l).length = l.length := by unfold strVals; exact List.length_map _
theorem strVals_get (l : List (List Nat)) (j : Nat) (h : j < l.length) : (strVals l)[j]? = some (.string (strOf (getL l j))) := by
  unfold strVals getL; simp [List.getD_eq_getElem?_getD, h]
theorem strVals_set (l : List (List Nat)) (j : Nat) (x : List Nat) : (strVals l).set j (.string (strOf x)) = strVals (l.set j x) := by unfold strVals; rw [List.map_set]
theorem strVals_one (l : List (List Nat)) : ∀ v ∈ strVals l, v.oneCell' = true := by
  intro v hv
  unfold strVals at hv
  obtain ⟨x, _, rfl⟩ := List.mem_map.1 hv
  rfl
def rwV (p : Nat × List Nat) : List Value := [.int .i64 (p.1 : Int), .string (strOf p.2)]
def rwVs : List (Nat × List Nat) → List Value
  | [] => []
  | p :: l => rwV p ++ rwVs l
theorem rwVs_append (a b : List (Nat × List Nat)) : rwVs (a ++ b) = rwVs a ++ rwVs b := by
  induction a with
  | nil => rfl
  | cons p l ih => simp [rwVs, ih]
theorem rwVs_length (l : List (Nat × List Nat)) : (rwVs l).length = l.length * 2 := by
  induction l with
  | nil => rfl
  | cons p l ih => simp only [rwVs, List.length_append, ih, List.length_cons]; unfold rwV; simp; omega
theorem rwVs_at (l : List (Nat × List Nat)) : ∀ (i : Nat) (p : Nat × List Nat), l[i]? = some p → (rwVs l)[i * 2]? = some (.int .i64 (p.1 : Int)) ∧ (rwVs l)[i * 2 + 1]? = some (.string (strOf p.2)) := by
  induction l with
  | nil => intro i p hp; simp at hp
  | cons q l ih =>
    intro i p hp
    rcases i with _ | i
    · simp at hp; subst hp; exact ⟨rfl, rfl⟩
    · have := ih i p (by simpa using hp)
      simp only [rwVs, rwV, List.cons_append, List.nil_append]
      rw [show (i + 1) * 2 = i * 2 + 1 + 1 by omega]
      exact this
theorem rwVs_ones (l : List (Nat × List Nat)) : ∀ v ∈ rwVs l, v.oneCell' = true := by
  induction l with
  | nil => intro v hv; simp [rwVs] at hv
  | cons b l ih =>
    intro v hv
    simp only [rwVs] at hv
    rcases List.mem_append.1 hv with hv | hv
    · unfold rwV at hv
      simp at hv
      rcases hv with rfl | rfl <;> rfl
    · exact ih v hv
structure RkAt (w : World) (Y : Nat → Prop) (r : Nat) (s : Dk) (vb vo : Value) (inn : Int) : Prop where
  hd : w.heap[r]? = some (.cells #[vb, vo, .int .i64 s.st, .bool s.ar.isSome, .int .i64 inn, .bool s.off] 66 (0, 0))
  xr : Y r
  lt : ∀ k, Y k → k < w.heap.size
  inn : ∀ n, s.ar = some n → inn = n
  ok : s.ok
  bl : w.ownsRow 0 9 1 vb s.bl.length (strVals s.bl)
  bx : ∀ q, vb.ownBlock = some q → Y q
  op : w.ownsRow 0 75 2 vo s.op.length (rwVs s.op)
  ox : ∀ q, vo.ownBlock = some q → Y q
def RAt (w : World) (Y : Nat → Prop) (r : Nat) (s : Dk) : Prop := ∃ vb vo inn, RkAt w Y r s vb vo inn
theorem own_slice {w : World} {B n sz : Nat} {e : TypeId} {v : Value} {xs : List Value} (h : w.ownsRow B e sz v n xs) : ∃ a c, v = .slice a n c := by
  rcases h.2 with ⟨e, h0⟩ | ⟨g, cap, cur, e, _⟩
  · exact ⟨none, 0, by rw [e, h0]⟩
  · exact ⟨_, cap, e⟩
theorem RkAt.keep {w w' : World} {Y : Nat → Prop} {r : Nat} {s : Dk} {vb vo : Value} {inn : Int} (h : RkAt w Y r s vb vo inn) (hs : w.heap.size ≤ w'.heap.size) (hk : ∀ k, Y k → w'.heap[k]? = w.heap[k]?) : RkAt w' Y r s vb vo inn :=
  ⟨by rw [hk r h.xr, h.hd], h.xr, fun k hy => Nat.lt_of_lt_of_le (h.lt k hy) hs, h.inn, h.ok, own_keep h.bl (fun q hq => hk q (h.bx q hq)), h.bx, own_keep h.op (fun q hq => hk q (h.ox q hq)), h.ox⟩
theorem RAt.keep {w w' : World} {Y : Nat → Prop} {r : Nat} {s : Dk} (h : RAt w Y r s) (hs : w.heap.size ≤ w'.heap.size) (hk : ∀ k, Y k → w'.heap[k]? = w.heap[k]?) : RAt w' Y r s := by
  obtain ⟨vb, vo, inn, h⟩ := h
  exact ⟨vb, vo, inn, h.keep hs hk⟩
theorem RAt.below {w w' : World} {Y : Nat → Prop} {r : Nat} {s : Dk} (h : RAt w Y r s) (hb : Below w.heap.size w w') : RAt w' Y r s := by
  obtain ⟨vb, vo, inn, h⟩ := h
  exact ⟨vb, vo, inn, h.keep hb.size (fun k hk => hb.block k (h.lt k hk))⟩
theorem RAt.lt {w : World} {Y : Nat → Prop} {r : Nat} {s : Dk} (h : RAt w Y r s) : ∀ k, Y k → k < w.heap.size := by
  obtain ⟨vb, vo, inn, h⟩ := h
  exact h.lt
theorem RAt.ok {w : World} {Y : Nat → Prop} {r : Nat} {s : Dk} (h : RAt w Y r s) : s.ok := by
  obtain ⟨vb, vo, inn, h⟩ := h
  exact h.ok
/-- a store into the object's own block -/
theorem RkAt.store {w w' : World} {Y : Nat → Prop} {r : Nat} {s s' : Dk} {vb vo : Value} {inn inn' : Int} (h : RkAt w Y r s vb vo inn) (ho : Only r w w')
    (hd : w'.heap[r]? = some (.cells #[vb, vo, .int .i64 s'.st, .bool s'.ar.isSome, .int .i64 inn', .bool s'.off] 66 (0, 0))) (hb : s'.bl = s.bl) (hop : s'.op = s.op) (hok : ∀ n, s'.ar = some n → 0 ≤ n ∧ n ≤ 9223372036854775807) (hin : ∀ n, s'.ar = some n → inn' = n) : RkAt w' Y r s' vb vo inn' := by
  have hne : ∀ (k : Nat) (C : Array Value) (t : TypeId), w.heap[k]? = some (.cells C t (0, 0)) → t ≠ 66 → w'.heap[k]? = w.heap[k]? := fun k C t hk ht => ho.block k (blk_lt hk) (ne_type hk h.hd ht)
  have hown : ∀ {v : Value} {n sz : Nat} {e : TypeId} {xs : List Value}, e ≠ 66 → w.ownsRow 0 e sz v n xs → w'.ownsRow 0 e sz v n xs := fun he hv => own_keep hv (fun q hq => by
    rcases hv.2 with ⟨e, _⟩ | ⟨g', cap, cur, e, _, hc, _⟩
    · rw [e] at hq; cases hq
    · rw [e] at hq; cases hq
      exact hne _ _ _ hc he)
  exact ⟨hd, h.xr, fun k hk => Nat.lt_of_lt_of_le (h.lt k hk) ho.size, hin, ⟨by rw [hb]; exact h.ok.blk, by rw [hb, hop]; exact h.ok.opn, by rw [hb]; exact h.ok.n, hok⟩, by rw [hb]; exact hown (by decide) h.bl, h.bx, by rw [hop]; exact hown (by decide) h.op, h.ox⟩
theorem rasked_any (s : Dk) (Y : Nat → Prop) (r : Nat) (i : Int) (w : World) (h : RAt w Y r s) : Calls Try.prog 41 #[.pointer (some ⟨r, 0, none⟩), .int .i64 i] w fun e w' => e = .returned (.int .i64 (s.ask i)) ∧ w = w' := by
  obtain ⟨vb, vo, inn, h⟩ := h
  obtain ⟨a, c, rfl⟩ := own_slice h.bl
  have h5 := blk_cell h.hd 5 _ rfl
  have h0 := blk_cell h.hd 0 _ rfl
  clear h
  cases ho : s.off with
  | true =>
    have e : s.ask i = 140 := by unfold Dk.ask; rw [if_pos ho]
    rw [e]
    rw [ho] at h5
    go_enter Try.func41, Try.ntmps41
    go_wp2_with fail
    go_ret
    exact ⟨rfl, rfl⟩
  | false =>
    rw [ho] at h5
    have hn : ¬ s.off = true := by rw [ho]; decide
    by_cases h1 : i < 0
    · have e : s.ask i = 2 := by unfold Dk.ask; rw [if_neg hn, if_pos (.inl h1)]
      rw [e]
      clear hn
      have d1 : decide (i < 0) = true := decide_eq_true h1
      go_enter Try.func41, Try.ntmps41
      go_wp2_with fail
      go_ret
      exact ⟨rfl, rfl⟩
    · have d1 : decide (i < 0) = false := decide_eq_false h1
      by_cases h2 : (s.bl.length : Int) ≤ i
      · have e : s.ask i = 2 := by unfold Dk.ask; rw [if_neg hn, if_pos (.inr h2)]
        rw [e]
        clear hn
        have d2 : decide (i ≥ (s.bl.length : Int)) = true := decide_eq_true h2
        have d3 : decide ((s.bl.length : Int) ≤ i) = true := decide_eq_true h2
        go_enter Try.func41, Try.ntmps41
        go_wp2_with fail
        go_ret
        exact ⟨rfl, rfl⟩
      · have e : s.ask i = 0 := by unfold Dk.ask; rw [if_neg hn, if_neg (by omega)]
        rw [e]
        clear hn
        have d2 : decide (i ≥ (s.bl.length : Int)) = false := decide_eq_false (by omega)
        have d3 : decide ((s.bl.length : Int) ≤ i) = false := decide_eq_false h2
        go_enter Try.func41, Try.ntmps41
        go_wp2_with fail
        go_ret
        exact ⟨rfl, rfl⟩
theorem rcrash_any (s : Dk) (Y : Nat → Prop) (r : Nat) (w : World) (h : RAt w Y r s) : Calls Try.prog 36 #[.pointer (some ⟨r, 0, none⟩)] w fun e w' => e = .returned (.tuple #[]) ∧ RAt w' Y r s.crash ∧ Only r w w' := by
  obtain ⟨vb, vo, inn, h⟩ := h
  have h3 := blk_cell h.hd 3 _ rfl
  have h5 := blk_cell h.hd 5 _ rfl
  have hf := blk_free h.hd
  have H := Lib.hid h
  clear h
  go_enter Try.func36, Try.ntmps36
  go_wp2_with fail
  go_end0
  have ho : Only r w ((w.setCell ⟨r, 5, none⟩ (.bool true)).setCell ⟨r, 3, none⟩ (.bool false)) := ((Only.refl r w).setCell (p := ⟨r, 5, none⟩) rfl _).setCell (p := ⟨r, 3, none⟩) rfl _
  exact ⟨rfl, ⟨_, _, inn, H.out.store (s' := s.crash) ho (blk_set (blk_set H.out.hd 5 _) 3 _) rfl rfl (fun n h => by simp [Dk.crash] at h) (fun n h => by simp [Dk.crash] at h)⟩, ho⟩
theorem rfail_any (s : Dk) (Y : Nat → Prop) (r : Nat) (n : Int) (w : World) (h : RAt w Y r s) (hn : n ≤ 9223372036854775807) : Calls Try.prog 35 #[.pointer (some ⟨r, 0, none⟩), .int .i64 n] w fun e w' => e = .returned (.tuple #[]) ∧ RAt w' Y r (s.fail n) ∧ Only r w w' := by
  obtain ⟨vb, vo, inn, h⟩ := h
  have h3 := blk_cell h.hd 3 _ rfl
  have h4 := blk_cell h.hd 4 _ rfl
  have hf := blk_free h.hd
  have H := Lib.hid h
  have HN := Lib.hid hn
  clear h hn
  by_cases h0 : 0 ≤ n
  · have d1 : decide (n ≥ 0) = true := decide_eq_true h0
    have H0 := Lib.hid h0
    clear h0
    go_enter Try.func35, Try.ntmps35
    go_wp2_with fail
    go_end0
    have ho : Only r w ((w.setCell ⟨r, 3, none⟩ (.bool true)).setCell ⟨r, 4, none⟩ (.int .i64 n)) := ((Only.refl r w).setCell (p := ⟨r, 3, none⟩) rfl _).setCell (p := ⟨r, 4, none⟩) rfl _
    have e : s.fail n = { s with ar := some n } := by unfold Dk.fail; rw [if_pos H0.out]
    rw [e]
    exact ⟨rfl, ⟨_, _, n, H.out.store (s' := { s with ar := some n }) ho (blk_set (blk_set H.out.hd 3 _) 4 _) rfl rfl (fun m h => by cases h; exact ⟨H0.out, HN.out⟩) (fun m h => by cases h; rfl)⟩, ho⟩
  · have d1 : decide (n ≥ 0) = false := decide_eq_false h0
    have H0 := Lib.hid h0
    clear h0
    go_enter Try.func35, Try.ntmps35
    go_wp2_with fail
    go_end0
    have ho : Only r w ((w.setCell ⟨r, 3, none⟩ (.bool false)).setCell ⟨r, 4, none⟩ (.int .i64 n)) := ((Only.refl r w).setCell (p := ⟨r, 3, none⟩) rfl _).setCell (p := ⟨r, 4, none⟩) rfl _
    have e : s.fail n = { s with ar := none } := by unfold Dk.fail; rw [if_neg (by have := H0.out; omega)]
    rw [e]
    exact ⟨rfl, ⟨_, _, n, H.out.store (s' := { s with ar := none }) ho (blk_set (blk_set H.out.hd 3 _) 4 _) rfl rfl (fun m h => by cases h) (fun m h => by cases h)⟩, ho⟩
theorem rfails_any (s : Dk) (Y : Nat → Prop) (r : Nat) (w : World) (h : RAt w Y r s) : Calls Try.prog 40 #[.pointer (some ⟨r, 0, none⟩)] w fun e w' => e = .returned (.bool s.goes) ∧ RAt w' Y r s.count ∧ Only r w w' := by
  obtain ⟨vb, vo, inn, h⟩ := h
  have h2 := blk_cell h.hd 2 _ rfl
  have h3 := blk_cell h.hd 3 _ rfl
  have h4 := blk_cell h.hd 4 _ rfl
  have h5 := blk_cell h.hd 5 _ rfl
  have hf := blk_free h.hd
  have H := Lib.hid h
  cases ha : s.ar with
  | none =>
    have e1 : s.goes = false := by unfold Dk.goes; rw [ha]
    have e2 : s.count = { s with st := wrap64 (s.st + 1) } := by unfold Dk.count; rw [ha]
    have hx : s.ar.isSome = false := by rw [ha]; rfl
    rw [e1, e2]
    rw [hx] at h3
    have HA := Lib.hid ha
    clear h e1 e2 hx ha
    go_enter Try.func40, Try.ntmps40
    go_wp2_with fail
    go_ret
    have ho := only1' w r 2 (.int .i64 (wrap64 (s.st + 1)))
    exact ⟨rfl, ⟨_, _, inn, H.out.store (s' := { s with st := wrap64 (s.st + 1) }) ho (blk_set H.out.hd 2 _) rfl rfl H.out.ok.arm H.out.inn⟩, ho⟩
  | some n =>
    have hx : s.ar.isSome = true := by rw [ha]; rfl
    obtain rfl := h.inn n ha
    have hn := h.ok.arm _ ha
    rw [hx] at h3
    by_cases h0 : inn ≤ 0
    · have e1 : s.goes = true := by unfold Dk.goes; rw [ha]; exact decide_eq_true h0
      have e2 : s.count = { s with st := wrap64 (s.st + 1), ar := none, off := true } := by unfold Dk.count; rw [ha]; simp only [if_pos h0]
      have d1 : decide (inn > 0) = false := decide_eq_false (by omega)
      have d2 : decide (0 < inn) = false := decide_eq_false (by omega)
      rw [e1, e2]
      clear h e1 e2 hx ha hn
      go_enter Try.func40, Try.ntmps40
      go_wp2_with fail
      go_ret
      have ho := ((only1' w r 2 (.int .i64 (wrap64 (s.st + 1)))).setCell (p := ⟨r, 3, none⟩) rfl (.bool false)).setCell (p := ⟨r, 5, none⟩) rfl (.bool true)
      exact ⟨rfl, ⟨_, _, inn, H.out.store (s' := { s with st := wrap64 (s.st + 1), ar := none, off := true }) ho (blk_set (blk_set (blk_set H.out.hd 2 _) 3 _) 5 _) rfl rfl (fun m h => by cases h) (fun m h => by cases h)⟩, ho⟩
    · have e1 : s.goes = false := by unfold Dk.goes; rw [ha]; exact decide_eq_false h0
      have e2 : s.count = { s with st := wrap64 (s.st + 1), ar := some (inn - 1) } := by unfold Dk.count; rw [ha]; simp only [if_neg h0]
      have d1 : decide (inn > 0) = true := decide_eq_true (by omega)
      have d2 : decide (0 < inn) = true := decide_eq_true (by omega)
      have hw : wrap64 (inn - 1) = inn - 1 := by unfold wrap64; omega
      have HW := Lib.hid hn
      have HX := Lib.hid h0
      have HAX := Lib.hid hx
      rw [e1, e2]
      clear h e1 e2 hx ha hn h0
      go_enter Try.func40, Try.ntmps40
      go_wp2_with fail
      go_ret
      have ho := (only1' w r 2 (.int .i64 (wrap64 (s.st + 1)))).setCell (p := ⟨r, 4, none⟩) rfl (.int .i64 (inn - 1))
      exact ⟨rfl, ⟨_, _, inn - 1, H.out.store (s' := { s with st := wrap64 (s.st + 1), ar := some (inn - 1) }) ho (by have := blk_set (blk_set H.out.hd 2 (.int .i64 (wrap64 (s.st + 1)))) 4 (.int .i64 (inn - 1)); rw [HAX.out] at this; exact this) rfl rfl (fun m h => by cases h; have := HW.out; have := HX.out; omega) (fun m h => by cases h; rfl)⟩, ho⟩
end Go.Proofs.Ytncijclhfndniaa
