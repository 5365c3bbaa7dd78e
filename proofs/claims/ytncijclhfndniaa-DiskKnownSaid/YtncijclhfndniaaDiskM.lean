/-
  Chapter 14: why each block is torn at most; rows of texts and of marks.
-/
import Derived.Test.YtncijclhfndniaaDiskL
namespace Go.Proofs.Ytncijclhfndniaa
open Go.RowKit

theorem count_bl (s : Dk) : s.count.bl = s.bl := by unfold Dk.count; split <;> (try split) <;> rfl
theorem count_op (s : Dk) : s.count.op = s.op := by unfold Dk.count; split <;> (try split) <;> rfl
theorem count_off {s : Dk} (h : s.off = false) : s.count.off = s.goes := by
  unfold Dk.count Dk.goes
  split
  · rename_i h1; rw [h1]; exact h
  · rename_i n h1
    rw [h1]
    split
    · rename_i h2; simp [h2]
    · rename_i h2; simp [h2, h]
def getL (l : List (List Nat)) (j : Nat) : List Nat := l.getD j []
theorem getL_set (l : List (List Nat)) (i j : Nat) (x : List Nat) : getL (l.set i x) j = if i = j ∧ j < l.length then x else getL l j := by
  unfold getL
  simp only [List.getD_eq_getElem?_getD, List.getElem?_set]
  by_cases h : i = j
  · subst h
    by_cases h2 : i < l.length
    · simp [h2]
    · simp [h2]
  · simp [h]
theorem ext8 {a b : List (List Nat)} {n : Nat} (ha : a.length = n) (hb : b.length = n) (h : ∀ j, j < n → getL a j = getL b j) : a = b := by
  apply List.ext_getElem (by omega)
  intro i h1 h2
  have := h i (by omega)
  unfold getL at this
  simpa [List.getD_eq_getElem?_getD, h1, h2] using this
theorem puts_get : ∀ (l : List (Nat × List Nat)) (bl : List (List Nat)) (j : Nat), (l.map (·.1)).Nodup → (∀ p ∈ l, p.1 < bl.length) →
    ((∀ p ∈ l, p.1 ≠ j) → getL (puts bl l) j = getL bl j) ∧ ∀ (t : Nat) (b : List Nat), l[t]? = some (j, b) → getL (puts bl l) j = b := by
  intro l
  induction l with
  | nil => intro bl j _ _; exact ⟨fun _ => rfl, fun t b h => by simp at h⟩
  | cons p l ih =>
    intro bl j hn hlt
    simp only [List.map_cons, List.nodup_cons] at hn
    obtain ⟨ih1, ih2⟩ := ih (bl.set p.1 p.2) j hn.2 (fun q hq => by rw [List.length_set]; exact hlt q (List.mem_cons_of_mem _ hq))
    have hp := hlt p List.mem_cons_self
    refine ⟨fun h => ?_, fun t b ht => ?_⟩
    · show getL (puts (bl.set p.1 p.2) l) j = _
      rw [ih1 (fun q hq => h q (List.mem_cons_of_mem _ hq)), getL_set, if_neg (by have := h p List.mem_cons_self; omega)]
    · show getL (puts (bl.set p.1 p.2) l) j = _
      rcases t with _ | t
      · simp at ht
        subst ht
        rw [ih1 (fun q hq e => hn.1 (List.mem_map.2 ⟨q, hq, e⟩)), getL_set, if_pos ⟨rfl, hp⟩]
      · exact ih2 t b (by simpa using ht)
theorem fated_get (f : List Nat) : ∀ (l : List (Nat × List Nat)) (i : Nat) (bl : List (List Nat)) (j : Nat), (l.map (·.1)).Nodup → (∀ p ∈ l, p.1 < bl.length) →
    ((∀ p ∈ l, p.1 ≠ j) → getL (fated f i bl l) j = getL bl j) ∧ ∀ (t : Nat) (b : List Nat), l[t]? = some (j, b) → getL (fated f i bl l) j = b.take (fateAt f (i + t)) ++ (getL bl j).drop (fateAt f (i + t)) := by
  intro l
  induction l with
  | nil => intro i bl j _ _; exact ⟨fun _ => rfl, fun t b h => by simp at h⟩
  | cons p l ih =>
    intro i bl j hn hlt
    simp only [List.map_cons, List.nodup_cons] at hn
    have hp := hlt p List.mem_cons_self
    simp only [fated]
    obtain ⟨ih1, ih2⟩ := ih (i + 1) (bl.set p.1 (p.2.take (fateAt f i) ++ (bl.getD p.1 []).drop (fateAt f i))) j hn.2 (fun q hq => by rw [List.length_set]; exact hlt q (List.mem_cons_of_mem _ hq))
    refine ⟨fun h => ?_, fun t b ht => ?_⟩
    · rw [ih1 (fun q hq => h q (List.mem_cons_of_mem _ hq)), getL_set, if_neg (by have := h p List.mem_cons_self; omega)]
    · rcases t with _ | t
      · simp at ht
        subst ht
        rw [ih1 (fun q hq e => hn.1 (List.mem_map.2 ⟨q, hq, e⟩)), getL_set, if_pos ⟨rfl, hp⟩]
        rfl
      · have hj : p.1 ≠ j := fun e => hn.1 (List.mem_map.2 ⟨(j, b), List.mem_of_getElem? (by simpa using ht), e.symm⟩)
        rw [ih2 t b (by simpa using ht), getL_set, if_neg (by omega), show i + 1 + t = i + (t + 1) by omega]
/-- what the loop of DiskKeeps keeps: settled blocks, blocks as written last, which are fresh -/
structure KI (s : Dk) (su no : List (List Nat)) (fr : List Bool) : Prop where
  sl : su.length = 8
  bl : s.bl = su
  nl : no.length = 8
  fl : fr.length = 8
  nod : (s.op.map (·.1)).Nodup
  old : ∀ j, j < 8 → fr.getD j false = false → getL no j = getL su j ∧ ∀ p ∈ s.op, p.1 ≠ j
  new : ∀ j, j < 8 → fr.getD j false = true → ∃ t : Nat, s.op[t]? = some (j, getL no j)
theorem rep_false (j : Nat) : (List.replicate 8 false).getD j false = false := by
  rw [List.getD_eq_getElem?_getD, List.getElem?_replicate]
  split <;> rfl
theorem KI.start (s : Dk) (hb : s.bl = List.replicate 8 zeros) (ho : s.op = []) : KI s (List.replicate 8 zeros) (List.replicate 8 zeros) (List.replicate 8 false) := by
  refine ⟨List.length_replicate, hb, List.length_replicate, List.length_replicate, by rw [ho]; simp, fun j hj _ => ⟨rfl, fun p hp => by rw [ho] at hp; simp at hp⟩, fun j hj h => ?_⟩
  rw [rep_false] at h; cases h
theorem KI.no_ok {s : Dk} {su no : List (List Nat)} {fr : List Bool} (h : KI s su no fr) (hok : s.ok) (j : Nat) (hj : j < 8) : okB (getL su j) ∧ okB (getL no j) := by
  have h1 : okB (getL su j) := by
    rw [← h.bl]
    have hb : s.bl.length = 8 := by rw [h.bl]; exact h.sl
    unfold getL
    rw [List.getD_eq_getElem?_getD, List.getElem?_eq_getElem (by omega)]
    exact hok.blk _ (List.getElem_mem _)
  refine ⟨h1, ?_⟩
  cases hf : fr.getD j false with
  | false => rw [(h.old j hj hf).1]; exact h1
  | true =>
    obtain ⟨t, ht⟩ := h.new j hj hf
    exact (hok.opn _ (List.mem_of_getElem? ht)).2
theorem KI.count {s : Dk} {su no : List (List Nat)} {fr : List Bool} (h : KI s su no fr) : KI s.count su no fr :=
  ⟨h.sl, by rw [count_bl]; exact h.bl, h.nl, h.fl, by rw [count_op]; exact h.nod, by rw [count_op]; exact h.old, by rw [count_op]; exact h.new⟩
theorem KI.settled {s : Dk} {su no : List (List Nat)} {fr : List Bool} (h : KI s su no fr) (hok : s.ok) : KI s.count.settle no no (List.replicate 8 false) := by
  have hlt : ∀ p ∈ s.op, p.1 < s.bl.length := fun p hp => (hok.opn p hp).1
  refine ⟨h.nl, ?_, h.nl, List.length_replicate, by simp [Dk.settle], fun j hj _ => ⟨rfl, fun p hp => by simp [Dk.settle] at hp⟩, fun j hj h => ?_⟩
  · show puts s.count.bl s.count.op = no
    rw [count_bl, count_op]
    refine ext8 (n := 8) (by rw [puts_length, h.bl, h.sl]) h.nl (fun j hj => ?_)
    obtain ⟨h1, h2⟩ := puts_get s.op s.bl j h.nod hlt
    cases hf : fr.getD j false with
    | false =>
      obtain ⟨e1, e2⟩ := h.old j hj hf
      rw [h1 e2, e1, h.bl]
    | true =>
      obtain ⟨t, ht⟩ := h.new j hj hf
      rw [h2 t _ ht]
  · rw [rep_false] at h; cases h
theorem getD_setB (l : List Bool) (i j : Nat) (x : Bool) (hi : i < l.length) : (l.set i x).getD j false = if i = j then x else l.getD j false := by
  simp only [List.getD_eq_getElem?_getD, List.getElem?_set]
  by_cases h : i = j
  · subst h; simp [hi]
  · simp [h]
theorem KI.write {s : Dk} {su no : List (List Nat)} {fr : List Bool} (h : KI s su no fr) {k : Nat} (hk : k < 8) (hf : fr.getD k false = false) (b : List Nat) : KI (Dk.count { s with op := s.op ++ [(k, b)] }) su (no.set k b) (fr.set k true) := by
  apply KI.count
  have hold := (h.old k hk hf).2
  refine ⟨h.sl, h.bl, by rw [List.length_set]; exact h.nl, by rw [List.length_set]; exact h.fl, ?_, fun j hj hfj => ?_, fun j hj hfj => ?_⟩
  · show ((s.op ++ [(k, b)]).map (·.1)).Nodup
    rw [List.map_append, List.nodup_append]
    refine ⟨h.nod, by simp, fun x hx y hy => ?_⟩
    obtain ⟨p, hp, rfl⟩ := List.mem_map.1 hx
    have : y = k := by simpa using hy
    rw [this]; exact hold p hp
  · rw [getD_setB _ _ _ _ (by rw [h.fl]; exact hk)] at hfj
    by_cases e : k = j
    · rw [if_pos e] at hfj; cases hfj
    · rw [if_neg e] at hfj
      obtain ⟨e1, e2⟩ := h.old j hj hfj
      refine ⟨by rw [getL_set, if_neg (by omega)]; exact e1, fun p hp => ?_⟩
      rcases List.mem_append.1 hp with hp | hp
      · exact e2 p hp
      · have : p = (k, b) := by simpa using hp
        rw [this]; exact e
  · rw [getD_setB _ _ _ _ (by rw [h.fl]; exact hk)] at hfj
    by_cases e : k = j
    · subst e
      refine ⟨s.op.length, ?_⟩
      rw [getL_set, if_pos ⟨rfl, by rw [h.nl]; exact hk⟩]
      simp
    · rw [if_neg e] at hfj
      obtain ⟨t, ht⟩ := h.new j hj hfj
      refine ⟨t, ?_⟩
      rw [getL_set, if_neg (by omega)]
      show (s.op ++ [(k, b)])[t]? = _
      rw [List.getElem?_append_left (List.getElem?_eq_some_iff.1 ht).1]
      exact ht
theorem KI.final {s : Dk} {su no : List (List Nat)} {fr : List Bool} (h : KI s su no fr) (hok : s.ok) (f : List Nat) (hf : ∀ x ∈ f, x < 256) (j : Nat) (hj : j < 8) :
    Dk.ask (s.crash.on f) j = 0 ∧ ∃ K, K ≤ 256 ∧ Dk.rd (s.crash.on f) j = (getL no j).take K ++ (getL su j).drop K ∧ (fr.getD j false = false → Dk.rd (s.crash.on f) j = getL su j) := by
  have hlt : ∀ p ∈ s.op, p.1 < s.bl.length := fun p hp => (hok.opn p hp).1
  have e0 : s.crash.on f = { s.crash with bl := fated f 0 s.bl s.op, op := [], ar := none, off := false } := by unfold Dk.on Dk.crash; rfl
  have hb : s.bl.length = 8 := by rw [h.bl]; exact h.sl
  have ha : Dk.ask (s.crash.on f) j = 0 := by
    rw [e0]
    unfold Dk.ask
    have : (fated f 0 s.bl s.op).length = 8 := by rw [fated_length, hb]
    simp only [this]
    rw [if_neg (by decide), if_neg (by omega)]
  have hr : Dk.rd (s.crash.on f) j = getL (fated f 0 s.bl s.op) j := by
    unfold Dk.rd
    rw [if_pos ha, e0]
    unfold Dk.at lastOf getL
    rfl
  refine ⟨ha, ?_⟩
  rw [hr]
  obtain ⟨h1, h2⟩ := fated_get f s.op 0 s.bl j h.nod hlt
  cases hfj : fr.getD j false with
  | false =>
    obtain ⟨e1, e2⟩ := h.old j hj hfj
    exact ⟨0, by omega, by rw [h1 e2, h.bl]; simp, fun _ => by rw [h1 e2, h.bl]⟩
  | true =>
    obtain ⟨t, ht⟩ := h.new j hj hfj
    exact ⟨fateAt f (0 + t), fateAt_le hf _, by rw [h2 t _ ht, h.bl], fun h => by cases h⟩

/-! ### rows of texts, of marks -/
def strRow (L : List (List Nat)) : Array Value := (L.map fun l => Value.string (strOf l)).toArray
def boolRow (L : List Bool) : Array Value := (L.map Value.bool).toArray
def byteRow (L : List Nat) : Array Value := (byteVals L).toArray
theorem strRow_get (L : List (List Nat)) (j : Nat) (h : j < L.length) : (strRow L)[j]? = some (.string (strOf (getL L j))) := by
  unfold strRow getL
  simp [List.getD_eq_getElem?_getD, h]
theorem strRow_set (L : List (List Nat)) (j : Nat) (l : List Nat) : (strRow L).setIfInBounds j (.string (strOf l)) = strRow (L.set j l) := by
  unfold strRow
  rw [List.setIfInBounds_toArray, List.map_set]
theorem boolRow_get (L : List Bool) (j : Nat) (h : j < L.length) : (boolRow L)[j]? = some (.bool (L.getD j false)) := by
  unfold boolRow
  simp [List.getD_eq_getElem?_getD, h]
theorem boolRow_set (L : List Bool) (j : Nat) (l : Bool) : (boolRow L).setIfInBounds j (.bool l) = boolRow (L.set j l) := by
  unfold boolRow
  rw [List.setIfInBounds_toArray, List.map_set]
theorem byteRow_get (L : List Nat) (j : Nat) (h : j < L.length) : (byteRow L)[j]? = some (.int .u8 ((L.getD j 0 : Nat) : Int)) := by
  unfold byteRow
  rw [List.getElem?_toArray]; exact byteVals_get L j h
theorem byteRow_set (L : List Nat) (j x : Nat) : (byteRow L).setIfInBounds j (.int .u8 (x : Int)) = byteRow (L.set j x) := by
  unfold byteRow byteVals
  rw [List.setIfInBounds_toArray, List.map_set]
theorem byteRow_bytes {w : World} {b : Nat} {l : List Nat} {t : TypeId} {fr : Nat × Nat} (hl : ∀ x ∈ l, x < 256) (h : w.heap[b]? = some (.cells (byteRow l) t fr)) : BytesAt w (some ⟨b, 0, none⟩) l := by
  refine ⟨hl, .inr ⟨b, 0, rfl, fun i hi => ?_⟩⟩
  rw [Nat.zero_add]
  exact blk_cell h i _ (byteRow_get l i hi)
def StrAt (w : World) (b : Nat) (L : List (List Nat)) : Prop := w.heap[b]? = some (.cells (strRow L) 9 (0, 0))
def BoolAt (w : World) (b : Nat) (L : List Bool) : Prop := w.heap[b]? = some (.cells (boolRow L) 4 (0, 0))
def ByteAt (w : World) (b : Nat) (L : List Nat) : Prop := w.heap[b]? = some (.cells (byteRow L) 5 (0, 0))
theorem StrAt.set {w : World} {b : Nat} {L : List (List Nat)} (h : StrAt w b L) (j : Nat) (l : List Nat) : StrAt (w.setCell ⟨b, j, none⟩ (.string (strOf l))) b (L.set j l) := by
  have := blk_set h j (.string (strOf l))
  rw [strRow_set] at this; exact this
theorem BoolAt.set {w : World} {b : Nat} {L : List Bool} (h : BoolAt w b L) (j : Nat) (l : Bool) : BoolAt (w.setCell ⟨b, j, none⟩ (.bool l)) b (L.set j l) := by
  have := blk_set h j (.bool l)
  rw [boolRow_set] at this; exact this
theorem ByteAt.set {w : World} {b : Nat} {L : List Nat} (h : ByteAt w b L) (j x : Nat) : ByteAt (w.setCell ⟨b, j, none⟩ (.int .u8 (x : Int))) b (L.set j x) := by
  have := blk_set h j (.int .u8 (x : Int))
  rw [byteRow_set] at this; exact this
theorem info_str : (Try.prog.info? 9).map (fun i => (i.zero, i.size, i.bytes)) = some (some (.string ⟨#[]⟩), 1, 16) := by kernel_rfl
theorem info_bool : (Try.prog.info? 4).map (fun i => (i.zero, i.size, i.bytes)) = some (some (.bool false), 1, 1) := by kernel_rfl
theorem info_byte : (Try.prog.info? 5).map (fun i => (i.zero, i.size, i.bytes)) = some (some (.int .u8 0), 1, 1) := by kernel_rfl
theorem mk_str : ∃ C, C = strRow (List.replicate 8 []) ∧ ∀ w, (Instr.makeSlice 28 (.int .i64 8) (.int .i64 8)).run Try.prog w = .ok (.slice (some ⟨w.heap.size, 0, none⟩) 8 8) (w.alloc (.cells C 9)) := by
  obtain ⟨i0, hi, hz0, hz1, hz2⟩ := info_parts info_str
  refine ⟨madeCells (Value.string ⟨#[]⟩).cells (8 * i0.size), by rw [hz1]; kernel_rfl, fun w => ?_⟩
  have := run_makeSlice (P := Try.prog) (w := w) 28 9 i0 (.string ⟨#[]⟩) Try.underlying28 hi hz0 .i64 .i64 8 8 (by omega) (by omega) (by rw [hz1]; omega) (by rw [hz2]; omega) (by omega)
  simpa using this
theorem mk_bool : ∃ C, C = boolRow (List.replicate 8 false) ∧ ∀ w, (Instr.makeSlice 30 (.int .i64 8) (.int .i64 8)).run Try.prog w = .ok (.slice (some ⟨w.heap.size, 0, none⟩) 8 8) (w.alloc (.cells C 4)) := by
  obtain ⟨i0, hi, hz0, hz1, hz2⟩ := info_parts info_bool
  refine ⟨madeCells (Value.bool false).cells (8 * i0.size), by rw [hz1]; kernel_rfl, fun w => ?_⟩
  have := run_makeSlice (P := Try.prog) (w := w) 30 4 i0 (.bool false) Try.underlying30 hi hz0 .i64 .i64 8 8 (by omega) (by omega) (by rw [hz1]; omega) (by rw [hz2]; omega) (by omega)
  simpa using this
theorem mk_byte : ∃ C, C = byteRow zeros ∧ ∀ w, (Instr.makeSlice 29 (.int .i64 256) (.int .i64 256)).run Try.prog w = .ok (.slice (some ⟨w.heap.size, 0, none⟩) 256 256) (w.alloc (.cells C 5)) := by
  obtain ⟨i0, hi, hz0, hz1, hz2⟩ := info_parts info_byte
  refine ⟨madeCells (Value.int .u8 0).cells (256 * i0.size), by rw [hz1]; kernel_rfl, fun w => ?_⟩
  have := run_makeSlice (P := Try.prog) (w := w) 29 5 i0 (.int .u8 0) Try.underlying29 hi hz0 .i64 .i64 256 256 (by omega) (by omega) (by rw [hz1]; omega) (by rw [hz2]; omega) (by omega)
  simpa using this
end Go.Proofs.Ytncijclhfndniaa
