/-
  Rows of bytes as texts and back: 'string(b)', '[]byte(s)'.
-/
import Derived.Test.YtncijclhfndniaaBase
import Derived.Test.YtncijclhfndniaaProg
import Derived.Laws.BytesArg
import Derived.Laws.IdiomStrings
namespace Go.Proofs.Ytncijclhfndniaa
open Go.RowKit

/-- the text of these bytes -/
def strOf (l : List Nat) : ByteArray := strOfNums (l.map fun (n : Nat) => (n : Int))
theorem strOf_size (l : List Nat) : (strOf l).size = l.length := by simp [strOf, strOfNums_size]
theorem strOf_data (l : List Nat) : (strOf l).data.toList = l.map fun n => UInt8.ofNat n := by simp [strOf, strOfNums_data]
theorem run_str (W : World) (a : Option Addr) (l : List Nat) (n cap : Nat) (hn : l.length = n) (h : BytesAt W a l) :
    (convert 29 9 (.slice a n cap)).run Try.prog W = .ok (.string (strOf l)) W := by
  subst hn
  rcases h.2 with rfl | ⟨b, off, rfl, hc⟩
  · cases a with
    | none => rw [run_convert_bytes_nil W _ _ Try.underlying29 Try.underlying5 _ _ _ Try.underlying9]; rfl
    | some x =>
      have hl : (loadCells x 0).run Try.prog W = .ok #[] W := rfl
      rw [run_convert_bytes_string W _ _ _ x _ _ Try.underlying29 Try.underlying5 Try.underlying9, run_bytesToString W x _ cap [] (by simpa using hl)]
      rfl
  · rw [run_convert_bytes_arg W _ _ Try.underlying29 Try.underlying5 b off l.length cap (l.map fun (n : Nat) => (n : Int)) (by simp) (fun i hi => ?_) _ Try.underlying9]
    · rfl
    · rw [hc i hi]; simp [List.getD_eq_getElem?_getD, hi]
theorem run_byt (W : World) (s : ByteArray) : (convert 9 29 (.string s)).run Try.prog W = .ok (.slice (some ⟨W.heap.size, 0, none⟩) s.size (grownCap W s.size 0 5))
      (W.drew.alloc (.cells (bytesRow s (grownCap W s.size 0 5)) 5 ((bytesRow s (grownCap W s.size 0 5)).size, (bytesRow s (grownCap W s.size 0 5)).size + 1))) :=
  run_bytes_of_string W _ _ _ s Try.underlying9 Try.underlying29 Try.underlying5
theorem bytesRow_strOf (l : List Nat) (cap j : Nat) (hl : ∀ c ∈ l, c < 256) (hj : j < l.length) : (bytesRow (strOf l) cap)[j]? = some (.int .u8 ((l.getD j 0 : Nat) : Int)) := by
  have hs : (strOf l).data.size = l.length := strOf_size l
  rw [bytesRow_at _ _ _ (by omega)]
  have h := getD_lt hl j
  have e : (strOf l).data[j].toNat = l.getD j 0 := by
    have : (strOf l).data[j] = (strOf l).data.toList[j]'(by simpa [hs] using hj) := by simp
    rw [this]
    simp only [strOf_data, List.getElem_map]
    rw [List.getD_eq_getElem?_getD, List.getElem?_eq_getElem hj] at h ⊢
    simp only [Option.getD_some] at h ⊢
    rw [UInt8.toNat_ofNat']; omega
  rw [e]
theorem bytes_at_row {W : World} {g : Nat} {t : TypeId} {fr : Nat × Nat} {cap : Nat} (l : List Nat) (hl : ∀ c ∈ l, c < 256) (hg : W.heap[g]? = some (.cells (bytesRow (strOf l) cap) t fr)) : BytesAt W (some ⟨g, 0, none⟩) l := by
  refine ⟨hl, .inr ⟨g, 0, rfl, fun i hi => ?_⟩⟩
  simp only [World.cell?, hg]
  simpa using bytesRow_strOf l cap i hl hi
theorem heap_new (w : World) (o : Obj) : (w.alloc o).heap[w.heap.size]? = some o := by
  show (w.heap.push o)[w.heap.size]? = some o
  simp
theorem heap_new_drew (w : World) (o : Obj) : (w.alloc o).drew.heap[w.heap.size]? = some o := heap_new w o
theorem below1_drew (w : World) (o : Obj) : Below w.heap.size w (w.alloc o).drew := (below1 w o).drew
theorem mine_row {W : World} {g : Nat} {t : TypeId} {cap N : Nat} (l : List Nat) (hl : ∀ c ∈ l, c < 256) (hN : (bytesRow (strOf l) cap).size ≤ N) (hg : W.heap[g]? = some (.cells (bytesRow (strOf l) cap) t (N, N + 1))) : Mine W g l := by
  refine ⟨hl, fun i hi => ?_, fun i hi => ?_⟩
  · simp only [World.cell?, hg]
    simpa using bytesRow_strOf l cap i hl hi
  · have hs : l.length ≤ (bytesRow (strOf l) cap).size := by
      have h2 : (strOf l).data.size = l.length := strOf_size l
      simp only [bytesRow, Array.size_append, Array.size_map]; omega
    simp only [World.frozen?, hg]
    rw [decide_eq_false (show ¬ N ≤ i by omega)]; rfl
/-- '[]byte(s)' of a text of known bytes: a new row of the call's own, in a world that has a name -/
theorem run_byt_mine (w : World) (l : List Nat) (n : Nat) (hl : ∀ c ∈ l, c < 256) (hn : l.length = n) :
    ∃ W1 cap, (convert 9 29 (.string (strOf l))).run Try.prog w = .ok (.slice (some ⟨w.heap.size, 0, none⟩) n cap) W1 ∧ Mine W1 w.heap.size l ∧ Below w.heap.size w W1 ∧ w.heap.size < W1.heap.size := by
  have h := run_byt w (strOf l)
  rw [strOf_size, hn] at h
  exact ⟨_, _, h, mine_row l hl (Nat.le_refl _) (heap_new_drew _ _), below1_drew _ _, by simp⟩
end Go.Proofs.Ytncijclhfndniaa
