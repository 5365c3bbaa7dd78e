/-
  Chapter 14: the walk of 'torn'.
-/
import Derived.Test.YtncijclhfndniaaDiskK
import Derived.Laws.Concat
namespace Go.Proofs.Ytncijclhfndniaa
open Go.RowKit
theorem strOf_append (a b : List Nat) : strOf a ++ strOf b = strOf (a ++ b) := by
  apply ByteArray.ext
  apply Array.ext'
  rw [ByteArray.data_append, Array.toList_append, strOf_data, strOf_data, strOf_data, List.map_append]
theorem strOf_take (l : List Nat) (k : Nat) : (strOf l).extract 0 k = strOf (l.take k) := by
  apply ByteArray.ext
  apply Array.ext'
  rw [ByteArray.data_extract, Array.toList_extract, strOf_data, strOf_data]
  simp [List.map_take]
theorem strOf_drop (l : List Nat) (k n : Nat) (hn : l.length = n) : (strOf l).extract k n = strOf (l.drop k) := by
  apply ByteArray.ext
  apply Array.ext'
  rw [ByteArray.data_extract, Array.toList_extract, strOf_data, strOf_data]
  subst hn
  simp only [List.extract, List.map_drop]
  exact List.take_of_length_le (by simp)
def Drawn (w w' : World) : Prop := ∃ m, w' = w.drewN m
theorem Drawn.on {w : World} (m n : Nat) : Drawn w ((w.drewN m).drewN n) := ⟨m + n, by rw [World.drewN_drewN]⟩
theorem Drawn.one {w : World} (m : Nat) : Drawn w (w.drewN m) := ⟨m, rfl⟩
attribute [local irreducible] strOf
set_option maxHeartbeats 2000000 in
theorem torn_any (b s n : List Nat) (K : Nat) (w : World) (hb : b.length = 256) (hs : s.length = 256) (hn : n.length = 256) (hK : K ≤ 256) (h : b = n.take K ++ s.drop K) :
    Calls Try.prog 16 #[.string (strOf b), .string (strOf s), .string (strOf n)] w fun e w' => e = .returned (.bool true) ∧ Drawn w w' := by
  have zb : (strOf b).size = 256 := by rw [strOf_size, hb]
  have zs : (strOf s).size = 256 := by rw [strOf_size, hs]
  have zn : (strOf n).size = 256 := by rw [strOf_size, hn]
  have HE := Lib.hid h
  have HS := Lib.hid hs
  clear h hb hs hn
  go_enter Try.func16, Try.ntmps16
  go_wp2_with fail
  go_loopw [7] (fun i wr => ∃ k : Nat, k ≤ K ∧ i = .int .i64 k ∧ ∃ m, w.drewN m = wr) (fun i _ => 300 - (intOf i).toNat)
  case atStart => exact ⟨0, by omega, rfl, 0, rfl⟩
  case round =>
    obtain ⟨k, hk, rfl, mm, rfl⟩ := hrel
    have d1 : (k : Int) ≤ 256 := by omega
    have d2 : (0 : Int) ≤ k := by omega
    have e1 := strOf_take n k
    have e2 := strOf_drop s k 256 HS.out
    have e3 := strOf_append (n.take k) (s.drop k)
    have e5 : ∀ w, (Op.stringOp .add (strOf (n.take k)) (strOf (s.drop k))).run Try.prog w = .ok (.string (strOf (n.take k ++ s.drop k))) w := fun w => by
      have l1 : (n.take k).length ≤ 256 := by rw [List.length_take]; exact Nat.le_trans (Nat.min_le_left _ _) (by omega)
      have l2 : (s.drop k).length ≤ 256 := by rw [List.length_drop]; have := HS.out; omega
      rw [run_string_add w _ _ (by rw [strOf_size]; omega) (by rw [strOf_size]; omega), e3]
    clear e3
    cases hq : ((strOf b).toList == (strOf (n.take k ++ s.drop k)).toList) with
    | true =>
      go_wp2_with fail
      go_quiet (fail)
      go_wp2_with fail
      go_ret
      exact ⟨rfl, Drawn.on _ _⟩
    | false =>
      have hne : k ≠ K := by
        rintro rfl
        rw [← HE.out] at hq
        simp at hq
      go_wp2_with fail
      go_quiet (fail)
      go_wp2_with fail
      go_roundw
      case rel => exact ⟨k + 1, by omega, by go_num, _, rfl⟩
      case measure => simp [intOf]; omega
end Go.Proofs.Ytncijclhfndniaa
