/-
  Walks of package switchover: the small functions.
-/
import Derived.Test.YtoedipajcmmhjaaSw
import Derived.Deep.QuietTactic
import Derived.BigQuiet
import Derived.RegionTactic
import Derived.IntWalk
namespace Go.Proofs.Ytoedipajcmmhjaa
open Go.RowKit
attribute [local irreducible] takeR holdsB tm

theorem role_is (s : Sw) (g : Nat) (w : World) (h : SwAt w g s) : Calls Try.prog 8 #[.pointer (some ⟨g, 0, none⟩)] w fun e w' => e = .returned (.int .u8 (rol s.ac)) ∧ w = w' := by
  have h3 := blk_cell h 3 _ rfl
  clear h
  go_enter Try.func8, Try.ntmps8
  go_wp2_with fail
  go_ret
  exact ⟨rfl, rfl⟩
theorem epoch_is (s : Sw) (g : Nat) (w : World) (h : SwAt w g s) : Calls Try.prog 12 #[.pointer (some ⟨g, 0, none⟩)] w fun e w' => e = .returned (.int .i64 s.ge) ∧ w = w' := by
  have h3 := blk_cell h 1 _ rfl
  clear h
  go_enter Try.func12, Try.ntmps12
  go_wp2_with fail
  go_ret
  exact ⟨rfl, rfl⟩
theorem known_is (s : Sw) (g : Nat) (w : World) (h : SwAt w g s) : Calls Try.prog 16 #[.pointer (some ⟨g, 0, none⟩)] w fun e w' => e = .returned (.int .i64 s.kn) ∧ w = w' := by
  have h3 := blk_cell h 4 _ rfl
  clear h
  go_enter Try.func16, Try.ntmps16
  go_wp2_with fail
  go_ret
  exact ⟨rfl, rfl⟩
theorem time_is (t : Int) (w : World) : Calls Try.prog 20 #[.int .i64 t] w fun e w' => e = .returned (.int .i64 (tm t)) ∧ w = w' := by
  by_cases h1 : t < 0
  · have HP : Hid (tm t = 1099511627776) := Lib.hid (by unfold tm; rw [if_pos h1])
    go_enter Try.func20, Try.ntmps20
    go_wp2_with fail
    go_ret
    exact ⟨by rw [HP.out]; rfl, rfl⟩
  · by_cases h2 : t < 1099511627776
    · have HP : Hid (tm t = t) := Lib.hid (by unfold tm; rw [if_neg h1]; omega)
      have h3 : ¬ 1099511627776 < t := by omega
      go_enter Try.func20, Try.ntmps20
      go_wp2_with fail
      go_ret
      exact ⟨by rw [HP.out]; rfl, rfl⟩
    · have HP : Hid (tm t = 1099511627776) := Lib.hid (by unfold tm; rw [if_neg h1]; omega)
      by_cases h4 : t = 1099511627776
      · subst h4
        go_enter Try.func20, Try.ntmps20
        go_wp2_with fail
        go_ret
        exact ⟨by rw [HP.out]; rfl, rfl⟩
      · have h3 : 1099511627776 < t := by omega
        go_enter Try.func20, Try.ntmps20
        go_wp2_with fail
        go_ret
        exact ⟨by rw [HP.out]; rfl, rfl⟩
theorem back_is (s : Sw) (g : Nat) (w : World) (h : SwAt w g s) : Calls Try.prog 23 #[.pointer (some ⟨g, 0, none⟩)] w fun e w' => e = .returned (.int .u8 3) ∧ SwAt w' g s.back ∧ Only g w w' := by
  have h3 := blk_cell h 3 _ rfl
  have h5 := blk_cell h 5 _ rfl
  have hf := blk_free h
  have hend : SwAt ((w.setCell ⟨g, 3, none⟩ (.int .u8 0)).setCell ⟨g, 5, none⟩ (.int .i64 0)) g s.back := blk_set (blk_set h 3 _) 5 _
  have HE := Lib.hid hend
  have HG := Lib.hid (blk_lt h)
  clear h hend
  go_enter Try.func23, Try.ntmps23
  go_wp2_with fail
  go_ret
  exact ⟨rfl, HE.out, ((Only.refl g w).setCell rfl _).setCell rfl _⟩
theorem stand_is (s : Sw) (g : Nat) (t : Int) (w : World) (hq : 0 ≤ s.qu ∧ s.qu ≤ 4) (h : SwAt w g s) : Calls Try.prog 18 #[.pointer (some ⟨g, 0, none⟩), .int .i64 t] w fun e w' => e = .returned (.int .u8 (standR s).2) ∧ SwAt w' g (standR s).1 ∧ Only g w w' := by
  have h5 := blk_cell h 5 _ rfl
  have hf := blk_free h
  have H := Lib.hid h
  by_cases h1 : s.qu < 4
  · have HP : Hid (standR s = ({ s with qu := s.qu + 1 }, 0)) := Lib.hid (by unfold standR; rw [if_pos h1])
    have hw : IntKind.i64.wrap (s.qu + 1) = s.qu + 1 := by rw [IntWalk.i64_left]; unfold wrap64; omega
    clear h hq
    go_enter Try.func18, Try.ntmps18
    go_wp2_with fail
    go_ret
    rw [HP.out]
    exact ⟨rfl, blk_set H.out 5 _, (Only.refl g w).setCell rfl _⟩
  · have HP : Hid (standR s = ({ s with qu := 0 }, 1)) := Lib.hid (by unfold standR; rw [if_neg h1])
    clear h hq
    go_enter Try.func18, Try.ntmps18
    go_wp2_with fail
    go_ret
    rw [HP.out]
    exact ⟨rfl, blk_set H.out 5 _, (Only.refl g w).setCell rfl _⟩
theorem refused_is (s : Sw) (g : Nat) (w : World) (h : SwAt w g s) : Calls Try.prog 15 #[.pointer (some ⟨g, 0, none⟩)] w fun e w' => e = .returned (.int .u8 (refR s).2) ∧ SwAt w' g (refR s).1 ∧ Only g w w' := by
  have h3 := blk_cell h 3 _ rfl
  have H := Lib.hid h
  clear h
  cases ha : s.ac with
  | true =>
    rw [show rol s.ac = 1 by rw [ha]; rfl] at h3
    have HP : Hid (refR s = (s.back, 3)) := Lib.hid (by unfold refR; rw [if_pos ha])
    clear ha
    go_enter Try.func15, Try.ntmps15
    go_wp2_with fail
    refine (back_is s g _ H.out).mono ?_
    rintro e w1 ⟨rfl, hs, ho⟩
    go_wp2_with fail
    go_ret
    rw [HP.out]
    exact ⟨rfl, hs, ho⟩
  | false =>
    rw [show rol s.ac = 0 by rw [ha]; rfl] at h3
    have HP : Hid (refR s = (s, 0)) := Lib.hid (by unfold refR; rw [if_neg (by rw [ha]; decide)])
    clear ha
    go_enter Try.func15, Try.ntmps15
    go_wp2_with fail
    go_ret
    rw [HP.out]
    exact ⟨rfl, H.out, Only.refl g w⟩
theorem new_one (p : Int) (w : World) (hp : p = 0 ∨ p = 1) : Calls Try.prog 6 #[.int .i64 p] w fun e w' => e = .returned (.tuple #[.pointer (some ⟨w.heap.size, 0, none⟩), .int .i64 0]) ∧ SwAt w' w.heap.size ⟨p, 0, 0, false, 0, 0⟩ ∧ Below w.heap.size w w' := by
  have hend : ∀ p : Int, SwAt (w.alloc (.cells #[.int .i64 p, .int .i64 0, .int .i64 0, .int .u8 0, .int .i64 0, .int .i64 0] 51)) w.heap.size ⟨p, 0, 0, false, 0, 0⟩ := fun p => alloc1 w _ (Below.refl _ _)
  have HE := Lib.hid hend
  clear hend
  rcases hp with rfl | rfl
  · go_enter Try.func6, Try.ntmps6
    go_wp2_with fail
    exact bodyPost_ret (v := .tuple #[.pointer (some ⟨w.heap.size, 0, none⟩), .int .i64 0]) (by simp [results, Try.results6, go_sem]) rfl ⟨rfl, HE.out 0, below1 _ _⟩
  · go_enter Try.func6, Try.ntmps6
    go_wp2_with fail
    exact bodyPost_ret (v := .tuple #[.pointer (some ⟨w.heap.size, 0, none⟩), .int .i64 0]) (by simp [results, Try.results6, go_sem]) rfl ⟨rfl, HE.out 1, below1 _ _⟩
theorem new_no (p : Int) (w : World) (hp : p < 0 ∨ 1 < p) : Calls Try.prog 6 #[.int .i64 p] w fun e w' => e = .returned (.tuple #[.pointer none, .int .i64 2]) ∧ w = w' := by
  by_cases h1 : p < 0
  · clear hp
    go_enter Try.func6, Try.ntmps6
    go_wp2_with fail
    exact bodyPost_ret (v := .tuple #[.pointer none, .int .i64 2]) (by simp [results, Try.results6, go_sem]) rfl ⟨rfl, rfl⟩
  · have h2 : 1 < p := by omega
    clear hp
    go_enter Try.func6, Try.ntmps6
    go_wp2_with fail
    exact bodyPost_ret (v := .tuple #[.pointer none, .int .i64 2]) (by simp [results, Try.results6, go_sem]) rfl ⟨rfl, rfl⟩
end Go.Proofs.Ytoedipajcmmhjaa
