/-
  The walk of 'works' of chapter 1's statements: the chapter's examples hold.
-/
import Derived.Test.YtegkogbkoealaaaCrcRef3
import Derived.Test.YtegkogbkoealaaaBytes
import Derived.Lib.SlBytesConst
namespace Go.Proofs.Ytegkogbkoealaaa
open Go.RowKit

theorem sum_is {a : Option Addr} {n cap : Nat} {w : World} (l : List Nat) (v : Int) (hv : ((Crc.sum l : Nat) : Int) = v) (hn : l.length = n) (hm : n ≤ maxLen) (hby : BytesAt w a l) :
    Calls Try.prog 12 #[.slice a n cap] w fun e w' => e = .returned (.int .u32 v) ∧ Below w.heap.size w w' := by
  subst hv; exact (sum_any a l n cap w hn hm hby).mono fun e w' ⟨h1, h2⟩ => ⟨h1, h2 ▸ Below.refl _ _⟩
theorem change_is (s a b m : Nat) (w : World) (v : Int) (hv : ((s ^^^ Crc.it Crc.ah8 (m + 1) (a ^^^ b) : Nat) : Int) = v) (hs : s < 4294967296) (ha : a < 256) (hb : b < 256) (hm : m ≤ 65536) :
    Calls Try.prog 14 #[.int .u32 s, .int .u8 a, .int .u8 b, .int .i64 m] w fun e w' => e = .returned (.tuple #[.int .u32 v, .bool true]) ∧ w = w' := by
  subst hv; exact change_any s a b m w hs ha hb hm
theorem find_is (u : Nat) (n : Int) (w : World) (v : Value) (hv : Crc.asTuple (Crc.found u 0 (max 0 (min n 65536)).toNat) = v) (hu : u < 4294967296) (hn : -9223372036854775808 ≤ n ∧ n ≤ 9223372036854775807) :
    Calls Try.prog 16 #[.int .u32 u, .int .i64 n] w fun e w' => e = .returned v ∧ w = w' := by
  subst hv; exact find_any u n w hu hn
theorem bytes_lit {w : World} {g : Nat} {t : TypeId} {fr : Nat × Nat} {C : Array Value} (l : List Nat) (hl : ∀ c ∈ l, c < 256) (hC : C = (l.map fun (c : Nat) => Value.int .u8 (c : Int)).toArray) (hg : w.heap[g]? = some (.cells C t fr)) :
    BytesAt w (some ⟨g, 0, none⟩) l := by
  subst hC
  refine ⟨hl, .inr ⟨g, 0, rfl, fun i hi => ?_⟩⟩
  simp only [World.cell?, hg]
  simp [hi]

theorem works_1 : Crc.sum [49, 50, 51, 52, 53, 54, 55, 56, 57] = 3421780262 := by decide +kernel
theorem works_2 : Crc.sum [49, 50, 51, 52, 53, 54, 55, 56, 56] = 3170044336 := by decide +kernel
theorem works_3 : Crc.sum [49, 50, 51] = 2286445522 := by decide +kernel
theorem works_4 : Crc.sum [49, 53, 51] = 3339318549 := by decide +kernel
theorem works_5 : (3421780262 ^^^ Crc.it Crc.ah8 (0 + 1) (57 ^^^ 56) : Nat) = 3170044336 := by decide +kernel
theorem works_6 : Crc.asTuple (Crc.found 1329698503 0 (max 0 (min (3 : Int) 65536)).toNat) = .tuple #[.int .i64 1, .int .u8 7, .bool true] := by
  have : Crc.found 1329698503 0 (max 0 (min (3 : Int) 65536)).toNat = some (1, 7) := by decide +kernel
  rw [this]; rfl
theorem works_7 : bits .xor .u32 2286445522 3339318549 = 1329698503 := by decide +kernel
attribute [local irreducible] Crc.it Crc.ah8 Crc.bk8 Crc.run Crc.sum Crc.step Crc.ah Crc.bk Crc.pick Crc.tab Crc.psum Crc.found noughts
theorem works_any (w : World) : Calls Try.prog 11 #[] w fun e w' => e = .returned (.bool true) ∧ Below w.heap.size w w' := by
  have kc := fun (w : World) (C : Array Value) (n c : Nat) => Lib.run_convert_bytes_const (P := Try.prog) w 22 5 C n c Try.underlying22 Try.underlying5
  go_enter Try.func11, Try.ntmps11
  go_wp2_with fail
  refine (sum_is [49, 50, 51, 52, 53, 54, 55, 56, 57] 3421780262 (by rw [works_1]; rfl) rfl (by simp [maxLen]) (bytes_lit _ (by decide) rfl (heap_new _ _))).mono ?_
  rintro e w1 ⟨rfl, hb1⟩
  have hb1 := below_on (below1 _ _) hb1
  go_wp2_with fail
  refine (change_is 3421780262 57 56 0 _ 3170044336 (by rw [works_5]; rfl) (by omega) (by omega) (by omega) (by omega)).mono ?_
  rintro e w' ⟨rfl, rfl⟩
  go_wp2_with fail
  refine (sum_is [49, 50, 51] 2286445522 (by rw [works_3]; rfl) rfl (by simp [maxLen]) (bytes_lit _ (by decide) rfl (heap_new _ _))).mono ?_
  rintro e w2 ⟨rfl, hb2⟩
  have hb2 := below_on hb1 (below_on (below1 _ _) hb2)
  go_wp2_with fail
  refine (sum_is [49, 53, 51] 3339318549 (by rw [works_4]; rfl) rfl (by simp [maxLen]) (bytes_lit _ (by decide) rfl (heap_new _ _))).mono ?_
  rintro e w3 ⟨rfl, hb3⟩
  have hb3 := below_on hb2 (below_on (below1 _ _) hb3)
  have h7 := works_7
  go_wp2_with fail
  refine (find_is 1329698503 3 _ _ works_6 (by omega) (by omega)).mono ?_
  rintro e w' ⟨rfl, rfl⟩
  go_wp2_with fail
  refine (sum_is [49, 50, 51, 52, 53, 54, 55, 56, 56] 3170044336 (by rw [works_2]; rfl) rfl (by simp [maxLen]) (bytes_lit _ (by decide) rfl (heap_new _ _))).mono ?_
  rintro e w4 ⟨rfl, hb4⟩
  have hb4 := below_on hb3 (below_on (below1 _ _) hb4)
  go_wp2_with fail
  go_ret
  exact ⟨rfl, hb4⟩
end Go.Proofs.Ytegkogbkoealaaa
