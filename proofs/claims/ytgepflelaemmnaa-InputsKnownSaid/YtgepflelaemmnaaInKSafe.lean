/-
  InputsSafe, over facts.
-/
import Derived.Test.YtgepflelaemmnaaInLawSafe2
namespace Go.Proofs.Ytgepflelaemmnaa
open Go.RowKit
attribute [local irreducible] both inRight

set_option maxHeartbeats 2000000 in
theorem inputsSafe_law (w : World) (a1 a2 a3 a4 : Option Addr) (s p g q cs cp cg cq : Nat) (hs : s ≤ maxLen) (hp : p ≤ maxLen) (_hg : g ≤ maxLen) (hq : q ≤ maxLen) (o1 n1 r1 : Nat) (a : Option Addr) (n ca : Nat) (la : List (Nat × Int)) (ho1 : o1 < 18446744073709551616) (hn1 : n1 < 4294967296) (hr1 : r1 < 4294967296) (hla : la.length = n) (hlm : n ≤ maxLen) (hca : CmdsAt w a la) (hcaz : a = none → ca = 0) (o2 n2 r2 : Nat) (b : Option Addr) (m cb : Nat) (lb : List (Nat × Int)) (ho2 : o2 < 18446744073709551616) (hn2 : n2 < 4294967296) (hr2 : r2 < 4294967296) (hlb : lb.length = m) (hlbm : m ≤ maxLen) (hcb : CmdsAt w b lb) (hcbz : b = none → cb = 0) :
    Calls Try.prog 7 #[.agg #[.slice a1 s cs, .slice a2 p cp, .slice a3 g cg, .slice a4 q cq], .agg #[.int .u64 (o1 : Int), .int .u32 (n1 : Int), .int .u32 (r1 : Int), .slice a n ca], .agg #[.int .u64 (o2 : Int), .int .u32 (n2 : Int), .int .u32 (r2 : Int), .slice b m cb]] w fun e w' => e = .returned (.bool true) ∧ Below w.heap.size w w' := by
  have hs' : (s : Int) ≤ 9223372036854775807 := by unfold maxLen at hs; omega
  have hp' : (p : Int) ≤ 9223372036854775807 := by unfold maxLen at hp; omega
  have hq' : (q : Int) ≤ 9223372036854775807 := by unfold maxLen at hq; omega
  have hm1 : (n : Int) ≤ 9223372036854775807 := by unfold maxLen at hlm; omega
  have hm2 : (m : Int) ≤ 9223372036854775807 := by unfold maxLen at hlbm; omega
  have b0 := below3 w (Obj.cells #[Value.slice a1 s cs, Value.slice a2 p cp, Value.slice a3 g cg, Value.slice a4 q cq] 27) (Obj.cells #[Value.int IntKind.u64 ↑o1, Value.int IntKind.u32 ↑n1, Value.int IntKind.u32 ↑r1, Value.slice a n ca] 32) (Obj.cells #[Value.int IntKind.u64 ↑o2, Value.int IntKind.u32 ↑n2, Value.int IntKind.u32 ↑r2, Value.slice b m cb] 32)
  have HLA := Lib.hid hla
  have HLB := Lib.hid hlb
  clear hla hlb
  by_cases h1 : 100 < s ∨ 100 < p ∨ 100 < q ∨ 100 < n ∨ 100 < m
  · go_enter Try.func7, Try.ntmps7
    go_wp2_with fail
    all_goals first
      | (exfalso; omega)
      | (refine (works_any _).mono ?_
         rintro e w3 ⟨rfl, hb3⟩
         go_wp2_with fail
         go_ret
         exact ⟨rfl, below_on b0 hb3⟩)
  have e1 : ¬ 100 < s := by omega
  have e2 : ¬ 100 < p := by omega
  have e3 : ¬ 100 < q := by omega
  have e4 : ¬ 100 < n := by omega
  have e5 : ¬ 100 < m := by omega
  clear h1 hs' hp' hq' hm1 hm2
  go_enter Try.func7, Try.ntmps7
  go_wp2_with fail
  obtain ⟨kL, kA, kB⟩ := alloc3' w (Obj.cells #[Value.slice a1 s cs, Value.slice a2 p cp, Value.slice a3 g cg, Value.slice a4 q cq] 27) (Obj.cells #[Value.int IntKind.u64 ↑o1, Value.int IntKind.u32 ↑n1, Value.int IntKind.u32 ↑r1, Value.slice a n ca] 32) (Obj.cells #[Value.int IntKind.u64 ↑o2, Value.int IntKind.u32 ↑n2, Value.int IntKind.u32 ↑r2, Value.slice b m cb] 32)
  obtain ⟨W, hW⟩ : ∃ W, W = ((w.alloc (Obj.cells #[Value.slice a1 s cs, Value.slice a2 p cp, Value.slice a3 g cg, Value.slice a4 q cq] 27)).alloc (Obj.cells #[Value.int IntKind.u64 ↑o1, Value.int IntKind.u32 ↑n1, Value.int IntKind.u32 ↑r1, Value.slice a n ca] 32)).alloc (Obj.cells #[Value.int IntKind.u64 ↑o2, Value.int IntKind.u32 ↑n2, Value.int IntKind.u32 ↑r2, Value.slice b m cb] 32) := ⟨_, rfl⟩
  rw [← hW] at b0 kL kA kB ⊢
  clear hW
  refine (merge_any o1 n1 r1 o2 n2 r2 a b la lb n m ca cb _ HLA.out HLB.out (by omega) (by omega) (hca.below b0) (hcb.below b0) hcaz ho1 ho2 hn1 hn2 hr1 hr2).mono ?_
  rintro e w1 ⟨ac, cc, rfl, hc1, hown1, hb1⟩
  obtain ⟨L, hL⟩ : ∃ L, L = both la lb := ⟨_, rfl⟩
  have hLb : ∀ c ∈ L, c.1 < 256 ∧ -9223372036854775808 ≤ c.2 ∧ c.2 ≤ 9223372036854775807 := hL ▸ both_bound hca.1
  obtain ⟨N, hN⟩ : ∃ N, L.length = N := ⟨_, rfl⟩
  have hN1 : N ≤ 100 := by have := both_length la lb; rw [← hL, hN] at this; have := HLA.out; omega
  rw [← hL, hN] at hown1
  obtain ⟨O, hO⟩ : ∃ O, O = o1 ||| o2 := ⟨_, rfl⟩
  obtain ⟨A, hA⟩ : ∃ A, A = n1 &&& n2 := ⟨_, rfl⟩
  obtain ⟨R, hR⟩ : ∃ R, R = r1 &&& r2 := ⟨_, rfl⟩
  rw [← hL, hN, ← hO, ← hA, ← hR]
  have hOb : O < 18446744073709551616 := by rw [hO]; exact Nat.or_lt_two_pow (n := 64) ho1 ho2
  have hAb : A < 4294967296 := by rw [hA]; exact Nat.lt_of_le_of_lt Nat.and_le_left hn1
  have hRb : R < 4294967296 := by rw [hR]; exact Nat.lt_of_le_of_lt Nat.and_le_left hr1
  have g1 : Hid (bits .and .u64 (O : Int) (o1 : Int) = (o1 : Int)) := Lib.hid (by rw [and64 _ _ hOb ho1, hO, or_and_left])
  have g2 : Hid (bits .and .u64 (O : Int) (o2 : Int) = (o2 : Int)) := Lib.hid (by rw [and64 _ _ hOb ho2, hO, or_and_right])
  have g3 : Hid (bits .and .u32 (A : Int) (n1 : Int) = (A : Int)) := Lib.hid (by rw [and32 _ _ hAb hn1, hA, and_and_left])
  have g4 : Hid (bits .and .u32 (A : Int) (n2 : Int) = (A : Int)) := Lib.hid (by rw [and32 _ _ hAb hn2, hA, and_and_right])
  have g5 : Hid (bits .and .u32 (R : Int) (r1 : Int) = (R : Int)) := Lib.hid (by rw [and32 _ _ hRb hr1, hR, and_and_left])
  have g6 : Hid (bits .and .u32 (R : Int) (r2 : Int) = (R : Int)) := Lib.hid (by rw [and32 _ _ hRb hr2, hR, and_and_right])
  have g7 : Hid (L = [] ∨ L = la) := Lib.hid (hL ▸ both_or la lb)
  have g8 : Hid (L = [] ∨ L = lb) := Lib.hid (hL ▸ both_or' la lb)
  have HL := Lib.hid hL
  have HN := Lib.hid hN
  have HO := Lib.hid hO
  have HA := Lib.hid hA
  have HR := Lib.hid hR
  clear hL hN hO hA hR
  have hC1 : CmdsAt w1 ac L := by obtain ⟨a', c', hv, h, _⟩ := own_cmds hLb HN.out hown1; cases hv; exact h
  have kL1 := blk_keep hb1 kL
  have kA1 := blk_keep hb1 kA
  have kB1 := blk_keep hb1 kB
  have xL := blk_lt kL1
  have xA := blk_lt kA1
  have xB := blk_lt kB1
  have b1 := below_on b0 hb1
  have b1' := below_on b1 (below1 w1 (Obj.cells #[Value.int IntKind.u64 ↑O, Value.int IntKind.u32 ↑A, Value.int IntKind.u32 ↑R, Value.slice ac N cc] 32))
  have kC2 := heap_new w1 (Obj.cells #[Value.int IntKind.u64 ↑O, Value.int IntKind.u32 ↑A, Value.int IntKind.u32 ↑R, Value.slice ac N cc] 32)
  have kL2 := blk_keep (below1 w1 (Obj.cells #[Value.int IntKind.u64 ↑O, Value.int IntKind.u32 ↑A, Value.int IntKind.u32 ↑R, Value.slice ac N cc] 32)) kL1
  have kA2 := blk_keep (below1 w1 (Obj.cells #[Value.int IntKind.u64 ↑O, Value.int IntKind.u32 ↑A, Value.int IntKind.u32 ↑R, Value.slice ac N cc] 32)) kA1
  have kB2 := blk_keep (below1 w1 (Obj.cells #[Value.int IntKind.u64 ↑O, Value.int IntKind.u32 ↑A, Value.int IntKind.u32 ↑R, Value.slice ac N cc] 32)) kB1
  have hC2 := hC1.below (below1 w1 (Obj.cells #[Value.int IntKind.u64 ↑O, Value.int IntKind.u32 ↑A, Value.int IntKind.u32 ↑R, Value.slice ac N cc] 32))
  clear kL kA kB kL1 kA1 kB1 hb1 hown1 hC1 b0 b1
  go_wp2_with fail
  obtain ⟨W2, hW2⟩ : ∃ W2, W2 = w1.alloc (Obj.cells #[Value.int IntKind.u64 ↑O, Value.int IntKind.u32 ↑A, Value.int IntKind.u32 ↑R, Value.slice ac N cc] 32) := ⟨_, rfl⟩
  rw [← hW2] at b1' kC2 kL2 kA2 kB2 hC2 ⊢
  clear hW2
  have hbd : Below W2.heap.size W2 W2.drew := (Below.refl _ _).drew
  have M1 : Hid (∀ w', Below W2.heap.size W2 w' → Calls Try.prog 18 #[.agg #[.int .u64 (O : Int), .int .u32 (A : Int), .int .u32 (R : Int), .slice ac N cc], .agg #[.int .u64 (o1 : Int), .int .u32 (n1 : Int), .int .u32 (r1 : Int), .slice a n ca]] w' fun e w'' => e = .returned (.bool true) ∧ Below W2.heap.size W2 w'') := Lib.hid (by
    intro w' hw'
    refine (safer_true O A R o1 n1 r1 ac a L la N n cc ca w' HN.out HLA.out (by omega) (by omega) (hC2.below hw') (hca.below (below_on b1' hw')) g1.out g3.out g5.out g7.out).mono ?_
    rintro e w6 ⟨rfl, hb6⟩
    exact ⟨rfl, below_on hw' hb6⟩)
  have M2 : Hid (∀ w', Below W2.heap.size W2 w' → Calls Try.prog 18 #[.agg #[.int .u64 (O : Int), .int .u32 (A : Int), .int .u32 (R : Int), .slice ac N cc], .agg #[.int .u64 (o2 : Int), .int .u32 (n2 : Int), .int .u32 (r2 : Int), .slice b m cb]] w' fun e w'' => e = .returned (.bool true) ∧ Below W2.heap.size W2 w'') := Lib.hid (by
    intro w' hw'
    refine (safer_true O A R o2 n2 r2 ac b L lb N m cc cb w' HN.out HLB.out (by omega) (by omega) (hC2.below hw') (hcb.below (below_on b1' hw')) g2.out g4.out g6.out g8.out).mono ?_
    rintro e w6 ⟨rfl, hb6⟩
    exact ⟨rfl, below_on hw' hb6⟩)
  have M3 : Hid (∀ w', Below W2.heap.size W2 w' → Calls Try.prog 12 #[.agg #[.int .u64 (o2 : Int), .int .u32 (n2 : Int), .int .u32 (r2 : Int), .slice b m cb], .agg #[.int .u64 (o1 : Int), .int .u32 (n1 : Int), .int .u32 (r1 : Int), .slice a n ca]] w' fun e w'' => ∃ a' c', e = .returned (.agg #[.int .u64 (O : Int), .int .u32 (A : Int), .int .u32 (R : Int), .slice a' N c']) ∧ CmdsAt w'' a' L ∧ Below W2.heap.size W2 w'') := Lib.hid (by
    intro w' hw'
    refine (merge_any o2 n2 r2 o1 n1 r1 b a lb la m n cb ca w' HLB.out HLA.out (by omega) (by omega) (hcb.below (below_on b1' hw')) (hca.below (below_on b1' hw')) hcbz ho2 ho1 hn2 hn1 hr2 hr1).mono ?_
    rintro e w6 ⟨a6, c6, rfl, hc6, hown6, hb6⟩
    rw [both_comm, ← HL.out, HN.out] at hown6
    rw [both_comm, ← HL.out, HN.out, Nat.or_comm, ← HO.out, Nat.and_comm, ← HA.out, Nat.and_comm r2 r1, ← HR.out]
    obtain ⟨a', c', hv, h, _⟩ := own_cmds hLb HN.out hown6
    cases hv
    exact ⟨a6, c6, rfl, h, below_on hw' hb6⟩)
  have M4 : Hid (∀ w' a' c', Below W2.heap.size W2 w' → CmdsAt w' a' L → Calls Try.prog 14 #[.agg #[.int .u64 (O : Int), .int .u32 (A : Int), .int .u32 (R : Int), .slice ac N cc], .agg #[.int .u64 (O : Int), .int .u32 (A : Int), .int .u32 (R : Int), .slice a' N c']] w' fun e w'' => e = .returned (.bool true) ∧ Below W2.heap.size W2 w'') := Lib.hid (by
    intro w' a' c' hw' ha'
    refine (refsame_is true O A R O A R ac a' L L N N cc c' w' (by simp) HN.out HN.out (by omega) (by omega) (hC2.below hw') ha').mono ?_
    rintro e w6 ⟨rfl, hb6⟩
    exact ⟨rfl, below_on hw' hb6⟩)
  have M5 : Hid (∀ w', Below W2.heap.size W2 w' → Calls Try.prog 12 #[.agg #[.int .u64 (o1 : Int), .int .u32 (n1 : Int), .int .u32 (r1 : Int), .slice a n ca], .agg #[.int .u64 (o1 : Int), .int .u32 (n1 : Int), .int .u32 (r1 : Int), .slice a n ca]] w' fun e w'' => ∃ a' c', e = .returned (.agg #[.int .u64 (o1 : Int), .int .u32 (n1 : Int), .int .u32 (r1 : Int), .slice a' n c']) ∧ CmdsAt w'' a' la ∧ Below W2.heap.size W2 w'') := Lib.hid (by
    intro w' hw'
    refine (merge_any o1 n1 r1 o1 n1 r1 a a la la n n ca ca w' HLA.out HLA.out (by omega) (by omega) (hca.below (below_on b1' hw')) (hca.below (below_on b1' hw')) hcaz ho1 ho1 hn1 hn1 hr1 hr1).mono ?_
    rintro e w6 ⟨a6, c6, rfl, hc6, hown6, hb6⟩
    rw [both_same, HLA.out] at hown6
    rw [both_same, HLA.out, Nat.or_self, Nat.and_self, Nat.and_self]
    obtain ⟨a', c', hv, h, _⟩ := own_cmds hca.1 HLA.out hown6
    cases hv
    exact ⟨a6, c6, rfl, h, below_on hw' hb6⟩)
  have M6 : Hid (∀ w' a' c', Below W2.heap.size W2 w' → CmdsAt w' a' la → Calls Try.prog 14 #[.agg #[.int .u64 (o1 : Int), .int .u32 (n1 : Int), .int .u32 (r1 : Int), .slice a n ca], .agg #[.int .u64 (o1 : Int), .int .u32 (n1 : Int), .int .u32 (r1 : Int), .slice a' n c']] w' fun e w'' => e = .returned (.bool true) ∧ Below W2.heap.size W2 w'') := Lib.hid (by
    intro w' a' c' hw' ha'
    refine (refsame_is true o1 n1 r1 o1 n1 r1 a a' la la n n ca c' w' (by simp) HLA.out HLA.out (by omega) (by omega) (hca.below (below_on b1' hw')) ha').mono ?_
    rintro e w6 ⟨rfl, hb6⟩
    exact ⟨rfl, below_on hw' hb6⟩)
  have HS : Hid (∀ w', Below W2.heap.size W2 w' → (w'.cell? ⟨w.heap.size + 1, 0, none⟩ = some (.int .u64 (o1 : Int)) ∧ w'.cell? ⟨w.heap.size + 1, 1, none⟩ = some (.int .u32 (n1 : Int)) ∧ w'.cell? ⟨w.heap.size + 1, 2, none⟩ = some (.int .u32 (r1 : Int)) ∧ w'.cell? ⟨w.heap.size + 1, 3, none⟩ = some (.slice a n ca) ∧ w'.cell? ⟨w.heap.size + 1 + 1, 0, none⟩ = some (.int .u64 (o2 : Int)) ∧ w'.cell? ⟨w.heap.size + 1 + 1, 1, none⟩ = some (.int .u32 (n2 : Int)) ∧ w'.cell? ⟨w.heap.size + 1 + 1, 2, none⟩ = some (.int .u32 (r2 : Int)) ∧ w'.cell? ⟨w.heap.size + 1 + 1, 3, none⟩ = some (.slice b m cb) ∧ w'.cell? ⟨w1.heap.size, 0, none⟩ = some (.int .u64 (O : Int)) ∧ w'.cell? ⟨w1.heap.size, 1, none⟩ = some (.int .u32 (A : Int)) ∧ w'.cell? ⟨w1.heap.size, 2, none⟩ = some (.int .u32 (R : Int)) ∧ w'.cell? ⟨w1.heap.size, 3, none⟩ = some (.slice ac N cc))) := Lib.hid (fun w' hw' =>
    ⟨blk_cell (blk_keep hw' kA2) 0 _ rfl, blk_cell (blk_keep hw' kA2) 1 _ rfl, blk_cell (blk_keep hw' kA2) 2 _ rfl, blk_cell (blk_keep hw' kA2) 3 _ rfl, blk_cell (blk_keep hw' kB2) 0 _ rfl, blk_cell (blk_keep hw' kB2) 1 _ rfl, blk_cell (blk_keep hw' kB2) 2 _ rfl, blk_cell (blk_keep hw' kB2) 3 _ rfl, blk_cell (blk_keep hw' kC2) 0 _ rfl, blk_cell (blk_keep hw' kC2) 1 _ rfl, blk_cell (blk_keep hw' kC2) 2 _ rfl, blk_cell (blk_keep hw' kC2) 3 _ rfl⟩)
  have HCa := Lib.hid hca
  have HCb := Lib.hid hcb
  clear hca hcb
  go_region_held3 (fun w' => (w'.cell? ⟨w.heap.size + 1, 0, none⟩ = some (.int .u64 (o1 : Int)) ∧ w'.cell? ⟨w.heap.size + 1, 1, none⟩ = some (.int .u32 (n1 : Int)) ∧ w'.cell? ⟨w.heap.size + 1, 2, none⟩ = some (.int .u32 (r1 : Int)) ∧ w'.cell? ⟨w.heap.size + 1, 3, none⟩ = some (.slice a n ca) ∧ w'.cell? ⟨w.heap.size + 1 + 1, 0, none⟩ = some (.int .u64 (o2 : Int)) ∧ w'.cell? ⟨w.heap.size + 1 + 1, 1, none⟩ = some (.int .u32 (n2 : Int)) ∧ w'.cell? ⟨w.heap.size + 1 + 1, 2, none⟩ = some (.int .u32 (r2 : Int)) ∧ w'.cell? ⟨w.heap.size + 1 + 1, 3, none⟩ = some (.slice b m cb) ∧ w'.cell? ⟨w1.heap.size, 0, none⟩ = some (.int .u64 (O : Int)) ∧ w'.cell? ⟨w1.heap.size, 1, none⟩ = some (.int .u32 (A : Int)) ∧ w'.cell? ⟨w1.heap.size, 2, none⟩ = some (.int .u32 (R : Int)) ∧ w'.cell? ⟨w1.heap.size, 3, none⟩ = some (.slice ac N cc)))
    (exact HS.out _ (by assumption))
    (first
      | ((with_reducible refine (M1.out _ (by assumption)).mono ?_); rintro e w6 ⟨rfl, hb6⟩)
      | ((with_reducible refine (M2.out _ (by assumption)).mono ?_); rintro e w6 ⟨rfl, hb6⟩)
      | ((with_reducible refine (M3.out _ (by assumption)).mono ?_); rintro e w6 ⟨a6, c6, rfl, hC6, hb6⟩)
      | ((with_reducible refine (M4.out _ _ _ (by assumption) (by assumption)).mono ?_); rintro e w6 ⟨rfl, hb6⟩)
      | ((with_reducible refine (M5.out _ (by assumption)).mono ?_); rintro e w6 ⟨a6, c6, rfl, hC6, hb6⟩)
      | ((with_reducible refine (M6.out _ _ _ (by assumption) (by assumption)).mono ?_); rintro e w6 ⟨rfl, hb6⟩))
  have hlast := hb6
  obtain ⟨B1, hB1⟩ : ∃ B1, inRight (min s 64) (min p 32) (min q 64) o1 n1 r1 la = B1 := ⟨_, rfl⟩
  obtain ⟨B2, hB2⟩ : ∃ B2, inRight (min s 64) (min p 32) (min q 64) o2 n2 r2 lb = B2 := ⟨_, rfl⟩
  obtain ⟨B3, hB3⟩ : ∃ B3, inRight (min s 64) (min p 32) (min q 64) O A R L = B3 := ⟨_, rfl⟩
  have hB123 : B1 = true → B2 = true → B3 = true := by
    rintro rfl rfl
    rw [← hB3, HO.out, HA.out, HR.out, HL.out]
    exact right_merged hB1 hB2
  have R1 : Hid (∀ w', Below W2.heap.size W2 w' → Calls Try.prog 10 #[.agg #[.slice a1 s cs, .slice a2 p cp, .slice a3 g cg, .slice a4 q cq], .agg #[.int .u64 (o1 : Int), .int .u32 (n1 : Int), .int .u32 (r1 : Int), .slice a n ca]] w' fun e w'' => e = .returned (.bool B1) ∧ Below W2.heap.size W2 w'') := Lib.hid (by
    intro w' hw'
    refine (right_any s p g q a1 a2 a3 a4 cs cp cg cq o1 n1 r1 a la n ca w' HLA.out (by omega) (by omega) (by omega) (by omega) (HCa.out.below (below_on b1' hw')) hn1 hr1).mono ?_
    rintro e w6 ⟨rfl, hb6⟩
    exact ⟨by rw [hB1], below_on hw' hb6⟩)
  have R2 : Hid (∀ w', Below W2.heap.size W2 w' → Calls Try.prog 10 #[.agg #[.slice a1 s cs, .slice a2 p cp, .slice a3 g cg, .slice a4 q cq], .agg #[.int .u64 (o2 : Int), .int .u32 (n2 : Int), .int .u32 (r2 : Int), .slice b m cb]] w' fun e w'' => e = .returned (.bool B2) ∧ Below W2.heap.size W2 w'') := Lib.hid (by
    intro w' hw'
    refine (right_any s p g q a1 a2 a3 a4 cs cp cg cq o2 n2 r2 b lb m cb w' HLB.out (by omega) (by omega) (by omega) (by omega) (HCb.out.below (below_on b1' hw')) hn2 hr2).mono ?_
    rintro e w6 ⟨rfl, hb6⟩
    exact ⟨by rw [hB2], below_on hw' hb6⟩)
  have R3 : Hid (∀ w', Below W2.heap.size W2 w' → Calls Try.prog 10 #[.agg #[.slice a1 s cs, .slice a2 p cp, .slice a3 g cg, .slice a4 q cq], .agg #[.int .u64 (O : Int), .int .u32 (A : Int), .int .u32 (R : Int), .slice ac N cc]] w' fun e w'' => e = .returned (.bool B3) ∧ Below W2.heap.size W2 w'') := Lib.hid (by
    intro w' hw'
    refine (right_any s p g q a1 a2 a3 a4 cs cp cg cq O A R ac L N cc w' HN.out (by omega) (by omega) (by omega) (by omega) (hC2.below hw') hAb hRb).mono ?_
    rintro e w6 ⟨rfl, hb6⟩
    exact ⟨by rw [hB3], below_on hw' hb6⟩)
  clear hB1 hB2 hB3 hn1 hn2 hr1 hr2 ho1 ho2 hOb hAb hRb
  cases B1 with
  | false =>
    have eL0 := blk_cell (blk_keep hlast kL2) 0 _ rfl
    have eL1 := blk_cell (blk_keep hlast kL2) 1 _ rfl
    have eL2 := blk_cell (blk_keep hlast kL2) 2 _ rfl
    have eL3 := blk_cell (blk_keep hlast kL2) 3 _ rfl
    have eA0 := blk_cell (blk_keep hlast kA2) 0 _ rfl
    have eA1 := blk_cell (blk_keep hlast kA2) 1 _ rfl
    have eA2 := blk_cell (blk_keep hlast kA2) 2 _ rfl
    have eA3 := blk_cell (blk_keep hlast kA2) 3 _ rfl
    go_wp2_with fail
    refine (R1.out _ hlast).mono ?_
    rintro e w7 ⟨rfl, hb7⟩
    go_wp2_with fail
    refine (works_any _).mono ?_
    rintro e w8 ⟨rfl, hbz⟩
    go_wp2_with fail
    go_ret
    exact ⟨rfl, below_on b1' (below_on hb7 hbz)⟩
  | true =>
    cases B2 with
    | false =>
      have eL0 := blk_cell (blk_keep hlast kL2) 0 _ rfl
      have eL1 := blk_cell (blk_keep hlast kL2) 1 _ rfl
      have eL2 := blk_cell (blk_keep hlast kL2) 2 _ rfl
      have eL3 := blk_cell (blk_keep hlast kL2) 3 _ rfl
      have eA0 := blk_cell (blk_keep hlast kA2) 0 _ rfl
      have eA1 := blk_cell (blk_keep hlast kA2) 1 _ rfl
      have eA2 := blk_cell (blk_keep hlast kA2) 2 _ rfl
      have eA3 := blk_cell (blk_keep hlast kA2) 3 _ rfl
      go_wp2_with fail
      refine (R1.out _ hlast).mono ?_
      rintro e w7 ⟨rfl, hb7⟩
      clear eL0 eL1 eL2 eL3 eA0 eA1 eA2 eA3
      have eL0 := blk_cell (blk_keep hb7 kL2) 0 _ rfl
      have eL1 := blk_cell (blk_keep hb7 kL2) 1 _ rfl
      have eL2 := blk_cell (blk_keep hb7 kL2) 2 _ rfl
      have eL3 := blk_cell (blk_keep hb7 kL2) 3 _ rfl
      have eB0 := blk_cell (blk_keep hb7 kB2) 0 _ rfl
      have eB1 := blk_cell (blk_keep hb7 kB2) 1 _ rfl
      have eB2 := blk_cell (blk_keep hb7 kB2) 2 _ rfl
      have eB3 := blk_cell (blk_keep hb7 kB2) 3 _ rfl
      go_wp2_with fail
      refine (R2.out _ hb7).mono ?_
      rintro e w8 ⟨rfl, hb8⟩
      go_wp2_with fail
      refine (works_any _).mono ?_
      rintro e w9 ⟨rfl, hbz⟩
      go_wp2_with fail
      go_ret
      exact ⟨rfl, below_on b1' (below_on hb8 hbz)⟩
    | true =>
      obtain rfl := hB123 rfl rfl
      have eL0 := blk_cell (blk_keep hlast kL2) 0 _ rfl
      have eL1 := blk_cell (blk_keep hlast kL2) 1 _ rfl
      have eL2 := blk_cell (blk_keep hlast kL2) 2 _ rfl
      have eL3 := blk_cell (blk_keep hlast kL2) 3 _ rfl
      have eA0 := blk_cell (blk_keep hlast kA2) 0 _ rfl
      have eA1 := blk_cell (blk_keep hlast kA2) 1 _ rfl
      have eA2 := blk_cell (blk_keep hlast kA2) 2 _ rfl
      have eA3 := blk_cell (blk_keep hlast kA2) 3 _ rfl
      go_wp2_with fail
      refine (R1.out _ hlast).mono ?_
      rintro e w7 ⟨rfl, hb7⟩
      clear eL0 eL1 eL2 eL3 eA0 eA1 eA2 eA3
      have eL0 := blk_cell (blk_keep hb7 kL2) 0 _ rfl
      have eL1 := blk_cell (blk_keep hb7 kL2) 1 _ rfl
      have eL2 := blk_cell (blk_keep hb7 kL2) 2 _ rfl
      have eL3 := blk_cell (blk_keep hb7 kL2) 3 _ rfl
      have eB0 := blk_cell (blk_keep hb7 kB2) 0 _ rfl
      have eB1 := blk_cell (blk_keep hb7 kB2) 1 _ rfl
      have eB2 := blk_cell (blk_keep hb7 kB2) 2 _ rfl
      have eB3 := blk_cell (blk_keep hb7 kB2) 3 _ rfl
      go_wp2_with fail
      refine (R2.out _ hb7).mono ?_
      rintro e w8 ⟨rfl, hb8⟩
      clear eL0 eL1 eL2 eL3 eB0 eB1 eB2 eB3
      have eL0 := blk_cell (blk_keep hb8 kL2) 0 _ rfl
      have eL1 := blk_cell (blk_keep hb8 kL2) 1 _ rfl
      have eL2 := blk_cell (blk_keep hb8 kL2) 2 _ rfl
      have eL3 := blk_cell (blk_keep hb8 kL2) 3 _ rfl
      have eC0 := blk_cell (blk_keep hb8 kC2) 0 _ rfl
      have eC1 := blk_cell (blk_keep hb8 kC2) 1 _ rfl
      have eC2 := blk_cell (blk_keep hb8 kC2) 2 _ rfl
      have eC3 := blk_cell (blk_keep hb8 kC2) 3 _ rfl
      go_wp2_with fail
      refine (R3.out _ hb8).mono ?_
      rintro e w9 ⟨rfl, hb9⟩
      go_wp2_with fail
      refine (works_any _).mono ?_
      rintro e w10 ⟨rfl, hbz⟩
      go_wp2_with fail
      go_ret
      exact ⟨rfl, below_on b1' (below_on hb9 hbz)⟩
end Go.Proofs.Ytgepflelaemmnaa
