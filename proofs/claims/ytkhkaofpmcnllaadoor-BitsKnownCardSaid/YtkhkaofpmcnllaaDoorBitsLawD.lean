/-
  The walk of the closed statement BitsKnown of chapter 7.
-/
import Derived.Test.YtkhkaofpmcnllaaDoorBitsLawB
import Derived.Test.YtkhkaofpmcnllaaDoorBitsLawC
import Derived.WalkArith
namespace Go.Proofs.YtkhkaofpmcnllaaDoor
open Go.RowKit
attribute [local irreducible] pw hasBit withBit woBit mems ofN withI anyN anyAt anyR memB hasI woI lowN ints

theorem of_law (a0 : Option Addr) (len0 cap0 : Nat) (l : List Int) (w : World) (hn : l.length = len0) (hm : len0 ≤ 500) (hl : IntsAt w a0 l) (ht : TabAt w) :
    Calls Tryd.prog 4 #[.slice a0 len0 cap0] w fun e w' => e = .returned (.bool true) ∧ Below w.heap.size w w' := by
  have HN := Lib.hid hn
  have h : ¬ (500 : Int) < len0 := by omega
  clear hn
  go_enter Tryd.func4, Tryd.ntmps4
  go_wp2_with fail
  refine (of_any a0 len0 cap0 l _ HN.out (by unfold maxLen; omega) hl).mono ?_
  rintro e w1 ⟨rfl, rfl⟩
  go_wp2_with fail
  refine (rof_any a0 len0 cap0 l _ HN.out (by unfold maxLen; omega) hl).mono ?_
  rintro e w1 ⟨rfl, rfl⟩
  go_wp2_with fail
  refine (works_any _ ht).mono ?_
  rintro e w2 ⟨rfl, hb⟩
  go_wp2_with fail
  go_ret
  exact ⟨rfl, hb⟩
theorem any_law (a0 : Option Addr) (len0 cap0 x : Nat) (l : List Nat) (w : World) (hn : l.length = len0) (hm : len0 ≤ 100) (hl : NatsAt .u64 18446744073709551616 w a0 l) (hx : x < 18446744073709551616) (ht : TabAt w) :
    Calls Tryd.prog 7 #[.slice a0 len0 cap0, .int .u64 x] w fun e w' => e = .returned (.bool true) ∧ Below w.heap.size w w' := by
  have HN := Lib.hid hn
  have h : ¬ (100 : Int) < len0 := by omega
  clear hn
  go_enter Tryd.func7, Tryd.ntmps7
  go_wp2_with fail
  refine (any_any a0 len0 cap0 x (min len0 64) l _ HN.out (by omega) rfl hl hx).mono ?_
  rintro e w1 ⟨rfl, hb1⟩
  go_wp2_with fail
  refine (rany_is a0 len0 cap0 x (min len0 64) l _ HN.out (by omega) rfl (hl.below hb1) hx).mono ?_
  rintro e w2 ⟨rfl, rfl⟩
  go_wp2_with fail
  refine (works_any _ (ht.below hb1)).mono ?_
  rintro e w3 ⟨rfl, hb⟩
  go_wp2_with fail
  go_ret
  exact ⟨rfl, below_on hb1 hb⟩
def u64Vals (l : List Nat) : List Value := l.map fun (n : Nat) => Value.int .u64 (n : Int)
theorem own_nats {w : World} {base n : Nat} {e : TypeId} {v : Value} {l : List Nat} (hl : ∀ c ∈ l, c < 18446744073709551616) (hn : l.length = n) (h : w.ownsRow base e 1 v n (u64Vals l)) :
    ∃ a c, v = .slice a n c ∧ NatsAt .u64 18446744073709551616 w a l := by
  rcases h.2 with ⟨rfl, rfl⟩ | ⟨g, cap, cur, rfl, hg, hheap, hncap, hcm, hsz, htake⟩
  · have : l = [] := by
      cases l with
      | nil => rfl
      | cons x l => simp at hn
    subst this
    exact ⟨none, 0, rfl, hl, .inl rfl⟩
  · refine ⟨_, cap, rfl, hl, .inr ⟨g, 0, rfl, fun i hi => ?_⟩⟩
    have h1 : (u64Vals l)[i]? = some (.int .u64 ((l.getD i 0 : Nat) : Int)) := by
      simp [u64Vals, List.getD_eq_getElem?_getD, hi]
    rw [← htake, List.getElem?_take, if_pos (by omega), Array.getElem?_toList] at h1
    simp only [World.cell?, hheap, Nat.zero_add]
    exact h1
theorem nats_take {k : IntKind} {B : Nat} {w : World} {a : Option Addr} {l : List Nat} (h : NatsAt k B w a l) (n : Nat) : NatsAt k B w a (l.take n) := by
  refine ⟨fun c hc => h.1 c (List.mem_of_mem_take hc), ?_⟩
  rcases h.2 with rfl | ⟨b, off, rfl, hc⟩
  · left; simp
  · right
    refine ⟨b, off, rfl, fun i hi => ?_⟩
    have hi2 : i < n ∧ i < l.length := by rw [List.length_take] at hi; omega
    rw [hc i hi2.2]
    simp [List.getD_eq_getElem?_getD, hi2.1]
/-- the sets of one number each, over and over -/
def ones (k : Nat) : List Nat := (List.range k).map fun i => pw (i % 64)
theorem ones_zero : ones 0 = [] := rfl
theorem ones_succ (k : Nat) : ones (k + 1) = ones k ++ [pw (k % 64)] := by unfold ones; rw [List.range_succ, List.map_append]; rfl
theorem ones_len (k : Nat) : (ones k).length = k := by unfold ones; simp
theorem ones_lt (k : Nat) : ∀ c ∈ ones k, c < 18446744073709551616 := by
  intro c hc
  obtain ⟨i, _, rfl⟩ := List.mem_map.1 hc
  exact pw_lt64 (by omega)
theorem u64Vals_snoc (l : List Nat) (c : Nat) : u64Vals (l ++ [c]) = u64Vals l ++ [.int .u64 (c : Int)] := by simp [u64Vals]
theorem info_u64 : (Tryd.prog.info? 22).map (fun i => (i.zero, i.size, i.bytes)) = some (some (.int .u64 0), 1, 8) := by kernel_rfl
attribute [local irreducible] ones

set_option maxRecDepth 100000 in
set_option maxHeartbeats 2000000 in
theorem walk_BitsKnown (w : World) (ht : TabAt w) :
    Calls Tryd.prog 9 #[] w fun e w' => e = .returned (.bool true) ∧ Below w.heap.size w w' := by
  go_enter Tryd.func9, Tryd.ntmps9
  go_wp2_with fail
  go_loopg [1] 71 (fun m i wr => ∃ (k : Nat) (z : Int), k + m = 71 ∧ z = (k : Int) - 3 ∧ i = .int .i64 z ∧ Below w.heap.size w wr)
  case atStart => exact ⟨0, -3, by omega, by omega, rfl, Below.refl _ _⟩
  case round =>
    obtain ⟨k, z, hk, hz, rfl, hB⟩ := hrel
    have HZ := Lib.hid hz
    have HT := Lib.hid (ht.below hB)
    by_cases hlt : k < 71
    · have z1 : z < 68 := by omega
      have z0 : -3 ≤ z := by omega
      have hwz : (Lit.int .i64 z).wf = true := WalkArith.wf_i64 (by omega)
      clear hz
      go_wp2_with fail
      have hN := nats_lit (k := .u64) (B := 18446744073709551616) [0, 1, 9, 9223372036854775808, 18446744073709551615, 12297829382473034410, 81985529216486895] (by decide) rfl (heap_new1 wr (Obj.cells #[Value.int IntKind.u64 0, Value.int IntKind.u64 1, Value.int IntKind.u64 9, Value.int IntKind.u64 9223372036854775808, Value.int IntKind.u64 18446744073709551615, Value.int IntKind.u64 12297829382473034410, Value.int IntKind.u64 81985529216486895] 22))
      have hb1 := below1 wr (Obj.cells #[Value.int IntKind.u64 0, Value.int IntKind.u64 1, Value.int IntKind.u64 9, Value.int IntKind.u64 9223372036854775808, Value.int IntKind.u64 18446744073709551615, Value.int IntKind.u64 12297829382473034410, Value.int IntKind.u64 81985529216486895] 22)
      obtain ⟨g, hg⟩ : ∃ g, g = wr.heap.size := ⟨_, rfl⟩
      obtain ⟨W1, hW1⟩ : ∃ W1, W1 = wr.alloc (Obj.cells #[Value.int IntKind.u64 0, Value.int IntKind.u64 1, Value.int IntKind.u64 9, Value.int IntKind.u64 9223372036854775808, Value.int IntKind.u64 18446744073709551615, Value.int IntKind.u64 12297829382473034410, Value.int IntKind.u64 81985529216486895] 22) := ⟨_, rfl⟩
      have hB1 := below_on hB hb1
      rw [← hg] at hN ⊢
      rw [← hW1] at hN hB1 ⊢
      clear hg hW1 hb1 hB HT
      go_loopg [3, 12] 7 (fun m _ i w2 => ∃ q, q + m = 7 ∧ i = .int .i64 (q : Int) ∧ Below W1.heap.size W1 w2)
      case atStart => exact ⟨0, by omega, rfl, Below.refl _ _⟩
      case round =>
        obtain ⟨q, hq, rfl, hB2⟩ := hrel
        have HT2 := Lib.hid (ht.below (below_on hB1 hB2))
        by_cases hq7 : q < 7
        · obtain ⟨b, off, x, hbo, _, hx, zc⟩ := (hN.below hB2).at (i := q) (by show q < 7; omega)
          cases hbo
          rw [Nat.zero_add] at zc
          have wfx : (Lit.int .u64 (x : Int)).wf = true := WalkArith.wf_u64 (by omega)
          have d1 : (q : Int) < 7 := by omega
          have d2 : (0 : Int) ≤ q := by omega
          by_cases hz0 : z = 0
          · have e0 : (z == 0) = true := by rw [hz0]; rfl
            clear hz0 hN hx
            go_wp2_with fail
            refine (walk_BitsOne (x : Int) z _ wfx hwz HT2.out).mono ?_
            rintro e w3 ⟨rfl, hb3⟩
            go_wp2_with fail
            refine (walk_BitsBack (x : Int) z _ wfx hwz (HT2.out.below hb3)).mono ?_
            rintro e w4 ⟨rfl, hb4⟩
            go_wp2_with fail
            refine (walk_BitsList (x : Int) _ wfx (HT2.out.below (below_on hb3 hb4))).mono ?_
            rintro e w5 ⟨rfl, hb5⟩
            have hB5 := below_on hB2 (below_on (below_on hb3 hb4) hb5)
            clear hb3 hb4 hb5 hB2 zc
            go_wp2_with fail
            go_roundg (7 - (q + 1))
            case rel => exact ⟨q + 1, by omega, by go_num, hB5⟩
            case measure => omega
          · have e0 : (z == 0) = false := by rw [beq_eq_false_iff_ne]; exact hz0
            clear hz0 hN hx
            go_wp2_with fail
            refine (walk_BitsOne (x : Int) z _ wfx hwz HT2.out).mono ?_
            rintro e w3 ⟨rfl, hb3⟩
            go_wp2_with fail
            refine (walk_BitsBack (x : Int) z _ wfx hwz (HT2.out.below hb3)).mono ?_
            rintro e w4 ⟨rfl, hb4⟩
            have hB5 := below_on hB2 (below_on hb3 hb4)
            clear hb3 hb4 hB2 zc
            go_wp2_with fail
            go_roundg (7 - (q + 1))
            case rel => exact ⟨q + 1, by omega, by go_num, hB5⟩
            case measure => omega
        · obtain rfl : q = 7 := by omega
          have hB3 := below_on hB1 hB2
          have w1 : wrap64 (z + 1) = z + 1 := by unfold wrap64; omega
          have w1' : IntKind.i64.wrap (z + 1) = z + 1 := by rw [IntKind.wrap_i64]; omega
          clear hN hB1 hB2
          go_wp2_with fail
          refine (walk_BitsFirst z _ hwz HT2.out).mono ?_
          rintro e w4 ⟨rfl, hb4⟩
          go_wp2_with fail
          refine (of_law _ 3 3 [z, 3, z + 1] _ rfl (by omega) (ints_lit [z, 3, z + 1] (by intro c hc; simp at hc; omega) rfl (heap_new1 w4 _)) (HT2.out.below (below_on hb4 (below1 _ _)))).mono ?_
          rintro e w5 ⟨rfl, hb5⟩
          have hB5 := below_on hB3 (below_on hb4 (below_on (below1 _ _) hb5))
          clear hb4 hb5 hB3
          go_wp2_with fail
          go_roundg (71 - (k + 1))
          case rel => exact ⟨k + 1, z + 1, by omega, by have := HZ.out; omega, by go_num, hB5⟩
          case measure => omega
    · have z1 : ¬ z < 68 := by omega
      clear hz
      go_wp2_with fail
      go_loopg [4, 5] 70 (fun m s i w4 => ∃ j : Nat, j + m = 70 ∧ i = .int .i64 (j : Int) ∧ w4.ownsRow w.heap.size 22 1 s j (u64Vals (ones j)) ∧ Below w.heap.size w w4)
      case atStart => exact ⟨0, by omega, rfl, by rw [ones_zero]; exact World.ownsRow_nil _ _ _ _, hB⟩
      case round =>
        obtain ⟨j, hj, rfl, hO, hB4⟩ := hrel
        clear hB HT
        by_cases hj70 : j < 70
        · have hsz := hB4.size
          obtain ⟨r, hr⟩ : ∃ r, r = j % 64 := ⟨_, rfl⟩
          have e1 : (j : Int).tmod 64 = (r : Int) := by rw [hr, Int.tmod_eq_emod_of_nonneg (by omega)]; omega
          have e1' : (j : Int) % 64 = (r : Int) := by omega
          have e2 : (0 : Int) ≤ r := by omega
          have e3 := one_form r (by omega)
          have HM : Hid (ones (j + 1) = ones j ++ [pw r]) := Lib.hid (by rw [ones_succ, hr])
          have HOW := Lib.hid (own_below (below1 wr (Obj.cells #[Value.int IntKind.u64 ((pw r : Nat) : Int)] 22)) hO)
          obtain ⟨i0, hi, hz0, hz1, hz2⟩ := info_parts info_u64
          have hj70' : (j : Int) < 70 := by omega
          clear hr
          go_wp2_with (at_builtin; refine wpList_append_src rfl _ _ 35 rfl w.heap.size 22 i0 (.int .u64 0) 1 8 Tryd.underlying35 hi hz0 hz1 hz2 rfl (by decide) _ j (u64Vals (ones j)) rfl HOW.out (some ⟨wr.heap.size, 0, none⟩) 1 1 [.int .u64 ((pw r : Nat) : Int)] rfl rfl (srcAt_one wr _ _ rfl) (by unfold maxLen; omega) (by omega) (by simp; omega) ?_; intro v4 W4 hown4 hg4)
          have hB5 : Below w.heap.size w W4 := (hB4.alloc hsz _).grown hg4 (by simp; omega) (fun k hk => (HOW.out.lt _ hk).1)
          go_roundg (70 - (j + 1))
          case rel => exact ⟨j + 1, by omega, by go_num, by rw [HM.out, u64Vals_snoc]; exact hown4, hB5⟩
          case measure => omega
        · obtain rfl : j = 70 := by omega
          have HT4 := Lib.hid (ht.below hB4)
          obtain ⟨a, c, rfl, hN⟩ := own_nats (ones_lt 70) (ones_len 70) hO
          have hcap : 70 ≤ c ∧ c ≤ 9223372036854775807 := by
            rcases hO.2 with ⟨_, h0⟩ | ⟨g, cap, cur, he, _, _, h1, h2, _, _⟩
            · exact absurd h0 (by decide)
            · cases he; exact ⟨h1, by unfold maxLen at h2; omega⟩
          clear hO
          go_wp2_with fail
          refine (any_law a 70 c 18446744073709551615 (ones 70) _ (ones_len 70) (by omega) hN (by omega) HT4.out).mono ?_
          rintro e w5 ⟨rfl, hb5⟩
          go_wp2_with fail
          refine (any_law a 5 c 18446744073709551615 ((ones 70).take 5) _ (by rw [List.length_take, ones_len]; rfl) (by omega) (nats_take (hN.below hb5) 5) (by omega) (HT4.out.below hb5)).mono ?_
          rintro e w6 ⟨rfl, hb6⟩
          have hb6 := below_on hb5 hb6
          clear hb5
          go_wp2_with fail
          refine (any_law none 0 0 7 [] _ rfl (by omega) ⟨by simp, .inl rfl⟩ (by omega) (HT4.out.below hb6)).mono ?_
          rintro e w7 ⟨rfl, hb7⟩
          have hb7 := below_on hb6 hb7
          clear hb6
          go_wp2_with fail
          refine (any_law a 70 c 0 (ones 70) _ (ones_len 70) (by omega) (hN.below hb7) (by omega) (HT4.out.below hb7)).mono ?_
          rintro e w8 ⟨rfl, hb8⟩
          have hb8 := below_on hb7 hb8
          clear hb7
          go_wp2_with fail
          refine (walk_BitsOne 5 4611686018427387904 _ (by decide) (by decide) (HT4.out.below hb8)).mono ?_
          rintro e w9 ⟨rfl, hb9⟩
          have hb9 := below_on hb8 hb9
          clear hb8
          go_wp2_with fail
          refine (walk_BitsOne 5 (-9223372036854775808) _ (by decide) (by decide) (HT4.out.below hb9)).mono ?_
          rintro e w10 ⟨rfl, hb10⟩
          have hb10 := below_on hb9 hb10
          clear hb9
          go_wp2_with fail
          refine (walk_BitsFirst 4611686018427387904 _ (by decide) (HT4.out.below hb10)).mono ?_
          rintro e w11 ⟨rfl, hb11⟩
          have hb11 := below_on hb10 hb11
          clear hb10
          go_wp2_with fail
          refine (walk_BitsFirst (-9223372036854775808) _ (by decide) (HT4.out.below hb11)).mono ?_
          rintro e w12 ⟨rfl, hb12⟩
          have hb12 := below_on hb11 hb12
          clear hb11
          go_wp2_with fail
          refine (works_any _ (HT4.out.below hb12)).mono ?_
          rintro e w13 ⟨rfl, hb13⟩
          go_wp2_with fail
          go_ret
          exact ⟨rfl, below_on hB4 (below_on hb12 hb13)⟩
end Go.Proofs.YtkhkaofpmcnllaaDoor
