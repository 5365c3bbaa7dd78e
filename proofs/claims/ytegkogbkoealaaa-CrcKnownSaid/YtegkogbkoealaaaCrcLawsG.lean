/-
  The walk of the closed statement CrcKnown of chapter 1.
-/
import Derived.Test.YtegkogbkoealaaaCrcLawsF
import Derived.Test.YtegkogbkoealaaaCrcWorks
import Derived.Test.YtegkogbkoealaaaBase2
import Derived.Test.YtegkogbkoealaaaCalm
import Derived.Test.YtegkogbkoealaaaObj
import Derived.Deep.LoopGhost
import Derived.Deep.QuietTactic
import Derived.BigQuiet
import Derived.WalkArith
import Derived.Lib.SlBytesConst
namespace Go.Proofs.Ytegkogbkoealaaa
open Go.RowKit

theorem isrow_lit {k : IntKind} {w : World} {g : Nat} {t : TypeId} {fr : Nat × Nat} {C : Array Value} (zs : List Int) (n : Nat) (hn : zs.length = n) (hm : n ≤ 1000) (hz : ∀ z ∈ zs, (Lit.int k z).wf = true) (hC : C.toList = zs.map (Value.int k)) (hg : w.heap[g]? = some (.cells C t fr)) : IsRow k w (some ⟨g, 0, none⟩) n n zs := by
  refine .inr ⟨_, rfl, Nat.le_refl _, by unfold maxLen; omega, hn, fun i hi => ?_, hz⟩
  rw [Addr.add_lit, Nat.zero_add]
  simp only [World.cell?, hg, ← Array.getElem?_toList, hC]
  simp [hi, List.getD_eq_getElem?_getD]
theorem isrow_below {k : IntKind} {w w' : World} {a : Option Addr} {len cap : Nat} {zs : List Int} (hb : Below w.heap.size w w') (h : IsRow k w a len cap zs) : IsRow k w' a len cap zs := by
  rcases h with h | ⟨x, rfl, hl, hm, hz, hc, hw⟩
  · exact .inl h
  · exact .inr ⟨x, rfl, hl, hm, hz, fun i hi => cell_later hb (hc i hi), hw⟩
theorem heap_new9 (w : World) (o : Obj) : (w.alloc o).heap[w.heap.size]? = some o := by
  show (w.heap.push o)[w.heap.size]? = some o
  simp
theorem name_world9 {P : Program} {c : Code} {Q : Exit → Act → World → Prop} {a : Act} {w : World} (h : ∀ W, W = w → c.wp P Q a W) : c.wp P Q a w := h w rfl
theorem not8 (k : Nat) (hk : k < 256) : bits .xor .u8 IntKind.u8.max (k : Int) = ((255 ^^^ k : Nat) : Int) := by
  rw [show IntKind.u8.max = ((255 : Nat) : Int) by decide, u8_xor_nat 255 k (by omega) hk]
theorem isrow_drop {k : IntKind} {w : World} {b n : Nat} {zs : List Int} (h : IsRow k w (some ⟨b, 0, none⟩) n n zs) (r : Nat) (hr : r ≤ n) : IsRow k w (some ⟨b, r, none⟩) (n - r) (n - r) (zs.drop r) := by
  rcases h with ⟨h, _⟩ | ⟨x, hx, hl, hm, hz, hc, hw⟩
  · cases h
  · cases hx
    refine .inr ⟨_, rfl, Nat.le_refl _, by omega, by rw [List.length_drop, hz], fun i hi => ?_, fun z hz => hw z (List.mem_of_mem_drop hz)⟩
    rw [List.length_drop] at hi
    have := hc (r + i) (by omega)
    rw [Addr.add_lit, Nat.zero_add] at this
    rw [Addr.add_lit, this]
    simp [List.getD_eq_getElem?_getD, List.getElem?_drop]
theorem noughts_plain (W : World) (g m : Nat) (t : TypeId) (hg : W.heap[g]? = some (.cells (noughts (m + 1)) t (0, 0))) : BytesAt W (some ⟨g, 0, none⟩) (0 :: List.replicate m 0) := by
  refine ⟨?_, .inr ⟨g, 0, rfl, ?_⟩⟩
  · intro c hc
    rcases List.mem_cons.1 hc with rfl | hc
    · omega
    · rw [List.eq_of_mem_replicate hc]; omega
  · intro i hi
    simp only [List.length_cons, List.length_replicate] at hi
    have h1 := noughts_get (m + 1) i hi
    have h2 : (0 :: List.replicate m 0).getD i 0 = 0 := by
      cases i with
      | zero => rfl
      | succ i => simp [List.getD_eq_getElem?_getD, List.getElem?_replicate_of_lt (show i < m by omega)]
    simp only [World.cell?, hg, Nat.zero_add, h1, h2]; rfl
theorem far_facts (m : Nat) (hm : m ≤ 65536) : ∃ n0 n5 : Nat, n0 < 4294967296 ∧
    (∀ w g, w.heap[g]? = some (.cells (noughts (m + 1)) 5 (0, 0)) → Calls Try.prog 12 #[.slice (some ⟨g, 0, none⟩) (m + 1) (m + 1)] w fun e w' => e = .returned (.int .u32 (n0 : Int)) ∧ w = w') ∧
    (∀ w g, w.heap[g]? = some (.cells ((noughts (m + 1)).setIfInBounds 0 (.int .u8 5)) 5 (0, 0)) → Calls Try.prog 12 #[.slice (some ⟨g, 0, none⟩) (m + 1) (m + 1)] w fun e w' => e = .returned (.int .u32 (n5 : Int)) ∧ w = w') ∧
    (∀ w, Calls Try.prog 14 #[.int .u32 (n0 : Int), .int .u8 0, .int .u8 5, .int .i64 (m : Int)] w fun e w' => e = .returned (.tuple #[.int .u32 (n5 : Int), .bool true]) ∧ w = w') := by
  have h0 : Crc.sum (0 :: List.replicate m 0) < 4294967296 := Crc.sum_lt _ (by
    intro c hc
    rcases List.mem_cons.1 hc with rfl | hc
    · omega
    · rw [List.eq_of_mem_replicate hc]; omega)
  have hml : m + 1 ≤ maxLen := by unfold maxLen; omega
  refine ⟨Crc.sum (0 :: List.replicate m 0), Crc.sum (5 :: List.replicate m 0), h0, fun w g hg => sum_any _ _ _ _ w (noughts_len m 0) hml (noughts_plain w g m _ hg), fun w g hg => sum_any _ _ _ _ w (noughts_len m 5) hml (noughts_bytes w g m 5 _ (by omega) hg), fun w => ?_⟩
  have hc := Crc.sum_change 0 5 [] (List.replicate m 0)
  simp only [List.nil_append, List.length_replicate] at hc
  rw [← hc]
  exact change_any _ 0 5 m w h0 (by omega) (by omega) hm
theorem found_nought : ∀ (j k : Nat), Crc.found 0 k j = none
  | 0, _ => rfl
  | j + 1, k => by
    rw [Crc.found_step, Crc.bk8_zero, if_neg (by omega)]
    exact found_nought j (k + 1)
theorem known_1 : ((0 ^^^ Crc.it Crc.ah8 (0 + 1) (0 ^^^ 1) : Nat) : Int) = 1996959894 := by rw [show (0 ^^^ Crc.it Crc.ah8 (0 + 1) (0 ^^^ 1) : Nat) = 1996959894 by decide +kernel]; rfl
theorem known_2 : ((7 ^^^ Crc.it Crc.ah8 (9 + 1) (5 ^^^ 5) : Nat) : Int) = 7 := by rw [show (7 ^^^ Crc.it Crc.ah8 (9 + 1) (5 ^^^ 5) : Nat) = 7 by decide +kernel]; rfl
theorem known_3 : Crc.asTuple (Crc.found 1996959894 0 (max 0 (min (1 : Int) 65536)).toNat) = .tuple #[.int .i64 0, .int .u8 1, .bool true] := by
  have : Crc.found 1996959894 0 (max 0 (min (1 : Int) 65536)).toNat = some (0, 1) := by decide +kernel
  rw [this]; rfl
theorem known_4 : Crc.asTuple (Crc.found 0 0 (max 0 (min (65545 : Int) 65536)).toNat) = .tuple #[.int .i64 0, .int .u8 0, .bool false] := by rw [found_nought]; rfl
theorem known_5 : Crc.asTuple (Crc.found 1996959894 0 (max 0 (min (-9223372036854775808 : Int) 65536)).toNat) = .tuple #[.int .i64 0, .int .u8 0, .bool false] := by
  rw [show (max 0 (min (-9223372036854775808 : Int) 65536)).toNat = 0 by decide]; rfl
theorem known_6 : ((Crc.sum [] : Nat) : Int) = 0 := by rw [show Crc.sum [] = 0 by decide +kernel]; rfl
theorem known_7 : ((Crc.sum [0] : Nat) : Int) = 3523407757 := by rw [show Crc.sum [0] = 3523407757 by decide +kernel]; rfl
attribute [local irreducible] Crc.it Crc.ah8 Crc.bk8 Crc.run Crc.sum Crc.step Crc.ah Crc.bk Crc.pick Crc.tab Crc.psum Crc.found noughts
def txt : List Int := [97, 98, 99, 100, 101, 102, 103, 104, 105, 106, 107]

set_option maxRecDepth 100000 in
set_option maxHeartbeats 40000000 in
theorem walk_CrcKnown (w : World) :
    Calls Try.prog 10 #[] w fun e w' => e = .returned (.bool true) ∧ Below w.heap.size w w' := by
  go_enter Try.func10, Try.ntmps10
  have kc := fun (w : World) (C : Array Value) (n c : Nat) => Lib.run_convert_bytes_const (P := Try.prog) w 22 5 C n c Try.underlying22 Try.underlying5
  go_wp2_with fail
  clear kc
  refine name_world9 ?_
  intro W1 hW1
  have hT := isrow_lit (k := .u8) txt 11 rfl (by omega) (by decide) rfl (show W1.heap[w.heap.size]? = some _ by rw [hW1]; exact heap_new9 w _)
  have hB1 : Below w.heap.size w W1 := by rw [hW1]; exact below1 w _
  obtain ⟨g, hg⟩ : ∃ g, g = w.heap.size := ⟨_, rfl⟩
  rw [← hg] at hT ⊢
  clear hg hW1
  go_loopg [2, 3] 256 (fun m i _ wr => ∃ k : Nat, k + m = 256 ∧ i = .int .i64 (k : Int) ∧ Below W1.heap.size W1 wr)
  case atStart => exact ⟨0, by omega, rfl, Below.refl _ _⟩
  case round =>
    obtain ⟨k, hk, rfl, hB⟩ := hrel
    by_cases hlt : k < 256
    · have d1 : (k : Int) < 256 := by omega
      have d2 : (0 : Int) ≤ k := by omega
      have f1 : IntKind.u8.wrap (k : Int) = (k : Int) := by rw [IntKind.wrap_u8]; omega
      have f2 : IntKind.u16.wrap (k : Int) = (k : Int) := by rw [IntKind.wrap_u16]; omega
      have f3 : IntKind.u32.wrap (k : Int) = (k : Int) := by rw [IntKind.wrap_u32]; omega
      have hw8 : (Lit.int .u8 (k : Int)).wf = true := WalkArith.wf_u8 (by omega)
      have HT := Lib.hid (isrow_below hB hT)
      obtain ⟨x, hx⟩ : ∃ x, x = 255 ^^^ k := ⟨_, rfl⟩
      have f4 : bits .xor .u8 IntKind.u8.max (k : Int) = (x : Int) := by rw [hx]; exact not8 k hlt
      have hx8 : x < 256 := by rw [hx]; exact Nat.xor_lt_two_pow (n := 8) (by omega) hlt
      have hwx : (Lit.int .u8 (x : Int)).wf = true := WalkArith.wf_u8 (by omega)
      obtain ⟨y, hy⟩ : ∃ y, y = k / 2 := ⟨_, rfl⟩
      have f5 : (k : Int) / 2 = (y : Int) := by omega
      have hwy : (Lit.int .u8 (y : Int)).wf = true := WalkArith.wf_u8 (by omega)
      obtain ⟨p, hp⟩ : ∃ p, p = k % 7 := ⟨_, rfl⟩
      obtain ⟨q, hq⟩ : ∃ p, p = k % 5 := ⟨_, rfl⟩
      have f6 : (k : Int).tmod 7 = (p : Int) := by rw [Int.tmod_eq_emod_of_nonneg (by omega)]; omega
      have f6' : (k : Int) % 7 = (p : Int) := by omega
      have f7 : (k : Int).tmod 5 = (q : Int) := by rw [Int.tmod_eq_emod_of_nonneg (by omega)]; omega
      have f7' : (k : Int) % 5 = (q : Int) := by omega
      have f8 : IntKind.u16.wrap (p : Int) = (p : Int) := by rw [IntKind.wrap_u16]; omega
      have f9 : IntKind.u16.wrap (q : Int) = (q : Int) := by rw [IntKind.wrap_u16]; omega
      have hwp : (Lit.int .u16 (p : Int)).wf = true := WalkArith.wf_u16 (by omega)
      have hwq : (Lit.int .u16 (q : Int)).wf = true := WalkArith.wf_u16 (by omega)
      have hw16 : (Lit.int .u16 (k : Int)).wf = true := WalkArith.wf_u16 (by omega)
      have hw32 : (Lit.int .u32 (k : Int)).wf = true := WalkArith.wf_u32 (by omega)
      clear hx hy hp hq hx8
      go_wp2_with fail
      refine (walk_CrcBytes _ 1 1 [(k : Int)] _ (isrow_lit [(k : Int)] 1 rfl (by omega) (by simpa using hw8) rfl (heap_new9 wr _))).mono ?_
      rintro e w2 ⟨rfl, hb2⟩
      have hb2 := below_on (below1 wr _) hb2
      go_wp2_with fail
      refine (walk_CrcBytes _ 3 3 [(k : Int), (x : Int), (k : Int)] _ (isrow_lit [(k : Int), (x : Int), (k : Int)] 3 rfl (by omega) (by simp [hw8, hwx]) rfl (heap_new9 w2 _))).mono ?_
      rintro e w3 ⟨rfl, hb3⟩
      have hb3 := below_on hb2 (below_on (below1 w2 _) hb3)
      clear hb2
      go_wp2_with fail
      refine (walk_CrcMended _ 11 11 txt (k : Int) (k : Int) _ (isrow_below hb3 HT.out) hw16 hw8).mono ?_
      rintro e w4 ⟨rfl, hb4⟩
      have hb4 := below_on hb3 hb4
      clear hb3
      go_wp2_with fail
      refine (walk_CrcOrders (k : Int) (k : Int) (x : Int) (y : Int) 3 (p : Int) (q : Int) _ hw32 hw8 hwx hwy (by decide) hwp hwq).mono ?_
      rintro e w5 ⟨rfl, hb5⟩
      have hb5 := below_on hb4 hb5
      clear hb4
      go_wp2_with fail
      refine (walk_CrcRow _ 11 11 txt _ 3 3 [(k : Int), 3, (k : Int)] _ 3 3 [(k : Int), (k : Int), 122] _ (isrow_below (below2' _ _ _) (isrow_below hb5 HT.out)) (isrow_lit [(k : Int), 3, (k : Int)] 3 rfl (by omega) (by simp [hw16]; decide) rfl (alloc2' _ _ _).1) (isrow_lit [(k : Int), (k : Int), 122] 3 rfl (by omega) (by simp [hw8]; decide) rfl (alloc2' _ _ _).2)).mono ?_
      rintro e w6 ⟨rfl, hb6⟩
      have hb6 := below_on hb5 (below_on (below2' _ _ _) hb6)
      have hB6 := below_on hB hb6
      clear hb5 hb6 hB
      go_wp2_with fail
      go_roundg (256 - (k + 1))
      case rel => exact ⟨k + 1, by omega, by go_num, hB6⟩
      case measure => omega
    · obtain rfl : k = 256 := by omega
      obtain ⟨W2, hW2⟩ : ∃ W, W = wr := ⟨_, rfl⟩
      have hB2 := below_on hB1 hB
      have hT2 := isrow_below hB hT
      rw [← hW2] at hB2 hT2 ⊢
      clear hW2 hT hB hB1
      go_wp2_with fail
      go_loopg [4] 32 (fun m i wr => ∃ k : Nat, k + m = 32 ∧ i = .int .i64 (k : Int) ∧ Below W2.heap.size W2 wr)
      case atStart => exact ⟨0, by omega, rfl, Below.refl _ _⟩
      case round =>
        obtain ⟨k, hk, rfl, hB⟩ := hrel
        by_cases hlt : k < 32
        · have d1 : (k : Int) < 32 := by omega
          have d2 : (0 : Int) ≤ k := by omega
          have HT := Lib.hid (isrow_below hB hT2)
          obtain ⟨r, hr⟩ : ∃ r, r = k % 11 := ⟨_, rfl⟩
          have r11 : r < 11 := by omega
          have f1 : (k : Int).tmod 11 = (r : Int) := by rw [Int.tmod_eq_emod_of_nonneg (by omega)]; omega
          have f1' : (k : Int) % 11 = (r : Int) := by omega
          have f2 : (0 : Int) ≤ r := by omega
          have f3 : (r : Int) ≤ 11 := by omega
          obtain ⟨p, hp⟩ : ∃ p, p = 2 ^ k := ⟨_, rfl⟩
          have hp32 : p < 4294967296 := by rw [hp]; exact Nat.pow_lt_pow_right (a := 2) (by omega) hlt
          have f4 : IntKind.u32.wrap ((2 : Int) ^ k) = (p : Int) := by rw [show ((2 : Int) ^ k) = (p : Int) by rw [hp, Int.natCast_pow]; rfl, IntKind.wrap_u32]; omega
          have f5 : IntKind.u8.wrap (k : Int) = (k : Int) := by rw [IntKind.wrap_u8]; omega
          have f6 : IntKind.i8.wrap (k : Int) = (k : Int) := IntWalk.i8_in _ (by omega)
          obtain ⟨y, hy⟩ : ∃ y, y = k / 2 := ⟨_, rfl⟩
          have f7 : (k : Int) / 2 = (y : Int) := by omega
          have f7' : (k : Int).tdiv 2 = (y : Int) := by rw [Int.tdiv_eq_ediv_of_nonneg (by omega)]; omega
          have f7w : IntKind.i64.wrap (y : Int) = (y : Int) := by rw [IntKind.wrap_i64]; omega
          have f8 : IntKind.u8.wrap (y : Int) = (y : Int) := by rw [IntKind.wrap_u8]; omega
          obtain ⟨z, hz⟩ : ∃ z, z = k * 9 := ⟨_, rfl⟩
          have f9 : IntKind.i64.wrap ((k : Int) * 9) = (z : Int) := by rw [IntKind.wrap_i64]; omega
          have f9' : wrap64 ((k : Int) * 9) = (z : Int) := by unfold wrap64; omega
          obtain ⟨v, hv⟩ : ∃ v, v = z % 256 := ⟨_, rfl⟩
          have f10 : IntKind.u8.wrap (z : Int) = (v : Int) := by rw [IntKind.wrap_u8]; omega
          have hwv : (Lit.int .u8 (v : Int)).wf = true := WalkArith.wf_u8 (by omega)
          have hwy : (Lit.int .u8 (y : Int)).wf = true := WalkArith.wf_u8 (by omega)
          have hwk : (Lit.int .u8 (k : Int)).wf = true := WalkArith.wf_u8 (by omega)
          have hwi : (Lit.int .i8 (k : Int)).wf = true := by simp [Lit.wf, IntKind.min, IntKind.max, IntKind.signed, IntKind.bits]; omega
          have hwp : (Lit.int .u32 (p : Int)).wf = true := WalkArith.wf_u32 (by omega)
          have hw64 : (Lit.int .i64 (k : Int)).wf = true := WalkArith.wf_i64 (by omega)
          have h11 : ¬ 11 = r := by omega
          have HD1 : ∀ w', Below wr.heap.size wr w' → Calls Try.prog 9 #[.slice (some ⟨g, 0, none⟩) 11 11, .slice (some ⟨g, 0, none⟩) 11 11, .slice (some ⟨g, r, none⟩) (11 - r) (11 - r), .int .u32 (p : Int), .int .u8 (k : Int)] w' fun e w'' => e = .returned (.bool true) ∧ Below wr.heap.size wr w'' :=
            fun w' hw' => (walk_CrcNear _ 11 11 txt _ 11 11 txt _ (11 - r) (11 - r) (txt.drop r) (p : Int) (k : Int) w' (isrow_below hw' HT.out) (isrow_below hw' HT.out) (isrow_drop (isrow_below hw' HT.out) r (by omega)) hwp hwk).mono (fun e w9 ⟨h1, h2⟩ => ⟨h1, below_on hw' h2⟩)
          have HD2 : ∀ w', Below wr.heap.size wr w' → Calls Try.prog 5 #[.int .u32 (p : Int), .int .i8 (k : Int), .int .u8 (k : Int), .int .u8 (y : Int)] w' fun e w'' => e = .returned (.bool true) ∧ Below wr.heap.size wr w'' :=
            fun w' hw' => (walk_CrcFind (p : Int) (k : Int) (k : Int) (y : Int) w' hwp hwi hwk hwy).mono (fun e w9 ⟨h1, h2⟩ => ⟨h1, below_on hw' h2⟩)
          have HD3 : ∀ w', Below wr.heap.size wr w' → Calls Try.prog 4 #[.int .u32 (p : Int), .int .u8 (k : Int), .int .u8 (v : Int), .int .i64 (k : Int)] w' fun e w'' => e = .returned (.bool true) ∧ Below wr.heap.size wr w'' :=
            fun w' hw' => (walk_CrcChange (p : Int) (k : Int) (v : Int) (k : Int) w' hwp hwk hwv hw64).mono (fun e w9 ⟨h1, h2⟩ => ⟨h1, below_on hw' h2⟩)
          clear hr hp hp32 hy hz hv
          go_wp2_with fail
          refine wp_region_calm (by kernel_rfl) ?_ ?_
          · kernel_rfl
          repeat first
           | go_big_quiet_skip
           | (go_big_quiet_want; go_big_quiet_op; go_big_quiet_on)
           | (with_reducible apply wpQuiet_step
              intro K hK
              go_simp
              first
                | (refine hK _ ?_; clear hK K)
                | (apply Exists.intro
                   refine ⟨fun w' hw' => ?_, hK _ ?_⟩
                   ·
                     (first
                      | done
                      | with_reducible exact HD1 _ hw'
                      | with_reducible exact HD2 _ hw'
                      | with_reducible exact HD3 _ hw'
                      | with_reducible exact rfl
                      | (go_simp
                         first | done | with_reducible exact rfl | with_reducible exact ⟨rfl, rfl⟩))
                   clear hK K))
          refine wpQuiet_nil ?_
          intro w7 hw7
          have hB7 := below_on hB hw7
          clear hB hw7 HD1 HD2 HD3
          go_wp2_with fail
          go_roundg (32 - (k + 1))
          case rel => exact ⟨k + 1, by omega, by go_num, hB7⟩
          case measure => omega
        · obtain rfl : k = 32 := by omega
          have hB3 := below_on hB2 hB
          clear hB hB2 hT2
          go_wp2_with fail
          refine name_world9 ?_
          intro W3 hW3
          have h3 : W3.heap[wr.heap.size]? = some (.cells #[.int .i64 (-9223372036854775808), .int .i64 (-1), .int .i64 65537, .int .i64 9223372036854775807] 3) := by rw [hW3]; exact heap_new9 wr _
          have hB4 : Below w.heap.size w W3 := by rw [hW3]; exact below_on hB3 (below1 wr _)
          have HR : Hid (∀ q, q < 4 → ∃ z : Int, W3.cell? ⟨wr.heap.size, q, none⟩ = some (.int .i64 z) ∧ (Lit.int .i64 z).wf = true) := Lib.hid (by
            intro q hq
            match q, hq with
            | 0, _ => exact ⟨-9223372036854775808, blk_cell h3 0 _ rfl, by decide⟩
            | 1, _ => exact ⟨-1, blk_cell h3 1 _ rfl, by decide⟩
            | 2, _ => exact ⟨65537, blk_cell h3 2 _ rfl, by decide⟩
            | 3, _ => exact ⟨9223372036854775807, blk_cell h3 3 _ rfl, by decide⟩
            | q + 4, h => omega)
          obtain ⟨g4, hg4⟩ : ∃ g, g = wr.heap.size := ⟨_, rfl⟩
          rw [← hg4] at HR ⊢
          clear h3 hW3 hg4 hB3
          go_loopg [126] 4 (fun m i wr => ∃ q : Nat, q + m = 4 ∧ i = .int .i64 (q : Int) ∧ Below W3.heap.size W3 wr)
          case atStart => exact ⟨0, by omega, rfl, Below.refl _ _⟩
          case round =>
            obtain ⟨q, hq, rfl, hB5⟩ := hrel
            by_cases hq4 : q < 4
            · obtain ⟨z, hz, hwz⟩ := HR.out q hq4
              have z0 := cell_later hB5 hz
              have d1 : (q : Int) < 4 := by omega
              have d2 : (0 : Int) ≤ q := by omega
              clear hz
              go_wp2_with fail
              refine (walk_CrcChange 9 1 2 z _ (by decide) (by decide) (by decide) hwz).mono ?_
              rintro e w5 ⟨rfl, hb5⟩
              have hB6 := below_on hB5 hb5
              clear hB5 hb5 z0
              go_wp2_with fail
              go_roundg (4 - (q + 1))
              case rel => exact ⟨q + 1, by omega, by go_num, hB6⟩
              case measure => omega
            · obtain rfl : q = 4 := by omega
              have hB6 := below_on hB4 hB5
              obtain ⟨n0, n5, hn0, HS0, HS5, HC⟩ := far_facts 65536 (Nat.le_refl _)
              have hz1 := noughts_get 65537 0 (by omega)
              have HF0 := Lib.hid HS0
              have HF5 := Lib.hid HS5
              have HFC := Lib.hid HC
              clear HR hB5 hB4 HS0 HS5 HC
              obtain ⟨W6, hW6⟩ : ∃ W, W = wr := ⟨_, rfl⟩
              rw [← hW6] at hB6 ⊢
              clear hW6
              have hmk2 : (Instr.makeSlice 22 (.int .i64 65537) (.int .i64 65537)).run Try.prog W6 = .ok (.slice (some ⟨W6.heap.size, 0, none⟩) 65537 65537) (W6.alloc (.cells (noughts 65537) 5)) := run_noughts 65537 W6 (by omega)
              have hN := heap_new9 W6 (.cells (noughts 65537) 5)
              have hcell : (W6.alloc (.cells (noughts 65537) 5)).cell? ⟨W6.heap.size, 0, none⟩ = some (.int .u8 0) := blk_cell hN 0 _ hz1
              have hfree := blk_free hN
              have hN5 := heap_new9 W6 (.cells ((noughts 65537).setIfInBounds 0 (.int .u8 5)) 5)
              have hB8 := below_on hB6 (below1 W6 (.cells ((noughts 65537).setIfInBounds 0 (.int .u8 5)) 5))
              clear hz1
              go_wp2_with fail
              refine (HF0.out _ _ hN).mono ?_
              rintro e w7 ⟨rfl, rfl⟩
              go_wp2_with fail
              refine (HFC.out _).mono ?_
              rintro e w8 ⟨rfl, rfl⟩
              go_wp2_with fail
              refine (change_is 0 0 1 0 _ 1996959894 known_1 (by omega) (by omega) (by omega) (by omega)).mono ?_
              rintro e w9 ⟨rfl, rfl⟩
              go_wp2_with fail
              refine (change_is 7 5 5 9 _ 7 known_2 (by omega) (by omega) (by omega) (by omega)).mono ?_
              rintro e w10 ⟨rfl, rfl⟩
              go_wp2_with fail
              refine (find_is 1996959894 1 _ _ known_3 (by omega) (by omega)).mono ?_
              rintro e w11 ⟨rfl, rfl⟩
              go_wp2_with fail
              refine (find_is 0 65545 _ _ known_4 (by omega) (by omega)).mono ?_
              rintro e w12 ⟨rfl, rfl⟩
              go_wp2_with fail
              refine (find_is 1996959894 (-9223372036854775808) _ _ known_5 (by omega) (by omega)).mono ?_
              rintro e w13 ⟨rfl, rfl⟩
              go_wp2_with fail
              refine (HF5.out _ _ hN5).mono ?_
              rintro e w14 ⟨rfl, rfl⟩
              go_wp2_with fail
              refine (sum_is [] 0 known_6 rfl (by simp [maxLen]) ⟨by simp, .inl rfl⟩).mono ?_
              rintro e w15 ⟨rfl, hb15⟩
              have hB9 := below_on hB8 hb15
              clear hb15 hB8
              go_wp2_with fail
              refine (sum_is [0] 3523407757 known_7 rfl (by simp [maxLen]) (bytes_lit [0] (by decide) rfl (heap_new9 _ _))).mono ?_
              rintro e w16 ⟨rfl, hb16⟩
              have hB10 := below_on hB9 (below_on (below1 _ _) hb16)
              clear hb16 hB9
              go_wp2_with fail
              refine (walk_CrcBytes none 0 0 [] _ (.inl ⟨rfl, rfl, rfl, rfl⟩)).mono ?_
              rintro e w17 ⟨rfl, hb17⟩
              have hB11 := below_on hB10 hb17
              clear hb17 hB10
              go_wp2_with fail
              refine (works_any _).mono ?_
              rintro e w18 ⟨rfl, hb18⟩
              go_wp2_with fail
              go_ret
              exact ⟨rfl, below_on hB11 hb18⟩
end Go.Proofs.Ytegkogbkoealaaa
