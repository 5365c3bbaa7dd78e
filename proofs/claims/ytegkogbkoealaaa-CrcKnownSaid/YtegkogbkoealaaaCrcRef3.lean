/-
  Walks of the document's answer for chapter 1: Find.
-/
import Derived.Test.YtegkogbkoealaaaCrcRef2
import Derived.Lib.SmallJoins
namespace Go.Proofs.Ytegkogbkoealaaa
open Go.RowKit
attribute [local irreducible] Crc.it Crc.ah8 Crc.bk8 Crc.run Crc.sum Crc.step Crc.ah Crc.bk Crc.pick Crc.tab Crc.psum Crc.found noughts

theorem info_u32 : (Try.prog.info? 24).map (fun i => (i.zero, i.size, i.bytes)) = some (some (.int .u32 0), 1, 4) := by kernel_rfl

/-- the Sums of the first j bits, each m bytes ahead of the end -/
def bitsOf (m j : Nat) : List Value := (List.range j).map fun k => .int .u32 (Crc.it Crc.ah8 (m + 1) (2 ^ k) : Nat)
theorem bitsOf_succ (m j : Nat) : bitsOf m (j + 1) = bitsOf m j ++ [.int .u32 (Crc.it Crc.ah8 (m + 1) (2 ^ j) : Nat)] := by
  simp [bitsOf, List.range_succ]

theorem bitsOf_get (m k : Nat) (h : k < 8) : (bitsOf m 8)[k]? = some (.int .u32 (Crc.it Crc.ah8 (m + 1) (2 ^ k) : Nat)) := by
  simp [bitsOf, h]
theorem crc_bit64 (x k : Nat) (hx : x < 256) : (bits .and .i64 ((x : Int) / 2 ^ k) 1 == 1) = decide (x / 2 ^ k % 2 = 1) := by
  have e : (x : Int) / 2 ^ k = ((x / 2 ^ k : Nat) : Int) := by norm_cast
  have hd : x / 2 ^ k ≤ x := Nat.div_le_self _ _
  rw [e, show (1 : Int) = ((1 : Nat) : Int) from rfl, i64_and_nat _ 1 (by omega) (by omega), Nat.and_one_is_mod, Bool.eq_iff_iff]; simp; omega

set_option maxRecDepth 100000 in
set_option maxHeartbeats 1000000 in
theorem reffind_any (u T : Nat) (w : World) (hu : u < 4294967296) (hT : T ≤ 60) :
    Calls Try.prog 17 #[.int .u32 u, .int .i64 T] w fun e w' => e = .returned (Crc.asTuple (Crc.found u 0 T)) ∧ Below w.heap.size w w' := by
  obtain ⟨i0, hi, hz0, hz1, hz2⟩ := info_parts info_u32
  go_enter Try.func17, Try.ntmps17
  go_wp2
  go_loopw [7] (fun i wr => ∃ m : Nat, m ≤ T ∧ i = .int .i64 m ∧ Crc.found u 0 T = Crc.found (Crc.it Crc.bk8 m u) m (T - m) ∧ Below w.heap.size w wr) (fun i _ => T - (intOf i).toNat)
  case atStart => exact ⟨0, by omega, rfl, by rw [Crc.it_zero']; rfl, Below.refl _ _⟩
  case round =>
    obtain ⟨m, hm, rfl, hF, hB⟩ := hrel
    by_cases hlt : m < T
    · have HF := Lib.hid hF
      clear hF
      have h65 : (m : Int) < 65536 := by omega
      have h64 : (m : Int) < T := by omega
      go_wp2_with fail
      clear h65 h64
      go_loopw [8, 9] (fun v i w2 => ∃ j : Nat, j ≤ 8 ∧ i = .int .i64 j ∧ w2.ownsRow w.heap.size 24 1 v j (bitsOf m j) ∧ Below w.heap.size w w2) (fun _ i _ => 8 - (intOf i).toNat)
      case atStart => exact ⟨0, by omega, rfl, World.ownsRow_nil _ _ _ _, hB⟩
      case round =>
        obtain ⟨j, hj, rfl, hown, hB2⟩ := hrel
        by_cases hlt2 : j < 8
        · have hp := Crc.two_pow_lt8 j hlt2
          have hmod : Hid ((2 : Int) ^ j % 256 = ((2 ^ j : Nat) : Int)) := Lib.hid (by rw [show (2 : Int) ^ j = ((2 ^ j : Nat) : Int) by norm_cast]; exact mod256 hp)
          have hbits := Lib.hid (bitsOf_succ m j)
          have hxz : Hid (0 ^^^ Crc.it Crc.ah8 (m + 1) (0 ^^^ 2 ^ j) = Crc.it Crc.ah8 (m + 1) (2 ^ j)) := Lib.hid (by rw [Nat.zero_xor, Nat.zero_xor])
          go_wp2_with fail
          rw [hmod.out]
          refine (refchange_any 0 0 (2 ^ j) m _ (by omega) (by omega) hp (by omega)).mono ?_
          rintro e w3 ⟨rfl, hB3⟩
          rw [hxz.out]
          have hown3 : w3.ownsRow w.heap.size 24 1 u8 j (bitsOf m j) := own_below hB3 hown
          go_wp2_with (at_builtin; refine wpList_append_own _ rfl _ _ 31 rfl w.heap.size 24 i0 (.int .u32 0) 1 4 Try.underlying31 hi hz0 hz1 hz2 rfl (by decide) _ _ _ rfl (hown3.alloc _) ⟨w3.heap.size, 0, none⟩ 1 1 [.int .u32 (Crc.it Crc.ah8 (m + 1) (2 ^ j) : Nat)] rfl rfl (cell_one_new _ _ _) ?c2 ?c3 ?c4 ?c5 ?_)
          case c2 => intro x hx; simp at hx; subst hx; rfl
          case c3 => unfold maxLen; omega
          case c4 => omega
          case c5 => have := hB2.size; have := hB3.size; simp; omega
          intro v' w4 hown4 hg4 _
          rw [← hbits.out] at hown4
          have hB4 : Below w.heap.size w w4 := ((below_next hB2 hB2.size hB3).alloc (Nat.le_trans hB2.size hB3.size) _).grown hg4 (by have := hB2.size; have := hB3.size; simp; omega) (fun k hk => (hown3.lt k hk).1)
          clear hown hown3 hg4
          go_wp2
          go_roundw
          case rel => exact ⟨j + 1, by omega, by go_num, hown4, hB4⟩
          case measure => simp [intOf]; omega
        · obtain rfl : j = 8 := by omega
          clear hj hlt2
          go_wp2_with fail
          obtain ⟨g, cap, rfl⟩ := Joins.ownsRow_form hown (by omega)
          have hcell : ∀ k, k < 8 → wr.cell? ⟨g, k, none⟩ = some (.int .u32 (Crc.it Crc.ah8 (m + 1) (2 ^ k) : Nat)) := fun k hk => by rw [hown.cellAt k (by omega)]; exact bitsOf_get m k hk
          clear hown
          go_loop [12] (fun i => ∃ y : Nat, 1 ≤ y ∧ y ≤ 256 ∧ i = .int .i64 y ∧ (∀ c, 1 ≤ c → c < y → Crc.bk8 (Crc.it Crc.bk8 m u) ≠ c)) (fun i => 256 - (intOf i).toNat)
          case atStart => exact ⟨1, by omega, by omega, rfl, fun c h1 h2 => by omega⟩
          case round =>
            obtain ⟨y, hy1, hy2, rfl, hno⟩ := hrel
            have HN := Lib.hid hno
            clear hno
            by_cases hlt3 : y < 256
            · go_wp2_with fail
              go_loop [13, 14] (fun r i => ∃ j : Nat, j ≤ 8 ∧ i = .int .i64 j ∧ r = .int .u32 (Crc.psum m y j : Nat)) (fun _ i => 8 - (intOf i).toNat)
              case atStart => exact ⟨0, by omega, rfl, by rw [Crc.psum_zero]; rfl⟩
              case round =>
                obtain ⟨j, hj, rfl, rfl⟩ := hrel
                by_cases hlt4 : j < 8
                · have hcj := hcell j hlt4
                  have HS := Lib.hid (Crc.psum_succ m y j)
                  have hpl := Crc.psum_lt m y j hlt3
                  have hil : Crc.it Crc.ah8 (m + 1) (2 ^ j) < 4294967296 := Crc.it_ah8_lt (by have := Crc.two_pow_lt8 j hlt4; omega)
                  have HX := Lib.hid (crc_xor _ _ hpl hil)
                  generalize Crc.psum m y j = p at *
                  generalize Crc.it Crc.ah8 (m + 1) (2 ^ j) = q at *
                  clear hcell hpl hil
                  go_wp2_with fail
                  · have hb : (bits BinOp.and IntKind.i64 ((y : Int) / 2 ^ j) 1 == 1) = true := by assumption
                    rw [crc_bit64 y j hlt3] at hb
                    have hb := of_decide_eq_true hb
                    go_round
                    case rel => exact ⟨j + 1, by omega, by go_num, by rw [HX.out, HS.out, if_pos hb]⟩
                    case measure => simp [intOf]; omega
                  · have hb : (bits BinOp.and IntKind.i64 ((y : Int) / 2 ^ j) 1 == 1) = false := by assumption
                    rw [crc_bit64 y j hlt3] at hb
                    have hb := of_decide_eq_false hb
                    go_round
                    case rel => exact ⟨j + 1, by omega, by go_num, by rw [HS.out, if_neg hb]⟩
                    case measure => simp [intOf]; omega
                · obtain rfl : j = 8 := by omega
                  clear hj hlt4 hcell
                  have HA := Lib.hid (Crc.psum_all m y hlt3)
                  have HI := Lib.hid (Crc.hit_iff m u y hu hlt3)
                  have HM : Hid ((y : Int) % 256 = y) := Lib.hid (mod256 hlt3)
                  have hTm : T - m = (T - (m + 1)) + 1 := by omega
                  have HT := Lib.hid hTm
                  clear hTm
                  go_wp2_with fail
                  · have he : ((Crc.psum m y 8 : Int) == (u : Int)) = true := by assumption
                    have he2 : Crc.psum m y 8 = u := by have := eq_of_beq he; omega
                    rw [HA.out] at he2
                    have hb := HI.out.1 he2
                    go_ret3
                    refine ⟨?_, hB2⟩
                    rw [HF.out, HT.out, Crc.found_step, hb, if_pos ⟨by omega, by omega⟩]
                    first | rfl | (show _ = Ending.returned (.tuple #[.int .i64 m, .int .u8 y, .bool true]); rw [HM.out])
                  · have he : ((Crc.psum m y 8 : Int) == (u : Int)) = false := by assumption
                    have he2 : ¬ Crc.psum m y 8 = u := by intro h; rw [h] at he; simp at he
                    rw [HA.out] at he2
                    have hb : ¬ _ := fun h => he2 (HI.out.2 h)
                    refine ⟨⟨_, _, _, _, ⟨y + 1, by omega, by omega, rfl, ?_⟩, rfl, rfl, rfl, by go_num⟩, by simp [intOf]; omega⟩
                    intro c h1 h2
                    by_cases hc : c = y
                    · rw [hc]; exact hb
                    · exact HN.out c h1 (by omega)
            · obtain rfl : y = 256 := by omega
              clear hcell hlt3
              have hTm : T - m = (T - (m + 1)) + 1 := by omega
              have HT := Lib.hid hTm
              clear hTm
              go_wp2_with fail
              go_roundw
              case rel =>
                refine ⟨m + 1, by omega, by go_num, ?_, hB2⟩
                have hno := HN.out
                rw [HF.out, HT.out, Crc.found_step, Crc.it_succ, if_neg]
                rintro ⟨h1, h2⟩
                exact hno _ h1 (by omega) rfl
              case measure => simp [intOf]; omega
    · have hmT : m = T := by omega
      rw [hmT, Nat.sub_self, Crc.found_zero] at hF
      have HF : Hid (Crc.found u 0 T = none) := Lib.hid hF
      clear hF hmT
      go_wp2_with fail
      go_ret3
      exact ⟨by rw [HF.out]; rfl, hB⟩

theorem reffind_none (u : Nat) (n : Int) (w : World) (hn : n ≤ 0) :
    Calls Try.prog 17 #[.int .u32 u, .int .i64 n] w fun e w' => e = .returned (.tuple #[.int .i64 0, .int .u8 0, .bool false]) ∧ w = w' := by
  have h0 : ¬ 0 < n := by omega
  go_enter Try.func17, Try.ntmps17
  go_wp2
  refine wp_loop_rounds 1 ?_
  rw [rounds_succ]
  go_wp2
  go_ret3
  exact ⟨rfl, rfl⟩
theorem find_zero (n : Int) (h : n ≤ 0) : (max 0 (min n 65536)).toNat = 0 := by omega
theorem reffind_int (u : Nat) (n : Int) (w : World) (hu : u < 4294967296) (hn : n ≤ 60) :
    Calls Try.prog 17 #[.int .u32 u, .int .i64 n] w fun e w' => e = .returned (Crc.asTuple (Crc.found u 0 (max 0 (min n 65536)).toNat)) ∧ Below w.heap.size w w' := by
  by_cases h : n ≤ 0
  · refine (reffind_none u n w h).mono fun e w' ⟨h1, h2⟩ => ⟨?_, h2 ▸ Below.refl _ _⟩
    rw [h1, find_zero n h, Crc.found_zero]; rfl
  · obtain ⟨T, rfl⟩ := Int.eq_ofNat_of_zero_le (show 0 ≤ n by omega)
    rw [show (max 0 (min (T : Int) 65536)).toNat = T by omega]
    exact reffind_any u T w hu (by omega)
theorem asTuple_ex (o : Option (Nat × Nat)) : ∃ (p q : Int) (r : Bool), Crc.asTuple o = .tuple #[.int .i64 p, .int .u8 q, .bool r] := by
  cases o with
  | none => exact ⟨0, 0, false, rfl⟩
  | some x => exact ⟨_, _, true, rfl⟩
end Go.Proofs.Ytegkogbkoealaaa
