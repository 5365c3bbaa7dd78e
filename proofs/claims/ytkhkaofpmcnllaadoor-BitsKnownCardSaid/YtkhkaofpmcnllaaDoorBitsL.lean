/-
  Walks of chapter 7's document: List, Count, Lowest, Any.
-/
import Derived.Test.YtkhkaofpmcnllaaDoorBitsV
namespace Go.Proofs.YtkhkaofpmcnllaaDoor
open Go.RowKit
attribute [local irreducible] pw hasBit withBit woBit mems ofN withI anyN anyAt anyR

theorem heap_new1 (w : World) (o : Obj) : (w.alloc o).heap[w.heap.size]? = some o := by
  show (w.heap.push o)[w.heap.size]? = some o
  simp
theorem srcAt_one (w : World) (t : TypeId) (v : Value) (hv : v.oneCell' = true) : SrcAt (w.alloc (.cells #[v] t)) (some ⟨w.heap.size, 0, none⟩) 1 [v] := by
  refine ⟨fun h => by simp at h, fun u hu => by simp at hu; rw [hu]; exact hv, ?_⟩
  intro ad had j u hj
  cases had
  match j, hj with
  | 0, hj => cases hj; exact blk_cell (heap_new1 w _) 0 _ rfl
  | j + 1, hj => simp at hj
theorem info_int : (Tryd.prog.info? 3).map (fun i => (i.zero, i.size, i.bytes)) = some (some (.int .i64 0), 1, 8) := by kernel_rfl
/-- numbers as a row's cells -/
def natVals (l : List Nat) : List Value := l.map fun (n : Nat) => Value.int .i64 (n : Int)
def ints (l : List Nat) : List Int := l.map fun (n : Nat) => (n : Int)
theorem natVals_len (l : List Nat) : (natVals l).length = l.length := List.length_map _
theorem ints_len (l : List Nat) : (ints l).length = l.length := List.length_map _
theorem natVals_snoc (l : List Nat) (k : Nat) : natVals (l ++ [k]) = natVals l ++ [.int .i64 (k : Int)] := by simp [natVals]
theorem own_ints {w : World} {base n : Nat} {e : TypeId} {v : Value} {l : List Nat} (hl : ∀ c ∈ l, c < 9223372036854775808) (hn : l.length = n) (h : w.ownsRow base e 1 v n (natVals l)) :
    ∃ a c, v = .slice a n c ∧ IntsAt w a (ints l) := by
  have hb : ∀ c ∈ ints l, -9223372036854775808 ≤ c ∧ c ≤ 9223372036854775807 := by
    intro c hc
    obtain ⟨m, hm, rfl⟩ := List.mem_map.1 hc
    have := hl m hm
    exact ⟨by omega, by omega⟩
  rcases h.2 with ⟨rfl, rfl⟩ | ⟨g, cap, cur, rfl, hg, hheap, hncap, hcm, hsz, htake⟩
  · have : l = [] := by
      cases l with
      | nil => rfl
      | cons x l => simp at hn
    subst this
    exact ⟨none, 0, rfl, hb, .inl rfl⟩
  · refine ⟨_, cap, rfl, hb, .inr ⟨g, 0, rfl, fun i c hi => ?_⟩⟩
    have hi' : i < n := by
      have := (List.getElem?_eq_some_iff.1 hi).1
      rw [ints_len] at this; omega
    have h1 : (natVals l)[i]? = some (.int .i64 c) := by
      simp only [ints, List.getElem?_map] at hi
      simp only [natVals, List.getElem?_map]
      cases hx : l[i]? with
      | none => rw [hx] at hi; simp at hi
      | some m => rw [hx] at hi; simp at hi; simp [hi]
    rw [← htake, List.getElem?_take, if_pos (by omega), Array.getElem?_toList] at h1
    simp only [World.cell?, hheap, Nat.zero_add]
    exact h1
theorem mems_small (x : Nat) : ∀ c ∈ mems x 64, c < 9223372036854775808 := fun c hc => by have := (mems_mem.1 hc).1; omega

set_option maxHeartbeats 1000000 in
theorem rlist_any (x : Nat) (w : World) (hx : x < 18446744073709551616) :
    Calls Tryd.prog 20 #[.int .u64 x] w fun e w' => ∃ v, e = .returned v ∧ w'.ownsRow w.heap.size 3 1 v (mems x 64).length (natVals (mems x 64)) ∧ Below w.heap.size w w' := by
  have HX := Lib.hid hx
  go_enter Tryd.func20, Tryd.ntmps20
  go_wp2_with fail
  go_loopg [3, 4] 64 (fun m s i wr => ∃ k : Nat, k + m = 64 ∧ i = .int .i64 k ∧ wr.ownsRow w.heap.size 3 1 s (mems x k).length (natVals (mems x k)) ∧ Below w.heap.size w wr)
  case atStart => exact ⟨0, by omega, rfl, by rw [mems_zero]; exact World.ownsRow_nil _ _ _ _, Below.refl _ _⟩
  case round =>
    obtain ⟨k, hk, rfl, hO, hB⟩ := hrel
    clear hx
    by_cases hlt : k < 64
    · have hle := mems_len x k
      have hsz := hB.size
      cases hb : hasBit x k with
      | false =>
        have HM : Hid (mems x (k + 1) = mems x k) := Lib.hid (mems_no hb)
        have HB := Lib.hid hb
        clear hb
        go_wp2_with fail
        refine (has_any x k _ (by omega) HX.out).mono ?_
        rintro e w' ⟨rfl, rfl⟩
        rw [HB.out]
        go_wp2_with fail
        go_roundg (64 - (k + 1))
        case rel => exact ⟨k + 1, by omega, by go_num, by rw [HM.out]; exact hO, hB⟩
        case measure => omega
      | true =>
        have HM : Hid (mems x (k + 1) = mems x k ++ [k]) := Lib.hid (mems_yes hb)
        have HB := Lib.hid hb
        have HOW := Lib.hid (own_below (below1 wr (Obj.cells #[Value.int IntKind.i64 (k : Int)] 3)) hO)
        obtain ⟨nL, hnL⟩ : ∃ nL, (mems x k).length = nL := ⟨_, rfl⟩
        rw [hnL] at HOW hle
        have HNL := Lib.hid hnL
        obtain ⟨i0, hi, hz0, hz1, hz2⟩ := info_parts info_int
        clear hb hnL
        go_wp2_with fail
        refine (has_any x k _ (by omega) HX.out).mono ?_
        rintro e w' ⟨rfl, rfl⟩
        rw [HB.out]
        go_wp2_with (at_builtin; refine wpList_append_src rfl _ _ 26 rfl w.heap.size 3 i0 (.int .i64 0) 1 8 Tryd.underlying26 hi hz0 hz1 hz2 rfl (by decide) _ nL (natVals (mems x k)) rfl HOW.out (some ⟨wr.heap.size, 0, none⟩) 1 1 [.int .i64 (k : Int)] rfl rfl (srcAt_one wr _ _ rfl) (by unfold maxLen; omega) (by omega) (by simp; omega) ?_; intro v4 W4 hown4 hg4)
        have hB4 : Below w.heap.size w W4 := (hB.alloc hsz _).grown hg4 (by simp; omega) (fun k hk => (HOW.out.lt _ hk).1)
        go_roundg (64 - (k + 1))
        case rel => exact ⟨k + 1, by omega, by go_num, by rw [HM.out, natVals_snoc, List.length_append, HNL.out]; exact hown4, hB4⟩
        case measure => omega
    · obtain rfl : k = 64 := by omega
      go_wp2_with fail
      go_ret
      exact ⟨_, rfl, hO, hB⟩
/-- the least number of a set; 64 if there is none -/
def lowN (x : Nat) : Nat := (mems x 64).head?.getD 64
theorem rcount_any (x : Nat) (w : World) (hx : x < 18446744073709551616) :
    Calls Tryd.prog 23 #[.int .u64 x] w fun e w' => e = .returned (.int .i64 (((mems x 64).length : Nat) : Int)) ∧ Below w.heap.size w w' := by
  obtain ⟨nL, hnL⟩ : ∃ nL, (mems x 64).length = nL := ⟨_, rfl⟩
  go_enter Tryd.func23, Tryd.ntmps23
  have HNL := Lib.hid hnL
  clear hnL
  go_wp2_with fail
  refine (rlist_any x _ hx).mono ?_
  rintro e w' ⟨v, rfl, hO, hB⟩
  rw [HNL.out] at hO
  obtain ⟨a, c, rfl, _⟩ := own_ints (mems_small x) HNL.out hO
  go_wp2_with fail
  go_ret
  refine ⟨?_, hB⟩
  rw [HNL.out]; rfl
theorem rlow_any (x : Nat) (w : World) (hx : x < 18446744073709551616) :
    Calls Tryd.prog 25 #[.int .u64 x] w fun e w' => e = .returned (.int .i64 ((lowN x : Nat) : Int)) ∧ Below w.heap.size w w' := by
  obtain ⟨nL, hnL⟩ : ∃ nL, (mems x 64).length = nL := ⟨_, rfl⟩
  have HNL := Lib.hid hnL
  clear hnL
  go_enter Tryd.func25, Tryd.ntmps25
  go_wp2_with fail
  refine (rlist_any x _ hx).mono ?_
  rintro e w' ⟨v, rfl, hO, hB⟩
  rw [HNL.out] at hO
  obtain ⟨a, c, rfl, h1, h2⟩ := own_ints (mems_small x) HNL.out hO
  clear hO h1
  cases hm : mems x 64 with
  | nil =>
    have hl : Hid (lowN x = 64) := Lib.hid (by unfold lowN; rw [hm]; rfl)
    have h0 : nL = 0 := by rw [← HNL.out, hm]; rfl
    subst h0
    clear hm h2
    go_wp2_with fail
    go_ret
    refine ⟨?_, hB⟩
    rw [hl.out]; rfl
  | cons m r =>
    have hl : Hid (lowN x = m) := Lib.hid (by unfold lowN; rw [hm]; rfl)
    have h0 : 0 < nL := by rw [← HNL.out, hm]; simp
    have h9 : ints (mems x 64) = (m : Int) :: ints r := by rw [hm]; rfl
    rw [h9] at h2
    rcases h2 with hn | ⟨b, off, rfl, hc⟩
    · cases hn
    have z := hc 0 (m : Int) rfl
    rw [Nat.add_zero] at z
    have h1 : ¬ (nL : Int) = 0 := by omega
    have h3 : (0 : Int) < nL := by omega
    clear hm h9 hc
    go_wp2_with fail
    go_ret
    refine ⟨?_, hB⟩
    rw [hl.out]; rfl
/-- the number k in, if b -/
def orIf (b : Bool) (o k : Nat) : Nat := if b then withBit o k else o
theorem orIf_no (o k : Nat) : orIf false o k = o := rfl
theorem orIf_again (b : Bool) (o k : Nat) : withBit (orIf b o k) k = orIf true o k := by
  cases b with
  | false => rfl
  | true =>
    show withBit (withBit o k) k = withBit o k
    rw [withBit_or, withBit_or, Nat.or_assoc, Nat.or_self]
theorem anyR_succ (l : List Nat) (x T k : Nat) : anyR l x T (k + 1) = orIf (anyAt l x T k) (anyR l x T k) k := by
  rw [anyR]; rfl
theorem orIf_lt (b : Bool) {o k : Nat} (hk : k ≤ 63) (ho : o < 18446744073709551616) : orIf b o k < 18446744073709551616 := by
  cases b with
  | false => exact ho
  | true => exact withBit_lt o k hk ho
attribute [local irreducible] orIf

set_option maxHeartbeats 2000000 in
theorem rany_any (a : Option Addr) (n cap x T : Nat) (l : List Nat) (w : World) (hn : l.length = n) (hm : n ≤ 1000) (hT : T = min n 64) (hl : NatsAt .u64 18446744073709551616 w a l) (hx : x < 18446744073709551616) :
    Calls Tryd.prog 29 #[.slice a n cap, .int .u64 x] w fun e w' => e = .returned (.int .u64 ((anyR l x T 64 : Nat) : Int)) ∧ w = w' := by
  have HN := Lib.hid hn
  have HX := Lib.hid hx
  have HL := Lib.hid hl
  have hTn : T ≤ n := by omega
  have hT64 : T ≤ 64 := by omega
  have hTT : n ≤ T ∨ 64 ≤ T := by omega
  clear hn hx hT
  go_enter Tryd.func29, Tryd.ntmps29
  go_wp2_with fail
  go_loopg [5, 6] 64 (fun m o i wr => ∃ k u : Nat, k + m = 64 ∧ i = .int .i64 k ∧ u = anyR l x T k ∧ o = .int .u64 u ∧ wr = w)
  case atStart => exact ⟨0, 0, by omega, rfl, by rw [anyR], rfl, rfl⟩
  case round =>
    obtain ⟨k, u, hk, rfl, hu, rfl, rfl⟩ := hrel
    have HU := Lib.hid hu
    by_cases hlt : k < 64
    · have hul : u < 18446744073709551616 := by rw [hu]; exact anyR_lt l x T k (by omega)
      have HS : Hid (anyR l x T (k + 1) = orIf (anyAt l x T k) u k) := Lib.hid (by rw [anyR_succ, hu])
      clear hu
      obtain ⟨wq, hwq⟩ : ∃ wq, wq = wr := ⟨_, rfl⟩
      rw [← hwq] at HL ⊢
      have HWQ := Lib.hid hwq
      have hk9 : (k : Int) < 64 := by omega
      clear hwq
      go_wp2_with fail
      go_loopg [5, 7] T (fun m o i wr => ∃ q v : Nat, q + m = T ∧ i = .int .i64 q ∧ v = orIf (anyAt l x q k) u k ∧ o = .int .u64 v ∧ wr = wq)
      case atStart => exact ⟨0, u, by omega, rfl, by rw [anyAt_zero, orIf_no], rfl, rfl⟩
      case round =>
        obtain ⟨q, v, hq, rfl, hv, rfl, rfl⟩ := hrel
        have HV := Lib.hid hv
        have hvl : v < 18446744073709551616 := by rw [hv]; exact orIf_lt _ (by omega) hul
        by_cases hqT : q < T
        · have q1 : (q : Int) < n := by omega
          have q2 : (q : Int) < 64 := by omega
          have q3 : (0 : Int) ≤ q := by omega
          obtain ⟨b, off, c, rfl, hc, hc1, z⟩ := HL.out.at (i := q) (by rw [HN.out]; omega)
          have hgd : l.getD q 0 = c := by rw [List.getD_eq_getElem?_getD, hc]; rfl
          have HA : Hid (anyAt l x (q + 1) k = (anyAt l x q k || (hasBit x q && hasBit c k))) := Lib.hid (by rw [anyAt_succ, hgd])
          clear hv hc hgd
          cases hb : hasBit x q with
          | false =>
            have HB := Lib.hid hb
            have HO : Hid (v = orIf (anyAt l x (q + 1) k) u k) := Lib.hid (by rw [HA.out, hb, Bool.false_and, Bool.or_false]; exact HV.out)
            clear hb
            go_wp2_with fail
            refine (has_any x q _ (by omega) HX.out).mono ?_
            rintro e w' ⟨rfl, rfl⟩
            rw [HB.out]
            go_wp2_with fail
            go_roundg (T - (q + 1))
            case rel => exact ⟨q + 1, v, by omega, by go_num, HO.out, rfl, rfl⟩
            case measure => omega
          | true =>
            have HB := Lib.hid hb
            cases hb2 : hasBit c k with
            | false =>
              have HB2 := Lib.hid hb2
              have HO : Hid (v = orIf (anyAt l x (q + 1) k) u k) := Lib.hid (by rw [HA.out, hb2, Bool.and_false, Bool.or_false]; exact HV.out)
              clear hb hb2
              go_wp2_with fail
              refine (has_any x q _ (by omega) HX.out).mono ?_
              rintro e w' ⟨rfl, rfl⟩
              rw [HB.out]
              go_wp2_with fail
              refine (has_any c k _ (by omega) hc1).mono ?_
              rintro e w' ⟨rfl, rfl⟩
              rw [HB2.out]
              go_wp2_with fail
              go_roundg (T - (q + 1))
              case rel => exact ⟨q + 1, v, by omega, by go_num, HO.out, rfl, rfl⟩
              case measure => omega
            | true =>
              have HB2 := Lib.hid hb2
              have HO : Hid (withBit v k = orIf (anyAt l x (q + 1) k) u k) := Lib.hid (by rw [HA.out, hb, hb2, HV.out, orIf_again]; simp)
              clear hb hb2
              go_wp2_with fail
              refine (has_any x q _ (by omega) HX.out).mono ?_
              rintro e w' ⟨rfl, rfl⟩
              rw [HB.out]
              go_wp2_with fail
              refine (has_any c k _ (by omega) hc1).mono ?_
              rintro e w' ⟨rfl, rfl⟩
              rw [HB2.out]
              go_wp2_with fail
              refine (with_any v k _ (by omega) hvl).mono ?_
              rintro e w' ⟨rfl, rfl⟩
              go_wp2_with fail
              go_roundg (T - (q + 1))
              case rel => exact ⟨q + 1, withBit v k, by omega, by go_num, HO.out, rfl, rfl⟩
              case measure => omega
        · obtain rfl : q = T := by omega
          clear hv
          by_cases h1 : (q : Int) < n
          · have h2 : ¬ (q : Int) < 64 := by omega
            go_wp2_with fail
            go_roundg (64 - (k + 1))
            case rel => exact ⟨k + 1, v, by omega, by go_num, by rw [HS.out]; exact HV.out, rfl, HWQ.out⟩
            case measure => omega
          · go_wp2_with fail
            go_roundg (64 - (k + 1))
            case rel => exact ⟨k + 1, v, by omega, by go_num, by rw [HS.out]; exact HV.out, rfl, HWQ.out⟩
            case measure => omega
    · obtain rfl : k = 64 := by omega
      clear hu
      go_wp2_with fail
      go_ret
      refine ⟨?_, rfl⟩
      rw [← HU.out]; rfl
end Go.Proofs.YtkhkaofpmcnllaaDoor
