/-
  bits.Any: what is in any of some sets: a loop over the iterator.
-/
import Derived.Test.YtkhkaofpmcnllaaDoorBitsI
namespace Go.Proofs.YtkhkaofpmcnllaaDoor
open Go.RowKit Go.Shelf
attribute [local go_sem] Oper.semAt_some
attribute [local irreducible] pw hasBit withBit woBit mems ofN withI anyN anyAt anyR

theorem bfirst_is (n : Int) (T z : Nat) (w : World) (hT : (T : Int) = max 0 (min n 64)) (hz : z = pw T - 1) :
    Calls Tryd.prog 26 #[.int .i64 n] w fun e w' => e = .returned (.int .u64 (z : Int)) ∧ w = w' := hz ▸ bfirst_any n T w hT
theorem low_lt (x T : Nat) (hx : x < 18446744073709551616) : x &&& (pw T - 1) < 18446744073709551616 := Nat.lt_of_le_of_lt Nat.and_le_left hx
theorem low_mem {x T k : Nat} (h : hasBit (x &&& (pw T - 1)) k = true) : k < T := by
  rw [low_test] at h
  simp only [Bool.and_eq_true, decide_eq_true_eq] at h
  exact h.2
theorem keepB_set {B B' : Nat} (h : B ≠ B') (W : World) (u : Value) : KeepB B W (W.setCell ⟨B', 0, none⟩ u).drew :=
  fun _ hv => (World.cell?_of_block (Below.heap_setCell W ⟨B', 0, none⟩ u B (fun e => h (by rw [e])))).trans hv
def vals {x : Nat} (l : List (Mem x)) : List Nat := l.map fun m => m.1
theorem any_step {l : List Nat} {x : Nat} (pre : List (Mem x)) (m : Mem x) {c : Nat} (hl : ∀ c ∈ l, c < 18446744073709551616) (hc : l[m.1]? = some c) :
    bits .or .u64 ((anyN l (vals pre) : Nat) : Int) (c : Int) = ((anyN l (vals (pre ++ [m])) : Nat) : Int) := by
  rw [u64_or_nat _ _ (anyN_lt hl _) (hl c (List.mem_of_getElem? hc))]
  have : vals (pre ++ [m]) = vals pre ++ [m.1] := by simp [vals]
  rw [this, anyN_snoc, List.getD_eq_getElem?_getD, hc]; rfl
set_option maxRecDepth 100000 in
set_option maxHeartbeats 2000000 in
theorem any_any (a : Option Addr) (n cap x T : Nat) (l : List Nat) (w : World) (hn : l.length = n) (hm : n ≤ 1000) (hT : T = min n 64) (hl : NatsAt .u64 18446744073709551616 w a l) (hx : x < 18446744073709551616) :
    Calls Tryd.prog 28 #[.slice a n cap, .int .u64 x] w fun e w' => e = .returned (.int .u64 ((anyN l (mems (x &&& (pw T - 1)) 64) : Nat) : Int)) ∧ Below w.heap.size w w' := by
  have hT2 : (T : Int) = max 0 (min (n : Int) 64) := by omega
  have hTn : T ≤ n := by omega
  have HT := Lib.hid hT
  have HN := Lib.hid hn
  have hpT : pw T - 1 < 18446744073709551616 := by
    rcases Nat.lt_or_ge T 64 with h | h
    · have := pw_lt64 (n := T) (by omega); omega
    · have : T = 64 := by omega
      rw [this, pw_eq]; decide
  have hand : bits .and .u64 (x : Int) ((pw T - 1 : Nat) : Int) = ((x &&& (pw T - 1) : Nat) : Int) := u64_and_nat _ _ hx hpT
  have hylt := low_lt x T hx
  have hmem : ∀ k, hasBit (x &&& (pw T - 1)) k = true → k < T := fun k h => low_mem h
  obtain ⟨y, hy⟩ : ∃ y, y = x &&& (pw T - 1) := ⟨_, rfl⟩
  obtain ⟨z, hz⟩ : ∃ z, z = pw T - 1 := ⟨_, rfl⟩
  rw [← hy] at hand hylt hmem ⊢
  rw [← hz] at hand
  clear hy hT hn hpT hx
  refine (callsIn_wide (n := 6)).1 ?_
  refine callsIn_of_wp_marks Tryd.func28 rfl trivial ?_ rfl
  simp only [Tryd.ntmps28, List.size_toArray, List.length_cons, List.length_nil, Nat.reduceAdd, Nat.reduceSub, Array.replicate_succ, Array.replicate_zero, List.push_toArray, List.append_toArray, List.nil_append, List.cons_append]
  have HZ := Lib.hid hz
  clear hz
  gi_wp2
  refine ⟨trivial, ?_⟩
  refine (callsIn_wide.2 (bfirst_is n T z _ hT2 HZ.out)).mono ?_
  rintro e w' ⟨rfl, rfl⟩
  clear hT2
  gi_wp2
  refine ⟨trivial, ?_⟩
  refine (callsIn_wide.2 (members_any (y : Int) _)).mono ?_
  rintro e w' ⟨rfl, rfl⟩
  clear hand
  gi_wp2
  have bL : Boxed (((w.alloc (.cells #[.slice a n cap] 35)).alloc (.cells #[.int .u64 0] 22)).alloc (.cells #[.int .u64 (y : Int)] 22)) w.heap.size 35 (.slice a n cap) := ((Boxed.new w _ _).alloc _).alloc _
  have bO : Boxed (((w.alloc (.cells #[.slice a n cap] 35)).alloc (.cells #[.int .u64 0] 22)).alloc (.cells #[.int .u64 (y : Int)] 22)) (w.heap.size + 1) 22 (.int .u64 0) := by
    have := (Boxed.new (w.alloc (.cells #[.slice a n cap] 35)) 22 (.int .u64 0)).alloc (.cells #[.int .u64 (y : Int)] 22)
    rwa [World.size_alloc] at this
  have hcM : (((w.alloc (.cells #[.slice a n cap] 35)).alloc (.cells #[.int .u64 0] 22)).alloc (.cells #[.int .u64 (y : Int)] 22)).cell? ⟨w.heap.size + 1 + 1, 0, none⟩ = some (.int .u64 (y : Int)) := by
    have := (Boxed.new ((w.alloc (.cells #[.slice a n cap] 35)).alloc (.cells #[.int .u64 0] 22)) 22 (.int .u64 (y : Int))).cell
    rwa [World.size_alloc, World.size_alloc] at this
  have hb3 : Below w.heap.size w (((w.alloc (.cells #[.slice a n cap] 35)).alloc (.cells #[.int .u64 0] 22)).alloc (.cells #[.int .u64 (y : Int)] 22)) := (((Below.refl _ w).alloc (Nat.le_refl _) _).alloc (by simp) _).alloc (by simp; omega) _
  obtain ⟨W3, hW3⟩ : ∃ W3, W3 = (((w.alloc (.cells #[.slice a n cap] 35)).alloc (.cells #[.int .u64 0] 22)).alloc (.cells #[.int .u64 (y : Int)] 22)) := ⟨_, rfl⟩
  have hs3 : W3.heap.size = w.heap.size + 3 := by rw [hW3]; simp
  rw [← hW3] at bL bO hcM hb3 ⊢
  clear hW3
  refine wpIn_rangeFunc_ownG rfl (by omega) (gf := 37) (lb := #[.pointer (some ⟨w.heap.size + 1 + 1, 0, none⟩)]) rfl trivial (enters_of Tryd.func37 (by kernel_rfl) rfl)
    (members_stops 5 (by omega) (w.heap.size + 1 + 1) y _ hylt (by omega) hcM) keepB_t (keepB_b (by omega)) (Below.refl _ _) (fun _ => rfl)
    (fun (pre : List (Mem y)) W => (Boxed W (w.heap.size + 1) 22 (.int .u64 ((anyN l (vals pre) : Nat) : Int)) ∧ Boxed W w.heap.size 35 (.slice a n cap)) ∧ Below w.heap.size w W)
    (fun _ _ _ => False)
    (OwnFrom.and (OwnFrom.and (Own.from (boxed_own _ _ (fun (pre : List (Mem y)) => Value.int .u64 ((anyN l (vals pre) : Nat) : Int))) _) (Own.from (boxed_own _ _ (fun (_ : List (Mem y)) => Value.slice a n cap)) _)) (ownFrom_below (Nat.le_refl _) (by omega)))
    (fun _ _ _ _ _ hs _ _ => hs)
    ⟨⟨by unfold anyN; exact bO, bL⟩, hb3⟩
    (fun m => { tmps := #[.slice a n cap, .int .u64 (x : Int), .pointer (some ⟨w.heap.size, 0, none⟩), undef, .int .u64 0, .pointer (some ⟨w.heap.size + 1, 0, none⟩), .int .i64 (m.1 : Int), .int .u64 (x : Int), .slice a n cap, .int .i64 (n : Int), .int .u64 (z : Int), .int .u64 (y : Int), .func (.func 37) #[] #[.pointer (some ⟨w.heap.size + 1 + 1, 0, none⟩)], .int .i64 (m.1 : Int), undef, undef, undef, undef, undef, undef, undef], defers := [] }) ?assign ?body ?done ?stop
  case assign =>
    intro l m W K hK
    gi_wp2
    exact hK
  case body =>
    rintro l0 pre ⟨k, hk, hb⟩ W ⟨⟨bO1, bL1⟩, hB⟩ _
    have hkT := hmem k hb
    obtain ⟨b, off, c, rfl, hc, hc1, hz⟩ := (hl.below hB).at (i := k) (by rw [HN.out]; omega)
    have HV := Lib.hid (any_step pre (⟨k, hk, hb⟩ : Mem y) hl.1 hc)
    have e0 := bO1.cell
    have e1 := bO1.frozen
    have e2 := bL1.cell
    have d1 : (k : Int) < n := by omega
    have d2 : (0 : Int) ≤ k := by omega
    dsimp only
    clear hc hmem
    have hmx : Tryd.prog.follows .mixedOrders = true := by kernel_rfl
    gi_wp2
    gi_region_with_o fail
    all_goals gi_wp2
    all_goals
      exact ⟨((KeepsOthers.setCell _ _ _).trans (KeepsOthers.drew _)).from _, keepB_set (by omega) _ _, ⟨⟨by rw [← HV.out]; exact bO1.set _, bL1.other (by omega) _⟩, (hB.setCell (p := ⟨w.heap.size + 1, 0, none⟩) (by simp) _).drew⟩⟩
  case done =>
    rintro D ys W hD rfl ⟨⟨bO1, bL1⟩, hB⟩ hK
    have hc := bO1.cell
    gi_wp2
    refine ⟨by simp, .inl ⟨_, _, rfl, run_takeDeferred hK, ?_⟩⟩
    refine ⟨_, results_tmp rfl _ _ _, ?_, hB.trans (belowK_b (w := w) (Nat.le_refl _) W D _ _ (by omega) hK rfl rfl)⟩
    rw [vals, memL_val y 64 (by omega)]; rfl
  case stop =>
    rintro D c pre W _ _ h _
    exact h.elim
end Go.Proofs.YtkhkaofpmcnllaaDoor
