/-
  The law InputsMerge.
-/
import Derived.Test.YtgepflelaemmnaaInArgs
import Derived.Test.YtgepflelaemmnaaCalm
import Derived.Test.YtgepflelaemmnaaInRefMerge
import Derived.Deep.RegionHeld3
import Derived.Test.YtgepflelaemmnaaInLawSame
import Derived.Test.YtgepflelaemmnaaObj
namespace Go.Proofs.Ytgepflelaemmnaa
open Go.RowKit

/-- the numbers of n commands, in a block that may be written -/
def NumsMine (w : World) (g n : Nat) : Prop := ∀ i, i < n → (∃ m : Int, w.cell? ⟨g, i * 2 + 1, none⟩ = some (.int .i64 m)) ∧ w.frozen? ⟨g, i * 2 + 1, none⟩ = false
theorem own_nums {w : World} {base : Nat} {e : TypeId} {v : Value} {n : Nat} {l : List (Nat × Int)} (hn : l.length = n) (hpos : 0 < n) (h : w.ownsRow base e 2 v n (cmdCells l)) :
    ∃ g cap, v = .slice (some ⟨g, 0, none⟩) n cap ∧ base ≤ g ∧ g < w.heap.size ∧ NumsMine w g n := by
  rcases h.2 with ⟨_, h0⟩ | ⟨g, cap, cur, rfl, hg, hheap, hncap, hcm, hsz, htake⟩
  · omega
  · refine ⟨g, cap, rfl, hg, (Array.getElem?_eq_some_iff.1 hheap).1, fun i hi => ?_⟩
    obtain ⟨c, hc⟩ : ∃ c, l[i]? = some c := ⟨l[i]'(by omega), List.getElem?_eq_getElem (by omega)⟩
    obtain ⟨g1, g2⟩ := cmdCells_get l i c hc
    have hcur : ∀ j, j < n * 2 → cur[j]? = (cmdCells l)[j]? := fun j hj => by rw [← htake, List.getElem?_take, if_pos hj, Array.getElem?_toList]
    have e2 := hcur (i * 2 + 1) (by omega)
    rw [g2] at e2
    refine ⟨⟨c.2, ?_⟩, ?_⟩
    · simp only [World.cell?, hheap]; simpa using e2
    · simp [World.frozen?, hheap]

theorem NumsMine.set {w : World} {g n : Nat} (h : NumsMine w g n) (j : Nat) (m : Int) : NumsMine (w.setCell ⟨g, j * 2 + 1, none⟩ (.int .i64 m)) g n := by
  intro i hi
  obtain ⟨⟨m', hm⟩, hf⟩ := h i hi
  refine ⟨?_, by rw [World.frozen?_setCell]; exact hf⟩
  by_cases hij : i = j
  · subst hij
    exact ⟨m, World.cell?_setCell_same _ _ _ hm⟩
  · exact ⟨m', by rw [World.cell?_setCell_other _ _ _ _ (fun e => hij (by have := congrArg Addr.off e; dsimp only at this; omega))]; exact hm⟩
theorem NumsMine.below {w w' : World} {g n : Nat} (hb : Below w.heap.size w w') (h : NumsMine w g n) : NumsMine w' g n := by
  intro i hi
  obtain ⟨⟨m', hm⟩, hf⟩ := h i hi
  have hlt : g < w.heap.size := World.block_lt_of_cell? _ _ hm
  exact ⟨⟨m', cell_later hb hm⟩, by rw [hb.frozen (p := ⟨g, i * 2 + 1, none⟩) hlt]; exact hf⟩
theorem both_bound {la lb : List (Nat × Int)} (h : ∀ c ∈ la, c.1 < 256 ∧ -9223372036854775808 ≤ c.2 ∧ c.2 ≤ 9223372036854775807) : ∀ c ∈ both la lb, c.1 < 256 ∧ -9223372036854775808 ≤ c.2 ∧ c.2 ≤ 9223372036854775807 := by
  unfold both; split
  · exact h
  · simp
theorem both_length (la lb : List (Nat × Int)) : (both la lb).length ≤ la.length := by
  unfold both; split <;> simp
theorem CmdsAt.only {w w' : World} {a : Option Addr} {l : List (Nat × Int)} {g : Nat} (hb : Only g w w') (hg : ∀ x, a = some x → x.block ≠ g) (h : CmdsAt w a l) : CmdsAt w' a l := by
  refine ⟨h.1, h.2.imp id ?_⟩
  rintro ⟨b, off, rfl, hc⟩
  have keep : ∀ o v, w.cell? ⟨b, o, none⟩ = some v → w'.cell? ⟨b, o, none⟩ = some v := fun o v hv => by
    rw [World.cell?_of_block (w := w) (hb.block b (World.block_lt_of_cell? _ _ hv) (hg _ rfl))]; exact hv
  exact ⟨b, off, rfl, fun i c hi => ⟨keep _ _ (hc i c hi).1, keep _ _ (hc i c hi).2⟩⟩
/-- the block of c's commands, or a number that no block has -/
theorem flip_block {w : World} {base n c : Nat} {e : TypeId} {a : Option Addr} {l : List (Nat × Int)} (hn : l.length = n) (h : w.ownsRow base e 2 (.slice a n c) n (cmdCells l)) (W : World) (hs : w.heap.size ≤ W.heap.size) :
    ∃ g, base ≤ g ∧ (g < w.heap.size ∨ W.heap.size ≤ g) ∧ NumsMine w g n ∧ (0 < n → a = some ⟨g, 0, none⟩) := by
  rcases Nat.eq_zero_or_pos n with h0 | h0
  · exact ⟨base + W.heap.size, by omega, .inr (by omega), fun i hi => by omega, fun h => by omega⟩
  · obtain ⟨g, cap, hv, h1, h2, h3⟩ := own_nums hn h0 h
    cases hv
    exact ⟨g, h1, .inl h2, h3, fun _ => rfl⟩

set_option maxHeartbeats 1000000 in
theorem walk_InputsMerge (v0 v1 : Array Value) (w : World) (_s0 : v0.size = Try.prog.cellsOf 32) (w0 : Rd Try.prog w 32 v0.toList) (_s1 : v1.size = Try.prog.cellsOf 32) (w1 : Rd Try.prog w 32 v1.toList) :
    Calls Try.prog 4 #[.agg v0, .agg v1] w fun e w' => e = .returned (.bool true) ∧ Below w.heap.size w w' := by
  obtain ⟨o1, n1, r1, a, n, ca, la, rfl, ho1, hn1, hr1, hla, hlm, hca, hcaz⟩ := input_of w0
  obtain ⟨o2, n2, r2, b, m, cb, lb, rfl, ho2, hn2, hr2, hlb, hlbm, hcb, hcbz⟩ := input_of w1
  have hm1 : (n : Int) ≤ 9223372036854775807 := by unfold maxLen at hlm; omega
  have hm2 : (m : Int) ≤ 9223372036854775807 := by unfold maxLen at hlbm; omega
  clear w0 w1 _s0 _s1
  by_cases h1 : 100 < n
  · go_enter Try.func4, Try.ntmps4
    go_wp2_with fail
    refine (works_any _).mono ?_
    rintro e w3 ⟨rfl, hb3⟩
    go_wp2_with fail
    go_ret
    exact ⟨rfl, below_on (below2' _ _ _) hb3⟩
  by_cases h2 : 100 < m
  · go_enter Try.func4, Try.ntmps4
    go_wp2_with fail
    refine (works_any _).mono ?_
    rintro e w3 ⟨rfl, hb3⟩
    go_wp2_with fail
    go_ret
    exact ⟨rfl, below_on (below2' _ _ _) hb3⟩
  have ho12 : o1 ||| o2 < 18446744073709551616 := Nat.or_lt_two_pow (n := 64) ho1 ho2
  have HLA := Lib.hid hla
  have HLB := Lib.hid hlb
  clear hla hlb
  go_enter Try.func4, Try.ntmps4
  go_wp2_with fail
  have b0 := below2' w (Obj.cells #[Value.int IntKind.u64 ↑o1, Value.int IntKind.u32 ↑n1, Value.int IntKind.u32 ↑r1, Value.slice a n ca] 32) (Obj.cells #[Value.int IntKind.u64 ↑o2, Value.int IntKind.u32 ↑n2, Value.int IntKind.u32 ↑r2, Value.slice b m cb] 32)
  obtain ⟨kA, kB⟩ := alloc2' w (Obj.cells #[Value.int IntKind.u64 ↑o1, Value.int IntKind.u32 ↑n1, Value.int IntKind.u32 ↑r1, Value.slice a n ca] 32) (Obj.cells #[Value.int IntKind.u64 ↑o2, Value.int IntKind.u32 ↑n2, Value.int IntKind.u32 ↑r2, Value.slice b m cb] 32)
  obtain ⟨W, hW⟩ : ∃ W, W = (w.alloc (Obj.cells #[Value.int IntKind.u64 ↑o1, Value.int IntKind.u32 ↑n1, Value.int IntKind.u32 ↑r1, Value.slice a n ca] 32)).alloc (Obj.cells #[Value.int IntKind.u64 ↑o2, Value.int IntKind.u32 ↑n2, Value.int IntKind.u32 ↑r2, Value.slice b m cb] 32) := ⟨_, rfl⟩
  rw [← hW] at b0 kA kB ⊢
  clear hW
  refine (merge_any o1 n1 r1 o2 n2 r2 a b la lb n m ca cb _ HLA.out HLB.out (by omega) (by omega) (hca.below b0) (hcb.below b0) hcaz ho1 ho2 hn1 hn2 hr1 hr2).mono ?_
  rintro e w1 ⟨a1, c1, rfl, hc1, hown1, hb1⟩
  obtain ⟨L, hL⟩ : ∃ L, L = both la lb := ⟨_, rfl⟩
  have hLb : ∀ c ∈ L, c.1 < 256 ∧ -9223372036854775808 ≤ c.2 ∧ c.2 ≤ 9223372036854775807 := hL ▸ both_bound hca.1
  obtain ⟨N, hN⟩ : ∃ N, L.length = N := ⟨_, rfl⟩
  have hN1 : N ≤ 100 := by have := both_length la lb; rw [← hL, hN] at this; have := HLA.out; omega
  rw [← hL, hN] at hown1
  obtain ⟨O, hO⟩ : ∃ O, O = o1 ||| o2 := ⟨_, rfl⟩
  obtain ⟨A, hA⟩ : ∃ A, A = n1 &&& n2 := ⟨_, rfl⟩
  obtain ⟨R, hR⟩ : ∃ R, R = r1 &&& r2 := ⟨_, rfl⟩
  rw [← hL, hN, ← hO, ← hA, ← hR]
  have HL := Lib.hid hL
  have HN := Lib.hid hN
  have HO := Lib.hid hO
  have HA := Lib.hid hA
  have HR := Lib.hid hR
  clear hL hN hO hA hR
  have kA1 := blk_keep hb1 kA
  have kB1 := blk_keep hb1 kB
  have eA0 := blk_cell kA1 0 _ rfl
  have eA1 := blk_cell kA1 1 _ rfl
  have eA2 := blk_cell kA1 2 _ rfl
  have eA3 := blk_cell kA1 3 _ rfl
  have eB0 := blk_cell kB1 0 _ rfl
  have eB1 := blk_cell kB1 1 _ rfl
  have eB2 := blk_cell kB1 2 _ rfl
  have eB3 := blk_cell kB1 3 _ rfl
  have xA := blk_lt kA1
  have xB := blk_lt kB1
  go_wp2_with fail
  have b1 := below_on b0 hb1
  have b1' := below_on b1 (below1 w1 (Obj.cells #[Value.int IntKind.u64 ↑O, Value.int IntKind.u32 ↑A, Value.int IntKind.u32 ↑R, Value.slice a1 N c1] 32))
  refine (refmerge_any o1 n1 r1 o2 n2 r2 a b la lb n m ca cb _ HLA.out HLB.out (by omega) (by omega) (hca.below b1') (hcb.below b1') hcaz ho1 ho2 hn1 hn2 hr1 hr2).mono ?_
  rintro e w2 ⟨a2, c2, rfl, hc2, hown2, hb2⟩
  rw [← HL.out, HN.out] at hown2
  rw [← HL.out, HN.out, ← HO.out, ← HA.out, ← HR.out]
  have kC2 := alloc1 _ _ hb2
  have b2 := below_on b1' hb2
  have kA2 := blk_keep (below_on (below1 _ _) hb2) kA1
  have kB2 := blk_keep (below_on (below1 _ _) hb2) kB1
  have hown1' := own_below (below_on (below1 _ _) hb2) hown1
  have eC0 := blk_cell kC2 0 _ rfl
  have eC1 := blk_cell kC2 1 _ rfl
  have eC2 := blk_cell kC2 2 _ rfl
  have eC3 := blk_cell kC2 3 _ rfl
  have xC := blk_lt kC2
  clear eA0 eA1 eA2 eA3 eB0 eB1 eB2 eB3
  go_wp2_with fail
  have b2' := below_on b2 (below1 w2 (Obj.cells #[Value.int IntKind.u64 ↑O, Value.int IntKind.u32 ↑A, Value.int IntKind.u32 ↑R, Value.slice a2 N c2] 32))
  have hC1 : CmdsAt w1 a1 L := by obtain ⟨a', c', hv, h, _⟩ := own_cmds hLb HN.out hown1; cases hv; exact h
  have hC2 : CmdsAt w2 a2 L := by obtain ⟨a', c', hv, h, _⟩ := own_cmds hLb HN.out hown2; cases hv; exact h
  have hO2 : ∀ x, a2 = some x → w1.heap.size < x.block := by
    rcases hown2.2 with ⟨hv, _⟩ | ⟨g', cap', cur', hv, hg', _⟩
    · cases hv; intro x hx; cases hx
    · cases hv; intro x hx; cases hx; simp at hg'; dsimp only; omega
  refine (refsame_is true O A R O A R a1 a2 L L N N c1 c2 _ (by simp) HN.out HN.out (by omega) (by omega) (hC1.below (below_on (below_on (below1 _ _) hb2) (below1 _ _))) (hC2.below (below1 _ _))).mono ?_
  rintro e w4 ⟨rfl, hb4⟩
  have kD4 := alloc1 _ _ hb4
  have hb24 := below_on (below1 _ _) hb4
  have b4 := below_on b2 hb24
  have kA4 := blk_keep hb24 kA2
  have kB4 := blk_keep hb24 kB2
  have kC4 := blk_keep hb24 kC2
  have hD4 := hC2.below hb24
  obtain ⟨g, hg1, hg2, hg3, hg4⟩ := flip_block HN.out hown1 w4 (below_on (below_on (below1 _ _) hb2) hb24).size
  have hg5 := hg3.below (below_on (below_on (below1 _ _) hb2) hb24)
  have zW : w.heap.size + 1 < w.heap.size + 2 := by omega
  have zB := blk_lt kB
  have zC4 := blk_lt kC4
  have zD4 := blk_lt kD4
  have zC2 := blk_lt kC2
  have nA : w.heap.size ≠ g := by omega
  have nB : w.heap.size + 1 ≠ g := by omega
  have nC : w1.heap.size ≠ g := by omega
  have nD : w2.heap.size ≠ g := by omega
  have hDo : ∀ wr, Only g w4 wr → CmdsAt wr a2 L := by
    intro wr ho
    rcases L with _ | ⟨c0, L⟩
    · exact cmds_nil _ _
    · refine hD4.only ho (fun x hx => ?_)
      have h1 := hO2 x hx
      rcases hD4.2 with h | ⟨b', off', hab, hcells⟩
      · cases h
      · rw [hab] at hx; cases hx
        have h2 := World.block_lt_of_cell? _ _ (hcells 0 c0 rfl).1
        dsimp only at h1 h2
        show b' ≠ g
        omega
  clear eC0 eC1 eC2 eC3 xA xB xC hown1 hown1' hown2 hC1 hC2 hO2 hg3
  have eC3 := blk_cell kC4 3 _ rfl
  go_wp2_with fail
  have HDo := Lib.hid hDo
  clear hDo hD4 eC3
  go_loopw [7] (fun i wr => ∃ k : Nat, k ≤ N ∧ i = .int .i64 k ∧ Only g w4 wr ∧ NumsMine wr g N) (fun i _ => N - (intOf i).toNat)
  case atStart => exact ⟨0, by omega, rfl, Only.refl _ _, hg5⟩
  case round =>
    obtain ⟨k, hk, rfl, hon, hnm⟩ := hrel
    have kC := hon.keep nC kC4
    have eC3 := blk_cell kC 3 _ rfl
    by_cases hlt : k < N
    · obtain rfl := hg4 (by omega)
      obtain ⟨⟨m, hm⟩, hf⟩ := hnm k hlt
      have d1 : (0 : Int) ≤ k := by omega
      have d2 : (k : Int) < N := by omega
      go_wp2_with fail
      go_region
      all_goals
        go_wp2_with fail
        go_roundw
        case rel => exact ⟨k + 1, by omega, by go_num, hon.drew.setCell rfl _, NumsMine.set (w := wr.drew) hnm k _⟩
        case measure => simp [intOf]; omega
    · obtain rfl : k = N := by omega
      have kA5 := hon.keep nA kA4
      have kB5 := hon.keep nB kB4
      have kD5 := hon.keep nD kD4
      have hD5 := HDo.out wr hon
      have b5 : Below w.heap.size w wr := Only.below b4 (by have := b0.size; omega) b4.size hon
      go_wp2_with fail
      clear hon hnm
      have hbd : Below wr.heap.size wr wr.drew := (Below.refl _ _).drew
      have M1 : Hid (∀ w', Below wr.heap.size wr w' → Calls Try.prog 12 #[.agg #[.int .u64 (o1 : Int), .int .u32 (n1 : Int), .int .u32 (r1 : Int), .slice a n ca], .agg #[.int .u64 (o2 : Int), .int .u32 (n2 : Int), .int .u32 (r2 : Int), .slice b m cb]] w'
          fun e w'' => ∃ a' c', e = .returned (.agg #[.int .u64 (O : Int), .int .u32 (A : Int), .int .u32 (R : Int), .slice a' k c']) ∧ CmdsAt w'' a' L ∧ Below wr.heap.size wr w'') := Lib.hid (by
        intro w' hw'
        refine (merge_any o1 n1 r1 o2 n2 r2 a b la lb n m ca cb w' HLA.out HLB.out (by omega) (by omega) (hca.below (below_on b5 hw')) (hcb.below (below_on b5 hw')) hcaz ho1 ho2 hn1 hn2 hr1 hr2).mono ?_
        rintro e w6 ⟨a6, c6, rfl, hc6, hown6, hb6⟩
        rw [← HL.out, HN.out] at hown6
        rw [← HL.out, HN.out, ← HO.out, ← HA.out, ← HR.out]
        obtain ⟨a', c', hv, h, _⟩ := own_cmds hLb HN.out hown6
        cases hv
        exact ⟨a6, c6, rfl, h, below_on hw' hb6⟩)
      have M2 : Hid (∀ w' a' c', Below wr.heap.size wr w' → CmdsAt w' a' L → Calls Try.prog 14 #[.agg #[.int .u64 (O : Int), .int .u32 (A : Int), .int .u32 (R : Int), .slice a' k c'], .agg #[.int .u64 (O : Int), .int .u32 (A : Int), .int .u32 (R : Int), .slice a2 k c2]] w'
          fun e w'' => e = .returned (.bool true) ∧ Below wr.heap.size wr w'') := Lib.hid (by
        intro w' a' c' hw' ha'
        refine (refsame_is true O A R O A R a' a2 L L k k c' c2 w' (by simp) HN.out HN.out (by omega) (by omega) ha' (hD5.below hw')).mono ?_
        rintro e w6 ⟨rfl, hb6⟩
        exact ⟨rfl, below_on hw' hb6⟩)
      have HS : Hid (∀ w', Below wr.heap.size wr w' →
          (w'.cell? ⟨w.heap.size, 0, none⟩ = some (.int .u64 (o1 : Int)) ∧ w'.cell? ⟨w.heap.size, 1, none⟩ = some (.int .u32 (n1 : Int)) ∧ w'.cell? ⟨w.heap.size, 2, none⟩ = some (.int .u32 (r1 : Int)) ∧ w'.cell? ⟨w.heap.size, 3, none⟩ = some (.slice a n ca) ∧
           w'.cell? ⟨w.heap.size + 1, 0, none⟩ = some (.int .u64 (o2 : Int)) ∧ w'.cell? ⟨w.heap.size + 1, 1, none⟩ = some (.int .u32 (n2 : Int)) ∧ w'.cell? ⟨w.heap.size + 1, 2, none⟩ = some (.int .u32 (r2 : Int)) ∧ w'.cell? ⟨w.heap.size + 1, 3, none⟩ = some (.slice b m cb) ∧
           w'.cell? ⟨w2.heap.size, 0, none⟩ = some (.int .u64 (O : Int)) ∧ w'.cell? ⟨w2.heap.size, 1, none⟩ = some (.int .u32 (A : Int)) ∧ w'.cell? ⟨w2.heap.size, 2, none⟩ = some (.int .u32 (R : Int)) ∧ w'.cell? ⟨w2.heap.size, 3, none⟩ = some (.slice a2 k c2))) := Lib.hid (fun w' hw' =>
        ⟨blk_cell (blk_keep hw' kA5) 0 _ rfl, blk_cell (blk_keep hw' kA5) 1 _ rfl, blk_cell (blk_keep hw' kA5) 2 _ rfl, blk_cell (blk_keep hw' kA5) 3 _ rfl,
         blk_cell (blk_keep hw' kB5) 0 _ rfl, blk_cell (blk_keep hw' kB5) 1 _ rfl, blk_cell (blk_keep hw' kB5) 2 _ rfl, blk_cell (blk_keep hw' kB5) 3 _ rfl,
         blk_cell (blk_keep hw' kD5) 0 _ rfl, blk_cell (blk_keep hw' kD5) 1 _ rfl, blk_cell (blk_keep hw' kD5) 2 _ rfl, blk_cell (blk_keep hw' kD5) 3 _ rfl⟩)
      clear kA5 kB5 kD5 hD5 kA4 kB4 kC4 kD4 kC eC3 kA kB kA1 kB1 kA2 kB2 kC2 hg5 hb1 hb2 hb4 hb24 b0 b1 b1' b2 b2' b4 hca hcb hg4
      go_region_held3 (fun w' => (w'.cell? ⟨w.heap.size, 0, none⟩ = some (.int .u64 (o1 : Int)) ∧ w'.cell? ⟨w.heap.size, 1, none⟩ = some (.int .u32 (n1 : Int)) ∧ w'.cell? ⟨w.heap.size, 2, none⟩ = some (.int .u32 (r1 : Int)) ∧ w'.cell? ⟨w.heap.size, 3, none⟩ = some (.slice a n ca) ∧
           w'.cell? ⟨w.heap.size + 1, 0, none⟩ = some (.int .u64 (o2 : Int)) ∧ w'.cell? ⟨w.heap.size + 1, 1, none⟩ = some (.int .u32 (n2 : Int)) ∧ w'.cell? ⟨w.heap.size + 1, 2, none⟩ = some (.int .u32 (r2 : Int)) ∧ w'.cell? ⟨w.heap.size + 1, 3, none⟩ = some (.slice b m cb) ∧
           w'.cell? ⟨w2.heap.size, 0, none⟩ = some (.int .u64 (O : Int)) ∧ w'.cell? ⟨w2.heap.size, 1, none⟩ = some (.int .u32 (A : Int)) ∧ w'.cell? ⟨w2.heap.size, 2, none⟩ = some (.int .u32 (R : Int)) ∧ w'.cell? ⟨w2.heap.size, 3, none⟩ = some (.slice a2 k c2)))
        (exact HS.out _ (by assumption))
        (first
          | ((with_reducible refine (M1.out _ (by assumption)).mono ?_); rintro e w6 ⟨a6, c6, rfl, hC6, hb6⟩)
          | ((with_reducible refine (M2.out _ _ _ (by assumption) (by assumption)).mono ?_); rintro e w6 ⟨rfl, hb6⟩)
          | ((with_reducible refine (works_any _).mono ?_); rintro e w7 ⟨rfl, hb7⟩; have hb6 : Below wr.heap.size wr w7 := below_on (by assumption) hb7))
      all_goals
        go_wp2_with fail
        go_ret
        exact ⟨rfl, below_on b5 (by assumption)⟩
end Go.Proofs.Ytgepflelaemmnaa
