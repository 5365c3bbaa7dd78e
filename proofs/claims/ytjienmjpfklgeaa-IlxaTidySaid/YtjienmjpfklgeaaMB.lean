/-
  Merged: ToG, ToH, ToK, ToL.
-/
import Derived.Test.YtjienmjpfklgeaaMA
import Derived.Deep.RegionHeld3
import Derived.Lib.AppendZerosOnto
import Derived.Lib.SliceRun
import Derived.Lib.Walk
namespace Go.Proofs.Ytjienmjpfklgeaa
open Go.RowKit
set_option maxRecDepth 100000

theorem wpAnyH_re {P : Program} {md : Region.Mode} {ops : Array Oper} {Q : Exit → Act → World → Prop} {S : World → Prop} {w : World} {F : Nat} {l : Array Bool} {a : Act} (F' : Nat) (l' : Array Bool) (hF : F = F') (hl : l = l') (h : wpAnyH P md ops Q S F' l' a w) : wpAnyH P md ops Q S F l a w := by rw [hF, hl]; exact h
theorem pts16 (P : Nat) (l : List (Int × Bool)) : inS P ((l.map (·.1)).take 17) = mayB P l := by
  unfold inS mayB
  by_cases h : l.length ≤ 16
  · rw [List.take_of_length_le (by rw [List.length_map]; omega), List.length_map]
  · rw [decide_eq_false h, decide_eq_false (by rw [List.length_take, List.length_map]; omega)]; rfl
def rrtB (G S P : Nat) (r : Rt) : Bool := decide (0 ≤ r.sg ∧ r.sg < (G : Int)) && (inS S r.pa.l && (inS S r.ov.l && (mayB P r.po.l && mayB P r.fl.l)))
theorem rrtB_eq (G S P : Nat) (r : Rt) : rrtB G S P r = (decide (0 ≤ r.sg ∧ r.sg < (G : Int)) && rtB S P r) := by
  unfold rrtB rtB inS
  cases decide (0 ≤ r.sg ∧ r.sg < (G : Int)) <;> cases decide (r.pa.l.length ≤ 16) <;> cases decide (r.ov.l.length ≤ 16) <;> cases belowB S r.pa.l <;> cases belowB S r.ov.l <;> simp
theorem all_rrt (G S P : Nat) (l : List Rt) : l.all (rrtB G S P) = (belowB G (l.map (·.sg)) && l.all (rtB S P)) := by
  induction l with
  | nil => rfl
  | cons r l ih =>
    have e : belowB G ((r :: l).map (·.sg)) = (decide (0 ≤ r.sg ∧ r.sg < (G : Int)) && belowB G (l.map (·.sg))) := by unfold belowB; rfl
    rw [List.all_cons, List.all_cons, ih, rrtB_eq, e]
    cases decide (0 ≤ r.sg ∧ r.sg < (G : Int)) <;> cases rtB S P r <;> cases belowB G (l.map (·.sg)) <;> simp
theorem may_eq (L : Lay) : mayS L = (L.small && (nmsFrom [] L.all && (belowB L.se.l.length (L.po.l.map (·.2)) && (belowB L.se.l.length (L.sg.l.map (·.2)) && L.rt.l.all (rrtB L.sg.l.length L.se.l.length L.po.l.length))))) := by
  unfold mayS ptsFrom rtsFrom
  rw [all_rrt]
  have h1 : nmsFrom [] L.all = (nmsFrom [] L.se.l && (nmsFrom L.n1 (L.po.l.map (·.1)) && (nmsFrom L.n2 (L.sg.l.map (·.1)) && nmsFrom L.n3 (L.rt.l.map (·.nm))))) := by
    unfold Lay.all
    rw [nms_append, List.nil_append]
    unfold Lay.n3
    rw [nms_append, List.nil_append]
    unfold Lay.n2
    rw [nms_append, List.nil_append]
    unfold Lay.n1
    rw [Bool.and_assoc, Bool.and_assoc]
  rw [h1]
  cases L.small <;> cases nmsFrom [] L.se.l <;> cases nmsFrom L.n1 (L.po.l.map (·.1)) <;> cases nmsFrom L.n2 (L.sg.l.map (·.1)) <;> cases nmsFrom L.n3 (L.rt.l.map (·.nm)) <;> cases belowB L.se.l.length (L.po.l.map (·.2)) <;> cases belowB L.se.l.length (L.sg.l.map (·.2)) <;> simp
theorem nms_all {l : List BA} (h : ∀ k s, l[k]? = some s → okNm (l.take k) s = true) : nmsFrom [] l = true := by
  have : ∀ k, k ≤ l.length → nmsFrom [] (l.take k) = true := by
    intro k
    induction k with
    | zero => intro _; rfl
    | succ k ih =>
      intro hk
      have hg : l[k]? = some (l[k]'(by omega)) := List.getElem?_eq_getElem _
      rw [nms_take hg, ih (by omega), List.nil_append, h k _ hg]; rfl
  have h2 := this l.length (Nat.le_refl _)
  rwa [List.take_length] at h2
theorem nms_bad {l : List BA} {k : Nat} {s : BA} (hg : l[k]? = some s) (h : okNm (l.take k) s = false) : nmsFrom [] l = false := by
  have h1 : nmsFrom [] (l.take (k + 1)) = false := by rw [nms_take hg, List.nil_append, h, Bool.and_false]
  rw [← List.take_append_drop (k + 1) l, nms_append, h1]; rfl
theorem all_bad {G S P : Nat} {l : List Rt} {k : Nat} {r : Rt} (hg : l[k]? = some r) (h : rrtB G S P r = false) : l.all (rrtB G S P) = false := by
  rw [List.all_eq_false]; exact ⟨r, List.mem_of_getElem? hg, by rw [h]; decide⟩
theorem all_take {G S P : Nat} {l : List Rt} {k : Nat} {r : Rt} (hg : l[k]? = some r) (h : rrtB G S P r = true) (hs : (l.take k).all (rrtB G S P) = true) : (l.take (k + 1)).all (rrtB G S P) = true := by
  rw [List.take_add_one, hg, List.all_append, hs]; simp [h]
theorem rr_1 {G S P : Nat} {r : Rt} (h : decide (0 ≤ r.sg ∧ r.sg < (G : Int)) = false) : rrtB G S P r = false := by unfold rrtB; rw [h]; rfl
theorem rr_2 {G S P : Nat} {r : Rt} (h : inS S r.pa.l = false) : rrtB G S P r = false := by unfold rrtB; rw [h]; simp
theorem rr_3 {G S P : Nat} {r : Rt} (h : inS S r.ov.l = false) : rrtB G S P r = false := by unfold rrtB; rw [h]; simp
theorem rr_4 {G S P : Nat} {r : Rt} (h : mayB P r.po.l = false) : rrtB G S P r = false := by unfold rrtB; rw [h]; simp
theorem rr_5 {G S P : Nat} {r : Rt} (h : mayB P r.fl.l = false) : rrtB G S P r = false := by unfold rrtB; rw [h]; simp
theorem rr_6 {G S P : Nat} {r : Rt} (h1 : decide (0 ≤ r.sg ∧ r.sg < (G : Int)) = true) (h2 : inS S r.pa.l = true) (h3 : inS S r.ov.l = true) (h4 : mayB P r.po.l = true) (h5 : mayB P r.fl.l = true) : rrtB G S P r = true := by unfold rrtB; rw [h1, h2, h3, h4, h5]; rfl
theorem ok_of {pre : List BA} {s : BA} {b : Bool} (h1 : rightS s = true) (h2 : hasN pre s = b) : okNm pre s = !b := by unfold okNm; rw [h1, h2]; rfl
theorem may_no1 {L : Lay} (h : L.small = false) : mayS L = false := by rw [may_eq, h]; rfl
theorem may_no2 {L : Lay} (h : nmsFrom [] L.all = false) : mayS L = false := by rw [may_eq, h]; simp
theorem may_no3 {L : Lay} (h : belowB L.se.l.length (L.po.l.map (·.2)) = false) : mayS L = false := by rw [may_eq, h]; simp
theorem may_no4 {L : Lay} (h : belowB L.se.l.length (L.sg.l.map (·.2)) = false) : mayS L = false := by rw [may_eq, h]; simp
theorem may_no5 {L : Lay} (h : L.rt.l.all (rrtB L.sg.l.length L.se.l.length L.po.l.length) = false) : mayS L = false := by rw [may_eq, h]; simp
theorem may_yes {L : Lay} (h0 : L.small = true) (h1 : nmsFrom [] L.all = true) (h2 : belowB L.se.l.length (L.po.l.map (·.2)) = true) (h3 : belowB L.se.l.length (L.sg.l.map (·.2)) = true) (h4 : L.rt.l.all (rrtB L.sg.l.length L.se.l.length L.po.l.length) = true) : mayS L = true := by rw [may_eq, h0, h1, h2, h3, h4]; rfl
theorem rright_to (b : Bool) (s : BA) (w : World) (hs : s.size ≤ maxLen) (h : rightS s = b) : Calls Try.prog 73 #[.string s] w fun e w' => e = .returned (.bool b) ∧ Below w.heap.size w w' := h ▸ rright_is s w hs
theorem full_to (b : Bool) (L : Lay) (w : World) (h : (!L.small) = b) : Calls Try.prog 71 #[.agg #[L.se.v, L.po.v, L.sg.v, L.rt.v]] w fun e w' => e = .returned (.bool b) ∧ Below w.heap.size w w' := h ▸ full_is L w
/-- the layout's copy -/
structure LcAt (w0 w : World) (gl : Nat) (L : Lay) : Prop where
  lay : w.heap[gl]? = some (.cells #[L.se.v, L.po.v, L.sg.v, L.rt.v] 27)
  below : Below w0.heap.size w0 w
theorem LcAt.step {w0 w w' : World} {gl : Nat} {L : Lay} (h : LcAt w0 w gl L) (hb : Below w.heap.size w w') : LcAt w0 w' gl L := ⟨blk_keep hb h.lay, h.below.trans (hb.mono h.below.size)⟩
theorem name_ok {L : Lay} {w : World} (h : LayAt w L) : ∀ s ∈ L.all, s.size ≤ maxLen := by
  intro s hs
  unfold Lay.all Lay.n3 Lay.n2 at hs
  simp only [List.mem_append, List.mem_map] at hs
  rcases hs with ((hs | ⟨p, hp, rfl⟩) | ⟨p, hp, rfl⟩) | ⟨p, hp, rfl⟩
  · exact h.sn s hs
  · exact h.pn p hp
  · exact h.gn p hp
  · exact (h.rn p hp).nm
attribute [local irreducible] belowB mayB okNm nmsFrom ptsFrom rtsFrom rtB rrtB hasN rightS mayS inS fI Lay.small Lay.n1 Lay.n2 Lay.n3 Lay.all Sl.v
set_option maxRecDepth 100000 in
set_option maxHeartbeats 200000000 in
theorem rmay_lay (L : Lay) (w : World) (hL : LayAt w L) : Calls Try.prog 36 #[.agg #[L.se.v, L.po.v, L.sg.v, L.rt.v]] w fun e w' => e = .returned (.bool (mayS L)) ∧ Below w.heap.size w w' := by
  have HA := Lib.hid hL
  obtain ⟨n1, hn1⟩ : ∃ n, L.se.l.length = n := ⟨_, rfl⟩
  obtain ⟨n2, hn2⟩ : ∃ n, L.po.l.length = n := ⟨_, rfl⟩
  obtain ⟨n3, hn3⟩ : ∃ n, L.sg.l.length = n := ⟨_, rfl⟩
  obtain ⟨n4, hn4⟩ : ∃ n, L.rt.l.length = n := ⟨_, rfl⟩
  have v1 := slv hn1
  have v2 := slv hn2
  have v3 := slv hn3
  have v4 := slv hn4
  have R2 := Lib.hid hL.po.row
  have R3 := Lib.hid hL.sg.row
  have R4 := Lib.hid hL.rt.row
  obtain ⟨a1, ha1⟩ : ∃ a, L.se.a = a := ⟨_, rfl⟩
  obtain ⟨a2, ha2⟩ : ∃ a, L.po.a = a := ⟨_, rfl⟩
  obtain ⟨a3, ha3⟩ : ∃ a, L.sg.a = a := ⟨_, rfl⟩
  obtain ⟨a4, ha4⟩ : ∃ a, L.rt.a = a := ⟨_, rfl⟩
  obtain ⟨c1, hc1⟩ : ∃ c, L.se.c = c := ⟨_, rfl⟩
  obtain ⟨c2, hc2⟩ : ∃ c, L.po.c = c := ⟨_, rfl⟩
  obtain ⟨c3, hc3⟩ : ∃ c, L.sg.c = c := ⟨_, rfl⟩
  obtain ⟨c4, hc4⟩ : ∃ c, L.rt.c = c := ⟨_, rfl⟩
  rw [ha1, hc1] at v1
  rw [ha2, hc2] at v2
  rw [ha3, hc3] at v3
  rw [ha4, hc4] at v4
  rw [ha2] at R2
  rw [ha3] at R3
  rw [ha4] at R4
  have FU : Hid (∀ b, (!L.small) = b → ∀ W, Calls Try.prog 71 #[.agg #[.slice a1 n1 c1, .slice a2 n2 c2, .slice a3 n3 c3, .slice a4 n4 c4]] W fun e w' => e = .returned (.bool b) ∧ Below W.heap.size W w') := Lib.hid (fun b hb W => by have := full_to b L W hb; rwa [v1, v2, v3, v4] at this)
  have NA : Hid (L.small = true → ∀ W, Below w.heap.size w W → Calls Try.prog 72 #[.agg #[.slice a1 n1 c1, .slice a2 n2 c2, .slice a3 n3 c3, .slice a4 n4 c4]] W fun e w' => ∃ a n c, e = .returned (.slice a n c) ∧ n = L.all.length ∧ SlAt 1 strC w' ⟨a, c, L.all⟩ ∧ Below W.heap.size W w') := Lib.hid (fun hs W hb => by have := names_is L W (hL.below hb) hs; rwa [v1, v2, v3, v4] at this)
  rw [v1, v2, v3, v4]
  have N1 := Lib.hid hn1
  have N2 := Lib.hid hn2
  have N3 := Lib.hid hn3
  have N4 := Lib.hid hn4
  have HV := Lib.hid (And.intro v1 (And.intro v2 (And.intro v3 v4)))
  clear hn1 hn2 hn3 hn4 ha1 ha2 ha3 ha4 hc1 hc2 hc3 hc4 v1 v2 v3 v4 hL
  obtain ⟨gl, hgl⟩ : ∃ g, g = w.heap.size := ⟨_, rfl⟩
  have HGL := Lib.hid hgl
  have HCL : Hid (∀ W, LcAt w W gl L → W.cell? ⟨gl, 0, none⟩ = some (.slice a1 n1 c1) ∧ W.cell? ⟨gl, 1, none⟩ = some (.slice a2 n2 c2) ∧ W.cell? ⟨gl, 2, none⟩ = some (.slice a3 n3 c3) ∧ W.cell? ⟨gl, 3, none⟩ = some (.slice a4 n4 c4)) := Lib.hid (fun W h => by
    obtain ⟨v1, v2, v3, v4⟩ := HV.out
    rw [← v1, ← v2, ← v3, ← v4]
    exact ⟨blk_cell h.lay 0 _ rfl, blk_cell h.lay 1 _ rfl, blk_cell h.lay 2 _ rfl, blk_cell h.lay 3 _ rfl⟩)
  obtain ⟨W, hW⟩ : ∃ W, W = w.alloc (.cells #[.slice a1 n1 c1, .slice a2 n2 c2, .slice a3 n3 c3, .slice a4 n4 c4] 27) := ⟨_, rfl⟩
  have HM : Hid (LcAt w W gl L) := Lib.hid (by
    obtain ⟨v1, v2, v3, v4⟩ := HV.out
    rw [hW, hgl]
    exact ⟨by rw [v1, v2, v3, v4]; exact alloc1 w _ (Below.refl _ _), below1 _ _⟩)
  go_enter Try.func36, Try.ntmps36
  go_upto_region 1 with fail
  rw [← hW, ← hgl]
  clear hW hgl
  obtain ⟨l0, l1, l2, l3⟩ : W.cell? ⟨gl, 0, none⟩ = some (.slice a1 n1 c1) ∧ W.cell? ⟨gl, 1, none⟩ = some (.slice a2 n2 c2) ∧ W.cell? ⟨gl, 2, none⟩ = some (.slice a3 n3 c3) ∧ W.cell? ⟨gl, 3, none⟩ = some (.slice a4 n4 c4) := HCL.out _ HM.out
  rcases Bool.eq_false_or_eq_true L.small with hsm | hsm
  case inr =>
    have HF := Lib.hid (may_no1 hsm)
    have HS := Lib.hid hsm
    clear hsm
    go_wp2_with fail
    refine (FU.out true (by rw [HS.out]; rfl) _).mono ?_
    rintro e w5 ⟨rfl, hb5⟩
    have HM5 := Lib.hid (HM.out.step hb5)
    clear hb5
    go_wp2_with fail
    go_ret
    exact ⟨by rw [HF.out]; rfl, HM5.out.below⟩
  have HS := Lib.hid hsm
  have HXX := Lib.hid (small_get hsm)
  rw [N1.out, N2.out, N3.out, N4.out] at HXX
  clear hsm
  go_wp2_with fail
  refine (FU.out false (by rw [HS.out]; rfl) _).mono ?_
  rintro e w5 ⟨rfl, hb5⟩
  have HM5 := Lib.hid (HM.out.step hb5)
  clear hb5 HM l0 l1 l2 l3 FU
  obtain ⟨l0, l1, l2, l3⟩ : w5.cell? ⟨gl, 0, none⟩ = some (.slice a1 n1 c1) ∧ w5.cell? ⟨gl, 1, none⟩ = some (.slice a2 n2 c2) ∧ w5.cell? ⟨gl, 2, none⟩ = some (.slice a3 n3 c3) ∧ w5.cell? ⟨gl, 3, none⟩ = some (.slice a4 n4 c4) := HCL.out _ HM5.out
  go_wp2_with fail
  refine (NA.out HS.out _ HM5.out.below).mono ?_
  rintro e w6 ⟨aN, nN, cN, rfl, hnN, hSN, hb6⟩
  have HM := Lib.hid (HM5.out.step hb6)
  have HSN := Lib.hid hSN
  have hnb : nN ≤ 192 := by rw [hnN, all_len N1.out N2.out N3.out N4.out]; have := HXX.out; omega
  have hcb := hSN.len
  have hcm := hSN.cap
  dsimp only at hcb hcm
  rw [← hnN] at hcb
  have hcm2 : cN ≤ 9223372036854775807 := by unfold maxLen at hcm; exact hcm
  have HNB := Lib.hid (And.intro hnN (And.intro hnb (And.intro hcb hcm2)))
  clear hb6 HM5 l0 l1 l2 l3 NA hSN hnN hnb hcb hcm hcm2
  obtain ⟨l0, l1, l2, l3⟩ : w6.cell? ⟨gl, 0, none⟩ = some (.slice a1 n1 c1) ∧ w6.cell? ⟨gl, 1, none⟩ = some (.slice a2 n2 c2) ∧ w6.cell? ⟨gl, 2, none⟩ = some (.slice a3 n3 c3) ∧ w6.cell? ⟨gl, 3, none⟩ = some (.slice a4 n4 c4) := HCL.out _ HM.out
  go_wp2_with fail
  clear l0 l1 l2 l3
  go_loopg [4] nN (fun g i wr => ∃ k : Nat, k + g = nN ∧ i = .int .i64 (k : Int) ∧ (∀ j s, j < k → L.all[j]? = some s → okNm (L.all.take j) s = true) ∧ LcAt w wr gl L ∧ Below w6.heap.size w6 wr)
  case atStart => exact ⟨0, by omega, rfl, fun j s h => by omega, HM.out, Below.refl _ _⟩
  case round =>
    obtain ⟨k, hk, rfl, hst, hM, hbw⟩ := hrel
    clear HM
    have HM := Lib.hid hM
    have HST := Lib.hid hst
    have HBW := Lib.hid hbw
    have HK := Lib.hid hk
    clear hst hM hbw
    by_cases hlt : k < nN
    · obtain ⟨y, hy⟩ : ∃ y, L.all[k]? = some y := ⟨_, List.getElem?_eq_getElem (by have := HNB.out.1; omega)⟩
      have hrow := HSN.out.row.below HBW.out
      dsimp only at hrow
      have HROW := Lib.hid hrow
      rcases hrow with hnil | ⟨xb, off, rfl, hc⟩
      · rw [hnil] at hy; simp at hy
      have z0 := hc k y hy 0 (.string y) (by unfold strC; rfl)
      rw [Nat.add_zero, Nat.mul_one] at z0
      have HY := Lib.hid hy
      have HN := Lib.hid (name_ok HA.out y (List.mem_of_getElem? hy))
      have HTK : Hid ((L.all.take k).length = k) := Lib.hid (by rw [List.length_take]; have := HNB.out.1; omega)
      have d1 : (0 : Int) ≤ k := by omega
      have d2 : (k : Int) < nN := by omega
      have d3 : (k : Int) ≤ cN := by have := HNB.out; omega
      have d4 : k ≤ cN := by have := HNB.out; omega
      have e1 : wrap64 ((k : Int) + 1) = (k : Int) + 1 := by have := HNB.out; unfold wrap64; omega
      clear hc hy hk
      rcases Bool.eq_false_or_eq_true (rightS y) with hr | hr
      · have HR := Lib.hid hr
        clear hr
        obtain ⟨z, hz⟩ : ∃ z, fI 0 (L.all.take k) y = z := ⟨_, rfl⟩
        have HZ := Lib.hid hz
        have hfi := fI_iff (L.all.take k) 0 y
        rw [hz] at hfi
        clear hz
        have k1 : ∀ w', Below wr.heap.size wr w' → Calls Try.prog 73 #[.string y] w' fun e w'' => e = .returned (.bool true) ∧ Below wr.heap.size wr w'' :=
          fun w' hw' => (rright_to true y w' HN.out HR.out).mono (fun e w9 ⟨h1, h2⟩ => ⟨h1, below_on hw' h2⟩)
        have k2 : ∀ w', Below wr.heap.size wr w' → Calls Try.prog 74 #[.slice (some ⟨xb, off, none⟩) k cN, .string y] w' fun e w'' => e = .returned (.int .i64 z) ∧ Below wr.heap.size wr w'' :=
          fun w' hw' => HZ.out ▸ (find_is _ _ _ (L.all.take k) y w' HTK.out (by have := HNB.out; omega) ((HROW.out.take k).below hw')).mono (fun e w9 ⟨h1, h2⟩ => ⟨h1, h2 ▸ hw'⟩)
        rcases hfi with ⟨f1, f2⟩ | ⟨f1, f2⟩
        · have HF := Lib.hid (may_no2 (nms_bad HY.out (by rw [ok_of HR.out f2]; rfl)))
          clear f2
          go_upto_region 7 with fail
          refine wp_region_calm (by kernel_rfl) ?_ ?_
          · kernel_rfl
          repeat first
           | go_big_quiet_skip
           | (go_big_quiet_want; go_big_quiet_op; go_big_quiet_on)
           | (with_reducible apply wpQuiet_step
              intro K hK
              go_simp
              first
                | (refine hK _ ?_; clear hK K)
                | (apply Exists.intro
                   refine ⟨fun w' hw' => ?_, hK _ ?_⟩
                   ·
                     (first
                      | with_reducible exact k1 _ hw'
                      | with_reducible exact k2 _ hw'
                      | (have e0 := cell_later hw' z0
                         go_simp
                         first | done | with_reducible exact rfl | with_reducible exact ⟨rfl, rfl⟩ | with_reducible exact k1 _ hw' | with_reducible exact k2 _ hw'))
                   clear hK K))
          refine wpQuiet_nil ?_
          intro w7 hw7
          have HM7 := Lib.hid (HM.out.step hw7)
          clear hw7
          go_wp2_with fail
          go_ret
          exact ⟨by rw [HF.out]; rfl, HM7.out.below⟩
        · have HX := Lib.hid (show okNm (L.all.take k) y = true by rw [ok_of HR.out f2]; rfl)
          have f3 : ¬ 0 ≤ z := by omega
          clear f1 f2
          go_upto_region 7 with fail
          refine wp_region_calm (by kernel_rfl) ?_ ?_
          · kernel_rfl
          repeat first
           | go_big_quiet_skip
           | (go_big_quiet_want; go_big_quiet_op; go_big_quiet_on)
           | (with_reducible apply wpQuiet_step
              intro K hK
              go_simp
              first
                | (refine hK _ ?_; clear hK K)
                | (apply Exists.intro
                   refine ⟨fun w' hw' => ?_, hK _ ?_⟩
                   ·
                     (first
                      | with_reducible exact k1 _ hw'
                      | with_reducible exact k2 _ hw'
                      | (have e0 := cell_later hw' z0
                         go_simp
                         first | done | with_reducible exact rfl | with_reducible exact ⟨rfl, rfl⟩ | with_reducible exact k1 _ hw' | with_reducible exact k2 _ hw'))
                   clear hK K))
          refine wpQuiet_nil ?_
          intro w7 hw7
          have HM7 := Lib.hid (HM.out.step hw7)
          have HBW7 := Lib.hid (below_on HBW.out hw7)
          clear hw7
          go_wp2_with fail
          go_roundg (nN - (k + 1))
          case rel => exact ⟨k + 1, by have := HK.out; omega, by go_num, fun j s hj hs => by
            rcases Nat.lt_or_ge j k with h | h
            · exact HST.out j s h hs
            · obtain rfl : j = k := by omega
              rw [HY.out] at hs; cases hs; exact HX.out, HM7.out, HBW7.out⟩
          case measure => have := HK.out; omega
      · have HR := Lib.hid hr
        have HF := Lib.hid (may_no2 (nms_bad HY.out (okNm_r hr)))
        clear hr
        obtain ⟨z, hz⟩ : ∃ z, fI 0 (L.all.take k) y = z := ⟨_, rfl⟩
        have HZ := Lib.hid hz
        clear hz
        have k1 : ∀ w', Below wr.heap.size wr w' → Calls Try.prog 73 #[.string y] w' fun e w'' => e = .returned (.bool false) ∧ Below wr.heap.size wr w'' :=
          fun w' hw' => (rright_to false y w' HN.out HR.out).mono (fun e w9 ⟨h1, h2⟩ => ⟨h1, below_on hw' h2⟩)
        have k2 : ∀ w', Below wr.heap.size wr w' → Calls Try.prog 74 #[.slice (some ⟨xb, off, none⟩) k cN, .string y] w' fun e w'' => e = .returned (.int .i64 z) ∧ Below wr.heap.size wr w'' :=
          fun w' hw' => HZ.out ▸ (find_is _ _ _ (L.all.take k) y w' HTK.out (by have := HNB.out; omega) ((HROW.out.take k).below hw')).mono (fun e w9 ⟨h1, h2⟩ => ⟨h1, h2 ▸ hw'⟩)
        go_upto_region 7 with fail
        refine wp_region_calm (by kernel_rfl) ?_ ?_
        · kernel_rfl
        repeat first
         | go_big_quiet_skip
         | (go_big_quiet_want; go_big_quiet_op; go_big_quiet_on)
         | (with_reducible apply wpQuiet_step
            intro K hK
            go_simp
            first
              | (refine hK _ ?_; clear hK K)
              | (apply Exists.intro
                 refine ⟨fun w' hw' => ?_, hK _ ?_⟩
                 ·
                   (first
                    | with_reducible exact k1 _ hw'
                    | with_reducible exact k2 _ hw'
                    | (have e0 := cell_later hw' z0
                       go_simp
                       first | done | with_reducible exact rfl | with_reducible exact ⟨rfl, rfl⟩ | with_reducible exact k1 _ hw' | with_reducible exact k2 _ hw'))
                 clear hK K))
        refine wpQuiet_nil ?_
        intro w7 hw7
        have HM7 := Lib.hid (HM.out.step hw7)
        clear hw7
        go_wp2_with fail
        go_ret
        exact ⟨by rw [HF.out]; rfl, HM7.out.below⟩
    · have hkn : nN = k := by omega
      subst hkn
      have HNM : Hid (nmsFrom [] L.all = true) := Lib.hid (nms_all (fun j s hs => HST.out j s (by have := (List.getElem?_eq_some_iff.1 hs).1; have := HNB.out.1; omega) hs))
      clear HST hk hlt HK HBW
      obtain ⟨wq2, hwq⟩ : ∃ W, W = wr := ⟨_, rfl⟩
      rw [← hwq] at HM ⊢
      clear hwq
      obtain ⟨l0, l1, l2, l3⟩ : wq2.cell? ⟨gl, 0, none⟩ = some (.slice a1 n1 c1) ∧ wq2.cell? ⟨gl, 1, none⟩ = some (.slice a2 n2 c2) ∧ wq2.cell? ⟨gl, 2, none⟩ = some (.slice a3 n3 c3) ∧ wq2.cell? ⟨gl, 3, none⟩ = some (.slice a4 n4 c4) := HCL.out _ HM.out
      go_wp2_with fail
      clear l0 l1 l2 l3
      go_loopg [5] n2 (fun g i wr => ∃ k : Nat, k + g = n2 ∧ i = .int .i64 (k : Int) ∧ belowB n1 ((L.po.l.map (·.2)).take k) = true ∧ LcAt w wr gl L)
      case atStart => exact ⟨0, by omega, rfl, by rw [List.take_zero]; unfold belowB; rfl, HM.out⟩
      case round =>
        obtain ⟨k, hk, rfl, hst, hM⟩ := hrel
        clear HM
        have HM := Lib.hid hM
        have HST := Lib.hid hst
        have HK := Lib.hid hk
        clear hst hM
        obtain ⟨l0, l1, l2, l3⟩ : wr.cell? ⟨gl, 0, none⟩ = some (.slice a1 n1 c1) ∧ wr.cell? ⟨gl, 1, none⟩ = some (.slice a2 n2 c2) ∧ wr.cell? ⟨gl, 2, none⟩ = some (.slice a3 n3 c3) ∧ wr.cell? ⟨gl, 3, none⟩ = some (.slice a4 n4 c4) := HCL.out _ HM.out
        by_cases hlt : k < n2
        · obtain ⟨y, hy⟩ : ∃ y, L.po.l[k]? = some y := ⟨_, List.getElem?_eq_getElem (by rw [N2.out]; exact hlt)⟩
          rcases R2.out.below HM.out.below with hnil | ⟨xb, off, rfl, hc⟩
          · rw [hnil] at hy; simp at hy
          obtain ⟨y0, y1⟩ := y
          have z1 := hc k _ hy 1 (.int .i64 y1) rfl
          have HY := Lib.hid hy
          have d1 : (0 : Int) ≤ k := by omega
          have d2 : (k : Int) < n2 := by omega
          have e1 : wrap64 ((k : Int) + 1) = (k : Int) + 1 := by have := HXX.out; unfold wrap64; omega
          clear hc hy hk
          have HS9 : Hid (∀ w', Below wr.heap.size wr w' → w'.cell? ⟨gl, 0, none⟩ = some (.slice a1 n1 c1) ∧ w'.cell? ⟨gl, 1, none⟩ = some (.slice (some ⟨xb, off, none⟩) n2 c2) ∧ w'.cell? ⟨xb, off + k * 2 + 1, none⟩ = some (.int .i64 y1)) := Lib.hid (fun w' hw' => ⟨(HCL.out _ (HM.out.step hw')).1, (HCL.out _ (HM.out.step hw')).2.1, cell_later hw' z1⟩)
          obtain ⟨D, hD⟩ : ∃ D, decide (0 ≤ y1 ∧ y1 < (n1 : Int)) = D := ⟨_, rfl⟩
          have HD := Lib.hid hD
          clear hD z1
          cases D with
          | true =>
            have HX : Hid (belowB n1 ((L.po.l.map (·.2)).take (k + 1)) = true) := Lib.hid (by rw [belowB_take (get_map HY.out), HST.out, HD.out]; rfl)
            have HIN : Hid (∀ (W : World) (g : Nat), W.heap[g]? = some (.cells #[.int .i64 y1] 3) → Calls Try.prog 75 #[.slice (some ⟨g, 0, none⟩) 1 1, .int .i64 (n1 : Int)] W fun e w' => e = .returned (.bool true) ∧ W = w') := Lib.hid (fun W g h => HD.out ▸ rin_one n1 y1 W g 3 (0, 0) h)
            go_upto_region 12 with fail
            go_region_held3 (fun w' => w'.cell? ⟨gl, 0, none⟩ = some (.slice a1 n1 c1) ∧ w'.cell? ⟨gl, 1, none⟩ = some (.slice (some ⟨xb, off, none⟩) n2 c2) ∧ w'.cell? ⟨xb, off + k * 2 + 1, none⟩ = some (.int .i64 y1))
              (exact HS9.out _ (by first | assumption | (repeat first | assumption | with_reducible exact Below.refl _ _ | with_reducible refine Below.drew ?_ | ((with_reducible refine Below.alloc ?_ ?_ _); rotate_left; first | exact Nat.le_refl _ | omega))))
              (first | (go_at_call 75; refine (HIN.out _ _ (alloc1 wr.drew (.cells #[.int .i64 y1] 3) (Below.refl _ _))).mono ?_; rintro e w9 ⟨rfl, rfl⟩))
            have hb7 : Below wr.heap.size wr (wr.drew.alloc (.cells #[.int .i64 y1] 3)) := (Below.refl _ wr).drew.alloc (Nat.le_refl _) _
            have HM7 := Lib.hid (HM.out.step hb7)
            clear hb7
            go_wp2_with fail
            go_roundg (n2 - (k + 1))
            case rel => exact ⟨k + 1, by have := HK.out; omega, by go_num, HX.out, HM7.out⟩
            case measure => have := HK.out; omega
          | false =>
            have HF := Lib.hid (may_no3 (L := L) (by rw [N1.out]; exact belowB_false (get_map HY.out) (of_decide_eq_false HD.out)))
            have HIN : Hid (∀ (W : World) (g : Nat), W.heap[g]? = some (.cells #[.int .i64 y1] 3) → Calls Try.prog 75 #[.slice (some ⟨g, 0, none⟩) 1 1, .int .i64 (n1 : Int)] W fun e w' => e = .returned (.bool false) ∧ W = w') := Lib.hid (fun W g h => HD.out ▸ rin_one n1 y1 W g 3 (0, 0) h)
            go_upto_region 12 with fail
            go_region_held3 (fun w' => w'.cell? ⟨gl, 0, none⟩ = some (.slice a1 n1 c1) ∧ w'.cell? ⟨gl, 1, none⟩ = some (.slice (some ⟨xb, off, none⟩) n2 c2) ∧ w'.cell? ⟨xb, off + k * 2 + 1, none⟩ = some (.int .i64 y1))
              (exact HS9.out _ (by first | assumption | (repeat first | assumption | with_reducible exact Below.refl _ _ | with_reducible refine Below.drew ?_ | ((with_reducible refine Below.alloc ?_ ?_ _); rotate_left; first | exact Nat.le_refl _ | omega))))
              (first | (go_at_call 75; refine (HIN.out _ _ (alloc1 wr.drew (.cells #[.int .i64 y1] 3) (Below.refl _ _))).mono ?_; rintro e w9 ⟨rfl, rfl⟩))
            have hb7 : Below wr.heap.size wr (wr.drew.alloc (.cells #[.int .i64 y1] 3)) := (Below.refl _ wr).drew.alloc (Nat.le_refl _) _
            have HM7 := Lib.hid (HM.out.step hb7)
            clear hb7
            go_wp2_with fail
            go_ret
            exact ⟨by rw [HF.out]; rfl, HM7.out.below⟩
        · have hkn : n2 = k := by omega
          subst hkn
          have HB2 : Hid (belowB n1 (L.po.l.map (·.2)) = true) := Lib.hid (by have := HST.out; rwa [List.take_of_length_le (by rw [List.length_map, N2.out]; exact Nat.le_refl _)] at this)
          clear HST hk hlt HK l0 l1 l2 l3
          obtain ⟨wq3, hwq⟩ : ∃ W, W = wr := ⟨_, rfl⟩
          rw [← hwq] at HM ⊢
          clear hwq
          obtain ⟨l0, l1, l2, l3⟩ : wq3.cell? ⟨gl, 0, none⟩ = some (.slice a1 n1 c1) ∧ wq3.cell? ⟨gl, 1, none⟩ = some (.slice a2 n2 c2) ∧ wq3.cell? ⟨gl, 2, none⟩ = some (.slice a3 n3 c3) ∧ wq3.cell? ⟨gl, 3, none⟩ = some (.slice a4 n4 c4) := HCL.out _ HM.out
          go_wp2_with fail
          clear l0 l1 l2 l3
          go_loopg [6] n3 (fun g i wr => ∃ k : Nat, k + g = n3 ∧ i = .int .i64 (k : Int) ∧ belowB n1 ((L.sg.l.map (·.2)).take k) = true ∧ LcAt w wr gl L)
          case atStart => exact ⟨0, by omega, rfl, by rw [List.take_zero]; unfold belowB; rfl, HM.out⟩
          case round =>
            obtain ⟨k, hk, rfl, hst, hM⟩ := hrel
            clear HM
            have HM := Lib.hid hM
            have HST := Lib.hid hst
            have HK := Lib.hid hk
            clear hst hM
            obtain ⟨l0, l1, l2, l3⟩ : wr.cell? ⟨gl, 0, none⟩ = some (.slice a1 n1 c1) ∧ wr.cell? ⟨gl, 1, none⟩ = some (.slice a2 n2 c2) ∧ wr.cell? ⟨gl, 2, none⟩ = some (.slice a3 n3 c3) ∧ wr.cell? ⟨gl, 3, none⟩ = some (.slice a4 n4 c4) := HCL.out _ HM.out
            by_cases hlt : k < n3
            · obtain ⟨y, hy⟩ : ∃ y, L.sg.l[k]? = some y := ⟨_, List.getElem?_eq_getElem (by rw [N3.out]; exact hlt)⟩
              rcases R3.out.below HM.out.below with hnil | ⟨xb, off, rfl, hc⟩
              · rw [hnil] at hy; simp at hy
              obtain ⟨y0, y1⟩ := y
              have z1 := hc k _ hy 1 (.int .i64 y1) rfl
              have HY := Lib.hid hy
              have d1 : (0 : Int) ≤ k := by omega
              have d2 : (k : Int) < n3 := by omega
              have e1 : wrap64 ((k : Int) + 1) = (k : Int) + 1 := by have := HXX.out; unfold wrap64; omega
              clear hc hy hk
              have HS9 : Hid (∀ w', Below wr.heap.size wr w' → w'.cell? ⟨gl, 0, none⟩ = some (.slice a1 n1 c1) ∧ w'.cell? ⟨gl, 2, none⟩ = some (.slice (some ⟨xb, off, none⟩) n3 c3) ∧ w'.cell? ⟨xb, off + k * 2 + 1, none⟩ = some (.int .i64 y1)) := Lib.hid (fun w' hw' => ⟨(HCL.out _ (HM.out.step hw')).1, (HCL.out _ (HM.out.step hw')).2.2.1, cell_later hw' z1⟩)
              obtain ⟨D, hD⟩ : ∃ D, decide (0 ≤ y1 ∧ y1 < (n1 : Int)) = D := ⟨_, rfl⟩
              have HD := Lib.hid hD
              clear hD z1
              cases D with
              | true =>
                have HX : Hid (belowB n1 ((L.sg.l.map (·.2)).take (k + 1)) = true) := Lib.hid (by rw [belowB_take (get_map HY.out), HST.out, HD.out]; rfl)
                have HIN : Hid (∀ (W : World) (g : Nat), W.heap[g]? = some (.cells #[.int .i64 y1] 3) → Calls Try.prog 75 #[.slice (some ⟨g, 0, none⟩) 1 1, .int .i64 (n1 : Int)] W fun e w' => e = .returned (.bool true) ∧ W = w') := Lib.hid (fun W g h => HD.out ▸ rin_one n1 y1 W g 3 (0, 0) h)
                go_upto_region 17 with fail
                go_region_held3 (fun w' => w'.cell? ⟨gl, 0, none⟩ = some (.slice a1 n1 c1) ∧ w'.cell? ⟨gl, 2, none⟩ = some (.slice (some ⟨xb, off, none⟩) n3 c3) ∧ w'.cell? ⟨xb, off + k * 2 + 1, none⟩ = some (.int .i64 y1))
                  (exact HS9.out _ (by first | assumption | (repeat first | assumption | with_reducible exact Below.refl _ _ | with_reducible refine Below.drew ?_ | ((with_reducible refine Below.alloc ?_ ?_ _); rotate_left; first | exact Nat.le_refl _ | omega))))
                  (first | (go_at_call 75; refine (HIN.out _ _ (alloc1 wr.drew (.cells #[.int .i64 y1] 3) (Below.refl _ _))).mono ?_; rintro e w9 ⟨rfl, rfl⟩))
                have hb7 : Below wr.heap.size wr (wr.drew.alloc (.cells #[.int .i64 y1] 3)) := (Below.refl _ wr).drew.alloc (Nat.le_refl _) _
                have HM7 := Lib.hid (HM.out.step hb7)
                clear hb7
                go_wp2_with fail
                go_roundg (n3 - (k + 1))
                case rel => exact ⟨k + 1, by have := HK.out; omega, by go_num, HX.out, HM7.out⟩
                case measure => have := HK.out; omega
              | false =>
                have HF := Lib.hid (may_no4 (L := L) (by rw [N1.out]; exact belowB_false (get_map HY.out) (of_decide_eq_false HD.out)))
                have HIN : Hid (∀ (W : World) (g : Nat), W.heap[g]? = some (.cells #[.int .i64 y1] 3) → Calls Try.prog 75 #[.slice (some ⟨g, 0, none⟩) 1 1, .int .i64 (n1 : Int)] W fun e w' => e = .returned (.bool false) ∧ W = w') := Lib.hid (fun W g h => HD.out ▸ rin_one n1 y1 W g 3 (0, 0) h)
                go_upto_region 17 with fail
                go_region_held3 (fun w' => w'.cell? ⟨gl, 0, none⟩ = some (.slice a1 n1 c1) ∧ w'.cell? ⟨gl, 2, none⟩ = some (.slice (some ⟨xb, off, none⟩) n3 c3) ∧ w'.cell? ⟨xb, off + k * 2 + 1, none⟩ = some (.int .i64 y1))
                  (exact HS9.out _ (by first | assumption | (repeat first | assumption | with_reducible exact Below.refl _ _ | with_reducible refine Below.drew ?_ | ((with_reducible refine Below.alloc ?_ ?_ _); rotate_left; first | exact Nat.le_refl _ | omega))))
                  (first | (go_at_call 75; refine (HIN.out _ _ (alloc1 wr.drew (.cells #[.int .i64 y1] 3) (Below.refl _ _))).mono ?_; rintro e w9 ⟨rfl, rfl⟩))
                have hb7 : Below wr.heap.size wr (wr.drew.alloc (.cells #[.int .i64 y1] 3)) := (Below.refl _ wr).drew.alloc (Nat.le_refl _) _
                have HM7 := Lib.hid (HM.out.step hb7)
                clear hb7
                go_wp2_with fail
                go_ret
                exact ⟨by rw [HF.out]; rfl, HM7.out.below⟩
            · have hkn : n3 = k := by omega
              subst hkn
              have HB3 : Hid (belowB n1 (L.sg.l.map (·.2)) = true) := Lib.hid (by have := HST.out; rwa [List.take_of_length_le (by rw [List.length_map, N3.out]; exact Nat.le_refl _)] at this)
              clear HST hk hlt HK l0 l1 l2 l3
              obtain ⟨wq4, hwq⟩ : ∃ W, W = wr := ⟨_, rfl⟩
              rw [← hwq] at HM ⊢
              clear hwq
              obtain ⟨l0, l1, l2, l3⟩ : wq4.cell? ⟨gl, 0, none⟩ = some (.slice a1 n1 c1) ∧ wq4.cell? ⟨gl, 1, none⟩ = some (.slice a2 n2 c2) ∧ wq4.cell? ⟨gl, 2, none⟩ = some (.slice a3 n3 c3) ∧ wq4.cell? ⟨gl, 3, none⟩ = some (.slice a4 n4 c4) := HCL.out _ HM.out
              go_wp2_with fail
              clear l0 l1 l2 l3
              go_loopg [7, 8] n4 (fun g i _ wr => ∃ k : Nat, k + g = n4 ∧ i = .int .i64 (k : Int) ∧ (L.rt.l.take k).all (rrtB n3 n1 n2) = true ∧ LcAt w wr gl L)
              case atStart => exact ⟨0, by omega, rfl, by rw [List.take_zero]; rfl, HM.out⟩
              case round =>
                obtain ⟨k, hk, rfl, hst, hM⟩ := hrel
                clear HM
                have HM := Lib.hid hM
                have HST := Lib.hid hst
                have HK := Lib.hid hk
                clear hst hM
                obtain ⟨l0, l1, l2, l3⟩ : wr.cell? ⟨gl, 0, none⟩ = some (.slice a1 n1 c1) ∧ wr.cell? ⟨gl, 1, none⟩ = some (.slice a2 n2 c2) ∧ wr.cell? ⟨gl, 2, none⟩ = some (.slice a3 n3 c3) ∧ wr.cell? ⟨gl, 3, none⟩ = some (.slice a4 n4 c4) := HCL.out _ HM.out
                by_cases hlt : k < n4
                · obtain ⟨y, hy⟩ : ∃ y, L.rt.l[k]? = some y := ⟨_, List.getElem?_eq_getElem (by rw [N4.out]; exact hlt)⟩
                  rcases R4.out.below HM.out.below with hnil | ⟨xb, off, rfl, hc⟩
                  · rw [hnil] at hy; simp at hy
                  have z0 := hc k _ hy 0 _ rfl
                  have z1 := hc k _ hy 1 _ rfl
                  have z2 := hc k _ hy 2 _ rfl
                  have z3 := hc k _ hy 3 _ rfl
                  have z4 := hc k _ hy 4 _ rfl
                  have z5 := hc k _ hy 5 _ rfl
                  rw [Nat.add_zero] at z0
                  have HR := Lib.hid (HA.out.rn y (List.mem_of_getElem? hy))
                  obtain ⟨nm, sg, ⟨pa, pc, pl⟩, ⟨oa, oc, ol⟩, ⟨va, vc, vl⟩, ⟨fa, fc, fl⟩⟩ := y
                  dsimp only at z0 z1 z2 z3 z4 z5
                  obtain ⟨m1, hm1⟩ : ∃ m, pl.length = m := ⟨_, rfl⟩
                  obtain ⟨m2, hm2⟩ : ∃ m, ol.length = m := ⟨_, rfl⟩
                  obtain ⟨m3, hm3⟩ : ∃ m, vl.length = m := ⟨_, rfl⟩
                  obtain ⟨m4, hm4⟩ : ∃ m, fl.length = m := ⟨_, rfl⟩
                  rw [slv2 hm1] at z2
                  rw [slv2 hm2] at z3
                  rw [slv2 hm3] at z4
                  rw [slv2 hm4] at z5
                  have HLE := Lib.hid (show m1 ≤ 9223372036854775807 ∧ m2 ≤ 9223372036854775807 ∧ m3 ≤ 9223372036854775807 ∧ m4 ≤ 9223372036854775807 from ⟨hm1 ▸ HR.out.pa.lenM, hm2 ▸ HR.out.po.lenM, hm3 ▸ HR.out.ov.lenM, hm4 ▸ HR.out.fl.lenM⟩)
                  have HMM := Lib.hid (And.intro hm1 (And.intro hm2 (And.intro hm3 hm4)))
                  have HY := Lib.hid hy
                  have d1 : (0 : Int) ≤ k := by omega
                  have d2 : (k : Int) < n4 := by omega
                  have e1 : wrap64 ((k : Int) + 1) = (k : Int) + 1 := by have := HXX.out; unfold wrap64; omega
                  clear hc hy hk hm1 hm2 hm3 hm4
                  obtain ⟨gx, hgx⟩ : ∃ g, g = wr.heap.size := ⟨_, rfl⟩
                  go_upto_region 23 with fail
                  refine name_world05 ?_
                  intro W hW
                  have HM4 : Hid (LcAt w W gl L) := Lib.hid (HM.out.step (by rw [hW]; exact below1 _ _))
                  have hk4 : W.heap[gx]? = some (.cells #[.string nm, .int .i64 sg, .slice pa m1 pc, .slice oa m2 oc, .slice va m3 vc, .slice fa m4 fc] 44) := by rw [hW, hgx]; exact alloc1 wr _ (Below.refl _ _)
                  have HK4 := Lib.hid hk4
                  rw [← hgx]
                  clear hW hgx hk4 z0 z1 z2 z3 z4 z5 l0 l1 l2 l3
                  have HS9 : Hid (∀ w', Below W.heap.size W w' → (w'.cell? ⟨gl, 0, none⟩ = some (.slice a1 n1 c1) ∧ w'.cell? ⟨gl, 1, none⟩ = some (.slice a2 n2 c2) ∧ w'.cell? ⟨gl, 2, none⟩ = some (.slice a3 n3 c3)) ∧ w'.cell? ⟨gx, 1, none⟩ = some (.int .i64 sg) ∧ w'.cell? ⟨gx, 2, none⟩ = some (.slice pa m1 pc) ∧ w'.cell? ⟨gx, 3, none⟩ = some (.slice oa m2 oc) ∧ w'.cell? ⟨gx, 4, none⟩ = some (.slice va m3 vc) ∧ w'.cell? ⟨gx, 5, none⟩ = some (.slice fa m4 fc)) := Lib.hid (fun w' hw' => by
                    have q := HCL.out _ (HM4.out.step hw')
                    have r := blk_keep hw' HK4.out
                    exact ⟨⟨q.1, q.2.1, q.2.2.1⟩, blk_cell r 1 _ rfl, blk_cell r 2 _ rfl, blk_cell r 3 _ rfl, blk_cell r 4 _ rfl, blk_cell r 5 _ rfl⟩)
                  obtain ⟨b0, hb0⟩ : ∃ b, decide (0 ≤ sg ∧ sg < (n3 : Int)) = b := ⟨_, rfl⟩
                  have B0 := Lib.hid hb0
                  clear hb0
                  obtain ⟨b1, hb1⟩ : ∃ b, inS n1 pl = b := ⟨_, rfl⟩
                  have B1 := Lib.hid hb1
                  clear hb1
                  obtain ⟨b2, hb2⟩ : ∃ b, inS n1 vl = b := ⟨_, rfl⟩
                  have B2 := Lib.hid hb2
                  clear hb2
                  obtain ⟨b3, hb3⟩ : ∃ b, mayB n2 ol = b := ⟨_, rfl⟩
                  have B3 := Lib.hid hb3
                  clear hb3
                  obtain ⟨b4, hb4⟩ : ∃ b, mayB n2 fl = b := ⟨_, rfl⟩
                  have B4 := Lib.hid hb4
                  clear hb4
                  have HIN0 : Hid (∀ (V : World) (g : Nat), V.heap[g]? = some (.cells #[.int .i64 sg] 3) → Calls Try.prog 75 #[.slice (some ⟨g, 0, none⟩) 1 1, .int .i64 (n3 : Int)] V fun e w' => e = .returned (.bool b0) ∧ V = w') := Lib.hid (fun V g h => B0.out ▸ rin_one n3 sg V g 3 (0, 0) h)
                  have HQ1 : Hid (∀ V : World, Below W.heap.size W V → Calls Try.prog 75 #[.slice pa m1 pc, .int .i64 (n1 : Int)] V fun e w' => e = .returned (.bool b1) ∧ V = w') := Lib.hid (fun V h => rin_to b1 n1 pa m1 pc pl V B1.out HMM.out.1 HLE.out.1 ((HR.out.pa.row.below HM4.out.below).below h))
                  have HQ2 : Hid (∀ V : World, Below W.heap.size W V → Calls Try.prog 75 #[.slice va m3 vc, .int .i64 (n1 : Int)] V fun e w' => e = .returned (.bool b2) ∧ V = w') := Lib.hid (fun V h => rin_to b2 n1 va m3 vc vl V B2.out HMM.out.2.2.1 HLE.out.2.2.1 ((HR.out.ov.row.below HM4.out.below).below h))
                  have HP3 : Hid (∀ V : World, Below W.heap.size W V → Calls Try.prog 76 #[.slice oa m2 oc] V fun e w' => ∃ a n cc, e = .returned (.slice a n cc) ∧ n = min 17 ol.length ∧ SlAt 1 intC w' ⟨a, cc, (ol.map (fun (p : Int × Bool) => p.1)).take 17⟩ ∧ Below W.heap.size W w') := Lib.hid (fun V h => (rpoints_is oa m2 oc ol V HMM.out.2.1 HLE.out.2.1 ((HR.out.po.row.below HM4.out.below).below h)).mono (fun e w9 ⟨a, n, cc, h1, h2, h3, h4⟩ => ⟨a, n, cc, h1, h2, h3, below_on h h4⟩))
                  have HQ3 : Hid (∀ (a : Option Addr) (n cc : Nat) (V : World), n = min 17 ol.length → RowAt 1 intC V a ((ol.map (fun (p : Int × Bool) => p.1)).take 17) → Calls Try.prog 75 #[.slice a n cc, .int .i64 (n2 : Int)] V fun e w' => e = .returned (.bool b3) ∧ V = w') := Lib.hid (fun a n cc V h1 h2 => rin_to b3 n2 a n cc _ V (by rw [pts16]; exact B3.out) (by rw [List.length_take, List.length_map, h1]) (by omega) h2)
                  have HP5 : Hid (∀ V : World, Below W.heap.size W V → Calls Try.prog 76 #[.slice fa m4 fc] V fun e w' => ∃ a n cc, e = .returned (.slice a n cc) ∧ n = min 17 fl.length ∧ SlAt 1 intC w' ⟨a, cc, (fl.map (fun (p : Int × Bool) => p.1)).take 17⟩ ∧ Below W.heap.size W w') := Lib.hid (fun V h => (rpoints_is fa m4 fc fl V HMM.out.2.2.2 HLE.out.2.2.2 ((HR.out.fl.row.below HM4.out.below).below h)).mono (fun e w9 ⟨a, n, cc, h1, h2, h3, h4⟩ => ⟨a, n, cc, h1, h2, h3, below_on h h4⟩))
                  have HQ4 : Hid (∀ (a : Option Addr) (n cc : Nat) (V : World), n = min 17 fl.length → RowAt 1 intC V a ((fl.map (fun (p : Int × Bool) => p.1)).take 17) → Calls Try.prog 75 #[.slice a n cc, .int .i64 (n2 : Int)] V fun e w' => e = .returned (.bool b4) ∧ V = w') := Lib.hid (fun a n cc V h1 h2 => rin_to b4 n2 a n cc _ V (by rw [pts16]; exact B4.out) (by rw [List.length_take, List.length_map, h1]) (by omega) h2)
                  refine wp_region_held_drew (S := (fun w' => (w'.cell? ⟨gl, 0, none⟩ = some (.slice a1 n1 c1) ∧ w'.cell? ⟨gl, 1, none⟩ = some (.slice a2 n2 c2) ∧ w'.cell? ⟨gl, 2, none⟩ = some (.slice a3 n3 c3)) ∧ w'.cell? ⟨gx, 1, none⟩ = some (.int .i64 sg) ∧ w'.cell? ⟨gx, 2, none⟩ = some (.slice pa m1 pc) ∧ w'.cell? ⟨gx, 3, none⟩ = some (.slice oa m2 oc) ∧ w'.cell? ⟨gx, 4, none⟩ = some (.slice va m3 vc) ∧ w'.cell? ⟨gx, 5, none⟩ = some (.slice fa m4 fc))) (by kernel_rfl) (HS9.out _ (Below.refl _ W).drew) (fun hH => ?_)
                  refine wpAnyH_take (i := 0) (oi := ⟨some 86, _, _, _, _, _⟩) (v := .pointer (some ⟨gx, 1, none⟩)) rfl (by kernel_rfl) (by kernel_rfl) (by kernel_rfl) (fun _ _ _ h => h) (Or.inl ⟨by kernel_rfl, fun w hS => by go_simp⟩) hH ?_
                  simp only [Act.put, List.setIfInBounds_toArray, List.set_cons_zero, List.set_cons_succ]
                  refine wpAnyH_re 45 #[true, false, false, false, false, false, false, false, false, false, false, false, false, false, false, false, false, false, false, false, false, false, false, false, false, false, false, false, false, false, false, false, false, false, false, false, false, false, false, false, false, false, false, false, false, false] (by kernel_rfl) (by kernel_rfl) ?_
                  refine wpAnyH_take (i := 1) (oi := ⟨some 87, _, _, _, _, _⟩) (v := .int .i64 sg) rfl (by kernel_rfl) (by kernel_rfl) (by kernel_rfl) (fun _ _ _ h => h) (Or.inl ⟨by kernel_rfl, fun w hS => by obtain ⟨⟨u0, u1, u2⟩, u3, u4, u5, u6, u7⟩ := hS; go_simp⟩) hH ?_
                  simp only [Act.put, List.setIfInBounds_toArray, List.set_cons_zero, List.set_cons_succ]
                  refine wpAnyH_re 44 #[true, true, false, false, false, false, false, false, false, false, false, false, false, false, false, false, false, false, false, false, false, false, false, false, false, false, false, false, false, false, false, false, false, false, false, false, false, false, false, false, false, false, false, false, false, false] (by kernel_rfl) (by kernel_rfl) ?_
                  refine wpAnyH_take (i := 3) (oi := ⟨some 89, _, _, _, _, _⟩) (v := .pointer (some ⟨gl, 2, none⟩)) rfl (by kernel_rfl) (by kernel_rfl) (by kernel_rfl) (fun _ _ _ h => h) (Or.inl ⟨by kernel_rfl, fun w hS => by go_simp⟩) hH ?_
                  simp only [Act.put, List.setIfInBounds_toArray, List.set_cons_zero, List.set_cons_succ]
                  refine wpAnyH_re 43 #[true, true, false, true, false, false, false, false, false, false, false, false, false, false, false, false, false, false, false, false, false, false, false, false, false, false, false, false, false, false, false, false, false, false, false, false, false, false, false, false, false, false, false, false, false, false] (by kernel_rfl) (by kernel_rfl) ?_
                  refine wpAnyH_take (i := 4) (oi := ⟨some 90, _, _, _, _, _⟩) (v := .slice a3 n3 c3) rfl (by kernel_rfl) (by kernel_rfl) (by kernel_rfl) (fun _ _ _ h => h) (Or.inl ⟨by kernel_rfl, fun w hS => by obtain ⟨⟨u0, u1, u2⟩, u3, u4, u5, u6, u7⟩ := hS; go_simp⟩) hH ?_
                  simp only [Act.put, List.setIfInBounds_toArray, List.set_cons_zero, List.set_cons_succ]
                  refine wpAnyH_re 42 #[true, true, false, true, true, false, false, false, false, false, false, false, false, false, false, false, false, false, false, false, false, false, false, false, false, false, false, false, false, false, false, false, false, false, false, false, false, false, false, false, false, false, false, false, false, false] (by kernel_rfl) (by kernel_rfl) ?_
                  refine wpAnyH_take (i := 5) (oi := ⟨some 91, _, _, _, _, _⟩) (v := .int .i64 (n3 : Int)) rfl (by kernel_rfl) (by kernel_rfl) (by kernel_rfl) (fun _ _ _ h => h) (Or.inl ⟨by kernel_rfl, fun w hS => by go_simp⟩) hH ?_
                  simp only [Act.put, List.setIfInBounds_toArray, List.set_cons_zero, List.set_cons_succ]
                  refine wpAnyH_re 41 #[true, true, false, true, true, true, false, false, false, false, false, false, false, false, false, false, false, false, false, false, false, false, false, false, false, false, false, false, false, false, false, false, false, false, false, false, false, false, false, false, false, false, false, false, false, false] (by kernel_rfl) (by kernel_rfl) ?_
                  refine wpAnyH_ready (rs := [2]) (by kernel_rfl) (by simp) (AllReadyH.cons (o := ⟨some 88, _, _, _, _, _⟩) rfl (fun K hK => ?_) AllReadyH.nil)
                  go_simp
                  have hb1 : Below W.heap.size W (W.alloc (.cells #[.int .i64 sg] 3)).drew := (below1 W _).drew
                  have hy1 : (W.alloc (.cells #[.int .i64 sg] 3)).drew.heap[W.heap.size]? = some (.cells #[.int .i64 sg] 3) := alloc1 W _ (Below.refl _ _).drew
                  obtain ⟨V1, hV1⟩ : ∃ V, V = (W.alloc (.cells #[.int .i64 sg] 3)).drew := ⟨_, rfl⟩
                  rw [← hV1] at hb1 hy1 ⊢
                  obtain ⟨gy, hgy⟩ : ∃ g, g = W.heap.size := ⟨_, rfl⟩
                  rw [← hgy] at hy1 ⊢
                  have HY1 := Lib.hid hy1
                  have HB1 := Lib.hid hb1
                  refine hK.out _ _ (HS9.out _ HB1.out) (fun hH1 => ?_)
                  clear hK K hH hV1 hgy hb1 hy1
                  refine wpAnyH_re 40 #[true, true, true, true, true, true, false, false, false, false, false, false, false, false, false, false, false, false, false, false, false, false, false, false, false, false, false, false, false, false, false, false, false, false, false, false, false, false, false, false, false, false, false, false, false, false] (by kernel_rfl) (by kernel_rfl) ?_
                  refine wpAnyH_ready (rs := [6]) (by kernel_rfl) (by simp) (AllReadyH.cons (o := ⟨some 92, _, _, _, _, _⟩) rfl (fun K hK => ?_) AllReadyH.nil)
                  go_simp
                  refine (HIN0.out _ _ HY1.out).mono ?_
                  rintro e w9 ⟨rfl, rfl⟩
                  refine hK.out _ _ (HS9.out _ HB1.out) (fun hH2 => ?_)
                  clear hK K hH1
                  cases b0 with
                  | false =>
                    as_aux_lemma =>
                      have HF := Lib.hid (may_no5 (L := L) (by rw [N1.out, N2.out, N3.out]; exact all_bad HY.out (rr_1 B0.out)))
                      refine wpAnyH_re 39 #[true, true, true, true, true, true, true, false, false, false, false, false, false, false, false, false, false, false, false, false, false, false, false, false, false, false, false, false, false, false, false, false, false, false, false, false, false, false, false, false, false, false, false, false, false, false] (by kernel_rfl) (by kernel_rfl) ?_
                      refine wpAnyH_take (i := 7) (oi := ⟨some 93, _, _, _, _, _⟩) (v := .bool true) rfl (by kernel_rfl) (by kernel_rfl) (by kernel_rfl) (fun _ _ _ h => h) (Or.inl ⟨by kernel_rfl, fun w hS => by go_simp⟩) hH2 ?_
                      simp only [Act.put, List.setIfInBounds_toArray, List.set_cons_zero, List.set_cons_succ]
                      refine wpAnyH_re 38 #[true, true, true, true, true, true, true, true, false, false, false, false, false, false, false, false, false, false, false, false, false, false, false, false, false, false, false, false, false, false, false, false, false, false, false, false, false, false, false, false, false, false, false, false, false, false] (by kernel_rfl) (by kernel_rfl) ?_
                      refine wpAnyH_take (i := 8) (oi := ⟨some 94, _, _, _, _, _⟩) (v := .bool true) rfl (by kernel_rfl) (by kernel_rfl) (by kernel_rfl) (fun _ _ _ h => h) (Or.inl ⟨by kernel_rfl, fun w hS => by go_simp⟩) hH2 ?_
                      simp only [Act.put, List.setIfInBounds_toArray, List.set_cons_zero, List.set_cons_succ]
                      refine wpAnyH_re 37 #[true, true, true, true, true, true, true, true, true, false, false, false, false, false, false, false, false, false, false, false, false, false, false, false, false, false, false, false, false, false, false, false, false, false, false, false, false, false, false, false, false, false, false, false, false, false] (by kernel_rfl) (by kernel_rfl) ?_
                      refine wpAnyH_take (i := 9) (oi := ⟨some 95, _, _, _, _, _⟩) (v := undef) rfl (by kernel_rfl) (by kernel_rfl) (by kernel_rfl) (fun _ _ _ h => h) (Or.inr ⟨by kernel_rfl, rfl⟩) hH2 ?_
                      simp only [Act.put, List.setIfInBounds_toArray, List.set_cons_zero, List.set_cons_succ]
                      refine wpAnyH_re 36 #[true, true, true, true, true, true, true, true, true, true, false, false, false, false, false, false, false, false, false, false, false, false, false, false, false, false, false, false, false, false, false, false, false, false, false, false, false, false, false, false, false, false, false, false, false, false] (by kernel_rfl) (by kernel_rfl) ?_
                      refine wpAnyH_take (i := 10) (oi := ⟨some 96, _, _, _, _, _⟩) (v := undef) rfl (by kernel_rfl) (by kernel_rfl) (by kernel_rfl) (fun _ _ _ h => h) (Or.inr ⟨by kernel_rfl, rfl⟩) hH2 ?_
                      simp only [Act.put, List.setIfInBounds_toArray, List.set_cons_zero, List.set_cons_succ]
                      refine wpAnyH_re 35 #[true, true, true, true, true, true, true, true, true, true, true, false, false, false, false, false, false, false, false, false, false, false, false, false, false, false, false, false, false, false, false, false, false, false, false, false, false, false, false, false, false, false, false, false, false, false] (by kernel_rfl) (by kernel_rfl) ?_
                      refine wpAnyH_take (i := 11) (oi := ⟨some 97, _, _, _, _, _⟩) (v := undef) rfl (by kernel_rfl) (by kernel_rfl) (by kernel_rfl) (fun _ _ _ h => h) (Or.inr ⟨by kernel_rfl, rfl⟩) hH2 ?_
                      simp only [Act.put, List.setIfInBounds_toArray, List.set_cons_zero, List.set_cons_succ]
                      refine wpAnyH_re 34 #[true, true, true, true, true, true, true, true, true, true, true, true, false, false, false, false, false, false, false, false, false, false, false, false, false, false, false, false, false, false, false, false, false, false, false, false, false, false, false, false, false, false, false, false, false, false] (by kernel_rfl) (by kernel_rfl) ?_
                      refine wpAnyH_take (i := 12) (oi := ⟨some 98, _, _, _, _, _⟩) (v := undef) rfl (by kernel_rfl) (by kernel_rfl) (by kernel_rfl) (fun _ _ _ h => h) (Or.inr ⟨by kernel_rfl, rfl⟩) hH2 ?_
                      simp only [Act.put, List.setIfInBounds_toArray, List.set_cons_zero, List.set_cons_succ]
                      refine wpAnyH_re 33 #[true, true, true, true, true, true, true, true, true, true, true, true, true, false, false, false, false, false, false, false, false, false, false, false, false, false, false, false, false, false, false, false, false, false, false, false, false, false, false, false, false, false, false, false, false, false] (by kernel_rfl) (by kernel_rfl) ?_
                      refine wpAnyH_take (i := 13) (oi := ⟨some 99, _, _, _, _, _⟩) (v := undef) rfl (by kernel_rfl) (by kernel_rfl) (by kernel_rfl) (fun _ _ _ h => h) (Or.inr ⟨by kernel_rfl, rfl⟩) hH2 ?_
                      simp only [Act.put, List.setIfInBounds_toArray, List.set_cons_zero, List.set_cons_succ]
                      refine wpAnyH_re 32 #[true, true, true, true, true, true, true, true, true, true, true, true, true, true, false, false, false, false, false, false, false, false, false, false, false, false, false, false, false, false, false, false, false, false, false, false, false, false, false, false, false, false, false, false, false, false] (by kernel_rfl) (by kernel_rfl) ?_
                      refine wpAnyH_take (i := 14) (oi := ⟨some 100, _, _, _, _, _⟩) (v := undef) rfl (by kernel_rfl) (by kernel_rfl) (by kernel_rfl) (fun _ _ _ h => h) (Or.inr ⟨by kernel_rfl, rfl⟩) hH2 ?_
                      simp only [Act.put, List.setIfInBounds_toArray, List.set_cons_zero, List.set_cons_succ]
                      refine wpAnyH_re 31 #[true, true, true, true, true, true, true, true, true, true, true, true, true, true, true, false, false, false, false, false, false, false, false, false, false, false, false, false, false, false, false, false, false, false, false, false, false, false, false, false, false, false, false, false, false, false] (by kernel_rfl) (by kernel_rfl) ?_
                      refine wpAnyH_take (i := 15) (oi := ⟨some 101, _, _, _, _, _⟩) (v := undef) rfl (by kernel_rfl) (by kernel_rfl) (by kernel_rfl) (fun _ _ _ h => h) (Or.inr ⟨by kernel_rfl, rfl⟩) hH2 ?_
                      simp only [Act.put, List.setIfInBounds_toArray, List.set_cons_zero, List.set_cons_succ]
                      refine wpAnyH_re 30 #[true, true, true, true, true, true, true, true, true, true, true, true, true, true, true, true, false, false, false, false, false, false, false, false, false, false, false, false, false, false, false, false, false, false, false, false, false, false, false, false, false, false, false, false, false, false] (by kernel_rfl) (by kernel_rfl) ?_
                      refine wpAnyH_take (i := 16) (oi := ⟨some 102, _, _, _, _, _⟩) (v := .bool true) rfl (by kernel_rfl) (by kernel_rfl) (by kernel_rfl) (fun _ _ _ h => h) (Or.inl ⟨by kernel_rfl, fun w hS => by go_simp⟩) hH2 ?_
                      simp only [Act.put, List.setIfInBounds_toArray, List.set_cons_zero, List.set_cons_succ]
                      refine wpAnyH_re 29 #[true, true, true, true, true, true, true, true, true, true, true, true, true, true, true, true, true, false, false, false, false, false, false, false, false, false, false, false, false, false, false, false, false, false, false, false, false, false, false, false, false, false, false, false, false, false] (by kernel_rfl) (by kernel_rfl) ?_
                      refine wpAnyH_take (i := 17) (oi := ⟨some 103, _, _, _, _, _⟩) (v := .bool true) rfl (by kernel_rfl) (by kernel_rfl) (by kernel_rfl) (fun _ _ _ h => h) (Or.inl ⟨by kernel_rfl, fun w hS => by go_simp⟩) hH2 ?_
                      simp only [Act.put, List.setIfInBounds_toArray, List.set_cons_zero, List.set_cons_succ]
                      refine wpAnyH_re 28 #[true, true, true, true, true, true, true, true, true, true, true, true, true, true, true, true, true, true, false, false, false, false, false, false, false, false, false, false, false, false, false, false, false, false, false, false, false, false, false, false, false, false, false, false, false, false] (by kernel_rfl) (by kernel_rfl) ?_
                      refine wpAnyH_take (i := 18) (oi := ⟨some 104, _, _, _, _, _⟩) (v := undef) rfl (by kernel_rfl) (by kernel_rfl) (by kernel_rfl) (fun _ _ _ h => h) (Or.inr ⟨by kernel_rfl, rfl⟩) hH2 ?_
                      simp only [Act.put, List.setIfInBounds_toArray, List.set_cons_zero, List.set_cons_succ]
                      refine wpAnyH_re 27 #[true, true, true, true, true, true, true, true, true, true, true, true, true, true, true, true, true, true, true, false, false, false, false, false, false, false, false, false, false, false, false, false, false, false, false, false, false, false, false, false, false, false, false, false, false, false] (by kernel_rfl) (by kernel_rfl) ?_
                      refine wpAnyH_take (i := 19) (oi := ⟨some 105, _, _, _, _, _⟩) (v := undef) rfl (by kernel_rfl) (by kernel_rfl) (by kernel_rfl) (fun _ _ _ h => h) (Or.inr ⟨by kernel_rfl, rfl⟩) hH2 ?_
                      simp only [Act.put, List.setIfInBounds_toArray, List.set_cons_zero, List.set_cons_succ]
                      refine wpAnyH_re 26 #[true, true, true, true, true, true, true, true, true, true, true, true, true, true, true, true, true, true, true, true, false, false, false, false, false, false, false, false, false, false, false, false, false, false, false, false, false, false, false, false, false, false, false, false, false, false] (by kernel_rfl) (by kernel_rfl) ?_
                      refine wpAnyH_take (i := 20) (oi := ⟨some 106, _, _, _, _, _⟩) (v := undef) rfl (by kernel_rfl) (by kernel_rfl) (by kernel_rfl) (fun _ _ _ h => h) (Or.inr ⟨by kernel_rfl, rfl⟩) hH2 ?_
                      simp only [Act.put, List.setIfInBounds_toArray, List.set_cons_zero, List.set_cons_succ]
                      refine wpAnyH_re 25 #[true, true, true, true, true, true, true, true, true, true, true, true, true, true, true, true, true, true, true, true, true, false, false, false, false, false, false, false, false, false, false, false, false, false, false, false, false, false, false, false, false, false, false, false, false, false] (by kernel_rfl) (by kernel_rfl) ?_
                      refine wpAnyH_take (i := 21) (oi := ⟨some 107, _, _, _, _, _⟩) (v := undef) rfl (by kernel_rfl) (by kernel_rfl) (by kernel_rfl) (fun _ _ _ h => h) (Or.inr ⟨by kernel_rfl, rfl⟩) hH2 ?_
                      simp only [Act.put, List.setIfInBounds_toArray, List.set_cons_zero, List.set_cons_succ]
                      refine wpAnyH_re 24 #[true, true, true, true, true, true, true, true, true, true, true, true, true, true, true, true, true, true, true, true, true, true, false, false, false, false, false, false, false, false, false, false, false, false, false, false, false, false, false, false, false, false, false, false, false, false] (by kernel_rfl) (by kernel_rfl) ?_
                      refine wpAnyH_take (i := 22) (oi := ⟨some 108, _, _, _, _, _⟩) (v := undef) rfl (by kernel_rfl) (by kernel_rfl) (by kernel_rfl) (fun _ _ _ h => h) (Or.inr ⟨by kernel_rfl, rfl⟩) hH2 ?_
                      simp only [Act.put, List.setIfInBounds_toArray, List.set_cons_zero, List.set_cons_succ]
                      refine wpAnyH_re 23 #[true, true, true, true, true, true, true, true, true, true, true, true, true, true, true, true, true, true, true, true, true, true, true, false, false, false, false, false, false, false, false, false, false, false, false, false, false, false, false, false, false, false, false, false, false, false] (by kernel_rfl) (by kernel_rfl) ?_
                      refine wpAnyH_take (i := 23) (oi := ⟨some 109, _, _, _, _, _⟩) (v := undef) rfl (by kernel_rfl) (by kernel_rfl) (by kernel_rfl) (fun _ _ _ h => h) (Or.inr ⟨by kernel_rfl, rfl⟩) hH2 ?_
                      simp only [Act.put, List.setIfInBounds_toArray, List.set_cons_zero, List.set_cons_succ]
                      refine wpAnyH_re 22 #[true, true, true, true, true, true, true, true, true, true, true, true, true, true, true, true, true, true, true, true, true, true, true, true, false, false, false, false, false, false, false, false, false, false, false, false, false, false, false, false, false, false, false, false, false, false] (by kernel_rfl) (by kernel_rfl) ?_
                      refine wpAnyH_take (i := 24) (oi := ⟨some 110, _, _, _, _, _⟩) (v := undef) rfl (by kernel_rfl) (by kernel_rfl) (by kernel_rfl) (fun _ _ _ h => h) (Or.inr ⟨by kernel_rfl, rfl⟩) hH2 ?_
                      simp only [Act.put, List.setIfInBounds_toArray, List.set_cons_zero, List.set_cons_succ]
                      refine wpAnyH_re 21 #[true, true, true, true, true, true, true, true, true, true, true, true, true, true, true, true, true, true, true, true, true, true, true, true, true, false, false, false, false, false, false, false, false, false, false, false, false, false, false, false, false, false, false, false, false, false] (by kernel_rfl) (by kernel_rfl) ?_
                      refine wpAnyH_take (i := 25) (oi := ⟨some 111, _, _, _, _, _⟩) (v := .bool true) rfl (by kernel_rfl) (by kernel_rfl) (by kernel_rfl) (fun _ _ _ h => h) (Or.inl ⟨by kernel_rfl, fun w hS => by go_simp⟩) hH2 ?_
                      simp only [Act.put, List.setIfInBounds_toArray, List.set_cons_zero, List.set_cons_succ]
                      refine wpAnyH_re 20 #[true, true, true, true, true, true, true, true, true, true, true, true, true, true, true, true, true, true, true, true, true, true, true, true, true, true, false, false, false, false, false, false, false, false, false, false, false, false, false, false, false, false, false, false, false, false] (by kernel_rfl) (by kernel_rfl) ?_
                      refine wpAnyH_take (i := 26) (oi := ⟨some 112, _, _, _, _, _⟩) (v := .bool true) rfl (by kernel_rfl) (by kernel_rfl) (by kernel_rfl) (fun _ _ _ h => h) (Or.inl ⟨by kernel_rfl, fun w hS => by go_simp⟩) hH2 ?_
                      simp only [Act.put, List.setIfInBounds_toArray, List.set_cons_zero, List.set_cons_succ]
                      refine wpAnyH_re 19 #[true, true, true, true, true, true, true, true, true, true, true, true, true, true, true, true, true, true, true, true, true, true, true, true, true, true, true, false, false, false, false, false, false, false, false, false, false, false, false, false, false, false, false, false, false, false] (by kernel_rfl) (by kernel_rfl) ?_
                      refine wpAnyH_take (i := 27) (oi := ⟨some 113, _, _, _, _, _⟩) (v := undef) rfl (by kernel_rfl) (by kernel_rfl) (by kernel_rfl) (fun _ _ _ h => h) (Or.inr ⟨by kernel_rfl, rfl⟩) hH2 ?_
                      simp only [Act.put, List.setIfInBounds_toArray, List.set_cons_zero, List.set_cons_succ]
                      refine wpAnyH_re 18 #[true, true, true, true, true, true, true, true, true, true, true, true, true, true, true, true, true, true, true, true, true, true, true, true, true, true, true, true, false, false, false, false, false, false, false, false, false, false, false, false, false, false, false, false, false, false] (by kernel_rfl) (by kernel_rfl) ?_
                      refine wpAnyH_take (i := 28) (oi := ⟨some 114, _, _, _, _, _⟩) (v := undef) rfl (by kernel_rfl) (by kernel_rfl) (by kernel_rfl) (fun _ _ _ h => h) (Or.inr ⟨by kernel_rfl, rfl⟩) hH2 ?_
                      simp only [Act.put, List.setIfInBounds_toArray, List.set_cons_zero, List.set_cons_succ]
                      refine wpAnyH_re 17 #[true, true, true, true, true, true, true, true, true, true, true, true, true, true, true, true, true, true, true, true, true, true, true, true, true, true, true, true, true, false, false, false, false, false, false, false, false, false, false, false, false, false, false, false, false, false] (by kernel_rfl) (by kernel_rfl) ?_
                      refine wpAnyH_take (i := 29) (oi := ⟨some 115, _, _, _, _, _⟩) (v := undef) rfl (by kernel_rfl) (by kernel_rfl) (by kernel_rfl) (fun _ _ _ h => h) (Or.inr ⟨by kernel_rfl, rfl⟩) hH2 ?_
                      simp only [Act.put, List.setIfInBounds_toArray, List.set_cons_zero, List.set_cons_succ]
                      refine wpAnyH_re 16 #[true, true, true, true, true, true, true, true, true, true, true, true, true, true, true, true, true, true, true, true, true, true, true, true, true, true, true, true, true, true, false, false, false, false, false, false, false, false, false, false, false, false, false, false, false, false] (by kernel_rfl) (by kernel_rfl) ?_
                      refine wpAnyH_take (i := 30) (oi := ⟨some 116, _, _, _, _, _⟩) (v := undef) rfl (by kernel_rfl) (by kernel_rfl) (by kernel_rfl) (fun _ _ _ h => h) (Or.inr ⟨by kernel_rfl, rfl⟩) hH2 ?_
                      simp only [Act.put, List.setIfInBounds_toArray, List.set_cons_zero, List.set_cons_succ]
                      refine wpAnyH_re 15 #[true, true, true, true, true, true, true, true, true, true, true, true, true, true, true, true, true, true, true, true, true, true, true, true, true, true, true, true, true, true, true, false, false, false, false, false, false, false, false, false, false, false, false, false, false, false] (by kernel_rfl) (by kernel_rfl) ?_
                      refine wpAnyH_take (i := 31) (oi := ⟨some 117, _, _, _, _, _⟩) (v := undef) rfl (by kernel_rfl) (by kernel_rfl) (by kernel_rfl) (fun _ _ _ h => h) (Or.inr ⟨by kernel_rfl, rfl⟩) hH2 ?_
                      simp only [Act.put, List.setIfInBounds_toArray, List.set_cons_zero, List.set_cons_succ]
                      refine wpAnyH_re 14 #[true, true, true, true, true, true, true, true, true, true, true, true, true, true, true, true, true, true, true, true, true, true, true, true, true, true, true, true, true, true, true, true, false, false, false, false, false, false, false, false, false, false, false, false, false, false] (by kernel_rfl) (by kernel_rfl) ?_
                      refine wpAnyH_take (i := 32) (oi := ⟨some 118, _, _, _, _, _⟩) (v := undef) rfl (by kernel_rfl) (by kernel_rfl) (by kernel_rfl) (fun _ _ _ h => h) (Or.inr ⟨by kernel_rfl, rfl⟩) hH2 ?_
                      simp only [Act.put, List.setIfInBounds_toArray, List.set_cons_zero, List.set_cons_succ]
                      refine wpAnyH_re 13 #[true, true, true, true, true, true, true, true, true, true, true, true, true, true, true, true, true, true, true, true, true, true, true, true, true, true, true, true, true, true, true, true, true, false, false, false, false, false, false, false, false, false, false, false, false, false] (by kernel_rfl) (by kernel_rfl) ?_
                      refine wpAnyH_take (i := 33) (oi := ⟨some 119, _, _, _, _, _⟩) (v := undef) rfl (by kernel_rfl) (by kernel_rfl) (by kernel_rfl) (fun _ _ _ h => h) (Or.inr ⟨by kernel_rfl, rfl⟩) hH2 ?_
                      simp only [Act.put, List.setIfInBounds_toArray, List.set_cons_zero, List.set_cons_succ]
                      refine wpAnyH_re 12 #[true, true, true, true, true, true, true, true, true, true, true, true, true, true, true, true, true, true, true, true, true, true, true, true, true, true, true, true, true, true, true, true, true, true, false, false, false, false, false, false, false, false, false, false, false, false] (by kernel_rfl) (by kernel_rfl) ?_
                      refine wpAnyH_take (i := 34) (oi := ⟨some 120, _, _, _, _, _⟩) (v := undef) rfl (by kernel_rfl) (by kernel_rfl) (by kernel_rfl) (fun _ _ _ h => h) (Or.inr ⟨by kernel_rfl, rfl⟩) hH2 ?_
                      simp only [Act.put, List.setIfInBounds_toArray, List.set_cons_zero, List.set_cons_succ]
                      refine wpAnyH_re 11 #[true, true, true, true, true, true, true, true, true, true, true, true, true, true, true, true, true, true, true, true, true, true, true, true, true, true, true, true, true, true, true, true, true, true, true, false, false, false, false, false, false, false, false, false, false, false] (by kernel_rfl) (by kernel_rfl) ?_
                      refine wpAnyH_take (i := 35) (oi := ⟨some 121, _, _, _, _, _⟩) (v := .bool true) rfl (by kernel_rfl) (by kernel_rfl) (by kernel_rfl) (fun _ _ _ h => h) (Or.inl ⟨by kernel_rfl, fun w hS => by go_simp⟩) hH2 ?_
                      simp only [Act.put, List.setIfInBounds_toArray, List.set_cons_zero, List.set_cons_succ]
                      refine wpAnyH_re 10 #[true, true, true, true, true, true, true, true, true, true, true, true, true, true, true, true, true, true, true, true, true, true, true, true, true, true, true, true, true, true, true, true, true, true, true, true, false, false, false, false, false, false, false, false, false, false] (by kernel_rfl) (by kernel_rfl) ?_
                      refine wpAnyH_take (i := 36) (oi := ⟨some 122, _, _, _, _, _⟩) (v := .bool true) rfl (by kernel_rfl) (by kernel_rfl) (by kernel_rfl) (fun _ _ _ h => h) (Or.inl ⟨by kernel_rfl, fun w hS => by go_simp⟩) hH2 ?_
                      simp only [Act.put, List.setIfInBounds_toArray, List.set_cons_zero, List.set_cons_succ]
                      refine wpAnyH_re 9 #[true, true, true, true, true, true, true, true, true, true, true, true, true, true, true, true, true, true, true, true, true, true, true, true, true, true, true, true, true, true, true, true, true, true, true, true, true, false, false, false, false, false, false, false, false, false] (by kernel_rfl) (by kernel_rfl) ?_
                      refine wpAnyH_take (i := 37) (oi := ⟨some 123, _, _, _, _, _⟩) (v := undef) rfl (by kernel_rfl) (by kernel_rfl) (by kernel_rfl) (fun _ _ _ h => h) (Or.inr ⟨by kernel_rfl, rfl⟩) hH2 ?_
                      simp only [Act.put, List.setIfInBounds_toArray, List.set_cons_zero, List.set_cons_succ]
                      refine wpAnyH_re 8 #[true, true, true, true, true, true, true, true, true, true, true, true, true, true, true, true, true, true, true, true, true, true, true, true, true, true, true, true, true, true, true, true, true, true, true, true, true, true, false, false, false, false, false, false, false, false] (by kernel_rfl) (by kernel_rfl) ?_
                      refine wpAnyH_take (i := 38) (oi := ⟨some 124, _, _, _, _, _⟩) (v := undef) rfl (by kernel_rfl) (by kernel_rfl) (by kernel_rfl) (fun _ _ _ h => h) (Or.inr ⟨by kernel_rfl, rfl⟩) hH2 ?_
                      simp only [Act.put, List.setIfInBounds_toArray, List.set_cons_zero, List.set_cons_succ]
                      refine wpAnyH_re 7 #[true, true, true, true, true, true, true, true, true, true, true, true, true, true, true, true, true, true, true, true, true, true, true, true, true, true, true, true, true, true, true, true, true, true, true, true, true, true, true, false, false, false, false, false, false, false] (by kernel_rfl) (by kernel_rfl) ?_
                      refine wpAnyH_take (i := 39) (oi := ⟨some 125, _, _, _, _, _⟩) (v := undef) rfl (by kernel_rfl) (by kernel_rfl) (by kernel_rfl) (fun _ _ _ h => h) (Or.inr ⟨by kernel_rfl, rfl⟩) hH2 ?_
                      simp only [Act.put, List.setIfInBounds_toArray, List.set_cons_zero, List.set_cons_succ]
                      refine wpAnyH_re 6 #[true, true, true, true, true, true, true, true, true, true, true, true, true, true, true, true, true, true, true, true, true, true, true, true, true, true, true, true, true, true, true, true, true, true, true, true, true, true, true, true, false, false, false, false, false, false] (by kernel_rfl) (by kernel_rfl) ?_
                      refine wpAnyH_take (i := 40) (oi := ⟨some 126, _, _, _, _, _⟩) (v := undef) rfl (by kernel_rfl) (by kernel_rfl) (by kernel_rfl) (fun _ _ _ h => h) (Or.inr ⟨by kernel_rfl, rfl⟩) hH2 ?_
                      simp only [Act.put, List.setIfInBounds_toArray, List.set_cons_zero, List.set_cons_succ]
                      refine wpAnyH_re 5 #[true, true, true, true, true, true, true, true, true, true, true, true, true, true, true, true, true, true, true, true, true, true, true, true, true, true, true, true, true, true, true, true, true, true, true, true, true, true, true, true, true, false, false, false, false, false] (by kernel_rfl) (by kernel_rfl) ?_
                      refine wpAnyH_take (i := 41) (oi := ⟨some 127, _, _, _, _, _⟩) (v := undef) rfl (by kernel_rfl) (by kernel_rfl) (by kernel_rfl) (fun _ _ _ h => h) (Or.inr ⟨by kernel_rfl, rfl⟩) hH2 ?_
                      simp only [Act.put, List.setIfInBounds_toArray, List.set_cons_zero, List.set_cons_succ]
                      refine wpAnyH_re 4 #[true, true, true, true, true, true, true, true, true, true, true, true, true, true, true, true, true, true, true, true, true, true, true, true, true, true, true, true, true, true, true, true, true, true, true, true, true, true, true, true, true, true, false, false, false, false] (by kernel_rfl) (by kernel_rfl) ?_
                      refine wpAnyH_take (i := 42) (oi := ⟨some 128, _, _, _, _, _⟩) (v := undef) rfl (by kernel_rfl) (by kernel_rfl) (by kernel_rfl) (fun _ _ _ h => h) (Or.inr ⟨by kernel_rfl, rfl⟩) hH2 ?_
                      simp only [Act.put, List.setIfInBounds_toArray, List.set_cons_zero, List.set_cons_succ]
                      refine wpAnyH_re 3 #[true, true, true, true, true, true, true, true, true, true, true, true, true, true, true, true, true, true, true, true, true, true, true, true, true, true, true, true, true, true, true, true, true, true, true, true, true, true, true, true, true, true, true, false, false, false] (by kernel_rfl) (by kernel_rfl) ?_
                      refine wpAnyH_take (i := 43) (oi := ⟨some 129, _, _, _, _, _⟩) (v := undef) rfl (by kernel_rfl) (by kernel_rfl) (by kernel_rfl) (fun _ _ _ h => h) (Or.inr ⟨by kernel_rfl, rfl⟩) hH2 ?_
                      simp only [Act.put, List.setIfInBounds_toArray, List.set_cons_zero, List.set_cons_succ]
                      refine wpAnyH_re 2 #[true, true, true, true, true, true, true, true, true, true, true, true, true, true, true, true, true, true, true, true, true, true, true, true, true, true, true, true, true, true, true, true, true, true, true, true, true, true, true, true, true, true, true, true, false, false] (by kernel_rfl) (by kernel_rfl) ?_
                      refine wpAnyH_take (i := 44) (oi := ⟨some 130, _, _, _, _, _⟩) (v := undef) rfl (by kernel_rfl) (by kernel_rfl) (by kernel_rfl) (fun _ _ _ h => h) (Or.inr ⟨by kernel_rfl, rfl⟩) hH2 ?_
                      simp only [Act.put, List.setIfInBounds_toArray, List.set_cons_zero, List.set_cons_succ]
                      refine wpAnyH_re 1 #[true, true, true, true, true, true, true, true, true, true, true, true, true, true, true, true, true, true, true, true, true, true, true, true, true, true, true, true, true, true, true, true, true, true, true, true, true, true, true, true, true, true, true, true, true, false] (by kernel_rfl) (by kernel_rfl) ?_
                      refine wpAnyH_take (i := 45) (oi := ⟨some 131, _, _, _, _, _⟩) (v := .bool true) rfl (by kernel_rfl) (by kernel_rfl) (by kernel_rfl) (fun _ _ _ h => h) (Or.inl ⟨by kernel_rfl, fun w hS => by go_simp⟩) hH2 ?_
                      simp only [Act.put, List.setIfInBounds_toArray, List.set_cons_zero, List.set_cons_succ]
                      refine wpAnyH_done (by kernel_rfl) ?_ _
                      have HM7 := Lib.hid (HM4.out.step HB1.out)
                      clear hH2
                      go_wp2_with fail
                      go_ret
                      exact ⟨by rw [HF.out]; rfl, HM7.out.below⟩
                  | true =>
                    refine wpAnyH_re 39 #[true, true, true, true, true, true, true, false, false, false, false, false, false, false, false, false, false, false, false, false, false, false, false, false, false, false, false, false, false, false, false, false, false, false, false, false, false, false, false, false, false, false, false, false, false, false] (by kernel_rfl) (by kernel_rfl) ?_
                    refine wpAnyH_take (i := 7) (oi := ⟨some 93, _, _, _, _, _⟩) (v := .bool false) rfl (by kernel_rfl) (by kernel_rfl) (by kernel_rfl) (fun _ _ _ h => h) (Or.inl ⟨by kernel_rfl, fun w hS => by go_simp⟩) hH2 ?_
                    simp only [Act.put, List.setIfInBounds_toArray, List.set_cons_zero, List.set_cons_succ]
                    refine wpAnyH_re 38 #[true, true, true, true, true, true, true, true, false, false, false, false, false, false, false, false, false, false, false, false, false, false, false, false, false, false, false, false, false, false, false, false, false, false, false, false, false, false, false, false, false, false, false, false, false, false] (by kernel_rfl) (by kernel_rfl) ?_
                    refine wpAnyH_take (i := 8) (oi := ⟨some 94, _, _, _, _, _⟩) (v := .bool false) rfl (by kernel_rfl) (by kernel_rfl) (by kernel_rfl) (fun _ _ _ h => h) (Or.inl ⟨by kernel_rfl, fun w hS => by go_simp⟩) hH2 ?_
                    simp only [Act.put, List.setIfInBounds_toArray, List.set_cons_zero, List.set_cons_succ]
                    refine wpAnyH_re 37 #[true, true, true, true, true, true, true, true, true, false, false, false, false, false, false, false, false, false, false, false, false, false, false, false, false, false, false, false, false, false, false, false, false, false, false, false, false, false, false, false, false, false, false, false, false, false] (by kernel_rfl) (by kernel_rfl) ?_
                    refine wpAnyH_take (i := 9) (oi := ⟨some 95, _, _, _, _, _⟩) (v := .pointer (some ⟨gx, 2, none⟩)) rfl (by kernel_rfl) (by kernel_rfl) (by kernel_rfl) (fun _ _ _ h => h) (Or.inl ⟨by kernel_rfl, fun w hS => by go_simp⟩) hH2 ?_
                    simp only [Act.put, List.setIfInBounds_toArray, List.set_cons_zero, List.set_cons_succ]
                    refine wpAnyH_re 36 #[true, true, true, true, true, true, true, true, true, true, false, false, false, false, false, false, false, false, false, false, false, false, false, false, false, false, false, false, false, false, false, false, false, false, false, false, false, false, false, false, false, false, false, false, false, false] (by kernel_rfl) (by kernel_rfl) ?_
                    refine wpAnyH_take (i := 10) (oi := ⟨some 96, _, _, _, _, _⟩) (v := .slice pa m1 pc) rfl (by kernel_rfl) (by kernel_rfl) (by kernel_rfl) (fun _ _ _ h => h) (Or.inl ⟨by kernel_rfl, fun w hS => by obtain ⟨⟨u0, u1, u2⟩, u3, u4, u5, u6, u7⟩ := hS; go_simp⟩) hH2 ?_
                    simp only [Act.put, List.setIfInBounds_toArray, List.set_cons_zero, List.set_cons_succ]
                    refine wpAnyH_re 35 #[true, true, true, true, true, true, true, true, true, true, true, false, false, false, false, false, false, false, false, false, false, false, false, false, false, false, false, false, false, false, false, false, false, false, false, false, false, false, false, false, false, false, false, false, false, false] (by kernel_rfl) (by kernel_rfl) ?_
                    refine wpAnyH_take (i := 11) (oi := ⟨some 97, _, _, _, _, _⟩) (v := .pointer (some ⟨gl, 0, none⟩)) rfl (by kernel_rfl) (by kernel_rfl) (by kernel_rfl) (fun _ _ _ h => h) (Or.inl ⟨by kernel_rfl, fun w hS => by go_simp⟩) hH2 ?_
                    simp only [Act.put, List.setIfInBounds_toArray, List.set_cons_zero, List.set_cons_succ]
                    refine wpAnyH_re 34 #[true, true, true, true, true, true, true, true, true, true, true, true, false, false, false, false, false, false, false, false, false, false, false, false, false, false, false, false, false, false, false, false, false, false, false, false, false, false, false, false, false, false, false, false, false, false] (by kernel_rfl) (by kernel_rfl) ?_
                    refine wpAnyH_take (i := 12) (oi := ⟨some 98, _, _, _, _, _⟩) (v := .slice a1 n1 c1) rfl (by kernel_rfl) (by kernel_rfl) (by kernel_rfl) (fun _ _ _ h => h) (Or.inl ⟨by kernel_rfl, fun w hS => by obtain ⟨⟨u0, u1, u2⟩, u3, u4, u5, u6, u7⟩ := hS; go_simp⟩) hH2 ?_
                    simp only [Act.put, List.setIfInBounds_toArray, List.set_cons_zero, List.set_cons_succ]
                    refine wpAnyH_re 33 #[true, true, true, true, true, true, true, true, true, true, true, true, true, false, false, false, false, false, false, false, false, false, false, false, false, false, false, false, false, false, false, false, false, false, false, false, false, false, false, false, false, false, false, false, false, false] (by kernel_rfl) (by kernel_rfl) ?_
                    refine wpAnyH_take (i := 13) (oi := ⟨some 99, _, _, _, _, _⟩) (v := .int .i64 (n1 : Int)) rfl (by kernel_rfl) (by kernel_rfl) (by kernel_rfl) (fun _ _ _ h => h) (Or.inl ⟨by kernel_rfl, fun w hS => by go_simp⟩) hH2 ?_
                    simp only [Act.put, List.setIfInBounds_toArray, List.set_cons_zero, List.set_cons_succ]
                    refine wpAnyH_re 32 #[true, true, true, true, true, true, true, true, true, true, true, true, true, true, false, false, false, false, false, false, false, false, false, false, false, false, false, false, false, false, false, false, false, false, false, false, false, false, false, false, false, false, false, false, false, false] (by kernel_rfl) (by kernel_rfl) ?_
                    refine wpAnyH_ready (rs := [14]) (by kernel_rfl) (by simp) (AllReadyH.cons (o := ⟨some 100, _, _, _, _, _⟩) rfl (fun K hK => ?_) AllReadyH.nil)
                    go_simp
                    refine (HQ1.out _ HB1.out).mono ?_
                    rintro e w9 ⟨rfl, rfl⟩
                    refine hK.out _ _ (HS9.out _ HB1.out) (fun hH3 => ?_)
                    clear hK K hH2
                    cases b1 with
                    | false =>
                      as_aux_lemma =>
                        have HF := Lib.hid (may_no5 (L := L) (by rw [N1.out, N2.out, N3.out]; exact all_bad HY.out (rr_2 B1.out)))
                        refine wpAnyH_re 31 #[true, true, true, true, true, true, true, true, true, true, true, true, true, true, true, false, false, false, false, false, false, false, false, false, false, false, false, false, false, false, false, false, false, false, false, false, false, false, false, false, false, false, false, false, false, false] (by kernel_rfl) (by kernel_rfl) ?_
                        refine wpAnyH_take (i := 15) (oi := ⟨some 101, _, _, _, _, _⟩) (v := .bool true) rfl (by kernel_rfl) (by kernel_rfl) (by kernel_rfl) (fun _ _ _ h => h) (Or.inl ⟨by kernel_rfl, fun w hS => by go_simp⟩) hH3 ?_
                        simp only [Act.put, List.setIfInBounds_toArray, List.set_cons_zero, List.set_cons_succ]
                        refine wpAnyH_re 30 #[true, true, true, true, true, true, true, true, true, true, true, true, true, true, true, true, false, false, false, false, false, false, false, false, false, false, false, false, false, false, false, false, false, false, false, false, false, false, false, false, false, false, false, false, false, false] (by kernel_rfl) (by kernel_rfl) ?_
                        refine wpAnyH_take (i := 16) (oi := ⟨some 102, _, _, _, _, _⟩) (v := .bool true) rfl (by kernel_rfl) (by kernel_rfl) (by kernel_rfl) (fun _ _ _ h => h) (Or.inl ⟨by kernel_rfl, fun w hS => by go_simp⟩) hH3 ?_
                        simp only [Act.put, List.setIfInBounds_toArray, List.set_cons_zero, List.set_cons_succ]
                        refine wpAnyH_re 29 #[true, true, true, true, true, true, true, true, true, true, true, true, true, true, true, true, true, false, false, false, false, false, false, false, false, false, false, false, false, false, false, false, false, false, false, false, false, false, false, false, false, false, false, false, false, false] (by kernel_rfl) (by kernel_rfl) ?_
                        refine wpAnyH_take (i := 17) (oi := ⟨some 103, _, _, _, _, _⟩) (v := .bool true) rfl (by kernel_rfl) (by kernel_rfl) (by kernel_rfl) (fun _ _ _ h => h) (Or.inl ⟨by kernel_rfl, fun w hS => by go_simp⟩) hH3 ?_
                        simp only [Act.put, List.setIfInBounds_toArray, List.set_cons_zero, List.set_cons_succ]
                        refine wpAnyH_re 28 #[true, true, true, true, true, true, true, true, true, true, true, true, true, true, true, true, true, true, false, false, false, false, false, false, false, false, false, false, false, false, false, false, false, false, false, false, false, false, false, false, false, false, false, false, false, false] (by kernel_rfl) (by kernel_rfl) ?_
                        refine wpAnyH_take (i := 18) (oi := ⟨some 104, _, _, _, _, _⟩) (v := undef) rfl (by kernel_rfl) (by kernel_rfl) (by kernel_rfl) (fun _ _ _ h => h) (Or.inr ⟨by kernel_rfl, rfl⟩) hH3 ?_
                        simp only [Act.put, List.setIfInBounds_toArray, List.set_cons_zero, List.set_cons_succ]
                        refine wpAnyH_re 27 #[true, true, true, true, true, true, true, true, true, true, true, true, true, true, true, true, true, true, true, false, false, false, false, false, false, false, false, false, false, false, false, false, false, false, false, false, false, false, false, false, false, false, false, false, false, false] (by kernel_rfl) (by kernel_rfl) ?_
                        refine wpAnyH_take (i := 19) (oi := ⟨some 105, _, _, _, _, _⟩) (v := undef) rfl (by kernel_rfl) (by kernel_rfl) (by kernel_rfl) (fun _ _ _ h => h) (Or.inr ⟨by kernel_rfl, rfl⟩) hH3 ?_
                        simp only [Act.put, List.setIfInBounds_toArray, List.set_cons_zero, List.set_cons_succ]
                        refine wpAnyH_re 26 #[true, true, true, true, true, true, true, true, true, true, true, true, true, true, true, true, true, true, true, true, false, false, false, false, false, false, false, false, false, false, false, false, false, false, false, false, false, false, false, false, false, false, false, false, false, false] (by kernel_rfl) (by kernel_rfl) ?_
                        refine wpAnyH_take (i := 20) (oi := ⟨some 106, _, _, _, _, _⟩) (v := undef) rfl (by kernel_rfl) (by kernel_rfl) (by kernel_rfl) (fun _ _ _ h => h) (Or.inr ⟨by kernel_rfl, rfl⟩) hH3 ?_
                        simp only [Act.put, List.setIfInBounds_toArray, List.set_cons_zero, List.set_cons_succ]
                        refine wpAnyH_re 25 #[true, true, true, true, true, true, true, true, true, true, true, true, true, true, true, true, true, true, true, true, true, false, false, false, false, false, false, false, false, false, false, false, false, false, false, false, false, false, false, false, false, false, false, false, false, false] (by kernel_rfl) (by kernel_rfl) ?_
                        refine wpAnyH_take (i := 21) (oi := ⟨some 107, _, _, _, _, _⟩) (v := undef) rfl (by kernel_rfl) (by kernel_rfl) (by kernel_rfl) (fun _ _ _ h => h) (Or.inr ⟨by kernel_rfl, rfl⟩) hH3 ?_
                        simp only [Act.put, List.setIfInBounds_toArray, List.set_cons_zero, List.set_cons_succ]
                        refine wpAnyH_re 24 #[true, true, true, true, true, true, true, true, true, true, true, true, true, true, true, true, true, true, true, true, true, true, false, false, false, false, false, false, false, false, false, false, false, false, false, false, false, false, false, false, false, false, false, false, false, false] (by kernel_rfl) (by kernel_rfl) ?_
                        refine wpAnyH_take (i := 22) (oi := ⟨some 108, _, _, _, _, _⟩) (v := undef) rfl (by kernel_rfl) (by kernel_rfl) (by kernel_rfl) (fun _ _ _ h => h) (Or.inr ⟨by kernel_rfl, rfl⟩) hH3 ?_
                        simp only [Act.put, List.setIfInBounds_toArray, List.set_cons_zero, List.set_cons_succ]
                        refine wpAnyH_re 23 #[true, true, true, true, true, true, true, true, true, true, true, true, true, true, true, true, true, true, true, true, true, true, true, false, false, false, false, false, false, false, false, false, false, false, false, false, false, false, false, false, false, false, false, false, false, false] (by kernel_rfl) (by kernel_rfl) ?_
                        refine wpAnyH_take (i := 23) (oi := ⟨some 109, _, _, _, _, _⟩) (v := undef) rfl (by kernel_rfl) (by kernel_rfl) (by kernel_rfl) (fun _ _ _ h => h) (Or.inr ⟨by kernel_rfl, rfl⟩) hH3 ?_
                        simp only [Act.put, List.setIfInBounds_toArray, List.set_cons_zero, List.set_cons_succ]
                        refine wpAnyH_re 22 #[true, true, true, true, true, true, true, true, true, true, true, true, true, true, true, true, true, true, true, true, true, true, true, true, false, false, false, false, false, false, false, false, false, false, false, false, false, false, false, false, false, false, false, false, false, false] (by kernel_rfl) (by kernel_rfl) ?_
                        refine wpAnyH_take (i := 24) (oi := ⟨some 110, _, _, _, _, _⟩) (v := undef) rfl (by kernel_rfl) (by kernel_rfl) (by kernel_rfl) (fun _ _ _ h => h) (Or.inr ⟨by kernel_rfl, rfl⟩) hH3 ?_
                        simp only [Act.put, List.setIfInBounds_toArray, List.set_cons_zero, List.set_cons_succ]
                        refine wpAnyH_re 21 #[true, true, true, true, true, true, true, true, true, true, true, true, true, true, true, true, true, true, true, true, true, true, true, true, true, false, false, false, false, false, false, false, false, false, false, false, false, false, false, false, false, false, false, false, false, false] (by kernel_rfl) (by kernel_rfl) ?_
                        refine wpAnyH_take (i := 25) (oi := ⟨some 111, _, _, _, _, _⟩) (v := .bool true) rfl (by kernel_rfl) (by kernel_rfl) (by kernel_rfl) (fun _ _ _ h => h) (Or.inl ⟨by kernel_rfl, fun w hS => by go_simp⟩) hH3 ?_
                        simp only [Act.put, List.setIfInBounds_toArray, List.set_cons_zero, List.set_cons_succ]
                        refine wpAnyH_re 20 #[true, true, true, true, true, true, true, true, true, true, true, true, true, true, true, true, true, true, true, true, true, true, true, true, true, true, false, false, false, false, false, false, false, false, false, false, false, false, false, false, false, false, false, false, false, false] (by kernel_rfl) (by kernel_rfl) ?_
                        refine wpAnyH_take (i := 26) (oi := ⟨some 112, _, _, _, _, _⟩) (v := .bool true) rfl (by kernel_rfl) (by kernel_rfl) (by kernel_rfl) (fun _ _ _ h => h) (Or.inl ⟨by kernel_rfl, fun w hS => by go_simp⟩) hH3 ?_
                        simp only [Act.put, List.setIfInBounds_toArray, List.set_cons_zero, List.set_cons_succ]
                        refine wpAnyH_re 19 #[true, true, true, true, true, true, true, true, true, true, true, true, true, true, true, true, true, true, true, true, true, true, true, true, true, true, true, false, false, false, false, false, false, false, false, false, false, false, false, false, false, false, false, false, false, false] (by kernel_rfl) (by kernel_rfl) ?_
                        refine wpAnyH_take (i := 27) (oi := ⟨some 113, _, _, _, _, _⟩) (v := undef) rfl (by kernel_rfl) (by kernel_rfl) (by kernel_rfl) (fun _ _ _ h => h) (Or.inr ⟨by kernel_rfl, rfl⟩) hH3 ?_
                        simp only [Act.put, List.setIfInBounds_toArray, List.set_cons_zero, List.set_cons_succ]
                        refine wpAnyH_re 18 #[true, true, true, true, true, true, true, true, true, true, true, true, true, true, true, true, true, true, true, true, true, true, true, true, true, true, true, true, false, false, false, false, false, false, false, false, false, false, false, false, false, false, false, false, false, false] (by kernel_rfl) (by kernel_rfl) ?_
                        refine wpAnyH_take (i := 28) (oi := ⟨some 114, _, _, _, _, _⟩) (v := undef) rfl (by kernel_rfl) (by kernel_rfl) (by kernel_rfl) (fun _ _ _ h => h) (Or.inr ⟨by kernel_rfl, rfl⟩) hH3 ?_
                        simp only [Act.put, List.setIfInBounds_toArray, List.set_cons_zero, List.set_cons_succ]
                        refine wpAnyH_re 17 #[true, true, true, true, true, true, true, true, true, true, true, true, true, true, true, true, true, true, true, true, true, true, true, true, true, true, true, true, true, false, false, false, false, false, false, false, false, false, false, false, false, false, false, false, false, false] (by kernel_rfl) (by kernel_rfl) ?_
                        refine wpAnyH_take (i := 29) (oi := ⟨some 115, _, _, _, _, _⟩) (v := undef) rfl (by kernel_rfl) (by kernel_rfl) (by kernel_rfl) (fun _ _ _ h => h) (Or.inr ⟨by kernel_rfl, rfl⟩) hH3 ?_
                        simp only [Act.put, List.setIfInBounds_toArray, List.set_cons_zero, List.set_cons_succ]
                        refine wpAnyH_re 16 #[true, true, true, true, true, true, true, true, true, true, true, true, true, true, true, true, true, true, true, true, true, true, true, true, true, true, true, true, true, true, false, false, false, false, false, false, false, false, false, false, false, false, false, false, false, false] (by kernel_rfl) (by kernel_rfl) ?_
                        refine wpAnyH_take (i := 30) (oi := ⟨some 116, _, _, _, _, _⟩) (v := undef) rfl (by kernel_rfl) (by kernel_rfl) (by kernel_rfl) (fun _ _ _ h => h) (Or.inr ⟨by kernel_rfl, rfl⟩) hH3 ?_
                        simp only [Act.put, List.setIfInBounds_toArray, List.set_cons_zero, List.set_cons_succ]
                        refine wpAnyH_re 15 #[true, true, true, true, true, true, true, true, true, true, true, true, true, true, true, true, true, true, true, true, true, true, true, true, true, true, true, true, true, true, true, false, false, false, false, false, false, false, false, false, false, false, false, false, false, false] (by kernel_rfl) (by kernel_rfl) ?_
                        refine wpAnyH_take (i := 31) (oi := ⟨some 117, _, _, _, _, _⟩) (v := undef) rfl (by kernel_rfl) (by kernel_rfl) (by kernel_rfl) (fun _ _ _ h => h) (Or.inr ⟨by kernel_rfl, rfl⟩) hH3 ?_
                        simp only [Act.put, List.setIfInBounds_toArray, List.set_cons_zero, List.set_cons_succ]
                        refine wpAnyH_re 14 #[true, true, true, true, true, true, true, true, true, true, true, true, true, true, true, true, true, true, true, true, true, true, true, true, true, true, true, true, true, true, true, true, false, false, false, false, false, false, false, false, false, false, false, false, false, false] (by kernel_rfl) (by kernel_rfl) ?_
                        refine wpAnyH_take (i := 32) (oi := ⟨some 118, _, _, _, _, _⟩) (v := undef) rfl (by kernel_rfl) (by kernel_rfl) (by kernel_rfl) (fun _ _ _ h => h) (Or.inr ⟨by kernel_rfl, rfl⟩) hH3 ?_
                        simp only [Act.put, List.setIfInBounds_toArray, List.set_cons_zero, List.set_cons_succ]
                        refine wpAnyH_re 13 #[true, true, true, true, true, true, true, true, true, true, true, true, true, true, true, true, true, true, true, true, true, true, true, true, true, true, true, true, true, true, true, true, true, false, false, false, false, false, false, false, false, false, false, false, false, false] (by kernel_rfl) (by kernel_rfl) ?_
                        refine wpAnyH_take (i := 33) (oi := ⟨some 119, _, _, _, _, _⟩) (v := undef) rfl (by kernel_rfl) (by kernel_rfl) (by kernel_rfl) (fun _ _ _ h => h) (Or.inr ⟨by kernel_rfl, rfl⟩) hH3 ?_
                        simp only [Act.put, List.setIfInBounds_toArray, List.set_cons_zero, List.set_cons_succ]
                        refine wpAnyH_re 12 #[true, true, true, true, true, true, true, true, true, true, true, true, true, true, true, true, true, true, true, true, true, true, true, true, true, true, true, true, true, true, true, true, true, true, false, false, false, false, false, false, false, false, false, false, false, false] (by kernel_rfl) (by kernel_rfl) ?_
                        refine wpAnyH_take (i := 34) (oi := ⟨some 120, _, _, _, _, _⟩) (v := undef) rfl (by kernel_rfl) (by kernel_rfl) (by kernel_rfl) (fun _ _ _ h => h) (Or.inr ⟨by kernel_rfl, rfl⟩) hH3 ?_
                        simp only [Act.put, List.setIfInBounds_toArray, List.set_cons_zero, List.set_cons_succ]
                        refine wpAnyH_re 11 #[true, true, true, true, true, true, true, true, true, true, true, true, true, true, true, true, true, true, true, true, true, true, true, true, true, true, true, true, true, true, true, true, true, true, true, false, false, false, false, false, false, false, false, false, false, false] (by kernel_rfl) (by kernel_rfl) ?_
                        refine wpAnyH_take (i := 35) (oi := ⟨some 121, _, _, _, _, _⟩) (v := .bool true) rfl (by kernel_rfl) (by kernel_rfl) (by kernel_rfl) (fun _ _ _ h => h) (Or.inl ⟨by kernel_rfl, fun w hS => by go_simp⟩) hH3 ?_
                        simp only [Act.put, List.setIfInBounds_toArray, List.set_cons_zero, List.set_cons_succ]
                        refine wpAnyH_re 10 #[true, true, true, true, true, true, true, true, true, true, true, true, true, true, true, true, true, true, true, true, true, true, true, true, true, true, true, true, true, true, true, true, true, true, true, true, false, false, false, false, false, false, false, false, false, false] (by kernel_rfl) (by kernel_rfl) ?_
                        refine wpAnyH_take (i := 36) (oi := ⟨some 122, _, _, _, _, _⟩) (v := .bool true) rfl (by kernel_rfl) (by kernel_rfl) (by kernel_rfl) (fun _ _ _ h => h) (Or.inl ⟨by kernel_rfl, fun w hS => by go_simp⟩) hH3 ?_
                        simp only [Act.put, List.setIfInBounds_toArray, List.set_cons_zero, List.set_cons_succ]
                        refine wpAnyH_re 9 #[true, true, true, true, true, true, true, true, true, true, true, true, true, true, true, true, true, true, true, true, true, true, true, true, true, true, true, true, true, true, true, true, true, true, true, true, true, false, false, false, false, false, false, false, false, false] (by kernel_rfl) (by kernel_rfl) ?_
                        refine wpAnyH_take (i := 37) (oi := ⟨some 123, _, _, _, _, _⟩) (v := undef) rfl (by kernel_rfl) (by kernel_rfl) (by kernel_rfl) (fun _ _ _ h => h) (Or.inr ⟨by kernel_rfl, rfl⟩) hH3 ?_
                        simp only [Act.put, List.setIfInBounds_toArray, List.set_cons_zero, List.set_cons_succ]
                        refine wpAnyH_re 8 #[true, true, true, true, true, true, true, true, true, true, true, true, true, true, true, true, true, true, true, true, true, true, true, true, true, true, true, true, true, true, true, true, true, true, true, true, true, true, false, false, false, false, false, false, false, false] (by kernel_rfl) (by kernel_rfl) ?_
                        refine wpAnyH_take (i := 38) (oi := ⟨some 124, _, _, _, _, _⟩) (v := undef) rfl (by kernel_rfl) (by kernel_rfl) (by kernel_rfl) (fun _ _ _ h => h) (Or.inr ⟨by kernel_rfl, rfl⟩) hH3 ?_
                        simp only [Act.put, List.setIfInBounds_toArray, List.set_cons_zero, List.set_cons_succ]
                        refine wpAnyH_re 7 #[true, true, true, true, true, true, true, true, true, true, true, true, true, true, true, true, true, true, true, true, true, true, true, true, true, true, true, true, true, true, true, true, true, true, true, true, true, true, true, false, false, false, false, false, false, false] (by kernel_rfl) (by kernel_rfl) ?_
                        refine wpAnyH_take (i := 39) (oi := ⟨some 125, _, _, _, _, _⟩) (v := undef) rfl (by kernel_rfl) (by kernel_rfl) (by kernel_rfl) (fun _ _ _ h => h) (Or.inr ⟨by kernel_rfl, rfl⟩) hH3 ?_
                        simp only [Act.put, List.setIfInBounds_toArray, List.set_cons_zero, List.set_cons_succ]
                        refine wpAnyH_re 6 #[true, true, true, true, true, true, true, true, true, true, true, true, true, true, true, true, true, true, true, true, true, true, true, true, true, true, true, true, true, true, true, true, true, true, true, true, true, true, true, true, false, false, false, false, false, false] (by kernel_rfl) (by kernel_rfl) ?_
                        refine wpAnyH_take (i := 40) (oi := ⟨some 126, _, _, _, _, _⟩) (v := undef) rfl (by kernel_rfl) (by kernel_rfl) (by kernel_rfl) (fun _ _ _ h => h) (Or.inr ⟨by kernel_rfl, rfl⟩) hH3 ?_
                        simp only [Act.put, List.setIfInBounds_toArray, List.set_cons_zero, List.set_cons_succ]
                        refine wpAnyH_re 5 #[true, true, true, true, true, true, true, true, true, true, true, true, true, true, true, true, true, true, true, true, true, true, true, true, true, true, true, true, true, true, true, true, true, true, true, true, true, true, true, true, true, false, false, false, false, false] (by kernel_rfl) (by kernel_rfl) ?_
                        refine wpAnyH_take (i := 41) (oi := ⟨some 127, _, _, _, _, _⟩) (v := undef) rfl (by kernel_rfl) (by kernel_rfl) (by kernel_rfl) (fun _ _ _ h => h) (Or.inr ⟨by kernel_rfl, rfl⟩) hH3 ?_
                        simp only [Act.put, List.setIfInBounds_toArray, List.set_cons_zero, List.set_cons_succ]
                        refine wpAnyH_re 4 #[true, true, true, true, true, true, true, true, true, true, true, true, true, true, true, true, true, true, true, true, true, true, true, true, true, true, true, true, true, true, true, true, true, true, true, true, true, true, true, true, true, true, false, false, false, false] (by kernel_rfl) (by kernel_rfl) ?_
                        refine wpAnyH_take (i := 42) (oi := ⟨some 128, _, _, _, _, _⟩) (v := undef) rfl (by kernel_rfl) (by kernel_rfl) (by kernel_rfl) (fun _ _ _ h => h) (Or.inr ⟨by kernel_rfl, rfl⟩) hH3 ?_
                        simp only [Act.put, List.setIfInBounds_toArray, List.set_cons_zero, List.set_cons_succ]
                        refine wpAnyH_re 3 #[true, true, true, true, true, true, true, true, true, true, true, true, true, true, true, true, true, true, true, true, true, true, true, true, true, true, true, true, true, true, true, true, true, true, true, true, true, true, true, true, true, true, true, false, false, false] (by kernel_rfl) (by kernel_rfl) ?_
                        refine wpAnyH_take (i := 43) (oi := ⟨some 129, _, _, _, _, _⟩) (v := undef) rfl (by kernel_rfl) (by kernel_rfl) (by kernel_rfl) (fun _ _ _ h => h) (Or.inr ⟨by kernel_rfl, rfl⟩) hH3 ?_
                        simp only [Act.put, List.setIfInBounds_toArray, List.set_cons_zero, List.set_cons_succ]
                        refine wpAnyH_re 2 #[true, true, true, true, true, true, true, true, true, true, true, true, true, true, true, true, true, true, true, true, true, true, true, true, true, true, true, true, true, true, true, true, true, true, true, true, true, true, true, true, true, true, true, true, false, false] (by kernel_rfl) (by kernel_rfl) ?_
                        refine wpAnyH_take (i := 44) (oi := ⟨some 130, _, _, _, _, _⟩) (v := undef) rfl (by kernel_rfl) (by kernel_rfl) (by kernel_rfl) (fun _ _ _ h => h) (Or.inr ⟨by kernel_rfl, rfl⟩) hH3 ?_
                        simp only [Act.put, List.setIfInBounds_toArray, List.set_cons_zero, List.set_cons_succ]
                        refine wpAnyH_re 1 #[true, true, true, true, true, true, true, true, true, true, true, true, true, true, true, true, true, true, true, true, true, true, true, true, true, true, true, true, true, true, true, true, true, true, true, true, true, true, true, true, true, true, true, true, true, false] (by kernel_rfl) (by kernel_rfl) ?_
                        refine wpAnyH_take (i := 45) (oi := ⟨some 131, _, _, _, _, _⟩) (v := .bool true) rfl (by kernel_rfl) (by kernel_rfl) (by kernel_rfl) (fun _ _ _ h => h) (Or.inl ⟨by kernel_rfl, fun w hS => by go_simp⟩) hH3 ?_
                        simp only [Act.put, List.setIfInBounds_toArray, List.set_cons_zero, List.set_cons_succ]
                        refine wpAnyH_done (by kernel_rfl) ?_ _
                        have HM7 := Lib.hid (HM4.out.step HB1.out)
                        clear hH3
                        go_wp2_with fail
                        go_ret
                        exact ⟨by rw [HF.out]; rfl, HM7.out.below⟩
                    | true =>
                      refine wpAnyH_re 31 #[true, true, true, true, true, true, true, true, true, true, true, true, true, true, true, false, false, false, false, false, false, false, false, false, false, false, false, false, false, false, false, false, false, false, false, false, false, false, false, false, false, false, false, false, false, false] (by kernel_rfl) (by kernel_rfl) ?_
                      refine wpAnyH_take (i := 15) (oi := ⟨some 101, _, _, _, _, _⟩) (v := .bool false) rfl (by kernel_rfl) (by kernel_rfl) (by kernel_rfl) (fun _ _ _ h => h) (Or.inl ⟨by kernel_rfl, fun w hS => by go_simp⟩) hH3 ?_
                      simp only [Act.put, List.setIfInBounds_toArray, List.set_cons_zero, List.set_cons_succ]
                      refine wpAnyH_re 30 #[true, true, true, true, true, true, true, true, true, true, true, true, true, true, true, true, false, false, false, false, false, false, false, false, false, false, false, false, false, false, false, false, false, false, false, false, false, false, false, false, false, false, false, false, false, false] (by kernel_rfl) (by kernel_rfl) ?_
                      refine wpAnyH_take (i := 16) (oi := ⟨some 102, _, _, _, _, _⟩) (v := .bool false) rfl (by kernel_rfl) (by kernel_rfl) (by kernel_rfl) (fun _ _ _ h => h) (Or.inl ⟨by kernel_rfl, fun w hS => by go_simp⟩) hH3 ?_
                      simp only [Act.put, List.setIfInBounds_toArray, List.set_cons_zero, List.set_cons_succ]
                      refine wpAnyH_re 29 #[true, true, true, true, true, true, true, true, true, true, true, true, true, true, true, true, true, false, false, false, false, false, false, false, false, false, false, false, false, false, false, false, false, false, false, false, false, false, false, false, false, false, false, false, false, false] (by kernel_rfl) (by kernel_rfl) ?_
                      refine wpAnyH_take (i := 17) (oi := ⟨some 103, _, _, _, _, _⟩) (v := .bool false) rfl (by kernel_rfl) (by kernel_rfl) (by kernel_rfl) (fun _ _ _ h => h) (Or.inl ⟨by kernel_rfl, fun w hS => by go_simp⟩) hH3 ?_
                      simp only [Act.put, List.setIfInBounds_toArray, List.set_cons_zero, List.set_cons_succ]
                      refine wpAnyH_re 28 #[true, true, true, true, true, true, true, true, true, true, true, true, true, true, true, true, true, true, false, false, false, false, false, false, false, false, false, false, false, false, false, false, false, false, false, false, false, false, false, false, false, false, false, false, false, false] (by kernel_rfl) (by kernel_rfl) ?_
                      refine wpAnyH_take (i := 18) (oi := ⟨some 104, _, _, _, _, _⟩) (v := .pointer (some ⟨gx, 4, none⟩)) rfl (by kernel_rfl) (by kernel_rfl) (by kernel_rfl) (fun _ _ _ h => h) (Or.inl ⟨by kernel_rfl, fun w hS => by go_simp⟩) hH3 ?_
                      simp only [Act.put, List.setIfInBounds_toArray, List.set_cons_zero, List.set_cons_succ]
                      refine wpAnyH_re 27 #[true, true, true, true, true, true, true, true, true, true, true, true, true, true, true, true, true, true, true, false, false, false, false, false, false, false, false, false, false, false, false, false, false, false, false, false, false, false, false, false, false, false, false, false, false, false] (by kernel_rfl) (by kernel_rfl) ?_
                      refine wpAnyH_take (i := 19) (oi := ⟨some 105, _, _, _, _, _⟩) (v := .slice va m3 vc) rfl (by kernel_rfl) (by kernel_rfl) (by kernel_rfl) (fun _ _ _ h => h) (Or.inl ⟨by kernel_rfl, fun w hS => by obtain ⟨⟨u0, u1, u2⟩, u3, u4, u5, u6, u7⟩ := hS; go_simp⟩) hH3 ?_
                      simp only [Act.put, List.setIfInBounds_toArray, List.set_cons_zero, List.set_cons_succ]
                      refine wpAnyH_re 26 #[true, true, true, true, true, true, true, true, true, true, true, true, true, true, true, true, true, true, true, true, false, false, false, false, false, false, false, false, false, false, false, false, false, false, false, false, false, false, false, false, false, false, false, false, false, false] (by kernel_rfl) (by kernel_rfl) ?_
                      refine wpAnyH_take (i := 20) (oi := ⟨some 106, _, _, _, _, _⟩) (v := .pointer (some ⟨gl, 0, none⟩)) rfl (by kernel_rfl) (by kernel_rfl) (by kernel_rfl) (fun _ _ _ h => h) (Or.inl ⟨by kernel_rfl, fun w hS => by go_simp⟩) hH3 ?_
                      simp only [Act.put, List.setIfInBounds_toArray, List.set_cons_zero, List.set_cons_succ]
                      refine wpAnyH_re 25 #[true, true, true, true, true, true, true, true, true, true, true, true, true, true, true, true, true, true, true, true, true, false, false, false, false, false, false, false, false, false, false, false, false, false, false, false, false, false, false, false, false, false, false, false, false, false] (by kernel_rfl) (by kernel_rfl) ?_
                      refine wpAnyH_take (i := 21) (oi := ⟨some 107, _, _, _, _, _⟩) (v := .slice a1 n1 c1) rfl (by kernel_rfl) (by kernel_rfl) (by kernel_rfl) (fun _ _ _ h => h) (Or.inl ⟨by kernel_rfl, fun w hS => by obtain ⟨⟨u0, u1, u2⟩, u3, u4, u5, u6, u7⟩ := hS; go_simp⟩) hH3 ?_
                      simp only [Act.put, List.setIfInBounds_toArray, List.set_cons_zero, List.set_cons_succ]
                      refine wpAnyH_re 24 #[true, true, true, true, true, true, true, true, true, true, true, true, true, true, true, true, true, true, true, true, true, true, false, false, false, false, false, false, false, false, false, false, false, false, false, false, false, false, false, false, false, false, false, false, false, false] (by kernel_rfl) (by kernel_rfl) ?_
                      refine wpAnyH_take (i := 22) (oi := ⟨some 108, _, _, _, _, _⟩) (v := .int .i64 (n1 : Int)) rfl (by kernel_rfl) (by kernel_rfl) (by kernel_rfl) (fun _ _ _ h => h) (Or.inl ⟨by kernel_rfl, fun w hS => by go_simp⟩) hH3 ?_
                      simp only [Act.put, List.setIfInBounds_toArray, List.set_cons_zero, List.set_cons_succ]
                      refine wpAnyH_re 23 #[true, true, true, true, true, true, true, true, true, true, true, true, true, true, true, true, true, true, true, true, true, true, true, false, false, false, false, false, false, false, false, false, false, false, false, false, false, false, false, false, false, false, false, false, false, false] (by kernel_rfl) (by kernel_rfl) ?_
                      refine wpAnyH_ready (rs := [23]) (by kernel_rfl) (by simp) (AllReadyH.cons (o := ⟨some 109, _, _, _, _, _⟩) rfl (fun K hK => ?_) AllReadyH.nil)
                      go_simp
                      refine (HQ2.out _ HB1.out).mono ?_
                      rintro e w9 ⟨rfl, rfl⟩
                      refine hK.out _ _ (HS9.out _ HB1.out) (fun hH4 => ?_)
                      clear hK K hH3
                      cases b2 with
                      | false =>
                        as_aux_lemma =>
                          have HF := Lib.hid (may_no5 (L := L) (by rw [N1.out, N2.out, N3.out]; exact all_bad HY.out (rr_3 B2.out)))
                          refine wpAnyH_re 22 #[true, true, true, true, true, true, true, true, true, true, true, true, true, true, true, true, true, true, true, true, true, true, true, true, false, false, false, false, false, false, false, false, false, false, false, false, false, false, false, false, false, false, false, false, false, false] (by kernel_rfl) (by kernel_rfl) ?_
                          refine wpAnyH_take (i := 24) (oi := ⟨some 110, _, _, _, _, _⟩) (v := .bool true) rfl (by kernel_rfl) (by kernel_rfl) (by kernel_rfl) (fun _ _ _ h => h) (Or.inl ⟨by kernel_rfl, fun w hS => by go_simp⟩) hH4 ?_
                          simp only [Act.put, List.setIfInBounds_toArray, List.set_cons_zero, List.set_cons_succ]
                          refine wpAnyH_re 21 #[true, true, true, true, true, true, true, true, true, true, true, true, true, true, true, true, true, true, true, true, true, true, true, true, true, false, false, false, false, false, false, false, false, false, false, false, false, false, false, false, false, false, false, false, false, false] (by kernel_rfl) (by kernel_rfl) ?_
                          refine wpAnyH_take (i := 25) (oi := ⟨some 111, _, _, _, _, _⟩) (v := .bool true) rfl (by kernel_rfl) (by kernel_rfl) (by kernel_rfl) (fun _ _ _ h => h) (Or.inl ⟨by kernel_rfl, fun w hS => by go_simp⟩) hH4 ?_
                          simp only [Act.put, List.setIfInBounds_toArray, List.set_cons_zero, List.set_cons_succ]
                          refine wpAnyH_re 20 #[true, true, true, true, true, true, true, true, true, true, true, true, true, true, true, true, true, true, true, true, true, true, true, true, true, true, false, false, false, false, false, false, false, false, false, false, false, false, false, false, false, false, false, false, false, false] (by kernel_rfl) (by kernel_rfl) ?_
                          refine wpAnyH_take (i := 26) (oi := ⟨some 112, _, _, _, _, _⟩) (v := .bool true) rfl (by kernel_rfl) (by kernel_rfl) (by kernel_rfl) (fun _ _ _ h => h) (Or.inl ⟨by kernel_rfl, fun w hS => by go_simp⟩) hH4 ?_
                          simp only [Act.put, List.setIfInBounds_toArray, List.set_cons_zero, List.set_cons_succ]
                          refine wpAnyH_re 19 #[true, true, true, true, true, true, true, true, true, true, true, true, true, true, true, true, true, true, true, true, true, true, true, true, true, true, true, false, false, false, false, false, false, false, false, false, false, false, false, false, false, false, false, false, false, false] (by kernel_rfl) (by kernel_rfl) ?_
                          refine wpAnyH_take (i := 27) (oi := ⟨some 113, _, _, _, _, _⟩) (v := undef) rfl (by kernel_rfl) (by kernel_rfl) (by kernel_rfl) (fun _ _ _ h => h) (Or.inr ⟨by kernel_rfl, rfl⟩) hH4 ?_
                          simp only [Act.put, List.setIfInBounds_toArray, List.set_cons_zero, List.set_cons_succ]
                          refine wpAnyH_re 18 #[true, true, true, true, true, true, true, true, true, true, true, true, true, true, true, true, true, true, true, true, true, true, true, true, true, true, true, true, false, false, false, false, false, false, false, false, false, false, false, false, false, false, false, false, false, false] (by kernel_rfl) (by kernel_rfl) ?_
                          refine wpAnyH_take (i := 28) (oi := ⟨some 114, _, _, _, _, _⟩) (v := undef) rfl (by kernel_rfl) (by kernel_rfl) (by kernel_rfl) (fun _ _ _ h => h) (Or.inr ⟨by kernel_rfl, rfl⟩) hH4 ?_
                          simp only [Act.put, List.setIfInBounds_toArray, List.set_cons_zero, List.set_cons_succ]
                          refine wpAnyH_re 17 #[true, true, true, true, true, true, true, true, true, true, true, true, true, true, true, true, true, true, true, true, true, true, true, true, true, true, true, true, true, false, false, false, false, false, false, false, false, false, false, false, false, false, false, false, false, false] (by kernel_rfl) (by kernel_rfl) ?_
                          refine wpAnyH_take (i := 29) (oi := ⟨some 115, _, _, _, _, _⟩) (v := undef) rfl (by kernel_rfl) (by kernel_rfl) (by kernel_rfl) (fun _ _ _ h => h) (Or.inr ⟨by kernel_rfl, rfl⟩) hH4 ?_
                          simp only [Act.put, List.setIfInBounds_toArray, List.set_cons_zero, List.set_cons_succ]
                          refine wpAnyH_re 16 #[true, true, true, true, true, true, true, true, true, true, true, true, true, true, true, true, true, true, true, true, true, true, true, true, true, true, true, true, true, true, false, false, false, false, false, false, false, false, false, false, false, false, false, false, false, false] (by kernel_rfl) (by kernel_rfl) ?_
                          refine wpAnyH_take (i := 30) (oi := ⟨some 116, _, _, _, _, _⟩) (v := undef) rfl (by kernel_rfl) (by kernel_rfl) (by kernel_rfl) (fun _ _ _ h => h) (Or.inr ⟨by kernel_rfl, rfl⟩) hH4 ?_
                          simp only [Act.put, List.setIfInBounds_toArray, List.set_cons_zero, List.set_cons_succ]
                          refine wpAnyH_re 15 #[true, true, true, true, true, true, true, true, true, true, true, true, true, true, true, true, true, true, true, true, true, true, true, true, true, true, true, true, true, true, true, false, false, false, false, false, false, false, false, false, false, false, false, false, false, false] (by kernel_rfl) (by kernel_rfl) ?_
                          refine wpAnyH_take (i := 31) (oi := ⟨some 117, _, _, _, _, _⟩) (v := undef) rfl (by kernel_rfl) (by kernel_rfl) (by kernel_rfl) (fun _ _ _ h => h) (Or.inr ⟨by kernel_rfl, rfl⟩) hH4 ?_
                          simp only [Act.put, List.setIfInBounds_toArray, List.set_cons_zero, List.set_cons_succ]
                          refine wpAnyH_re 14 #[true, true, true, true, true, true, true, true, true, true, true, true, true, true, true, true, true, true, true, true, true, true, true, true, true, true, true, true, true, true, true, true, false, false, false, false, false, false, false, false, false, false, false, false, false, false] (by kernel_rfl) (by kernel_rfl) ?_
                          refine wpAnyH_take (i := 32) (oi := ⟨some 118, _, _, _, _, _⟩) (v := undef) rfl (by kernel_rfl) (by kernel_rfl) (by kernel_rfl) (fun _ _ _ h => h) (Or.inr ⟨by kernel_rfl, rfl⟩) hH4 ?_
                          simp only [Act.put, List.setIfInBounds_toArray, List.set_cons_zero, List.set_cons_succ]
                          refine wpAnyH_re 13 #[true, true, true, true, true, true, true, true, true, true, true, true, true, true, true, true, true, true, true, true, true, true, true, true, true, true, true, true, true, true, true, true, true, false, false, false, false, false, false, false, false, false, false, false, false, false] (by kernel_rfl) (by kernel_rfl) ?_
                          refine wpAnyH_take (i := 33) (oi := ⟨some 119, _, _, _, _, _⟩) (v := undef) rfl (by kernel_rfl) (by kernel_rfl) (by kernel_rfl) (fun _ _ _ h => h) (Or.inr ⟨by kernel_rfl, rfl⟩) hH4 ?_
                          simp only [Act.put, List.setIfInBounds_toArray, List.set_cons_zero, List.set_cons_succ]
                          refine wpAnyH_re 12 #[true, true, true, true, true, true, true, true, true, true, true, true, true, true, true, true, true, true, true, true, true, true, true, true, true, true, true, true, true, true, true, true, true, true, false, false, false, false, false, false, false, false, false, false, false, false] (by kernel_rfl) (by kernel_rfl) ?_
                          refine wpAnyH_take (i := 34) (oi := ⟨some 120, _, _, _, _, _⟩) (v := undef) rfl (by kernel_rfl) (by kernel_rfl) (by kernel_rfl) (fun _ _ _ h => h) (Or.inr ⟨by kernel_rfl, rfl⟩) hH4 ?_
                          simp only [Act.put, List.setIfInBounds_toArray, List.set_cons_zero, List.set_cons_succ]
                          refine wpAnyH_re 11 #[true, true, true, true, true, true, true, true, true, true, true, true, true, true, true, true, true, true, true, true, true, true, true, true, true, true, true, true, true, true, true, true, true, true, true, false, false, false, false, false, false, false, false, false, false, false] (by kernel_rfl) (by kernel_rfl) ?_
                          refine wpAnyH_take (i := 35) (oi := ⟨some 121, _, _, _, _, _⟩) (v := .bool true) rfl (by kernel_rfl) (by kernel_rfl) (by kernel_rfl) (fun _ _ _ h => h) (Or.inl ⟨by kernel_rfl, fun w hS => by go_simp⟩) hH4 ?_
                          simp only [Act.put, List.setIfInBounds_toArray, List.set_cons_zero, List.set_cons_succ]
                          refine wpAnyH_re 10 #[true, true, true, true, true, true, true, true, true, true, true, true, true, true, true, true, true, true, true, true, true, true, true, true, true, true, true, true, true, true, true, true, true, true, true, true, false, false, false, false, false, false, false, false, false, false] (by kernel_rfl) (by kernel_rfl) ?_
                          refine wpAnyH_take (i := 36) (oi := ⟨some 122, _, _, _, _, _⟩) (v := .bool true) rfl (by kernel_rfl) (by kernel_rfl) (by kernel_rfl) (fun _ _ _ h => h) (Or.inl ⟨by kernel_rfl, fun w hS => by go_simp⟩) hH4 ?_
                          simp only [Act.put, List.setIfInBounds_toArray, List.set_cons_zero, List.set_cons_succ]
                          refine wpAnyH_re 9 #[true, true, true, true, true, true, true, true, true, true, true, true, true, true, true, true, true, true, true, true, true, true, true, true, true, true, true, true, true, true, true, true, true, true, true, true, true, false, false, false, false, false, false, false, false, false] (by kernel_rfl) (by kernel_rfl) ?_
                          refine wpAnyH_take (i := 37) (oi := ⟨some 123, _, _, _, _, _⟩) (v := undef) rfl (by kernel_rfl) (by kernel_rfl) (by kernel_rfl) (fun _ _ _ h => h) (Or.inr ⟨by kernel_rfl, rfl⟩) hH4 ?_
                          simp only [Act.put, List.setIfInBounds_toArray, List.set_cons_zero, List.set_cons_succ]
                          refine wpAnyH_re 8 #[true, true, true, true, true, true, true, true, true, true, true, true, true, true, true, true, true, true, true, true, true, true, true, true, true, true, true, true, true, true, true, true, true, true, true, true, true, true, false, false, false, false, false, false, false, false] (by kernel_rfl) (by kernel_rfl) ?_
                          refine wpAnyH_take (i := 38) (oi := ⟨some 124, _, _, _, _, _⟩) (v := undef) rfl (by kernel_rfl) (by kernel_rfl) (by kernel_rfl) (fun _ _ _ h => h) (Or.inr ⟨by kernel_rfl, rfl⟩) hH4 ?_
                          simp only [Act.put, List.setIfInBounds_toArray, List.set_cons_zero, List.set_cons_succ]
                          refine wpAnyH_re 7 #[true, true, true, true, true, true, true, true, true, true, true, true, true, true, true, true, true, true, true, true, true, true, true, true, true, true, true, true, true, true, true, true, true, true, true, true, true, true, true, false, false, false, false, false, false, false] (by kernel_rfl) (by kernel_rfl) ?_
                          refine wpAnyH_take (i := 39) (oi := ⟨some 125, _, _, _, _, _⟩) (v := undef) rfl (by kernel_rfl) (by kernel_rfl) (by kernel_rfl) (fun _ _ _ h => h) (Or.inr ⟨by kernel_rfl, rfl⟩) hH4 ?_
                          simp only [Act.put, List.setIfInBounds_toArray, List.set_cons_zero, List.set_cons_succ]
                          refine wpAnyH_re 6 #[true, true, true, true, true, true, true, true, true, true, true, true, true, true, true, true, true, true, true, true, true, true, true, true, true, true, true, true, true, true, true, true, true, true, true, true, true, true, true, true, false, false, false, false, false, false] (by kernel_rfl) (by kernel_rfl) ?_
                          refine wpAnyH_take (i := 40) (oi := ⟨some 126, _, _, _, _, _⟩) (v := undef) rfl (by kernel_rfl) (by kernel_rfl) (by kernel_rfl) (fun _ _ _ h => h) (Or.inr ⟨by kernel_rfl, rfl⟩) hH4 ?_
                          simp only [Act.put, List.setIfInBounds_toArray, List.set_cons_zero, List.set_cons_succ]
                          refine wpAnyH_re 5 #[true, true, true, true, true, true, true, true, true, true, true, true, true, true, true, true, true, true, true, true, true, true, true, true, true, true, true, true, true, true, true, true, true, true, true, true, true, true, true, true, true, false, false, false, false, false] (by kernel_rfl) (by kernel_rfl) ?_
                          refine wpAnyH_take (i := 41) (oi := ⟨some 127, _, _, _, _, _⟩) (v := undef) rfl (by kernel_rfl) (by kernel_rfl) (by kernel_rfl) (fun _ _ _ h => h) (Or.inr ⟨by kernel_rfl, rfl⟩) hH4 ?_
                          simp only [Act.put, List.setIfInBounds_toArray, List.set_cons_zero, List.set_cons_succ]
                          refine wpAnyH_re 4 #[true, true, true, true, true, true, true, true, true, true, true, true, true, true, true, true, true, true, true, true, true, true, true, true, true, true, true, true, true, true, true, true, true, true, true, true, true, true, true, true, true, true, false, false, false, false] (by kernel_rfl) (by kernel_rfl) ?_
                          refine wpAnyH_take (i := 42) (oi := ⟨some 128, _, _, _, _, _⟩) (v := undef) rfl (by kernel_rfl) (by kernel_rfl) (by kernel_rfl) (fun _ _ _ h => h) (Or.inr ⟨by kernel_rfl, rfl⟩) hH4 ?_
                          simp only [Act.put, List.setIfInBounds_toArray, List.set_cons_zero, List.set_cons_succ]
                          refine wpAnyH_re 3 #[true, true, true, true, true, true, true, true, true, true, true, true, true, true, true, true, true, true, true, true, true, true, true, true, true, true, true, true, true, true, true, true, true, true, true, true, true, true, true, true, true, true, true, false, false, false] (by kernel_rfl) (by kernel_rfl) ?_
                          refine wpAnyH_take (i := 43) (oi := ⟨some 129, _, _, _, _, _⟩) (v := undef) rfl (by kernel_rfl) (by kernel_rfl) (by kernel_rfl) (fun _ _ _ h => h) (Or.inr ⟨by kernel_rfl, rfl⟩) hH4 ?_
                          simp only [Act.put, List.setIfInBounds_toArray, List.set_cons_zero, List.set_cons_succ]
                          refine wpAnyH_re 2 #[true, true, true, true, true, true, true, true, true, true, true, true, true, true, true, true, true, true, true, true, true, true, true, true, true, true, true, true, true, true, true, true, true, true, true, true, true, true, true, true, true, true, true, true, false, false] (by kernel_rfl) (by kernel_rfl) ?_
                          refine wpAnyH_take (i := 44) (oi := ⟨some 130, _, _, _, _, _⟩) (v := undef) rfl (by kernel_rfl) (by kernel_rfl) (by kernel_rfl) (fun _ _ _ h => h) (Or.inr ⟨by kernel_rfl, rfl⟩) hH4 ?_
                          simp only [Act.put, List.setIfInBounds_toArray, List.set_cons_zero, List.set_cons_succ]
                          refine wpAnyH_re 1 #[true, true, true, true, true, true, true, true, true, true, true, true, true, true, true, true, true, true, true, true, true, true, true, true, true, true, true, true, true, true, true, true, true, true, true, true, true, true, true, true, true, true, true, true, true, false] (by kernel_rfl) (by kernel_rfl) ?_
                          refine wpAnyH_take (i := 45) (oi := ⟨some 131, _, _, _, _, _⟩) (v := .bool true) rfl (by kernel_rfl) (by kernel_rfl) (by kernel_rfl) (fun _ _ _ h => h) (Or.inl ⟨by kernel_rfl, fun w hS => by go_simp⟩) hH4 ?_
                          simp only [Act.put, List.setIfInBounds_toArray, List.set_cons_zero, List.set_cons_succ]
                          refine wpAnyH_done (by kernel_rfl) ?_ _
                          have HM7 := Lib.hid (HM4.out.step HB1.out)
                          clear hH4
                          go_wp2_with fail
                          go_ret
                          exact ⟨by rw [HF.out]; rfl, HM7.out.below⟩
                      | true =>
                        refine wpAnyH_re 22 #[true, true, true, true, true, true, true, true, true, true, true, true, true, true, true, true, true, true, true, true, true, true, true, true, false, false, false, false, false, false, false, false, false, false, false, false, false, false, false, false, false, false, false, false, false, false] (by kernel_rfl) (by kernel_rfl) ?_
                        refine wpAnyH_take (i := 24) (oi := ⟨some 110, _, _, _, _, _⟩) (v := .bool false) rfl (by kernel_rfl) (by kernel_rfl) (by kernel_rfl) (fun _ _ _ h => h) (Or.inl ⟨by kernel_rfl, fun w hS => by go_simp⟩) hH4 ?_
                        simp only [Act.put, List.setIfInBounds_toArray, List.set_cons_zero, List.set_cons_succ]
                        refine wpAnyH_re 21 #[true, true, true, true, true, true, true, true, true, true, true, true, true, true, true, true, true, true, true, true, true, true, true, true, true, false, false, false, false, false, false, false, false, false, false, false, false, false, false, false, false, false, false, false, false, false] (by kernel_rfl) (by kernel_rfl) ?_
                        refine wpAnyH_take (i := 25) (oi := ⟨some 111, _, _, _, _, _⟩) (v := .bool false) rfl (by kernel_rfl) (by kernel_rfl) (by kernel_rfl) (fun _ _ _ h => h) (Or.inl ⟨by kernel_rfl, fun w hS => by go_simp⟩) hH4 ?_
                        simp only [Act.put, List.setIfInBounds_toArray, List.set_cons_zero, List.set_cons_succ]
                        refine wpAnyH_re 20 #[true, true, true, true, true, true, true, true, true, true, true, true, true, true, true, true, true, true, true, true, true, true, true, true, true, true, false, false, false, false, false, false, false, false, false, false, false, false, false, false, false, false, false, false, false, false] (by kernel_rfl) (by kernel_rfl) ?_
                        refine wpAnyH_take (i := 26) (oi := ⟨some 112, _, _, _, _, _⟩) (v := .bool false) rfl (by kernel_rfl) (by kernel_rfl) (by kernel_rfl) (fun _ _ _ h => h) (Or.inl ⟨by kernel_rfl, fun w hS => by go_simp⟩) hH4 ?_
                        simp only [Act.put, List.setIfInBounds_toArray, List.set_cons_zero, List.set_cons_succ]
                        refine wpAnyH_re 19 #[true, true, true, true, true, true, true, true, true, true, true, true, true, true, true, true, true, true, true, true, true, true, true, true, true, true, true, false, false, false, false, false, false, false, false, false, false, false, false, false, false, false, false, false, false, false] (by kernel_rfl) (by kernel_rfl) ?_
                        refine wpAnyH_take (i := 27) (oi := ⟨some 113, _, _, _, _, _⟩) (v := .pointer (some ⟨gx, 3, none⟩)) rfl (by kernel_rfl) (by kernel_rfl) (by kernel_rfl) (fun _ _ _ h => h) (Or.inl ⟨by kernel_rfl, fun w hS => by go_simp⟩) hH4 ?_
                        simp only [Act.put, List.setIfInBounds_toArray, List.set_cons_zero, List.set_cons_succ]
                        refine wpAnyH_re 18 #[true, true, true, true, true, true, true, true, true, true, true, true, true, true, true, true, true, true, true, true, true, true, true, true, true, true, true, true, false, false, false, false, false, false, false, false, false, false, false, false, false, false, false, false, false, false] (by kernel_rfl) (by kernel_rfl) ?_
                        refine wpAnyH_take (i := 28) (oi := ⟨some 114, _, _, _, _, _⟩) (v := .slice oa m2 oc) rfl (by kernel_rfl) (by kernel_rfl) (by kernel_rfl) (fun _ _ _ h => h) (Or.inl ⟨by kernel_rfl, fun w hS => by obtain ⟨⟨u0, u1, u2⟩, u3, u4, u5, u6, u7⟩ := hS; go_simp⟩) hH4 ?_
                        simp only [Act.put, List.setIfInBounds_toArray, List.set_cons_zero, List.set_cons_succ]
                        refine wpAnyH_re 17 #[true, true, true, true, true, true, true, true, true, true, true, true, true, true, true, true, true, true, true, true, true, true, true, true, true, true, true, true, true, false, false, false, false, false, false, false, false, false, false, false, false, false, false, false, false, false] (by kernel_rfl) (by kernel_rfl) ?_
                        refine wpAnyH_take (i := 30) (oi := ⟨some 116, _, _, _, _, _⟩) (v := .pointer (some ⟨gl, 1, none⟩)) rfl (by kernel_rfl) (by kernel_rfl) (by kernel_rfl) (fun _ _ _ h => h) (Or.inl ⟨by kernel_rfl, fun w hS => by go_simp⟩) hH4 ?_
                        simp only [Act.put, List.setIfInBounds_toArray, List.set_cons_zero, List.set_cons_succ]
                        refine wpAnyH_re 16 #[true, true, true, true, true, true, true, true, true, true, true, true, true, true, true, true, true, true, true, true, true, true, true, true, true, true, true, true, true, false, true, false, false, false, false, false, false, false, false, false, false, false, false, false, false, false] (by kernel_rfl) (by kernel_rfl) ?_
                        refine wpAnyH_take (i := 31) (oi := ⟨some 117, _, _, _, _, _⟩) (v := .slice a2 n2 c2) rfl (by kernel_rfl) (by kernel_rfl) (by kernel_rfl) (fun _ _ _ h => h) (Or.inl ⟨by kernel_rfl, fun w hS => by obtain ⟨⟨u0, u1, u2⟩, u3, u4, u5, u6, u7⟩ := hS; go_simp⟩) hH4 ?_
                        simp only [Act.put, List.setIfInBounds_toArray, List.set_cons_zero, List.set_cons_succ]
                        refine wpAnyH_re 15 #[true, true, true, true, true, true, true, true, true, true, true, true, true, true, true, true, true, true, true, true, true, true, true, true, true, true, true, true, true, false, true, true, false, false, false, false, false, false, false, false, false, false, false, false, false, false] (by kernel_rfl) (by kernel_rfl) ?_
                        refine wpAnyH_take (i := 32) (oi := ⟨some 118, _, _, _, _, _⟩) (v := .int .i64 (n2 : Int)) rfl (by kernel_rfl) (by kernel_rfl) (by kernel_rfl) (fun _ _ _ h => h) (Or.inl ⟨by kernel_rfl, fun w hS => by go_simp⟩) hH4 ?_
                        simp only [Act.put, List.setIfInBounds_toArray, List.set_cons_zero, List.set_cons_succ]
                        refine wpAnyH_re 14 #[true, true, true, true, true, true, true, true, true, true, true, true, true, true, true, true, true, true, true, true, true, true, true, true, true, true, true, true, true, false, true, true, true, false, false, false, false, false, false, false, false, false, false, false, false, false] (by kernel_rfl) (by kernel_rfl) ?_
                        refine wpAnyH_ready (rs := [29]) (by kernel_rfl) (by simp) (AllReadyH.cons (o := ⟨some 115, _, _, _, _, _⟩) rfl (fun K hK => ?_) AllReadyH.nil)
                        go_simp
                        refine (HP3.out _ HB1.out).mono ?_
                        rintro e w38 ⟨p3, q3, r3, rfl, hq3, hS3, hb38⟩
                        have HB38 := Lib.hid hb38
                        have HSR3 := Lib.hid hS3.row
                        have HQL3 := Lib.hid hq3
                        clear hb38 hS3 hq3
                        refine hK.out _ _ (HS9.out _ HB38.out) (fun hH3a => ?_)
                        clear hK K hH4
                        refine wpAnyH_re 13 #[true, true, true, true, true, true, true, true, true, true, true, true, true, true, true, true, true, true, true, true, true, true, true, true, true, true, true, true, true, true, true, true, true, false, false, false, false, false, false, false, false, false, false, false, false, false] (by kernel_rfl) (by kernel_rfl) ?_
                        refine wpAnyH_ready (rs := [33]) (by kernel_rfl) (by simp) (AllReadyH.cons (o := ⟨some 119, _, _, _, _, _⟩) rfl (fun K hK => ?_) AllReadyH.nil)
                        go_simp
                        refine (HQ3.out _ _ _ _ HQL3.out HSR3.out).mono ?_
                        rintro e w9 ⟨rfl, rfl⟩
                        refine hK.out _ _ (HS9.out _ HB38.out) (fun hH3b => ?_)
                        clear hK K hH3a
                        cases b3 with
                        | false =>
                          as_aux_lemma =>
                            have HF := Lib.hid (may_no5 (L := L) (by rw [N1.out, N2.out, N3.out]; exact all_bad HY.out (rr_4 B3.out)))
                            refine wpAnyH_re 12 #[true, true, true, true, true, true, true, true, true, true, true, true, true, true, true, true, true, true, true, true, true, true, true, true, true, true, true, true, true, true, true, true, true, true, false, false, false, false, false, false, false, false, false, false, false, false] (by kernel_rfl) (by kernel_rfl) ?_
                            refine wpAnyH_take (i := 34) (oi := ⟨some 120, _, _, _, _, _⟩) (v := .bool true) rfl (by kernel_rfl) (by kernel_rfl) (by kernel_rfl) (fun _ _ _ h => h) (Or.inl ⟨by kernel_rfl, fun w hS => by go_simp⟩) hH3b ?_
                            simp only [Act.put, List.setIfInBounds_toArray, List.set_cons_zero, List.set_cons_succ]
                            refine wpAnyH_re 11 #[true, true, true, true, true, true, true, true, true, true, true, true, true, true, true, true, true, true, true, true, true, true, true, true, true, true, true, true, true, true, true, true, true, true, true, false, false, false, false, false, false, false, false, false, false, false] (by kernel_rfl) (by kernel_rfl) ?_
                            refine wpAnyH_take (i := 35) (oi := ⟨some 121, _, _, _, _, _⟩) (v := .bool true) rfl (by kernel_rfl) (by kernel_rfl) (by kernel_rfl) (fun _ _ _ h => h) (Or.inl ⟨by kernel_rfl, fun w hS => by go_simp⟩) hH3b ?_
                            simp only [Act.put, List.setIfInBounds_toArray, List.set_cons_zero, List.set_cons_succ]
                            refine wpAnyH_re 10 #[true, true, true, true, true, true, true, true, true, true, true, true, true, true, true, true, true, true, true, true, true, true, true, true, true, true, true, true, true, true, true, true, true, true, true, true, false, false, false, false, false, false, false, false, false, false] (by kernel_rfl) (by kernel_rfl) ?_
                            refine wpAnyH_take (i := 36) (oi := ⟨some 122, _, _, _, _, _⟩) (v := .bool true) rfl (by kernel_rfl) (by kernel_rfl) (by kernel_rfl) (fun _ _ _ h => h) (Or.inl ⟨by kernel_rfl, fun w hS => by go_simp⟩) hH3b ?_
                            simp only [Act.put, List.setIfInBounds_toArray, List.set_cons_zero, List.set_cons_succ]
                            refine wpAnyH_re 9 #[true, true, true, true, true, true, true, true, true, true, true, true, true, true, true, true, true, true, true, true, true, true, true, true, true, true, true, true, true, true, true, true, true, true, true, true, true, false, false, false, false, false, false, false, false, false] (by kernel_rfl) (by kernel_rfl) ?_
                            refine wpAnyH_take (i := 37) (oi := ⟨some 123, _, _, _, _, _⟩) (v := undef) rfl (by kernel_rfl) (by kernel_rfl) (by kernel_rfl) (fun _ _ _ h => h) (Or.inr ⟨by kernel_rfl, rfl⟩) hH3b ?_
                            simp only [Act.put, List.setIfInBounds_toArray, List.set_cons_zero, List.set_cons_succ]
                            refine wpAnyH_re 8 #[true, true, true, true, true, true, true, true, true, true, true, true, true, true, true, true, true, true, true, true, true, true, true, true, true, true, true, true, true, true, true, true, true, true, true, true, true, true, false, false, false, false, false, false, false, false] (by kernel_rfl) (by kernel_rfl) ?_
                            refine wpAnyH_take (i := 38) (oi := ⟨some 124, _, _, _, _, _⟩) (v := undef) rfl (by kernel_rfl) (by kernel_rfl) (by kernel_rfl) (fun _ _ _ h => h) (Or.inr ⟨by kernel_rfl, rfl⟩) hH3b ?_
                            simp only [Act.put, List.setIfInBounds_toArray, List.set_cons_zero, List.set_cons_succ]
                            refine wpAnyH_re 7 #[true, true, true, true, true, true, true, true, true, true, true, true, true, true, true, true, true, true, true, true, true, true, true, true, true, true, true, true, true, true, true, true, true, true, true, true, true, true, true, false, false, false, false, false, false, false] (by kernel_rfl) (by kernel_rfl) ?_
                            refine wpAnyH_take (i := 39) (oi := ⟨some 125, _, _, _, _, _⟩) (v := undef) rfl (by kernel_rfl) (by kernel_rfl) (by kernel_rfl) (fun _ _ _ h => h) (Or.inr ⟨by kernel_rfl, rfl⟩) hH3b ?_
                            simp only [Act.put, List.setIfInBounds_toArray, List.set_cons_zero, List.set_cons_succ]
                            refine wpAnyH_re 6 #[true, true, true, true, true, true, true, true, true, true, true, true, true, true, true, true, true, true, true, true, true, true, true, true, true, true, true, true, true, true, true, true, true, true, true, true, true, true, true, true, false, false, false, false, false, false] (by kernel_rfl) (by kernel_rfl) ?_
                            refine wpAnyH_take (i := 40) (oi := ⟨some 126, _, _, _, _, _⟩) (v := undef) rfl (by kernel_rfl) (by kernel_rfl) (by kernel_rfl) (fun _ _ _ h => h) (Or.inr ⟨by kernel_rfl, rfl⟩) hH3b ?_
                            simp only [Act.put, List.setIfInBounds_toArray, List.set_cons_zero, List.set_cons_succ]
                            refine wpAnyH_re 5 #[true, true, true, true, true, true, true, true, true, true, true, true, true, true, true, true, true, true, true, true, true, true, true, true, true, true, true, true, true, true, true, true, true, true, true, true, true, true, true, true, true, false, false, false, false, false] (by kernel_rfl) (by kernel_rfl) ?_
                            refine wpAnyH_take (i := 41) (oi := ⟨some 127, _, _, _, _, _⟩) (v := undef) rfl (by kernel_rfl) (by kernel_rfl) (by kernel_rfl) (fun _ _ _ h => h) (Or.inr ⟨by kernel_rfl, rfl⟩) hH3b ?_
                            simp only [Act.put, List.setIfInBounds_toArray, List.set_cons_zero, List.set_cons_succ]
                            refine wpAnyH_re 4 #[true, true, true, true, true, true, true, true, true, true, true, true, true, true, true, true, true, true, true, true, true, true, true, true, true, true, true, true, true, true, true, true, true, true, true, true, true, true, true, true, true, true, false, false, false, false] (by kernel_rfl) (by kernel_rfl) ?_
                            refine wpAnyH_take (i := 42) (oi := ⟨some 128, _, _, _, _, _⟩) (v := undef) rfl (by kernel_rfl) (by kernel_rfl) (by kernel_rfl) (fun _ _ _ h => h) (Or.inr ⟨by kernel_rfl, rfl⟩) hH3b ?_
                            simp only [Act.put, List.setIfInBounds_toArray, List.set_cons_zero, List.set_cons_succ]
                            refine wpAnyH_re 3 #[true, true, true, true, true, true, true, true, true, true, true, true, true, true, true, true, true, true, true, true, true, true, true, true, true, true, true, true, true, true, true, true, true, true, true, true, true, true, true, true, true, true, true, false, false, false] (by kernel_rfl) (by kernel_rfl) ?_
                            refine wpAnyH_take (i := 43) (oi := ⟨some 129, _, _, _, _, _⟩) (v := undef) rfl (by kernel_rfl) (by kernel_rfl) (by kernel_rfl) (fun _ _ _ h => h) (Or.inr ⟨by kernel_rfl, rfl⟩) hH3b ?_
                            simp only [Act.put, List.setIfInBounds_toArray, List.set_cons_zero, List.set_cons_succ]
                            refine wpAnyH_re 2 #[true, true, true, true, true, true, true, true, true, true, true, true, true, true, true, true, true, true, true, true, true, true, true, true, true, true, true, true, true, true, true, true, true, true, true, true, true, true, true, true, true, true, true, true, false, false] (by kernel_rfl) (by kernel_rfl) ?_
                            refine wpAnyH_take (i := 44) (oi := ⟨some 130, _, _, _, _, _⟩) (v := undef) rfl (by kernel_rfl) (by kernel_rfl) (by kernel_rfl) (fun _ _ _ h => h) (Or.inr ⟨by kernel_rfl, rfl⟩) hH3b ?_
                            simp only [Act.put, List.setIfInBounds_toArray, List.set_cons_zero, List.set_cons_succ]
                            refine wpAnyH_re 1 #[true, true, true, true, true, true, true, true, true, true, true, true, true, true, true, true, true, true, true, true, true, true, true, true, true, true, true, true, true, true, true, true, true, true, true, true, true, true, true, true, true, true, true, true, true, false] (by kernel_rfl) (by kernel_rfl) ?_
                            refine wpAnyH_take (i := 45) (oi := ⟨some 131, _, _, _, _, _⟩) (v := .bool true) rfl (by kernel_rfl) (by kernel_rfl) (by kernel_rfl) (fun _ _ _ h => h) (Or.inl ⟨by kernel_rfl, fun w hS => by go_simp⟩) hH3b ?_
                            simp only [Act.put, List.setIfInBounds_toArray, List.set_cons_zero, List.set_cons_succ]
                            refine wpAnyH_done (by kernel_rfl) ?_ _
                            have HM7 := Lib.hid (HM4.out.step HB38.out)
                            clear hH3b
                            go_wp2_with fail
                            go_ret
                            exact ⟨by rw [HF.out]; rfl, HM7.out.below⟩
                        | true =>
                          refine wpAnyH_re 12 #[true, true, true, true, true, true, true, true, true, true, true, true, true, true, true, true, true, true, true, true, true, true, true, true, true, true, true, true, true, true, true, true, true, true, false, false, false, false, false, false, false, false, false, false, false, false] (by kernel_rfl) (by kernel_rfl) ?_
                          refine wpAnyH_take (i := 34) (oi := ⟨some 120, _, _, _, _, _⟩) (v := .bool false) rfl (by kernel_rfl) (by kernel_rfl) (by kernel_rfl) (fun _ _ _ h => h) (Or.inl ⟨by kernel_rfl, fun w hS => by go_simp⟩) hH3b ?_
                          simp only [Act.put, List.setIfInBounds_toArray, List.set_cons_zero, List.set_cons_succ]
                          refine wpAnyH_re 11 #[true, true, true, true, true, true, true, true, true, true, true, true, true, true, true, true, true, true, true, true, true, true, true, true, true, true, true, true, true, true, true, true, true, true, true, false, false, false, false, false, false, false, false, false, false, false] (by kernel_rfl) (by kernel_rfl) ?_
                          refine wpAnyH_take (i := 35) (oi := ⟨some 121, _, _, _, _, _⟩) (v := .bool false) rfl (by kernel_rfl) (by kernel_rfl) (by kernel_rfl) (fun _ _ _ h => h) (Or.inl ⟨by kernel_rfl, fun w hS => by go_simp⟩) hH3b ?_
                          simp only [Act.put, List.setIfInBounds_toArray, List.set_cons_zero, List.set_cons_succ]
                          refine wpAnyH_re 10 #[true, true, true, true, true, true, true, true, true, true, true, true, true, true, true, true, true, true, true, true, true, true, true, true, true, true, true, true, true, true, true, true, true, true, true, true, false, false, false, false, false, false, false, false, false, false] (by kernel_rfl) (by kernel_rfl) ?_
                          refine wpAnyH_take (i := 36) (oi := ⟨some 122, _, _, _, _, _⟩) (v := .bool false) rfl (by kernel_rfl) (by kernel_rfl) (by kernel_rfl) (fun _ _ _ h => h) (Or.inl ⟨by kernel_rfl, fun w hS => by go_simp⟩) hH3b ?_
                          simp only [Act.put, List.setIfInBounds_toArray, List.set_cons_zero, List.set_cons_succ]
                          refine wpAnyH_re 9 #[true, true, true, true, true, true, true, true, true, true, true, true, true, true, true, true, true, true, true, true, true, true, true, true, true, true, true, true, true, true, true, true, true, true, true, true, true, false, false, false, false, false, false, false, false, false] (by kernel_rfl) (by kernel_rfl) ?_
                          refine wpAnyH_take (i := 37) (oi := ⟨some 123, _, _, _, _, _⟩) (v := .pointer (some ⟨gx, 5, none⟩)) rfl (by kernel_rfl) (by kernel_rfl) (by kernel_rfl) (fun _ _ _ h => h) (Or.inl ⟨by kernel_rfl, fun w hS => by go_simp⟩) hH3b ?_
                          simp only [Act.put, List.setIfInBounds_toArray, List.set_cons_zero, List.set_cons_succ]
                          refine wpAnyH_re 8 #[true, true, true, true, true, true, true, true, true, true, true, true, true, true, true, true, true, true, true, true, true, true, true, true, true, true, true, true, true, true, true, true, true, true, true, true, true, true, false, false, false, false, false, false, false, false] (by kernel_rfl) (by kernel_rfl) ?_
                          refine wpAnyH_take (i := 38) (oi := ⟨some 124, _, _, _, _, _⟩) (v := .slice fa m4 fc) rfl (by kernel_rfl) (by kernel_rfl) (by kernel_rfl) (fun _ _ _ h => h) (Or.inl ⟨by kernel_rfl, fun w hS => by obtain ⟨⟨u0, u1, u2⟩, u3, u4, u5, u6, u7⟩ := hS; go_simp⟩) hH3b ?_
                          simp only [Act.put, List.setIfInBounds_toArray, List.set_cons_zero, List.set_cons_succ]
                          refine wpAnyH_re 7 #[true, true, true, true, true, true, true, true, true, true, true, true, true, true, true, true, true, true, true, true, true, true, true, true, true, true, true, true, true, true, true, true, true, true, true, true, true, true, true, false, false, false, false, false, false, false] (by kernel_rfl) (by kernel_rfl) ?_
                          refine wpAnyH_take (i := 40) (oi := ⟨some 126, _, _, _, _, _⟩) (v := .pointer (some ⟨gl, 1, none⟩)) rfl (by kernel_rfl) (by kernel_rfl) (by kernel_rfl) (fun _ _ _ h => h) (Or.inl ⟨by kernel_rfl, fun w hS => by go_simp⟩) hH3b ?_
                          simp only [Act.put, List.setIfInBounds_toArray, List.set_cons_zero, List.set_cons_succ]
                          refine wpAnyH_re 6 #[true, true, true, true, true, true, true, true, true, true, true, true, true, true, true, true, true, true, true, true, true, true, true, true, true, true, true, true, true, true, true, true, true, true, true, true, true, true, true, false, true, false, false, false, false, false] (by kernel_rfl) (by kernel_rfl) ?_
                          refine wpAnyH_take (i := 41) (oi := ⟨some 127, _, _, _, _, _⟩) (v := .slice a2 n2 c2) rfl (by kernel_rfl) (by kernel_rfl) (by kernel_rfl) (fun _ _ _ h => h) (Or.inl ⟨by kernel_rfl, fun w hS => by obtain ⟨⟨u0, u1, u2⟩, u3, u4, u5, u6, u7⟩ := hS; go_simp⟩) hH3b ?_
                          simp only [Act.put, List.setIfInBounds_toArray, List.set_cons_zero, List.set_cons_succ]
                          refine wpAnyH_re 5 #[true, true, true, true, true, true, true, true, true, true, true, true, true, true, true, true, true, true, true, true, true, true, true, true, true, true, true, true, true, true, true, true, true, true, true, true, true, true, true, false, true, true, false, false, false, false] (by kernel_rfl) (by kernel_rfl) ?_
                          refine wpAnyH_take (i := 42) (oi := ⟨some 128, _, _, _, _, _⟩) (v := .int .i64 (n2 : Int)) rfl (by kernel_rfl) (by kernel_rfl) (by kernel_rfl) (fun _ _ _ h => h) (Or.inl ⟨by kernel_rfl, fun w hS => by go_simp⟩) hH3b ?_
                          simp only [Act.put, List.setIfInBounds_toArray, List.set_cons_zero, List.set_cons_succ]
                          refine wpAnyH_re 4 #[true, true, true, true, true, true, true, true, true, true, true, true, true, true, true, true, true, true, true, true, true, true, true, true, true, true, true, true, true, true, true, true, true, true, true, true, true, true, true, false, true, true, true, false, false, false] (by kernel_rfl) (by kernel_rfl) ?_
                          refine wpAnyH_ready (rs := [39]) (by kernel_rfl) (by simp) (AllReadyH.cons (o := ⟨some 125, _, _, _, _, _⟩) rfl (fun K hK => ?_) AllReadyH.nil)
                          go_simp
                          refine (HP5.out _ HB38.out).mono ?_
                          rintro e w48 ⟨p4, q4, r4, rfl, hq4, hS4, hb48⟩
                          have HB48 := Lib.hid hb48
                          have HSR4 := Lib.hid hS4.row
                          have HQL4 := Lib.hid hq4
                          clear hb48 hS4 hq4
                          refine hK.out _ _ (HS9.out _ HB48.out) (fun hH4a => ?_)
                          clear hK K hH3b
                          refine wpAnyH_re 3 #[true, true, true, true, true, true, true, true, true, true, true, true, true, true, true, true, true, true, true, true, true, true, true, true, true, true, true, true, true, true, true, true, true, true, true, true, true, true, true, true, true, true, true, false, false, false] (by kernel_rfl) (by kernel_rfl) ?_
                          refine wpAnyH_ready (rs := [43]) (by kernel_rfl) (by simp) (AllReadyH.cons (o := ⟨some 129, _, _, _, _, _⟩) rfl (fun K hK => ?_) AllReadyH.nil)
                          go_simp
                          refine (HQ4.out _ _ _ _ HQL4.out HSR4.out).mono ?_
                          rintro e w9 ⟨rfl, rfl⟩
                          refine hK.out _ _ (HS9.out _ HB48.out) (fun hH4b => ?_)
                          clear hK K hH4a
                          cases b4 with
                          | false =>
                            as_aux_lemma =>
                              have HF := Lib.hid (may_no5 (L := L) (by rw [N1.out, N2.out, N3.out]; exact all_bad HY.out (rr_5 B4.out)))
                              refine wpAnyH_re 2 #[true, true, true, true, true, true, true, true, true, true, true, true, true, true, true, true, true, true, true, true, true, true, true, true, true, true, true, true, true, true, true, true, true, true, true, true, true, true, true, true, true, true, true, true, false, false] (by kernel_rfl) (by kernel_rfl) ?_
                              refine wpAnyH_take (i := 44) (oi := ⟨some 130, _, _, _, _, _⟩) (v := .bool true) rfl (by kernel_rfl) (by kernel_rfl) (by kernel_rfl) (fun _ _ _ h => h) (Or.inl ⟨by kernel_rfl, fun w hS => by go_simp⟩) hH4b ?_
                              simp only [Act.put, List.setIfInBounds_toArray, List.set_cons_zero, List.set_cons_succ]
                              refine wpAnyH_re 1 #[true, true, true, true, true, true, true, true, true, true, true, true, true, true, true, true, true, true, true, true, true, true, true, true, true, true, true, true, true, true, true, true, true, true, true, true, true, true, true, true, true, true, true, true, true, false] (by kernel_rfl) (by kernel_rfl) ?_
                              refine wpAnyH_take (i := 45) (oi := ⟨some 131, _, _, _, _, _⟩) (v := .bool true) rfl (by kernel_rfl) (by kernel_rfl) (by kernel_rfl) (fun _ _ _ h => h) (Or.inl ⟨by kernel_rfl, fun w hS => by go_simp⟩) hH4b ?_
                              simp only [Act.put, List.setIfInBounds_toArray, List.set_cons_zero, List.set_cons_succ]
                              refine wpAnyH_done (by kernel_rfl) ?_ _
                              have HM7 := Lib.hid (HM4.out.step HB48.out)
                              clear hH4b
                              go_wp2_with fail
                              go_ret
                              exact ⟨by rw [HF.out]; rfl, HM7.out.below⟩
                          | true =>
                            refine wpAnyH_re 2 #[true, true, true, true, true, true, true, true, true, true, true, true, true, true, true, true, true, true, true, true, true, true, true, true, true, true, true, true, true, true, true, true, true, true, true, true, true, true, true, true, true, true, true, true, false, false] (by kernel_rfl) (by kernel_rfl) ?_
                            refine wpAnyH_take (i := 44) (oi := ⟨some 130, _, _, _, _, _⟩) (v := .bool false) rfl (by kernel_rfl) (by kernel_rfl) (by kernel_rfl) (fun _ _ _ h => h) (Or.inl ⟨by kernel_rfl, fun w hS => by go_simp⟩) hH4b ?_
                            simp only [Act.put, List.setIfInBounds_toArray, List.set_cons_zero, List.set_cons_succ]
                            refine wpAnyH_re 1 #[true, true, true, true, true, true, true, true, true, true, true, true, true, true, true, true, true, true, true, true, true, true, true, true, true, true, true, true, true, true, true, true, true, true, true, true, true, true, true, true, true, true, true, true, true, false] (by kernel_rfl) (by kernel_rfl) ?_
                            refine wpAnyH_take (i := 45) (oi := ⟨some 131, _, _, _, _, _⟩) (v := .bool false) rfl (by kernel_rfl) (by kernel_rfl) (by kernel_rfl) (fun _ _ _ h => h) (Or.inl ⟨by kernel_rfl, fun w hS => by go_simp⟩) hH4b ?_
                            simp only [Act.put, List.setIfInBounds_toArray, List.set_cons_zero, List.set_cons_succ]
                            refine wpAnyH_done (by kernel_rfl) ?_ _
                            have HM7 := Lib.hid (HM4.out.step HB48.out)
                            clear hH4b
                            have HX := Lib.hid (all_take HY.out (rr_6 B0.out B1.out B2.out B3.out B4.out) HST.out)
                            go_wp2_with fail
                            go_roundg (n4 - (k + 1))
                            case rel => exact ⟨k + 1, by have := HK.out; omega, by go_num, HX.out, HM7.out⟩
                            case measure => have := HK.out; omega
                · have hkn : n4 = k := by omega
                  subst hkn
                  have HF : Hid (mayS L = true) := Lib.hid (may_yes HS.out HNM.out (by rw [N1.out]; exact HB2.out) (by rw [N1.out]; exact HB3.out) (by rw [N1.out, N2.out, N3.out]; have := HST.out; rwa [List.take_of_length_le (by rw [N4.out]; exact Nat.le_refl _)] at this))
                  go_wp2_with fail
                  go_ret
                  exact ⟨by rw [HF.out]; rfl, HM.out.below⟩
end Go.Proofs.Ytjienmjpfklgeaa
namespace Go.Proofs.Ytjienmjpfklgeaa
open Go.RowKit
set_option maxRecDepth 100000

/-- a row of n elements lies in a block of its own, made since the heap was as great as base -/
def NewRow (sz base : Nat) (w : World) (a : Option Addr) (n : Nat) : Prop := n = 0 ∨ ∃ g cs t, a = some ⟨g, 0, none⟩ ∧ base ≤ g ∧ w.heap[g]? = some (.cells cs t (0, 0)) ∧ n * sz ≤ cs.size
theorem NewRow.mono {sz base base' : Nat} {w : World} {a : Option Addr} {n : Nat} (h : NewRow sz base w a n) (hb : base' ≤ base) : NewRow sz base' w a n := by
  refine h.imp id ?_
  rintro ⟨g, cs, t, h1, h2, h3, h4⟩
  exact ⟨g, cs, t, h1, Nat.le_trans hb h2, h3, h4⟩
theorem NewRow.below {sz base : Nat} {w w' : World} {a : Option Addr} {n : Nat} (h : NewRow sz base w a n) (hb : Below w.heap.size w w') : NewRow sz base w' a n := by
  refine h.imp id ?_
  rintro ⟨g, cs, t, h1, h2, h3, h4⟩
  exact ⟨g, cs, t, h1, h2, blk_keep hb h3, h4⟩
theorem own_sl2 {α : Type} {f : α → List Value} {sz : Nat} {w : World} {base : Nat} {e : TypeId} {v : Value} {n : Nat} {l : List α} (hf : ∀ c, (f c).length = sz) (hn : l.length = n) (h : w.ownsRow base e sz v n (l.flatMap f)) :
    ∃ a c, v = .slice a n c ∧ SlAt sz f w ⟨a, c, l⟩ ∧ NewRow sz base w a n := by
  obtain ⟨a, c, hv, hs⟩ := own_sl hf hn h
  refine ⟨a, c, hv, hs, ?_⟩
  rcases h.2 with ⟨_, rfl⟩ | ⟨g, cap, cur, hv2, hg, hheap, hncap, hcm, hsz, htake⟩
  · exact .inl rfl
  · rw [hv] at hv2
    injection hv2 with h1 h2 h3
    refine .inr ⟨g, cur, e, h1, hg, hheap, ?_⟩
    have h4 := congrArg List.length htake
    rw [List.length_take, flat_len hf, hn, Array.length_toList] at h4
    omega

/-- the place of a number, from place k on; -1: it is not there -/
def ixI : Nat → List Int → Int → Int
  | _, [], _ => -1
  | k, y :: t, s => if y = s then (k : Int) else ixI (k + 1) t s
def hasI (l : List Int) (s : Int) : Bool := l.any fun x => decide (x = s)
theorem ixI_iff : ∀ (l : List Int) (k : Nat) (s : Int), (0 ≤ ixI k l s ∧ hasI l s = true) ∨ (ixI k l s < 0 ∧ hasI l s = false) := by
  intro l
  induction l with
  | nil => intro k s; exact .inr ⟨by unfold ixI; decide, by unfold hasI; rfl⟩
  | cons y l ih =>
    intro k s
    by_cases h : y = s
    · exact .inl ⟨by unfold ixI; rw [if_pos h]; omega, by unfold hasI; simp [h]⟩
    · have e1 : ixI k (y :: l) s = ixI (k + 1) l s := by
        show (if y = s then (k : Int) else ixI (k + 1) l s) = _
        rw [if_neg h]
      have e2 : hasI (y :: l) s = hasI l s := by unfold hasI; simp [h]
      rw [e1, e2]
      exact ih (k + 1) s
theorem ixI_drop {l : List Int} {s y : Int} {k : Nat} (h : l[k]? = some y) (hy : y ≠ s) : ixI k (l.drop k) s = ixI (k + 1) (l.drop (k + 1)) s := by
  have hk : k < l.length := (List.getElem?_eq_some_iff.1 h).1
  rw [List.drop_eq_getElem_cons hk, (List.getElem?_eq_some_iff.1 h).2]
  show (if y = s then (k : Int) else ixI (k + 1) (l.drop (k + 1)) s) = _
  rw [if_neg hy]
theorem ixI_hit {l : List Int} {s y : Int} {k : Nat} (h : l[k]? = some y) (hy : y = s) : ixI k (l.drop k) s = k := by
  have hk : k < l.length := (List.getElem?_eq_some_iff.1 h).1
  rw [List.drop_eq_getElem_cons hk, (List.getElem?_eq_some_iff.1 h).2]
  show (if y = s then (k : Int) else ixI (k + 1) (l.drop (k + 1)) s) = _
  rw [if_pos hy]
theorem ixI_end {l : List Int} {s : Int} {k : Nat} (h : l.length = k) : ixI k (l.drop k) s = -1 := by rw [List.drop_eq_nil_of_le (by omega)]; rfl
/-- how often a number is in a row -/
def cntI (l : List Int) (s : Int) : Nat := (l.filter fun x => decide (x = s)).length
theorem cntI_take {l : List Int} {s y : Int} {k : Nat} (h : l[k]? = some y) : cntI (l.take (k + 1)) s = cntI (l.take k) s + (if y = s then 1 else 0) := by
  unfold cntI; rw [List.take_add_one, h, List.filter_append, List.length_append]
  by_cases hy : y = s <;> simp [hy]
theorem cntI_le (l : List Int) (s : Int) : cntI l s ≤ l.length := List.length_filter_le _ _
attribute [local irreducible] ixI cntI hasI
theorem index_is (x : Option Addr) (m c : Nat) (l : List Int) (s : Int) (w : World) (hn : l.length = m) (hm : m ≤ 9223372036854775807) (hl : RowAt 1 intC w x l) :
    Calls Try.prog 102 #[.slice x m c, .int .i64 s] w fun e w' => e = .returned (.int .i64 (ixI 0 l s)) ∧ w = w' := by
  have HN := Lib.hid hn
  clear hn
  go_enter Try.func102, Try.ntmps102
  go_wp2_with fail
  go_loopg [5, 8] m (fun g _ i wr => ∃ k : Nat, k + g = m ∧ i = .int .i64 (k : Int) ∧ ixI k (l.drop k) s = ixI 0 l s ∧ w = wr)
  case atStart => exact ⟨0, by omega, rfl, rfl, rfl⟩
  case round =>
    obtain ⟨k, hk, rfl, hb, rfl⟩ := hrel
    have HB := Lib.hid hb
    clear hb
    by_cases hlt : k < m
    · obtain ⟨y, hy⟩ : ∃ y, l[k]? = some y := ⟨_, List.getElem?_eq_getElem (by rw [HN.out]; exact hlt)⟩
      rcases hl with rfl | ⟨b, off, rfl, hc⟩
      · simp at hy
      have z0 := hc k y hy 0 _ rfl
      rw [Nat.add_zero, Nat.mul_one] at z0
      have HY := Lib.hid hy
      have d1 : (0 : Int) ≤ k := by omega
      have d2 : (k : Int) < m := by omega
      have e1 : wrap64 ((k : Int) + 1) = (k : Int) + 1 := by unfold wrap64; omega
      have HK := Lib.hid hk
      clear hc hy hk
      by_cases hys : y = s
      · have HF : Hid (ixI 0 l s = k) := Lib.hid (HB.out.symm.trans (ixI_hit HY.out hys))
        have hbe : (s == y) = true := by simp [hys]
        clear hys
        go_wp2_with fail
        go_ret
        exact ⟨by rw [HF.out]; rfl, rfl⟩
      · have HT : Hid (ixI (k + 1) (l.drop (k + 1)) s = ixI 0 l s) := Lib.hid ((ixI_drop HY.out hys).symm.trans HB.out)
        have hbe : (s == y) = false := by simpa using fun h => hys h.symm
        clear hys
        go_wp2_with fail
        go_roundg (m - (k + 1))
        case rel => exact ⟨k + 1, by have := HK.out; omega, by go_num, HT.out, rfl⟩
        case measure => have := HK.out; omega
    · have hkm : m = k := by omega
      subst hkm
      have HF : Hid (ixI 0 l s = -1) := Lib.hid (HB.out.symm.trans (ixI_end HN.out))
      go_wp2_with fail
      go_ret
      exact ⟨by rw [HF.out]; rfl, rfl⟩
theorem contains_is (b : Bool) (x : Option Addr) (m c : Nat) (l : List Int) (s : Int) (w : World) (hB : hasI l s = b) (hn : l.length = m) (hm : m ≤ 9223372036854775807) (hl : RowAt 1 intC w x l) :
    Calls Try.prog 92 #[.slice x m c, .int .i64 s] w fun e w' => e = .returned (.bool b) ∧ w = w' := by
  obtain ⟨z, hz⟩ : ∃ z, ixI 0 l s = z := ⟨_, rfl⟩
  have hi := ixI_iff l 0 s
  rw [hz, hB] at hi
  have HC := Lib.hid (index_is x m c l s w hn hm hl)
  rw [hz] at HC
  clear hz hn hm hl
  rcases hi with ⟨h1, rfl⟩ | ⟨h1, rfl⟩
  · go_enter Try.func92, Try.ntmps92
    go_wp2_with fail
    refine HC.out.mono ?_
    rintro e w1 ⟨rfl, rfl⟩
    go_wp2_with fail
    go_ret
    exact ⟨rfl, rfl⟩
  · have h2 : ¬ 0 ≤ z := by omega
    clear h1
    go_enter Try.func92, Try.ntmps92
    go_wp2_with fail
    refine HC.out.mono ?_
    rintro e w1 ⟨rfl, rfl⟩
    go_wp2_with fail
    go_ret
    exact ⟨by show Ending.returned (.bool (decide (0 ≤ z))) = _; rw [decide_eq_false (by omega)], rfl⟩
theorem count_is (x : Option Addr) (m c : Nat) (l : List Int) (s : Int) (w : World) (hn : l.length = m) (hm : m ≤ 9223372036854775807) (hl : RowAt 1 intC w x l) :
    Calls Try.prog 78 #[.slice x m c, .int .i64 s] w fun e w' => e = .returned (.int .i64 (cntI l s : Int)) ∧ w = w' := by
  have HN := Lib.hid hn
  clear hn
  go_enter Try.func78, Try.ntmps78
  go_wp2_with fail
  go_loopg [5, 6] m (fun g v i wr => ∃ k : Nat, k + g = m ∧ i = .int .i64 (k : Int) ∧ v = .int .i64 (cntI (l.take k) s : Int) ∧ w = wr)
  case atStart => exact ⟨0, by omega, rfl, by unfold cntI; rfl, rfl⟩
  case round =>
    obtain ⟨k, hk, rfl, rfl, rfl⟩ := hrel
    by_cases hlt : k < m
    · obtain ⟨y, hy⟩ : ∃ y, l[k]? = some y := ⟨_, List.getElem?_eq_getElem (by rw [HN.out]; exact hlt)⟩
      rcases hl with rfl | ⟨b, off, rfl, hc⟩
      · simp at hy
      have z0 := hc k y hy 0 _ rfl
      rw [Nat.add_zero, Nat.mul_one] at z0
      have hle : cntI (l.take k) s ≤ k := Nat.le_trans (cntI_le _ _) (by rw [List.length_take]; omega)
      have HT := Lib.hid (cntI_take (s := s) hy)
      have d1 : (0 : Int) ≤ k := by omega
      have d2 : (k : Int) < m := by omega
      have e1 : wrap64 ((k : Int) + 1) = (k : Int) + 1 := by unfold wrap64; omega
      have e2 : wrap64 ((cntI (l.take k) s : Int) + 1) = (cntI (l.take k) s : Int) + 1 := by unfold wrap64; omega
      have HK := Lib.hid hk
      clear hc hy hk hle
      by_cases hys : y = s
      · have hbe : (y == s) = true := by simp [hys]
        have HF : Hid (cntI (l.take (k + 1)) s = cntI (l.take k) s + 1) := Lib.hid (by rw [HT.out, if_pos hys])
        clear hys
        go_wp2_with fail
        go_roundg (m - (k + 1))
        case rel => exact ⟨k + 1, by have := HK.out; omega, by go_num, by rw [HF.out]; first | rfl | go_num, rfl⟩
        case measure => have := HK.out; omega
      · have hbe : (y == s) = false := by simpa using hys
        have HF : Hid (cntI (l.take (k + 1)) s = cntI (l.take k) s) := Lib.hid (by rw [HT.out, if_neg hys, Nat.add_zero])
        clear hys
        go_wp2_with fail
        go_roundg (m - (k + 1))
        case rel => exact ⟨k + 1, by have := HK.out; omega, by go_num, by rw [HF.out], rfl⟩
        case measure => have := HK.out; omega
    · have hkm : m = k := by omega
      subst hkm
      have HF : Hid (l.take m = l) := Lib.hid (List.take_of_length_le (by rw [HN.out]; exact Nat.le_refl _))
      go_wp2_with fail
      go_ret
      exact ⟨by rw [HF.out]; rfl, rfl⟩

set_option maxRecDepth 100000 in
set_option maxHeartbeats 2000000 in
theorem rtrack_own (r : Rt) (w : World) (hr : RtAt w r) (hlen : r.pa.l.length + r.ov.l.length ≤ 100000) :
    Calls Try.prog 48 #[.agg #[.string r.nm, .int .i64 r.sg, r.pa.v, r.po.v, r.ov.v, r.fl.v]] w fun e w' => ∃ a n c, e = .returned (.slice a n c) ∧ n = r.pa.l.length + r.ov.l.length ∧ SlAt 1 intC w' ⟨a, c, r.pa.l ++ r.ov.l⟩ ∧ Below w.heap.size w w' ∧ NewRow 1 w.heap.size w' a n := by
  obtain ⟨nm, sg, ⟨pa, pc, pl⟩, ⟨oa, oc, ol⟩, ⟨va, vc, vl⟩, ⟨fa, fc, fl⟩⟩ := r
  have hS1 := src_sl int_len int_one hr.pa
  have hS2 := src_sl int_len int_one hr.ov
  dsimp only at hS1 hS2 hlen ⊢
  obtain ⟨m1, hm1⟩ : ∃ m, pl.length = m := ⟨_, rfl⟩
  obtain ⟨m2, hm2⟩ : ∃ m, ol.length = m := ⟨_, rfl⟩
  obtain ⟨m3, hm3⟩ : ∃ m, vl.length = m := ⟨_, rfl⟩
  obtain ⟨m4, hm4⟩ : ∃ m, fl.length = m := ⟨_, rfl⟩
  rw [slv2 hm1, slv2 hm2, slv2 hm3, slv2 hm4]
  rw [hm1, hm3] at hlen ⊢
  obtain ⟨i0, hi, hz0, hz1, hz2⟩ := info_parts info_int
  have HI := Lib.hid (And.intro hi (And.intro hz0 (And.intro hz1 hz2)))
  obtain ⟨W, hW⟩ : ∃ W, W = w.alloc (.cells #[.string nm, .int .i64 sg, .slice pa m1 pc, .slice oa m2 oc, .slice va m3 vc, .slice fa m4 fc] 44) := ⟨_, rfl⟩
  have hBW : Below w.heap.size w W := by rw [hW]; exact below1 w _
  have hk : W.heap[w.heap.size]? = some (.cells #[.string nm, .int .i64 sg, .slice pa m1 pc, .slice oa m2 oc, .slice va m3 vc, .slice fa m4 fc] 44) := by rw [hW]; exact alloc1 w _ (Below.refl _ _)
  have HS1 := Lib.hid (srcAt_below hS1 hBW)
  have HS2 := Lib.hid (srcAt_below hS2 hBW)
  have HBW := Lib.hid hBW
  have HM := Lib.hid (And.intro hm1 (And.intro hm2 (And.intro hm3 hm4)))
  have HLE := Lib.hid hlen
  obtain ⟨gx, hgx⟩ : ∃ g, g = w.heap.size := ⟨_, rfl⟩
  rw [← hgx] at hk
  have HK := Lib.hid hk
  have HWW := Lib.hid hW
  have c2 := blk_cell hk 2 _ rfl
  have c3 := blk_cell hk 3 _ rfl
  have c4 := blk_cell hk 4 _ rfl
  have c5 := blk_cell hk 5 _ rfl
  clear hi hz0 hz1 hz2 hS1 hS2 hm1 hm2 hm3 hm4 hBW hk hlen hr hW
  go_enter Try.func48, Try.ntmps48
  go_upto_region 1 with fail
  rw [← HWW.out, ← hgx]
  clear hgx
  go_upto_region 2 with fail
  go_wp2_with (at_builtin; first
    | (refine wpList_append_src rfl _ _ 41 rfl W.heap.size 3 i0 (.int .i64 0) 1 8 Try.underlying41 HI.out.1 HI.out.2.1 HI.out.2.2.1 HI.out.2.2.2 rfl (by decide) (.slice none 0 0) 0 [] rfl (World.ownsRow_nil _ _ _ _) pa m1 pc (pl.flatMap intC) rfl (by rw [flat_len int_len, HM.out.1]) HS1.out (by have := HLE.out; unfold maxLen; omega) (by have := HLE.out; omega) (Nat.le_refl _) ?_; intro v4 W4 hown4 hg4; have hB4 : Below W.heap.size W W4 := (Below.refl _ W).grown hg4 (Nat.le_refl _) (fun k hk => by cases hk); have HK4 := Lib.hid (blk_keep hB4 HK.out); rw [List.nil_append, Nat.zero_add] at hown4; have d2 := blk_cell HK4.out 2 _ rfl; have d3 := blk_cell HK4.out 3 _ rfl; have d4 := blk_cell HK4.out 4 _ rfl; have d5 := blk_cell HK4.out 5 _ rfl; have HO4 := Lib.hid hown4; have HB4 := Lib.hid hB4; have HS4 := Lib.hid (srcAt_below HS2.out hB4); clear hown4 hg4 hB4 c2 c3 c4 c5)
    | (refine wpList_append_src rfl _ _ 41 rfl W.heap.size 3 i0 (.int .i64 0) 1 8 Try.underlying41 HI.out.1 HI.out.2.1 HI.out.2.2.1 HI.out.2.2.2 rfl (by decide) v4 m1 (pl.flatMap intC) rfl HO4.out va m3 vc (vl.flatMap intC) rfl (by rw [flat_len int_len, HM.out.2.2.1]) HS4.out (by have := HLE.out; unfold maxLen; omega) (by have := HLE.out; omega) HB4.out.size ?_; intro v5 W5 hown5 hg5; rw [← List.flatMap_append] at hown5; obtain ⟨a5, c5, rfl, hS5, hN5⟩ := own_sl2 int_len (by rw [List.length_append, HM.out.1, HM.out.2.2.1]) hown5; have HS5 := Lib.hid hS5; have HN5 := Lib.hid hN5; have HB5 := Lib.hid (HB4.out.grown hg5 HB4.out.size (fun k hk => (HO4.out.lt _ hk).1)); clear hown5 hg5 hS5 hN5 d2 d3 d4 d5))
  go_ret
  exact ⟨a5, _, c5, rfl, rfl, HS5.out, below_on HBW.out HB5.out, HN5.out.mono HBW.out.size⟩
theorem rtrack_is (r : Rt) (w : World) (hr : RtAt w r) (hlen : r.pa.l.length + r.ov.l.length ≤ 100000) :
    Calls Try.prog 48 #[.agg #[.string r.nm, .int .i64 r.sg, r.pa.v, r.po.v, r.ov.v, r.fl.v]] w fun e w' => ∃ a n c, e = .returned (.slice a n c) ∧ n = r.pa.l.length + r.ov.l.length ∧ SlAt 1 intC w' ⟨a, c, r.pa.l ++ r.ov.l⟩ ∧ Below w.heap.size w w' :=
  (rtrack_own r w hr hlen).mono (fun _ _ ⟨a, n, c, h1, h2, h3, h4, _⟩ => ⟨a, n, c, h1, h2, h3, h4⟩)
theorem info_nd : (Try.prog.info? 46).map (fun i => (i.zero, i.size, i.bytes)) = some (some (.agg #[.int .i64 0, .bool false]), 2, 16) := by kernel_rfl

set_option maxRecDepth 100000 in
set_option maxHeartbeats 2000000 in
theorem rneeds_own (r : Rt) (w : World) (hr : RtAt w r) (hlen : r.po.l.length + r.fl.l.length ≤ 100000) :
    Calls Try.prog 45 #[.agg #[.string r.nm, .int .i64 r.sg, r.pa.v, r.po.v, r.ov.v, r.fl.v]] w fun e w' => ∃ a n c, e = .returned (.slice a n c) ∧ n = r.po.l.length + r.fl.l.length ∧ SlAt 2 ndC w' ⟨a, c, r.po.l ++ r.fl.l⟩ ∧ Below w.heap.size w w' ∧ NewRow 2 w.heap.size w' a n := by
  obtain ⟨nm, sg, ⟨pa, pc, pl⟩, ⟨oa, oc, ol⟩, ⟨va, vc, vl⟩, ⟨fa, fc, fl⟩⟩ := r
  have hS1 := src_sl nd_len nd_one hr.po
  have hS2 := src_sl nd_len nd_one hr.fl
  dsimp only at hS1 hS2 hlen ⊢
  obtain ⟨m1, hm1⟩ : ∃ m, pl.length = m := ⟨_, rfl⟩
  obtain ⟨m2, hm2⟩ : ∃ m, ol.length = m := ⟨_, rfl⟩
  obtain ⟨m3, hm3⟩ : ∃ m, vl.length = m := ⟨_, rfl⟩
  obtain ⟨m4, hm4⟩ : ∃ m, fl.length = m := ⟨_, rfl⟩
  rw [slv2 hm1, slv2 hm2, slv2 hm3, slv2 hm4]
  rw [hm2, hm4] at hlen ⊢
  obtain ⟨i0, hi, hz0, hz1, hz2⟩ := info_parts info_nd
  have HI := Lib.hid (And.intro hi (And.intro hz0 (And.intro hz1 hz2)))
  obtain ⟨W, hW⟩ : ∃ W, W = w.alloc (.cells #[.string nm, .int .i64 sg, .slice pa m1 pc, .slice oa m2 oc, .slice va m3 vc, .slice fa m4 fc] 44) := ⟨_, rfl⟩
  have hBW : Below w.heap.size w W := by rw [hW]; exact below1 w _
  have hk : W.heap[w.heap.size]? = some (.cells #[.string nm, .int .i64 sg, .slice pa m1 pc, .slice oa m2 oc, .slice va m3 vc, .slice fa m4 fc] 44) := by rw [hW]; exact alloc1 w _ (Below.refl _ _)
  have HS1 := Lib.hid (srcAt_below hS1 hBW)
  have HS2 := Lib.hid (srcAt_below hS2 hBW)
  have HBW := Lib.hid hBW
  have HM := Lib.hid (And.intro hm1 (And.intro hm2 (And.intro hm3 hm4)))
  have HLE := Lib.hid hlen
  obtain ⟨gx, hgx⟩ : ∃ g, g = w.heap.size := ⟨_, rfl⟩
  rw [← hgx] at hk
  have HK := Lib.hid hk
  have HWW := Lib.hid hW
  have c2 := blk_cell hk 2 _ rfl
  have c3 := blk_cell hk 3 _ rfl
  have c4 := blk_cell hk 4 _ rfl
  have c5 := blk_cell hk 5 _ rfl
  clear hi hz0 hz1 hz2 hS1 hS2 hm1 hm2 hm3 hm4 hBW hk hlen hr hW
  go_enter Try.func45, Try.ntmps45
  go_upto_region 1 with fail
  rw [← HWW.out, ← hgx]
  clear hgx
  go_upto_region 2 with fail
  go_wp2_with (at_builtin; first
    | (refine wpList_append_src rfl _ _ 42 rfl W.heap.size 46 i0 (.agg #[.int .i64 0, .bool false]) 2 16 Try.underlying42 HI.out.1 HI.out.2.1 HI.out.2.2.1 HI.out.2.2.2 rfl (by decide) (.slice none 0 0) 0 [] rfl (World.ownsRow_nil _ _ _ _) oa m2 oc (ol.flatMap ndC) rfl (by rw [flat_len nd_len, HM.out.2.1]) HS1.out (by have := HLE.out; unfold maxLen; omega) (by have := HLE.out; omega) (Nat.le_refl _) ?_; intro v4 W4 hown4 hg4; have hB4 : Below W.heap.size W W4 := (Below.refl _ W).grown hg4 (Nat.le_refl _) (fun k hk => by cases hk); have HK4 := Lib.hid (blk_keep hB4 HK.out); rw [List.nil_append, Nat.zero_add] at hown4; have d2 := blk_cell HK4.out 2 _ rfl; have d3 := blk_cell HK4.out 3 _ rfl; have d4 := blk_cell HK4.out 4 _ rfl; have d5 := blk_cell HK4.out 5 _ rfl; have HO4 := Lib.hid hown4; have HB4 := Lib.hid hB4; have HS4 := Lib.hid (srcAt_below HS2.out hB4); clear hown4 hg4 hB4 c2 c3 c4 c5)
    | (refine wpList_append_src rfl _ _ 42 rfl W.heap.size 46 i0 (.agg #[.int .i64 0, .bool false]) 2 16 Try.underlying42 HI.out.1 HI.out.2.1 HI.out.2.2.1 HI.out.2.2.2 rfl (by decide) v4 m2 (ol.flatMap ndC) rfl HO4.out fa m4 fc (fl.flatMap ndC) rfl (by rw [flat_len nd_len, HM.out.2.2.2]) HS4.out (by have := HLE.out; unfold maxLen; omega) (by have := HLE.out; omega) HB4.out.size ?_; intro v5 W5 hown5 hg5; rw [← List.flatMap_append] at hown5; obtain ⟨a5, c5, rfl, hS5, hN5⟩ := own_sl2 nd_len (by rw [List.length_append, HM.out.2.1, HM.out.2.2.2]) hown5; have HS5 := Lib.hid hS5; have HN5 := Lib.hid hN5; have HB5 := Lib.hid (HB4.out.grown hg5 HB4.out.size (fun k hk => (HO4.out.lt _ hk).1)); clear hown5 hg5 hS5 hN5 d2 d3 d4 d5))
  go_ret
  exact ⟨a5, _, c5, rfl, rfl, HS5.out, below_on HBW.out HB5.out, HN5.out.mono HBW.out.size⟩
theorem rneeds_is (r : Rt) (w : World) (hr : RtAt w r) (hlen : r.po.l.length + r.fl.l.length ≤ 100000) :
    Calls Try.prog 45 #[.agg #[.string r.nm, .int .i64 r.sg, r.pa.v, r.po.v, r.ov.v, r.fl.v]] w fun e w' => ∃ a n c, e = .returned (.slice a n c) ∧ n = r.po.l.length + r.fl.l.length ∧ SlAt 2 ndC w' ⟨a, c, r.po.l ++ r.fl.l⟩ ∧ Below w.heap.size w w' :=
  (rneeds_own r w hr hlen).mono (fun _ _ ⟨a, n, c, h1, h2, h3, h4, _⟩ => ⟨a, n, c, h1, h2, h3, h4⟩)
end Go.Proofs.Ytjienmjpfklgeaa
namespace Go.Proofs.Ytjienmjpfklgeaa
open Go.RowKit
set_option maxRecDepth 100000

set_option maxRecDepth 100000 in
set_option maxHeartbeats 2000000 in
theorem grow_int (n : Nat) (hn : n ≤ 100000) (w : World) : Calls Try.prog 96 #[.slice none 0 0, .int .i64 (n : Int)] w fun e w' => ∃ v, e = .returned v ∧ w'.ownsRow w.heap.size 3 1 v 0 [] ∧ Below w.heap.size w w' := by
  have h1 : ¬ ((n : Int) < 0) := by omega
  have h2 : wrap64 (n : Int) = (n : Int) := by unfold wrap64; omega
  by_cases h0 : n = 0
  · subst h0
    go_enter Try.func96, Try.ntmps96
    go_wp2_with fail
    go_ret
    exact ⟨_, rfl, World.ownsRow_nil _ _ _ _, Below.refl _ _⟩
  · have h4 : (n : Int) > 0 := by omega
    have h5 : (0 : Int) < n := by omega
    obtain ⟨i0, hi, hz0, hz1, hz2⟩ := info_parts info_int
    have hrz : ∀ ty, (Builtin.append_ #[41, 3] ty #[.slice none 0 0, .int .i64 (n : Int)]).run Try.prog w = .ok (.slice (some ⟨w.heap.size, 0, none⟩) (0 + n) (grownCap w (0 + n) 0 3)) (w.drew.alloc (.cells (([] : List Value).toArray ++ Builtin.zeroCells (.int .i64 0 : Value).cells n ++ Builtin.zeroCells (.int .i64 0 : Value).cells (grownCap w (0 + n) 0 3 - (0 + n))) 3)) := fun ty =>
      Lib.run_append_grow_zeros w 41 3 ty 3 i0 (.int .i64 0) .i64 .i64 Try.underlying41 Try.underlying3 hi hz0 none 0 0 [] (run_firstCells_none _ _ _ _ _) n (by omega) (by rw [hz1]; decide) (by omega) (by omega) (by rw [hz2]; omega) (growslice_fits (by omega) (by rw [hz2]; omega))
    have hge := grownCap_ge w (0 + n) 0 3
    have hcm := grownCap_le_maxLen w (0 + n) 0 3 (by unfold maxLen; omega)
    obtain ⟨G, hG⟩ : ∃ G, G = grownCap w (0 + n) 0 3 := ⟨_, rfl⟩
    rw [← hG] at hrz hge hcm
    rw [Nat.zero_add] at hrz hge
    obtain ⟨Z, hZ⟩ : ∃ Z, Z = ([] : List Value).toArray ++ Builtin.zeroCells (.int .i64 0 : Value).cells n ++ Builtin.zeroCells (.int .i64 0 : Value).cells (G - n) := ⟨_, rfl⟩
    rw [← hZ] at hrz
    have hs : Z.size = G * 1 := by
      rw [hZ, Array.size_append, Array.size_append, size_zeroCells, size_zeroCells]
      show 0 + n * 1 + (G - n) * 1 = G * 1
      omega
    have hG63 : G ≤ 9223372036854775807 := by unfold maxLen at hcm; exact hcm
    have g1 : (0 : Int) ≤ G := by omega
    have HE : Hid ((w.drew.alloc (.cells Z 3)).ownsRow w.heap.size 3 1 (.slice (some ⟨w.heap.size, 0, none⟩) 0 G) 0 [] ∧ Below w.heap.size w (w.drew.alloc (.cells Z 3))) := Lib.hid ⟨⟨rfl, .inr ⟨w.heap.size, G, Z, rfl, Nat.le_refl _, alloc1 w.drew _ (Below.refl _ _), Nat.zero_le _, hcm, hs, by simp⟩⟩, (Below.refl _ w).drew.alloc (Nat.le_refl _) _⟩
    clear hi hz0 hz1 hz2 hG hZ hs hcm h0
    go_enter Try.func96, Try.ntmps96
    go_wp2_with (at_builtin; refine Lib.wpList_append_run _ rfl _ _ _ _ rfl _ _ rfl rfl _ _ (hrz _) ?_)
    go_ret
    exact ⟨_, rfl, HE.out.1, HE.out.2⟩

set_option maxRecDepth 100000 in
set_option maxHeartbeats 2000000 in
theorem grow_nd (n : Nat) (hn : n ≤ 100000) (w : World) : Calls Try.prog 97 #[.slice none 0 0, .int .i64 (n : Int)] w fun e w' => ∃ v, e = .returned v ∧ w'.ownsRow w.heap.size 46 2 v 0 [] ∧ Below w.heap.size w w' := by
  have h1 : ¬ ((n : Int) < 0) := by omega
  have h2 : wrap64 (n : Int) = (n : Int) := by unfold wrap64; omega
  by_cases h0 : n = 0
  · subst h0
    go_enter Try.func97, Try.ntmps97
    go_wp2_with fail
    go_ret
    exact ⟨_, rfl, World.ownsRow_nil _ _ _ _, Below.refl _ _⟩
  · have h4 : (n : Int) > 0 := by omega
    have h5 : (0 : Int) < n := by omega
    obtain ⟨i0, hi, hz0, hz1, hz2⟩ := info_parts info_nd
    have hrz : ∀ ty, (Builtin.append_ #[42, 3] ty #[.slice none 0 0, .int .i64 (n : Int)]).run Try.prog w = .ok (.slice (some ⟨w.heap.size, 0, none⟩) (0 + n) (grownCap w (0 + n) 0 46)) (w.drew.alloc (.cells (([] : List Value).toArray ++ Builtin.zeroCells (.agg #[.int .i64 0, .bool false] : Value).cells n ++ Builtin.zeroCells (.agg #[.int .i64 0, .bool false] : Value).cells (grownCap w (0 + n) 0 46 - (0 + n))) 46)) := fun ty =>
      Lib.run_append_grow_zeros w 42 3 ty 46 i0 (.agg #[.int .i64 0, .bool false]) .i64 .i64 Try.underlying42 Try.underlying3 hi hz0 none 0 0 [] (run_firstCells_none _ _ _ _ _) n (by omega) (by rw [hz1]; decide) (by omega) (by omega) (by rw [hz2]; omega) (growslice_fits (by omega) (by rw [hz2]; omega))
    have hge := grownCap_ge w (0 + n) 0 46
    have hcm := grownCap_le_maxLen w (0 + n) 0 46 (by unfold maxLen; omega)
    obtain ⟨G, hG⟩ : ∃ G, G = grownCap w (0 + n) 0 46 := ⟨_, rfl⟩
    rw [← hG] at hrz hge hcm
    rw [Nat.zero_add] at hrz hge
    obtain ⟨Z, hZ⟩ : ∃ Z, Z = ([] : List Value).toArray ++ Builtin.zeroCells (.agg #[.int .i64 0, .bool false] : Value).cells n ++ Builtin.zeroCells (.agg #[.int .i64 0, .bool false] : Value).cells (G - n) := ⟨_, rfl⟩
    rw [← hZ] at hrz
    have hs : Z.size = G * 2 := by
      rw [hZ, Array.size_append, Array.size_append, size_zeroCells, size_zeroCells]
      show 0 + n * 2 + (G - n) * 2 = G * 2
      omega
    have hG63 : G ≤ 9223372036854775807 := by unfold maxLen at hcm; exact hcm
    have g1 : (0 : Int) ≤ G := by omega
    have HE : Hid ((w.drew.alloc (.cells Z 46)).ownsRow w.heap.size 46 2 (.slice (some ⟨w.heap.size, 0, none⟩) 0 G) 0 [] ∧ Below w.heap.size w (w.drew.alloc (.cells Z 46))) := Lib.hid ⟨⟨rfl, .inr ⟨w.heap.size, G, Z, rfl, Nat.le_refl _, alloc1 w.drew _ (Below.refl _ _), Nat.zero_le _, hcm, hs, by simp⟩⟩, (Below.refl _ w).drew.alloc (Nat.le_refl _) _⟩
    clear hi hz0 hz1 hz2 hG hZ hs hcm h0
    go_enter Try.func97, Try.ntmps97
    go_wp2_with (at_builtin; refine Lib.wpList_append_run _ rfl _ _ _ _ rfl _ _ rfl rfl _ _ (hrz _) ?_)
    go_ret
    exact ⟨_, rfl, HE.out.1, HE.out.2⟩
end Go.Proofs.Ytjienmjpfklgeaa
namespace Go.Proofs.Ytjienmjpfklgeaa
open Go.RowKit
set_option maxRecDepth 100000

set_option maxRecDepth 100000 in
set_option maxHeartbeats 4000000 in
theorem concat_int2 (g : Nat) (t : TypeId) (fr : Nat × Nat) (a1 a2 : Option Addr) (m1 c1 m2 c2 : Nat) (l1 l2 : List Int) (w : World) (hg : w.heap[g]? = some (.cells #[.slice a1 m1 c1, .slice a2 m2 c2] t fr)) (hS1 : SrcAt w a1 c1 (l1.flatMap intC)) (hS2 : SrcAt w a2 c2 (l2.flatMap intC)) (hl1 : l1.length = m1) (hl2 : l2.length = m2) (hle : m1 + m2 ≤ 100000) :
    Calls Try.prog 68 #[.slice (some ⟨g, 0, none⟩) 2 2] w fun e w' => ∃ a n c, e = .returned (.slice a n c) ∧ n = m1 + m2 ∧ SlAt 1 intC w' ⟨a, c, l1 ++ l2⟩ ∧ Below w.heap.size w w' ∧ NewRow 1 w.heap.size w' a n := by
  have HG := Lib.hid hg
  have HS1 := Lib.hid hS1
  have HS2 := Lib.hid hS2
  have HL := Lib.hid (And.intro hl1 hl2)
  have HLE := Lib.hid hle
  obtain ⟨i0, hi, hz0, hz1, hz2⟩ := info_parts info_int
  have HI := Lib.hid (And.intro hi (And.intro hz0 (And.intro hz1 hz2)))
  have x0 := blk_cell hg 0 _ rfl
  have x1 := blk_cell hg 1 _ rfl
  have e1 : wrap64 (m1 : Int) = m1 := by unfold wrap64; omega
  have e2 : wrap64 ((m1 : Int) + (m2 : Int)) = (m1 : Int) + (m2 : Int) := by unfold wrap64; omega
  have n1 : ¬ (m1 : Int) < 0 := by omega
  have n2 : ¬ (m1 : Int) + (m2 : Int) < 0 := by omega
  have p1 : (0 : Int) ≤ (m1 : Int) := by omega
  have p2 : (0 : Int) ≤ (m1 : Int) + (m2 : Int) := by omega
  clear hi hz0 hz1 hz2 hS1 hS2 hl1 hl2 hle hg
  go_enter Try.func68, Try.ntmps68
  go_wp2_with fail
  go_loopg [3, 5, 11] 2 (fun q s _ i wr => (q = 2 ∧ i = .int .i64 0 ∧ s = .int .i64 0 ∧ w = wr) ∨ (q = 1 ∧ i = .int .i64 1 ∧ s = .int .i64 (m1 : Int) ∧ w = wr) ∨ (q = 0 ∧ i = .int .i64 2 ∧ s = .int .i64 ((m1 : Int) + (m2 : Int)) ∧ w = wr))
  case atStart => exact .inl ⟨rfl, rfl, rfl, rfl⟩
  case round =>
    rcases hrel with ⟨rfl, rfl, rfl, rfl⟩ | ⟨rfl, rfl, rfl, rfl⟩ | ⟨rfl, rfl, rfl, rfl⟩
    · go_wp2_with fail
      go_roundg 1
      case rel => exact .inr (.inl ⟨rfl, by go_num, by first | rfl | go_num | simp [e1], rfl⟩)
      case measure => omega
    · go_wp2_with fail
      go_roundg 0
      case rel => exact .inr (.inr ⟨rfl, by go_num, by first | rfl | go_num | simp [e2], rfl⟩)
      case measure => omega
    · go_wp2_with fail
      have hgr := grow_int (m1 + m2) HLE.out w
      rw [Int.natCast_add] at hgr
      refine hgr.mono ?_
      rintro e w1 ⟨v0, rfl, hO, hb⟩
      have HO := Lib.hid hO
      have HB := Lib.hid hb
      clear hgr hO hb x0 x1 n1 n2 p1 p2 e1 e2
      have x0 := blk_cell (blk_keep HB.out HG.out) 0 _ rfl
      have x1 := blk_cell (blk_keep HB.out HG.out) 1 _ rfl
      go_wp2_with fail
      clear x0 x1
      go_loopg [6, 8, 27] 2 (fun q v _ i wr => (q = 2 ∧ i = .int .i64 0 ∧ wr.ownsRow w.heap.size 3 1 v 0 [] ∧ Below w.heap.size w wr) ∨ (q = 1 ∧ i = .int .i64 1 ∧ wr.ownsRow w.heap.size 3 1 v m1 (l1.flatMap intC) ∧ Below w.heap.size w wr) ∨ (q = 0 ∧ i = .int .i64 2 ∧ wr.ownsRow w.heap.size 3 1 v (m1 + m2) ((l1 ++ l2).flatMap intC) ∧ Below w.heap.size w wr))
      case atStart => exact .inl ⟨rfl, rfl, HO.out, HB.out⟩
      case round =>
        clear HO HB
        rcases hrel with ⟨rfl, rfl, hO, hb⟩ | ⟨rfl, rfl, hO, hb⟩ | ⟨rfl, rfl, hO, hb⟩
        · have HO := Lib.hid hO
          have HB := Lib.hid hb
          have HSS := Lib.hid (srcAt_below HS1.out hb)
          have x0 := blk_cell (blk_keep hb HG.out) 0 _ rfl
          have x1 := blk_cell (blk_keep hb HG.out) 1 _ rfl
          clear hO hb
          go_wp2_with (at_builtin; refine wpList_append_src rfl _ _ 41 rfl w.heap.size 3 i0 (.int .i64 0) 1 8 Try.underlying41 HI.out.1 HI.out.2.1 HI.out.2.2.1 HI.out.2.2.2 rfl (by decide) _ 0 [] rfl HO.out a1 m1 c1 (l1.flatMap intC) rfl (by rw [flat_len int_len, HL.out.1]) HSS.out (by have := HLE.out; unfold maxLen; omega) (by have := HLE.out; omega) HB.out.size ?_; intro v5 W5 hown5 hg5)
          have hB5 := HB.out.grown hg5 HB.out.size (fun k hk => (HO.out.lt _ hk).1)
          rw [List.nil_append, Nat.zero_add] at hown5
          go_roundg 1
          case rel => exact .inr (.inl ⟨rfl, by go_num, hown5, hB5⟩)
          case measure => omega
        · have HO := Lib.hid hO
          have HB := Lib.hid hb
          have HSS := Lib.hid (srcAt_below HS2.out hb)
          have x0 := blk_cell (blk_keep hb HG.out) 0 _ rfl
          have x1 := blk_cell (blk_keep hb HG.out) 1 _ rfl
          clear hO hb
          go_wp2_with (at_builtin; refine wpList_append_src rfl _ _ 41 rfl w.heap.size 3 i0 (.int .i64 0) 1 8 Try.underlying41 HI.out.1 HI.out.2.1 HI.out.2.2.1 HI.out.2.2.2 rfl (by decide) _ m1 (l1.flatMap intC) rfl HO.out a2 m2 c2 (l2.flatMap intC) rfl (by rw [flat_len int_len, HL.out.2]) HSS.out (by have := HLE.out; unfold maxLen; omega) (by have := HLE.out; omega) HB.out.size ?_; intro v5 W5 hown5 hg5)
          have hB5 := HB.out.grown hg5 HB.out.size (fun k hk => (HO.out.lt _ hk).1)
          rw [← List.flatMap_append] at hown5
          go_roundg 0
          case rel => exact .inr (.inr ⟨rfl, by go_num, hown5, hB5⟩)
          case measure => omega
        · obtain ⟨a5, c5, rfl, hS5, hN5⟩ := own_sl2 int_len (by rw [List.length_append, HL.out.1, HL.out.2]) hO
          have HS5 := Lib.hid hS5
          have HN5 := Lib.hid hN5
          have HB := Lib.hid hb
          clear hO hb hS5 hN5
          go_wp2_with fail
          go_ret
          exact ⟨a5, _, c5, rfl, rfl, HS5.out, HB.out, HN5.out⟩
theorem concat_int (g : Nat) (t : TypeId) (fr : Nat × Nat) (a1 a2 : Option Addr) (m1 c1 m2 c2 : Nat) (l1 l2 : List Int) (w : World) (hg : w.heap[g]? = some (.cells #[.slice a1 m1 c1, .slice a2 m2 c2] t fr)) (hS1 : SrcAt w a1 c1 (l1.flatMap intC)) (hS2 : SrcAt w a2 c2 (l2.flatMap intC)) (hl1 : l1.length = m1) (hl2 : l2.length = m2) (hle : m1 + m2 ≤ 100000) :
    Calls Try.prog 68 #[.slice (some ⟨g, 0, none⟩) 2 2] w fun e w' => ∃ a n c, e = .returned (.slice a n c) ∧ n = m1 + m2 ∧ SlAt 1 intC w' ⟨a, c, l1 ++ l2⟩ ∧ Below w.heap.size w w' :=
  (concat_int2 g t fr a1 a2 m1 c1 m2 c2 l1 l2 w hg hS1 hS2 hl1 hl2 hle).mono (fun _ _ ⟨a, n, c, h1, h2, h3, h4, _⟩ => ⟨a, n, c, h1, h2, h3, h4⟩)

set_option maxRecDepth 100000 in
set_option maxHeartbeats 4000000 in
theorem concat_nd2 (g : Nat) (t : TypeId) (fr : Nat × Nat) (a1 a2 : Option Addr) (m1 c1 m2 c2 : Nat) (l1 l2 : List (Int × Bool)) (w : World) (hg : w.heap[g]? = some (.cells #[.slice a1 m1 c1, .slice a2 m2 c2] t fr)) (hS1 : SrcAt w a1 c1 (l1.flatMap ndC)) (hS2 : SrcAt w a2 c2 (l2.flatMap ndC)) (hl1 : l1.length = m1) (hl2 : l2.length = m2) (hle : m1 + m2 ≤ 100000) :
    Calls Try.prog 69 #[.slice (some ⟨g, 0, none⟩) 2 2] w fun e w' => ∃ a n c, e = .returned (.slice a n c) ∧ n = m1 + m2 ∧ SlAt 2 ndC w' ⟨a, c, l1 ++ l2⟩ ∧ Below w.heap.size w w' ∧ NewRow 2 w.heap.size w' a n := by
  have HG := Lib.hid hg
  have HS1 := Lib.hid hS1
  have HS2 := Lib.hid hS2
  have HL := Lib.hid (And.intro hl1 hl2)
  have HLE := Lib.hid hle
  obtain ⟨i0, hi, hz0, hz1, hz2⟩ := info_parts info_nd
  have HI := Lib.hid (And.intro hi (And.intro hz0 (And.intro hz1 hz2)))
  have x0 := blk_cell hg 0 _ rfl
  have x1 := blk_cell hg 1 _ rfl
  have e1 : wrap64 (m1 : Int) = m1 := by unfold wrap64; omega
  have e2 : wrap64 ((m1 : Int) + (m2 : Int)) = (m1 : Int) + (m2 : Int) := by unfold wrap64; omega
  have n1 : ¬ (m1 : Int) < 0 := by omega
  have n2 : ¬ (m1 : Int) + (m2 : Int) < 0 := by omega
  have p1 : (0 : Int) ≤ (m1 : Int) := by omega
  have p2 : (0 : Int) ≤ (m1 : Int) + (m2 : Int) := by omega
  clear hi hz0 hz1 hz2 hS1 hS2 hl1 hl2 hle hg
  go_enter Try.func69, Try.ntmps69
  go_wp2_with fail
  go_loopg [3, 5, 11] 2 (fun q s _ i wr => (q = 2 ∧ i = .int .i64 0 ∧ s = .int .i64 0 ∧ w = wr) ∨ (q = 1 ∧ i = .int .i64 1 ∧ s = .int .i64 (m1 : Int) ∧ w = wr) ∨ (q = 0 ∧ i = .int .i64 2 ∧ s = .int .i64 ((m1 : Int) + (m2 : Int)) ∧ w = wr))
  case atStart => exact .inl ⟨rfl, rfl, rfl, rfl⟩
  case round =>
    rcases hrel with ⟨rfl, rfl, rfl, rfl⟩ | ⟨rfl, rfl, rfl, rfl⟩ | ⟨rfl, rfl, rfl, rfl⟩
    · go_wp2_with fail
      go_roundg 1
      case rel => exact .inr (.inl ⟨rfl, by go_num, by first | rfl | go_num | simp [e1], rfl⟩)
      case measure => omega
    · go_wp2_with fail
      go_roundg 0
      case rel => exact .inr (.inr ⟨rfl, by go_num, by first | rfl | go_num | simp [e2], rfl⟩)
      case measure => omega
    · go_wp2_with fail
      have hgr := grow_nd (m1 + m2) HLE.out w
      rw [Int.natCast_add] at hgr
      refine hgr.mono ?_
      rintro e w1 ⟨v0, rfl, hO, hb⟩
      have HO := Lib.hid hO
      have HB := Lib.hid hb
      clear hgr hO hb x0 x1 n1 n2 p1 p2 e1 e2
      have x0 := blk_cell (blk_keep HB.out HG.out) 0 _ rfl
      have x1 := blk_cell (blk_keep HB.out HG.out) 1 _ rfl
      go_wp2_with fail
      clear x0 x1
      go_loopg [6, 8, 27] 2 (fun q v _ i wr => (q = 2 ∧ i = .int .i64 0 ∧ wr.ownsRow w.heap.size 46 2 v 0 [] ∧ Below w.heap.size w wr) ∨ (q = 1 ∧ i = .int .i64 1 ∧ wr.ownsRow w.heap.size 46 2 v m1 (l1.flatMap ndC) ∧ Below w.heap.size w wr) ∨ (q = 0 ∧ i = .int .i64 2 ∧ wr.ownsRow w.heap.size 46 2 v (m1 + m2) ((l1 ++ l2).flatMap ndC) ∧ Below w.heap.size w wr))
      case atStart => exact .inl ⟨rfl, rfl, HO.out, HB.out⟩
      case round =>
        clear HO HB
        rcases hrel with ⟨rfl, rfl, hO, hb⟩ | ⟨rfl, rfl, hO, hb⟩ | ⟨rfl, rfl, hO, hb⟩
        · have HO := Lib.hid hO
          have HB := Lib.hid hb
          have HSS := Lib.hid (srcAt_below HS1.out hb)
          have x0 := blk_cell (blk_keep hb HG.out) 0 _ rfl
          have x1 := blk_cell (blk_keep hb HG.out) 1 _ rfl
          clear hO hb
          go_wp2_with (at_builtin; refine wpList_append_src rfl _ _ 42 rfl w.heap.size 46 i0 (.agg #[.int .i64 0, .bool false]) 2 16 Try.underlying42 HI.out.1 HI.out.2.1 HI.out.2.2.1 HI.out.2.2.2 rfl (by decide) _ 0 [] rfl HO.out a1 m1 c1 (l1.flatMap ndC) rfl (by rw [flat_len nd_len, HL.out.1]) HSS.out (by have := HLE.out; unfold maxLen; omega) (by have := HLE.out; omega) HB.out.size ?_; intro v5 W5 hown5 hg5)
          have hB5 := HB.out.grown hg5 HB.out.size (fun k hk => (HO.out.lt _ hk).1)
          rw [List.nil_append, Nat.zero_add] at hown5
          go_roundg 1
          case rel => exact .inr (.inl ⟨rfl, by go_num, hown5, hB5⟩)
          case measure => omega
        · have HO := Lib.hid hO
          have HB := Lib.hid hb
          have HSS := Lib.hid (srcAt_below HS2.out hb)
          have x0 := blk_cell (blk_keep hb HG.out) 0 _ rfl
          have x1 := blk_cell (blk_keep hb HG.out) 1 _ rfl
          clear hO hb
          go_wp2_with (at_builtin; refine wpList_append_src rfl _ _ 42 rfl w.heap.size 46 i0 (.agg #[.int .i64 0, .bool false]) 2 16 Try.underlying42 HI.out.1 HI.out.2.1 HI.out.2.2.1 HI.out.2.2.2 rfl (by decide) _ m1 (l1.flatMap ndC) rfl HO.out a2 m2 c2 (l2.flatMap ndC) rfl (by rw [flat_len nd_len, HL.out.2]) HSS.out (by have := HLE.out; unfold maxLen; omega) (by have := HLE.out; omega) HB.out.size ?_; intro v5 W5 hown5 hg5)
          have hB5 := HB.out.grown hg5 HB.out.size (fun k hk => (HO.out.lt _ hk).1)
          rw [← List.flatMap_append] at hown5
          go_roundg 0
          case rel => exact .inr (.inr ⟨rfl, by go_num, hown5, hB5⟩)
          case measure => omega
        · obtain ⟨a5, c5, rfl, hS5, hN5⟩ := own_sl2 nd_len (by rw [List.length_append, HL.out.1, HL.out.2]) hO
          have HS5 := Lib.hid hS5
          have HN5 := Lib.hid hN5
          have HB := Lib.hid hb
          clear hO hb hS5 hN5
          go_wp2_with fail
          go_ret
          exact ⟨a5, _, c5, rfl, rfl, HS5.out, HB.out, HN5.out⟩
theorem concat_nd (g : Nat) (t : TypeId) (fr : Nat × Nat) (a1 a2 : Option Addr) (m1 c1 m2 c2 : Nat) (l1 l2 : List (Int × Bool)) (w : World) (hg : w.heap[g]? = some (.cells #[.slice a1 m1 c1, .slice a2 m2 c2] t fr)) (hS1 : SrcAt w a1 c1 (l1.flatMap ndC)) (hS2 : SrcAt w a2 c2 (l2.flatMap ndC)) (hl1 : l1.length = m1) (hl2 : l2.length = m2) (hle : m1 + m2 ≤ 100000) :
    Calls Try.prog 69 #[.slice (some ⟨g, 0, none⟩) 2 2] w fun e w' => ∃ a n c, e = .returned (.slice a n c) ∧ n = m1 + m2 ∧ SlAt 2 ndC w' ⟨a, c, l1 ++ l2⟩ ∧ Below w.heap.size w w' :=
  (concat_nd2 g t fr a1 a2 m1 c1 m2 c2 l1 l2 w hg hS1 hS2 hl1 hl2 hle).mono (fun _ _ ⟨a, n, c, h1, h2, h3, h4, _⟩ => ⟨a, n, c, h1, h2, h3, h4⟩)
end Go.Proofs.Ytjienmjpfklgeaa
