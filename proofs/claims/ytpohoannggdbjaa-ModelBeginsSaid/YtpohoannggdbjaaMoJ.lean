/-
 Layer 28: works.
-/
import Derived.Test.YtpohoannggdbjaaMoH
import Derived.Test.YtpohoannggdbjaaMC
namespace Go.Proofs.Ytpohoannggdbjaa
open Go.RowKit
set_option maxRecDepth 100000
def wkL (b : Nat) : Lay := ⟨⟨some ⟨b, 0, none⟩, 3, [⟨#[97]⟩, ⟨#[98]⟩, ⟨#[99]⟩]⟩, ⟨some ⟨b + 1, 0, none⟩, 1, [(⟨#[80]⟩, 1)]⟩, ⟨some ⟨b + 1 + 1, 0, none⟩, 1, [(⟨#[71]⟩, 0)]⟩, ⟨some ⟨b + 1 + 1 + 1 + 1 + 1, 0, none⟩, 1, [⟨⟨#[82]⟩, 0, ⟨some ⟨b + 1 + 1 + 1, 0, none⟩, 2, [1, 2]⟩, ⟨some ⟨b + 1 + 1 + 1 + 1, 0, none⟩, 1, [(0, false)]⟩, ⟨none, 0, []⟩, ⟨none, 0, []⟩⟩]⟩⟩
theorem wk_at {W : World} {b : Nat} (q0 : W.heap[b]? = some (.cells #[.string ⟨#[97]⟩, .string ⟨#[98]⟩, .string ⟨#[99]⟩] 9)) (q1 : W.heap[b + 1]? = some (.cells #[.string ⟨#[80]⟩, .int .i64 1] 51)) (q2 : W.heap[b + 1 + 1]? = some (.cells #[.string ⟨#[71]⟩, .int .i64 0] 52)) (q3 : W.heap[b + 1 + 1 + 1]? = some (.cells #[.int .i64 1, .int .i64 2] 3)) (q4 : W.heap[b + 1 + 1 + 1 + 1]? = some (.cells #[.int .i64 0, .bool false] 55)) (q5 : W.heap[b + 1 + 1 + 1 + 1 + 1]? = some (.cells #[.string ⟨#[82]⟩, .int .i64 0, .slice (some ⟨b + 1 + 1 + 1, 0, none⟩) 2 2, .slice (some ⟨b + 1 + 1 + 1 + 1, 0, none⟩) 1 1, .slice none 0 0, .slice none 0 0] 58)) : LayAt W (wkL b) := by
 refine ⟨sl_blk str_len q0 rfl rfl (by decide), sl_blk pt_len q1 rfl rfl (by decide), sl_blk pt_len q2 rfl rfl (by decide), sl_blk rt_len q5 rfl rfl (by decide), ?_, ?_, ?_, ?_⟩
 ·intro s hs
  simp [wkL] at hs
  rcases hs with rfl | rfl | rfl <;> decide
 ·intro s hs
  simp [wkL] at hs
  subst hs
  decide
 ·intro s hs
  simp [wkL] at hs
  subst hs
  decide
 ·intro s hs
  simp [wkL] at hs
  subst hs
  exact ⟨by show (⟨#[82]⟩ : BA).size ≤ maxLen; decide, sl_blk int_len q3 rfl rfl (by decide), sl_blk nd_len q4 rfl rfl (by decide), sl_none, sl_none⟩
theorem wk_c (b : Nat) : (checkS (wkL b)).1 = 0 := by kernel_rfl
def wkT : Tb := ⟨[⟨1, 0, [1, 2], [(0, false)], []⟩], [1]⟩
theorem wk_t (b : Nat) : tbL (wkL b) = wkT := by kernel_rfl
theorem cmd_at {V : World} {g kd : Nat} {nn : Int} {t : TypeId} {fr : Nat × Nat} (h : V.heap[g]? = some (.cells #[.int .u8 (kd : Int), .int .i64 nn] t fr)) (hk : kd < 256) (h1 : -9223372036854775808 ≤ nn) (h2 : nn ≤ 9223372036854775807) : CmdsAt V (some ⟨g, 0, none⟩) [(kd, nn)] := by
 refine ⟨fun c hc => ?_, .inr ⟨g, 0, rfl, fun i c hi => ?_⟩⟩
 ·rw [List.mem_singleton.1 hc]; exact ⟨hk, h1, h2⟩
 ·cases i with
  | zero => injection hi with hi; subst hi; exact ⟨blk_cell h 0 _ rfl, blk_cell h 1 _ rfl⟩
  | succ i => cases hi
/-- the example's inputs; its command lies in block c -/
def wkX (c : Nat) : List Iv := [⟨0, 1, 0, some ⟨c, 0, none⟩, 1, 1, [(1, 0)]⟩, ⟨0, 1, 0, none, 0, 0, []⟩]
theorem iv_len (c : Iv) : (ivC c).length = 4 := rfl
theorem sh_len (c : Sh) : (shC c).length = 3 := rfl
theorem wkX_len (c : Nat) : (wkX c).length = 2 := rfl
theorem wkX_row {w : World} {g c : Nat} {t : TypeId} {fr : Nat × Nat} (h : w.heap[g]? = some (.cells #[.int .u64 0, .int .u32 1, .int .u32 0, .slice (some ⟨c, 0, none⟩) 1 1, .int .u64 0, .int .u32 1, .int .u32 0, .slice none 0 0] t fr)) : RowAt 4 ivC w (some ⟨g, 0, none⟩) (wkX c) := row_blk iv_len h rfl
theorem wkX_ok {w : World} {c : Nat} {t : TypeId} {fr : Nat × Nat} (h : w.heap[c]? = some (.cells #[.int .u8 ((1 : Nat) : Int), .int .i64 0] t fr)) : ∀ x ∈ wkX c, IvOk w x ∧ x.len ≤ 100000 := by
 intro x hx
 simp only [wkX, List.mem_cons, List.not_mem_nil, or_false] at hx
 rcases hx with rfl | rfl
 ·exact ⟨⟨⟨by show (0 : Nat) < _; omega, by show (1 : Nat) < _; omega, by show (0 : Nat) < _; omega⟩, rfl, Nat.le_refl _, cmd_at h (by omega) (by omega) (by omega)⟩, by show 1 ≤ 100000; omega⟩
 ·exact ⟨⟨⟨by show (0 : Nat) < _; omega, by show (1 : Nat) < _; omega, by show (0 : Nat) < _; omega⟩, rfl, Nat.le_refl _, fun _ hc => (nomatch hc), .inl rfl⟩, by show 0 ≤ 100000; omega⟩
theorem wk_e0 (b c : Nat) : explS (wkL b) (wkX c) [⟨false, 1, 0⟩, ⟨false, 1, 0⟩] = true := by
 rw [expl_is (wk_c b) rfl, wk_t]
 kernel_rfl
theorem wk_e1 (b c : Nat) : explS (wkL b) (wkX c) [⟨true, 0, 0⟩, ⟨false, 1, 0⟩] = true := by
 rw [expl_is (wk_c b) rfl, wk_t]
 kernel_rfl
theorem wk_e2 (b c : Nat) : explS (wkL b) (wkX c) [⟨true, 0, 0⟩, ⟨false, 0, 0⟩] = true := by
 rw [expl_is (wk_c b) rfl, wk_t]
 kernel_rfl
theorem wk_e3 (b c : Nat) : explS (wkL b) (wkX c) [⟨false, 0, 0⟩, ⟨false, 1, 0⟩] = false := by
 rw [expl_is (wk_c b) rfl, wk_t]
 kernel_rfl
theorem wk_e4 (b c : Nat) : explS (wkL b) (wkX c) [⟨false, 1, 0⟩] = false := expl_arg (by show ¬ 2 = 1; omega)
theorem wk_expl (b gi c g k : Nat) (Y : List Sh) (e : Bool) (V : World) (hL : LayAt V (wkL b)) (hX : RowAt 4 ivC V (some ⟨gi, 0, none⟩) (wkX c)) (hok : ∀ x ∈ wkX c, IvOk V x ∧ x.len ≤ 100000) (hY : RowAt 3 shC V (some ⟨g, 0, none⟩) Y) (hk : Y.length = k) (he : explS (wkL b) (wkX c) Y = e) :
 Calls Try.prog 7 #[.agg #[.slice (some ⟨b, 0, none⟩) 3 3, .slice (some ⟨b + 1, 0, none⟩) 1 1, .slice (some ⟨b + 1 + 1, 0, none⟩) 1 1, .slice (some ⟨b + 1 + 1 + 1 + 1 + 1, 0, none⟩) 1 1], .slice (some ⟨gi, 0, none⟩) 2 2, .slice (some ⟨g, 0, none⟩) k k] V fun e' w' => e' = .returned (.bool e) ∧ Below V.heap.size V w' :=
 explains_is (wkL b) _ 2 2 _ k k (wkX c) Y e V hL hX (wkX_len c) hok hY hk (by omega) he
attribute [local irreducible] Sl.v hasBit pw withBit woBit cyL stL stV tmL freeS ndBad maySet ptL setS mayCan canS canD nedS flipB mayMov movS comG relS rouS proS tidyS comsG rousS prosS nextG outS lnOk rightK rgtS eqS Mc.tb upd mayS checkS sideN
attribute [local irreducible] addS cycL leads shows stepT reachN
attribute [local irreducible] tbL rwL secOf cofL zS zSt explS fewS weightS wkX
set_option maxHeartbeats 16000000 in
theorem works_is (w : World) : Calls Try.prog 5 #[] w fun e w' => e = .returned (.bool true) ∧ Below w.heap.size w w' := by
 go_enter Try.func5, Try.ntmps5
 go_upto_region 6 with fail
 refine name_last (os := [_, _, _, _, _, _, _, _, _, _, _, _]) (w0 := w) rfl ?_
 intro W hat hbw
 obtain ⟨b, hb⟩ : ∃ b, b = w.heap.size := ⟨_, rfl⟩
 have q0 := hat 0 _ rfl
 have q1 := hat 1 _ rfl
 have q2 := hat 2 _ rfl
 have q3 := hat 3 _ rfl
 have q4 := hat 4 _ rfl
 have q5 := hat 5 _ rfl
 have q6 := hat 6 _ rfl
 have q7 := hat 7 _ rfl
 have q8 := hat 8 _ rfl
 have q9 := hat 9 _ rfl
 have q10 := hat 10 _ rfl
 have q11 := hat 11 _ rfl
 rw [Nat.add_zero, ← hb] at q0
 rw [← hb] at q1 q2 q3 q4 q5 q6 q7 q8 q9 q10 q11
 rw [← hb]
 clear hat
 have HL : Hid (LayAt W (wkL b)) := Lib.hid (by
  exact wk_at q0 q1 q2 q3 q4 q5)
 have q6' : W.heap[b + 1 + 1 + 1 + 1 + 1 + 1]? = some (.cells #[.slice (some ⟨b, 0, none⟩) 3 3, .slice (some ⟨b + 1, 0, none⟩) 1 1, .slice (some ⟨b + 1 + 1, 0, none⟩) 1 1, .slice (some ⟨b + 1 + 1 + 1 + 1 + 1, 0, none⟩) 1 1] 27) := q6
 have q7' : W.heap[b + 1 + 1 + 1 + 1 + 1 + 1 + 1]? = some (.cells #[.int .u8 ((1 : Nat) : Int), .int .i64 0] 60) := by
  rw [show b + 1 + 1 + 1 + 1 + 1 + 1 + 1 = b + 7 by omega]
  exact q7
 have q8' : W.heap[b + 1 + 1 + 1 + 1 + 1 + 1 + 1 + 1]? = some (.cells #[.int .u64 0, .int .u32 1, .int .u32 0, .slice (some ⟨b + 1 + 1 + 1 + 1 + 1 + 1 + 1, 0, none⟩) 1 1, .int .u64 0, .int .u32 1, .int .u32 0, .slice none 0 0] 49) := by
  rw [show b + 1 + 1 + 1 + 1 + 1 + 1 + 1 + 1 = b + 8 by omega]
  exact q8
 have q9' : W.heap[b + 1 + 1 + 1 + 1 + 1 + 1 + 1 + 1 + 1]? = some (.cells #[.bool false, .int .u64 1, .int .u32 0] 37) := by
  rw [show b + 1 + 1 + 1 + 1 + 1 + 1 + 1 + 1 + 1 = b + 9 by omega]
  exact q9
 have q10' : W.heap[b + 1 + 1 + 1 + 1 + 1 + 1 + 1 + 1 + 1 + 1]? = some (.cells #[.bool true, .int .u64 0, .int .u32 0] 37) := by
  rw [show b + 1 + 1 + 1 + 1 + 1 + 1 + 1 + 1 + 1 + 1 = b + 10 by omega]
  exact q10
 have q11' : W.heap[b + 1 + 1 + 1 + 1 + 1 + 1 + 1 + 1 + 1 + 1 + 1]? = some (.cells #[.bool false, .int .u64 0, .int .u32 0] 37) := by
  rw [show b + 1 + 1 + 1 + 1 + 1 + 1 + 1 + 1 + 1 + 1 + 1 = b + 11 by omega]
  exact q11
 have hrow : RowAt 4 ivC W (some ⟨b + 1 + 1 + 1 + 1 + 1 + 1 + 1 + 1, 0, none⟩) (wkX (b + 1 + 1 + 1 + 1 + 1 + 1 + 1)) := wkX_row q8'
 have hok := wkX_ok q7'
 have KEX : Hid (∀ (V : World) (g k : Nat) (cs : Array Value) (Y : List Sh) (e : Bool), Below W.heap.size W V → V.heap[g]? = some (.cells cs 37) → cs.toList = Y.flatMap shC → Y.length = k → explS (wkL b) (wkX (b + 1 + 1 + 1 + 1 + 1 + 1 + 1)) Y = e → Calls Try.prog 7 #[.agg #[.slice (some ⟨b, 0, none⟩) 3 3, .slice (some ⟨b + 1, 0, none⟩) 1 1, .slice (some ⟨b + 1 + 1, 0, none⟩) 1 1, .slice (some ⟨b + 1 + 1 + 1 + 1 + 1, 0, none⟩) 1 1], .slice (some ⟨b + 1 + 1 + 1 + 1 + 1 + 1 + 1 + 1, 0, none⟩) 2 2, .slice (some ⟨g, 0, none⟩) k k] V (fun e' w' => e' = .returned (.bool e) ∧ Below V.heap.size V w')) := Lib.hid (fun V g k cs Y e hV hg hcs hk he => wk_expl b _ _ g k Y e V (HL.out.below hV) (hrow.below hV) (fun x hx => ⟨(hok x hx).1.below hV, (hok x hx).2⟩) (row_blk sh_len hg hcs) hk he)
 obtain ⟨gl, hgl⟩ : ∃ g, g = b + 1 + 1 + 1 + 1 + 1 + 1 := ⟨_, rfl⟩
 have HB := Lib.hid hbw
 have HQL := Lib.hid q6'
 have HG := Lib.hid q9'
 have HP := Lib.hid q10'
 have HN := Lib.hid q11'
 have HC := Lib.hid (Below.refl W.heap.size W)
 clear q0 q1 q2 q3 q4 q5 q6 q7 q8 q9 q10 q11 q6' q7' q8' q9' q10' q11' hb hgl hbw hrow hok HL gl
 obtain ⟨l0, l1, l2, l3⟩ : _ ∧ _ ∧ _ ∧ _ := ⟨blk_cell HQL.out 0 _ rfl, blk_cell HQL.out 1 _ rfl, blk_cell HQL.out 2 _ rfl, blk_cell HQL.out 3 _ rfl⟩
 have hg0 := blk_cell HG.out 0 _ rfl
 have hg1 := blk_cell HG.out 1 _ rfl
 have hg2 := blk_cell HG.out 2 _ rfl
 have hlt1 := blk_lt HQL.out
 go_wp2_with fail
 refine (KEX.out _ _ 2 #[.bool false, .int .u64 1, .int .u32 0, .bool false, .int .u64 1, .int .u32 0] [⟨false, 1, 0⟩, ⟨false, 1, 0⟩] true (below_on HC.out (below1 _ _)) (alloc1 _ _ (Below.refl _ _)) (by rfl) (by rfl) (wk_e0 b (b + 1 + 1 + 1 + 1 + 1 + 1 + 1))).mono ?_
 rintro e w1 ⟨rfl, hb⟩
 have hb := below_on (below1 _ _) hb
 have HC1 := Lib.hid (below_on HC.out hb)
 have HQL1 := Lib.hid (blk_keep hb HQL.out)
 have HG1 := Lib.hid (blk_keep hb HG.out)
 have HP1 := Lib.hid (blk_keep hb HP.out)
 have HN1 := Lib.hid (blk_keep hb HN.out)
 clear hb l0 l1 l2 l3 hlt1 hg0 hg1 hg2
 obtain ⟨l0, l1, l2, l3⟩ : _ ∧ _ ∧ _ ∧ _ := ⟨blk_cell HQL1.out 0 _ rfl, blk_cell HQL1.out 1 _ rfl, blk_cell HQL1.out 2 _ rfl, blk_cell HQL1.out 3 _ rfl⟩
 have hp0 := blk_cell HP1.out 0 _ rfl
 have hp1 := blk_cell HP1.out 1 _ rfl
 have hp2 := blk_cell HP1.out 2 _ rfl
 have hg0 := blk_cell HG1.out 0 _ rfl
 have hg1 := blk_cell HG1.out 1 _ rfl
 have hg2 := blk_cell HG1.out 2 _ rfl
 have hlt1 := blk_lt HQL1.out
 go_wp2_with fail
 refine (KEX.out _ _ 2 #[.bool true, .int .u64 0, .int .u32 0, .bool false, .int .u64 1, .int .u32 0] [⟨true, 0, 0⟩, ⟨false, 1, 0⟩] true (below_on HC1.out (below1 _ _)) (alloc1 _ _ (Below.refl _ _)) (by rfl) (by rfl) (wk_e1 b (b + 1 + 1 + 1 + 1 + 1 + 1 + 1))).mono ?_
 rintro e w2 ⟨rfl, hb⟩
 have hb := below_on (below1 _ _) hb
 have HC2 := Lib.hid (below_on HC1.out hb)
 have HQL2 := Lib.hid (blk_keep hb HQL1.out)
 have HG2 := Lib.hid (blk_keep hb HG1.out)
 have HP2 := Lib.hid (blk_keep hb HP1.out)
 have HN2 := Lib.hid (blk_keep hb HN1.out)
 clear hb l0 l1 l2 l3 hlt1 hp0 hp1 hp2 hg0 hg1 hg2
 obtain ⟨l0, l1, l2, l3⟩ : _ ∧ _ ∧ _ ∧ _ := ⟨blk_cell HQL2.out 0 _ rfl, blk_cell HQL2.out 1 _ rfl, blk_cell HQL2.out 2 _ rfl, blk_cell HQL2.out 3 _ rfl⟩
 have hp0 := blk_cell HP2.out 0 _ rfl
 have hp1 := blk_cell HP2.out 1 _ rfl
 have hp2 := blk_cell HP2.out 2 _ rfl
 have hn0 := blk_cell HN2.out 0 _ rfl
 have hn1 := blk_cell HN2.out 1 _ rfl
 have hn2 := blk_cell HN2.out 2 _ rfl
 have hlt1 := blk_lt HQL2.out
 go_wp2_with fail
 refine (KEX.out _ _ 2 #[.bool true, .int .u64 0, .int .u32 0, .bool false, .int .u64 0, .int .u32 0] [⟨true, 0, 0⟩, ⟨false, 0, 0⟩] true (below_on HC2.out (below1 _ _)) (alloc1 _ _ (Below.refl _ _)) (by rfl) (by rfl) (wk_e2 b (b + 1 + 1 + 1 + 1 + 1 + 1 + 1))).mono ?_
 rintro e w3 ⟨rfl, hb⟩
 have hb := below_on (below1 _ _) hb
 have HC3 := Lib.hid (below_on HC2.out hb)
 have HQL3 := Lib.hid (blk_keep hb HQL2.out)
 have HG3 := Lib.hid (blk_keep hb HG2.out)
 have HP3 := Lib.hid (blk_keep hb HP2.out)
 have HN3 := Lib.hid (blk_keep hb HN2.out)
 clear hb l0 l1 l2 l3 hlt1 hp0 hp1 hp2 hn0 hn1 hn2
 obtain ⟨l0, l1, l2, l3⟩ : _ ∧ _ ∧ _ ∧ _ := ⟨blk_cell HQL3.out 0 _ rfl, blk_cell HQL3.out 1 _ rfl, blk_cell HQL3.out 2 _ rfl, blk_cell HQL3.out 3 _ rfl⟩
 have hn0 := blk_cell HN3.out 0 _ rfl
 have hn1 := blk_cell HN3.out 1 _ rfl
 have hn2 := blk_cell HN3.out 2 _ rfl
 have hg0 := blk_cell HG3.out 0 _ rfl
 have hg1 := blk_cell HG3.out 1 _ rfl
 have hg2 := blk_cell HG3.out 2 _ rfl
 have hlt1 := blk_lt HQL3.out
 go_wp2_with fail
 refine (KEX.out _ _ 2 #[.bool false, .int .u64 0, .int .u32 0, .bool false, .int .u64 1, .int .u32 0] [⟨false, 0, 0⟩, ⟨false, 1, 0⟩] false (below_on HC3.out (below1 _ _)) (alloc1 _ _ (Below.refl _ _)) (by rfl) (by rfl) (wk_e3 b (b + 1 + 1 + 1 + 1 + 1 + 1 + 1))).mono ?_
 rintro e w4 ⟨rfl, hb⟩
 have hb := below_on (below1 _ _) hb
 have HC4 := Lib.hid (below_on HC3.out hb)
 have HQL4 := Lib.hid (blk_keep hb HQL3.out)
 have HG4 := Lib.hid (blk_keep hb HG3.out)
 have HP4 := Lib.hid (blk_keep hb HP3.out)
 have HN4 := Lib.hid (blk_keep hb HN3.out)
 clear hb l0 l1 l2 l3 hlt1 hn0 hn1 hn2 hg0 hg1 hg2
 obtain ⟨l0, l1, l2, l3⟩ : _ ∧ _ ∧ _ ∧ _ := ⟨blk_cell HQL4.out 0 _ rfl, blk_cell HQL4.out 1 _ rfl, blk_cell HQL4.out 2 _ rfl, blk_cell HQL4.out 3 _ rfl⟩
 have hg0 := blk_cell HG4.out 0 _ rfl
 have hg1 := blk_cell HG4.out 1 _ rfl
 have hg2 := blk_cell HG4.out 2 _ rfl
 have hlt1 := blk_lt HQL4.out
 go_wp2_with fail
 refine (KEX.out _ _ 1 #[.bool false, .int .u64 1, .int .u32 0] [⟨false, 1, 0⟩] false (below_on HC4.out (below1 _ _)) (alloc1 _ _ (Below.refl _ _)) (by rfl) (by rfl) (wk_e4 b (b + 1 + 1 + 1 + 1 + 1 + 1 + 1))).mono ?_
 rintro e w5 ⟨rfl, hb⟩
 have hb := below_on (below1 _ _) hb
 have HC5 := Lib.hid (below_on HC4.out hb)
 have HQL5 := Lib.hid (blk_keep hb HQL4.out)
 have HG5 := Lib.hid (blk_keep hb HG4.out)
 have HP5 := Lib.hid (blk_keep hb HP4.out)
 have HN5 := Lib.hid (blk_keep hb HN4.out)
 clear hb l0 l1 l2 l3 hlt1 hg0 hg1 hg2
 go_wp2_with fail
 go_ret
 exact ⟨rfl, below_on HB.out HC5.out⟩
end Go.Proofs.Ytpohoannggdbjaa
