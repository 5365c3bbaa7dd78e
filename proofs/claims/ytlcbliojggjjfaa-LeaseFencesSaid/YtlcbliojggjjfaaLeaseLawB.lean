/-
  The walk of the statement LeaseFences of chapter 23.
-/
import Derived.Test.YtlcbliojggjjfaaLeaseFenP
import Derived.Test.YtlcbliojggjjfaaCalm
import Derived.Test.YtlcbliojggjjfaaAppend
import Derived.Deep.DeepCutAuto
import Derived.Deep.CutBlock
import Derived.Deep.LoopGhost
import Derived.Deep.RegionWith
import Derived.Deep.RegionHeld3
import Derived.StillTailTactics
namespace Go.Proofs.Ytlcbliojggjjfaa
open Go.RowKit
attribute [local irreducible] inB inL rightB okB ofR askR renewR giveR askedR holdsB takeR

/-- a step: its kind, its pair, its number -/
structure Stp where
  k : Nat
  p : Nat
  n : Nat
def StpsAt (w : World) (a : Option Addr) (l : List Stp) : Prop := (∀ c ∈ l, c.k < 256 ∧ c.p < 256 ∧ c.n < 256) ∧ (l = [] ∨ ∃ b off, a = some ⟨b, off, none⟩ ∧ ∀ i c, l[i]? = some c → w.cell? ⟨b, off + i * 3, none⟩ = some (.int .u8 (c.k : Int)) ∧ w.cell? ⟨b, off + i * 3 + 1, none⟩ = some (.int .u8 (c.p : Int)) ∧ w.cell? ⟨b, off + i * 3 + 2, none⟩ = some (.int .u8 (c.n : Int)))
theorem StpsAt.below {w w' : World} {a : Option Addr} {l : List Stp} (hb : Below w.heap.size w w') (h : StpsAt w a l) : StpsAt w' a l := by
  refine ⟨h.1, h.2.imp id ?_⟩
  rintro ⟨b, off, rfl, hc⟩
  refine ⟨b, off, rfl, fun i c hi => ?_⟩
  obtain ⟨h0, h1, h2⟩ := hc i c hi
  exact ⟨cell_later hb h0, cell_later hb h1, cell_later hb h2⟩
theorem u8_nat {a : Int} (h : (Lit.int .u8 a).wf = true) : ∃ n : Nat, a = n ∧ n < 256 := by have := bounds_u8 h; exact ⟨a.toNat, by omega, by omega⟩
theorem stp_of {w : World} {cs : List Value} (h : Rd Try.prog w 50 cs) : ∃ c : Stp, cs = [.int .u8 (c.k : Int), .int .u8 (c.p : Int), .int .u8 (c.n : Int)] ∧ c.k < 256 ∧ c.p < 256 ∧ c.n < 256 := by
  obtain ⟨hl, hf⟩ := h.fields (L := [(5, 0), (5, 1), (5, 2)]) (by kernel_rfl) (by kernel_rfl)
  rw [show Try.prog.cellsOf 50 = 3 by kernel_rfl] at hl
  match cs, hl with
  | [x, y, z], _ =>
    have h0 := hf (5, 0) (by simp)
    have h1 := hf (5, 1) (by simp)
    have h2 := hf (5, 2) (by simp)
    simp only [show Try.prog.cellsOf 5 = 1 by kernel_rfl] at h0 h1 h2
    obtain ⟨a, ha, wa⟩ := h0.int Try.underlying5
    obtain ⟨b, hb, wb⟩ := h1.int Try.underlying5
    obtain ⟨c, hc, wc⟩ := h2.int Try.underlying5
    simp at ha hb hc
    obtain ⟨a, rfl, g0⟩ := u8_nat wa
    obtain ⟨b, rfl, g1⟩ := u8_nat wb
    obtain ⟨c, rfl, g2⟩ := u8_nat wc
    exact ⟨⟨a, b, c⟩, by rw [ha, hb, hc], g0, g1, g2⟩
theorem stps_of {w : World} {a : Option Addr} {len cap : Nat} (h : Rd Try.prog w 42 [.slice a len cap]) : ∃ l : List Stp, l.length = len ∧ len ≤ maxLen ∧ StpsAt w a l := by
  rcases h.slice Try.underlying42 with h | ⟨x, n, c, h, hlc, hcm, hel⟩
  · simp only [List.cons.injEq, Value.slice.injEq, and_true] at h
    obtain ⟨rfl, rfl, rfl⟩ := h
    exact ⟨[], rfl, Nat.zero_le _, (by intro c hc; simp at hc), .inl rfl⟩
  · simp only [List.cons.injEq, Value.slice.injEq, and_true] at h
    obtain ⟨rfl, rfl, rfl⟩ := h
    have hsz : Try.prog.cellsOf 50 = 3 := by kernel_rfl
    have H : ∀ i, i < len → ∃ c : Stp, (c.k < 256 ∧ c.p < 256 ∧ c.n < 256) ∧ w.cell? ((x.add (i * 3)).add 0) = some (.int .u8 (c.k : Int)) ∧ w.cell? ((x.add (i * 3)).add 1) = some (.int .u8 (c.p : Int)) ∧ w.cell? ((x.add (i * 3)).add 2) = some (.int .u8 (c.n : Int)) := by
      intro i hi
      obtain ⟨ecs, he, hr⟩ := hel i (by omega)
      rw [hsz] at he
      obtain ⟨c, rfl, hcl⟩ := stp_of hr
      obtain ⟨_, hg⟩ := cells_get he
      obtain ⟨v0, g0, c0⟩ := hg 0 (by omega)
      obtain ⟨v1, g1, c1⟩ := hg 1 (by omega)
      obtain ⟨v2, g2, c2⟩ := hg 2 (by omega)
      simp at g0 g1 g2
      subst g0 g1 g2
      exact ⟨c, hcl, c0, c1, c2⟩
    obtain ⟨l, hl, hq⟩ := list_of len H
    refine ⟨l, hl, Nat.le_trans hlc hcm, fun c hc => ?_, ?_⟩
    · obtain ⟨i, hi⟩ := List.getElem?_of_mem hc
      exact (hq i c hi).1
    · rcases l with _ | ⟨c0, l⟩
      · exact .inl rfl
      · right
        have h0 := (hq 0 c0 rfl).2.1
        have hs : x.spot = none := World.cell?_spot (show w.cell? x = some _ by simpa [Addr.add] using h0)
        obtain ⟨b, off, spot⟩ := x
        subst hs
        refine ⟨b, off, rfl, fun i c hi => ?_⟩
        have := (hq i c hi).2
        simpa only [Addr.add_lit, Nat.add_zero] using this
theorem srcAt_one (w : World) (t : TypeId) (v : Value) (hv : v.oneCell' = true) : SrcAt (w.alloc (.cells #[v] t)) (some ⟨w.heap.size, 0, none⟩) 1 [v] := by
  refine ⟨fun h => by simp at h, fun u hu => by simp at hu; rw [hu]; exact hv, ?_⟩
  intro ad had j u hj
  cases had
  match j, hj with
  | 0, hj => cases hj; exact blk_cell (heap_new' w _) 0 _ rfl
  | j + 1, hj => simp at hj
theorem info_int : (Try.prog.info? 3).map (fun i => (i.zero, i.size, i.bytes)) = some (some (.int .i64 0), 1, 8) := by kernel_rfl
theorem FAt.named {w0 w : World} {B : Nat} {tb ts tt ti tg : TypeId} {s0 s1 E H U a au b bu c d : Int} {v : Value} {L : List Int} {g : Nat} (h : FAt w0 w B tb ts tt ti s0 s1 E H U a au b bu v L) (hk : w.heap[g]? = some (.cells #[.int .i64 c, .int .i64 d] tg)) :
    ∃ W, FAt w0 W B tb ts tt ti s0 s1 E H U a au b bu v L ∧ W.heap[g]? = some (.cells #[.int .i64 c, .int .i64 d] tg) ∧ W = w := ⟨w, h, hk, rfl⟩
theorem FAt.named1 {w0 w : World} {B : Nat} {tb ts tt ti : TypeId} {s0 s1 E H U a au b bu : Int} {v : Value} {L : List Int} (h : FAt w0 w B tb ts tt ti s0 s1 E H U a au b bu v L) :
    ∃ W, FAt w0 W B tb ts tt ti s0 s1 E H U a au b bu v L ∧ W = w := ⟨w, h, rfl⟩

set_option maxRecDepth 100000 in
set_option maxHeartbeats 200000000 in
theorem fences_any (x : Option Addr) (n cap : Nat) (l : List Stp) (q0 q1 : Nat) (w : World) (hq0 : q0 < 256) (hq1 : q1 < 256) (hn : l.length = n) (hm : n ≤ maxLen) (hl : StpsAt w x l) :
    Calls Try.prog 6 #[.slice x n cap, .int .u8 (q0 : Int), .int .u8 (q1 : Int)] w fun e w' => e = .returned (.bool true) ∧ Below w.heap.size w w' := by
  have HN := Lib.hid hn
  have hm' : (n : Int) ≤ 9223372036854775807 := by unfold maxLen at hm; omega
  clear hn hm
  by_cases h300 : 300 < n
  · go_enter Try.func6, Try.ntmps6
    go_wp2_with fail
    refine (works_any _).mono ?_
    rintro e w3 ⟨rfl, hb3⟩
    go_wp2_with fail
    go_ret
    exact ⟨rfl, hb3⟩
  obtain ⟨s0, hs0, s01, s02⟩ : ∃ s0 : Int, (q0 : Int) % 3 = s0 ∧ 0 ≤ s0 ∧ s0 ≤ 2 := ⟨_, rfl, by omega, by omega⟩
  obtain ⟨s1, hs1, s11, s12⟩ : ∃ s1 : Int, (q1 : Int) % 3 = s1 ∧ 0 ≤ s1 ∧ s1 ≤ 2 := ⟨_, rfl, by omega, by omega⟩
  go_enter Try.func6, Try.ntmps6
  go_wp2_with fail
  refine (new_any _).mono ?_
  rintro e w1 ⟨rfl, hb1⟩
  go_wp2_with fail
  obtain ⟨k0, k1, k2⟩ := alloc3' w1 (Obj.cells #[Value.int IntKind.i64 0, Value.int IntKind.i64 (-1), Value.int IntKind.i64 0] 23) (Obj.cells #[Value.int IntKind.i64 s0, Value.int IntKind.i64 s1] 2) (Obj.cells #[Value.int IntKind.i64 0, Value.int IntKind.i64 0, Value.int IntKind.i64 0, Value.int IntKind.i64 1, Value.int IntKind.i64 0, Value.int IntKind.i64 0] 46)
  have bb := below_on hb1 (below3 w1 (Obj.cells #[Value.int IntKind.i64 0, Value.int IntKind.i64 (-1), Value.int IntKind.i64 0] 23) (Obj.cells #[Value.int IntKind.i64 s0, Value.int IntKind.i64 s1] 2) (Obj.cells #[Value.int IntKind.i64 0, Value.int IntKind.i64 0, Value.int IntKind.i64 0, Value.int IntKind.i64 1, Value.int IntKind.i64 0, Value.int IntKind.i64 0] 46))
  have hge := hb1.size
  obtain ⟨B, hBd⟩ : ∃ B, B = w1.heap.size := ⟨_, rfl⟩
  rw [← hBd] at k0 k1 k2 hge ⊢
  obtain ⟨W, hW⟩ : ∃ W, W = ((w1.alloc (Obj.cells #[Value.int IntKind.i64 0, Value.int IntKind.i64 (-1), Value.int IntKind.i64 0] 23)).alloc (Obj.cells #[Value.int IntKind.i64 s0, Value.int IntKind.i64 s1] 2)).alloc (Obj.cells #[Value.int IntKind.i64 0, Value.int IntKind.i64 0, Value.int IntKind.i64 0, Value.int IntKind.i64 1, Value.int IntKind.i64 0, Value.int IntKind.i64 0] 46) := ⟨_, rfl⟩
  rw [← hW] at k0 k1 k2 bb ⊢
  clear hW hBd hs0 hs1 hq0 hq1
  have f0 : FAt w W B 23 2 46 3 s0 s1 0 (-1) 0 0 0 0 0 (.slice none 0 0) [] := ⟨hge, k0, k1, k2, World.ownsRow_nil _ _ _ _, bb⟩
  clear k0 k1 k2 bb hge
  have n300 : n ≤ 300 := by omega
  clear h300 hm'
  go_loopg [8, 11, 12] n (fun m nw v i wr => ∃ (k : Nat) (E H U now a au b bu : Int) (L : List Int), k + m = n ∧ i = .int .i64 k ∧ nw = .int .i64 now ∧ FInv k E H U now a au b bu L ∧ FAt w wr B 23 2 46 3 s0 s1 E H U a au b bu v L)
  case atStart => exact ⟨0, 0, -1, 0, 2, 0, 0, 0, 0, [], by omega, rfl, rfl, FInv.new, f0⟩
  case round =>
    obtain ⟨k, E, H, U, now, a, au, b, bu, L, hk, rfl, rfl, hI, hF⟩ := hrel
    clear f0
    by_cases hlt : k < n
    · obtain ⟨hcl, hwhere⟩ := hl.below hF.below
      rcases hwhere with hnil | ⟨xb, off, rfl, hcells⟩
      · rw [hnil] at HN; exact absurd HN.out (by simp; omega)
      obtain ⟨cc, hc⟩ : ∃ cc, l[k]? = some cc := ⟨_, List.getElem?_eq_getElem (by rw [HN.out]; exact hlt)⟩
      obtain ⟨z0, z1, z2⟩ := hcells k cc hc
      obtain ⟨c1, c2, c3⟩ := hcl cc (List.mem_of_getElem? hc)
      have d1 : (0 : Int) ≤ k := by omega
      have d2 : (k : Int) < n := by omega
      have k300 : k < 300 := by omega
      have hlx := hl
      obtain ⟨ck, cp, cn⟩ := cc
      dsimp only at z0 z1 z2 c1 c2 c3
      clear hcells hc hcl hl
      rcases (show cp % 2 = 0 ∨ cp % 2 = 1 by omega) with hp | hp
      · skip
        have hp2 : (cp : Int) % 2 = 0 := by omega
        clear hp
        obtain ⟨OT, hOT⟩ : ∃ OT, holdsB b bu (now - s1) = OT := ⟨_, rfl⟩
        have i1 := hI.n1
        have i2 := hI.n2
        have i3 := hI.b3
        have i4 := hI.b4
        have g1 : wrap64 (now - s1) = now - s1 := by unfold wrap64; omega
        have g1' : IntKind.i64.wrap (now - s1) = now - s1 := by rw [IntKind.wrap_i64]; omega
        have HC : ∀ w', Below wr.heap.size wr w' → Calls Try.prog 18 #[.agg #[.int .i64 1, .int .i64 b, .int .i64 bu], .int .i64 (now - s1)] w' fun e w'' => e = .returned (.bool OT) ∧ Below wr.heap.size wr w'' :=
          fun w' hw' => (holds_is OT 1 b bu (now - s1) w' hOT (by omega) (by omega)).mono (fun e w9 ⟨h1, h2⟩ => ⟨h1, below_on hw' h2⟩)
        obtain ⟨⟨y0, y1, y2⟩, ⟨y3, y4⟩, ⟨y5, y6, y7, y8, y9, y10⟩⟩ := hF.cells
        have wq : IntKind.i64.wrap 1 = 1 := by decide
        have HO := Lib.hid hOT
        clear hOT i1 i2 i3 i4 c1 c2 c3
        go_wp2_with fail
        refine wp_region_calm (by kernel_rfl) ?_ ?_
        · kernel_rfl
        repeat first
         | (go_big_quiet_want; go_big_quiet_op; go_big_quiet_on)
         | (with_reducible apply wpQuiet_step
            intro K hK
            go_simp
            first
              | (refine hK _ ?_; clear hK K)
              | (apply Exists.intro
                 refine ⟨fun w' hw' => ?_, hK _ ?_⟩
                 ·
                   (first
                    | with_reducible exact HC _ hw'
                    | (obtain ⟨⟨y0, y1, y2⟩, ⟨y3, y4⟩, ⟨y5, y6, y7, y8, y9, y10⟩⟩ := (hF.step hw').cells
                       go_simp
                       first | done | with_reducible exact rfl | with_reducible exact ⟨rfl, rfl⟩ | with_reducible exact HC _ hw'))
                 clear hK K))
        refine wpQuiet_nil ?_
        intro w7 hw7
        have hF7 := hF.step hw7
        have z07 := cell_later hw7 z0
        have z17 := cell_later hw7 z1
        have z27 := cell_later hw7 z2
        clear wq hF z0 z1 z2 HC g1 g1' y0 y1 y2 y3 y4 y5 y6 y7 y8 y9 y10 hw7
        have x7 := World.block_lt_of_cell? _ _ z07
        dsimp only at x7
        go_upto_block 2 with fail
        have kG := heap_new' w7 (Obj.cells #[Value.int IntKind.i64 0, Value.int IntKind.i64 0] 25)
        have bG := below1 w7 (Obj.cells #[Value.int IntKind.i64 0, Value.int IntKind.i64 0] 25)
        have hF8 := hF7.step bG
        have z18 := cell_later bG z17
        have z28 := cell_later bG z27
        have hgB : B + 1 + 1 < w7.heap.size := blk_lt hF7.ten
        have HGO : Hid (u11.ownBlock ≠ some w7.heap.size) := Lib.hid (fun h => by have := (hF7.own.lt _ h).2; omega)
        obtain ⟨W8, hW8⟩ : ∃ W8, W8 = w7.alloc (Obj.cells #[Value.int IntKind.i64 0, Value.int IntKind.i64 0] 25) := ⟨_, rfl⟩
        obtain ⟨g, hg⟩ : ∃ g, g = w7.heap.size := ⟨_, rfl⟩
        rw [← hW8] at kG hF8 z18 z28 ⊢
        rw [← hg] at kG hgB HGO ⊢
        clear hW8 hg bG hF7 z07 z17 z27 x7
        have hgo : u11.ownBlock ≠ some g := HGO.out
        clear HGO
        go_cut [8, 17, 70] (fun s8 s17 _s70 wx => ∃ er E2 H2 U2 nw2 a2 au2 b2 bu2 ge gu : Int, s8 = .int .i64 nw2 ∧ s17 = .int .i64 er ∧ FAt w wx B 23 2 46 3 s0 s1 E2 H2 U2 a2 au2 b2 bu2 u11 L ∧ wx.heap[g]? = some (.cells #[.int .i64 ge, .int .i64 gu] 25) ∧ CutA0 k OT E er E2 H2 U2 nw2 a2 au2 b2 bu2 ge gu L)
        case first =>
          rcases (show ck % 5 = 0 ∨ ck % 5 = 1 ∨ ck % 5 = 2 ∨ ck % 5 = 3 ∨ ck % 5 = 4 by omega) with hk5 | hk5 | hk5 | hk5 | hk5
          · as_aux_lemma =>
              have hm5 : (ck : Int) % 5 = 0 := by omega
              obtain ⟨d, hd, e1, e2⟩ : ∃ d : Int, (cn : Int) % 4 = d ∧ 0 ≤ d ∧ d ≤ 3 := ⟨_, rfl, by omega, by omega⟩
              have i1 := hI.n1
              have i2 := hI.n2
              have g1 : wrap64 (now + d) = now + d := by unfold wrap64; omega
              have g2 : IntKind.i64.wrap (now + d) = now + d := by rw [IntKind.wrap_i64]; omega
              have hC : CutA0 k OT E 4 E H U (now + d) a au b bu 0 0 L := cutA0_no (hI.next d e1 e2) (by omega)
              clear i1 i2 hk5 hI
              go_wp2_with fail
              go_meet
              exact ⟨4, E, H, U, now + d, a, au, b, bu, 0, 0, by rfl, rfl, hF8, kG, hC⟩
          · as_aux_lemma =>
              have hm5 : (ck : Int) % 5 = 1 := by omega
              obtain ⟨d, hd, e1, e2⟩ : ∃ d : Int, (cn : Int) % 4 = d ∧ 0 ≤ d ∧ d ≤ 3 := ⟨_, rfl, by omega, by omega⟩
              have i1 := hI.n1
              have i2 := hI.n2
              have g1 : wrap64 (now + d) = now + d := by unfold wrap64; omega
              have g2 : IntKind.i64.wrap (now + d) = now + d := by rw [IntKind.wrap_i64]; omega
              have hC : CutA0 k OT E 4 E H U (now + d) a au b bu 0 0 L := cutA0_no (hI.next d e1 e2) (by omega)
              clear i1 i2 hk5 hI
              go_wp2_with fail
              go_meet
              exact ⟨4, E, H, U, now + d, a, au, b, bu, 0, 0, by rfl, rfl, hF8, kG, hC⟩
          · as_aux_lemma =>
              have hm5 : (ck : Int) % 5 = 2 := by omega
              have hr8 := hI.right
              clear hk5
              by_cases her : (askR E H U 0 now).er = 0
              · obtain ⟨hA, hT, hO, hI2⟩ := hI.ask0 k300 s11 s12 her
                have HA := Lib.hid hA
                have hC : CutA0 k OT E 0 (E + 1) 0 (now + 8) now a au b bu (E + 1) (now + 8) L := cutA0_ask (HO.out ▸ hO) hT hI2 hr8.1
                have h1 : -9223372036854775808 ≤ H := by omega
                have h2 : H ≤ 9223372036854775807 := by omega
                obtain ⟨⟨y0, y1, y2⟩, _, _⟩ := hF8.cells
                clear hA hT hO hI2 hI her hr8
                go_wp2_with fail
                refine (ask_is (E + 1) 0 (now + 8) (E + 1) (now + 8) 0 E H U 0 now _ h1 h2 HA.out).mono ?_
                rintro e w9 ⟨rfl, hb9⟩
                have hF9 := hF8.step hb9
                have kG9 := blk_keep hb9 kG
                obtain ⟨⟨x0, x1, x2⟩, _, _⟩ := hF9.cells
                have f0 := blk_free hF9.book
                have f1 := blk_free kG9
                have v0 := blk_cell kG9 0 _ rfl
                have v1 := blk_cell kG9 1 _ rfl
                obtain ⟨hFx, kGx⟩ := hF9.answer (E' := (E + 1)) (H' := 0) (U' := (now + 8)) hgo hgB kG9 (E + 1) (now + 8)
                clear hF8 kG y0 y1 y2 hb9 hF9 kG9
                go_wp2_with fail
                go_meet
                exact ⟨0, (E + 1), 0, (now + 8), now, a, au, b, bu, (E + 1), (now + 8), rfl, rfl, hFx, kGx, hC⟩
              · have hA := ask_no her
                obtain ⟨er, her2⟩ : ∃ er, (askR E H U 0 now).er = er := ⟨_, rfl⟩
                rw [her2] at hA her
                have HA := Lib.hid hA
                have hC : CutA0 k OT E er E H U now a au b bu 0 0 L := cutA0_no hI.next0 her
                have h1 : -9223372036854775808 ≤ H := by omega
                have h2 : H ≤ 9223372036854775807 := by omega
                obtain ⟨⟨y0, y1, y2⟩, _, _⟩ := hF8.cells
                clear hA her2 hI her hr8
                go_wp2_with fail
                refine (ask_is E H U 0 0 er E H U 0 now _ h1 h2 HA.out).mono ?_
                rintro e w9 ⟨rfl, hb9⟩
                have hF9 := hF8.step hb9
                have kG9 := blk_keep hb9 kG
                obtain ⟨⟨x0, x1, x2⟩, _, _⟩ := hF9.cells
                have f0 := blk_free hF9.book
                have f1 := blk_free kG9
                have v0 := blk_cell kG9 0 _ rfl
                have v1 := blk_cell kG9 1 _ rfl
                obtain ⟨hFx, kGx⟩ := hF9.answer (E' := E) (H' := H) (U' := U) hgo hgB kG9 0 0
                clear hF8 kG y0 y1 y2 hb9 hF9 kG9
                go_wp2_with fail
                go_meet
                exact ⟨er, E, H, U, now, a, au, b, bu, 0, 0, rfl, rfl, hFx, kGx, hC⟩
          · have hm5 : (ck : Int) % 5 = 3 := by omega
            have hr8 := hI.right
            clear hk5
            obtain ⟨er, E2, H2, U2, ge, gu, hA, hC⟩ : ∃ er E2 H2 U2 ge gu : Int, renewR E H U 0 a now = ⟨E2, H2, U2, ge, gu, er⟩ ∧ CutA0 k OT E er E2 H2 U2 now a au b bu ge gu L := by
              by_cases her : (renewR E H U 0 a now).er = 0
              · obtain ⟨V, hA, hT, hO, hLL, hE0, hI2⟩ := hI.renew0 k300 s11 s12 her
                exact ⟨0, E, H, V, E, V, hA, cutA0_renew (HO.out ▸ hO) hT hLL hE0 hI2⟩
              · exact ⟨_, E, H, U, 0, 0, renew_no her, cutA0_no hI.next0 her⟩
            skip
            have HA := Lib.hid hA
            have h1 : -9223372036854775808 ≤ H := by omega
            have h2 : H ≤ 9223372036854775807 := by omega
            have hFd := hF8.step (Below.refl _ W8).drew
            have kGd : W8.drew.heap[g]? = _ := kG
            obtain ⟨⟨y0, y1, y2⟩, _, ⟨y5, y6, y7, y8, y9, y10⟩⟩ := hFd.cells
            clear hA hI hr8 hF8 kG
            go_wp2_with fail
            go_region_with ((go_at_call 13; refine (renew_is E2 H2 U2 ge gu er E H U 0 a now _ h1 h2 HA.out).mono ?_; rintro e w9 ⟨rfl, hb9⟩; have hF9 := hFd.step hb9; have kG9 := blk_keep hb9 kGd; obtain ⟨⟨x0, x1, x2⟩, _, _⟩ := hF9.cells; have f0 := blk_free hF9.book; have f1 := blk_free kG9; have v0 := blk_cell kG9 0 _ rfl; have v1 := blk_cell kG9 1 _ rfl; obtain ⟨hFx, kGx⟩ := hF9.answer (E' := E2) (H' := H2) (U' := U2) hgo hgB kG9 ge gu; clear y0 y1 y2 hb9 hF9 kG9))
            all_goals
              go_wp2_with fail
              go_meet
              exact ⟨er, E2, H2, U2, now, a, au, b, bu, ge, gu, rfl, rfl, hFx, kGx, hC⟩
          · as_aux_lemma =>
              have hm5 : (ck : Int) % 5 = 4 := by omega
              have hr8 := hI.right
              clear hk5
              by_cases her : (giveR E H U 0 a).er = 0
              · obtain ⟨hA, hI2⟩ := hI.give0 k300 her
                clear her
                skip
                have HA := Lib.hid hA
                have hC : CutA0 k OT E 4 E (-1) U now 0 0 b bu 0 0 L := cutA0_no hI2 (by omega)
                have h1 : -9223372036854775808 ≤ H := by omega
                have h2 : H ≤ 9223372036854775807 := by omega
                clear hI2 hA hI hr8
                go_upto_region 17 with fail
                go_cut [18, 19, 70] (fun s18 s19 _s70 wx => ∃ N : Nat, s18 = .pointer (some ⟨N, 0, none⟩) ∧ s19 = .int .i64 0 ∧ FAt w wx B 23 2 46 3 s0 s1 E H U a au b bu u11 L ∧ wx.heap[g]? = some (.cells #[.int .i64 0, .int .i64 0] 25) ∧ wx.heap[N]? = some (.cells #[.int .i64 E, .int .i64 (-1), .int .i64 U] 23) ∧ B + 1 + 1 < N ∧ g ≠ N ∧ u11.ownBlock ≠ some N)
                case first =>
                  have hgN : Hid (u11.ownBlock ≠ some W8.heap.size) := Lib.hid (fun h => by have := (hF8.own.lt _ h).2; omega)
                  have lN : B + 1 + 1 < W8.heap.size := blk_lt hF8.ten
                  have lG : g < W8.heap.size := blk_lt kG
                  have kNd : (W8.alloc (Obj.cells #[Value.int IntKind.i64 0, Value.int IntKind.i64 0, Value.int IntKind.i64 0] 23)).drew.heap[W8.heap.size]? = _ := heap_new' W8 (Obj.cells #[Value.int IntKind.i64 0, Value.int IntKind.i64 0, Value.int IntKind.i64 0] 23)
                  have bNd : Below W8.heap.size W8 (W8.alloc (Obj.cells #[Value.int IntKind.i64 0, Value.int IntKind.i64 0, Value.int IntKind.i64 0] 23)).drew := (below1 W8 (Obj.cells #[Value.int IntKind.i64 0, Value.int IntKind.i64 0, Value.int IntKind.i64 0] 23)).drew
                  have bD : Below W8.heap.size W8 W8.drew := (Below.refl _ W8).drew
                  have HS : Hid (∀ w', Below W8.heap.size W8 w' → (w'.cell? ⟨B, 0, none⟩ = some (.int .i64 E) ∧ w'.cell? ⟨B, 1, none⟩ = some (.int .i64 H) ∧ w'.cell? ⟨B, 2, none⟩ = some (.int .i64 U) ∧ w'.cell? ⟨B + 1 + 1, 1, none⟩ = some (.int .i64 a))) := Lib.hid (fun w' hw' => by
                    obtain ⟨⟨y0, y1, y2⟩, _, ⟨y5, y6, y7, y8, y9, y10⟩⟩ := (hF8.step hw').cells
                    have q0 := blk_cell (blk_keep hw' kG) 0 _ rfl
                    have q1 := blk_cell (blk_keep hw' kG) 1 _ rfl
                    exact ⟨y0, y1, y2, y6⟩)
                  have HF := Lib.hid hF8
                  have HG := Lib.hid kG
                  clear hF8 kG
                  go_region_held3 (fun w' => w'.cell? ⟨B, 0, none⟩ = some (.int .i64 E) ∧ w'.cell? ⟨B, 1, none⟩ = some (.int .i64 H) ∧ w'.cell? ⟨B, 2, none⟩ = some (.int .i64 U) ∧ w'.cell? ⟨B + 1 + 1, 1, none⟩ = some (.int .i64 a))
                    (exact HS.out _ (by first | assumption | (repeat first | assumption | with_reducible refine Below.drew ?_ | ((with_reducible refine Below.setCell ?_ ?_ _); rotate_left; (dsimp only; omega)) | ((with_reducible refine Below.alloc ?_ ?_ _); rotate_left; omega))))
                    (first
                      | (go_at_call 15; (with_reducible refine (give_is E (-1) U 0 0 0 E H U 0 a _ h1 h2 HA.out).mono ?_); rintro e w9 ⟨rfl, hb9⟩; (first | (have kN9 := blk_keep hb9 kNd; have hB9 := below_on bNd hb9; have f2 := blk_free kN9; have m0 := blk_cell kN9 0 _ rfl; have m1 := blk_cell kN9 1 _ rfl; have m2 := blk_cell kN9 2 _ rfl) | (have hB9 := below_on bD hb9)); have sB9 := hB9.size))
                  all_goals
                    have hF9 := HF.out.step hB9
                    have kG9 := blk_keep hB9 HG.out
                    go_wp2_with fail
                    go_meet
                    first
                      | (have kN9' := kN9; exact ⟨W8.heap.size, rfl, rfl, hF9.other (only_set3 _ _ _ _ _) hgN.out lN, (only_set3 _ _ _ _ _).keep (by omega) kG9, blk_set (blk_set (blk_set kN9' 0 _) 1 _) 2 _, lN, by omega, hgN.out⟩)
                      | exact ⟨w9.heap.size, rfl, rfl, hF9.step (below1 _ _), blk_keep (below1 _ _) kG9, heap_new' _ _, blk_lt hF9.ten, by have := blk_lt kG9; omega, fun h => by have := (hF9.own.lt _ h).2; omega⟩
                case rest =>
                  obtain ⟨N, rfl, rfl, hF9, kG9, kN9, lN, gN, oN⟩ := hcut
                  obtain ⟨⟨x0, x1, x2⟩, _, ⟨x5, x6, x7, x8, x9, x10⟩⟩ := hF9.cells
                  have f0 := blk_free hF9.book
                  have f1 := blk_free hF9.ten
                  have m0 := blk_cell kN9 0 _ rfl
                  have m1 := blk_cell kN9 1 _ rfl
                  have m2 := blk_cell kN9 2 _ rfl
                  have hFx := hF9.book3 (E' := E) (H' := (-1)) (U' := U)
                  have kGx := (only_set3 B _ (Value.int .i64 E) (Value.int .i64 (-1)) (Value.int .i64 U)).keep (show g ≠ B by omega) kG9
                  have hFy := hFx.ten0 (x := 0) (y := 0)
                  have kGy := (only_set3 (B + 1 + 1) _ (Value.int .i64 0) (Value.int .i64 0) (Value.int .i64 0)).keep (show g ≠ B + 1 + 1 by omega) kGx
                  clear hF8 kG hF9 kG9 kN9 hFx kGx
                  go_wp2_with fail
                  go_meet
                  exact ⟨4, E, (-1), U, now, 0, 0, b, bu, 0, 0, rfl, rfl, hFy, kGy, hC⟩
              · have hA := give_no her
                obtain ⟨er, her2⟩ : ∃ er, (giveR E H U 0 a).er = er := ⟨_, rfl⟩
                rw [her2] at hA her
                have er0 : (er == 0) = false := by simpa using her
                clear her2 her
                have HA := Lib.hid hA
                have hC : CutA0 k OT E 4 E H U now a au b bu 0 0 L := cutA0_no hI.next0 (by omega)
                have h1 : -9223372036854775808 ≤ H := by omega
                have h2 : H ≤ 9223372036854775807 := by omega
                clear hA hI hr8
                go_upto_region 17 with fail
                go_cut [18, 19, 70] (fun s18 s19 _s70 wx => ∃ N : Nat, s18 = .pointer (some ⟨N, 0, none⟩) ∧ s19 = .int .i64 er ∧ FAt w wx B 23 2 46 3 s0 s1 E H U a au b bu u11 L ∧ wx.heap[g]? = some (.cells #[.int .i64 0, .int .i64 0] 25) ∧ wx.heap[N]? = some (.cells #[.int .i64 E, .int .i64 H, .int .i64 U] 23) ∧ B + 1 + 1 < N ∧ g ≠ N ∧ u11.ownBlock ≠ some N)
                case first =>
                  have hgN : Hid (u11.ownBlock ≠ some W8.heap.size) := Lib.hid (fun h => by have := (hF8.own.lt _ h).2; omega)
                  have lN : B + 1 + 1 < W8.heap.size := blk_lt hF8.ten
                  have lG : g < W8.heap.size := blk_lt kG
                  have kNd : (W8.alloc (Obj.cells #[Value.int IntKind.i64 0, Value.int IntKind.i64 0, Value.int IntKind.i64 0] 23)).drew.heap[W8.heap.size]? = _ := heap_new' W8 (Obj.cells #[Value.int IntKind.i64 0, Value.int IntKind.i64 0, Value.int IntKind.i64 0] 23)
                  have bNd : Below W8.heap.size W8 (W8.alloc (Obj.cells #[Value.int IntKind.i64 0, Value.int IntKind.i64 0, Value.int IntKind.i64 0] 23)).drew := (below1 W8 (Obj.cells #[Value.int IntKind.i64 0, Value.int IntKind.i64 0, Value.int IntKind.i64 0] 23)).drew
                  have bD : Below W8.heap.size W8 W8.drew := (Below.refl _ W8).drew
                  have HS : Hid (∀ w', Below W8.heap.size W8 w' → (w'.cell? ⟨B, 0, none⟩ = some (.int .i64 E) ∧ w'.cell? ⟨B, 1, none⟩ = some (.int .i64 H) ∧ w'.cell? ⟨B, 2, none⟩ = some (.int .i64 U) ∧ w'.cell? ⟨B + 1 + 1, 1, none⟩ = some (.int .i64 a))) := Lib.hid (fun w' hw' => by
                    obtain ⟨⟨y0, y1, y2⟩, _, ⟨y5, y6, y7, y8, y9, y10⟩⟩ := (hF8.step hw').cells
                    have q0 := blk_cell (blk_keep hw' kG) 0 _ rfl
                    have q1 := blk_cell (blk_keep hw' kG) 1 _ rfl
                    exact ⟨y0, y1, y2, y6⟩)
                  have HF := Lib.hid hF8
                  have HG := Lib.hid kG
                  clear hF8 kG
                  go_region_held3 (fun w' => w'.cell? ⟨B, 0, none⟩ = some (.int .i64 E) ∧ w'.cell? ⟨B, 1, none⟩ = some (.int .i64 H) ∧ w'.cell? ⟨B, 2, none⟩ = some (.int .i64 U) ∧ w'.cell? ⟨B + 1 + 1, 1, none⟩ = some (.int .i64 a))
                    (exact HS.out _ (by first | assumption | (repeat first | assumption | with_reducible refine Below.drew ?_ | ((with_reducible refine Below.setCell ?_ ?_ _); rotate_left; (dsimp only; omega)) | ((with_reducible refine Below.alloc ?_ ?_ _); rotate_left; omega))))
                    (first
                      | (go_at_call 15; (with_reducible refine (give_is E H U 0 0 er E H U 0 a _ h1 h2 HA.out).mono ?_); rintro e w9 ⟨rfl, hb9⟩; (first | (have kN9 := blk_keep hb9 kNd; have hB9 := below_on bNd hb9; have f2 := blk_free kN9; have m0 := blk_cell kN9 0 _ rfl; have m1 := blk_cell kN9 1 _ rfl; have m2 := blk_cell kN9 2 _ rfl) | (have hB9 := below_on bD hb9)); have sB9 := hB9.size))
                  all_goals
                    have hF9 := HF.out.step hB9
                    have kG9 := blk_keep hB9 HG.out
                    go_wp2_with fail
                    go_meet
                    first
                      | (have kN9' := kN9; exact ⟨W8.heap.size, rfl, rfl, hF9.other (only_set3 _ _ _ _ _) hgN.out lN, (only_set3 _ _ _ _ _).keep (by omega) kG9, blk_set (blk_set (blk_set kN9' 0 _) 1 _) 2 _, lN, by omega, hgN.out⟩)
                      | exact ⟨w9.heap.size, rfl, rfl, hF9.step (below1 _ _), blk_keep (below1 _ _) kG9, heap_new' _ _, blk_lt hF9.ten, by have := blk_lt kG9; omega, fun h => by have := (hF9.own.lt _ h).2; omega⟩
                case rest =>
                  obtain ⟨N, rfl, rfl, hF9, kG9, kN9, lN, gN, oN⟩ := hcut
                  obtain ⟨⟨x0, x1, x2⟩, _, ⟨x5, x6, x7, x8, x9, x10⟩⟩ := hF9.cells
                  have f0 := blk_free hF9.book
                  have f1 := blk_free hF9.ten
                  have m0 := blk_cell kN9 0 _ rfl
                  have m1 := blk_cell kN9 1 _ rfl
                  have m2 := blk_cell kN9 2 _ rfl
                  have hFx := hF9.book3 (E' := E) (H' := H) (U' := U)
                  have kGx := (only_set3 B _ (Value.int .i64 E) (Value.int .i64 H) (Value.int .i64 U)).keep (show g ≠ B by omega) kG9
                  have hFy := hFx
                  have kGy := kGx
                  clear hF8 kG hF9 kG9 kN9 hFx kGx
                  go_wp2_with fail
                  go_meet
                  exact ⟨4, E, H, U, now, a, au, b, bu, 0, 0, rfl, rfl, hFy, kGy, hC⟩
        case rest =>
          obtain ⟨er, E2, H2, U2, nw2, a2, au2, b2, bu2, ge, gu, rfl, rfl, hF9, kG9, hCut⟩ := hcut
          obtain ⟨cE1, cE2, cR, cW⟩ := hCut
          obtain ⟨⟨y0, y1, y2⟩, ⟨y3, y4⟩, ⟨y5, y6, y7, y8, y9, y10⟩⟩ := hF9.cells
          have h1 : -9223372036854775808 ≤ H2 := by have := rightB_true cR; omega
          have h2 : H2 ≤ 9223372036854775807 := by have := rightB_true cR; omega
          have i1 := hI.e
          have i0 := hI.right.1
          have g1 : wrap64 (E + 1) = E + 1 := by unfold wrap64; omega
          have g2 : IntKind.i64.wrap (E + 1) = E + 1 := by rw [IntKind.wrap_i64]; omega
          have n1 : decide (E2 < E) = false := decide_eq_false (by omega)
          have n2 : decide (E + 1 < E2) = false := decide_eq_false (by omega)
          have HR := Lib.hid cR
          clear i1 i0 hI cR cE1 cE2
          go_wp2_with fail
          refine (right_is true E2 H2 U2 _ h1 h2 HR.out).mono ?_
          rintro e w10 ⟨rfl, hb10⟩
          have hF10 := hF9.step hb10
          have kG10 := blk_keep hb10 kG9
          clear hF9 kG9 hb10 y0 y1 y2 y3 y4 y5 y6 y7 y8 y9 y10 g1 g2 n1 n2
          go_upto_if 146 with fail
          go_cut [11, 17] from 37 to 203 (fun so _s17 wx => ∃ (vo : Value) (a3 au3 b3 bu3 : Int) (L3 : List Int), vo = so ∧ FInv (k + 1) E2 H2 U2 nw2 a3 au3 b3 bu3 L3 ∧ FAt w wx B 23 2 46 3 s0 s1 E2 H2 U2 a3 au3 b3 bu3 vo L3)
          case first =>
            rcases cW with ⟨her, hI2⟩ | ⟨rfl, rfl, rfl, hE0, hT, cW⟩
            · have er0 : (er == 0) = false := by simpa using her
              go_wp2_with fail
              go_meet
              exact ⟨_, a2, au2, b2, bu2, L, rfl, hI2, hF10⟩
            · have HT := Lib.hid hT
              clear hT
              go_upto_block 3 with fail
              go_cut [11] (fun so wx => ∃ (vo : Value) (L3 : List Int), vo = so ∧ L3[ge.toNat - 1]? = some 0 ∧ FInv (k + 1) ge H2 U2 nw2 ge gu b2 bu2 L3 ∧ FAt w wx B 23 2 46 3 s0 s1 ge H2 U2 a2 au2 b2 bu2 vo L3 ∧ wx.heap[g]? = some (.cells #[.int .i64 ge, .int .i64 gu] 25))
              case first =>
                as_aux_lemma =>
                  rcases cW with ⟨hE, hI2⟩ | ⟨hE, hl3, hI2⟩
                  · have hlen : (L.length : Int) = E := by have := hI2.len; simp at this; omega
                    have hl3 : (L ++ [(0 : Int)])[ge.toNat - 1]? = some 0 := by
                      have : ge.toNat - 1 = L.length := by omega
                      rw [this, List.getElem?_append_right (Nat.le_refl _), Nat.sub_self]; rfl
                    have hL300 : L.length ≤ 300 := by have := hI2.e; omega
                    have HE := Lib.hid hE
                    have HLN := Lib.hid hlen
                    clear hE hlen
                    go_wp2_with fail
                    go_loopg [11] 1 (fun m s wr => ∃ L3 : List Int, ((m = 1 ∧ L3 = L ∧ s.ownBlock ≠ some g) ∨ (m = 0 ∧ L3 = L ++ [0])) ∧ FAt w wr B 23 2 46 3 s0 s1 ge H2 U2 a2 au2 b2 bu2 s L3 ∧ wr.heap[g]? = some (.cells #[.int .i64 ge, .int .i64 gu] 25))
                    case atStart => exact ⟨L, .inl ⟨rfl, rfl, hgo⟩, hF10, kG10⟩
                    case round =>
                      obtain ⟨L3, hL, hF, kG⟩ := hrel
                      rcases hL with ⟨rfl, rfl, hgs⟩ | ⟨rfl, rfl⟩
                      · obtain ⟨ad, oc, rfl⟩ := hF.len
                        have v0 := blk_cell kG 0 _ rfl
                        have hB3 : B + 3 ≤ wr.heap.size := by have := blk_lt hF.ten; omega
                        have HOW := Lib.hid (own_below (below1 wr (Obj.cells #[Value.int IntKind.i64 0] 3)) hF.own)
                        have HGS := Lib.hid hgs
                        obtain ⟨nL, hnL⟩ : ∃ nL, L3.length = nL := ⟨_, rfl⟩
                        have HFh := Lib.hid hF
                        rw [hnL] at HOW HGS HFh ⊢
                        have d9 : decide ((nL : Int) < ge) = true := decide_eq_true (by have := HE.out; have := HLN.out; omega)
                        have HNL := Lib.hid hnL
                        obtain ⟨i0, hi, hz0, hz1, hz2⟩ := info_parts info_int
                        have hn300 : nL ≤ 300 := by omega
                        clear hF10 kG10 hl3 hF hgs hnL
                        go_wp2_with (at_builtin; refine wpList_append_src rfl _ _ 48 rfl (B + 3) 3 i0 (.int .i64 0) 1 8 Try.underlying48 hi hz0 hz1 hz2 rfl (by decide) _ nL (intVals L3) rfl HOW.out (some ⟨wr.heap.size, 0, none⟩) 1 1 [.int .i64 0] rfl rfl (srcAt_one wr _ _ rfl) (by unfold maxLen; omega) (by omega) (by simp; omega) ?_; intro v4 W4 hown4 hg4)
                        have hF4 := (HFh.out.step (below1 wr (Obj.cells #[Value.int IntKind.i64 0] 3))).grow hg4 (by rw [HNL.out]; exact hown4)
                        have kG4 : W4.heap[g]? = some (.cells #[.int .i64 ge, .int .i64 gu] 25) := (hg4.block g (blk_lt (blk_keep (below1 _ _) kG)) (fun h => HGS.out h.symm)).trans (blk_keep (below1 _ _) kG)
                        go_roundg 0
                        case rel => exact ⟨L3 ++ [0], .inr ⟨rfl, rfl⟩, hF4, kG4⟩
                        case measure => omega
                      · obtain ⟨ad, oc, rfl⟩ := hF.len
                        have v0 := blk_cell kG 0 _ rfl
                        have d9 : decide (((L ++ [(0 : Int)]).length : Int) < ge) = false := decide_eq_false (by have := HE.out; have := HLN.out; simp; omega)
                        obtain ⟨nL, hnL⟩ : ∃ nL, (L ++ [(0 : Int)]).length = nL := ⟨_, rfl⟩
                        have hFn := hF
                        rw [hnL] at d9 hFn ⊢
                        clear hF10 kG10
                        go_wp2_with fail
                        go_meet
                        exact ⟨_, L ++ [0], rfl, hl3, hI2, hFn, kG⟩
                  · have HE := Lib.hid hE
                    have HLN := Lib.hid (hI2.len.trans hE)
                    clear hE
                    go_wp2_with fail
                    go_loopg [11] 0 (fun _ s wr => FAt w wr B 23 2 46 3 s0 s1 ge H2 U2 a2 au2 b2 bu2 s L ∧ wr.heap[g]? = some (.cells #[.int .i64 ge, .int .i64 gu] 25))
                    case atStart => exact ⟨hF10, kG10⟩
                    case round =>
                      obtain ⟨hF, kG⟩ := hrel
                      obtain ⟨ad, oc, rfl⟩ := hF.len
                      have v0 := blk_cell kG 0 _ rfl
                      have d9 : decide ((L.length : Int) < ge) = false := decide_eq_false (by have := HE.out; have := HLN.out; omega)
                      obtain ⟨nL, hnL⟩ : ∃ nL, L.length = nL := ⟨_, rfl⟩
                      have hFn := hF
                      rw [hnL] at d9 hFn ⊢
                      clear hF10 kG10
                      go_wp2_with fail
                      go_meet
                      exact ⟨_, L, rfl, HE.out ▸ hl3, hI2, hFn, kG⟩
              case rest =>
                obtain ⟨vo, L3, rfl, hL3, hI3, hF, kG⟩ := hcut
                have HI3 := Lib.hid hI3
                have HL3 := Lib.hid hL3
                clear hI3 hL3 hF10 kG10 cW
                obtain ⟨WT, hFT, kGT, hWT⟩ := hF.named kG
                rw [← hWT]
                clear hF kG hWT
                go_upto_region 33 with fail
                go_cut [20, 21, 156] (fun s20 s21 _s156 wx => ∃ N : Nat, s20 = .pointer (some ⟨N, 0, none⟩) ∧ s21 = .int .i64 0 ∧ FAt w wx B 23 2 46 3 s0 s1 ge H2 U2 a2 au2 b2 bu2 vo L3 ∧ wx.heap[g]? = some (.cells #[.int .i64 ge, .int .i64 gu] 25) ∧ wx.heap[N]? = some (.cells #[.int .i64 0, .int .i64 ge, .int .i64 gu] 46) ∧ B + 1 + 1 < N ∧ g ≠ N ∧ vo.ownBlock ≠ some N)
                case first =>
                  as_aux_lemma =>
                    have hgN : Hid (vo.ownBlock ≠ some WT.heap.size) := Lib.hid (fun h => by have := (hFT.own.lt _ h).2; omega)
                    have lN : B + 1 + 1 < WT.heap.size := blk_lt hFT.ten
                    have lG : g < WT.heap.size := blk_lt kGT
                    have kNd : (WT.alloc (Obj.cells #[Value.int IntKind.i64 0, Value.int IntKind.i64 0, Value.int IntKind.i64 0] 46)).drew.heap[WT.heap.size]? = _ := heap_new' WT (Obj.cells #[Value.int IntKind.i64 0, Value.int IntKind.i64 0, Value.int IntKind.i64 0] 46)
                    have bNd : Below WT.heap.size WT (WT.alloc (Obj.cells #[Value.int IntKind.i64 0, Value.int IntKind.i64 0, Value.int IntKind.i64 0] 46)).drew := (below1 WT (Obj.cells #[Value.int IntKind.i64 0, Value.int IntKind.i64 0, Value.int IntKind.i64 0] 46)).drew
                    have bD : Below WT.heap.size WT WT.drew := (Below.refl _ WT).drew
                    have HS : Hid (∀ w', Below WT.heap.size WT w' → (w'.cell? ⟨B + 1 + 1, 0, none⟩ = some (.int .i64 0) ∧ w'.cell? ⟨B + 1 + 1, 1, none⟩ = some (.int .i64 a2) ∧ w'.cell? ⟨B + 1 + 1, 2, none⟩ = some (.int .i64 au2) ∧ w'.cell? ⟨g, 0, none⟩ = some (.int .i64 ge) ∧ w'.cell? ⟨g, 1, none⟩ = some (.int .i64 gu))) := Lib.hid (fun w' hw' => by
                      obtain ⟨⟨y0, y1, y2⟩, _, ⟨y5, y6, y7, y8, y9, y10⟩⟩ := (hFT.step hw').cells
                      have q0 := blk_cell (blk_keep hw' kGT) 0 _ rfl
                      have q1 := blk_cell (blk_keep hw' kGT) 1 _ rfl
                      exact ⟨y5, y6, y7, q0, q1⟩)
                    have HF := Lib.hid hFT
                    have HG := Lib.hid kGT
                    clear hFT kGT
                    go_region_held3 (fun w' => w'.cell? ⟨B + 1 + 1, 0, none⟩ = some (.int .i64 0) ∧ w'.cell? ⟨B + 1 + 1, 1, none⟩ = some (.int .i64 a2) ∧ w'.cell? ⟨B + 1 + 1, 2, none⟩ = some (.int .i64 au2) ∧ w'.cell? ⟨g, 0, none⟩ = some (.int .i64 ge) ∧ w'.cell? ⟨g, 1, none⟩ = some (.int .i64 gu))
                      (exact HS.out _ (by first | assumption | (repeat first | assumption | with_reducible refine Below.drew ?_ | ((with_reducible refine Below.setCell ?_ ?_ _); rotate_left; (dsimp only; omega)) | ((with_reducible refine Below.alloc ?_ ?_ _); rotate_left; omega))))
                      (first
                        | (go_at_call 19; (with_reducible refine (take_is ge gu 0 0 a2 au2 ge gu _ HT.out).mono ?_); rintro e w9 ⟨rfl, hb9⟩; (first | (have kN9 := blk_keep hb9 kNd; have hB9 := below_on bNd hb9; have f2 := blk_free kN9; have m0 := blk_cell kN9 0 _ rfl; have m1 := blk_cell kN9 1 _ rfl; have m2 := blk_cell kN9 2 _ rfl) | (have hB9 := below_on bD hb9)); have sB9 := hB9.size))
                    all_goals
                      have hF9 := HF.out.step hB9
                      have kG9 := blk_keep hB9 HG.out
                      go_wp2_with fail
                      go_meet
                      first
                        | (have kN9' := kN9; exact ⟨WT.heap.size, rfl, rfl, hF9.other (only_set3 _ _ _ _ _) hgN.out lN, (only_set3 _ _ _ _ _).keep (by omega) kG9, blk_set (blk_set (blk_set kN9' 0 _) 1 _) 2 _, lN, by omega, hgN.out⟩)
                        | exact ⟨w9.heap.size, rfl, rfl, hF9.step (below1 _ _), blk_keep (below1 _ _) kG9, heap_new' _ _, blk_lt hF9.ten, by have := blk_lt kG9; omega, fun h => by have := (hF9.own.lt _ h).2; omega⟩
                case rest =>
                  as_aux_lemma =>
                    obtain ⟨N, rfl, rfl, hF9, kG9, kN9, lN, gN, oN⟩ := hcut
                    obtain ⟨of, ocap, rfl, vrow⟩ := hF9.row HL3.out
                    obtain ⟨nL, hnL⟩ : ∃ nL, L3.length = nL := ⟨_, rfl⟩
                    obtain ⟨e0, he0⟩ : ∃ e0, ge.toNat - 1 = e0 := ⟨_, rfl⟩
                    have hlen := HI3.out.len
                    have hge := HI3.out.e
                    rw [he0] at vrow
                    have w1 : wrap64 (ge - 1) = (e0 : Int) := by unfold wrap64; omega
                    have w1' : IntKind.i64.wrap (ge - 1) = (e0 : Int) := by rw [IntKind.wrap_i64]; omega
                    have w2 : (0 : Int) ≤ e0 := by omega
                    have w3 : (e0 : Int) < nL := by omega
                    have w4 : (e0 : Int).toNat = e0 := by omega
                    have v0 := blk_cell kG9 0 _ rfl
                    have m0 := blk_cell kN9 0 _ rfl
                    have m1 := blk_cell kN9 1 _ rfl
                    have m2 := blk_cell kN9 2 _ rfl
                    have f1 := blk_free hF9.ten
                    obtain ⟨_, _, ⟨x5, x6, x7, x8, x9, x10⟩⟩ := hF9.cells
                    have hFt := hF9.ten0 (x := ge) (y := gu)
                    rw [hnL] at hFt ⊢
                    clear hF9 kG9 kN9 hnL he0 hlen hge
                    go_wp2_with fail
                    go_meet
                    exact ⟨_, ge, gu, b2, bu2, L3, rfl, HI3.out, hFt⟩
          case rest =>
            as_aux_lemma =>
              obtain ⟨vo, a3, au3, b3, bu3, L3, rfl, hI3, hF⟩ := hcut
              clear hF10 kG10 cW HR
              obtain ⟨F1, hF1⟩ : ∃ F, holdsB a3 au3 (nw2 - s0) = F := ⟨_, rfl⟩
              obtain ⟨F2, hF2⟩ : ∃ F, holdsB b3 bu3 (nw2 - s1) = F := ⟨_, rfl⟩
              have hFF : F1 = true → F2 = false := fun h => hF2.symm.trans (hI3.both s01 s02 s11 s12 (hF1.trans h))
              have i1 := hI3.n1
              have i2 := hI3.n2
              have j1 := hI3.a3
              have j2 := hI3.a4
              have j3 := hI3.b3
              have j4 := hI3.b4
              have g0 : wrap64 (nw2 - s0) = nw2 - s0 := by unfold wrap64; omega
              have g0' : IntKind.i64.wrap (nw2 - s0) = nw2 - s0 := by rw [IntKind.wrap_i64]; omega
              have g1 : wrap64 (nw2 - s1) = nw2 - s1 := by unfold wrap64; omega
              have g1' : IntKind.i64.wrap (nw2 - s1) = nw2 - s1 := by rw [IntKind.wrap_i64]; omega
              obtain ⟨WZ, hFZ, hWZ⟩ := hF.named1
              rw [← hWZ]
              have HC0 : ∀ w', Below WZ.heap.size WZ w' → Calls Try.prog 18 #[.agg #[.int .i64 0, .int .i64 a3, .int .i64 au3], .int .i64 (nw2 - s0)] w' fun e w'' => e = .returned (.bool F1) ∧ Below WZ.heap.size WZ w'' :=
                fun w' hw' => (holds_is F1 0 a3 au3 (nw2 - s0) w' hF1 (by omega) (by omega)).mono (fun e w9 ⟨h1, h2⟩ => ⟨h1, below_on hw' h2⟩)
              have HC1 : ∀ w', Below WZ.heap.size WZ w' → Calls Try.prog 18 #[.agg #[.int .i64 1, .int .i64 b3, .int .i64 bu3], .int .i64 (nw2 - s1)] w' fun e w'' => e = .returned (.bool F2) ∧ Below WZ.heap.size WZ w'' :=
                fun w' hw' => (holds_is F2 1 b3 bu3 (nw2 - s1) w' hF2 (by omega) (by omega)).mono (fun e w9 ⟨h1, h2⟩ => ⟨h1, below_on hw' h2⟩)
              have HI3 := Lib.hid hI3
              have e1 : wrap64 ((k : Int) + 1) = (k : Int) + 1 := by unfold wrap64; omega
              clear hI3 hF hWZ hF1 hF2 i1 i2 j1 j2 j3 j4
              rcases (show F1 = false ∨ (F1 = true ∧ F2 = false) by cases F1 with | false => exact .inl rfl | true => exact .inr ⟨rfl, hFF rfl⟩) with rfl | ⟨rfl, rfl⟩
              all_goals
                clear hFF
                obtain ⟨⟨y0, y1, y2⟩, ⟨y3, y4⟩, ⟨y5, y6, y7, y8, y9, y10⟩⟩ := hFZ.cells
                go_wp2_with fail
                refine wp_region_calm (by kernel_rfl) ?_ ?_
                · kernel_rfl
                repeat first
                 | go_big_quiet_skip
                 | (go_big_quiet_want; go_big_quiet_op; go_big_quiet_on)
                 | (with_reducible apply wpQuiet_step
                    intro K hK
                    go_simp
                    first
                      | (refine hK _ ?_; clear hK K)
                      | (apply Exists.intro
                         refine ⟨fun w' hw' => ?_, hK _ ?_⟩
                         ·
                           (first
                            | with_reducible exact HC0 _ hw'
                            | with_reducible exact HC1 _ hw'
                            | (obtain ⟨⟨y0, y1, y2⟩, ⟨y3, y4⟩, ⟨y5, y6, y7, y8, y9, y10⟩⟩ := (hFZ.step hw').cells
                               go_simp
                               first | done | with_reducible exact rfl | with_reducible exact ⟨rfl, rfl⟩ | with_reducible exact HC0 _ hw' | with_reducible exact HC1 _ hw'))
                         clear hK K))
                refine wpQuiet_nil ?_
                intro w7 hw7
                have hF7 := hFZ.step hw7
                clear g0 g0' g1 g1' y0 y1 y2 y3 y4 y5 y6 y7 y8 y9 y10 hw7 hFZ HC0 HC1 z18 z28 kG hF8 hgo hp2 HO hgB h1 h2 hlx
                go_upto_if 203 with fail
                go_wp2_with fail
                go_roundg (n - (k + 1))
                case rel => exact ⟨k + 1, E2, H2, U2, nw2, a3, au3, b3, bu3, L3, by omega, by go_num, rfl, HI3.out, hF7⟩
                case measure => omega
      · skip
        have hp2 : (cp : Int) % 2 = 1 := by omega
        clear hp
        obtain ⟨OT, hOT⟩ : ∃ OT, holdsB a au (now - s0) = OT := ⟨_, rfl⟩
        have i1 := hI.n1
        have i2 := hI.n2
        have i3 := hI.a3
        have i4 := hI.a4
        have g1 : wrap64 (now - s0) = now - s0 := by unfold wrap64; omega
        have g1' : IntKind.i64.wrap (now - s0) = now - s0 := by rw [IntKind.wrap_i64]; omega
        have HC : ∀ w', Below wr.heap.size wr w' → Calls Try.prog 18 #[.agg #[.int .i64 0, .int .i64 a, .int .i64 au], .int .i64 (now - s0)] w' fun e w'' => e = .returned (.bool OT) ∧ Below wr.heap.size wr w'' :=
          fun w' hw' => (holds_is OT 0 a au (now - s0) w' hOT (by omega) (by omega)).mono (fun e w9 ⟨h1, h2⟩ => ⟨h1, below_on hw' h2⟩)
        obtain ⟨⟨y0, y1, y2⟩, ⟨y3, y4⟩, ⟨y5, y6, y7, y8, y9, y10⟩⟩ := hF.cells
        have wq : IntKind.i64.wrap 0 = 0 := by decide
        have HO := Lib.hid hOT
        clear hOT i1 i2 i3 i4 c1 c2 c3
        go_wp2_with fail
        refine wp_region_calm (by kernel_rfl) ?_ ?_
        · kernel_rfl
        repeat first
         | (go_big_quiet_want; go_big_quiet_op; go_big_quiet_on)
         | (with_reducible apply wpQuiet_step
            intro K hK
            go_simp
            first
              | (refine hK _ ?_; clear hK K)
              | (apply Exists.intro
                 refine ⟨fun w' hw' => ?_, hK _ ?_⟩
                 ·
                   (first
                    | with_reducible exact HC _ hw'
                    | (obtain ⟨⟨y0, y1, y2⟩, ⟨y3, y4⟩, ⟨y5, y6, y7, y8, y9, y10⟩⟩ := (hF.step hw').cells
                       go_simp
                       first | done | with_reducible exact rfl | with_reducible exact ⟨rfl, rfl⟩ | with_reducible exact HC _ hw'))
                 clear hK K))
        refine wpQuiet_nil ?_
        intro w7 hw7
        have hF7 := hF.step hw7
        have z07 := cell_later hw7 z0
        have z17 := cell_later hw7 z1
        have z27 := cell_later hw7 z2
        clear wq hF z0 z1 z2 HC g1 g1' y0 y1 y2 y3 y4 y5 y6 y7 y8 y9 y10 hw7
        have x7 := World.block_lt_of_cell? _ _ z07
        dsimp only at x7
        go_upto_block 2 with fail
        have kG := heap_new' w7 (Obj.cells #[Value.int IntKind.i64 0, Value.int IntKind.i64 0] 25)
        have bG := below1 w7 (Obj.cells #[Value.int IntKind.i64 0, Value.int IntKind.i64 0] 25)
        have hF8 := hF7.step bG
        have z18 := cell_later bG z17
        have z28 := cell_later bG z27
        have hgB : B + 1 + 1 < w7.heap.size := blk_lt hF7.ten
        have HGO : Hid (u11.ownBlock ≠ some w7.heap.size) := Lib.hid (fun h => by have := (hF7.own.lt _ h).2; omega)
        obtain ⟨W8, hW8⟩ : ∃ W8, W8 = w7.alloc (Obj.cells #[Value.int IntKind.i64 0, Value.int IntKind.i64 0] 25) := ⟨_, rfl⟩
        obtain ⟨g, hg⟩ : ∃ g, g = w7.heap.size := ⟨_, rfl⟩
        rw [← hW8] at kG hF8 z18 z28 ⊢
        rw [← hg] at kG hgB HGO ⊢
        clear hW8 hg bG hF7 z07 z17 z27 x7
        have hgo : u11.ownBlock ≠ some g := HGO.out
        clear HGO
        go_cut [8, 17, 70] (fun s8 s17 _s70 wx => ∃ er E2 H2 U2 nw2 a2 au2 b2 bu2 ge gu : Int, s8 = .int .i64 nw2 ∧ s17 = .int .i64 er ∧ FAt w wx B 23 2 46 3 s0 s1 E2 H2 U2 a2 au2 b2 bu2 u11 L ∧ wx.heap[g]? = some (.cells #[.int .i64 ge, .int .i64 gu] 25) ∧ CutA1 k OT E er E2 H2 U2 nw2 a2 au2 b2 bu2 ge gu L)
        case first =>
          rcases (show ck % 5 = 0 ∨ ck % 5 = 1 ∨ ck % 5 = 2 ∨ ck % 5 = 3 ∨ ck % 5 = 4 by omega) with hk5 | hk5 | hk5 | hk5 | hk5
          · as_aux_lemma =>
              have hm5 : (ck : Int) % 5 = 0 := by omega
              obtain ⟨d, hd, e1, e2⟩ : ∃ d : Int, (cn : Int) % 4 = d ∧ 0 ≤ d ∧ d ≤ 3 := ⟨_, rfl, by omega, by omega⟩
              have i1 := hI.n1
              have i2 := hI.n2
              have g1 : wrap64 (now + d) = now + d := by unfold wrap64; omega
              have g2 : IntKind.i64.wrap (now + d) = now + d := by rw [IntKind.wrap_i64]; omega
              have hC : CutA1 k OT E 4 E H U (now + d) a au b bu 0 0 L := cutA1_no (hI.next d e1 e2) (by omega)
              clear i1 i2 hk5 hI
              go_wp2_with fail
              go_meet
              exact ⟨4, E, H, U, now + d, a, au, b, bu, 0, 0, by rfl, rfl, hF8, kG, hC⟩
          · as_aux_lemma =>
              have hm5 : (ck : Int) % 5 = 1 := by omega
              obtain ⟨d, hd, e1, e2⟩ : ∃ d : Int, (cn : Int) % 4 = d ∧ 0 ≤ d ∧ d ≤ 3 := ⟨_, rfl, by omega, by omega⟩
              have i1 := hI.n1
              have i2 := hI.n2
              have g1 : wrap64 (now + d) = now + d := by unfold wrap64; omega
              have g2 : IntKind.i64.wrap (now + d) = now + d := by rw [IntKind.wrap_i64]; omega
              have hC : CutA1 k OT E 4 E H U (now + d) a au b bu 0 0 L := cutA1_no (hI.next d e1 e2) (by omega)
              clear i1 i2 hk5 hI
              go_wp2_with fail
              go_meet
              exact ⟨4, E, H, U, now + d, a, au, b, bu, 0, 0, by rfl, rfl, hF8, kG, hC⟩
          · as_aux_lemma =>
              have hm5 : (ck : Int) % 5 = 2 := by omega
              have hr8 := hI.right
              clear hk5
              by_cases her : (askR E H U 1 now).er = 0
              · obtain ⟨hA, hT, hO, hI2⟩ := hI.ask1 k300 s01 s02 her
                have HA := Lib.hid hA
                have hC : CutA1 k OT E 0 (E + 1) 1 (now + 8) now a au b bu (E + 1) (now + 8) L := cutA1_ask (HO.out ▸ hO) hT hI2 hr8.1
                have h1 : -9223372036854775808 ≤ H := by omega
                have h2 : H ≤ 9223372036854775807 := by omega
                obtain ⟨⟨y0, y1, y2⟩, _, _⟩ := hF8.cells
                clear hA hT hO hI2 hI her hr8
                go_wp2_with fail
                refine (ask_is (E + 1) 1 (now + 8) (E + 1) (now + 8) 0 E H U 1 now _ h1 h2 HA.out).mono ?_
                rintro e w9 ⟨rfl, hb9⟩
                have hF9 := hF8.step hb9
                have kG9 := blk_keep hb9 kG
                obtain ⟨⟨x0, x1, x2⟩, _, _⟩ := hF9.cells
                have f0 := blk_free hF9.book
                have f1 := blk_free kG9
                have v0 := blk_cell kG9 0 _ rfl
                have v1 := blk_cell kG9 1 _ rfl
                obtain ⟨hFx, kGx⟩ := hF9.answer (E' := (E + 1)) (H' := 1) (U' := (now + 8)) hgo hgB kG9 (E + 1) (now + 8)
                clear hF8 kG y0 y1 y2 hb9 hF9 kG9
                go_wp2_with fail
                go_meet
                exact ⟨0, (E + 1), 1, (now + 8), now, a, au, b, bu, (E + 1), (now + 8), rfl, rfl, hFx, kGx, hC⟩
              · have hA := ask_no her
                obtain ⟨er, her2⟩ : ∃ er, (askR E H U 1 now).er = er := ⟨_, rfl⟩
                rw [her2] at hA her
                have HA := Lib.hid hA
                have hC : CutA1 k OT E er E H U now a au b bu 0 0 L := cutA1_no hI.next0 her
                have h1 : -9223372036854775808 ≤ H := by omega
                have h2 : H ≤ 9223372036854775807 := by omega
                obtain ⟨⟨y0, y1, y2⟩, _, _⟩ := hF8.cells
                clear hA her2 hI her hr8
                go_wp2_with fail
                refine (ask_is E H U 0 0 er E H U 1 now _ h1 h2 HA.out).mono ?_
                rintro e w9 ⟨rfl, hb9⟩
                have hF9 := hF8.step hb9
                have kG9 := blk_keep hb9 kG
                obtain ⟨⟨x0, x1, x2⟩, _, _⟩ := hF9.cells
                have f0 := blk_free hF9.book
                have f1 := blk_free kG9
                have v0 := blk_cell kG9 0 _ rfl
                have v1 := blk_cell kG9 1 _ rfl
                obtain ⟨hFx, kGx⟩ := hF9.answer (E' := E) (H' := H) (U' := U) hgo hgB kG9 0 0
                clear hF8 kG y0 y1 y2 hb9 hF9 kG9
                go_wp2_with fail
                go_meet
                exact ⟨er, E, H, U, now, a, au, b, bu, 0, 0, rfl, rfl, hFx, kGx, hC⟩
          · have hm5 : (ck : Int) % 5 = 3 := by omega
            have hr8 := hI.right
            clear hk5
            obtain ⟨er, E2, H2, U2, ge, gu, hA, hC⟩ : ∃ er E2 H2 U2 ge gu : Int, renewR E H U 1 b now = ⟨E2, H2, U2, ge, gu, er⟩ ∧ CutA1 k OT E er E2 H2 U2 now a au b bu ge gu L := by
              by_cases her : (renewR E H U 1 b now).er = 0
              · obtain ⟨V, hA, hT, hO, hLL, hE0, hI2⟩ := hI.renew1 k300 s01 s02 her
                exact ⟨0, E, H, V, E, V, hA, cutA1_renew (HO.out ▸ hO) hT hLL hE0 hI2⟩
              · exact ⟨_, E, H, U, 0, 0, renew_no her, cutA1_no hI.next0 her⟩
            skip
            have HA := Lib.hid hA
            have h1 : -9223372036854775808 ≤ H := by omega
            have h2 : H ≤ 9223372036854775807 := by omega
            have hFd := hF8.step (Below.refl _ W8).drew
            have kGd : W8.drew.heap[g]? = _ := kG
            obtain ⟨⟨y0, y1, y2⟩, _, ⟨y5, y6, y7, y8, y9, y10⟩⟩ := hFd.cells
            clear hA hI hr8 hF8 kG
            go_wp2_with fail
            go_region_with ((go_at_call 13; refine (renew_is E2 H2 U2 ge gu er E H U 1 b now _ h1 h2 HA.out).mono ?_; rintro e w9 ⟨rfl, hb9⟩; have hF9 := hFd.step hb9; have kG9 := blk_keep hb9 kGd; obtain ⟨⟨x0, x1, x2⟩, _, _⟩ := hF9.cells; have f0 := blk_free hF9.book; have f1 := blk_free kG9; have v0 := blk_cell kG9 0 _ rfl; have v1 := blk_cell kG9 1 _ rfl; obtain ⟨hFx, kGx⟩ := hF9.answer (E' := E2) (H' := H2) (U' := U2) hgo hgB kG9 ge gu; clear y0 y1 y2 hb9 hF9 kG9))
            all_goals
              go_wp2_with fail
              go_meet
              exact ⟨er, E2, H2, U2, now, a, au, b, bu, ge, gu, rfl, rfl, hFx, kGx, hC⟩
          · as_aux_lemma =>
              have hm5 : (ck : Int) % 5 = 4 := by omega
              have hr8 := hI.right
              clear hk5
              by_cases her : (giveR E H U 1 b).er = 0
              · obtain ⟨hA, hI2⟩ := hI.give1 k300 her
                clear her
                skip
                have HA := Lib.hid hA
                have hC : CutA1 k OT E 4 E (-1) U now a au 0 0 0 0 L := cutA1_no hI2 (by omega)
                have h1 : -9223372036854775808 ≤ H := by omega
                have h2 : H ≤ 9223372036854775807 := by omega
                clear hI2 hA hI hr8
                go_upto_region 17 with fail
                go_cut [18, 19, 70] (fun s18 s19 _s70 wx => ∃ N : Nat, s18 = .pointer (some ⟨N, 0, none⟩) ∧ s19 = .int .i64 0 ∧ FAt w wx B 23 2 46 3 s0 s1 E H U a au b bu u11 L ∧ wx.heap[g]? = some (.cells #[.int .i64 0, .int .i64 0] 25) ∧ wx.heap[N]? = some (.cells #[.int .i64 E, .int .i64 (-1), .int .i64 U] 23) ∧ B + 1 + 1 < N ∧ g ≠ N ∧ u11.ownBlock ≠ some N)
                case first =>
                  have hgN : Hid (u11.ownBlock ≠ some W8.heap.size) := Lib.hid (fun h => by have := (hF8.own.lt _ h).2; omega)
                  have lN : B + 1 + 1 < W8.heap.size := blk_lt hF8.ten
                  have lG : g < W8.heap.size := blk_lt kG
                  have kNd : (W8.alloc (Obj.cells #[Value.int IntKind.i64 0, Value.int IntKind.i64 0, Value.int IntKind.i64 0] 23)).drew.heap[W8.heap.size]? = _ := heap_new' W8 (Obj.cells #[Value.int IntKind.i64 0, Value.int IntKind.i64 0, Value.int IntKind.i64 0] 23)
                  have bNd : Below W8.heap.size W8 (W8.alloc (Obj.cells #[Value.int IntKind.i64 0, Value.int IntKind.i64 0, Value.int IntKind.i64 0] 23)).drew := (below1 W8 (Obj.cells #[Value.int IntKind.i64 0, Value.int IntKind.i64 0, Value.int IntKind.i64 0] 23)).drew
                  have bD : Below W8.heap.size W8 W8.drew := (Below.refl _ W8).drew
                  have HS : Hid (∀ w', Below W8.heap.size W8 w' → (w'.cell? ⟨B, 0, none⟩ = some (.int .i64 E) ∧ w'.cell? ⟨B, 1, none⟩ = some (.int .i64 H) ∧ w'.cell? ⟨B, 2, none⟩ = some (.int .i64 U) ∧ w'.cell? ⟨B + 1 + 1, 4, none⟩ = some (.int .i64 b))) := Lib.hid (fun w' hw' => by
                    obtain ⟨⟨y0, y1, y2⟩, _, ⟨y5, y6, y7, y8, y9, y10⟩⟩ := (hF8.step hw').cells
                    have q0 := blk_cell (blk_keep hw' kG) 0 _ rfl
                    have q1 := blk_cell (blk_keep hw' kG) 1 _ rfl
                    exact ⟨y0, y1, y2, y9⟩)
                  have HF := Lib.hid hF8
                  have HG := Lib.hid kG
                  clear hF8 kG
                  go_region_held3 (fun w' => w'.cell? ⟨B, 0, none⟩ = some (.int .i64 E) ∧ w'.cell? ⟨B, 1, none⟩ = some (.int .i64 H) ∧ w'.cell? ⟨B, 2, none⟩ = some (.int .i64 U) ∧ w'.cell? ⟨B + 1 + 1, 4, none⟩ = some (.int .i64 b))
                    (exact HS.out _ (by first | assumption | (repeat first | assumption | with_reducible refine Below.drew ?_ | ((with_reducible refine Below.setCell ?_ ?_ _); rotate_left; (dsimp only; omega)) | ((with_reducible refine Below.alloc ?_ ?_ _); rotate_left; omega))))
                    (first
                      | (go_at_call 15; (with_reducible refine (give_is E (-1) U 0 0 0 E H U 1 b _ h1 h2 HA.out).mono ?_); rintro e w9 ⟨rfl, hb9⟩; (first | (have kN9 := blk_keep hb9 kNd; have hB9 := below_on bNd hb9; have f2 := blk_free kN9; have m0 := blk_cell kN9 0 _ rfl; have m1 := blk_cell kN9 1 _ rfl; have m2 := blk_cell kN9 2 _ rfl) | (have hB9 := below_on bD hb9)); have sB9 := hB9.size))
                  all_goals
                    have hF9 := HF.out.step hB9
                    have kG9 := blk_keep hB9 HG.out
                    go_wp2_with fail
                    go_meet
                    first
                      | (have kN9' := kN9; exact ⟨W8.heap.size, rfl, rfl, hF9.other (only_set3 _ _ _ _ _) hgN.out lN, (only_set3 _ _ _ _ _).keep (by omega) kG9, blk_set (blk_set (blk_set kN9' 0 _) 1 _) 2 _, lN, by omega, hgN.out⟩)
                      | exact ⟨w9.heap.size, rfl, rfl, hF9.step (below1 _ _), blk_keep (below1 _ _) kG9, heap_new' _ _, blk_lt hF9.ten, by have := blk_lt kG9; omega, fun h => by have := (hF9.own.lt _ h).2; omega⟩
                case rest =>
                  obtain ⟨N, rfl, rfl, hF9, kG9, kN9, lN, gN, oN⟩ := hcut
                  obtain ⟨⟨x0, x1, x2⟩, _, ⟨x5, x6, x7, x8, x9, x10⟩⟩ := hF9.cells
                  have f0 := blk_free hF9.book
                  have f1 := blk_free hF9.ten
                  have m0 := blk_cell kN9 0 _ rfl
                  have m1 := blk_cell kN9 1 _ rfl
                  have m2 := blk_cell kN9 2 _ rfl
                  have hFx := hF9.book3 (E' := E) (H' := (-1)) (U' := U)
                  have kGx := (only_set3 B _ (Value.int .i64 E) (Value.int .i64 (-1)) (Value.int .i64 U)).keep (show g ≠ B by omega) kG9
                  have hFy := hFx.ten1 (x := 0) (y := 0)
                  have kGy := (only_set3' (B + 1 + 1) _ (Value.int .i64 1) (Value.int .i64 0) (Value.int .i64 0)).keep (show g ≠ B + 1 + 1 by omega) kGx
                  clear hF8 kG hF9 kG9 kN9 hFx kGx
                  go_wp2_with fail
                  go_meet
                  exact ⟨4, E, (-1), U, now, a, au, 0, 0, 0, 0, rfl, rfl, hFy, kGy, hC⟩
              · have hA := give_no her
                obtain ⟨er, her2⟩ : ∃ er, (giveR E H U 1 b).er = er := ⟨_, rfl⟩
                rw [her2] at hA her
                have er0 : (er == 0) = false := by simpa using her
                clear her2 her
                have HA := Lib.hid hA
                have hC : CutA1 k OT E 4 E H U now a au b bu 0 0 L := cutA1_no hI.next0 (by omega)
                have h1 : -9223372036854775808 ≤ H := by omega
                have h2 : H ≤ 9223372036854775807 := by omega
                clear hA hI hr8
                go_upto_region 17 with fail
                go_cut [18, 19, 70] (fun s18 s19 _s70 wx => ∃ N : Nat, s18 = .pointer (some ⟨N, 0, none⟩) ∧ s19 = .int .i64 er ∧ FAt w wx B 23 2 46 3 s0 s1 E H U a au b bu u11 L ∧ wx.heap[g]? = some (.cells #[.int .i64 0, .int .i64 0] 25) ∧ wx.heap[N]? = some (.cells #[.int .i64 E, .int .i64 H, .int .i64 U] 23) ∧ B + 1 + 1 < N ∧ g ≠ N ∧ u11.ownBlock ≠ some N)
                case first =>
                  have hgN : Hid (u11.ownBlock ≠ some W8.heap.size) := Lib.hid (fun h => by have := (hF8.own.lt _ h).2; omega)
                  have lN : B + 1 + 1 < W8.heap.size := blk_lt hF8.ten
                  have lG : g < W8.heap.size := blk_lt kG
                  have kNd : (W8.alloc (Obj.cells #[Value.int IntKind.i64 0, Value.int IntKind.i64 0, Value.int IntKind.i64 0] 23)).drew.heap[W8.heap.size]? = _ := heap_new' W8 (Obj.cells #[Value.int IntKind.i64 0, Value.int IntKind.i64 0, Value.int IntKind.i64 0] 23)
                  have bNd : Below W8.heap.size W8 (W8.alloc (Obj.cells #[Value.int IntKind.i64 0, Value.int IntKind.i64 0, Value.int IntKind.i64 0] 23)).drew := (below1 W8 (Obj.cells #[Value.int IntKind.i64 0, Value.int IntKind.i64 0, Value.int IntKind.i64 0] 23)).drew
                  have bD : Below W8.heap.size W8 W8.drew := (Below.refl _ W8).drew
                  have HS : Hid (∀ w', Below W8.heap.size W8 w' → (w'.cell? ⟨B, 0, none⟩ = some (.int .i64 E) ∧ w'.cell? ⟨B, 1, none⟩ = some (.int .i64 H) ∧ w'.cell? ⟨B, 2, none⟩ = some (.int .i64 U) ∧ w'.cell? ⟨B + 1 + 1, 4, none⟩ = some (.int .i64 b))) := Lib.hid (fun w' hw' => by
                    obtain ⟨⟨y0, y1, y2⟩, _, ⟨y5, y6, y7, y8, y9, y10⟩⟩ := (hF8.step hw').cells
                    have q0 := blk_cell (blk_keep hw' kG) 0 _ rfl
                    have q1 := blk_cell (blk_keep hw' kG) 1 _ rfl
                    exact ⟨y0, y1, y2, y9⟩)
                  have HF := Lib.hid hF8
                  have HG := Lib.hid kG
                  clear hF8 kG
                  go_region_held3 (fun w' => w'.cell? ⟨B, 0, none⟩ = some (.int .i64 E) ∧ w'.cell? ⟨B, 1, none⟩ = some (.int .i64 H) ∧ w'.cell? ⟨B, 2, none⟩ = some (.int .i64 U) ∧ w'.cell? ⟨B + 1 + 1, 4, none⟩ = some (.int .i64 b))
                    (exact HS.out _ (by first | assumption | (repeat first | assumption | with_reducible refine Below.drew ?_ | ((with_reducible refine Below.setCell ?_ ?_ _); rotate_left; (dsimp only; omega)) | ((with_reducible refine Below.alloc ?_ ?_ _); rotate_left; omega))))
                    (first
                      | (go_at_call 15; (with_reducible refine (give_is E H U 0 0 er E H U 1 b _ h1 h2 HA.out).mono ?_); rintro e w9 ⟨rfl, hb9⟩; (first | (have kN9 := blk_keep hb9 kNd; have hB9 := below_on bNd hb9; have f2 := blk_free kN9; have m0 := blk_cell kN9 0 _ rfl; have m1 := blk_cell kN9 1 _ rfl; have m2 := blk_cell kN9 2 _ rfl) | (have hB9 := below_on bD hb9)); have sB9 := hB9.size))
                  all_goals
                    have hF9 := HF.out.step hB9
                    have kG9 := blk_keep hB9 HG.out
                    go_wp2_with fail
                    go_meet
                    first
                      | (have kN9' := kN9; exact ⟨W8.heap.size, rfl, rfl, hF9.other (only_set3 _ _ _ _ _) hgN.out lN, (only_set3 _ _ _ _ _).keep (by omega) kG9, blk_set (blk_set (blk_set kN9' 0 _) 1 _) 2 _, lN, by omega, hgN.out⟩)
                      | exact ⟨w9.heap.size, rfl, rfl, hF9.step (below1 _ _), blk_keep (below1 _ _) kG9, heap_new' _ _, blk_lt hF9.ten, by have := blk_lt kG9; omega, fun h => by have := (hF9.own.lt _ h).2; omega⟩
                case rest =>
                  obtain ⟨N, rfl, rfl, hF9, kG9, kN9, lN, gN, oN⟩ := hcut
                  obtain ⟨⟨x0, x1, x2⟩, _, ⟨x5, x6, x7, x8, x9, x10⟩⟩ := hF9.cells
                  have f0 := blk_free hF9.book
                  have f1 := blk_free hF9.ten
                  have m0 := blk_cell kN9 0 _ rfl
                  have m1 := blk_cell kN9 1 _ rfl
                  have m2 := blk_cell kN9 2 _ rfl
                  have hFx := hF9.book3 (E' := E) (H' := H) (U' := U)
                  have kGx := (only_set3 B _ (Value.int .i64 E) (Value.int .i64 H) (Value.int .i64 U)).keep (show g ≠ B by omega) kG9
                  have hFy := hFx
                  have kGy := kGx
                  clear hF8 kG hF9 kG9 kN9 hFx kGx
                  go_wp2_with fail
                  go_meet
                  exact ⟨4, E, H, U, now, a, au, b, bu, 0, 0, rfl, rfl, hFy, kGy, hC⟩
        case rest =>
          obtain ⟨er, E2, H2, U2, nw2, a2, au2, b2, bu2, ge, gu, rfl, rfl, hF9, kG9, hCut⟩ := hcut
          obtain ⟨cE1, cE2, cR, cW⟩ := hCut
          obtain ⟨⟨y0, y1, y2⟩, ⟨y3, y4⟩, ⟨y5, y6, y7, y8, y9, y10⟩⟩ := hF9.cells
          have h1 : -9223372036854775808 ≤ H2 := by have := rightB_true cR; omega
          have h2 : H2 ≤ 9223372036854775807 := by have := rightB_true cR; omega
          have i1 := hI.e
          have i0 := hI.right.1
          have g1 : wrap64 (E + 1) = E + 1 := by unfold wrap64; omega
          have g2 : IntKind.i64.wrap (E + 1) = E + 1 := by rw [IntKind.wrap_i64]; omega
          have n1 : decide (E2 < E) = false := decide_eq_false (by omega)
          have n2 : decide (E + 1 < E2) = false := decide_eq_false (by omega)
          have HR := Lib.hid cR
          clear i1 i0 hI cR cE1 cE2
          go_wp2_with fail
          refine (right_is true E2 H2 U2 _ h1 h2 HR.out).mono ?_
          rintro e w10 ⟨rfl, hb10⟩
          have hF10 := hF9.step hb10
          have kG10 := blk_keep hb10 kG9
          clear hF9 kG9 hb10 y0 y1 y2 y3 y4 y5 y6 y7 y8 y9 y10 g1 g2 n1 n2
          go_upto_if 146 with fail
          go_cut [11, 17] from 37 to 203 (fun so _s17 wx => ∃ (vo : Value) (a3 au3 b3 bu3 : Int) (L3 : List Int), vo = so ∧ FInv (k + 1) E2 H2 U2 nw2 a3 au3 b3 bu3 L3 ∧ FAt w wx B 23 2 46 3 s0 s1 E2 H2 U2 a3 au3 b3 bu3 vo L3)
          case first =>
            rcases cW with ⟨her, hI2⟩ | ⟨rfl, rfl, rfl, hE0, hT, cW⟩
            · have er0 : (er == 0) = false := by simpa using her
              go_wp2_with fail
              go_meet
              exact ⟨_, a2, au2, b2, bu2, L, rfl, hI2, hF10⟩
            · have HT := Lib.hid hT
              clear hT
              go_upto_block 3 with fail
              go_cut [11] (fun so wx => ∃ (vo : Value) (L3 : List Int), vo = so ∧ L3[ge.toNat - 1]? = some 1 ∧ FInv (k + 1) ge H2 U2 nw2 a2 au2 ge gu L3 ∧ FAt w wx B 23 2 46 3 s0 s1 ge H2 U2 a2 au2 b2 bu2 vo L3 ∧ wx.heap[g]? = some (.cells #[.int .i64 ge, .int .i64 gu] 25))
              case first =>
                as_aux_lemma =>
                  rcases cW with ⟨hE, hI2⟩ | ⟨hE, hl3, hI2⟩
                  · have hlen : (L.length : Int) = E := by have := hI2.len; simp at this; omega
                    have hl3 : (L ++ [(1 : Int)])[ge.toNat - 1]? = some 1 := by
                      have : ge.toNat - 1 = L.length := by omega
                      rw [this, List.getElem?_append_right (Nat.le_refl _), Nat.sub_self]; rfl
                    have hL300 : L.length ≤ 300 := by have := hI2.e; omega
                    have HE := Lib.hid hE
                    have HLN := Lib.hid hlen
                    clear hE hlen
                    go_wp2_with fail
                    go_loopg [11] 1 (fun m s wr => ∃ L3 : List Int, ((m = 1 ∧ L3 = L ∧ s.ownBlock ≠ some g) ∨ (m = 0 ∧ L3 = L ++ [1])) ∧ FAt w wr B 23 2 46 3 s0 s1 ge H2 U2 a2 au2 b2 bu2 s L3 ∧ wr.heap[g]? = some (.cells #[.int .i64 ge, .int .i64 gu] 25))
                    case atStart => exact ⟨L, .inl ⟨rfl, rfl, hgo⟩, hF10, kG10⟩
                    case round =>
                      obtain ⟨L3, hL, hF, kG⟩ := hrel
                      rcases hL with ⟨rfl, rfl, hgs⟩ | ⟨rfl, rfl⟩
                      · obtain ⟨ad, oc, rfl⟩ := hF.len
                        have v0 := blk_cell kG 0 _ rfl
                        have hB3 : B + 3 ≤ wr.heap.size := by have := blk_lt hF.ten; omega
                        have HOW := Lib.hid (own_below (below1 wr (Obj.cells #[Value.int IntKind.i64 1] 3)) hF.own)
                        have HGS := Lib.hid hgs
                        obtain ⟨nL, hnL⟩ : ∃ nL, L3.length = nL := ⟨_, rfl⟩
                        have HFh := Lib.hid hF
                        rw [hnL] at HOW HGS HFh ⊢
                        have d9 : decide ((nL : Int) < ge) = true := decide_eq_true (by have := HE.out; have := HLN.out; omega)
                        have HNL := Lib.hid hnL
                        obtain ⟨i0, hi, hz0, hz1, hz2⟩ := info_parts info_int
                        have hn300 : nL ≤ 300 := by omega
                        clear hF10 kG10 hl3 hF hgs hnL
                        go_wp2_with (at_builtin; refine wpList_append_src rfl _ _ 48 rfl (B + 3) 3 i0 (.int .i64 0) 1 8 Try.underlying48 hi hz0 hz1 hz2 rfl (by decide) _ nL (intVals L3) rfl HOW.out (some ⟨wr.heap.size, 0, none⟩) 1 1 [.int .i64 1] rfl rfl (srcAt_one wr _ _ rfl) (by unfold maxLen; omega) (by omega) (by simp; omega) ?_; intro v4 W4 hown4 hg4)
                        have hF4 := (HFh.out.step (below1 wr (Obj.cells #[Value.int IntKind.i64 1] 3))).grow hg4 (by rw [HNL.out]; exact hown4)
                        have kG4 : W4.heap[g]? = some (.cells #[.int .i64 ge, .int .i64 gu] 25) := (hg4.block g (blk_lt (blk_keep (below1 _ _) kG)) (fun h => HGS.out h.symm)).trans (blk_keep (below1 _ _) kG)
                        go_roundg 0
                        case rel => exact ⟨L3 ++ [1], .inr ⟨rfl, rfl⟩, hF4, kG4⟩
                        case measure => omega
                      · obtain ⟨ad, oc, rfl⟩ := hF.len
                        have v0 := blk_cell kG 0 _ rfl
                        have d9 : decide (((L ++ [(1 : Int)]).length : Int) < ge) = false := decide_eq_false (by have := HE.out; have := HLN.out; simp; omega)
                        obtain ⟨nL, hnL⟩ : ∃ nL, (L ++ [(1 : Int)]).length = nL := ⟨_, rfl⟩
                        have hFn := hF
                        rw [hnL] at d9 hFn ⊢
                        clear hF10 kG10
                        go_wp2_with fail
                        go_meet
                        exact ⟨_, L ++ [1], rfl, hl3, hI2, hFn, kG⟩
                  · have HE := Lib.hid hE
                    have HLN := Lib.hid (hI2.len.trans hE)
                    clear hE
                    go_wp2_with fail
                    go_loopg [11] 0 (fun _ s wr => FAt w wr B 23 2 46 3 s0 s1 ge H2 U2 a2 au2 b2 bu2 s L ∧ wr.heap[g]? = some (.cells #[.int .i64 ge, .int .i64 gu] 25))
                    case atStart => exact ⟨hF10, kG10⟩
                    case round =>
                      obtain ⟨hF, kG⟩ := hrel
                      obtain ⟨ad, oc, rfl⟩ := hF.len
                      have v0 := blk_cell kG 0 _ rfl
                      have d9 : decide ((L.length : Int) < ge) = false := decide_eq_false (by have := HE.out; have := HLN.out; omega)
                      obtain ⟨nL, hnL⟩ : ∃ nL, L.length = nL := ⟨_, rfl⟩
                      have hFn := hF
                      rw [hnL] at d9 hFn ⊢
                      clear hF10 kG10
                      go_wp2_with fail
                      go_meet
                      exact ⟨_, L, rfl, HE.out ▸ hl3, hI2, hFn, kG⟩
              case rest =>
                obtain ⟨vo, L3, rfl, hL3, hI3, hF, kG⟩ := hcut
                have HI3 := Lib.hid hI3
                have HL3 := Lib.hid hL3
                clear hI3 hL3 hF10 kG10 cW
                obtain ⟨WT, hFT, kGT, hWT⟩ := hF.named kG
                rw [← hWT]
                clear hF kG hWT
                go_upto_region 33 with fail
                go_cut [20, 21, 156] (fun s20 s21 _s156 wx => ∃ N : Nat, s20 = .pointer (some ⟨N, 0, none⟩) ∧ s21 = .int .i64 0 ∧ FAt w wx B 23 2 46 3 s0 s1 ge H2 U2 a2 au2 b2 bu2 vo L3 ∧ wx.heap[g]? = some (.cells #[.int .i64 ge, .int .i64 gu] 25) ∧ wx.heap[N]? = some (.cells #[.int .i64 1, .int .i64 ge, .int .i64 gu] 46) ∧ B + 1 + 1 < N ∧ g ≠ N ∧ vo.ownBlock ≠ some N)
                case first =>
                  as_aux_lemma =>
                    have hgN : Hid (vo.ownBlock ≠ some WT.heap.size) := Lib.hid (fun h => by have := (hFT.own.lt _ h).2; omega)
                    have lN : B + 1 + 1 < WT.heap.size := blk_lt hFT.ten
                    have lG : g < WT.heap.size := blk_lt kGT
                    have kNd : (WT.alloc (Obj.cells #[Value.int IntKind.i64 0, Value.int IntKind.i64 0, Value.int IntKind.i64 0] 46)).drew.heap[WT.heap.size]? = _ := heap_new' WT (Obj.cells #[Value.int IntKind.i64 0, Value.int IntKind.i64 0, Value.int IntKind.i64 0] 46)
                    have bNd : Below WT.heap.size WT (WT.alloc (Obj.cells #[Value.int IntKind.i64 0, Value.int IntKind.i64 0, Value.int IntKind.i64 0] 46)).drew := (below1 WT (Obj.cells #[Value.int IntKind.i64 0, Value.int IntKind.i64 0, Value.int IntKind.i64 0] 46)).drew
                    have bD : Below WT.heap.size WT WT.drew := (Below.refl _ WT).drew
                    have HS : Hid (∀ w', Below WT.heap.size WT w' → (w'.cell? ⟨B + 1 + 1, 3, none⟩ = some (.int .i64 1) ∧ w'.cell? ⟨B + 1 + 1, 4, none⟩ = some (.int .i64 b2) ∧ w'.cell? ⟨B + 1 + 1, 5, none⟩ = some (.int .i64 bu2) ∧ w'.cell? ⟨g, 0, none⟩ = some (.int .i64 ge) ∧ w'.cell? ⟨g, 1, none⟩ = some (.int .i64 gu))) := Lib.hid (fun w' hw' => by
                      obtain ⟨⟨y0, y1, y2⟩, _, ⟨y5, y6, y7, y8, y9, y10⟩⟩ := (hFT.step hw').cells
                      have q0 := blk_cell (blk_keep hw' kGT) 0 _ rfl
                      have q1 := blk_cell (blk_keep hw' kGT) 1 _ rfl
                      exact ⟨y8, y9, y10, q0, q1⟩)
                    have HF := Lib.hid hFT
                    have HG := Lib.hid kGT
                    clear hFT kGT
                    go_region_held3 (fun w' => w'.cell? ⟨B + 1 + 1, 3, none⟩ = some (.int .i64 1) ∧ w'.cell? ⟨B + 1 + 1, 4, none⟩ = some (.int .i64 b2) ∧ w'.cell? ⟨B + 1 + 1, 5, none⟩ = some (.int .i64 bu2) ∧ w'.cell? ⟨g, 0, none⟩ = some (.int .i64 ge) ∧ w'.cell? ⟨g, 1, none⟩ = some (.int .i64 gu))
                      (exact HS.out _ (by first | assumption | (repeat first | assumption | with_reducible refine Below.drew ?_ | ((with_reducible refine Below.setCell ?_ ?_ _); rotate_left; (dsimp only; omega)) | ((with_reducible refine Below.alloc ?_ ?_ _); rotate_left; omega))))
                      (first
                        | (go_at_call 19; (with_reducible refine (take_is ge gu 0 1 b2 bu2 ge gu _ HT.out).mono ?_); rintro e w9 ⟨rfl, hb9⟩; (first | (have kN9 := blk_keep hb9 kNd; have hB9 := below_on bNd hb9; have f2 := blk_free kN9; have m0 := blk_cell kN9 0 _ rfl; have m1 := blk_cell kN9 1 _ rfl; have m2 := blk_cell kN9 2 _ rfl) | (have hB9 := below_on bD hb9)); have sB9 := hB9.size))
                    all_goals
                      have hF9 := HF.out.step hB9
                      have kG9 := blk_keep hB9 HG.out
                      go_wp2_with fail
                      go_meet
                      first
                        | (have kN9' := kN9; exact ⟨WT.heap.size, rfl, rfl, hF9.other (only_set3 _ _ _ _ _) hgN.out lN, (only_set3 _ _ _ _ _).keep (by omega) kG9, blk_set (blk_set (blk_set kN9' 0 _) 1 _) 2 _, lN, by omega, hgN.out⟩)
                        | exact ⟨w9.heap.size, rfl, rfl, hF9.step (below1 _ _), blk_keep (below1 _ _) kG9, heap_new' _ _, blk_lt hF9.ten, by have := blk_lt kG9; omega, fun h => by have := (hF9.own.lt _ h).2; omega⟩
                case rest =>
                  as_aux_lemma =>
                    obtain ⟨N, rfl, rfl, hF9, kG9, kN9, lN, gN, oN⟩ := hcut
                    obtain ⟨of, ocap, rfl, vrow⟩ := hF9.row HL3.out
                    obtain ⟨nL, hnL⟩ : ∃ nL, L3.length = nL := ⟨_, rfl⟩
                    obtain ⟨e0, he0⟩ : ∃ e0, ge.toNat - 1 = e0 := ⟨_, rfl⟩
                    have hlen := HI3.out.len
                    have hge := HI3.out.e
                    rw [he0] at vrow
                    have w1 : wrap64 (ge - 1) = (e0 : Int) := by unfold wrap64; omega
                    have w1' : IntKind.i64.wrap (ge - 1) = (e0 : Int) := by rw [IntKind.wrap_i64]; omega
                    have w2 : (0 : Int) ≤ e0 := by omega
                    have w3 : (e0 : Int) < nL := by omega
                    have w4 : (e0 : Int).toNat = e0 := by omega
                    have v0 := blk_cell kG9 0 _ rfl
                    have m0 := blk_cell kN9 0 _ rfl
                    have m1 := blk_cell kN9 1 _ rfl
                    have m2 := blk_cell kN9 2 _ rfl
                    have f1 := blk_free hF9.ten
                    obtain ⟨_, _, ⟨x5, x6, x7, x8, x9, x10⟩⟩ := hF9.cells
                    have hFt := hF9.ten1 (x := ge) (y := gu)
                    rw [hnL] at hFt ⊢
                    clear hF9 kG9 kN9 hnL he0 hlen hge
                    go_wp2_with fail
                    go_meet
                    exact ⟨_, a2, au2, ge, gu, L3, rfl, HI3.out, hFt⟩
          case rest =>
            as_aux_lemma =>
              obtain ⟨vo, a3, au3, b3, bu3, L3, rfl, hI3, hF⟩ := hcut
              clear hF10 kG10 cW HR
              obtain ⟨F1, hF1⟩ : ∃ F, holdsB a3 au3 (nw2 - s0) = F := ⟨_, rfl⟩
              obtain ⟨F2, hF2⟩ : ∃ F, holdsB b3 bu3 (nw2 - s1) = F := ⟨_, rfl⟩
              have hFF : F1 = true → F2 = false := fun h => hF2.symm.trans (hI3.both s01 s02 s11 s12 (hF1.trans h))
              have i1 := hI3.n1
              have i2 := hI3.n2
              have j1 := hI3.a3
              have j2 := hI3.a4
              have j3 := hI3.b3
              have j4 := hI3.b4
              have g0 : wrap64 (nw2 - s0) = nw2 - s0 := by unfold wrap64; omega
              have g0' : IntKind.i64.wrap (nw2 - s0) = nw2 - s0 := by rw [IntKind.wrap_i64]; omega
              have g1 : wrap64 (nw2 - s1) = nw2 - s1 := by unfold wrap64; omega
              have g1' : IntKind.i64.wrap (nw2 - s1) = nw2 - s1 := by rw [IntKind.wrap_i64]; omega
              obtain ⟨WZ, hFZ, hWZ⟩ := hF.named1
              rw [← hWZ]
              have HC0 : ∀ w', Below WZ.heap.size WZ w' → Calls Try.prog 18 #[.agg #[.int .i64 0, .int .i64 a3, .int .i64 au3], .int .i64 (nw2 - s0)] w' fun e w'' => e = .returned (.bool F1) ∧ Below WZ.heap.size WZ w'' :=
                fun w' hw' => (holds_is F1 0 a3 au3 (nw2 - s0) w' hF1 (by omega) (by omega)).mono (fun e w9 ⟨h1, h2⟩ => ⟨h1, below_on hw' h2⟩)
              have HC1 : ∀ w', Below WZ.heap.size WZ w' → Calls Try.prog 18 #[.agg #[.int .i64 1, .int .i64 b3, .int .i64 bu3], .int .i64 (nw2 - s1)] w' fun e w'' => e = .returned (.bool F2) ∧ Below WZ.heap.size WZ w'' :=
                fun w' hw' => (holds_is F2 1 b3 bu3 (nw2 - s1) w' hF2 (by omega) (by omega)).mono (fun e w9 ⟨h1, h2⟩ => ⟨h1, below_on hw' h2⟩)
              have HI3 := Lib.hid hI3
              have e1 : wrap64 ((k : Int) + 1) = (k : Int) + 1 := by unfold wrap64; omega
              clear hI3 hF hWZ hF1 hF2 i1 i2 j1 j2 j3 j4
              rcases (show F1 = false ∨ (F1 = true ∧ F2 = false) by cases F1 with | false => exact .inl rfl | true => exact .inr ⟨rfl, hFF rfl⟩) with rfl | ⟨rfl, rfl⟩
              all_goals
                clear hFF
                obtain ⟨⟨y0, y1, y2⟩, ⟨y3, y4⟩, ⟨y5, y6, y7, y8, y9, y10⟩⟩ := hFZ.cells
                go_wp2_with fail
                refine wp_region_calm (by kernel_rfl) ?_ ?_
                · kernel_rfl
                repeat first
                 | go_big_quiet_skip
                 | (go_big_quiet_want; go_big_quiet_op; go_big_quiet_on)
                 | (with_reducible apply wpQuiet_step
                    intro K hK
                    go_simp
                    first
                      | (refine hK _ ?_; clear hK K)
                      | (apply Exists.intro
                         refine ⟨fun w' hw' => ?_, hK _ ?_⟩
                         ·
                           (first
                            | with_reducible exact HC0 _ hw'
                            | with_reducible exact HC1 _ hw'
                            | (obtain ⟨⟨y0, y1, y2⟩, ⟨y3, y4⟩, ⟨y5, y6, y7, y8, y9, y10⟩⟩ := (hFZ.step hw').cells
                               go_simp
                               first | done | with_reducible exact rfl | with_reducible exact ⟨rfl, rfl⟩ | with_reducible exact HC0 _ hw' | with_reducible exact HC1 _ hw'))
                         clear hK K))
                refine wpQuiet_nil ?_
                intro w7 hw7
                have hF7 := hFZ.step hw7
                clear g0 g0' g1 g1' y0 y1 y2 y3 y4 y5 y6 y7 y8 y9 y10 hw7 hFZ HC0 HC1 z18 z28 kG hF8 hgo hp2 HO hgB h1 h2 hlx
                go_upto_if 203 with fail
                go_wp2_with fail
                go_roundg (n - (k + 1))
                case rel => exact ⟨k + 1, E2, H2, U2, nw2, a3, au3, b3, bu3, L3, by omega, by go_num, rfl, HI3.out, hF7⟩
                case measure => omega
    · obtain rfl : k = n := by omega
      have hb := hF.below
      clear hF hI
      go_wp2_with fail
      refine (works_any _).mono ?_
      rintro e w3 ⟨rfl, hb3⟩
      go_wp2_with fail
      go_ret
      exact ⟨rfl, below_on hb hb3⟩
theorem walk_LeaseFences (a0 : Option Addr) (len0 cap0 : Nat) (a1 a2 : Int) (w : World) (w0 : Rd Try.prog w 42 [.slice a0 len0 cap0]) (w1 : (Lit.int .u8 a1).wf = true) (w2 : (Lit.int .u8 a2).wf = true) :
    Calls Try.prog 6 #[.slice a0 len0 cap0, .int .u8 a1, .int .u8 a2] w fun e w' => e = .returned (.bool true) ∧ Below w.heap.size w w' := by
  obtain ⟨a, rfl, ha⟩ := u8_nat w1
  obtain ⟨b, rfl, hb⟩ := u8_nat w2
  obtain ⟨l, h1, h2, h3⟩ := stps_of w0
  exact fences_any a0 len0 cap0 l a b w ha hb h1 h2 h3
end Go.Proofs.Ytlcbliojggjjfaa
