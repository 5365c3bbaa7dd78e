/-
  SwitchoverFences: the steps that come in; the walk.
-/
import Derived.Test.YtoedipajcmmhjaaSwH
import Derived.Test.YtoedipajcmmhjaaSwJ
import Derived.Test.YtoedipajcmmhjaaSwF
import Derived.Test.YtoedipajcmmhjaaSwG
import Derived.Deep.DeepCutAuto
import Derived.Deep.CutBlock
import Derived.Deep.LoopGhost
import Derived.Deep.RegionWith
import Derived.Deep.RegionHeld3
namespace Go.Proofs.Ytoedipajcmmhjaa
open Go.RowKit
attribute [local irreducible] inB inL rightB okB ofR askR renewR giveR askedR holdsB takeR tm tickR grantR refR beatR holdR gotS

/-- a step: its kind, its pair, its number -/
structure Stp where
  k : Nat
  p : Nat
def StpsAt (w : World) (a : Option Addr) (l : List Stp) : Prop := (∀ c ∈ l, c.k < 256 ∧ c.p < 256) ∧ (l = [] ∨ ∃ b off, a = some ⟨b, off, none⟩ ∧ ∀ i c, l[i]? = some c → w.cell? ⟨b, off + i * 2, none⟩ = some (.int .u8 (c.k : Int)) ∧ w.cell? ⟨b, off + i * 2 + 1, none⟩ = some (.int .u8 (c.p : Int)))
theorem StpsAt.below {w w' : World} {a : Option Addr} {l : List Stp} (hb : Below w.heap.size w w') (h : StpsAt w a l) : StpsAt w' a l := by
  refine ⟨h.1, h.2.imp id ?_⟩
  rintro ⟨b, off, rfl, hc⟩
  refine ⟨b, off, rfl, fun i c hi => ?_⟩
  obtain ⟨h0, h1⟩ := hc i c hi
  exact ⟨cell_later hb h0, cell_later hb h1⟩
theorem u8_nat {a : Int} (h : (Lit.int .u8 a).wf = true) : ∃ n : Nat, a = n ∧ n < 256 := by have := bounds_u8 h; exact ⟨a.toNat, by omega, by omega⟩
theorem stp_of {w : World} {cs : List Value} (h : Rd Try.prog w 34 cs) : ∃ c : Stp, cs = [.int .u8 (c.k : Int), .int .u8 (c.p : Int)] ∧ c.k < 256 ∧ c.p < 256 := by
  obtain ⟨hl, hf⟩ := h.fields (L := [(5, 0), (5, 1)]) (by kernel_rfl) (by kernel_rfl)
  rw [show Try.prog.cellsOf 34 = 2 by kernel_rfl] at hl
  match cs, hl with
  | [x, y], _ =>
    have h0 := hf (5, 0) (by simp)
    have h1 := hf (5, 1) (by simp)
    simp only [show Try.prog.cellsOf 5 = 1 by kernel_rfl] at h0 h1
    obtain ⟨a, ha, wa⟩ := h0.int Try.underlying5
    obtain ⟨b, hb, wb⟩ := h1.int Try.underlying5
    simp at ha hb
    obtain ⟨a, rfl, g0⟩ := u8_nat wa
    obtain ⟨b, rfl, g1⟩ := u8_nat wb
    exact ⟨⟨a, b⟩, by rw [ha, hb], g0, g1⟩
theorem stps_of {w : World} {a : Option Addr} {len cap : Nat} (h : Rd Try.prog w 22 [.slice a len cap]) : ∃ l : List Stp, l.length = len ∧ len ≤ maxLen ∧ StpsAt w a l := by
  rcases h.slice Try.underlying22 with h | ⟨x, n, c, h, hlc, hcm, hel⟩
  · simp only [List.cons.injEq, Value.slice.injEq, and_true] at h
    obtain ⟨rfl, rfl, rfl⟩ := h
    exact ⟨[], rfl, Nat.zero_le _, (by intro c hc; simp at hc), .inl rfl⟩
  · simp only [List.cons.injEq, Value.slice.injEq, and_true] at h
    obtain ⟨rfl, rfl, rfl⟩ := h
    have hsz : Try.prog.cellsOf 34 = 2 := by kernel_rfl
    have H : ∀ i, i < len → ∃ c : Stp, (c.k < 256 ∧ c.p < 256) ∧ w.cell? ((x.add (i * 2)).add 0) = some (.int .u8 (c.k : Int)) ∧ w.cell? ((x.add (i * 2)).add 1) = some (.int .u8 (c.p : Int)) := by
      intro i hi
      obtain ⟨ecs, he, hr⟩ := hel i (by omega)
      rw [hsz] at he
      obtain ⟨c, rfl, hcl⟩ := stp_of hr
      obtain ⟨_, hg⟩ := cells_get he
      obtain ⟨v0, g0, c0⟩ := hg 0 (by omega)
      obtain ⟨v1, g1, c1⟩ := hg 1 (by omega)
      simp at g0 g1
      subst g0 g1
      exact ⟨c, hcl, c0, c1⟩
    obtain ⟨l, hl, hq⟩ := list_of len H
    refine ⟨l, hl, Nat.le_trans hlc hcm, fun c hc => ?_, ?_⟩
    · obtain ⟨i, hi⟩ := List.getElem?_of_mem hc
      exact (hq i c hi).1
    · rcases l with _ | ⟨c0, l⟩
      · exact .inl rfl
      · right
        have h0 := (hq 0 c0 rfl).2.1
        have hs : x.spot = none := World.cell?_spot (show w.cell? x = some _ by simpa [Addr.add] using h0)
        obtain ⟨b, off, spot⟩ := x
        subst hs
        refine ⟨b, off, rfl, fun i c hi => ?_⟩
        have := (hq i c hi).2
        simpa only [Addr.add_lit, Nat.add_zero] using this
theorem StpsAt.on {w : World} {xb off : Nat} {l : List Stp} (h : StpsAt w (some ⟨xb, off, none⟩) l) {k : Nat} {cc : Stp} (hc : l[k]? = some cc) : ∀ w', Below w.heap.size w w' → w'.cell? ⟨xb, off + k * 2, none⟩ = some (.int .u8 (cc.k : Int)) ∧ w'.cell? ⟨xb, off + k * 2 + 1, none⟩ = some (.int .u8 (cc.p : Int)) := by
  rcases h.2 with h | ⟨b, o, e, hq⟩
  · rw [h] at hc; simp at hc
  · cases e
    intro w' hw'
    exact ⟨cell_later hw' (hq k cc hc).1, cell_later hw' (hq k cc hc).2⟩
theorem asks_gen {k : Nat} {p q E H U now : Int} {s o so : Sw} {ls lo : Int} (wt : Int) (g : Nat) (w : World) (b : BkI k E H U now) (hk : k < 400) (hp : SdI p E H U now s ls) (hq : SdI q E H U now o lo) (hp01 : p = 0 ∨ p = 1) (hpq : q = 1 - p) (hac : s.ac = true → so.ac = true ∨ wt = 1) (hre : wt = 2 → s.ac = true ∧ so.ac = true) (hs : SwAt w g s) :
    Calls Try.prog 10 #[.agg #[.int .i64 E, .int .i64 H, .int .i64 U], .pointer (some ⟨g, 0, none⟩), .int .i64 p, .int .u8 wt, .int .i64 now] w
      fun x w' => ∃ (e h u : Int) (s2 : Sw), x = .returned (.agg #[.int .i64 e, .int .i64 h, .int .i64 u]) ∧ SwAt w' g s2 ∧ Only g w w' ∧ Hid (BkI (k + 1) e h u now ∧ SdI p e h u now s2 ls ∧ SdI q e h u now o lo ∧ (so.ac = false → s2.ac = true → ls < s2.ge)) := by
  have hH1 : -9223372036854775808 ≤ H := by have := b.right; omega
  have hH2 : H ≤ 9223372036854775807 := by have := b.right; omega
  by_cases h1 : wt = 1
  · subst h1
    obtain ⟨e, h, u, ge, gu, er, hR⟩ : ∃ e h u ge gu er : Int, askR E H U p now = ⟨e, h, u, ge, gu, er⟩ := ⟨_, _, _, _, _, _, rfl⟩
    obtain ⟨r1, r2, r3, r4⟩ := ask_all b hk hp hq hp01 hpq hR
    refine (asks_ask s g E H U p now e h u ge gu er w hH1 hH2 hR hs).mono ?_
    rintro x w' ⟨rfl, hy, hn, ho⟩
    exact ⟨e, h, u, _, rfl, sw_got hy hn, ho, Lib.hid ⟨r1, r2, r3, fun _ y => r4 y⟩⟩
  by_cases h2 : wt = 2
  · have h3 := hre h2
    subst h2
    obtain ⟨e, h, u, ge, gu, er, hR⟩ : ∃ e h u ge gu er : Int, renewR E H U p s.ge now = ⟨e, h, u, ge, gu, er⟩ := ⟨_, _, _, _, _, _, rfl⟩
    obtain ⟨r1, r2, r3⟩ := renew_all b hk hp hq hp01 (by omega) h3.1 hR
    refine (asks_renew s g E H U p now e h u ge gu er w hH1 hH2 hR hs).mono ?_
    rintro x w' ⟨rfl, hy, hn, ho⟩
    exact ⟨e, h, u, _, rfl, sw_got hy hn, ho, Lib.hid ⟨r1, r2, r3, fun y => by rw [h3.2] at y; exact absurd y (by decide)⟩⟩
  · refine (asks_none g E H U p wt now w h1 h2).mono ?_
    rintro x w' ⟨rfl, hb⟩
    refine ⟨E, H, U, s, rfl, hs.below hb, Only.of_below hb, Lib.hid ⟨b.next, hp, hq, fun x y => ?_⟩⟩
    rcases hac y with z | z
    · rw [z] at x; exact absurd x (by decide)
    · exact absurd z h1

set_option maxRecDepth 100000 in
set_option maxHeartbeats 200000000 in
theorem fences_any (x : Option Addr) (n cap : Nat) (l : List Stp) (q0 q1 : Nat) (w : World) (hq0 : q0 < 256) (hq1 : q1 < 256) (hn : l.length = n) (hm : n ≤ maxLen) (hl : StpsAt w x l) :
    Calls Try.prog 3 #[.slice x n cap, .int .u8 (q0 : Int), .int .u8 (q1 : Int)] w fun e w' => e = .returned (.bool true) ∧ Below w.heap.size w w' := by
  have HN := Lib.hid hn
  have hm' : (n : Int) ≤ 9223372036854775807 := by unfold maxLen at hm; omega
  clear hn hm
  by_cases h400 : 400 < n
  · go_enter Try.func3, Try.ntmps3
    go_wp2_with fail
    refine (works_any _).mono ?_
    rintro e w3 ⟨rfl, hb3⟩
    go_wp2_with fail
    go_ret
    exact ⟨rfl, hb3⟩
  obtain ⟨s0, hs0, s01, s02⟩ : ∃ s0 : Int, (q0 : Int) % 3 = s0 ∧ 0 ≤ s0 ∧ s0 ≤ 2 := ⟨_, rfl, by omega, by omega⟩
  obtain ⟨s1, hs1, s11, s12⟩ : ∃ s1 : Int, (q1 : Int) % 3 = s1 ∧ 0 ≤ s1 ∧ s1 ≤ 2 := ⟨_, rfl, by omega, by omega⟩
  go_enter Try.func3, Try.ntmps3
  go_wp2_with fail
  refine (new_one 0 _ (.inl rfl)).mono ?_
  rintro e w1 ⟨rfl, ha1, hb1⟩
  go_wp2_with fail
  refine (new_one 1 _ (.inr rfl)).mono ?_
  rintro e w2 ⟨rfl, ha2, hb2⟩
  go_wp2_with fail
  refine (new_any _).mono ?_
  rintro e w3 ⟨rfl, hb3⟩
  go_wp2_with fail
  obtain ⟨W, hW⟩ : ∃ W, W = (w3.alloc (Obj.cells #[Value.int IntKind.i64 0, Value.int IntKind.i64 (-1), Value.int IntKind.i64 0] 31)).alloc (Obj.cells #[Value.int IntKind.i64 0, Value.int IntKind.i64 0] 2) := ⟨_, rfl⟩
  have F0 := sw_start hb1 ha1 hb2 ha2 hb3 hW
  rw [← hW]
  clear hW hb1 ha1 hb2 ha2 hb3
  obtain ⟨SL, hSL⟩ : ∃ SL, SL = w.heap.size := ⟨_, rfl⟩
  obtain ⟨ga, hga⟩ : ∃ ga, ga = w.heap.size + 1 := ⟨_, rfl⟩
  obtain ⟨gb, hgb⟩ : ∃ gb, gb = w1.heap.size := ⟨_, rfl⟩
  obtain ⟨SS, hSS⟩ : ∃ SS, SS = w2.heap.size := ⟨_, rfl⟩
  obtain ⟨LF, hLF⟩ : ∃ LF, LF = w3.heap.size + 1 := ⟨_, rfl⟩
  obtain ⟨BK, hBK⟩ : ∃ BK, BK = w3.heap.size := ⟨_, rfl⟩
  rw [← hga, ← hgb, ← hSS, ← hLF, ← hBK, ← hSL] at F0
  rw [← hga, ← hgb, ← hSS, ← hLF, ← hBK, ← hSL]
  clear hSL hga hgb hSS hLF hBK hs0 hs1 hq0 hq1
  have n400 : n ≤ 400 := by omega
  clear h400 hm'
  go_loopg [14, 16] n (fun m nw i wr => ∃ (k : Nat) (E H U now l0 l1 : Int) (sa sb : Sw), k + m = n ∧ i = .int .i64 k ∧ nw = .int .i64 now ∧ BkI k E H U now ∧ SdI 0 E H U now sa l0 ∧ SdI 1 E H U now sb l1 ∧ SwW w wr SL ga gb SS BK LF s0 s1 E H U l0 l1 sa sb)
  case atStart => exact ⟨0, 0, -1, 0, 10, 0, 0, _, _, by omega, rfl, rfl, BkI.new, SdI.new 0 0, SdI.new 1 1, F0⟩
  case round =>
    obtain ⟨k, E, H, U, now, l0, l1, sa, sb, hk, rfl, rfl, hI, hA, hB, hF⟩ := hrel
    clear F0
    by_cases hlt : k < n
    · obtain ⟨hcl, hwhere⟩ := hl.below hF.below
      rcases hwhere with hnil | ⟨xb, off, rfl, hcells⟩
      · rw [hnil] at HN; exact absurd HN.out (by simp; omega)
      obtain ⟨cc, hc⟩ : ∃ cc, l[k]? = some cc := ⟨_, List.getElem?_eq_getElem (by rw [HN.out]; exact hlt)⟩
      obtain ⟨z0, z1⟩ := hcells k cc hc
      obtain ⟨c1, c2⟩ := hcl cc (List.mem_of_getElem? hc)
      have HZ := Lib.hid (hl.on hc)
      have d1 : (0 : Int) ≤ k := by omega
      have d2 : (k : Int) < n := by omega
      have k400 : k < 400 := by omega
      have hlx := hl
      obtain ⟨ck, cp⟩ := cc
      dsimp only at z0 z1 c1 c2 HZ
      clear hcells hc hcl hl
      rcases (show cp % 2 = 0 ∨ cp % 2 = 1 by omega) with hp | hp
      · have hp2 : (cp : Int) % 2 = 0 := by omega
        clear hp
        obtain ⟨⟨y0, y1⟩, ⟨t0, t1⟩, ⟨b0, b1, b2⟩, ⟨e0, e1⟩⟩ := hF.cells
        have HF := Lib.hid hF
        clear hF
        go_wp2_with fail
        refine (role_is sa ga _ HF.out.a).mono ?_
        rintro e w5 ⟨rfl, rfl⟩
        obtain ⟨s', r, hT⟩ : ∃ s' r, tickR sa (now - s0) = (s', r) := ⟨_, _, rfl⟩
        have HT := Lib.hid hT
        clear hT
        go_upto_block 2 with fail
        go_cut [14, 19, 74] (fun s14 _s19 _s74 wx => ∃ (E2 H2 U2 now2 : Int) (sa2 sb2 : Sw), s14 = .int .i64 now2 ∧ BkI (k + 1) E2 H2 U2 now2 ∧ SdI 0 E2 H2 U2 now2 sa2 l0 ∧ SdI 1 E2 H2 U2 now2 sb2 l1 ∧ SwW w wx SL ga gb SS BK LF s0 s1 E2 H2 U2 l0 l1 sa2 sb2 ∧ Hid (sa.ac = false → sa2.ac = true → l0 < sa2.ge))
        case first =>
          rcases (show ck % 6 = 0 ∨ ck % 6 = 1 ∨ ck % 6 = 2 ∨ ck % 6 = 3 ∨ ck % 6 = 4 ∨ ck % 6 = 5 by omega) with hk6 | hk6 | hk6 | hk6 | hk6 | hk6
          · skip
            as_aux_lemma =>
              have hm : (ck : Int) % 6 = 0 := by omega
              clear hk6

              have g1 : wrap64 (now + 1) = now + 1 := by have := hI.n1; have := hI.n2; unfold wrap64; omega
              go_wp2_with fail
              go_meet
              exact ⟨E, H, U, now + 1, sa, sb, by first | rfl | go_num | simp [g1], hI.time, hA.time, hB.time, HF.out, Lib.hid (fun x y => absurd (x.symm.trans y) (by decide))⟩
          · skip
            as_aux_lemma =>
              have hm : (ck : Int) % 6 = 1 := by omega
              clear hk6

              have g1 : wrap64 (now + 1) = now + 1 := by have := hI.n1; have := hI.n2; unfold wrap64; omega
              go_wp2_with fail
              go_meet
              exact ⟨E, H, U, now + 1, sa, sb, by first | rfl | go_num | simp [g1], hI.time, hA.time, hB.time, HF.out, Lib.hid (fun x y => absurd (x.symm.trans y) (by decide))⟩
          · skip
            have hm : (ck : Int) % 6 = 2 := by omega
            clear hk6

            obtain ⟨g1, g2⟩ := sw_slow hI (Nat.le_of_lt k400) s01 s02
            have hT := HT.out
            have HA : Hid (SdI 0 E H U now s' l0) := Lib.hid (by have := hA.tick (now - s0); rw [hT] at this; exact this)
            have HAC : Hid (s'.ac = true → sa.ac = true) := Lib.hid (by have := tick_ac sa (now - s0); rw [hT] at this; exact this)
            have HRE : Hid (r = 2 → sa.ac = true ∧ s' = sa) := Lib.hid (by have := tick_renew sa (now - s0); rw [hT] at this; exact this)
            have HOK := Lib.hid (hA.ok hI (Nat.le_of_lt k400))
            have HFd := Lib.hid (HF.out.step (Below.refl _ wr).drew)
            clear hT
            go_upto_region 24 with fail
            go_region_held3 (fun w' => w'.cell? ⟨SS, 0, none⟩ = some (.pointer (some ⟨ga, 0, none⟩)) ∧ w'.cell? ⟨SL, 0, none⟩ = some (.int .i64 s0))
              (first | exact ⟨t0, y0⟩ | exact ⟨t90, y90⟩)
              (first
                | (go_at_call 9; (with_reducible refine (tick_to r _ s' ga (now - s0) _ HT.out HOK.out HFd.out.a).mono ?_); rintro e w9 ⟨rfl, hs9, ho9⟩; have hF9 := HFd.out.a_set ho9 hs9; obtain ⟨⟨y90, y91⟩, ⟨t90, t91⟩, ⟨b90, b91, b92⟩, _⟩ := hF9.cells; obtain ⟨z90, z91⟩ := HZ.out _ hF9.below))
            have HF9 := Lib.hid hF9
            clear hF9 ho9 hs9

            have HFe := Lib.hid (HF9.out.step (Below.refl _ w9).drew)
            have HOB := Lib.hid hB
            have HIK := Lib.hid hI
            have HA2 : Hid (r = 2 → s'.ac = true ∧ sa.ac = true) := Lib.hid (fun x => ⟨(HRE.out x).2 ▸ (HRE.out x).1, (HRE.out x).1⟩)

            go_upto_region 26 with fail
            go_region_with (first
              | (go_at_call 10; (with_reducible refine (asks_gen r ga _ HIK.out k400 HA.out HOB.out (.inl rfl) (by decide) (fun x => .inl (HAC.out x)) HA2.out HFe.out.a).mono ?_); rintro x w10 ⟨e, h, u, s2, rfl, hs10, ho10, QQ⟩; have hF10 := HFe.out.a_set ho10 hs10; obtain ⟨_, _, ⟨v0, v1, v2⟩, _⟩ := hF10.cells; have fb := blk_free hF10.book))
            all_goals
              have hFz := hF10.book_set e h u
              have HFz := Lib.hid hFz
              clear hF10 hFz ho10 hs10
              go_wp2_with fail
              go_meet
              exact ⟨e, h, u, now, s2, sb, rfl, QQ.out.1, QQ.out.2.1, QQ.out.2.2.1, HFz.out, Lib.hid QQ.out.2.2.2⟩
          · skip
            as_aux_lemma =>
              have hm : (ck : Int) % 6 = 3 := by omega
              clear hk6

              obtain ⟨g1, g2⟩ := sw_slow hI (Nat.le_of_lt k400) s01 s02
              have hT := HT.out
              have HA : Hid (SdI 0 E H U now s' l0) := Lib.hid (by have := hA.tick (now - s0); rw [hT] at this; exact this)
              have HAC : Hid (s'.ac = true → sa.ac = true) := Lib.hid (by have := tick_ac sa (now - s0); rw [hT] at this; exact this)
              have HRE : Hid (r = 2 → sa.ac = true ∧ s' = sa) := Lib.hid (by have := tick_renew sa (now - s0); rw [hT] at this; exact this)
              have HOK := Lib.hid (hA.ok hI (Nat.le_of_lt k400))
              have HFd := Lib.hid (HF.out.step (Below.refl _ wr).drew)
              clear hT
              go_upto_region 24 with fail
              go_region_held3 (fun w' => w'.cell? ⟨SS, 0, none⟩ = some (.pointer (some ⟨ga, 0, none⟩)) ∧ w'.cell? ⟨SL, 0, none⟩ = some (.int .i64 s0))
                (first | exact ⟨t0, y0⟩ | exact ⟨t90, y90⟩)
                (first
                  | (go_at_call 9; (with_reducible refine (tick_to r _ s' ga (now - s0) _ HT.out HOK.out HFd.out.a).mono ?_); rintro e w9 ⟨rfl, hs9, ho9⟩; have hF9 := HFd.out.a_set ho9 hs9; obtain ⟨⟨y90, y91⟩, ⟨t90, t91⟩, ⟨b90, b91, b92⟩, _⟩ := hF9.cells; obtain ⟨z90, z91⟩ := HZ.out _ hF9.below))
              have HF9 := Lib.hid hF9
              clear hF9 ho9 hs9

              go_wp2_with fail
              go_meet
              exact ⟨E, H, U, now, s', sb, rfl, hI.next, HA.out, hB, HF9.out, Lib.hid (fun x y => absurd (x.symm.trans (HAC.out y)) (by decide))⟩
          · skip
            as_aux_lemma =>
              have hm : (ck : Int) % 6 = 4 := by omega
              clear hk6

              rcases Bool.eq_false_or_eq_true sa.ac with hac | hac
              · have HAC0 := Lib.hid hac
                clear hac
                have HFd := Lib.hid (HF.out.step (Below.refl _ wr).drew)
                go_wp2_with fail
                refine (role_to 1 sa ga _ (by rw [HAC0.out]; rfl) HF.out.a).mono ?_
                rintro e w6 ⟨rfl, rfl⟩
                have g5 : wrap64 1 = 1 := by unfold wrap64; omega
                have g6 : wrap64 0 = 0 := by unfold wrap64; omega
                have g7 : IntKind.i64.wrap 1 = 1 := by decide
                have g8 : IntKind.i64.wrap 0 = 0 := by decide
                go_upto_region 29 with fail
                go_region_held3 (fun w' => w'.cell? ⟨SS, 0, none⟩ = some (.pointer (some ⟨ga, 0, none⟩)) ∧ w'.cell? ⟨SS, 1, none⟩ = some (.pointer (some ⟨gb, 0, none⟩)))
                  (first | exact ⟨t0, t1⟩ | exact ⟨t90, t91⟩)
                  (first
                    | (go_at_call 12; (with_reducible refine (epoch_is sa ga _ HFd.out.a).mono ?_); rintro e w8 ⟨rfl, rfl⟩)
                    | (go_at_call 11; (with_reducible refine (beat_is sb gb sa.ge _ HFd.out.b).mono ?_); rintro e w9 ⟨rfl, hs9, ho9⟩; have hF9 := HFd.out.b_set ho9 hs9; obtain ⟨_, ⟨t90, t91⟩, _, _⟩ := hF9.cells))
                have HF9 := Lib.hid hF9
                clear hF9 ho9 hs9
                go_wp2_with fail
                go_meet
                exact ⟨E, H, U, now, sa, (beatR sb sa.ge).1, rfl, hI.next, hA, hB.beat sa.ge hA.a2, HF9.out, Lib.hid (fun x _ => absurd (x.symm.trans HAC0.out) (by decide))⟩
              · have HAC0 := Lib.hid hac
                clear hac
                go_wp2_with fail
                refine (role_to 0 sa ga _ (by rw [HAC0.out]; rfl) HF.out.a).mono ?_
                rintro e w6 ⟨rfl, rfl⟩
                go_wp2_with fail
                go_meet
                exact ⟨E, H, U, now, sa, sb, rfl, hI.next, hA, hB, HF.out, Lib.hid (fun x y => absurd (x.symm.trans y) (by decide))⟩
          · skip
            have hm : (ck : Int) % 6 = 5 := by omega
            clear hk6

            have HFe := Lib.hid (HF.out.step (Below.refl _ wr).drew)

            go_upto_region 18 with fail
            go_region_with (first
              | (go_at_call 10; (with_reducible refine (asks_gen 1 ga _ (so := sa) hI k400 hA hB (.inl rfl) (by decide) (fun _ => .inr rfl) (fun x => absurd x (by decide)) HFe.out.a).mono ?_); rintro x w10 ⟨e, h, u, s2, rfl, hs10, ho10, QQ⟩; have hF10 := HFe.out.a_set ho10 hs10; obtain ⟨_, _, ⟨v0, v1, v2⟩, _⟩ := hF10.cells; have fb := blk_free hF10.book))
            all_goals
              have hFz := hF10.book_set e h u
              have HFz := Lib.hid hFz
              clear hF10 hFz ho10 hs10
              go_wp2_with fail
              go_meet
              exact ⟨e, h, u, now, s2, sb, rfl, QQ.out.1, QQ.out.2.1, QQ.out.2.2.1, HFz.out, Lib.hid QQ.out.2.2.2⟩
        case rest =>
          obtain ⟨E2, H2, U2, now2, sa2, sb2, rfl, hI2, hA2, hB2, hF2, hL⟩ := hcut
          have k401 : k + 1 ≤ 400 := k400
          obtain ⟨g1, g2⟩ := sw_slow hI2 k401 s01 s02
          obtain ⟨g3, g4⟩ := sw_slow hI2 k401 s11 s12
          have HF2 := Lib.hid hF2
          have oka := Lib.hid (hA2.ok hI2 k401)
          have okb := Lib.hid (hB2.ok hI2 k401)
          clear HF hF2
          go_upto_region 30 with fail
          go_cut [156] (fun s156 wx => s156 = .bool false ∧ SwW w wx SL ga gb SS BK LF s0 s1 E2 H2 U2 l0 l1 sa2 sb2)
          case first =>
            as_aux_lemma =>
              obtain ⟨hv, hhv⟩ : ∃ hv, holdR sa2 (now2 - s0) = hv := ⟨_, rfl⟩
              have k1 : ∀ w', Below wc.heap.size wc w' → Calls Try.prog 13 #[.pointer (some ⟨ga, 0, none⟩), .int .i64 (now2 - s0)] w' fun e w'' => e = .returned (.bool hv) ∧ Below wc.heap.size wc w'' :=
                fun w' hw' => (holds_to hv _ _ _ w' hhv oka.out (HF2.out.a.below hw')).mono (fun e w9 ⟨h1, h2⟩ => ⟨h1, below_on hw' h2⟩)
              cases hv with
              | true =>
                have h2 := two_never hI2 (Nat.le_trans k401 (by decide)) hA2 hB2 (by decide) s01 s02 s11 s12 hhv
                have k2 : ∀ w', Below wc.heap.size wc w' → Calls Try.prog 13 #[.pointer (some ⟨gb, 0, none⟩), .int .i64 (now2 - s1)] w' fun e w'' => e = .returned (.bool false) ∧ Below wc.heap.size wc w'' :=
                  fun w' hw' => (holds_to false _ _ _ w' h2 okb.out (HF2.out.b.below hw')).mono (fun e w9 ⟨h1, h2⟩ => ⟨h1, below_on hw' h2⟩)
                clear hhv h2
                refine wp_region_calm (by kernel_rfl) ?_ ?_
                · kernel_rfl
                repeat first
                 | go_big_quiet_skip
                 | (go_big_quiet_want; go_big_quiet_op; go_big_quiet_on)
                 | (with_reducible apply wpQuiet_step
                    intro K hK
                    go_simp
                    first
                      | (refine hK _ ?_; clear hK K)
                      | (apply Exists.intro
                         refine ⟨fun w' hw' => ?_, hK _ ?_⟩
                         ·
                           (first
                            | with_reducible exact k1 _ hw'
                            | with_reducible exact k2 _ hw'
                            | (have e0 := blk_cell (blk_keep hw' HF2.out.ptrs) 0 _ rfl
                               have e1 := blk_cell (blk_keep hw' HF2.out.ptrs) 1 _ rfl
                               have e2 := blk_cell (blk_keep hw' HF2.out.slow) 0 _ rfl
                               have e3 := blk_cell (blk_keep hw' HF2.out.slow) 1 _ rfl
                               go_simp
                               first | done | with_reducible exact rfl | with_reducible exact ⟨rfl, rfl⟩ | with_reducible exact k1 _ hw' | with_reducible exact k2 _ hw'))
                         clear hK K))
                refine wpQuiet_nil ?_
                intro w7 hw7
                go_wp2_with fail
                go_meet
                exact ⟨rfl, HF2.out.step hw7⟩
              | false =>
                clear hhv
                refine wp_region_calm (by kernel_rfl) ?_ ?_
                · kernel_rfl
                repeat first
                 | go_big_quiet_skip
                 | (go_big_quiet_want; go_big_quiet_op; go_big_quiet_on)
                 | (with_reducible apply wpQuiet_step
                    intro K hK
                    go_simp
                    first
                      | (refine hK _ ?_; clear hK K)
                      | (apply Exists.intro
                         refine ⟨fun w' hw' => ?_, hK _ ?_⟩
                         ·
                           (first
                            | with_reducible exact k1 _ hw'
                            | (have e0 := blk_cell (blk_keep hw' HF2.out.ptrs) 0 _ rfl
                               have e1 := blk_cell (blk_keep hw' HF2.out.ptrs) 1 _ rfl
                               have e2 := blk_cell (blk_keep hw' HF2.out.slow) 0 _ rfl
                               have e3 := blk_cell (blk_keep hw' HF2.out.slow) 1 _ rfl
                               go_simp
                               first | done | with_reducible exact rfl | with_reducible exact ⟨rfl, rfl⟩ | with_reducible exact k1 _ hw'))
                         clear hK K))
                refine wpQuiet_nil ?_
                intro w7 hw7
                go_wp2_with fail
                go_meet
                exact ⟨rfl, HF2.out.step hw7⟩
          case rest =>
            obtain ⟨rfl, hF3⟩ := hcut
            have HF3 := Lib.hid hF3
            clear hF3 HF2
            go_upto_region 32 with fail
            go_cut [18, 178] (fun _s18 s178 wx => s178 = .bool false ∧ SwW w wx SL ga gb SS BK LF s0 s1 E2 H2 U2 l0 l1 sa2 sb2)
            case first =>
              as_aux_lemma =>
                rcases Bool.eq_false_or_eq_true sa.ac with hac | hac
                · rw [show rol sa.ac = 1 by rw [hac]; rfl]
                  clear hac
                  refine wp_region_calm (by kernel_rfl) ?_ ?_
                  · kernel_rfl
                  repeat first
                   | go_big_quiet_skip
                   | (go_big_quiet_want; go_big_quiet_op; go_big_quiet_on)
                   | (with_reducible apply wpQuiet_step
                      intro K hK
                      go_simp
                      first
                        | (refine hK _ ?_; clear hK K)
                        | (apply Exists.intro
                           refine ⟨fun w' hw' => ?_, hK _ ?_⟩
                           ·
                             (first
                              | fail
                              | (have e0 := blk_cell (blk_keep hw' HF3.out.ptrs) 0 _ rfl
                                 have e1 := blk_cell (blk_keep hw' HF3.out.ptrs) 1 _ rfl
                                 have e2 := blk_cell (blk_keep hw' HF3.out.left) 0 _ rfl
                                 have e3 := blk_cell (blk_keep hw' HF3.out.left) 1 _ rfl
                                 go_simp
                                 first | done | with_reducible exact rfl | with_reducible exact ⟨rfl, rfl⟩ | fail))
                           clear hK K))
                  refine wpQuiet_nil ?_
                  intro w7 hw7
                  go_wp2_with fail
                  go_meet
                  exact ⟨rfl, HF3.out.step hw7⟩
                · have h2 := hL.out hac
                  rw [show rol sa.ac = 0 by rw [hac]; rfl]
                  clear hac
                  rcases Bool.eq_false_or_eq_true sa2.ac with hac2 | hac2
                  · have hlt2 : ¬ sa2.ge ≤ l0 := Int.not_le.2 (h2 hac2)
                    have HC2 := Lib.hid hac2
                    clear hac2 h2
                    have k1 : ∀ w', Below wc.heap.size wc w' → Calls Try.prog 8 #[.pointer (some ⟨ga, 0, none⟩)] w' fun e w'' => e = .returned (.int .u8 1) ∧ Below wc.heap.size wc w'' :=
                      fun w' hw' => (role_to 1 sa2 _ w' (by rw [HC2.out]; rfl) (HF3.out.a.below hw')).mono (fun e w9 ⟨h1, h2⟩ => ⟨h1, h2 ▸ hw'⟩)
                    have k2 : ∀ w', Below wc.heap.size wc w' → Calls Try.prog 12 #[.pointer (some ⟨ga, 0, none⟩)] w' fun e w'' => e = .returned (.int .i64 sa2.ge) ∧ Below wc.heap.size wc w'' :=
                      fun w' hw' => (epoch_is sa2 _ w' (HF3.out.a.below hw')).mono (fun e w9 ⟨h1, h2⟩ => ⟨h1, h2 ▸ hw'⟩)
                    refine wp_region_calm (by kernel_rfl) ?_ ?_
                    · kernel_rfl
                    repeat first
                     | go_big_quiet_skip
                     | (go_big_quiet_want; go_big_quiet_op; go_big_quiet_on)
                     | (with_reducible apply wpQuiet_step
                        intro K hK
                        go_simp
                        first
                          | (refine hK _ ?_; clear hK K)
                          | (apply Exists.intro
                             refine ⟨fun w' hw' => ?_, hK _ ?_⟩
                             ·
                               (first
                                | with_reducible exact k1 _ hw'
                                | with_reducible exact k2 _ hw'
                                | (have e0 := blk_cell (blk_keep hw' HF3.out.ptrs) 0 _ rfl
                                   have e1 := blk_cell (blk_keep hw' HF3.out.ptrs) 1 _ rfl
                                   have e2 := blk_cell (blk_keep hw' HF3.out.left) 0 _ rfl
                                   have e3 := blk_cell (blk_keep hw' HF3.out.left) 1 _ rfl
                                   go_simp
                                   first | done | with_reducible exact rfl | with_reducible exact ⟨rfl, rfl⟩ | with_reducible exact k1 _ hw' | with_reducible exact k2 _ hw'))
                             clear hK K))
                    refine wpQuiet_nil ?_
                    intro w7 hw7
                    go_wp2_with fail
                    go_meet
                    exact ⟨rfl, HF3.out.step hw7⟩
                  · have HC2 := Lib.hid hac2
                    clear hac2 h2
                    have k1 : ∀ w', Below wc.heap.size wc w' → Calls Try.prog 8 #[.pointer (some ⟨ga, 0, none⟩)] w' fun e w'' => e = .returned (.int .u8 0) ∧ Below wc.heap.size wc w'' :=
                      fun w' hw' => (role_to 0 sa2 _ w' (by rw [HC2.out]; rfl) (HF3.out.a.below hw')).mono (fun e w9 ⟨h1, h2⟩ => ⟨h1, h2 ▸ hw'⟩)
                    refine wp_region_calm (by kernel_rfl) ?_ ?_
                    · kernel_rfl
                    repeat first
                     | go_big_quiet_skip
                     | (go_big_quiet_want; go_big_quiet_op; go_big_quiet_on)
                     | (with_reducible apply wpQuiet_step
                        intro K hK
                        go_simp
                        first
                          | (refine hK _ ?_; clear hK K)
                          | (apply Exists.intro
                             refine ⟨fun w' hw' => ?_, hK _ ?_⟩
                             ·
                               (first
                                | with_reducible exact k1 _ hw'
                                | (have e0 := blk_cell (blk_keep hw' HF3.out.ptrs) 0 _ rfl
                                   have e1 := blk_cell (blk_keep hw' HF3.out.ptrs) 1 _ rfl
                                   have e2 := blk_cell (blk_keep hw' HF3.out.left) 0 _ rfl
                                   have e3 := blk_cell (blk_keep hw' HF3.out.left) 1 _ rfl
                                   go_simp
                                   first | done | with_reducible exact rfl | with_reducible exact ⟨rfl, rfl⟩ | with_reducible exact k1 _ hw'))
                             clear hK K))
                    refine wpQuiet_nil ?_
                    intro w7 hw7
                    go_wp2_with fail
                    go_meet
                    exact ⟨rfl, HF3.out.step hw7⟩
            case rest =>
              obtain ⟨rfl, hF4⟩ := hcut
              obtain ⟨m0, hm0⟩ : ∃ m0, (if sa2.ac then sa2.ge else l0) = m0 := ⟨_, rfl⟩
              obtain ⟨m1, hm1⟩ : ∃ m1, (if sb2.ac then sb2.ge else l1) = m1 := ⟨_, rfl⟩
              have HX : Hid (SdI 0 E2 H2 U2 now2 sa2 m0 ∧ SdI 1 E2 H2 U2 now2 sb2 m1) := Lib.hid ⟨hm0 ▸ hA2.mark, hm1 ▸ hB2.mark⟩
              have HI2 := Lib.hid hI2
              have HM0 := Lib.hid hm0
              have HM1 := Lib.hid hm1
              have HF4 := Lib.hid hF4
              have e1 : wrap64 ((k : Int) + 1) = (k : Int) + 1 := by unfold wrap64; omega
              have HE1 := Lib.hid e1
              have HK := Lib.hid hk
              clear hm0 hm1 hI2 hF4 HF3 oka okb g1 g2 g3 g4 hA2 hB2 hL hI hA hB e1 hk
              go_upto_block 3 with fail
              go_wp2_with fail
              go_loopg [20] 2 (fun m j wz => (m = 2 ∧ j = .int .i64 0 ∧ SwW w wz SL ga gb SS BK LF s0 s1 E2 H2 U2 l0 l1 sa2 sb2) ∨ (m = 1 ∧ j = .int .i64 1 ∧ SwW w wz SL ga gb SS BK LF s0 s1 E2 H2 U2 m0 l1 sa2 sb2) ∨ (m = 0 ∧ j = .int .i64 2 ∧ SwW w wz SL ga gb SS BK LF s0 s1 E2 H2 U2 m0 m1 sa2 sb2))
              case atStart => exact .inl ⟨rfl, rfl, HF4.out⟩
              case round =>
                as_aux_lemma =>
                  rcases hrel with ⟨rfl, rfl, hF6⟩ | ⟨rfl, rfl, hF6⟩ | ⟨rfl, rfl, hF6⟩
                  · obtain ⟨_, ⟨t0, t1⟩, _, ⟨e0, e1⟩⟩ := hF6.cells
                    have fl := blk_free hF6.left
                    have HF6 := Lib.hid hF6
                    clear hF6
                    rcases Bool.eq_false_or_eq_true sa2.ac with hac | hac
                    · have hmm : m0 = sa2.ge := by rw [← HM0.out, hac]; rfl
                      have HC := Lib.hid hac
                      have HMM := Lib.hid hmm
                      have HF7 := Lib.hid (HF6.out.left0 sa2.ge)
                      clear hac hmm
                      go_wp2_with fail
                      refine (role_to 1 sa2 ga _ (by rw [HC.out]; rfl) HF6.out.a).mono ?_
                      rintro e w6 ⟨rfl, rfl⟩
                      go_wp2_with fail
                      refine (epoch_is sa2 ga _ HF6.out.a).mono ?_
                      rintro e w6 ⟨rfl, rfl⟩
                      go_wp2_with fail
                      go_roundg 1
                      case rel => exact .inr (.inl ⟨rfl, rfl, HMM.out ▸ HF7.out⟩)
                      case measure => omega
                    · have hmm : m0 = l0 := by rw [← HM0.out, hac]; rfl
                      have HC := Lib.hid hac
                      have HMM := Lib.hid hmm
                      clear hac hmm
                      go_wp2_with fail
                      refine (role_to 0 sa2 ga _ (by rw [HC.out]; rfl) HF6.out.a).mono ?_
                      rintro e w6 ⟨rfl, rfl⟩
                      go_wp2_with fail
                      go_roundg 1
                      case rel => exact .inr (.inl ⟨rfl, rfl, HMM.out ▸ HF6.out⟩)
                      case measure => omega
                  · obtain ⟨_, ⟨t0, t1⟩, _, ⟨e0, e1⟩⟩ := hF6.cells
                    have fl := blk_free hF6.left
                    have HF6 := Lib.hid hF6
                    clear hF6
                    rcases Bool.eq_false_or_eq_true sb2.ac with hac | hac
                    · have hmm : m1 = sb2.ge := by rw [← HM1.out, hac]; rfl
                      have HC := Lib.hid hac
                      have HMM := Lib.hid hmm
                      have HF7 := Lib.hid (HF6.out.left1 sb2.ge)
                      clear hac hmm
                      go_wp2_with fail
                      refine (role_to 1 sb2 gb _ (by rw [HC.out]; rfl) HF6.out.b).mono ?_
                      rintro e w6 ⟨rfl, rfl⟩
                      go_wp2_with fail
                      refine (epoch_is sb2 gb _ HF6.out.b).mono ?_
                      rintro e w6 ⟨rfl, rfl⟩
                      go_wp2_with fail
                      go_roundg 0
                      case rel => exact .inr (.inr ⟨rfl, rfl, HMM.out ▸ HF7.out⟩)
                      case measure => omega
                    · have hmm : m1 = l1 := by rw [← HM1.out, hac]; rfl
                      have HC := Lib.hid hac
                      have HMM := Lib.hid hmm
                      clear hac hmm
                      go_wp2_with fail
                      refine (role_to 0 sb2 gb _ (by rw [HC.out]; rfl) HF6.out.b).mono ?_
                      rintro e w6 ⟨rfl, rfl⟩
                      go_wp2_with fail
                      go_roundg 0
                      case rel => exact .inr (.inr ⟨rfl, rfl, HMM.out ▸ HF6.out⟩)
                      case measure => omega
                  · have HF6 := Lib.hid hF6
                    clear hF6
                    have e1 := HE1.out
                    go_wp2_with fail
                    go_roundg (n - (k + 1))
                    case rel => exact ⟨k + 1, E2, H2, U2, now2, m0, m1, sa2, sb2, by have := HK.out; omega, by go_num, rfl, HI2.out, HX.out.1, HX.out.2, HF6.out⟩
                    case measure => have := HK.out; omega
      · have hp2 : (cp : Int) % 2 = 1 := by omega
        clear hp
        obtain ⟨⟨y0, y1⟩, ⟨t0, t1⟩, ⟨b0, b1, b2⟩, ⟨e0, e1⟩⟩ := hF.cells
        have HF := Lib.hid hF
        clear hF
        go_wp2_with fail
        refine (role_is sb gb _ HF.out.b).mono ?_
        rintro e w5 ⟨rfl, rfl⟩
        obtain ⟨s', r, hT⟩ : ∃ s' r, tickR sb (now - s1) = (s', r) := ⟨_, _, rfl⟩
        have HT := Lib.hid hT
        clear hT
        go_upto_block 2 with fail
        go_cut [14, 19, 74] (fun s14 _s19 _s74 wx => ∃ (E2 H2 U2 now2 : Int) (sa2 sb2 : Sw), s14 = .int .i64 now2 ∧ BkI (k + 1) E2 H2 U2 now2 ∧ SdI 0 E2 H2 U2 now2 sa2 l0 ∧ SdI 1 E2 H2 U2 now2 sb2 l1 ∧ SwW w wx SL ga gb SS BK LF s0 s1 E2 H2 U2 l0 l1 sa2 sb2 ∧ Hid (sb.ac = false → sb2.ac = true → l1 < sb2.ge))
        case first =>
          rcases (show ck % 6 = 0 ∨ ck % 6 = 1 ∨ ck % 6 = 2 ∨ ck % 6 = 3 ∨ ck % 6 = 4 ∨ ck % 6 = 5 by omega) with hk6 | hk6 | hk6 | hk6 | hk6 | hk6
          · skip
            as_aux_lemma =>
              have hm : (ck : Int) % 6 = 0 := by omega
              clear hk6

              have g1 : wrap64 (now + 1) = now + 1 := by have := hI.n1; have := hI.n2; unfold wrap64; omega
              go_wp2_with fail
              go_meet
              exact ⟨E, H, U, now + 1, sa, sb, by first | rfl | go_num | simp [g1], hI.time, hA.time, hB.time, HF.out, Lib.hid (fun x y => absurd (x.symm.trans y) (by decide))⟩
          · skip
            as_aux_lemma =>
              have hm : (ck : Int) % 6 = 1 := by omega
              clear hk6

              have g1 : wrap64 (now + 1) = now + 1 := by have := hI.n1; have := hI.n2; unfold wrap64; omega
              go_wp2_with fail
              go_meet
              exact ⟨E, H, U, now + 1, sa, sb, by first | rfl | go_num | simp [g1], hI.time, hA.time, hB.time, HF.out, Lib.hid (fun x y => absurd (x.symm.trans y) (by decide))⟩
          · skip
            have hm : (ck : Int) % 6 = 2 := by omega
            clear hk6

            obtain ⟨g1, g2⟩ := sw_slow hI (Nat.le_of_lt k400) s11 s12
            have hT := HT.out
            have HA : Hid (SdI 1 E H U now s' l1) := Lib.hid (by have := hB.tick (now - s1); rw [hT] at this; exact this)
            have HAC : Hid (s'.ac = true → sb.ac = true) := Lib.hid (by have := tick_ac sb (now - s1); rw [hT] at this; exact this)
            have HRE : Hid (r = 2 → sb.ac = true ∧ s' = sb) := Lib.hid (by have := tick_renew sb (now - s1); rw [hT] at this; exact this)
            have HOK := Lib.hid (hB.ok hI (Nat.le_of_lt k400))
            have HFd := Lib.hid (HF.out.step (Below.refl _ wr).drew)
            clear hT
            go_upto_region 24 with fail
            go_region_held3 (fun w' => w'.cell? ⟨SS, 1, none⟩ = some (.pointer (some ⟨gb, 0, none⟩)) ∧ w'.cell? ⟨SL, 1, none⟩ = some (.int .i64 s1))
              (first | exact ⟨t1, y1⟩ | exact ⟨t91, y91⟩)
              (first
                | (go_at_call 9; (with_reducible refine (tick_to r _ s' gb (now - s1) _ HT.out HOK.out HFd.out.b).mono ?_); rintro e w9 ⟨rfl, hs9, ho9⟩; have hF9 := HFd.out.b_set ho9 hs9; obtain ⟨⟨y90, y91⟩, ⟨t90, t91⟩, ⟨b90, b91, b92⟩, _⟩ := hF9.cells; obtain ⟨z90, z91⟩ := HZ.out _ hF9.below))
            have HF9 := Lib.hid hF9
            clear hF9 ho9 hs9

            have HFe := Lib.hid (HF9.out.step (Below.refl _ w9).drew)
            have HOB := Lib.hid hA
            have HIK := Lib.hid hI
            have HA2 : Hid (r = 2 → s'.ac = true ∧ sb.ac = true) := Lib.hid (fun x => ⟨(HRE.out x).2 ▸ (HRE.out x).1, (HRE.out x).1⟩)

            go_upto_region 26 with fail
            go_region_with (first
              | (go_at_call 10; (with_reducible refine (asks_gen r gb _ HIK.out k400 HA.out HOB.out (.inr rfl) (by decide) (fun x => .inl (HAC.out x)) HA2.out HFe.out.b).mono ?_); rintro x w10 ⟨e, h, u, s2, rfl, hs10, ho10, QQ⟩; have hF10 := HFe.out.b_set ho10 hs10; obtain ⟨_, _, ⟨v0, v1, v2⟩, _⟩ := hF10.cells; have fb := blk_free hF10.book))
            all_goals
              have hFz := hF10.book_set e h u
              have HFz := Lib.hid hFz
              clear hF10 hFz ho10 hs10
              go_wp2_with fail
              go_meet
              exact ⟨e, h, u, now, sa, s2, rfl, QQ.out.1, QQ.out.2.2.1, QQ.out.2.1, HFz.out, Lib.hid QQ.out.2.2.2⟩
          · skip
            as_aux_lemma =>
              have hm : (ck : Int) % 6 = 3 := by omega
              clear hk6

              obtain ⟨g1, g2⟩ := sw_slow hI (Nat.le_of_lt k400) s11 s12
              have hT := HT.out
              have HA : Hid (SdI 1 E H U now s' l1) := Lib.hid (by have := hB.tick (now - s1); rw [hT] at this; exact this)
              have HAC : Hid (s'.ac = true → sb.ac = true) := Lib.hid (by have := tick_ac sb (now - s1); rw [hT] at this; exact this)
              have HRE : Hid (r = 2 → sb.ac = true ∧ s' = sb) := Lib.hid (by have := tick_renew sb (now - s1); rw [hT] at this; exact this)
              have HOK := Lib.hid (hB.ok hI (Nat.le_of_lt k400))
              have HFd := Lib.hid (HF.out.step (Below.refl _ wr).drew)
              clear hT
              go_upto_region 24 with fail
              go_region_held3 (fun w' => w'.cell? ⟨SS, 1, none⟩ = some (.pointer (some ⟨gb, 0, none⟩)) ∧ w'.cell? ⟨SL, 1, none⟩ = some (.int .i64 s1))
                (first | exact ⟨t1, y1⟩ | exact ⟨t91, y91⟩)
                (first
                  | (go_at_call 9; (with_reducible refine (tick_to r _ s' gb (now - s1) _ HT.out HOK.out HFd.out.b).mono ?_); rintro e w9 ⟨rfl, hs9, ho9⟩; have hF9 := HFd.out.b_set ho9 hs9; obtain ⟨⟨y90, y91⟩, ⟨t90, t91⟩, ⟨b90, b91, b92⟩, _⟩ := hF9.cells; obtain ⟨z90, z91⟩ := HZ.out _ hF9.below))
              have HF9 := Lib.hid hF9
              clear hF9 ho9 hs9

              go_wp2_with fail
              go_meet
              exact ⟨E, H, U, now, sa, s', rfl, hI.next, hA, HA.out, HF9.out, Lib.hid (fun x y => absurd (x.symm.trans (HAC.out y)) (by decide))⟩
          · skip
            as_aux_lemma =>
              have hm : (ck : Int) % 6 = 4 := by omega
              clear hk6

              rcases Bool.eq_false_or_eq_true sb.ac with hac | hac
              · have HAC0 := Lib.hid hac
                clear hac
                have HFd := Lib.hid (HF.out.step (Below.refl _ wr).drew)
                go_wp2_with fail
                refine (role_to 1 sb gb _ (by rw [HAC0.out]; rfl) HF.out.b).mono ?_
                rintro e w6 ⟨rfl, rfl⟩
                have g5 : wrap64 1 = 1 := by unfold wrap64; omega
                have g6 : wrap64 0 = 0 := by unfold wrap64; omega
                have g7 : IntKind.i64.wrap 1 = 1 := by decide
                have g8 : IntKind.i64.wrap 0 = 0 := by decide
                go_upto_region 29 with fail
                go_region_held3 (fun w' => w'.cell? ⟨SS, 0, none⟩ = some (.pointer (some ⟨ga, 0, none⟩)) ∧ w'.cell? ⟨SS, 1, none⟩ = some (.pointer (some ⟨gb, 0, none⟩)))
                  (first | exact ⟨t0, t1⟩ | exact ⟨t90, t91⟩)
                  (first
                    | (go_at_call 12; (with_reducible refine (epoch_is sb gb _ HFd.out.b).mono ?_); rintro e w8 ⟨rfl, rfl⟩)
                    | (go_at_call 11; (with_reducible refine (beat_is sa ga sb.ge _ HFd.out.a).mono ?_); rintro e w9 ⟨rfl, hs9, ho9⟩; have hF9 := HFd.out.a_set ho9 hs9; obtain ⟨_, ⟨t90, t91⟩, _, _⟩ := hF9.cells))
                have HF9 := Lib.hid hF9
                clear hF9 ho9 hs9
                go_wp2_with fail
                go_meet
                exact ⟨E, H, U, now, (beatR sa sb.ge).1, sb, rfl, hI.next, hA.beat sb.ge hB.a2, hB, HF9.out, Lib.hid (fun x _ => absurd (x.symm.trans HAC0.out) (by decide))⟩
              · have HAC0 := Lib.hid hac
                clear hac
                go_wp2_with fail
                refine (role_to 0 sb gb _ (by rw [HAC0.out]; rfl) HF.out.b).mono ?_
                rintro e w6 ⟨rfl, rfl⟩
                go_wp2_with fail
                go_meet
                exact ⟨E, H, U, now, sa, sb, rfl, hI.next, hA, hB, HF.out, Lib.hid (fun x y => absurd (x.symm.trans y) (by decide))⟩
          · skip
            have hm : (ck : Int) % 6 = 5 := by omega
            clear hk6

            have HFe := Lib.hid (HF.out.step (Below.refl _ wr).drew)

            go_upto_region 18 with fail
            go_region_with (first
              | (go_at_call 10; (with_reducible refine (asks_gen 1 gb _ (so := sb) hI k400 hB hA (.inr rfl) (by decide) (fun _ => .inr rfl) (fun x => absurd x (by decide)) HFe.out.b).mono ?_); rintro x w10 ⟨e, h, u, s2, rfl, hs10, ho10, QQ⟩; have hF10 := HFe.out.b_set ho10 hs10; obtain ⟨_, _, ⟨v0, v1, v2⟩, _⟩ := hF10.cells; have fb := blk_free hF10.book))
            all_goals
              have hFz := hF10.book_set e h u
              have HFz := Lib.hid hFz
              clear hF10 hFz ho10 hs10
              go_wp2_with fail
              go_meet
              exact ⟨e, h, u, now, sa, s2, rfl, QQ.out.1, QQ.out.2.2.1, QQ.out.2.1, HFz.out, Lib.hid QQ.out.2.2.2⟩
        case rest =>
          obtain ⟨E2, H2, U2, now2, sa2, sb2, rfl, hI2, hA2, hB2, hF2, hL⟩ := hcut
          have k401 : k + 1 ≤ 400 := k400
          obtain ⟨g1, g2⟩ := sw_slow hI2 k401 s01 s02
          obtain ⟨g3, g4⟩ := sw_slow hI2 k401 s11 s12
          have HF2 := Lib.hid hF2
          have oka := Lib.hid (hA2.ok hI2 k401)
          have okb := Lib.hid (hB2.ok hI2 k401)
          clear HF hF2
          go_upto_region 30 with fail
          go_cut [156] (fun s156 wx => s156 = .bool false ∧ SwW w wx SL ga gb SS BK LF s0 s1 E2 H2 U2 l0 l1 sa2 sb2)
          case first =>
            as_aux_lemma =>
              obtain ⟨hv, hhv⟩ : ∃ hv, holdR sa2 (now2 - s0) = hv := ⟨_, rfl⟩
              have k1 : ∀ w', Below wc.heap.size wc w' → Calls Try.prog 13 #[.pointer (some ⟨ga, 0, none⟩), .int .i64 (now2 - s0)] w' fun e w'' => e = .returned (.bool hv) ∧ Below wc.heap.size wc w'' :=
                fun w' hw' => (holds_to hv _ _ _ w' hhv oka.out (HF2.out.a.below hw')).mono (fun e w9 ⟨h1, h2⟩ => ⟨h1, below_on hw' h2⟩)
              cases hv with
              | true =>
                have h2 := two_never hI2 (Nat.le_trans k401 (by decide)) hA2 hB2 (by decide) s01 s02 s11 s12 hhv
                have k2 : ∀ w', Below wc.heap.size wc w' → Calls Try.prog 13 #[.pointer (some ⟨gb, 0, none⟩), .int .i64 (now2 - s1)] w' fun e w'' => e = .returned (.bool false) ∧ Below wc.heap.size wc w'' :=
                  fun w' hw' => (holds_to false _ _ _ w' h2 okb.out (HF2.out.b.below hw')).mono (fun e w9 ⟨h1, h2⟩ => ⟨h1, below_on hw' h2⟩)
                clear hhv h2
                refine wp_region_calm (by kernel_rfl) ?_ ?_
                · kernel_rfl
                repeat first
                 | go_big_quiet_skip
                 | (go_big_quiet_want; go_big_quiet_op; go_big_quiet_on)
                 | (with_reducible apply wpQuiet_step
                    intro K hK
                    go_simp
                    first
                      | (refine hK _ ?_; clear hK K)
                      | (apply Exists.intro
                         refine ⟨fun w' hw' => ?_, hK _ ?_⟩
                         ·
                           (first
                            | with_reducible exact k1 _ hw'
                            | with_reducible exact k2 _ hw'
                            | (have e0 := blk_cell (blk_keep hw' HF2.out.ptrs) 0 _ rfl
                               have e1 := blk_cell (blk_keep hw' HF2.out.ptrs) 1 _ rfl
                               have e2 := blk_cell (blk_keep hw' HF2.out.slow) 0 _ rfl
                               have e3 := blk_cell (blk_keep hw' HF2.out.slow) 1 _ rfl
                               go_simp
                               first | done | with_reducible exact rfl | with_reducible exact ⟨rfl, rfl⟩ | with_reducible exact k1 _ hw' | with_reducible exact k2 _ hw'))
                         clear hK K))
                refine wpQuiet_nil ?_
                intro w7 hw7
                go_wp2_with fail
                go_meet
                exact ⟨rfl, HF2.out.step hw7⟩
              | false =>
                clear hhv
                refine wp_region_calm (by kernel_rfl) ?_ ?_
                · kernel_rfl
                repeat first
                 | go_big_quiet_skip
                 | (go_big_quiet_want; go_big_quiet_op; go_big_quiet_on)
                 | (with_reducible apply wpQuiet_step
                    intro K hK
                    go_simp
                    first
                      | (refine hK _ ?_; clear hK K)
                      | (apply Exists.intro
                         refine ⟨fun w' hw' => ?_, hK _ ?_⟩
                         ·
                           (first
                            | with_reducible exact k1 _ hw'
                            | (have e0 := blk_cell (blk_keep hw' HF2.out.ptrs) 0 _ rfl
                               have e1 := blk_cell (blk_keep hw' HF2.out.ptrs) 1 _ rfl
                               have e2 := blk_cell (blk_keep hw' HF2.out.slow) 0 _ rfl
                               have e3 := blk_cell (blk_keep hw' HF2.out.slow) 1 _ rfl
                               go_simp
                               first | done | with_reducible exact rfl | with_reducible exact ⟨rfl, rfl⟩ | with_reducible exact k1 _ hw'))
                         clear hK K))
                refine wpQuiet_nil ?_
                intro w7 hw7
                go_wp2_with fail
                go_meet
                exact ⟨rfl, HF2.out.step hw7⟩
          case rest =>
            obtain ⟨rfl, hF3⟩ := hcut
            have HF3 := Lib.hid hF3
            clear hF3 HF2
            go_upto_region 32 with fail
            go_cut [18, 178] (fun _s18 s178 wx => s178 = .bool false ∧ SwW w wx SL ga gb SS BK LF s0 s1 E2 H2 U2 l0 l1 sa2 sb2)
            case first =>
              as_aux_lemma =>
                rcases Bool.eq_false_or_eq_true sb.ac with hac | hac
                · rw [show rol sb.ac = 1 by rw [hac]; rfl]
                  clear hac
                  refine wp_region_calm (by kernel_rfl) ?_ ?_
                  · kernel_rfl
                  repeat first
                   | go_big_quiet_skip
                   | (go_big_quiet_want; go_big_quiet_op; go_big_quiet_on)
                   | (with_reducible apply wpQuiet_step
                      intro K hK
                      go_simp
                      first
                        | (refine hK _ ?_; clear hK K)
                        | (apply Exists.intro
                           refine ⟨fun w' hw' => ?_, hK _ ?_⟩
                           ·
                             (first
                              | fail
                              | (have e0 := blk_cell (blk_keep hw' HF3.out.ptrs) 0 _ rfl
                                 have e1 := blk_cell (blk_keep hw' HF3.out.ptrs) 1 _ rfl
                                 have e2 := blk_cell (blk_keep hw' HF3.out.left) 0 _ rfl
                                 have e3 := blk_cell (blk_keep hw' HF3.out.left) 1 _ rfl
                                 go_simp
                                 first | done | with_reducible exact rfl | with_reducible exact ⟨rfl, rfl⟩ | fail))
                           clear hK K))
                  refine wpQuiet_nil ?_
                  intro w7 hw7
                  go_wp2_with fail
                  go_meet
                  exact ⟨rfl, HF3.out.step hw7⟩
                · have h2 := hL.out hac
                  rw [show rol sb.ac = 0 by rw [hac]; rfl]
                  clear hac
                  rcases Bool.eq_false_or_eq_true sb2.ac with hac2 | hac2
                  · have hlt2 : ¬ sb2.ge ≤ l1 := Int.not_le.2 (h2 hac2)
                    have HC2 := Lib.hid hac2
                    clear hac2 h2
                    have k1 : ∀ w', Below wc.heap.size wc w' → Calls Try.prog 8 #[.pointer (some ⟨gb, 0, none⟩)] w' fun e w'' => e = .returned (.int .u8 1) ∧ Below wc.heap.size wc w'' :=
                      fun w' hw' => (role_to 1 sb2 _ w' (by rw [HC2.out]; rfl) (HF3.out.b.below hw')).mono (fun e w9 ⟨h1, h2⟩ => ⟨h1, h2 ▸ hw'⟩)
                    have k2 : ∀ w', Below wc.heap.size wc w' → Calls Try.prog 12 #[.pointer (some ⟨gb, 0, none⟩)] w' fun e w'' => e = .returned (.int .i64 sb2.ge) ∧ Below wc.heap.size wc w'' :=
                      fun w' hw' => (epoch_is sb2 _ w' (HF3.out.b.below hw')).mono (fun e w9 ⟨h1, h2⟩ => ⟨h1, h2 ▸ hw'⟩)
                    refine wp_region_calm (by kernel_rfl) ?_ ?_
                    · kernel_rfl
                    repeat first
                     | go_big_quiet_skip
                     | (go_big_quiet_want; go_big_quiet_op; go_big_quiet_on)
                     | (with_reducible apply wpQuiet_step
                        intro K hK
                        go_simp
                        first
                          | (refine hK _ ?_; clear hK K)
                          | (apply Exists.intro
                             refine ⟨fun w' hw' => ?_, hK _ ?_⟩
                             ·
                               (first
                                | with_reducible exact k1 _ hw'
                                | with_reducible exact k2 _ hw'
                                | (have e0 := blk_cell (blk_keep hw' HF3.out.ptrs) 0 _ rfl
                                   have e1 := blk_cell (blk_keep hw' HF3.out.ptrs) 1 _ rfl
                                   have e2 := blk_cell (blk_keep hw' HF3.out.left) 0 _ rfl
                                   have e3 := blk_cell (blk_keep hw' HF3.out.left) 1 _ rfl
                                   go_simp
                                   first | done | with_reducible exact rfl | with_reducible exact ⟨rfl, rfl⟩ | with_reducible exact k1 _ hw' | with_reducible exact k2 _ hw'))
                             clear hK K))
                    refine wpQuiet_nil ?_
                    intro w7 hw7
                    go_wp2_with fail
                    go_meet
                    exact ⟨rfl, HF3.out.step hw7⟩
                  · have HC2 := Lib.hid hac2
                    clear hac2 h2
                    have k1 : ∀ w', Below wc.heap.size wc w' → Calls Try.prog 8 #[.pointer (some ⟨gb, 0, none⟩)] w' fun e w'' => e = .returned (.int .u8 0) ∧ Below wc.heap.size wc w'' :=
                      fun w' hw' => (role_to 0 sb2 _ w' (by rw [HC2.out]; rfl) (HF3.out.b.below hw')).mono (fun e w9 ⟨h1, h2⟩ => ⟨h1, h2 ▸ hw'⟩)
                    refine wp_region_calm (by kernel_rfl) ?_ ?_
                    · kernel_rfl
                    repeat first
                     | go_big_quiet_skip
                     | (go_big_quiet_want; go_big_quiet_op; go_big_quiet_on)
                     | (with_reducible apply wpQuiet_step
                        intro K hK
                        go_simp
                        first
                          | (refine hK _ ?_; clear hK K)
                          | (apply Exists.intro
                             refine ⟨fun w' hw' => ?_, hK _ ?_⟩
                             ·
                               (first
                                | with_reducible exact k1 _ hw'
                                | (have e0 := blk_cell (blk_keep hw' HF3.out.ptrs) 0 _ rfl
                                   have e1 := blk_cell (blk_keep hw' HF3.out.ptrs) 1 _ rfl
                                   have e2 := blk_cell (blk_keep hw' HF3.out.left) 0 _ rfl
                                   have e3 := blk_cell (blk_keep hw' HF3.out.left) 1 _ rfl
                                   go_simp
                                   first | done | with_reducible exact rfl | with_reducible exact ⟨rfl, rfl⟩ | with_reducible exact k1 _ hw'))
                             clear hK K))
                    refine wpQuiet_nil ?_
                    intro w7 hw7
                    go_wp2_with fail
                    go_meet
                    exact ⟨rfl, HF3.out.step hw7⟩
            case rest =>
              obtain ⟨rfl, hF4⟩ := hcut
              obtain ⟨m0, hm0⟩ : ∃ m0, (if sa2.ac then sa2.ge else l0) = m0 := ⟨_, rfl⟩
              obtain ⟨m1, hm1⟩ : ∃ m1, (if sb2.ac then sb2.ge else l1) = m1 := ⟨_, rfl⟩
              have HX : Hid (SdI 0 E2 H2 U2 now2 sa2 m0 ∧ SdI 1 E2 H2 U2 now2 sb2 m1) := Lib.hid ⟨hm0 ▸ hA2.mark, hm1 ▸ hB2.mark⟩
              have HI2 := Lib.hid hI2
              have HM0 := Lib.hid hm0
              have HM1 := Lib.hid hm1
              have HF4 := Lib.hid hF4
              have e1 : wrap64 ((k : Int) + 1) = (k : Int) + 1 := by unfold wrap64; omega
              have HE1 := Lib.hid e1
              have HK := Lib.hid hk
              clear hm0 hm1 hI2 hF4 HF3 oka okb g1 g2 g3 g4 hA2 hB2 hL hI hA hB e1 hk
              go_upto_block 3 with fail
              go_wp2_with fail
              go_loopg [20] 2 (fun m j wz => (m = 2 ∧ j = .int .i64 0 ∧ SwW w wz SL ga gb SS BK LF s0 s1 E2 H2 U2 l0 l1 sa2 sb2) ∨ (m = 1 ∧ j = .int .i64 1 ∧ SwW w wz SL ga gb SS BK LF s0 s1 E2 H2 U2 m0 l1 sa2 sb2) ∨ (m = 0 ∧ j = .int .i64 2 ∧ SwW w wz SL ga gb SS BK LF s0 s1 E2 H2 U2 m0 m1 sa2 sb2))
              case atStart => exact .inl ⟨rfl, rfl, HF4.out⟩
              case round =>
                as_aux_lemma =>
                  rcases hrel with ⟨rfl, rfl, hF6⟩ | ⟨rfl, rfl, hF6⟩ | ⟨rfl, rfl, hF6⟩
                  · obtain ⟨_, ⟨t0, t1⟩, _, ⟨e0, e1⟩⟩ := hF6.cells
                    have fl := blk_free hF6.left
                    have HF6 := Lib.hid hF6
                    clear hF6
                    rcases Bool.eq_false_or_eq_true sa2.ac with hac | hac
                    · have hmm : m0 = sa2.ge := by rw [← HM0.out, hac]; rfl
                      have HC := Lib.hid hac
                      have HMM := Lib.hid hmm
                      have HF7 := Lib.hid (HF6.out.left0 sa2.ge)
                      clear hac hmm
                      go_wp2_with fail
                      refine (role_to 1 sa2 ga _ (by rw [HC.out]; rfl) HF6.out.a).mono ?_
                      rintro e w6 ⟨rfl, rfl⟩
                      go_wp2_with fail
                      refine (epoch_is sa2 ga _ HF6.out.a).mono ?_
                      rintro e w6 ⟨rfl, rfl⟩
                      go_wp2_with fail
                      go_roundg 1
                      case rel => exact .inr (.inl ⟨rfl, rfl, HMM.out ▸ HF7.out⟩)
                      case measure => omega
                    · have hmm : m0 = l0 := by rw [← HM0.out, hac]; rfl
                      have HC := Lib.hid hac
                      have HMM := Lib.hid hmm
                      clear hac hmm
                      go_wp2_with fail
                      refine (role_to 0 sa2 ga _ (by rw [HC.out]; rfl) HF6.out.a).mono ?_
                      rintro e w6 ⟨rfl, rfl⟩
                      go_wp2_with fail
                      go_roundg 1
                      case rel => exact .inr (.inl ⟨rfl, rfl, HMM.out ▸ HF6.out⟩)
                      case measure => omega
                  · obtain ⟨_, ⟨t0, t1⟩, _, ⟨e0, e1⟩⟩ := hF6.cells
                    have fl := blk_free hF6.left
                    have HF6 := Lib.hid hF6
                    clear hF6
                    rcases Bool.eq_false_or_eq_true sb2.ac with hac | hac
                    · have hmm : m1 = sb2.ge := by rw [← HM1.out, hac]; rfl
                      have HC := Lib.hid hac
                      have HMM := Lib.hid hmm
                      have HF7 := Lib.hid (HF6.out.left1 sb2.ge)
                      clear hac hmm
                      go_wp2_with fail
                      refine (role_to 1 sb2 gb _ (by rw [HC.out]; rfl) HF6.out.b).mono ?_
                      rintro e w6 ⟨rfl, rfl⟩
                      go_wp2_with fail
                      refine (epoch_is sb2 gb _ HF6.out.b).mono ?_
                      rintro e w6 ⟨rfl, rfl⟩
                      go_wp2_with fail
                      go_roundg 0
                      case rel => exact .inr (.inr ⟨rfl, rfl, HMM.out ▸ HF7.out⟩)
                      case measure => omega
                    · have hmm : m1 = l1 := by rw [← HM1.out, hac]; rfl
                      have HC := Lib.hid hac
                      have HMM := Lib.hid hmm
                      clear hac hmm
                      go_wp2_with fail
                      refine (role_to 0 sb2 gb _ (by rw [HC.out]; rfl) HF6.out.b).mono ?_
                      rintro e w6 ⟨rfl, rfl⟩
                      go_wp2_with fail
                      go_roundg 0
                      case rel => exact .inr (.inr ⟨rfl, rfl, HMM.out ▸ HF6.out⟩)
                      case measure => omega
                  · have HF6 := Lib.hid hF6
                    clear hF6
                    have e1 := HE1.out
                    go_wp2_with fail
                    go_roundg (n - (k + 1))
                    case rel => exact ⟨k + 1, E2, H2, U2, now2, m0, m1, sa2, sb2, by have := HK.out; omega, by go_num, rfl, HI2.out, HX.out.1, HX.out.2, HF6.out⟩
                    case measure => have := HK.out; omega
    · obtain rfl : k = n := by omega
      go_wp2_with fail
      refine (works_any _).mono ?_
      rintro e w5 ⟨rfl, hb5⟩
      go_wp2_with fail
      go_ret
      exact ⟨rfl, below_on hF.below hb5⟩
end Go.Proofs.Ytoedipajcmmhjaa
