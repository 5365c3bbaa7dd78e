/-
  Walks of package switchover: Tick, Holds.
-/
import Derived.Test.YtoedipajcmmhjaaSwB
namespace Go.Proofs.Ytoedipajcmmhjaa
open Go.RowKit
attribute [local irreducible] takeR holdsB tm m1 m2

theorem tick_is (s : Sw) (g : Nat) (t : Int) (w : World) (hs : s.ok) (h : SwAt w g s) : Calls Try.prog 9 #[.pointer (some ⟨g, 0, none⟩), .int .i64 t] w fun e w' => e = .returned (.int .u8 (tickR s t).2) ∧ SwAt w' g (tickR s t).1 ∧ Only g w w' := by
  have hmm := @run_makeMap Try.prog
  have hmf : ∀ (fn : Fn) (first cap : Array Value) (w : World), (Instr.makeFunc fn first cap).run Try.prog w = .ok (.func fn first cap) w := fun _ _ _ _ => rfl
  have hp0 := run_put0 (.pointer (some ⟨g, 0, none⟩)) w
  have hp1 := run_put1 (.pointer (some ⟨g, 0, none⟩)) w
  have hg0 := run_get0 (.pointer (some ⟨g, 0, none⟩)) w
  have hg1 := run_get1 (.pointer (some ⟨g, 0, none⟩)) w
  have hB := below1 w (.map (m2 (.pointer (some ⟨g, 0, none⟩))) 2)
  have H := Lib.hid (h.below hB)
  have HO := Lib.hid (Only.of_below (g := g) hB)
  have HS := Lib.hid hs
  have c3 := blk_cell h 3 _ rfl
  have hlt := blk_lt h
  clear h hB hs
  cases ha : s.ac with
  | true =>
    rw [show rol s.ac = 1 by rw [ha]; rfl] at c3
    have HP : Hid (tickR s t = leadR s (tm t)) := Lib.hid (by unfold tickR; rw [if_pos ha])
    clear ha
    go_enter Try.func9, Try.ntmps9
    go_wp2_with fail
    refine (time_is t _).mono ?_
    rintro e w1 ⟨rfl, rfl⟩
    go_wp2_with fail
    refine (lead_is s g (tm t) _ HS.out (tm_bounds t).1 (tm_bounds t).2 H.out).mono ?_
    rintro e w2 ⟨rfl, hs2, ho2⟩
    have HO2 := Lib.hid (HO.out.trans ho2)
    clear ho2 HO
    go_wp2_with fail
    go_ret
    rw [HP.out]
    exact ⟨rfl, hs2, HO2.out⟩
  | false =>
    rw [show rol s.ac = 0 by rw [ha]; rfl] at c3
    have HP : Hid (tickR s t = standR s) := Lib.hid (by unfold tickR; rw [if_neg (by rw [ha]; decide)])
    clear ha
    go_enter Try.func9, Try.ntmps9
    go_wp2_with fail
    refine (time_is t _).mono ?_
    rintro e w1 ⟨rfl, rfl⟩
    go_wp2_with fail
    refine (stand_is s g (tm t) _ ⟨HS.out.q1, HS.out.q2⟩ H.out).mono ?_
    rintro e w2 ⟨rfl, hs2, ho2⟩
    have HO2 := Lib.hid (HO.out.trans ho2)
    clear ho2 HO
    go_wp2_with fail
    go_ret
    rw [HP.out]
    exact ⟨rfl, hs2, HO2.out⟩
theorem time_to (x t : Int) (w : World) (h : tm t = x) : Calls Try.prog 20 #[.int .i64 t] w fun e w' => e = .returned (.int .i64 x) ∧ w = w' := h ▸ time_is t w
theorem holds_sw (s : Sw) (g : Nat) (t : Int) (w : World) (hs : s.ok) (h : SwAt w g s) : Calls Try.prog 13 #[.pointer (some ⟨g, 0, none⟩), .int .i64 t] w fun e w' => e = .returned (.bool (holdR s t)) ∧ Below w.heap.size w w' := by
  have HL := Lib.hid (show -9223372036854775806 ≤ s.gu ∧ s.gu ≤ 9223372036854775807 by have := hs.u1; have := hs.u2; omega)
  have c0 := blk_cell h 0 _ rfl
  have c1 := blk_cell h 1 _ rfl
  have c2 := blk_cell h 2 _ rfl
  have c3 := blk_cell h 3 _ rfl
  have H := Lib.hid h
  clear h hs
  cases ha : s.ac with
  | true =>
    have RR := Lib.hid (show some (Value.int .u8 (rol s.ac)) = some (Value.int .u8 1) by rw [ha]; rfl)
    rw [show rol s.ac = 1 by rw [ha]; rfl] at c3
    obtain ⟨B, hB⟩ : ∃ B, holdsB s.ge s.gu (tm t) = B := ⟨_, rfl⟩
    have HB := Lib.hid hB
    have HP : Hid (holdR s t = B) := Lib.hid (by unfold holdR; rw [ha, hB]; rfl)
    clear ha hB
    go_enter Try.func13, Try.ntmps13
    go_wp2_with fail
    have k1 : ∀ w', Below w.heap.size w w' → Calls Try.prog 20 #[.int .i64 t] w' fun e w'' => e = .returned (.int .i64 (tm t)) ∧ Below w.heap.size w w'' :=
      fun w' hw' => (time_is t w').mono (fun e w9 ⟨h1, h2⟩ => ⟨h1, h2 ▸ hw'⟩)
    have k2 : ∀ w', Below w.heap.size w w' → Calls Try.prog 24 #[.agg #[.int .i64 s.p, .int .i64 s.ge, .int .i64 s.gu], .int .i64 (tm t)] w' fun e w'' => e = .returned (.bool B) ∧ Below w.heap.size w w'' :=
      fun w' hw' => (tholds_is B _ _ _ _ w' HB.out HL.out.1 HL.out.2).mono (fun e w9 ⟨h1, h2⟩ => ⟨h1, below_on hw' h2⟩)
    refine wp_region_calm (by kernel_rfl) (by kernel_rfl) ?_
    repeat
      (with_reducible apply wpQuiet_step
       intro K hK
       go_simp
       first
         | (refine hK _ ?_; clear hK K)
         | (apply Exists.intro
            refine ⟨fun w' hw' => ?_, hK _ ?_⟩
            ·
              (first
               | with_reducible exact k1 _ hw'
               | with_reducible exact k2 _ hw'
               | (have e0 := blk_cell (blk_keep hw' H.out) 0 _ rfl
                  have e1 := blk_cell (blk_keep hw' H.out) 1 _ rfl
                  have e2 := blk_cell (blk_keep hw' H.out) 2 _ rfl
                  have e3 := (blk_cell (blk_keep hw' H.out) 3 _ rfl).trans RR.out
                  go_simp
                  first | done | with_reducible exact rfl | with_reducible exact ⟨rfl, rfl⟩ | with_reducible exact k1 _ hw' | with_reducible exact k2 _ hw'))
            clear hK K))
    refine wpQuiet_nil ?_
    intro w7 hw7
    go_wp2_with fail
    go_ret
    rw [HP.out]
    exact ⟨rfl, hw7⟩
  | false =>
    rw [show rol s.ac = 0 by rw [ha]; rfl] at c3
    have HP : Hid (holdR s t = false) := Lib.hid (by unfold holdR; rw [ha]; rfl)
    clear ha
    go_enter Try.func13, Try.ntmps13
    go_wp2_with fail
    go_quiet (fail)
    go_wp2_with fail
    go_ret
    rw [HP.out]
    exact ⟨rfl, below_drewN (Below.refl _ w) _⟩
end Go.Proofs.Ytoedipajcmmhjaa
