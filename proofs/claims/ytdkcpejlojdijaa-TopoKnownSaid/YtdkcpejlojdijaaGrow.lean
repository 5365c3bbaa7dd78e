/-
  'append' onto a row of the call's own, as in XAppend, and where the new row lies: in the old one's block, or in a new one.
-/
import Derived.Test.YtdkcpejlojdijaaAppend
namespace Go.Proofs.Ytdkcpejlojdijaa
open Go.RowKit

/-- the block of v' is that of v, or a new one -/
def Value.newOr (w : World) (v v' : Value) : Prop := v'.ownBlock = v.ownBlock ∨ ∃ k, v'.ownBlock = some k ∧ w.heap.size ≤ k

theorem run_append_src3 {P : Program} (w : World) (base : Nat) (t ty e : TypeId) (i : TypeInfo) (z : Value) (sz bytes : Nat) (ht : P.underlying t = some (.slice e)) (hi : P.info? e = some i) (hz : i.zero = some z)
    (hsize : i.size = sz) (hby : i.bytes = bytes) (hzs : z.cells.size = sz) (hsz : 0 < sz) (v : Value) (n : Nat) (xs : List Value) (hown : w.ownsRow base e sz v n xs)
    (ao : Option Addr) (m c : Nat) (news : List Value) (hl : news.length = m * sz) (hsrc : SrcAt w ao c news) (h63 : n + m ≤ maxLen) (hbytes : (n + m) * bytes ≤ 140737488355328) (hbase : base ≤ w.heap.size) :
    ∃ v' w', (Builtin.append_ #[t, t] ty #[v, .slice ao m c]).run P w = .ok v' w' ∧ w'.ownsRow base e sz v' (n + m) (xs ++ news) ∧ w.grownBy w' v.ownBlock ∧ Value.newOr w v v' := by
  obtain ⟨v', w', hr, h2, h3⟩ := run_append_src (P := P) w base t ty e i z sz bytes ht hi hz hsize hby hzs hsz v n xs hown ao m c news hl hsrc h63 hbytes hbase
  refine ⟨v', w', hr, h2, h3, ?_⟩
  obtain ⟨s1, s2, s3⟩ := hsrc
  have h63' : n + m ≤ 9223372036854775807 := by simp only [maxLen] at h63; omega
  cases ao with
  | none =>
    obtain ⟨rfl, rfl⟩ := s1 rfl
    obtain rfl : m = 0 := by
      rcases Nat.eq_zero_or_pos m with h | h
      · exact h
      · have := Nat.mul_pos h hsz
        simp at hl; omega
    have hrun := run_append_owned_none (P := P) w base t ty e i sz ht hi v n xs hown
    rw [hrun] at hr
    injection hr with h4 h5
    exact .inl (by rw [h4])
  | some ad =>
    subst hsize
    subst hby
    have hown2 := hown
    rcases hown2.2 with ⟨rfl, rfl⟩ | ⟨g, cap, cur, rfl, hbg, hg, hnc, hcm, hcs, htake⟩
    · by_cases hm : m = 0
      · subst hm
        have h4 := run_append_own (P := P) (w := w) base t ty e i z i.size i.bytes ht hi hz rfl rfl hzs hsz _ 0 xs hown ad 0 c news hl (s3 ad rfl) s2 h63 hbytes hbase
        obtain ⟨v9, w9, g1, _, _, g4⟩ := h4
        rw [hr] at g1
        injection g1 with g1 g2
        rw [g1, g4.2 ⟨rfl, rfl⟩]
        exact .inl rfl
      · have h4 := run_append_nil (P := P) (w := w) t ty e i z ht hi hz ad m c news hl (s3 ad rfl) (by omega) (by omega) (by rw [Nat.zero_add] at hbytes; omega)
        rw [h4] at hr
        injection hr with h5 h6
        exact .inr ⟨w.heap.size, by rw [← h5]; rfl, Nat.le_refl _⟩
    · by_cases hroom : n + m ≤ cap
      · have hfit : n * i.size + news.length ≤ cur.size := by rw [hl, hcs, ← Nat.add_mul]; exact Nat.mul_le_mul_right _ hroom
        have h4 := run_append_room (P := P) (w := w) t ty e i ht hi g n cap cur hg ad m c news hl (s3 ad rfl) s2 hroom hfit
        rw [h4] at hr
        injection hr with h5 h6
        exact .inl (by rw [← h5]; rfl)
      · have h4 := run_append_grow (P := P) (w := w) t ty e i z ht hi hz ⟨g, 0, none⟩ n cap xs hown.1 (hown.cells (g := g) rfl) ad m c news hl (s3 ad rfl) (by omega) (by omega) (growslice_fits (by omega) hbytes)
        rw [h4] at hr
        injection hr with h5 h6
        exact .inr ⟨w.heap.size, by rw [← h5]; rfl, Nat.le_refl _⟩

theorem wp_append_src3 {P : Program} {w : World} {o : Oper} {a : Act} {K : Act → World → Prop} {Q : Exit → Act → World → Prop} (s x : Operand) (t : TypeId)
    (ho : o.op = .call { callee := .builtin .append, args := #[s, x], argTypes := #[t, t] })
    (base : Nat) (e : TypeId) (i : TypeInfo) (z : Value) (sz bytes : Nat) (ht : P.underlying t = some (.slice e)) (hi : P.info? e = some i) (hz : i.zero = some z)
    (hsize : i.size = sz) (hby : i.bytes = bytes) (hzs : z.cells.size = sz) (hsz : 0 < sz) (v : Value) (n : Nat) (xs : List Value) (hs : a.eval s = v) (hown : w.ownsRow base e sz v n xs)
    (ao : Option Addr) (m c : Nat) (news : List Value) (hx : a.eval x = .slice ao m c) (hl : news.length = m * sz) (hsrc : SrcAt w ao c news) (h63 : n + m ≤ maxLen) (hbytes : (n + m) * bytes ≤ 140737488355328) (hbase : base ≤ w.heap.size)
    (h : ∀ v' w', w'.ownsRow base e sz v' (n + m) (xs ++ news) → w.grownBy w' v.ownBlock → Value.newOr w v v' → K (a.put o.dst v') w') : o.wp P a w K Q := by
  obtain ⟨v', w', hr, h2, h3, h4⟩ := run_append_src3 (P := P) w base t o.type e i z sz bytes ht hi hz hsize hby hzs hsz v n xs hown ao m c news hl hsrc h63 hbytes hbase
  unfold Oper.wp execOp
  simp only [ho, resolve, invoke, builtin, Sem.run_bind, Sem.run_pure, Result.andThen_ok, List.map_toArray, List.map_cons, List.map_nil, hs, hx, hr]
  exact h v' w' h2 h3 h4

theorem wpList_append_src3 {P : Program} {w : World} {ops : Array Oper} {rest : List Oper} {o : Oper} {a : Act} {Q : Exit → Act → World → Prop} (hgd : o.guard = none) (s x : Operand) (t : TypeId)
    (ho : o.op = .call { callee := .builtin .append, args := #[s, x], argTypes := #[t, t] })
    (base : Nat) (e : TypeId) (i : TypeInfo) (z : Value) (sz bytes : Nat) (ht : P.underlying t = some (.slice e)) (hi : P.info? e = some i) (hz : i.zero = some z)
    (hsize : i.size = sz) (hby : i.bytes = bytes) (hzs : z.cells.size = sz) (hsz : 0 < sz) (v : Value) (n : Nat) (xs : List Value) (hs : a.eval s = v) (hown : w.ownsRow base e sz v n xs)
    (ao : Option Addr) (m c : Nat) (news : List Value) (hx : a.eval x = .slice ao m c) (hl : news.length = m * sz) (hsrc : SrcAt w ao c news) (h63 : n + m ≤ maxLen) (hbytes : (n + m) * bytes ≤ 140737488355328) (hbase : base ≤ w.heap.size)
    (h : ∀ v' w', w'.ownsRow base e sz v' (n + m) (xs ++ news) → w.grownBy w' v.ownBlock → Value.newOr w v v' → wpList P ops Q rest (a.put o.dst v') w') : wpList P ops Q (o :: rest) a w :=
  wpList_plain hgd fun _ hK => wp_append_src3 s x t ho base e i z sz bytes ht hi hz hsize hby hzs hsz v n xs hs hown ao m c news hx hl hsrc h63 hbytes hbase fun v' w' h2 h3 h4 => hK _ _ (h v' w' h2 h3 h4)
end Go.Proofs.Ytdkcpejlojdijaa
