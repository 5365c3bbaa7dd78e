/-
  LeaseFences: the plain law of books and tenants, and what lies in memory; no program in sight.
-/
import Derived.Test.YtlcbliojggjjfaaLeaseWorks
import Derived.Test.YtlcbliojggjjfaaObj
import Derived.Laws.AppendOwn
namespace Go.Proofs.Ytlcbliojggjjfaa
open Go.RowKit

theorem right_is (B : Bool) (E H U : Int) (w : World) (hH1 : -9223372036854775808 ≤ H) (hH2 : H ≤ 9223372036854775807) (h : rightB E H U = B) : Calls Try.prog 10 #[.agg #[.int .i64 E, .int .i64 H, .int .i64 U]] w fun e w' => e = .returned (.bool B) ∧ Below w.heap.size w w' := h ▸ right_any E H U w hH1 hH2
/-- what holds ahead of step k -/
structure FInv (k : Nat) (E H U now a au b bu : Int) (L : List Int) : Prop where
  r : rightB E H U = true
  e : E ≤ k
  n1 : 2 ≤ now
  n2 : now ≤ 2 + 3 * k
  u : U ≤ now + 8
  len : (L.length : Int) = E
  last : 0 ≤ H → L[E.toNat - 1]? = some H
  a1 : 0 ≤ a
  a2 : a ≤ E
  a3 : 0 ≤ au
  a4 : au ≤ now + 8
  b1 : 0 ≤ b
  b2 : b ≤ E
  b3 : 0 ≤ bu
  b4 : bu ≤ now + 8
  ha : 0 < a → a = E → H = 0 ∧ au = U
  la : 0 < a → a < E → au < now
  hb : 0 < b → b = E → H = 1 ∧ bu = U
  lb : 0 < b → b < E → bu < now

theorem FInv.right {k : Nat} {E H U now a au b bu : Int} {L : List Int} (h : FInv k E H U now a au b bu L) :
    0 ≤ E ∧ -1 ≤ H ∧ H ≤ 1 ∧ 0 ≤ U ∧ (0 < E ∨ H = -1) := by
  obtain ⟨r1, r2, r3, r4, r5, r6, r7⟩ := rightB_true h.r
  exact ⟨r1, r3, r4, r5, r7⟩
theorem right_of {E H U : Int} (h1 : 0 ≤ E) (h2 : E ≤ 1000) (h3 : -1 ≤ H) (h4 : H ≤ 1) (h5 : 0 ≤ U) (h6 : U ≤ 5000) (h7 : 0 < E ∨ H = -1) : rightB E H U = true := by
  unfold rightB; exact decide_eq_true ⟨h1, by omega, h3, h4, h5, by omega, h7⟩
theorem FInv.new : FInv 0 0 (-1) 0 2 0 0 0 0 [] := by
  constructor <;> first | decide | (intro h; simp at h) | (intro h _; simp at h) | simp
theorem FInv.next {k : Nat} {E H U now a au b bu : Int} {L : List Int} (h : FInv k E H U now a au b bu L) (d : Int) (h1 : 0 ≤ d) (h2 : d ≤ 3) : FInv (k + 1) E H U (now + d) a au b bu L := by
  obtain ⟨r, e, n1, n2, u, len, last, a1, a2, a3, a4, b1, b2, b3, b4, ha, la, hb, lb⟩ := h
  exact ⟨r, by omega, by omega, by omega, by omega, len, last, a1, a2, a3, by omega, b1, b2, b3, by omega, ha, fun x y => by have := la x y; omega, hb, fun x y => by have := lb x y; omega⟩
theorem FInv.next0 {k : Nat} {E H U now a au b bu : Int} {L : List Int} (h : FInv k E H U now a au b bu L) : FInv (k + 1) E H U now a au b bu L := by
  have := h.next 0 (by omega) (by omega)
  rwa [Int.add_zero] at this

theorem hold_false {ge gu t : Int} (h : ¬ (0 < ge ∧ t ≤ gu - 2)) : holdsB ge gu t = false := by
  cases hh : holdsB ge gu t with
  | false => rfl
  | true =>
    unfold holdsB at hh
    rw [Bool.and_eq_true] at hh
    exact absurd ⟨of_decide_eq_true hh.1, of_decide_eq_true hh.2⟩ h
theorem hold_true {ge gu t : Int} (hh : holdsB ge gu t = true) : 0 < ge ∧ t ≤ gu - 2 := by
  unfold holdsB at hh
  rw [Bool.and_eq_true] at hh
  exact ⟨of_decide_eq_true hh.1, of_decide_eq_true hh.2⟩
/-- never do both hold -/
theorem FInv.both {k : Nat} {E H U now a au b bu : Int} {L : List Int} (h : FInv k E H U now a au b bu L) {s t : Int} (s1 : 0 ≤ s) (s2 : s ≤ 2) (t1 : 0 ≤ t) (t2 : t ≤ 2) (hx : holdsB a au (now - s) = true) : holdsB b bu (now - t) = false := by
  apply hold_false
  obtain ⟨x1, x2⟩ := hold_true hx
  rintro ⟨y1, y2⟩
  rcases Int.lt_or_eq_of_le h.a2 with c | c
  · have := h.la x1 c; omega
  · have p1 := h.ha x1 c
    rcases Int.lt_or_eq_of_le h.b2 with d | d
    · have := h.lb y1 d; omega
    · have p2 := h.hb y1 d; omega

theorem ask_no {E H U p t : Int} (h : (askR E H U p t).er ≠ 0) : askR E H U p t = ⟨E, H, U, 0, 0, (askR E H U p t).er⟩ := by
  unfold askR at h ⊢
  repeat' split
  all_goals first | rfl | (exfalso; simp_all)
theorem renew_no {E H U p n t : Int} (h : (renewR E H U p n t).er ≠ 0) : renewR E H U p n t = ⟨E, H, U, 0, 0, (renewR E H U p n t).er⟩ := by
  unfold renewR at h ⊢
  repeat' split
  all_goals first | rfl | (exfalso; simp_all)
theorem give_no {E H U p n : Int} (h : (giveR E H U p n).er ≠ 0) : giveR E H U p n = ⟨E, H, U, 0, 0, (giveR E H U p n).er⟩ := by
  unfold giveR at h ⊢
  repeat' split
  all_goals first | rfl | (exfalso; simp_all)
theorem ask_yes {E H U p t : Int} (h : (askR E H U p t).er = 0) : ¬ (H = 1 - p ∧ t ≤ U) ∧ askR E H U p t = ⟨E + 1, p, t + 8, E + 1, t + 8, 0⟩ := by
  unfold askR at h ⊢
  split at h
  · rename_i c
    rw [if_pos c]
    split at h
    · simp at h
    · rename_i c2
      rw [if_neg c2]
      split at h
      · simp at h
      · rename_i c3
        rw [if_neg c3]
        exact ⟨c2, rfl⟩
  · simp at h
theorem of_yes {E H p n : Int} (h : ofR E H p n = 0) : n = E ∧ p = H := by
  unfold ofR at h
  split at h
  · omega
  · split at h
    · omega
    · rename_i c d; constructor
      · omega
      · exact Classical.not_not.1 (fun x => d (.inr x))
theorem renew_yes {E H U p n t : Int} (h : (renewR E H U p n t).er = 0) : n = E ∧ p = H ∧ renewR E H U p n t = ⟨E, H, max U (t + 8), E, max U (t + 8), 0⟩ := by
  unfold renewR at h ⊢
  split at h
  · rename_i c
    rw [if_pos c]
    split at h
    · rename_i c2; exact absurd h c2
    · rename_i c2
      rw [if_neg c2]
      have c4 := of_yes (Classical.not_not.1 c2)
      split at h
      · simp at h
      · rename_i c3
        rw [if_neg c3]
        exact ⟨c4.1, c4.2, rfl⟩
  · simp at h
theorem give_yes {E H U p n : Int} (h : (giveR E H U p n).er = 0) : n = E ∧ p = H ∧ giveR E H U p n = ⟨E, -1, U, 0, 0, 0⟩ := by
  unfold giveR at h ⊢
  split at h
  · rename_i c
    rw [if_pos c]
    split at h
    · rename_i c2; exact absurd h c2
    · rename_i c2
      rw [if_neg c2]
      have c4 := of_yes (Classical.not_not.1 c2)
      exact ⟨c4.1, c4.2, rfl⟩
  · simp at h
theorem take_new {ge gu a b : Int} (h1 : 0 ≤ a) (h2 : a ≤ 5000) (h3 : 0 ≤ b) (h4 : b ≤ 5000) (h5 : ge < a) : takeR ge gu a b = ⟨a, b, 0⟩ := by
  unfold takeR
  rw [if_pos (by rw [inL_two]; simp [inB]; omega), if_neg (by omega), if_neg (by omega)]
theorem take_same {ge gu a b : Int} (h1 : 0 ≤ a) (h2 : a ≤ 5000) (h3 : 0 ≤ b) (h4 : b ≤ 5000) (h5 : ge = a) (h6 : gu ≤ b) : takeR ge gu a b = ⟨a, b, 0⟩ := by
  unfold takeR
  rw [if_pos (by rw [inL_two]; simp [inB]; omega), if_neg (by omega), if_pos h5.symm, Int.max_eq_left h6]

theorem FInv.ask0 {k : Nat} {E H U now a au b bu : Int} {L : List Int} (h : FInv k E H U now a au b bu L) (hk : k < 300) {s : Int} (s1 : 0 ≤ s) (s2 : s ≤ 2) (hr : (askR E H U 0 now).er = 0) :
    askR E H U 0 now = ⟨E + 1, 0, now + 8, E + 1, now + 8, 0⟩ ∧ takeR a au (E + 1) (now + 8) = ⟨E + 1, now + 8, 0⟩ ∧ holdsB b bu (now - s) = false ∧ FInv (k + 1) (E + 1) 0 (now + 8) now (E + 1) (now + 8) b bu (L ++ [0]) := by
  obtain ⟨c, hA⟩ := ask_yes hr
  obtain ⟨r1, r3, r4, r5, r7⟩ := h.right
  obtain ⟨r, e, n1, n2, u, len, last, a1, a2, a3, a4, b1, b2, b3, b4, ha, la, hb, lb⟩ := h
  refine ⟨hA, take_new (by omega) (by omega) (by omega) (by omega) (by omega), hold_false (fun ⟨y1, y2⟩ => ?_), ?_⟩
  · rcases Int.lt_or_eq_of_le b2 with d | d
    · have := lb y1 d; omega
    · have := hb y1 d; omega
  · refine ⟨right_of (by omega) (by omega) (by omega) (by omega) (by omega) (by omega) (.inl (by omega)), by omega, n1, by omega, by omega, by simp; omega, fun _ => ?_, by omega, by omega, by omega, by omega, b1, by omega, b3, b4, fun _ _ => ⟨rfl, rfl⟩, fun _ _ => by omega, fun _ _ => by omega, fun y1 _ => ?_⟩
    · have : (E + 1).toNat - 1 = L.length := by omega
      rw [this, List.getElem?_append_right (Nat.le_refl _), Nat.sub_self]; rfl
    · rcases Int.lt_or_eq_of_le b2 with d | d
      · exact lb y1 d
      · have := hb y1 d; omega
theorem FInv.ask1 {k : Nat} {E H U now a au b bu : Int} {L : List Int} (h : FInv k E H U now a au b bu L) (hk : k < 300) {s : Int} (s1 : 0 ≤ s) (s2 : s ≤ 2) (hr : (askR E H U 1 now).er = 0) :
    askR E H U 1 now = ⟨E + 1, 1, now + 8, E + 1, now + 8, 0⟩ ∧ takeR b bu (E + 1) (now + 8) = ⟨E + 1, now + 8, 0⟩ ∧ holdsB a au (now - s) = false ∧ FInv (k + 1) (E + 1) 1 (now + 8) now a au (E + 1) (now + 8) (L ++ [1]) := by
  obtain ⟨c, hA⟩ := ask_yes hr
  obtain ⟨r1, r3, r4, r5, r7⟩ := h.right
  obtain ⟨r, e, n1, n2, u, len, last, a1, a2, a3, a4, b1, b2, b3, b4, ha, la, hb, lb⟩ := h
  refine ⟨hA, take_new (by omega) (by omega) (by omega) (by omega) (by omega), hold_false (fun ⟨y1, y2⟩ => ?_), ?_⟩
  · rcases Int.lt_or_eq_of_le a2 with d | d
    · have := la y1 d; omega
    · have := ha y1 d; omega
  · refine ⟨right_of (by omega) (by omega) (by omega) (by omega) (by omega) (by omega) (.inl (by omega)), by omega, n1, by omega, by omega, by simp; omega, fun _ => ?_, a1, by omega, a3, a4, by omega, by omega, by omega, by omega, fun _ _ => by omega, fun y1 _ => ?_, fun _ _ => ⟨rfl, rfl⟩, fun _ _ => by omega⟩
    · have : (E + 1).toNat - 1 = L.length := by omega
      rw [this, List.getElem?_append_right (Nat.le_refl _), Nat.sub_self]; rfl
    · rcases Int.lt_or_eq_of_le a2 with d | d
      · exact la y1 d
      · have := ha y1 d; omega
theorem FInv.renew0 {k : Nat} {E H U now a au b bu : Int} {L : List Int} (h : FInv k E H U now a au b bu L) (hk : k < 300) {s : Int} (s1 : 0 ≤ s) (s2 : s ≤ 2) (hr : (renewR E H U 0 a now).er = 0) :
    ∃ V, renewR E H U 0 a now = ⟨E, H, V, E, V, 0⟩ ∧ takeR a au E V = ⟨E, V, 0⟩ ∧ holdsB b bu (now - s) = false ∧ L[E.toNat - 1]? = some 0 ∧ 0 < E ∧ FInv (k + 1) E H V now E V b bu L := by
  obtain ⟨c1, c2, hA⟩ := renew_yes hr
  obtain ⟨r1, r3, r4, r5, r7⟩ := h.right
  obtain ⟨r, e, n1, n2, u, len, last, a1, a2, a3, a4, b1, b2, b3, b4, ha, la, hb, lb⟩ := h
  subst c1 c2
  have hp : 0 < a := by omega
  have q := ha hp rfl
  obtain ⟨V, hV⟩ : ∃ V, max U (now + 8) = V := ⟨_, rfl⟩
  have v1 : V = now + 8 := by rw [← hV, Int.max_eq_right u]
  rw [hV] at hA
  refine ⟨V, hA, take_same (by omega) (by omega) (by omega) (by omega) rfl (by omega), hold_false (fun ⟨y1, y2⟩ => ?_), last (by omega), hp, ?_⟩
  · rcases Int.lt_or_eq_of_le b2 with d | d
    · have := lb y1 d; omega
    · have := hb y1 d; omega
  · exact ⟨right_of (by omega) (by omega) (by omega) (by omega) (by omega) (by omega) (.inl (by omega)), by omega, n1, by omega, by omega, len, last, a1, by omega, by omega, by omega, b1, b2, b3, b4, fun _ _ => ⟨rfl, rfl⟩, fun _ _ => by omega, fun y1 y2 => by have := hb y1 y2; omega, lb⟩
theorem FInv.renew1 {k : Nat} {E H U now a au b bu : Int} {L : List Int} (h : FInv k E H U now a au b bu L) (hk : k < 300) {s : Int} (s1 : 0 ≤ s) (s2 : s ≤ 2) (hr : (renewR E H U 1 b now).er = 0) :
    ∃ V, renewR E H U 1 b now = ⟨E, H, V, E, V, 0⟩ ∧ takeR b bu E V = ⟨E, V, 0⟩ ∧ holdsB a au (now - s) = false ∧ L[E.toNat - 1]? = some 1 ∧ 0 < E ∧ FInv (k + 1) E H V now a au E V L := by
  obtain ⟨c1, c2, hA⟩ := renew_yes hr
  obtain ⟨r1, r3, r4, r5, r7⟩ := h.right
  obtain ⟨r, e, n1, n2, u, len, last, a1, a2, a3, a4, b1, b2, b3, b4, ha, la, hb, lb⟩ := h
  subst c1 c2
  have hp : 0 < b := by omega
  have q := hb hp rfl
  obtain ⟨V, hV⟩ : ∃ V, max U (now + 8) = V := ⟨_, rfl⟩
  have v1 : V = now + 8 := by rw [← hV, Int.max_eq_right u]
  rw [hV] at hA
  refine ⟨V, hA, take_same (by omega) (by omega) (by omega) (by omega) rfl (by omega), hold_false (fun ⟨y1, y2⟩ => ?_), last (by omega), hp, ?_⟩
  · rcases Int.lt_or_eq_of_le a2 with d | d
    · have := la y1 d; omega
    · have := ha y1 d; omega
  · exact ⟨right_of (by omega) (by omega) (by omega) (by omega) (by omega) (by omega) (.inl (by omega)), by omega, n1, by omega, by omega, len, last, a1, a2, a3, a4, b1, by omega, by omega, by omega, fun y1 y2 => by have := ha y1 y2; omega, la, fun _ _ => ⟨rfl, rfl⟩, fun _ _ => by omega⟩
theorem FInv.give0 {k : Nat} {E H U now a au b bu : Int} {L : List Int} (h : FInv k E H U now a au b bu L) (hk : k < 300) (hr : (giveR E H U 0 a).er = 0) :
    giveR E H U 0 a = ⟨E, -1, U, 0, 0, 0⟩ ∧ FInv (k + 1) E (-1) U now 0 0 b bu L := by
  obtain ⟨c1, c2, hA⟩ := give_yes hr
  obtain ⟨r1, r3, r4, r5, r7⟩ := h.right
  obtain ⟨r, e, n1, n2, u, len, last, a1, a2, a3, a4, b1, b2, b3, b4, ha, la, hb, lb⟩ := h
  refine ⟨hA, ?_⟩
  exact ⟨right_of (by omega) (by omega) (by omega) (by omega) (by omega) (by omega) (.inr rfl), by omega, n1, by omega, u, len, fun x => by omega, by omega, by omega, by omega, by omega, b1, b2, b3, b4, fun x => by omega, fun x => by omega, fun y1 y2 => by have := hb y1 y2; omega, lb⟩
theorem FInv.give1 {k : Nat} {E H U now a au b bu : Int} {L : List Int} (h : FInv k E H U now a au b bu L) (hk : k < 300) (hr : (giveR E H U 1 b).er = 0) :
    giveR E H U 1 b = ⟨E, -1, U, 0, 0, 0⟩ ∧ FInv (k + 1) E (-1) U now a au 0 0 L := by
  obtain ⟨c1, c2, hA⟩ := give_yes hr
  obtain ⟨r1, r3, r4, r5, r7⟩ := h.right
  obtain ⟨r, e, n1, n2, u, len, last, a1, a2, a3, a4, b1, b2, b3, b4, ha, la, hb, lb⟩ := h
  refine ⟨hA, ?_⟩
  exact ⟨right_of (by omega) (by omega) (by omega) (by omega) (by omega) (by omega) (.inr rfl), by omega, n1, by omega, u, len, fun x => by omega, a1, a2, a3, a4, by omega, by omega, by omega, by omega, fun y1 y2 => by have := ha y1 y2; omega, la, fun x => by omega, fun x => by omega⟩

/-! ### memory -/
def intVals (l : List Int) : List Value := l.map (Value.int .i64)
/-- the book, the clocks, the tenants and the row of who was granted which epoch -/
structure FAt (w0 w : World) (B : Nat) (tb ts tt ti : TypeId) (s0 s1 E H U a au b bu : Int) (v : Value) (L : List Int) : Prop where
  ge : w0.heap.size ≤ B
  book : w.heap[B]? = some (.cells #[.int .i64 E, .int .i64 H, .int .i64 U] tb)
  slow : w.heap[B + 1]? = some (.cells #[.int .i64 s0, .int .i64 s1] ts)
  ten : w.heap[B + 1 + 1]? = some (.cells #[.int .i64 0, .int .i64 a, .int .i64 au, .int .i64 1, .int .i64 b, .int .i64 bu] tt)
  own : w.ownsRow (B + 3) ti 1 v L.length (intVals L)
  below : Below w0.heap.size w0 w

theorem FAt.step {w0 w w' : World} {B : Nat} {tb ts tt ti : TypeId} {s0 s1 E H U a au b bu : Int} {v : Value} {L : List Int} (h : FAt w0 w B tb ts tt ti s0 s1 E H U a au b bu v L) (hb : Below w.heap.size w w') : FAt w0 w' B tb ts tt ti s0 s1 E H U a au b bu v L := by
  refine ⟨h.ge, blk_keep hb h.book, blk_keep hb h.slow, blk_keep hb h.ten, ?_, h.below.trans (hb.mono h.below.size)⟩
  refine h.own.kept (row := none) ⟨hb.os, hb.tape, hb.output, hb.size, fun k hk _ => hb.block k hk⟩ ?_
  cases hv : v.ownBlock with
  | none => exact .inl rfl
  | some x => exact .inr (by simp)
/-- block g alone is written, and it is none of the row's -/
theorem own_only {w w' : World} {base g n : Nat} {e : TypeId} {sz : Nat} {v : Value} {xs : List Value} (h : w.ownsRow base e sz v n xs) (ho : Only g w w') (hg : g < base) : w'.ownsRow base e sz v n xs := by
  refine h.kept (row := some g) ⟨ho.os, ho.tape, ho.output, ho.size, fun k hk hne => ho.block k hk (fun x => hne (by rw [x]))⟩ ?_
  cases hv : v.ownBlock with
  | none => exact .inl rfl
  | some x => exact .inr (fun hx => by have := (h.lt x hv).1; cases hx; omega)
theorem FAt.book_set {w0 w w' : World} {B : Nat} {tb ts tt ti : TypeId} {s0 s1 E H U a au b bu E' H' U' : Int} {v : Value} {L : List Int} (h : FAt w0 w B tb ts tt ti s0 s1 E H U a au b bu v L) (ho : Only B w w')
    (hn : w'.heap[B]? = some (.cells #[.int .i64 E', .int .i64 H', .int .i64 U'] tb)) : FAt w0 w' B tb ts tt ti s0 s1 E' H' U' a au b bu v L :=
  ⟨h.ge, hn, ho.keep (by omega) h.slow, ho.keep (by omega) h.ten, own_only h.own ho (by omega), Only.below h.below h.ge h.below.size ho⟩
theorem FAt.ten_set {w0 w w' : World} {B : Nat} {tb ts tt ti : TypeId} {s0 s1 E H U a au b bu a' au' b' bu' : Int} {v : Value} {L : List Int} (h : FAt w0 w B tb ts tt ti s0 s1 E H U a au b bu v L) (ho : Only (B + 1 + 1) w w')
    (hn : w'.heap[B + 1 + 1]? = some (.cells #[.int .i64 0, .int .i64 a', .int .i64 au', .int .i64 1, .int .i64 b', .int .i64 bu'] tt)) : FAt w0 w' B tb ts tt ti s0 s1 E H U a' au' b' bu' v L :=
  ⟨h.ge, ho.keep (by omega) h.book, ho.keep (by omega) h.slow, hn, own_only h.own ho (by omega), Only.below h.below (by have := h.ge; omega) h.below.size ho⟩
theorem FAt.grow {w0 w w' : World} {B : Nat} {tb ts tt ti : TypeId} {s0 s1 E H U a au b bu x : Int} {v v' : Value} {L : List Int} (h : FAt w0 w B tb ts tt ti s0 s1 E H U a au b bu v L) (hg : w.grownBy w' v.ownBlock)
    (hn : w'.ownsRow (B + 3) ti 1 v' (L.length + 1) (intVals L ++ [.int .i64 x])) : FAt w0 w' B tb ts tt ti s0 s1 E H U a au b bu v' (L ++ [x]) := by
  have hne : ∀ k, k < B + 3 → some k ≠ v.ownBlock := fun k hk he => by have := (h.own.lt k he.symm).1; omega
  have keep : ∀ k o, k < B + 3 → w.heap[k]? = some o → w'.heap[k]? = some o := fun k o hk hb => by rw [hg.block k (blk_lt hb) (hne k hk), hb]
  refine ⟨h.ge, keep _ _ (by omega) h.book, keep _ _ (by omega) h.slow, keep _ _ (by omega) h.ten, ?_, ?_⟩
  · have e1 : (L ++ [x]).length = L.length + 1 := by simp
    have e2 : intVals (L ++ [x]) = intVals L ++ [.int .i64 x] := by simp [intVals]
    rw [e1, e2]; exact hn
  · exact ⟨hg.os.trans h.below.os, hg.tape.trans h.below.tape, hg.output.trans h.below.output, Nat.le_trans h.below.size hg.size, fun k hk => (hg.block k (Nat.lt_of_lt_of_le hk h.below.size) (hne k (by have := h.ge; omega))).trans (h.below.block k hk)⟩
theorem FAt.row {w0 w : World} {B : Nat} {tb ts tt ti : TypeId} {s0 s1 E H U a au b bu : Int} {v : Value} {L : List Int} (h : FAt w0 w B tb ts tt ti s0 s1 E H U a au b bu v L) {i : Nat} {x : Int} (hx : L[i]? = some x) :
    ∃ g cap, v = .slice (some ⟨g, 0, none⟩) L.length cap ∧ w.cell? ⟨g, i, none⟩ = some (.int .i64 x) := by
  have hi := (List.getElem?_eq_some_iff.1 hx).1
  rcases h.own.2 with ⟨_, h0⟩ | ⟨g, cap, cur, rfl, hg, hheap, hncap, hcm, hsz, htake⟩
  · omega
  · refine ⟨g, cap, rfl, ?_⟩
    have h1 : (intVals L)[i]? = some (.int .i64 x) := by simp [intVals, hx]
    rw [← htake, List.getElem?_take, if_pos (by omega), Array.getElem?_toList] at h1
    simp only [World.cell?, hheap]
    exact h1
theorem FAt.len {w0 w : World} {B : Nat} {tb ts tt ti : TypeId} {s0 s1 E H U a au b bu : Int} {v : Value} {L : List Int} (h : FAt w0 w B tb ts tt ti s0 s1 E H U a au b bu v L) :
    ∃ ad cap, v = .slice ad L.length cap := by
  rcases h.own.2 with ⟨rfl, h0⟩ | ⟨g, cap, cur, rfl, hg, hheap, hncap, hcm, hsz, htake⟩
  · exact ⟨none, 0, by rw [h0]⟩
  · exact ⟨_, cap, rfl⟩
theorem FAt.cells {w0 w : World} {B : Nat} {tb ts tt ti : TypeId} {s0 s1 E H U a au b bu : Int} {v : Value} {L : List Int} (h : FAt w0 w B tb ts tt ti s0 s1 E H U a au b bu v L) :
    (w.cell? ⟨B, 0, none⟩ = some (.int .i64 E) ∧ w.cell? ⟨B, 1, none⟩ = some (.int .i64 H) ∧ w.cell? ⟨B, 2, none⟩ = some (.int .i64 U)) ∧
    (w.cell? ⟨B + 1, 0, none⟩ = some (.int .i64 s0) ∧ w.cell? ⟨B + 1, 1, none⟩ = some (.int .i64 s1)) ∧
    (w.cell? ⟨B + 1 + 1, 0, none⟩ = some (.int .i64 0) ∧ w.cell? ⟨B + 1 + 1, 1, none⟩ = some (.int .i64 a) ∧ w.cell? ⟨B + 1 + 1, 2, none⟩ = some (.int .i64 au) ∧ w.cell? ⟨B + 1 + 1, 3, none⟩ = some (.int .i64 1) ∧ w.cell? ⟨B + 1 + 1, 4, none⟩ = some (.int .i64 b) ∧ w.cell? ⟨B + 1 + 1, 5, none⟩ = some (.int .i64 bu)) :=
  ⟨⟨blk_cell h.book 0 _ rfl, blk_cell h.book 1 _ rfl, blk_cell h.book 2 _ rfl⟩, ⟨blk_cell h.slow 0 _ rfl, blk_cell h.slow 1 _ rfl⟩, ⟨blk_cell h.ten 0 _ rfl, blk_cell h.ten 1 _ rfl, blk_cell h.ten 2 _ rfl, blk_cell h.ten 3 _ rfl, blk_cell h.ten 4 _ rfl, blk_cell h.ten 5 _ rfl⟩⟩
/-! ### where the ways of a step meet -/
def CutA0 (k : Nat) (OT : Bool) (E er E2 H2 U2 nw a au b bu ge gu : Int) (L : List Int) : Prop :=
  E ≤ E2 ∧ E2 ≤ E + 1 ∧ rightB E2 H2 U2 = true ∧
  ((er ≠ 0 ∧ FInv (k + 1) E2 H2 U2 nw a au b bu L) ∨ (er = 0 ∧ OT = false ∧ ge = E2 ∧ 0 < E2 ∧ takeR a au E2 gu = ⟨E2, gu, 0⟩ ∧
    ((E2 = E + 1 ∧ FInv (k + 1) E2 H2 U2 nw E2 gu b bu (L ++ [0])) ∨ (E2 = E ∧ L[E.toNat - 1]? = some 0 ∧ FInv (k + 1) E2 H2 U2 nw E2 gu b bu L))))
def CutA1 (k : Nat) (OT : Bool) (E er E2 H2 U2 nw a au b bu ge gu : Int) (L : List Int) : Prop :=
  E ≤ E2 ∧ E2 ≤ E + 1 ∧ rightB E2 H2 U2 = true ∧
  ((er ≠ 0 ∧ FInv (k + 1) E2 H2 U2 nw a au b bu L) ∨ (er = 0 ∧ OT = false ∧ ge = E2 ∧ 0 < E2 ∧ takeR b bu E2 gu = ⟨E2, gu, 0⟩ ∧
    ((E2 = E + 1 ∧ FInv (k + 1) E2 H2 U2 nw a au E2 gu (L ++ [1])) ∨ (E2 = E ∧ L[E.toNat - 1]? = some 1 ∧ FInv (k + 1) E2 H2 U2 nw a au E2 gu L))))
theorem cutA0_no {k : Nat} {OT : Bool} {E er H U nw a au b bu ge gu : Int} {L : List Int} (h : FInv (k + 1) E H U nw a au b bu L) (he : er ≠ 0) : CutA0 k OT E er E H U nw a au b bu ge gu L :=
  ⟨Int.le_refl _, by omega, h.r, .inl ⟨he, h⟩⟩
theorem cutA1_no {k : Nat} {OT : Bool} {E er H U nw a au b bu ge gu : Int} {L : List Int} (h : FInv (k + 1) E H U nw a au b bu L) (he : er ≠ 0) : CutA1 k OT E er E H U nw a au b bu ge gu L :=
  ⟨Int.le_refl _, by omega, h.r, .inl ⟨he, h⟩⟩
theorem cutA0_ask {k : Nat} {OT : Bool} {E H U nw a au b bu gu : Int} {L : List Int} (ho : OT = false) (ht : takeR a au (E + 1) gu = ⟨E + 1, gu, 0⟩) (h : FInv (k + 1) (E + 1) H U nw (E + 1) gu b bu (L ++ [0])) (h0 : 0 ≤ E) : CutA0 k OT E 0 (E + 1) H U nw a au b bu (E + 1) gu L :=
  ⟨by omega, Int.le_refl _, h.r, .inr ⟨rfl, ho, rfl, by omega, ht, .inl ⟨rfl, h⟩⟩⟩
theorem cutA1_ask {k : Nat} {OT : Bool} {E H U nw a au b bu gu : Int} {L : List Int} (ho : OT = false) (ht : takeR b bu (E + 1) gu = ⟨E + 1, gu, 0⟩) (h : FInv (k + 1) (E + 1) H U nw a au (E + 1) gu (L ++ [1])) (h0 : 0 ≤ E) : CutA1 k OT E 0 (E + 1) H U nw a au b bu (E + 1) gu L :=
  ⟨by omega, Int.le_refl _, h.r, .inr ⟨rfl, ho, rfl, by omega, ht, .inl ⟨rfl, h⟩⟩⟩
theorem cutA0_renew {k : Nat} {OT : Bool} {E H U nw a au b bu gu : Int} {L : List Int} (ho : OT = false) (ht : takeR a au E gu = ⟨E, gu, 0⟩) (hl : L[E.toNat - 1]? = some 0) (h0 : 0 < E) (h : FInv (k + 1) E H U nw E gu b bu L) : CutA0 k OT E 0 E H U nw a au b bu E gu L :=
  ⟨by omega, by omega, h.r, .inr ⟨rfl, ho, rfl, h0, ht, .inr ⟨rfl, hl, h⟩⟩⟩
theorem cutA1_renew {k : Nat} {OT : Bool} {E H U nw a au b bu gu : Int} {L : List Int} (ho : OT = false) (ht : takeR b bu E gu = ⟨E, gu, 0⟩) (hl : L[E.toNat - 1]? = some 1) (h0 : 0 < E) (h : FInv (k + 1) E H U nw a au E gu L) : CutA1 k OT E 0 E H U nw a au b bu E gu L :=
  ⟨by omega, by omega, h.r, .inr ⟨rfl, ho, rfl, h0, ht, .inr ⟨rfl, hl, h⟩⟩⟩
theorem own_other {w w' : World} {base g n : Nat} {e : TypeId} {sz : Nat} {v : Value} {xs : List Value} (h : w.ownsRow base e sz v n xs) (ho : Only g w w') (hg : v.ownBlock ≠ some g) : w'.ownsRow base e sz v n xs :=
  h.kept (row := some g) ⟨ho.os, ho.tape, ho.output, ho.size, fun k hk hne => ho.block k hk (fun x => hne (by rw [x]))⟩ (.inr hg)
/-- another block than all of these is written -/
theorem FAt.other {w0 w w' : World} {B g : Nat} {tb ts tt ti : TypeId} {s0 s1 E H U a au b bu : Int} {v : Value} {L : List Int} (h : FAt w0 w B tb ts tt ti s0 s1 E H U a au b bu v L) (ho : Only g w w') (hg : v.ownBlock ≠ some g) (hB : B + 1 + 1 < g) :
    FAt w0 w' B tb ts tt ti s0 s1 E H U a au b bu v L :=
  ⟨h.ge, ho.keep (by omega) h.book, ho.keep (by omega) h.slow, ho.keep (by omega) h.ten, own_other h.own ho hg, Only.below h.below (by have := h.ge; omega) h.below.size ho⟩
theorem only_set3 (g : Nat) (w : World) (x y z : Value) : Only g w (((w.setCell ⟨g, 0, none⟩ x).setCell ⟨g, 1, none⟩ y).setCell ⟨g, 2, none⟩ z) := (((Only.refl g w).setCell rfl _).setCell rfl _).setCell rfl _
theorem only_set2 (g : Nat) (w : World) (x y : Value) : Only g w ((w.setCell ⟨g, 0, none⟩ x).setCell ⟨g, 1, none⟩ y) := ((Only.refl g w).setCell rfl _).setCell rfl _
theorem FAt.book3 {w0 w : World} {B : Nat} {tb ts tt ti : TypeId} {s0 s1 E H U a au b bu E' H' U' : Int} {v : Value} {L : List Int} (h : FAt w0 w B tb ts tt ti s0 s1 E H U a au b bu v L) :
    FAt w0 (((w.setCell ⟨B, 0, none⟩ (.int .i64 E')).setCell ⟨B, 1, none⟩ (.int .i64 H')).setCell ⟨B, 2, none⟩ (.int .i64 U')) B tb ts tt ti s0 s1 E' H' U' a au b bu v L :=
  h.book_set (only_set3 B w _ _ _) (blk_set (blk_set (blk_set h.book 0 _) 1 _) 2 _)
theorem FAt.answer {w0 w : World} {B g : Nat} {tb ts tt ti tg : TypeId} {s0 s1 E H U a au b bu E' H' U' c d : Int} {v : Value} {L : List Int} (h : FAt w0 w B tb ts tt ti s0 s1 E H U a au b bu v L) (hg : v.ownBlock ≠ some g) (hB : B + 1 + 1 < g)
    (hk : w.heap[g]? = some (.cells #[.int .i64 c, .int .i64 d] tg)) (x y : Int) :
    FAt w0 (((((w.setCell ⟨B, 0, none⟩ (.int .i64 E')).setCell ⟨B, 1, none⟩ (.int .i64 H')).setCell ⟨B, 2, none⟩ (.int .i64 U')).setCell ⟨g, 0, none⟩ (.int .i64 x)).setCell ⟨g, 1, none⟩ (.int .i64 y)) B tb ts tt ti s0 s1 E' H' U' a au b bu v L ∧
    (((((w.setCell ⟨B, 0, none⟩ (.int .i64 E')).setCell ⟨B, 1, none⟩ (.int .i64 H')).setCell ⟨B, 2, none⟩ (.int .i64 U')).setCell ⟨g, 0, none⟩ (.int .i64 x)).setCell ⟨g, 1, none⟩ (.int .i64 y)).heap[g]? = some (.cells #[.int .i64 x, .int .i64 y] tg) :=
  ⟨h.book3.other (only_set2 g _ _ _) hg hB, blk_set (blk_set ((only_set3 B w _ _ _).keep (by omega) hk) 0 _) 1 _⟩
theorem FAt.ten0 {w0 w : World} {B : Nat} {tb ts tt ti : TypeId} {s0 s1 E H U a au b bu x y : Int} {v : Value} {L : List Int} (h : FAt w0 w B tb ts tt ti s0 s1 E H U a au b bu v L) :
    FAt w0 (((w.setCell ⟨B + 1 + 1, 0, none⟩ (.int .i64 0)).setCell ⟨B + 1 + 1, 1, none⟩ (.int .i64 x)).setCell ⟨B + 1 + 1, 2, none⟩ (.int .i64 y)) B tb ts tt ti s0 s1 E H U x y b bu v L :=
  h.ten_set (only_set3 _ w _ _ _) (blk_set (blk_set (blk_set h.ten 0 _) 1 _) 2 _)
theorem only_set3' (g : Nat) (w : World) (x y z : Value) : Only g w (((w.setCell ⟨g, 3, none⟩ x).setCell ⟨g, 4, none⟩ y).setCell ⟨g, 5, none⟩ z) := (((Only.refl g w).setCell rfl _).setCell rfl _).setCell rfl _
theorem FAt.ten1 {w0 w : World} {B : Nat} {tb ts tt ti : TypeId} {s0 s1 E H U a au b bu x y : Int} {v : Value} {L : List Int} (h : FAt w0 w B tb ts tt ti s0 s1 E H U a au b bu v L) :
    FAt w0 (((w.setCell ⟨B + 1 + 1, 3, none⟩ (.int .i64 1)).setCell ⟨B + 1 + 1, 4, none⟩ (.int .i64 x)).setCell ⟨B + 1 + 1, 5, none⟩ (.int .i64 y)) B tb ts tt ti s0 s1 E H U a au x y v L :=
  h.ten_set (only_set3' _ w _ _ _) (blk_set (blk_set (blk_set h.ten 3 _) 4 _) 5 _)
end Go.Proofs.Ytlcbliojggjjfaa
