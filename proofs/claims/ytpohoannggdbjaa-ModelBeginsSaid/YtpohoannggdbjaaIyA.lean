/-
 Layer 10: states stay within their bounds, plainly; the document's cycle is the machine's.
-/
import Derived.Test.YtpohoannggdbjaaIxM
import Derived.Test.YtpohoannggdbjaaIxJ
namespace Go.Proofs.Ytpohoannggdbjaa
open Go.RowKit
set_option maxRecDepth 100000
theorem pt_ltA (l : List (Int × Bool)) (h : ∀ n ∈ l, 0 ≤ n.1 ∧ n.1 ≤ 31) : ∀ p, p < 4294967296 → ptL l p < 4294967296 := by
 induction l with
 | nil => intro p hp; exact hp
 | cons a l ih =>
   intro p hp
   unfold ptL
   rw [List.foldl_cons]
   refine ih (fun n hn => h n (List.mem_cons_of_mem _ hn)) _ ?_
   have ha := h a List.mem_cons_self
   split
   ·rw [withBit_or]; exact Nat.or_lt_two_pow (n := 32) hp (Nat.pow_lt_pow_right (by omega) (by omega))
   ·exact Nat.lt_of_le_of_lt (woBit_le _ _) hp
theorem pt_ok {T : Tb} (hT : TbOk T) {x : Rw} (hx : x ∈ T.rw) {p : Nat} (hp : p < 4294967296) : ptL x.nd p < 4294967296 :=
 pt_ltA _ (fun n hn => by have h := (hT.rw x hx).nd n hn; have := hT.pn; omega) _ hp
theorem row_63 {T : Tb} (hT : TbOk T) {n : Nat} {x : Rw} (hx : T.rw[n]? = some x) : n ≤ 63 := by
 have := (List.getElem?_eq_some_iff.1 hx).1; have := hT.rn; omega
theorem setS_ok {T : Tb} (hT : TbOk T) {s : St} (h : s.ok) (oc : Nat) {n : Nat} {x : Rw} (hx : T.rw[n]? = some x) : (setS T s oc n x).ok := by
 unfold setS
 split
 ·exact ⟨withBit_lt _ _ (row_63 hT hx) h.lk, h.us, h.ca, h.tm, pt_ok hT (List.mem_of_getElem? hx) h.pt⟩
 ·exact h
theorem canD_ok {T : Tb} (hT : TbOk T) {s : St} (h : s.ok) (oc : Nat) {n : Nat} {x : Rw} (hx : T.rw[n]? = some x) : (canD s oc n x).ok := by
 unfold canD
 split
 ·refine ⟨h.lk, h.us, withBit_lt _ _ (row_63 hT hx) h.ca, ?_, h.pt⟩
  dsimp only
  split
  ·exact upd_le h.tm n (by omega)
  ·exact upd_le h.tm n (by omega)
 ·exact h
theorem movS_ok {T : Tb} (hT : TbOk T) {s : St} (h : s.ok) (oc : Nat) {p : Nat} (hp : p < T.li.length) : (movS T s oc p).ok := by
 unfold movS
 split
 ·exact ⟨h.lk, h.us, h.ca, h.tm, flipB_lt32 (by have := hT.pn; omega) h.pt⟩
 ·exact h
theorem comD_ok {T : Tb} (hT : TbOk T) {s : St} (h : s.ok) (oc : Nat) (c : Nat × Int) : (comD T s oc c).ok := by
 unfold comD comG
 split
 ·exact h
 ·split
  ·split
   ·exact movS_ok hT h oc (by assumption)
   ·exact h
  ·cases hx : T.rw[c.2.toNat]? with
   | none => exact h
   | some x =>
     dsimp only
     split
     ·exact setS_ok hT h oc hx
     ·split
      ·exact canD_ok hT h oc hx
      ·exact h
theorem comsD_ok {T : Tb} (hT : TbOk T) (oc : Nat) : ∀ (l : List (Nat × Int)) (s : St), s.ok → (comsG canD T oc l s).ok
 | [], _, h => h
 | c :: l, s, h => comsD_ok hT oc l (comD T s oc c) (comD_ok hT h oc c)
theorem rel_ok {s : St} (h : s.ok) (n : Nat) : (relS s n).ok :=
 ⟨Nat.lt_of_le_of_lt (woBit_le _ _) h.lk, Nat.lt_of_le_of_lt (woBit_le _ _) h.us, Nat.lt_of_le_of_lt (woBit_le _ _) h.ca, upd_le h.tm n (by omega), h.pt⟩
theorem rou_ok {s : St} (h : s.ok) (oc u : Nat) {n : Nat} (hn : n ≤ 63) (x : Rw) : (rouS s oc u n x).ok := by
 unfold rouS
 split
 ·split
  ·exact rel_ok h n
  ·exact h
 ·split
  ·exact ⟨h.lk, withBit_lt _ _ hn h.us, h.ca, h.tm, h.pt⟩
  ·split
   ·split
    ·exact ⟨h.lk, h.us, h.ca, upd_le h.tm n (by have := h.tm n; omega), h.pt⟩
    ·split
     ·exact rel_ok h n
     ·exact h
   ·exact h
theorem rous_ok {T : Tb} (hT : TbOk T) (oc u : Nat) {s : St} (h : s.ok) : ∀ k, (rousS T oc u s k).ok
 | 0 => h
 | k + 1 => by
   have ih := rous_ok hT oc u h k
   show (if _ then _ else _ : St).ok
   split
   ·cases hx : T.rw[k]? with
    | none => exact ih
    | some x => exact rou_ok ih oc u (row_63 hT hx) x
   ·exact ih
theorem tidy_okL {L : Lay} {s : St} (h : s.ok) : (tidyS L.rt.l.length L.po.l.length s).ok := tidy_ok _ _ h
/-- timers stand where a route is cancelled alone -/
def Zt (s : St) : Prop := ∀ n, hasBit s.ca n = false → s.tm n = 0
theorem zt_tidy (N P : Nat) (s : St) : Zt (tidyS N P s) := by
 intro n h
 have h : hasBit (s.ca &&& (s.lk &&& (pw N - 1))) n = false := h
 show (if hasBit (s.ca &&& (s.lk &&& (pw N - 1))) n then min (s.tm n) 20 else 0) = 0
 rw [h]; rfl
theorem upd_same (f : Nat → Nat) {n : Nat} (h : f n = 0) : upd f n 0 = f := by
 funext k
 unfold upd
 by_cases e : k = n
 ·rw [if_pos e, e, h]
 ·rw [if_neg e]
theorem can_same {s : St} (h : Zt s) (oc n : Nat) (x : Rw) : canD s oc n x = canS s oc n x := by
 unfold canD canS
 cases hm : mayCan s n with
 | false => rfl
 | true =>
   have hc : hasBit s.ca n = false := by
    unfold mayCan at hm
    simp only [Bool.and_eq_true, Bool.not_eq_true'] at hm
    exact hm.2.2
   rw [upd_same _ (h n hc)]
theorem has_withT (x k i : Nat) : hasBit (withBit x k) i = (hasBit x i || decide (k = i)) := has_with x k i
theorem zt_set {T : Tb} {s : St} (h : Zt s) (oc n : Nat) (x : Rw) : Zt (setS T s oc n x) := by
 unfold setS
 split
 ·exact h
 ·exact h
theorem zt_can {s : St} (h : Zt s) (oc n : Nat) (x : Rw) : Zt (canS s oc n x) := by
 unfold canS
 split
 ·intro k hk
  have hk : hasBit (withBit s.ca n) k = false := hk
  rw [has_with, Bool.or_eq_false_iff, decide_eq_false_iff_not] at hk
  dsimp only
  split
  ·rw [upd_ne _ _ (fun e => hk.2 e.symm)]; exact h k hk.1
  ·exact h k hk.1
 ·exact h
theorem zt_mov {T : Tb} {s : St} (h : Zt s) (oc p : Nat) : Zt (movS T s oc p) := by
 unfold movS
 split
 ·exact h
 ·exact h
theorem com_same {T : Tb} {s : St} (h : Zt s) (oc : Nat) (c : Nat × Int) : comD T s oc c = comS T s oc c := by
 unfold comD comS comG
 split
 ·rfl
 ·split
  ·rfl
  ·cases hx : T.rw[c.2.toNat]? with
   | none => rfl
   | some x => dsimp only; rw [can_same h]
theorem zt_com {T : Tb} {s : St} (h : Zt s) (oc : Nat) (c : Nat × Int) : Zt (comS T s oc c) := by
 unfold comS comG
 split
 ·exact h
 ·split
  ·split
   ·exact zt_mov h _ _
   ·exact h
  ·cases hx : T.rw[c.2.toNat]? with
   | none => exact h
   | some x =>
     dsimp only
     split
     ·exact zt_set h _ _ _
     ·split
      ·exact zt_can h _ _ _
      ·exact h
theorem coms_same {T : Tb} (oc : Nat) : ∀ (l : List (Nat × Int)) (s : St), Zt s → comsG canD T oc l s = comsG canS T oc l s
 | [], _, _ => rfl
 | c :: l, s, h => by
   show comsG canD T oc l (comD T s oc c) = comsG canS T oc l (comS T s oc c)
   rw [com_same h, coms_same oc l _ (zt_com h oc c)]
def nextD := nextG canD
theorem next_same (T : Tb) (s : St) (oc : Nat) (l : List (Nat × Int)) : nextD T s oc l = nextS T s oc l := by
 show nextG canD T s oc l = nextG canS T s oc l
 unfold nextG
 rw [coms_same oc _ _ (zt_tidy _ _ s)]
theorem nextD_is (T : Tb) (s : St) (oc : Nat) (l : List (Nat × Int)) : nextD T s oc l = rousS T oc (tidyS T.rw.length T.li.length s).us (comsG canD T oc (l.take 8) (tidyS T.rw.length T.li.length s)) T.rw.length := rfl
end Go.Proofs.Ytpohoannggdbjaa
