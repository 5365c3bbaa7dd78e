/-
  Chapter 14: a disk and the document's, side by side.
-/
import Derived.Test.YtncijclhfndniaaDiskU
import Derived.Test.YtncijclhfndniaaDiskV
namespace Go.Proofs.Ytncijclhfndniaa
open Go.RowKit
attribute [local irreducible] byteVals okB zeros pad strOf padTo strVals rwVs
/-- a disk and the document's disk, beside the blocks of Z and beside each other -/
def P2 (Z : Nat → Prop) (w : World) (d m : Nat) (s t : Dk) : Prop := (∀ k, Z k → k < w.heap.size) ∧ ∃ X Y, DAt w X d s ∧ RAt w Y m t ∧ (∀ k, X k → ¬ Z k) ∧ (∀ k, Y k → ¬ Z k) ∧ ∀ k, X k → ¬ Y k
theorem P2.below {Z : Nat → Prop} {w w' : World} {d m : Nat} {s t : Dk} (h : P2 Z w d m s t) (hb : Below w.heap.size w w') : P2 Z w' d m s t := by
  obtain ⟨h1, X, Y, h2, h3, h4, h5, h6⟩ := h
  exact ⟨fun k hk => Nat.lt_of_lt_of_le (h1 k hk) hb.size, X, Y, h2.below hb, h3.below hb, h4, h5, h6⟩
theorem P2.mono {Z V : Nat → Prop} {w : World} {d m : Nat} {s t : Dk} (h : P2 Z w d m s t) (hv : ∀ k, V k → Z k) : P2 V w d m s t := by
  obtain ⟨h1, X, Y, h2, h3, h4, h5, h6⟩ := h
  exact ⟨fun k hk => h1 k (hv k hk), X, Y, h2, h3, fun k hk hn => h4 k hk (hv k hn), fun k hk hn => h5 k hk (hv k hn), h6⟩
theorem P2.news {Z N V : Nat → Prop} {w w' : World} {d m : Nat} {s t : Dk} (h : P2 Z w d m s t) (hb : Below w.heap.size w w') (hN : ∀ k, N k → w.heap.size ≤ k ∧ k < w'.heap.size) (hV : ∀ k, V k → Z k ∨ N k) : P2 V w' d m s t := by
  obtain ⟨h1, X, Y, h2, h3, h4, h5, h6⟩ := h
  refine ⟨fun k hk => ?_, X, Y, h2.below hb, h3.below hb, fun k hk hn => ?_, fun k hk hn => ?_, h6⟩
  · rcases hV k hk with hk | hk
    · exact Nat.lt_of_lt_of_le (h1 k hk) hb.size
    · exact (hN k hk).2
  · rcases hV k hn with hn | hn
    · exact h4 k hk hn
    · have := h2.lt k hk; have := (hN k hn).1; omega
  · rcases hV k hn with hn | hn
    · exact h5 k hk hn
    · have := h3.lt k hk; have := (hN k hn).1; omega
theorem P2.set {Z : Nat → Prop} {w w' : World} {d m b : Nat} {s t : Dk} (h : P2 Z w d m s t) (ho : Only b w w') (hb : Z b) : P2 Z w' d m s t := by
  obtain ⟨h1, X, Y, h2, h3, h4, h5, h6⟩ := h
  exact ⟨fun k hk => Nat.lt_of_lt_of_le (h1 k hk) ho.size, X, Y, h2.keep ho.size (fun k hk => ho.block k (h2.lt k hk) (fun e => h4 k hk (e ▸ hb))), h3.keep ho.size (fun k hk => ho.block k (h3.lt k hk) (fun e => h5 k hk (e ▸ hb))), h4, h5, h6⟩
theorem P2.dstep {Z : Nat → Prop} {w w' : World} {d m : Nat} {s' t : Dk} {X X' Y : Nat → Prop} (h1 : ∀ k, Z k → k < w.heap.size) (h3 : RAt w Y m t) (h4 : ∀ k, X k → ¬ Z k) (h5 : ∀ k, Y k → ¬ Z k) (h6 : ∀ k, X k → ¬ Y k)
    (hd : DAt w' X' d s') (hg : Gr X X' w.heap.size) (hb : Bar X w w') : P2 Z w' d m s' t ∧ Kz Z w w' := by
  refine ⟨⟨fun k hk => Nat.lt_of_lt_of_le (h1 k hk) hb.size, X', Y, hd, h3.keep hb.size (fun k hk => hb.block k (h3.lt k hk) (fun hx => h6 k hx hk)), fun k hk hn => ?_, h5, fun k hk hn => ?_⟩, hb.mono (fun k _ hk => h4 k hk)⟩
  · rcases hg k hk with h | h
    · exact h4 k h hn
    · have := h1 k hn; omega
  · rcases hg k hk with h | h
    · exact h6 k h hn
    · have := h3.lt k hn; omega
theorem P2.mstep {Z : Nat → Prop} {w w' : World} {d m : Nat} {s t' : Dk} {X Y Y' : Nat → Prop} (h1 : ∀ k, Z k → k < w.heap.size) (h2 : DAt w X d s) (h4 : ∀ k, X k → ¬ Z k) (h5 : ∀ k, Y k → ¬ Z k) (h6 : ∀ k, X k → ¬ Y k)
    (hd : RAt w' Y' m t') (hg : Gr Y Y' w.heap.size) (hb : Bar Y w w') : P2 Z w' d m s t' ∧ Kz Z w w' := by
  refine ⟨⟨fun k hk => Nat.lt_of_lt_of_le (h1 k hk) hb.size, X, Y', h2.keep hb.size (fun k hk => hb.block k (h2.lt k hk) (fun hx => h6 k hk hx)), hd, h4, fun k hk hn => ?_, fun k hk hn => ?_⟩, hb.mono (fun k _ hk => h5 k hk)⟩
  · rcases hg k hk with h | h
    · exact h5 k h hn
    · have := h1 k hn; omega
  · rcases hg k hn with h | h
    · exact h6 k hk h
    · have := h2.lt k hk; omega
theorem xg_of {w : World} {X : Nat → Prop} {g : Nat} {s : Dk} (h : DAt w X g s) : X g := by obtain ⟨ad, cb, v, ap, h⟩ := h; exact h.xg
theorem xr_of {w : World} {Y : Nat → Prop} {r : Nat} {s : Dk} (h : RAt w Y r s) : Y r := by obtain ⟨vb, vo, inn, h⟩ := h; exact h.xr
/-- what the disk's Read answers -/
def ReadP (s : Dk) (i : Int) (w : World) (e : Ending) (w' : World) : Prop := ∃ a c n, n = (s.rd i).length ∧ e = .returned (.tuple #[.slice a n c, .int .i64 (s.ask i)]) ∧ BytesAt w' a (s.rd i) ∧ n ≤ 256 ∧ (n = 0 ∨ ∃ B, a = some ⟨B, 0, none⟩ ∧ w.heap.size ≤ B ∧ B < w'.heap.size ∧ Mine w' B (s.rd i)) ∧ Below w.heap.size w w'
theorem lastOf_ok {m : Nat} {x : List Nat} : ∀ {l : List (Nat × List Nat)}, lastOf m l = some x → ∃ p ∈ l, p.2 = x := by
  intro l
  induction l with
  | nil => intro h; simp [lastOf] at h
  | cons p l ih =>
    intro h
    simp only [lastOf] at h
    cases hl : lastOf m l with
    | some y =>
      rw [hl] at h
      obtain ⟨q, hq, e⟩ := ih (hl.trans (by simpa using h))
      exact ⟨q, List.mem_cons_of_mem _ hq, e⟩
    | none =>
      rw [hl] at h
      by_cases hp : p.1 = m
      · simp [hp] at h; exact ⟨p, List.mem_cons_self, h⟩
      · simp [hp] at h
theorem rd_ok {s : Dk} (h : s.ok) (i : Int) : s.rd i = [] ∨ okB (s.rd i) := by
  unfold Dk.rd
  by_cases ha : s.ask i = 0
  · rw [if_pos ha]
    right
    unfold Dk.at
    cases hl : lastOf i.toNat s.op with
    | some x =>
      obtain ⟨p, hp, e⟩ := lastOf_ok hl
      rw [← e]; exact (h.opn p hp).2
    | none =>
      have hi : i.toNat < s.bl.length := by
        unfold Dk.ask at ha
        split at ha
        · cases ha
        · split at ha
          · cases ha
          · omega
      show okB (s.bl.getD i.toNat [])
      rw [List.getD_eq_getElem?_getD, List.getElem?_eq_getElem hi]
      exact h.blk _ (List.getElem_mem _)
  · rw [if_neg ha]; exact .inl rfl
theorem rd_len {s : Dk} (h : s.ok) (i : Int) : (s.rd i).length ≤ 256 := by
  rcases rd_ok h i with e | e
  · rw [e]; exact Nat.zero_le _
  · unfold okB at e; omega
section
variable {Z : Nat → Prop} {w : World} {d m : Nat} {s t : Dk} (h : P2 Z w d m s t)
include h
theorem p_sync_d : Calls Try.prog 11 #[.pointer (some ⟨d, 0, none⟩)] w fun e w' => e = .returned (.int .i64 s.sCode) ∧ P2 Z w' d m s.sync t ∧ Kz Z w w' := by
  obtain ⟨h1, X, Y, h2, h3, h4, h5, h6⟩ := h
  refine (sync_any s X d w h2).mono ?_
  rintro e w' ⟨rfl, hd, hb⟩
  exact ⟨rfl, P2.dstep h1 h3 h4 h5 h6 hd (Gr.refl _ _) hb⟩
theorem p_sync_m : Calls Try.prog 33 #[.pointer (some ⟨m, 0, none⟩)] w fun e w' => e = .returned (.int .i64 t.sCode) ∧ P2 Z w' d m s t.sync ∧ Kz Z w w' := by
  obtain ⟨h1, X, Y, h2, h3, h4, h5, h6⟩ := h
  refine (rsync_any t Y m w h3).mono ?_
  rintro e w' ⟨rfl, hd, hb⟩
  exact ⟨rfl, P2.mstep h1 h2 h4 h5 h6 hd (Gr.refl _ _) hb⟩
theorem p_fail_d (n : Int) (hn : n ≤ 9223372036854775807) : Calls Try.prog 9 #[.pointer (some ⟨d, 0, none⟩), .int .i64 n] w fun e w' => e = .returned (.tuple #[]) ∧ P2 Z w' d m (s.fail n) t ∧ Kz Z w w' := by
  obtain ⟨h1, X, Y, h2, h3, h4, h5, h6⟩ := h
  refine (fail_any s X d n w h2 hn).mono ?_
  rintro e w' ⟨X', rfl, hd, hg, hb⟩
  exact ⟨rfl, P2.dstep h1 h3 h4 h5 h6 hd hg ((Bar.refl X w).only hb (fun _ => xg_of h2))⟩
theorem p_fail_m (n : Int) (hn : n ≤ 9223372036854775807) : Calls Try.prog 35 #[.pointer (some ⟨m, 0, none⟩), .int .i64 n] w fun e w' => e = .returned (.tuple #[]) ∧ P2 Z w' d m s (t.fail n) ∧ Kz Z w w' := by
  obtain ⟨h1, X, Y, h2, h3, h4, h5, h6⟩ := h
  refine (rfail_any t Y m n w h3 hn).mono ?_
  rintro e w' ⟨rfl, hd, hb⟩
  exact ⟨rfl, P2.mstep h1 h2 h4 h5 h6 hd (Gr.refl _ _) ((Bar.refl Y w).only hb (fun _ => xr_of h3))⟩
theorem p_crash_d : Calls Try.prog 13 #[.pointer (some ⟨d, 0, none⟩)] w fun e w' => e = .returned (.tuple #[]) ∧ P2 Z w' d m s.crash t ∧ Kz Z w w' := by
  obtain ⟨h1, X, Y, h2, h3, h4, h5, h6⟩ := h
  refine (crash_any s X d w h2).mono ?_
  rintro e w' ⟨rfl, hd, hb⟩
  exact ⟨rfl, P2.dstep h1 h3 h4 h5 h6 hd (Gr.refl _ _) ((Bar.refl X w).only hb (fun _ => xg_of h2))⟩
theorem p_crash_m : Calls Try.prog 36 #[.pointer (some ⟨m, 0, none⟩)] w fun e w' => e = .returned (.tuple #[]) ∧ P2 Z w' d m s t.crash ∧ Kz Z w w' := by
  obtain ⟨h1, X, Y, h2, h3, h4, h5, h6⟩ := h
  refine (rcrash_any t Y m w h3).mono ?_
  rintro e w' ⟨rfl, hd, hb⟩
  exact ⟨rfl, P2.mstep h1 h2 h4 h5 h6 hd (Gr.refl _ _) ((Bar.refl Y w).only hb (fun _ => xr_of h3))⟩
theorem p_on_d (f : List Nat) (fa : Option Addr) (fc n : Nat) (hn : f.length = n) (hf : RowIn w fa fc f) (hz : f ≠ [] → ∀ b o, fa = some ⟨b, o, none⟩ → Z b) : Calls Try.prog 14 #[.pointer (some ⟨d, 0, none⟩), .slice fa n fc] w fun e w' => e = .returned (.tuple #[]) ∧ P2 Z w' d m (s.on f) t ∧ Kz Z w w' := by
  obtain ⟨h1, X, Y, h2, h3, h4, h5, h6⟩ := h
  subst hn
  refine (on_any s X d f fa fc w h2 hf.2.1 hf.1 (fun hne b o e hx => h4 b hx (hz hne b o e))).mono ?_
  rintro e w' ⟨rfl, hd, hb⟩
  exact ⟨rfl, P2.dstep h1 h3 h4 h5 h6 hd (Gr.refl _ _) hb⟩
theorem p_on_m (f : List Nat) (fa : Option Addr) (fc n : Nat) (hn : f.length = n) (hf : RowIn w fa fc f) (hz : f ≠ [] → ∀ b o, fa = some ⟨b, o, none⟩ → Z b) : Calls Try.prog 37 #[.pointer (some ⟨m, 0, none⟩), .slice fa n fc] w fun e w' => e = .returned (.tuple #[]) ∧ P2 Z w' d m s (t.on f) ∧ Kz Z w w' := by
  obtain ⟨h1, X, Y, h2, h3, h4, h5, h6⟩ := h
  subst hn
  refine (ron_any t Y m f fa fc w h3 hf.2.1 hf.1 (fun hne b o e hx => h5 b hx (hz hne b o e))).mono ?_
  rintro e w' ⟨rfl, hd, hb⟩
  exact ⟨rfl, P2.mstep h1 h2 h4 h5 h6 hd (Gr.refl _ _) hb⟩
theorem p_write_d (i : Int) (b : List Nat) (a : Option Addr) (n cap : Nat) (hn : b.length = n) (hb : BytesAt w a b) (hc : a = none → cap = 0) (hl : s.op.length ≤ 100000) :
    Calls Try.prog 12 #[.pointer (some ⟨d, 0, none⟩), .int .i64 i, .slice a n cap] w fun e w' => e = .returned (.int .i64 (s.wCode i b)) ∧ P2 Z w' d m (s.write i b) t ∧ Kz Z w w' := by
  obtain ⟨h1, X, Y, h2, h3, h4, h5, h6⟩ := h
  subst hn
  refine (write_any s X d i b a cap w h2 hb hc ⟨by unfold maxLen; omega, by omega⟩).mono ?_
  rintro e w' ⟨X', rfl, hd, hg, hb⟩
  exact ⟨rfl, P2.dstep h1 h3 h4 h5 h6 hd hg hb⟩
theorem p_write_m (i : Int) (b : List Nat) (hb : ∀ x ∈ b, x < 256) (hbl : b.length ≤ maxLen) (hl : t.op.length ≤ 100000) :
    Calls Try.prog 38 #[.pointer (some ⟨m, 0, none⟩), .int .i64 i, .string (strOf b)] w fun e w' => e = .returned (.int .i64 (t.wCode i b)) ∧ P2 Z w' d m s (t.write i b) ∧ Kz Z w w' := by
  obtain ⟨h1, X, Y, h2, h3, h4, h5, h6⟩ := h
  refine (rwrite_any t Y m i b _ w h3 rfl hb hbl ⟨by unfold maxLen; omega, by omega⟩).mono ?_
  rintro e w' ⟨Y', rfl, hd, hg, hb⟩
  exact ⟨rfl, P2.mstep h1 h2 h4 h5 h6 hd hg hb⟩
theorem p_read_d (i : Int) : Calls Try.prog 15 #[.pointer (some ⟨d, 0, none⟩), .int .i64 i] w (ReadP s i w) := by
  obtain ⟨h1, X, Y, h2, h3, h4, h5, h6⟩ := h
  refine (read_any s X d i w h2).mono ?_
  rintro e w' ⟨⟨a, c, rfl, hx⟩, hb⟩
  rcases hx with ⟨e1, rfl, rfl⟩ | ⟨B, rfl, hB, hB2, rfl, hm⟩
  · exact ⟨none, 0, 0, by rw [e1]; rfl, by rw [e1]; rfl, by rw [e1]; exact ⟨by simp, .inl rfl⟩, by omega, .inl rfl, hb⟩
  · refine ⟨_, _, _, rfl, rfl, hm.bytes, ?_, .inr ⟨B, rfl, hB, hB2, hm⟩, hb⟩
    exact rd_len h2.ok i
theorem p_read_m (i : Int) : Calls Try.prog 34 #[.pointer (some ⟨m, 0, none⟩), .int .i64 i] w fun e w' => e = .returned (.tuple #[.string (strOf (t.rd i)), .int .i64 (t.ask i)]) ∧ w = w' := by
  obtain ⟨h1, X, Y, h2, h3, h4, h5, h6⟩ := h
  exact rread_any t Y m i w h3
end
end Go.Proofs.Ytncijclhfndniaa
