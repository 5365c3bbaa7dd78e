/-
 Layer 28: maps of states.
-/
import Derived.Test.YtpohoannggdbjaaIxB
import Derived.Test.YtpohoannggdbjaaMA
import Derived.MapKept
namespace Go.Proofs.Ytpohoannggdbjaa
open Go.RowKit
set_option maxRecDepth 100000
theorem ck_tm (b : Bool) (n : Nat) (f : Nat → Nat) (w : World) : (Instr.checkKey b (n + 2) 64 (.agg (tmL f).toArray)).run Try.prog w = .ok () w := by
 have hsz : ∀ w, (sizeOf 5).run Try.prog w = .ok 1 w := fun _ => by kernel_rfl
 rw [Instr.checkKey]
 simp only [Sem.run_bind, run_underlying Try.underlying64, Result.andThen_ok]
 have key : ∀ (l : List Nat), (∀ i ∈ l, i < 64) → ((forIn l () fun i _ => do
  let sz ← sizeOf 5
  let v ← part 5 (tmL f).toArray (i * sz)
  Instr.checkKey b (n + 1) 5 v
  pure (ForInStep.yield ())) : Sem Unit).run Try.prog w = .ok () w := by
  intro l
  induction l with
  | nil => intro _; rfl
  | cons i l ih =>
    intro hl
    have hi : i < 64 := hl i List.mem_cons_self
    have h1 := run_part_u8 (tmL f).toArray i _ (by rw [List.getElem?_toArray]; exact tm_get f hi) w
    have h2 : (Instr.checkKey b (n + 1) 5 (.int .u8 (f i : Int))).run Try.prog w = .ok () w := MapKept.run_checkKey (d := .int .u8) Try.underlying5 (by simp [MapKept.IsKey]) b n
    simp only [List.forIn_cons, Sem.run_bind, hsz, Result.andThen_ok, Nat.mul_one, h1, h2, Sem.run_pure]
    exact ih (fun k hk => hl k (List.mem_cons_of_mem _ hk))
 have hr := key (List.range 64) (fun i hi => List.mem_range.1 hi)
 simp only [Std.Legacy.Range.forIn_eq_forIn_range', Std.Legacy.Range.size, Nat.sub_zero, Nat.add_sub_cancel, Nat.div_one]
 rw [List.range_eq_range'] at hr
 exact hr
theorem ck_st (b : Bool) (n : Nat) (s : St) (w : World) : (Instr.checkKey b (n + 3) 66 (stV s)).run Try.prog w = .ok () w := by
 have p0 : ∀ (s : St) w, (part 32 (stL s).toArray 0).run Try.prog w = .ok (.int .u64 (s.lk : Int)) w := fun s w => run_part_at _ (fun _ => by kernel_rfl) _ _ _ rfl w
 have p1 : ∀ (s : St) w, (part 32 (stL s).toArray 1).run Try.prog w = .ok (.int .u64 (s.us : Int)) w := fun s w => run_part_at _ (fun _ => by kernel_rfl) _ _ _ rfl w
 have p2 : ∀ (s : St) w, (part 32 (stL s).toArray 2).run Try.prog w = .ok (.int .u64 (s.ca : Int)) w := fun s w => run_part_at _ (fun _ => by kernel_rfl) _ _ _ rfl w
 have p3 := run_part_tm
 have p4 : ∀ (s : St) w, (part 33 (stL s).toArray 67).run Try.prog w = .ok (.int .u32 (s.pt : Int)) w := fun s w => run_part_at _ (fun _ => by kernel_rfl) _ _ _ (by rw [List.getElem?_toArray]; exact st_pt s) w
 have c0 : ∀ (a : Int) w, (Instr.checkKey b (n + 2) 32 (.int .u64 a)).run Try.prog w = .ok () w := fun a w => MapKept.run_checkKey (d := .int .u64) Try.underlying32 (by simp [MapKept.IsKey]) b (n + 1)
 have c1 : ∀ (a : Int) w, (Instr.checkKey b (n + 2) 33 (.int .u32 a)).run Try.prog w = .ok () w := fun a w => MapKept.run_checkKey (d := .int .u32) Try.underlying33 (by simp [MapKept.IsKey]) b (n + 1)
 have c2 := ck_tm b n
 unfold stV
 rw [Instr.checkKey]
 simp only [Sem.run_bind, run_underlying Try.underlying66, Result.andThen_ok]
 simp only [← Array.forIn_toList, List.forIn_cons, List.forIn_nil, ne_eq, String.reduceEq, not_false_eq_true, if_true, Sem.run_bind, p0, p1, p2, p3, p4, c0, c1, c2, Result.andThen_ok, Sem.run_pure]
theorem same_vals : ∀ (n : Nat) (l : List Value), (∀ v ∈ l, ∃ k a, v = .int k a) → (l.zip l).all (fun (x, y) => Instr.sameBits n x y) = true := by
 intro n l h
 induction l with
 | nil => rfl
 | cons v l ih =>
   rw [List.zip_cons_cons, List.all_cons, ih (fun u hu => h u (List.mem_cons_of_mem _ hu)), Bool.and_true]
   obtain ⟨k, a, rfl⟩ := h v List.mem_cons_self
   unfold Instr.sameBits
   simp
theorem st_ints (s : St) : ∀ v ∈ stL s, ∃ k a, v = Value.int k a := by
 intro v hv
 unfold stL tmL at hv
 simp only [List.mem_cons, List.mem_append, List.mem_map, List.not_mem_nil, or_false] at hv
 rcases hv with rfl | rfl | rfl | ⟨_, _, rfl⟩ | rfl <;> exact ⟨_, _, rfl⟩
theorem same_st (s : St) : Instr.sameBits 10000 (stV s) (stV s) = true := by
 unfold stV
 rw [Instr.sameBits]
 rw [same_vals _ _ (st_ints s)]
 simp
theorem stays_st (s : St) (w : World) : (Instr.keyThatStays (stV s) (stV s)).run Try.prog w = .ok (stV s) w := by
 unfold Instr.keyThatStays
 rw [same_st, if_pos rfl]
 rfl
theorem eqs_val {s t : St} : eqS s t = true ↔ stV s = stV t := by
 constructor
 ·intro h
  unfold eqS at h
  simp only [Bool.and_eq_true, beq_iff_eq, List.all_eq_true, List.mem_range] at h
  obtain ⟨h1, h2, h3, h4, h5⟩ := h
  have : tmL s.tm = tmL t.tm := by
   unfold tmL
   exact List.map_congr_left (fun n hn => by rw [h4 n (List.mem_range.1 hn)])
  unfold stV stL
  rw [h1, h2, h3, h5, this]
 ·intro h
  unfold stV at h
  injection h with h
  have h : stL s = stL t := by simpa using congrArg Array.toList h
  have hp : (stL s)[67]? = (stL t)[67]? := by rw [h]
  rw [st_pt, st_pt] at hp
  have ht : ∀ n, n < 64 → s.tm n = t.tm n := fun n hn => by
   have h3 : (stL s)[3 + n]? = (stL t)[3 + n]? := by rw [h]
   rw [st_tm _ hn, st_tm _ hn] at h3
   have h4 : (s.tm n : Int) = (t.tm n : Int) := by simpa using h3
   omega
  have h0 : (stL s)[0]? = (stL t)[0]? := by rw [h]
  have h1 : (stL s)[1]? = (stL t)[1]? := by rw [h]
  have h2 : (stL s)[2]? = (stL t)[2]? := by rw [h]
  unfold stL at h0 h1 h2
  simp at h0 h1 h2 hp
  unfold eqS
  simp only [Bool.and_eq_true, beq_iff_eq, List.all_eq_true, List.mem_range]
  exact ⟨by omega, by omega, by omega, ht, by omega⟩
/-- block r is a map of these states, each once -/
def MsAt (w : World) (r : Nat) (K : List St) : Prop := ∃ es clock, w.heap[r]? = some (.map es clock) ∧ es.toList.map (fun e => (e.key, e.val)) = K.map (fun s => (stV s, Value.bool true)) ∧ K.Pairwise (fun s t => eqS s t = false) ∧ (es.toList.map (·.born)).Nodup ∧ ∀ e ∈ es.toList, e.born < clock
theorem MsAt.below {w w' : World} {r : Nat} {K : List St} (h : MsAt w r K) (hb : Below w.heap.size w w') : MsAt w' r K := by
 obtain ⟨es, clock, h1, h2⟩ := h
 exact ⟨es, clock, blk_keep hb h1, h2⟩
theorem ms_find (s : St) (w : World) : ∀ (es : List MapEntry) (K : List St) (i : Nat), es.map (fun e => (e.key, e.val)) = K.map (fun s => (stV s, Value.bool true)) →
 ((∀ t ∈ K, eqS s t = false) ∧ (Instr.findAsking 66 (stV s) es i).run Try.prog w = .ok none w) ∨ ∃ j t e, K[j]? = some t ∧ es[j]? = some e ∧ eqS s t = true ∧ (Instr.findAsking 66 (stV s) es i).run Try.prog w = .ok (some (i + j, e.val)) w
 | [], K, i, h => by
   cases K with
   | nil => exact .inl ⟨fun _ h => (nomatch h), rfl⟩
   | cons _ _ => simp at h
 | e :: es, K, i, h => by
   cases K with
   | nil => simp at h
   | cons t K =>
     rw [List.map_cons, List.map_cons, List.cons.injEq, Prod.mk.injEq] at h
     have he : (Op.equal 66 (stV s) e.key).run Try.prog w = .ok (eqS s t) w := by rw [h.1.1]; exact run_eq_st 9997 s t w
     cases hb : eqS s t with
     | true =>
       refine .inr ⟨0, t, e, rfl, rfl, hb, ?_⟩
       unfold Instr.findAsking
       simp only [Sem.run_bind, he, hb, Result.andThen_ok, if_true, Sem.run_pure, Nat.add_zero]
     | false =>
       have hs : (Instr.findAsking 66 (stV s) (e :: es) i).run Try.prog w = (Instr.findAsking 66 (stV s) es (i + 1)).run Try.prog w := by
        rw [Instr.findAsking]
        simp only [Sem.run_bind, he, hb, Result.andThen_ok, Bool.false_eq_true, if_false]
       rcases ms_find s w es K (i + 1) h.2 with ⟨h1, h2⟩ | ⟨j, t', e', h1, h2, h3, h4⟩
       ·refine .inl ⟨fun u hu => ?_, by rw [hs, h2]⟩
        rcases List.mem_cons.1 hu with rfl | hu
        ·exact hb
        ·exact h1 u hu
       ·exact .inr ⟨j + 1, t', e', h1, h2, h3, by rw [hs, h4, show i + 1 + j = i + (j + 1) by omega]⟩
theorem ms_key (s : St) (w : World) (es : Array MapEntry) (K : List St) (h : es.toList.map (fun e => (e.key, e.val)) = K.map (fun s => (stV s, Value.bool true))) :
 ((∀ t ∈ K, eqS s t = false) ∧ (Instr.findKey 66 (stV s) es.toList).run Try.prog w = .ok none w) ∨ ∃ j t e, K[j]? = some t ∧ es[j]? = some e ∧ eqS s t = true ∧ (Instr.findKey 66 (stV s) es.toList).run Try.prog w = .ok (some (j, e.val)) w := by
 have hu := run_underlying (w := w) Try.underlying66
 have hfk : (Instr.findKey 66 (stV s) es.toList).run Try.prog w = (Instr.findAsking 66 (stV s) es.toList 0).run Try.prog w := by
  unfold Instr.findKey
  simp only [Sem.run_bind, hu, Result.andThen_ok]
  cases es.toList with
  | nil => rfl
  | cons e l => rfl
 rw [hfk]
 rcases ms_find s w es.toList K 0 h with h1 | ⟨j, t, e, h1, h2, h3, h4⟩
 ·exact .inl h1
 ·exact .inr ⟨j, t, e, h1, by simpa using h2, h3, by rw [h4, Nat.zero_add]⟩
/-- with one more -/
def addS (K : List St) (s : St) : List St := if K.any (eqS s) then K else K ++ [s]
theorem run_ms_put {w : World} {r : Nat} {K : List St} (s : St) (h : MsAt w r K) : ∃ w', (Instr.mapUpdate 88 (.map (some r)) (stV s) (.bool true)).run Try.prog w = .ok () w' ∧ MsAt w' r (addS K s) ∧ Only r w w' := by
 obtain ⟨es, clock, h1, h2, h3, h4, h5⟩ := h
 have hc := ck_st false 9997 s w
 rcases ms_key s w es K h2 with ⟨g1, g2⟩ | ⟨j, t, e, g1, g2, g3, g4⟩
 ·have ha : addS K s = K ++ [s] := by
   unfold addS
   rw [if_neg]
   rw [List.any_eq_true]
   rintro ⟨t, ht, h⟩
   rw [g1 t ht] at h; cases h
  refine ⟨{ w with heap := w.heap.setIfInBounds r (.map (es.push { key := stV s, val := .bool true, born := clock }) (clock + 1)) }, ?_, ?_, ?_⟩
  ·simp [Instr.mapUpdate, run_underlying Try.underlying88, MapKept.run_getObj_map h1, hc, g2, MapKept.run_setObj_map _ h1, Result.andThen]
  ·rw [ha]
   refine ⟨_, _, (MapKept.heap_set h1).1, by rw [Array.toList_push, List.map_append, h2, List.map_append]; rfl, ?_, ?_, ?_⟩
   ·rw [List.pairwise_append]
    refine ⟨h3, by simp, fun a hma b hb => ?_⟩
    rw [List.mem_singleton] at hb
    subst hb
    have := g1 a hma
    cases hh : eqS a b with
    | false => rfl
    | true =>
      have h6 := eqs_val.1 hh
      rw [eqs_val.2 h6.symm] at this; cases this
   ·rw [Array.toList_push, List.map_append]
    refine List.nodup_append.2 ⟨h4, by simp, ?_⟩
    intro a ha b hb
    simp at hb
    obtain ⟨x, hx, rfl⟩ := List.mem_map.1 ha
    have := h5 x hx
    omega
   ·intro x hx
    rw [Array.toList_push] at hx
    rcases List.mem_append.1 hx with hx | hx
    ·have := h5 x hx; omega
    ·rw [List.mem_singleton] at hx
     subst hx
     exact Nat.lt_succ_self _
  ·exact ⟨rfl, rfl, rfl, by simp, fun k _ hk => (MapKept.heap_set h1).2 k hk⟩
 ·have ha : addS K s = K := by
   unfold addS
   rw [if_pos]
   exact List.any_eq_true.2 ⟨t, List.mem_of_getElem? g1, g3⟩
  have hst := eqs_val.1 g3
  have hek : e.key = stV s ∧ e.val = .bool true := by
   have h6 : (es.toList.map (fun e => (e.key, e.val)))[j]? = some (e.key, e.val) := by rw [List.getElem?_map, Array.getElem?_toList, g2]; rfl
   rw [h2, List.getElem?_map, g1] at h6
   injection h6 with h6
   injection h6 with h7 h8
   exact ⟨by rw [← h7, hst], h8.symm⟩
  have hk := stays_st s w
  refine ⟨{ w with heap := w.heap.setIfInBounds r (.map (es.modify j fun e' => { e' with key := stV s, val := .bool true }) clock) }, ?_, ?_, ?_⟩
  ·simp [Instr.mapUpdate, run_underlying Try.underlying88, MapKept.run_getObj_map h1, hc, g4, g2, hek.1, hk, MapKept.run_setObj_map _ h1, Result.andThen]
  ·rw [ha]
   have hmod : es.modify j (fun e' => { e' with key := stV s, val := .bool true }) = es := by
    apply Array.ext_getElem?
    intro i
    rw [Array.getElem?_modify]
    by_cases hij : j = i
    ·subst hij
     rw [if_pos rfl, g2]
     obtain ⟨ek, ev, eb⟩ := e
     obtain ⟨rfl, rfl⟩ := hek
     rfl
    ·rw [if_neg hij]
   rw [hmod]
   exact ⟨_, _, (MapKept.heap_set h1).1, h2, h3, h4, h5⟩
  ·exact ⟨rfl, rfl, rfl, by simp, fun k _ hk => (MapKept.heap_set h1).2 k hk⟩
end Go.Proofs.Ytpohoannggdbjaa
