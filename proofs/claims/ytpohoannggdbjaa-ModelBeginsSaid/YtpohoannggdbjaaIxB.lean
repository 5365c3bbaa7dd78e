/-
 Layer 10: a state as a value; two states held against each other.
-/
import Derived.Test.YtpohoannggdbjaaMA
import Derived.Laws.StructEq
namespace Go.Proofs.Ytpohoannggdbjaa
open Go.RowKit
set_option maxRecDepth 100000
set_option linter.unusedSimpArgs false
/-- what an interlocking remembers -/
structure St where
 lk : Nat
 us : Nat
 ca : Nat
 tm : Nat → Nat
 pt : Nat
def tmL (f : Nat → Nat) : List Value := (List.range 64).map (fun n => Value.int .u8 (f n : Int))
def stL (s : St) : List Value := .int .u64 (s.lk : Int) :: .int .u64 (s.us : Int) :: .int .u64 (s.ca : Int) :: (tmL s.tm ++ [.int .u32 (s.pt : Int)])
def stV (s : St) : Value := .agg (stL s).toArray
theorem tm_len (f : Nat → Nat) : (tmL f).length = 64 := by simp [tmL]
theorem tm_get (f : Nat → Nat) {n : Nat} (h : n < 64) : (tmL f)[n]? = some (.int .u8 (f n : Int)) := by simp [tmL, h]
theorem st_tm (s : St) {n : Nat} (h : n < 64) : (stL s)[3 + n]? = some (.int .u8 (s.tm n : Int)) := by
 show (Value.int .u64 (s.lk : Int) :: .int .u64 (s.us : Int) :: .int .u64 (s.ca : Int) :: (tmL s.tm ++ [.int .u32 (s.pt : Int)]))[3 + n]? = _
 rw [show 3 + n = n + 1 + 1 + 1 by omega, List.getElem?_cons_succ, List.getElem?_cons_succ, List.getElem?_cons_succ, List.getElem?_append_left (by rw [tm_len]; exact h), tm_get _ h]
theorem st_pt (s : St) : (stL s)[67]? = some (.int .u32 (s.pt : Int)) := by
 show (Value.int .u64 (s.lk : Int) :: .int .u64 (s.us : Int) :: .int .u64 (s.ca : Int) :: (tmL s.tm ++ [.int .u32 (s.pt : Int)]))[67]? = _
 rw [show 67 = 64 + 1 + 1 + 1 by omega, List.getElem?_cons_succ, List.getElem?_cons_succ, List.getElem?_cons_succ, List.getElem?_append_right (by rw [tm_len]; exact Nat.le_refl _), tm_len]
 rfl
theorem st_len (s : St) : (stL s).length = 68 := by simp [stL, tm_len]
theorem run_part_u8 (xs : Array Value) (i : Nat) (v : Value) (h : xs[i]? = some v) (w : World) : (part 5 xs i).run Try.prog w = .ok v w := by
 have ha : (isAgg 5).run Try.prog w = .ok false w := by kernel_rfl
 unfold part
 simp only [Sem.run_bind, ha, Result.andThen_ok, Bool.false_eq_true, if_false, h, Sem.run_pure]
theorem run_eq_tm (d : Nat) (f g : Nat → Nat) (w : World) : (Op.equalIn (d + 2) 64 (.agg (tmL f).toArray) (.agg (tmL g).toArray)).run Try.prog w = .ok ((List.range 64).all (fun n => f n == g n)) w := by
 have hsz : ∀ w, (sizeOf 5).run Try.prog w = .ok 1 w := fun _ => by kernel_rfl
 rw [Op.equalIn]
 simp only [Sem.run_bind, run_underlying Try.underlying64, Result.andThen_ok, hsz, Nat.mul_one]
 have key : ∀ (l : List Nat), (∀ i ∈ l, i < 64) → ((forIn l ((none, ()) : Option Bool × Unit) fun i __s => do
  let __do_lift ← part 5 (tmL f).toArray i
  let __do_lift_1 ← part 5 (tmL g).toArray i
  let __do_lift ← Op.equalIn (d + 1) 5 __do_lift __do_lift_1
  if (!__do_lift) = true then pure (ForInStep.done (some false, ())) else pure (ForInStep.yield (none, ()))) : Sem (Option Bool × Unit)).run Try.prog w = .ok (if l.all (fun n => f n == g n) then (none, ()) else (some false, ())) w := by
  intro l
  induction l with
  | nil => intro _; rfl
  | cons i l ih =>
    intro hl
    have hi : i < 64 := hl i List.mem_cons_self
    have h1 := run_part_u8 (tmL f).toArray i _ (by rw [List.getElem?_toArray]; exact tm_get f hi) w
    have h2 := run_part_u8 (tmL g).toArray i _ (by rw [List.getElem?_toArray]; exact tm_get g hi) w
    have h3 := run_equalIn_int (P := Try.prog) w d 5 .u8 .u8 (f i : Int) (g i : Int) Try.underlying5
    simp only [List.forIn_cons, Sem.run_bind, h1, h2, h3, Result.andThen_ok]
    have he : ((f i : Int) == (g i : Int)) = (f i == g i) := by rw [Bool.eq_iff_iff, beq_iff_eq, beq_iff_eq]; omega
    rw [he, List.all_cons]
    cases hb : (f i == g i) with
    | true =>
      simp only [Bool.not_true, Bool.false_eq_true, if_false, Sem.run_pure, Result.andThen_ok, Bool.true_and]
      exact ih (fun k hk => hl k (List.mem_cons_of_mem _ hk))
    | false => simp [Sem.run_pure]
 have hr := key (List.range 64) (fun i hi => List.mem_range.1 hi)
 simp only [Std.Legacy.Range.forIn_eq_forIn_range', Std.Legacy.Range.size, Nat.sub_zero, Nat.add_sub_cancel, Nat.div_one]
 rw [List.range_eq_range'] at hr
 rw [hr, List.range_eq_range']
 cases (List.range' 0 64).all (fun n => f n == g n) <;> rfl
def eqS (s t : St) : Bool := s.lk == t.lk && (s.us == t.us && (s.ca == t.ca && ((List.range 64).all (fun n => s.tm n == t.tm n) && s.pt == t.pt)))
theorem st_ext (s : St) : (stL s).toArray.extract 3 67 = (tmL s.tm).toArray := by
 apply Array.toList_inj.1
 rw [Array.toList_extract]
 show ((stL s).drop 3).take 64 = tmL s.tm
 show (tmL s.tm ++ [Value.int .u32 (s.pt : Int)]).take 64 = tmL s.tm
 rw [List.take_append_of_le_length (by rw [tm_len]; exact Nat.le_refl _), List.take_of_length_le (by rw [tm_len]; exact Nat.le_refl _)]
theorem run_part_at (t : TypeId) (ht : ∀ w, (isAgg t).run Try.prog w = .ok false w) (xs : Array Value) (i : Nat) (v : Value) (h : xs[i]? = some v) (w : World) : (part t xs i).run Try.prog w = .ok v w := by
 unfold part
 simp only [Sem.run_bind, ht, Result.andThen_ok, Bool.false_eq_true, if_false, h, Sem.run_pure]
theorem run_part_tm (s : St) (w : World) : (part 64 (stL s).toArray 3).run Try.prog w = .ok (.agg (tmL s.tm).toArray) w := by
 have ha : ∀ w, (isAgg 64).run Try.prog w = .ok true w := fun _ => by kernel_rfl
 have hs : ∀ w, (sizeOf 64).run Try.prog w = .ok 64 w := fun _ => by kernel_rfl
 unfold part
 simp only [Sem.run_bind, ha, hs, Result.andThen_ok, if_true, Sem.run_pure]
 rw [show 3 + 64 = 67 from rfl, st_ext]
theorem run_eq_st (d : Nat) (s t : St) (w : World) : (Op.equalIn (d + 3) 66 (stV s) (stV t)).run Try.prog w = .ok (eqS s t) w := by
 have p0 : ∀ (s : St) w, (part 32 (stL s).toArray 0).run Try.prog w = .ok (.int .u64 (s.lk : Int)) w := fun s w => run_part_at _ (fun _ => by kernel_rfl) _ _ _ rfl w
 have p1 : ∀ (s : St) w, (part 32 (stL s).toArray 1).run Try.prog w = .ok (.int .u64 (s.us : Int)) w := fun s w => run_part_at _ (fun _ => by kernel_rfl) _ _ _ rfl w
 have p2 : ∀ (s : St) w, (part 32 (stL s).toArray 2).run Try.prog w = .ok (.int .u64 (s.ca : Int)) w := fun s w => run_part_at _ (fun _ => by kernel_rfl) _ _ _ rfl w
 have p3 := run_part_tm
 have p4 : ∀ (s : St) w, (part 33 (stL s).toArray 67).run Try.prog w = .ok (.int .u32 (s.pt : Int)) w := fun s w => run_part_at _ (fun _ => by kernel_rfl) _ _ _ (by rw [List.getElem?_toArray]; exact st_pt s) w
 have q0 : ∀ (d : Nat) (a b : Nat) w, (Op.equalIn (d + 1) 32 (.int .u64 (a : Int)) (.int .u64 (b : Int))).run Try.prog w = .ok (a == b) w := fun d a b w => by
  rw [run_equalIn_int w d _ .u64 .u64 _ _ Try.underlying32, show ((a : Int) == (b : Int)) = (a == b) by rw [Bool.eq_iff_iff, beq_iff_eq, beq_iff_eq]; omega]
 have q1 : ∀ (d : Nat) (a b : Nat) w, (Op.equalIn (d + 1) 33 (.int .u32 (a : Int)) (.int .u32 (b : Int))).run Try.prog w = .ok (a == b) w := fun d a b w => by
  rw [run_equalIn_int w d _ .u32 .u32 _ _ Try.underlying33, show ((a : Int) == (b : Int)) = (a == b) by rw [Bool.eq_iff_iff, beq_iff_eq, beq_iff_eq]; omega]
 have q2 := run_eq_tm
 unfold stV
 rw [run_equalIn_struct w _ _ _ _ (by kernel_rfl) (by kernel_rfl)]
 obtain ⟨fs, hfs⟩ : ∃ fs, (Program.fieldsOf Try.prog 66).toList = fs := ⟨_, rfl⟩
 have hl : fs.length = 5 := by rw [← hfs]; kernel_rfl
 have hf : fs.map (fun f => (f.name == "_", f.type, f.offset)) = [(false, 32, 0), (false, 32, 1), (false, 32, 2), (false, 64, 3), (false, 33, 67)] := by rw [← hfs]; kernel_rfl
 rw [hfs]
 clear hfs
 match fs, hl with
 | [f0, f1, f2, f3, f4], _ =>
   simp only [List.map_cons, List.map_nil, List.cons.injEq, Prod.mk.injEq, and_true, beq_eq_false_iff_ne] at hf
   obtain ⟨⟨a0, b0, c0⟩, ⟨a1, b1, c1⟩, ⟨a2, b2, c2⟩, ⟨a3, b3, c3⟩, ⟨a4, b4, c4⟩⟩ := hf
   unfold eqS
   simp only [Op.eqFields, a0, b0, c0, ne_eq, not_false_eq_true, if_true, Sem.run_bind, p0, q0, Result.andThen_ok]
   cases h0 : (s.lk == t.lk) <;> cases h1 : (s.us == t.us) <;> cases h2 : (s.ca == t.ca) <;> cases h3 : ((List.range 64).all (fun n => s.tm n == t.tm n)) <;> cases h4 : (s.pt == t.pt) <;> simp only [Op.eqFields, a1, b1, c1, a2, b2, c2, a3, b3, c3, a4, b4, c4, Sem.run_pure, p1, p2, p3, p4, q0, q1, q2, Sem.run_bind, Result.andThen_ok, h1, h2, h3, h4, ne_eq, not_false_eq_true, if_true, if_false, Bool.false_eq_true, Bool.and_true, Bool.true_and, Bool.and_false, Bool.false_and, Bool.not_true, Bool.not_false]
theorem eql_st (s t : St) (w : World) : (binOp .eql 66 (stV s) (stV t)).run Try.prog w = .ok (.bool (eqS s t)) w := by
 unfold stV
 rw [run_eql_struct]
 have := run_eq_st 9997 s t w
 unfold stV at this
 rw [this]
 rfl
theorem neq_st (s t : St) (w : World) : (binOp .neq 66 (stV s) (stV t)).run Try.prog w = .ok (.bool (!eqS s t)) w := by
 unfold stV
 rw [run_neq_struct]
 have := run_eq_st 9997 s t w
 unfold stV at this
 rw [this]
 rfl
end Go.Proofs.Ytpohoannggdbjaa
