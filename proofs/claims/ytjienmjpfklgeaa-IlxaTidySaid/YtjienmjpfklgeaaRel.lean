/-
  A region that draws its order, each operation proved once: what its value is, and that it makes new memory at most, out of what its own operands are. Whatever order is picked, at the end all of it holds. The last operations (those that write) are walked behind it. Over any program.
-/
import Derived.OrdersHeld
import Derived.RegionTactic
import Derived.Test.YtjienmjpfklgeaaMA
namespace Go.Proofs.Ytjienmjpfklgeaa
open Go.RowKit
section
variable {P : Program} {ops : Array Oper} {Q : Exit → Act → World → Prop}

/-- the slot that operation i fills -/
def slotOf (ops : Array Oper) (i : Nat) : Option Tmp := (ops[i]?).bind (·.dst)
/-- does operation i wait for operation j? -/
def depB (ops : Array Oper) (i j : Nat) : Bool := match ops[i]? with
  | some o => o.after.any fun e => Region.binds .any e && e.on == j
  | none => false
/-- what must have come up ahead of all of these -/
def backB (ops : Array Oper) : Nat → List Nat → List Nat
  | 0, l => l
  | k + 1, l => backB ops k (l ++ (List.range ops.size).filter (fun j => l.any (fun i => depB ops i j)))
/-- each operation but the last ones T has a slot of its own, no guard, waits for earlier ones alone, for none of T -/
def relB (ops : Array Oper) (T : List Nat) : Bool :=
  (List.range ops.size).all fun i => T.contains i || ((slotOf ops i).isSome && ((ops[i]?).map (fun o => o.guard.isNone && o.after.all (fun e => !Region.binds .any e || decide (e.on < i)))).getD false &&
    (List.range ops.size).all (fun j => (!depB ops i j || (decide (j < i) && !T.contains j)) && (j == i || T.contains j || slotOf ops j != slotOf ops i)))
/-- the last ones wait for all others -/
def lastB (ops : Array Oper) (T : List Nat) (k : Nat) : Bool :=
  T.all fun t => (List.range ops.size).all (fun i => T.contains i || (backB ops k ((List.range ops.size).filter (fun j => depB ops t j))).contains i)
/-- no operation but the last ones fills slot s -/
def offB (ops : Array Oper) (T : List Nat) (s : Tmp) : Bool := (List.range ops.size).all (fun j => T.contains j || slotOf ops j != some s)
/-- what an operation may yield: a value of which something holds, and new memory at most -/
def relUpon (P : Program) (w : World) (F : Value → World → Prop) : Result Next → Prop
  | .ok (.value v) w' => Below w.heap.size w w' ∧ F v w'
  | .ok (.enter f args) w' => Calls P f args w' (fun e w'' => ∃ v, e = .returned v ∧ Below w.heap.size w w'' ∧ F v w'')
  | _ => False
theorem relUpon_value {w w' : World} {F : Value → World → Prop} {v : Value} : relUpon P w F (.ok (.value v) w') = (Below w.heap.size w w' ∧ F v w') := rfl
theorem relUpon_enter {w w' : World} {F : Value → World → Prop} {f : FuncId} {args : Array Value} : relUpon P w F (.ok (.enter f args) w') = Calls P f args w' (fun e w'' => ∃ v, e = .returned v ∧ Below w.heap.size w w'' ∧ F v w'') := rfl
/-- what is owed for operation i -/
def relOb (P : Program) (ops : Array Oper) (T : List Nat) (a0 : Act) (w0 : World) (F : Nat → Value → World → Prop) (i : Nat) : Prop :=
  ∀ o, ops[i]? = some o → ∀ (r : Operand → Value) (w : World), (∀ v, r (.const v) = v) → (∀ f, r (.func f) = .func (.func f) #[] #[]) → (∀ g, r (.global g) = .pointer (some ⟨g, 0, none⟩)) →
    (∀ s, offB ops T s = true → r (.tmp s) = a0.eval (.tmp s)) → Below w0.heap.size w0 w →
    (∀ j s, slotOf ops j = some s → depB ops i j = true → F j (r (.tmp s)) w) → relUpon P w (F i) ((execOp r o).run P w)
/-- what stands when some operations have come up -/
structure RelAt (ops : Array Oper) (T : List Nat) (a0 : Act) (w0 : World) (F : Nat → Value → World → Prop) (listed : Array Bool) (a : Act) (w : World) : Prop where
  size : listed.size = ops.size
  closed : ∀ i j, listed.getD i false = true → depB ops i j = true → listed.getD j false = true
  none : ∀ i, listed.getD i false = true → T.contains i = false
  defers : a.defers = a0.defers
  tmps : a.tmps.size = a0.tmps.size
  frame : ∀ s, offB ops T s = true → a.eval (.tmp s) = a0.eval (.tmp s)
  below : Below w0.heap.size w0 w
  facts : ∀ i s, slotOf ops i = some s → listed.getD i false = true → F i (a.eval (.tmp s)) w
theorem backB_in {listed : Array Bool} (hc : ∀ i j, listed.getD i false = true → depB ops i j = true → listed.getD j false = true) : ∀ (k : Nat) (l : List Nat), (∀ i ∈ l, listed.getD i false = true) → ∀ i ∈ backB ops k l, listed.getD i false = true
  | 0, _, h => h
  | k + 1, l, h => backB_in hc k _ (fun i hi => by
      rcases List.mem_append.1 hi with hi | hi
      · exact h i hi
      · obtain ⟨m, hm, hd⟩ := List.any_eq_true.1 (List.mem_filter.1 hi).2
        exact hc m i (h m hm) hd)
theorem depB_iff {i j : Nat} {o : Oper} (ho : ops[i]? = some o) : depB ops i j = true ↔ ∃ e ∈ o.after, Region.binds .any e = true ∧ e.on = j := by
  unfold depB
  rw [ho]
  simp only [Array.any_eq_true', Bool.and_eq_true, beq_iff_eq]
theorem eval_put {a : Act} {d s : Nat} {v : Value} (h : d ≠ s) : (a.put (some d) v).eval (.tmp s) = a.eval (.tmp s) := by
  show (a.tmps.setIfInBounds d v).getD s undef = a.tmps.getD s undef
  rw [Array.getD_eq_getD_getElem?, Array.getD_eq_getD_getElem?, Array.getElem?_setIfInBounds_ne h]
theorem eval_put_self {a : Act} {d : Nat} {v : Value} (h : d < a.tmps.size) : (a.put (some d) v).eval (.tmp d) = v := by
  show (a.tmps.setIfInBounds d v).getD d undef = v
  rw [Array.getD_eq_getD_getElem?, Array.getElem?_setIfInBounds_self_of_lt h]
  rfl
theorem getD_put {l : Array Bool} {j k : Nat} (h : (l.setIfInBounds j true).getD k false = true) : k = j ∨ l.getD k false = true := by
  by_cases hjk : j = k
  · exact .inl hjk.symm
  · right
    rw [Array.getD_eq_getD_getElem?, Array.getElem?_setIfInBounds_ne hjk, ← Array.getD_eq_getD_getElem?] at h
    exact h
theorem put_getD {l : Array Bool} {j k : Nat} (h : l.getD k false = true) : (l.setIfInBounds j true).getD k false = true := by
  by_cases hjk : j = k
  · subst hjk
    have hlt : j < l.size := by
      apply Nat.lt_of_not_le
      intro hge
      simp [Array.getElem?_eq_none hge] at h
    simp [hlt]
  · rw [Array.getD_eq_getD_getElem?, Array.getElem?_setIfInBounds_ne hjk, ← Array.getD_eq_getD_getElem?]
    exact h
variable {T : List Nat} {a0 : Act} {w0 : World} {F : Nat → Value → World → Prop}
theorem RelAt.step (hB : relB ops T = true) (hsz : (List.range ops.size).all (fun i => T.contains i || ((slotOf ops i).map (fun d => decide (d < a0.tmps.size))).getD false) = true)
    (hF : ∀ i v w w', F i v w → Below w.heap.size w w' → F i v w') {listed : Array Bool} {a : Act} {w w' : World} (h : RelAt ops T a0 w0 F listed a w) {i d : Nat} {v : Value}
    (hi : i < ops.size) (hT : T.contains i = false) (hd : slotOf ops i = some d) (hdep : ∀ j, depB ops i j = true → listed.getD j false = true) (hb : Below w.heap.size w w') (hv : F i v w') :
    RelAt ops T a0 w0 F (listed.setIfInBounds i true) (a.put (some d) v) w' := by
  have hu := List.all_eq_true.1 hB i (List.mem_range.2 hi)
  rw [hT, Bool.false_or, Bool.and_eq_true] at hu
  have hu2 := hu.2
  refine ⟨by rw [Array.size_setIfInBounds]; exact h.size, fun m j hm hj => ?_, fun m hm => ?_, h.defers, ?_, fun s hs => ?_, below_on h.below hb, fun m s hs hm => ?_⟩
  · rcases getD_put hm with rfl | hm
    · exact put_getD (hdep j hj)
    · exact put_getD (h.closed m j hm hj)
  · rcases getD_put hm with rfl | hm
    · exact hT
    · exact h.none m hm
  · show (a.tmps.setIfInBounds d v).size = _
    rw [Array.size_setIfInBounds]
    exact h.tmps
  · have := List.all_eq_true.1 hs i (List.mem_range.2 hi)
    rw [hT, Bool.false_or, hd] at this
    have hne : d ≠ s := fun e => by subst e; simp at this
    rw [eval_put hne]
    exact h.frame s hs
  · by_cases hmi : m = i
    · subst hmi
      rw [hd] at hs
      injection hs with hs
      subst hs
      have := List.all_eq_true.1 hsz m (List.mem_range.2 hi)
      rw [hT, Bool.false_or, hd] at this
      have hlt : d < a0.tmps.size := by simpa using this
      rw [eval_put_self (by rw [h.tmps]; exact hlt)]
      exact hv
    · have hm' : listed.getD m false = true := (getD_put hm).resolve_left hmi
      have hmlt : m < ops.size := by
        apply Nat.lt_of_not_le
        intro hge
        rw [slotOf, Array.getElem?_eq_none hge] at hs
        cases hs
      have := List.all_eq_true.1 hu2 m (List.mem_range.2 hmlt)
      rw [Bool.and_eq_true, h.none m hm', hs, hd] at this
      have hne : d ≠ s := fun e => by subst e; simp at this; exact hmi this.2
      rw [eval_put hne]
      exact hF _ _ _ _ (h.facts m s hs hm') hb
theorem rel_end (LI : Array Bool) (hL1 : LI.size = ops.size) (hL2 : ((List.range ops.size).all fun i => LI.getD i false == !T.contains i) = true) {n' : Nat} (hL3 : LI.toList.count true + n' = ops.size)
    (hend : ∀ a w, RelAt ops T a0 w0 F LI a w → wpAny P .any ops Q n' LI a w) (fuel : Nat) (listed : Array Bool) (a : Act) (w : World) (hc : listed.toList.count true + fuel = ops.size) (h : RelAt ops T a0 w0 F listed a w)
    (hall : ∀ i, i < ops.size → T.contains i = false → listed.getD i false = true) : wpAny P .any ops Q fuel listed a w := by
  have he : listed = LI := by
    refine Array.ext (h.size.trans hL1.symm) fun i h1 h2 => ?_
    have hi : i < ops.size := h.size ▸ h1
    have h3 := List.all_eq_true.1 hL2 i (List.mem_range.2 hi)
    rw [Array.getD_eq_getD_getElem?, Array.getElem?_eq_getElem h2] at h3
    have h4 : listed.getD i false = !T.contains i := by
      cases hT : T.contains i with
      | false => exact hall i hi hT
      | true =>
        cases hg : listed.getD i false with
        | false => rfl
        | true => rw [h.none i hg] at hT; cases hT
    rw [Array.getD_eq_getD_getElem?, Array.getElem?_eq_getElem h1] at h4
    have h5 : LI[i] = !T.contains i := by simpa using h3
    rw [h5]
    exact h4
  subst he
  have : fuel = n' := by omega
  subst this
  exact hend a w h
theorem rel_any (hB : relB ops T = true) {k : Nat} (hK : lastB ops T k = true) (hsz : (List.range ops.size).all (fun i => T.contains i || ((slotOf ops i).map (fun d => decide (d < a0.tmps.size))).getD false) = true)
    (hF : ∀ i v w w', F i v w → Below w.heap.size w w' → F i v w') (H : ∀ i, i < ops.size → T.contains i = false → relOb P ops T a0 w0 F i)
    (LI : Array Bool) (hL1 : LI.size = ops.size) (hL2 : ((List.range ops.size).all fun i => LI.getD i false == !T.contains i) = true) {n' : Nat} (hL3 : LI.toList.count true + n' = ops.size)
    (hend : ∀ a w, RelAt ops T a0 w0 F LI a w → wpAny P .any ops Q n' LI a w) :
    ∀ (fuel : Nat) (listed : Array Bool) (a : Act) (w : World), listed.toList.count true + fuel = ops.size → RelAt ops T a0 w0 F listed a w → wpAny P .any ops Q fuel listed a w := by
  intro fuel
  induction fuel with
  | zero =>
    intro listed a w hc h
    exact rel_end LI hL1 hL2 hL3 hend 0 listed a w hc h (fun i hi _ => by
      have h1 : listed.toList.count true = listed.toList.length := by rw [Array.length_toList, h.size]; omega
      have h2 := List.count_eq_length.1 h1
      have hlt : i < listed.size := by rw [h.size]; exact hi
      have h3 := h2 listed[i] (by simp)
      rw [Array.getD_eq_getD_getElem?, Array.getElem?_eq_getElem hlt, ← h3]
      rfl)
  | succ fuel ih =>
    intro listed a w hc h
    by_cases hall : ∀ i, i < ops.size → T.contains i = false → listed.getD i false = true
    · exact rel_end LI hL1 hL2 hL3 hend (fuel + 1) listed a w hc h hall
    refine ⟨fun hr => ?_, fun i hi => ?_⟩
    · exfalso
      apply hall
      intro i
      induction i using Nat.strongRecOn with
      | ind i ihi =>
        intro hi hT
        cases hg : listed.getD i false with
        | true => rfl
        | false =>
          have hin : i ∈ Region.ready .any ops listed := by
            refine mem_ready.2 ⟨?_, ops[i], Array.getElem?_eq_getElem hi, fun e he hb => ?_⟩
            · have hlt : i < listed.size := by rw [h.size]; exact hi
              rw [Array.getD_eq_getD_getElem?, Array.getElem?_eq_getElem hlt] at hg ⊢
              exact hg
            · have hd : depB ops i e.on = true := (depB_iff (Array.getElem?_eq_getElem hi)).2 ⟨e, he, hb, rfl⟩
              have hu := List.all_eq_true.1 hB i (List.mem_range.2 hi)
              rw [hT, Bool.false_or, Bool.and_eq_true] at hu
              by_cases hlt : e.on < ops.size
              · have := List.all_eq_true.1 hu.2 e.on (List.mem_range.2 hlt)
                rw [hd] at this
                simp at this
                exact ihi e.on this.1.1 hlt (by simpa using this.1.2)
              · have hx : e.on < i := by
                  have h5 := hu.1
                  rw [Bool.and_eq_true, Array.getElem?_eq_getElem hi] at h5
                  have h6 := h5.2
                  simp only [Option.map_some, Option.getD_some, Bool.and_eq_true] at h6
                  have h7 := (Array.all_eq_true_iff_forall_mem.1 h6.2) e he
                  rw [hb] at h7
                  simpa using h7
                omega
          rw [hr] at hin
          cases hin
    · obtain ⟨hun, o, ho, hdeps⟩ := mem_ready.1 hi
      have hlt : i < ops.size := (Array.getElem?_eq_some_iff.1 ho).1
      have hdep : ∀ j, depB ops i j = true → listed.getD j false = true := fun j hj => by
        obtain ⟨e, he, hb, rfl⟩ := (depB_iff ho).1 hj
        exact hdeps e he hb
      cases hT : T.contains i with
      | true =>
        exfalso
        apply hall
        intro m hm hmT
        have h1 := List.all_eq_true.1 (List.all_eq_true.1 hK i (List.contains_iff_mem.1 hT)) m (List.mem_range.2 hm)
        rw [hmT, Bool.false_or] at h1
        exact backB_in h.closed k _ (fun j hj => hdep j (List.mem_filter.1 hj).2) m (List.contains_iff_mem.1 h1)
      | false =>
        have hu := List.all_eq_true.1 hB i (List.mem_range.2 hlt)
        rw [hT, Bool.false_or, Bool.and_eq_true, Bool.and_eq_true, ho] at hu
        have hgu : o.guard = none := by have h8 := hu.1.2; simp only [Option.map_some, Option.getD_some, Bool.and_eq_true] at h8; simpa using h8.1
        obtain ⟨d, hd⟩ := Option.isSome_iff_exists.1 hu.1.1
        have hod : o.dst = some d := by unfold slotOf at hd; rw [ho] at hd; exact hd
        have hob := H i hlt hT o ho a.eval w (fun _ => rfl) (fun _ => rfl) (fun _ => rfl) h.frame h.below (fun j s hs hj => h.facts j s hs (hdep j hj))
        have hcnt : (listed.setIfInBounds i true).toList.count true + fuel = ops.size := by
          rw [Array.toList_setIfInBounds, List.count_set (by rw [Array.length_toList, h.size]; exact hlt)]
          have hx : listed.toList[i]'(by rw [Array.length_toList, h.size]; exact hlt) = false := by
            have hl : i < listed.size := by rw [h.size]; exact hlt
            rw [Array.getD_eq_getD_getElem?, Array.getElem?_eq_getElem hl] at hun
            simpa using hun
          rw [hx, if_neg (by decide), if_pos (by decide)]
          omega
        unfold wpOp
        rw [ho]
        dsimp only
        rw [if_pos (by simp [Region.wanted, hgu])]
        left
        unfold Oper.wp
        have hnext : ∀ v w', Below w.heap.size w w' → F i v w' → wpAny P .any ops Q fuel (listed.setIfInBounds i true) (a.put o.dst v) w' := fun v w' hb hv => by
          rw [hod]
          exact ih _ _ _ hcnt (h.step hB hsz hF hlt hT hd hdep hb hv)
        generalize (execOp a.eval o).run P w = res at *
        cases res with
        | ok n w' =>
          cases n <;> simp only [relUpon] at hob <;> simp only [Oper.upon]
          case value v => exact hnext v w' hob.1 hob.2
          case enter f args =>
            refine Calls.mono hob fun e w'' he => ?_
            obtain ⟨v, rfl, hb, hv⟩ := he
            exact hnext v w'' hb hv
        | halt x w' => simp only [relUpon] at hob
/-- the last ones wait for all others but u -/
def lastB1 (ops : Array Oper) (T : List Nat) (k u : Nat) : Bool :=
  T.all fun t => (List.range ops.size).all (fun i => T.contains i || i == u || (backB ops k ((List.range ops.size).filter (fun j => depB ops t j))).contains i)
theorem rel_any2 (u : Nat) (hB : relB ops T = true) {k : Nat} (hK : lastB1 ops T k u = true) (hsz : (List.range ops.size).all (fun i => T.contains i || ((slotOf ops i).map (fun d => decide (d < a0.tmps.size))).getD false) = true)
    (hF : ∀ i v w w', F i v w → Below w.heap.size w w' → F i v w') (H : ∀ i, i < ops.size → T.contains i = false → i ≠ u → relOb P ops T a0 w0 F i)
    (LI : Array Bool) (hL1 : LI.size = ops.size) (hL2 : ((List.range ops.size).all fun i => LI.getD i false == !T.contains i) = true) {n' : Nat} (hL3 : LI.toList.count true + n' = ops.size)
    (hend : ∀ a w, RelAt ops T a0 w0 F LI a w → wpAny P .any ops Q n' LI a w) :
    ∀ (fuel : Nat) (listed : Array Bool) (a : Act) (w : World), listed.toList.count true + fuel = ops.size → RelAt ops T a0 w0 F listed a w → listed.getD u false = true → wpAny P .any ops Q fuel listed a w := by
  intro fuel
  induction fuel with
  | zero =>
    intro listed a w hc h hlu
    exact rel_end LI hL1 hL2 hL3 hend 0 listed a w hc h (fun i hi _ => by
      have h1 : listed.toList.count true = listed.toList.length := by rw [Array.length_toList, h.size]; omega
      have h2 := List.count_eq_length.1 h1
      have hlt : i < listed.size := by rw [h.size]; exact hi
      have h3 := h2 listed[i] (by simp)
      rw [Array.getD_eq_getD_getElem?, Array.getElem?_eq_getElem hlt, ← h3]
      rfl)
  | succ fuel ih =>
    intro listed a w hc h hlu
    by_cases hall : ∀ i, i < ops.size → T.contains i = false → listed.getD i false = true
    · exact rel_end LI hL1 hL2 hL3 hend (fuel + 1) listed a w hc h hall
    refine ⟨fun hr => ?_, fun i hi => ?_⟩
    · exfalso
      apply hall
      intro i
      induction i using Nat.strongRecOn with
      | ind i ihi =>
        intro hi hT
        cases hg : listed.getD i false with
        | true => rfl
        | false =>
          have hin : i ∈ Region.ready .any ops listed := by
            refine mem_ready.2 ⟨?_, ops[i], Array.getElem?_eq_getElem hi, fun e he hb => ?_⟩
            · have hlt : i < listed.size := by rw [h.size]; exact hi
              rw [Array.getD_eq_getD_getElem?, Array.getElem?_eq_getElem hlt] at hg ⊢
              exact hg
            · have hd : depB ops i e.on = true := (depB_iff (Array.getElem?_eq_getElem hi)).2 ⟨e, he, hb, rfl⟩
              have hu := List.all_eq_true.1 hB i (List.mem_range.2 hi)
              rw [hT, Bool.false_or, Bool.and_eq_true] at hu
              by_cases hlt : e.on < ops.size
              · have := List.all_eq_true.1 hu.2 e.on (List.mem_range.2 hlt)
                rw [hd] at this
                simp at this
                exact ihi e.on this.1.1 hlt (by simpa using this.1.2)
              · have hx : e.on < i := by
                  have h5 := hu.1
                  rw [Bool.and_eq_true, Array.getElem?_eq_getElem hi] at h5
                  have h6 := h5.2
                  simp only [Option.map_some, Option.getD_some, Bool.and_eq_true] at h6
                  have h7 := (Array.all_eq_true_iff_forall_mem.1 h6.2) e he
                  rw [hb] at h7
                  simpa using h7
                omega
          rw [hr] at hin
          cases hin
    · obtain ⟨hun, o, ho, hdeps⟩ := mem_ready.1 hi
      have hlt : i < ops.size := (Array.getElem?_eq_some_iff.1 ho).1
      have hdep : ∀ j, depB ops i j = true → listed.getD j false = true := fun j hj => by
        obtain ⟨e, he, hb, rfl⟩ := (depB_iff ho).1 hj
        exact hdeps e he hb
      cases hT : T.contains i with
      | true =>
        exfalso
        apply hall
        intro m hm hmT
        have h1 := List.all_eq_true.1 (List.all_eq_true.1 hK i (List.contains_iff_mem.1 hT)) m (List.mem_range.2 hm)
        by_cases hmu : m = u
        · rw [hmu]; exact hlu
        have hne : (m == u) = false := by simpa using hmu
        rw [hmT, hne, Bool.false_or, Bool.false_or] at h1
        exact backB_in h.closed k _ (fun j hj => hdep j (List.mem_filter.1 hj).2) m (List.contains_iff_mem.1 h1)
      | false =>
        have hu := List.all_eq_true.1 hB i (List.mem_range.2 hlt)
        rw [hT, Bool.false_or, Bool.and_eq_true, Bool.and_eq_true, ho] at hu
        have hgu : o.guard = none := by have h8 := hu.1.2; simp only [Option.map_some, Option.getD_some, Bool.and_eq_true] at h8; simpa using h8.1
        obtain ⟨d, hd⟩ := Option.isSome_iff_exists.1 hu.1.1
        have hod : o.dst = some d := by unfold slotOf at hd; rw [ho] at hd; exact hd
        have hiu : i ≠ u := fun e => by subst e; rw [Array.getD_eq_getD_getElem?] at hun hlu; cases hq : listed[i]? with
          | none => rw [hq] at hlu; cases hlu
          | some b => rw [hq] at hlu hun; simp at hlu hun; rw [hlu] at hun; cases hun
        have hob := H i hlt hT hiu o ho a.eval w (fun _ => rfl) (fun _ => rfl) (fun _ => rfl) h.frame h.below (fun j s hs hj => h.facts j s hs (hdep j hj))
        have hcnt : (listed.setIfInBounds i true).toList.count true + fuel = ops.size := by
          rw [Array.toList_setIfInBounds, List.count_set (by rw [Array.length_toList, h.size]; exact hlt)]
          have hx : listed.toList[i]'(by rw [Array.length_toList, h.size]; exact hlt) = false := by
            have hl : i < listed.size := by rw [h.size]; exact hlt
            rw [Array.getD_eq_getD_getElem?, Array.getElem?_eq_getElem hl] at hun
            simpa using hun
          rw [hx, if_neg (by decide), if_pos (by decide)]
          omega
        unfold wpOp
        rw [ho]
        dsimp only
        rw [if_pos (by simp [Region.wanted, hgu])]
        left
        unfold Oper.wp
        have hnext : ∀ v w', Below w.heap.size w w' → F i v w' → wpAny P .any ops Q fuel (listed.setIfInBounds i true) (a.put o.dst v) w' := fun v w' hb hv => by
          rw [hod]
          exact ih _ _ _ hcnt (h.step hB hsz hF hlt hT hd hdep hb hv) (put_getD hlu)
        generalize (execOp a.eval o).run P w = res at *
        cases res with
        | ok n w' =>
          cases n <;> simp only [relUpon] at hob <;> simp only [Oper.upon]
          case value v => exact hnext v w' hob.1 hob.2
          case enter f args =>
            refine Calls.mono hob fun e w'' he => ?_
            obtain ⟨v, rfl, hb, hv⟩ := he
            exact hnext v w'' hb hv
        | halt x w' => simp only [relUpon] at hob
/-- all that is owed -/
def relAll (P : Program) (ops : Array Oper) (T : List Nat) (a0 : Act) (w0 : World) (F : Nat → Value → World → Prop) : List Nat → Prop
  | [] => True
  | i :: l => relOb P ops T a0 w0 F i ∧ relAll P ops T a0 w0 F l
theorem relAll_in : ∀ {l : List Nat}, relAll P ops T a0 w0 F l → ∀ i ∈ l, relOb P ops T a0 w0 F i
  | _ :: _, h, i, hi => by
    rcases List.mem_cons.1 hi with rfl | hi
    · exact h.1
    · exact relAll_in h.2 i hi
theorem relOb_mk {i : Nat} {o : Oper} (ho : ops[i]? = some o) (h : ∀ (r : Operand → Value) (w : World), (∀ v, r (.const v) = v) → (∀ f, r (.func f) = .func (.func f) #[] #[]) → (∀ g, r (.global g) = .pointer (some ⟨g, 0, none⟩)) →
    (∀ s, offB ops T s = true → r (.tmp s) = a0.eval (.tmp s)) → Below w0.heap.size w0 w →
    (∀ j s, slotOf ops j = some s → depB ops i j = true → F j (r (.tmp s)) w) → relUpon P w (F i) ((execOp r o).run P w)) : relOb P ops T a0 w0 F i := by
  intro o' ho' r w h1 h2 h3 h4 h5 h6
  rw [ho] at ho'
  injection ho' with ho'
  subst ho'
  exact h r w h1 h2 h3 h4 h5 h6
/-- does it stay when new memory is made? -/
def stays (p : Value → World → Prop) : Prop := ∀ v w w', p v w → Below w.heap.size w w' → p v w'
theorem stays_is (c : Value) : stays (fun v _ => v = c) := fun _ _ _ h _ => h
theorem stays_true : stays (fun _ _ => True) := fun _ _ _ h _ => h
def staysAll : List (Value → World → Prop) → Prop
  | [] => True
  | p :: l => stays p ∧ staysAll l
theorem stays_at : ∀ {l : List (Value → World → Prop)}, staysAll l → ∀ i, stays (l.getD i (fun _ _ => True))
  | [], _, _ => stays_true
  | _ :: _, h, 0 => h.1
  | _ :: _, h, i + 1 => stays_at h.2 i
/-- the frame when the slots D have been filled -/
def fillAll (a : Act) (D : List Nat) (x : Act) : Act := D.foldl (fun y d => y.put (some d) (a.eval (.tmp d))) x
theorem fill_size (a : Act) : ∀ (D : List Nat) (x : Act), (fillAll a D x).tmps.size = x.tmps.size ∧ (fillAll a D x).defers = x.defers
  | [], _ => ⟨rfl, rfl⟩
  | d :: D, x => by
    have h := fill_size a D (x.put (some d) (a.eval (.tmp d)))
    refine ⟨h.1.trans ?_, h.2⟩
    show (x.tmps.setIfInBounds d _).size = _
    rw [Array.size_setIfInBounds]
theorem fill_eval (a : Act) {s : Nat} : ∀ (D : List Nat) (x : Act), s < x.tmps.size → (fillAll a D x).eval (.tmp s) = if D.contains s then a.eval (.tmp s) else x.eval (.tmp s)
  | [], _, _ => rfl
  | d :: D, x, hs => by
    have h := fill_eval a D (x.put (some d) (a.eval (.tmp d))) (by show s < (x.tmps.setIfInBounds d _).size; rw [Array.size_setIfInBounds]; exact hs)
    show (fillAll a D (x.put (some d) (a.eval (.tmp d)))).eval (.tmp s) = _
    rw [h, List.contains_cons]
    by_cases hd : d = s
    · subst hd
      rw [eval_put_self hs]
      simp
    · rw [eval_put hd]
      have : (s == d) = false := by simpa using fun e => hd e.symm
      rw [this, Bool.false_or]
theorem act_ext {a b : Act} (h1 : a.tmps.size = b.tmps.size) (h2 : a.defers = b.defers) (h3 : ∀ s, s < a.tmps.size → a.eval (.tmp s) = b.eval (.tmp s)) : a = b := by
  obtain ⟨t, d⟩ := a
  obtain ⟨t', d'⟩ := b
  dsimp only at h1 h2 h3
  subst h2
  congr 1
  refine Array.ext h1 fun i hi hi' => ?_
  have := h3 i hi
  simpa [Act.eval, Array.getD_eq_getD_getElem?, Array.getElem?_eq_getElem hi, Array.getElem?_eq_getElem hi'] using this
/-- the whole region: LI tells which have come up when the last ones are to come; D are the slots that have been filled -/
theorem wp_region_rel {id : Nat} (hm : P.follows .mixedOrders = true) (T : List Nat) (k : Nat) (L : List Nat) (D : List Nat) (LI : Array Bool) (n' : Nat) (G : List (Value → World → Prop))
    (hB : relB ops T = true) (hK : lastB ops T k = true) (hsz : (List.range ops.size).all (fun i => T.contains i || ((slotOf ops i).map (fun d => decide (d < a0.tmps.size))).getD false) = true)
    (hL : (List.range ops.size).all (fun i => T.contains i || L.contains i) = true) (hD : (List.range a0.tmps.size).all (fun s => D.contains s || offB ops T s) = true)
    (hL1 : LI.size = ops.size) (hL2 : ((List.range ops.size).all fun i => LI.getD i false == !T.contains i) = true) (hL3 : LI.toList.count true + n' = ops.size)
    (hG : staysAll G) (H : relAll P ops T a0 w0 (fun i => G.getD i (fun _ _ => True)) L)
    (hend : ∀ a w, Below w0.heap.size w0 w → (∀ i s, slotOf ops i = some s → LI.getD i false = true → G.getD i (fun _ _ => True) (a.eval (.tmp s)) w) → wpAny P .any ops Q n' LI (fillAll a D a0) w) :
    (Code.region id ops true).wp P Q a0 w0 := by
  refine wp_region_any hm (rel_any (w0 := w0) hB hK hsz (fun i v w w' h hb => stays_at hG i v w w' h hb) (fun i hi hT => ?_) LI hL1 hL2 hL3 (fun a w h => ?_) ops.size (Array.replicate ops.size false) a0 _ ?_ ?_)
  · have := List.all_eq_true.1 hL i (List.mem_range.2 hi)
    rw [hT, Bool.false_or] at this
    exact relAll_in H i (List.contains_iff_mem.1 this)
  · have he : a = fillAll a D a0 := by
      obtain ⟨f1, f2⟩ := fill_size a D a0
      refine act_ext (h.tmps.trans f1.symm) (h.defers.trans f2.symm) fun s hs => ?_
      have hs' : s < a0.tmps.size := by rw [← h.tmps]; exact hs
      rw [fill_eval a D a0 hs']
      split
      · rfl
      · rename_i hn
        have := List.all_eq_true.1 hD s (List.mem_range.2 hs')
        rw [Bool.or_eq_true] at this
        exact h.frame s (this.resolve_left hn)
    have h2 := hend a w h.below h.facts
    rw [← he] at h2
    exact h2
  · rw [Array.toList_replicate, List.count_replicate, if_neg (by decide), Nat.zero_add]
  · refine ⟨Array.size_replicate, fun i j hi => ?_, fun i hi => ?_, rfl, rfl, fun _ _ => rfl, (Below.refl _ w0).drew, fun i s _ hi => ?_⟩
    all_goals
      rw [Array.getD_eq_getD_getElem?, Array.getElem?_replicate] at hi
      split at hi <;> cases hi
theorem rel_start (w0 : World) (F : Nat → Value → World → Prop) : RelAt ops T a0 w0 F (Array.replicate ops.size false) a0 w0.drew := by
  refine ⟨Array.size_replicate, fun i j hi => ?_, fun i hi => ?_, rfl, rfl, fun _ _ => rfl, (Below.refl _ w0).drew, fun i s _ hi => ?_⟩
  all_goals
    rw [Array.getD_eq_getD_getElem?, Array.getElem?_replicate] at hi
    split at hi <;> cases hi
/-- the same, operation u taken first: the last ones do not wait for it -/
theorem wp_region_rel1 {id : Nat} (hm : P.follows .mixedOrders = true) (T : List Nat) (k : Nat) (L : List Nat) (D : List Nat) (LI : Array Bool) (n' : Nat) (G : List (Value → World → Prop)) (u d : Nat) (v : Value) {ou : Oper}
    (hu : ops[u]? = some ou) (hud : ou.dst = some d) (hdu : slotOf ops u = some d) (huT : T.contains u = false) (hs : Region.noSelect ops = true) (hf : Region.free .any ops (Array.replicate ops.size false) u = true) (hr : (Region.ready .any ops (Array.replicate ops.size false)).contains u = true)
    (hQ : ∀ c a w, Q (.panic c) (a.put ou.dst v) w → Q (.panic c) a w) (hy : Yields P ops ou v a0) (hnd : (List.range ops.size).all (fun j => !depB ops u j) = true) (hvu : ∀ w, G.getD u (fun _ _ => True) v w)
    (hB : relB ops T = true) (hK : lastB1 ops T k u = true) (hsz : (List.range ops.size).all (fun i => T.contains i || ((slotOf ops i).map (fun d => decide (d < a0.tmps.size))).getD false) = true)
    (hL : (List.range ops.size).all (fun i => T.contains i || i == u || L.contains i) = true) (hD : (List.range a0.tmps.size).all (fun s => D.contains s || offB ops T s) = true)
    (hL1 : LI.size = ops.size) (hL2 : ((List.range ops.size).all fun i => LI.getD i false == !T.contains i) = true) (hL3 : LI.toList.count true + n' = ops.size)
    (hG : staysAll G) (H : relAll P ops T a0 w0 (fun i => G.getD i (fun _ _ => True)) L)
    (hend : ∀ a w, Below w0.heap.size w0 w → (∀ i s, slotOf ops i = some s → LI.getD i false = true → G.getD i (fun _ _ => True) (a.eval (.tmp s)) w) → wpAny P .any ops Q n' LI (fillAll a D a0) w) :
    (Code.region id ops true).wp P Q a0 w0 := by
  have hult : u < ops.size := (Array.getElem?_eq_some_iff.1 hu).1
  have hsub : ∃ m, ops.size = m + 1 := ⟨ops.size - 1, by omega⟩
  obtain ⟨m, hm1⟩ := hsub
  refine wp_region_any hm ?_
  rw [hm1, ← hm1]
  have hF : ∀ i v w w', G.getD i (fun _ _ => True) v w → Below w.heap.size w w' → G.getD i (fun _ _ => True) v w' := fun i v w w' h hb => stays_at hG i v w w' h hb
  have hnod : ∀ j, depB ops u j = true → False := fun j hj => by
    obtain ⟨e, he, hb, rfl⟩ := (depB_iff hu).1 hj
    have hB1 := List.all_eq_true.1 hB u (List.mem_range.2 hult)
    rw [huT, Bool.false_or, Bool.and_eq_true, Bool.and_eq_true, hu] at hB1
    have h8 := hB1.1.2
    simp only [Option.map_some, Option.getD_some, Bool.and_eq_true] at h8
    have h9 := (Array.all_eq_true_iff_forall_mem.1 h8.2) e he
    have h10 : e.on < u := by rw [hb] at h9; simpa using h9
    have := List.all_eq_true.1 hnd e.on (List.mem_range.2 (by omega))
    rw [hj] at this
    cases this
  have h1 := RelAt.step (T := T) (a0 := a0) (w0 := w0) (F := fun i => G.getD i (fun _ _ => True)) (v := v) hB hsz hF (rel_start w0 _) hult huT hdu (fun j hj => (hnod j hj).elim) (Below.refl _ _) (hvu _)
  suffices h : wpAny P .any ops Q m ((Array.replicate ops.size false).setIfInBounds u true) (a0.put (some d) v) w0.drew by
    have h2 := wpAny_take (Q := Q) (a := a0) (w := w0.drew) (fuel := m) hu hs hf hr hQ hy (by rw [hud]; exact h)
    rw [← hm1] at h2
    exact h2
  refine rel_any2 (w0 := w0) u hB hK hsz hF (fun i hi hT hiu => ?_) LI hL1 hL2 hL3 (fun a w h => ?_) m _ _ _ ?_ h1 ?_
  · have := List.all_eq_true.1 hL i (List.mem_range.2 hi)
    have hne : (i == u) = false := by simpa using hiu
    rw [hT, hne, Bool.false_or, Bool.false_or] at this
    exact relAll_in H i (List.contains_iff_mem.1 this)
  · have he : a = fillAll a D a0 := by
      obtain ⟨f1, f2⟩ := fill_size a D a0
      refine act_ext (h.tmps.trans f1.symm) (h.defers.trans f2.symm) fun s hs => ?_
      have hs' : s < a0.tmps.size := by rw [← h.tmps]; exact hs
      rw [fill_eval a D a0 hs']
      split
      · rfl
      · rename_i hn
        have := List.all_eq_true.1 hD s (List.mem_range.2 hs')
        rw [Bool.or_eq_true] at this
        exact h.frame s (this.resolve_left hn)
    have h2 := hend a w h.below h.facts
    rw [← he] at h2
    exact h2
  · rw [Array.toList_setIfInBounds, Array.toList_replicate, List.count_set (by rw [List.length_replicate]; exact hult), List.count_replicate, if_neg (by decide), List.getElem_replicate, if_neg (by decide), if_pos (by decide)]
    omega
  · rw [Array.getD_eq_getD_getElem?, Array.getElem?_setIfInBounds_self_of_lt (by rw [Array.size_replicate]; exact hult)]
    rfl
end
end Go.Proofs.Ytjienmjpfklgeaa
