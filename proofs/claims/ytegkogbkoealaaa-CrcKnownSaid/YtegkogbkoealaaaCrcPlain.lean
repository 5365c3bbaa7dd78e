/-
  Plain laws of the check of chapter 1, no program in sight: the check's eight-step move is linear under exclusive or and undone by its way back.
-/
namespace Go.Proofs.Ytegkogbkoealaaa.Crc

/-- one bit goes by -/
def ah (n : Nat) : Nat := if n % 2 = 1 then n / 2 ^^^ 3988292384 else n / 2
/-- and back -/
def bk (n : Nat) : Nat := if 2147483648 ≤ n then ((n ^^^ 3988292384) * 2 + 1) % 4294967296 else n * 2

def it (f : Nat → Nat) : Nat → Nat → Nat
  | 0, n => n
  | k + 1, n => it f k (f n)

def ah8 (n : Nat) : Nat := it ah 8 n
def bk8 (n : Nat) : Nat := it bk 8 n
def step (r c : Nat) : Nat := ah8 (r ^^^ c)
def run (r : Nat) (l : List Nat) : Nat := l.foldl step r
def sum (l : List Nat) : Nat := run 4294967295 l ^^^ 4294967295

theorem it_succ (f : Nat → Nat) (k n : Nat) : it f (k + 1) n = f (it f k n) := by
  induction k generalizing n with
  | zero => rfl
  | succ k ih => rw [it, ih (f n)]; rfl
theorem it_add (f : Nat → Nat) (j k n : Nat) : it f (j + k) n = it f j (it f k n) := by
  induction k generalizing n with
  | zero => rfl
  | succ k ih => rw [← Nat.add_assoc, it, ih]; rfl
theorem it_mul (f : Nat → Nat) (j k n : Nat) : it (it f j) k n = it f (j * k) n := by
  induction k generalizing n with
  | zero => rfl
  | succ k ih => rw [it, ih, Nat.mul_succ, it_add]

theorem ah_xor (a b : Nat) : ah (a ^^^ b) = ah a ^^^ ah b := by
  have h : (a ^^^ b) % 2 = (a + b) % 2 := by
    have := @Nat.xor_mod_two_pow a b 1
    simp only [Nat.pow_one] at this
    rw [this]
    rcases Nat.mod_two_eq_zero_or_one a with ha | ha <;> rcases Nat.mod_two_eq_zero_or_one b with hb | hb <;> rw [ha, hb] <;> simp <;> omega
  have d := @Nat.xor_div_two a b
  unfold ah
  rw [h, d]
  rcases Nat.mod_two_eq_zero_or_one a with ha | ha <;> rcases Nat.mod_two_eq_zero_or_one b with hb | hb
  · rw [if_neg (by omega), if_neg (by omega), if_neg (by omega)]
  · rw [if_pos (by omega), if_neg (by omega), if_pos (by omega), Nat.xor_assoc]
  · rw [if_pos (by omega), if_pos (by omega), if_neg (by omega), Nat.xor_assoc, Nat.xor_assoc, Nat.xor_comm (b / 2)]
  · rw [if_neg (by omega), if_pos (by omega), if_pos (by omega), Nat.xor_assoc, ← Nat.xor_assoc 3988292384, Nat.xor_comm 3988292384, Nat.xor_assoc (b/2), Nat.xor_self, Nat.xor_zero]
theorem it_xor {f : Nat → Nat} (hf : ∀ a b, f (a ^^^ b) = f a ^^^ f b) (k a b : Nat) : it f k (a ^^^ b) = it f k a ^^^ it f k b := by
  induction k generalizing a b with
  | zero => rfl
  | succ k ih => rw [it, hf, ih]; rfl
theorem ah8_xor (a b : Nat) : ah8 (a ^^^ b) = ah8 a ^^^ ah8 b := it_xor ah_xor 8 a b
theorem ah_zero : ah 0 = 0 := by decide
theorem it_zero {f : Nat → Nat} (hf : f 0 = 0) (k : Nat) : it f k 0 = 0 := by
  induction k with
  | zero => rfl
  | succ k ih => rw [it, hf, ih]
theorem ah8_zero : ah8 0 = 0 := it_zero ah_zero 8
theorem bk8_zero : bk8 0 = 0 := it_zero (by decide) 8

theorem ah_lt {n : Nat} (h : n < 4294967296) : ah n < 4294967296 := by
  unfold ah
  split
  · exact Nat.xor_lt_two_pow (n := 32) (by omega) (by omega)
  · omega
theorem it_lt {f : Nat → Nat} {B : Nat} (hf : ∀ n, n < B → f n < B) (k : Nat) {n : Nat} (h : n < B) : it f k n < B := by
  induction k generalizing n with
  | zero => exact h
  | succ k ih => exact ih (hf n h)
theorem ah8_lt {n : Nat} (h : n < 4294967296) : ah8 n < 4294967296 := it_lt (fun _ => ah_lt) 8 h
theorem bk_lt {n : Nat} (h : n < 4294967296) : bk n < 4294967296 := by
  unfold bk
  split <;> omega
theorem bk8_lt {n : Nat} (h : n < 4294967296) : bk8 n < 4294967296 := it_lt (fun _ => bk_lt) 8 h

theorem xor_lt32 {a b : Nat} (ha : a < 4294967296) (hb : b < 4294967296) : a ^^^ b < 4294967296 :=
  Nat.xor_lt_two_pow (n := 32) (by omega) (by omega)
theorem step_lt {r c : Nat} (h : r < 4294967296) (hc : c < 256) : step r c < 4294967296 :=
  ah8_lt (xor_lt32 h (by omega))
theorem run_lt (l : List Nat) : ∀ {r : Nat}, r < 4294967296 → (∀ c ∈ l, c < 256) → run r l < 4294967296 := by
  induction l with
  | nil => intro r h _; exact h
  | cons a l ih => intro r h hl; exact ih (step_lt h (hl a (by simp))) (fun c hc => hl c (by simp [hc]))

theorem high_of_xor (n : Nat) (h : n < 4294967296) : (n / 2 ^^^ 3988292384) ≥ 2147483648 := by
  have h1 : (n / 2 ^^^ 3988292384).testBit 31 = true := by
    rw [Nat.testBit_xor]
    have : (n / 2).testBit 31 = false := Nat.testBit_lt_two_pow (by omega)
    rw [this]; decide
  exact Nat.ge_two_pow_of_testBit h1

theorem bk_ah {n : Nat} (h : n < 4294967296) : bk (ah n) = n := by
  unfold ah
  split
  · rename_i ho
    unfold bk
    rw [if_pos (high_of_xor n h), Nat.xor_assoc, Nat.xor_self, Nat.xor_zero]
    omega
  · unfold bk
    rw [if_neg (by omega)]
    omega
theorem it_back {f g : Nat → Nat} {B : Nat} (hf : ∀ n, n < B → f n < B) (hg : ∀ n, n < B → g (f n) = n) (k : Nat) {n : Nat} (h : n < B) : it g k (it f k n) = n := by
  induction k generalizing n with
  | zero => rfl
  | succ k ih => rw [it_succ f, it, hg _ (it_lt hf k h), ih h]
theorem bk8_ah8 {n : Nat} (h : n < 4294967296) : bk8 (ah8 n) = n := it_back (fun _ => ah_lt) (fun _ => bk_ah) 8 h
theorem back_of {k n : Nat} (h : n < 4294967296) : it bk8 k (it ah8 k n) = n := it_back (fun _ => ah8_lt) (fun _ => bk8_ah8) k h

/-- the way there is one to one, so (there being finitely many) also the way back is undone: shown directly -/
theorem ah_bk {n : Nat} (h : n < 4294967296) : ah (bk n) = n := by
  unfold bk
  split
  · rename_i hge
    have hx : n ^^^ 3988292384 < 2147483648 := by
      refine Nat.lt_pow_two_of_testBit (n := 31) _ ?_
      intro j hj
      rcases Nat.lt_or_ge j 32 with h32 | h32
      · obtain rfl : j = 31 := by omega
        rw [Nat.testBit_xor]
        have : n.testBit 31 = true := by
          rw [Nat.testBit_eq_decide_div_mod_eq]; simp; omega
        rw [this]; decide
      · have h1 : (n ^^^ 3988292384) < 2 ^ 32 := Nat.xor_lt_two_pow (by omega) (by omega)
        exact Nat.testBit_lt_two_pow (Nat.lt_of_lt_of_le h1 (Nat.pow_le_pow_right (by omega) h32))
    have e : ((n ^^^ 3988292384) * 2 + 1) % 4294967296 = (n ^^^ 3988292384) * 2 + 1 := by omega
    rw [e]
    unfold ah
    rw [if_pos (by omega)]
    have : ((n ^^^ 3988292384) * 2 + 1) / 2 = n ^^^ 3988292384 := by omega
    rw [this, Nat.xor_assoc, Nat.xor_self, Nat.xor_zero]
  · unfold ah
    rw [if_neg (by omega)]
    omega
theorem ah8_bk8 {n : Nat} (h : n < 4294967296) : ah8 (bk8 n) = n := it_back (fun _ => bk_lt) (fun _ => ah_bk) 8 h
theorem there_of {k n : Nat} (h : n < 4294967296) : it ah8 k (it bk8 k n) = n := it_back (fun _ => bk8_lt) (fun _ => ah8_bk8) k h

theorem it_ah8_lt {k n : Nat} (h : n < 4294967296) : it ah8 k n < 4294967296 := it_lt (fun _ => ah8_lt) k h
theorem it_bk8_lt {k n : Nat} (h : n < 4294967296) : it bk8 k n < 4294967296 := it_lt (fun _ => bk8_lt) k h
theorem it_ah8_xor (k a b : Nat) : it ah8 k (a ^^^ b) = it ah8 k a ^^^ it ah8 k b := it_xor ah8_xor k a b
theorem it_ah8_inj {k a b : Nat} (ha : a < 4294967296) (hb : b < 4294967296) (h : it ah8 k a = it ah8 k b) : a = b := by
  have := congrArg (it bk8 k) h
  rwa [back_of ha, back_of hb] at this

/-! ### rows of bytes -/
theorem run_append (r : Nat) (a b : List Nat) : run r (a ++ b) = run (run r a) b := List.foldl_append ..
theorem run_xor (l m : List Nat) (h : l.length = m.length) (r s : Nat) : run (r ^^^ s) (List.zipWith (· ^^^ ·) l m) = run r l ^^^ run s m := by
  induction l generalizing m r s with
  | nil => cases m with
    | nil => rfl
    | cons => simp at h
  | cons a l ih => cases m with
    | nil => simp at h
    | cons b m =>
      have e : step (r ^^^ s) (a ^^^ b) = step r a ^^^ step s b := by
        unfold step
        rw [← ah8_xor]; congr 1
        ac_rfl
      simp only [List.zipWith_cons_cons, run, List.foldl_cons] at *
      rw [e]; exact ih m (by simpa using h) _ _
theorem run_xor_same (l : List Nat) : ∀ (r s : Nat), run (r ^^^ s) l = run r l ^^^ it ah8 l.length s := by
  induction l with
  | nil => intro r s; rfl
  | cons a l ih =>
    intro r s
    have e : step (r ^^^ s) a = step r a ^^^ ah8 s := by
      unfold step; rw [← ah8_xor]; congr 1; ac_rfl
    simp only [run, List.foldl_cons] at *
    rw [e]; exact ih _ _
/-- one byte is another one -/
theorem run_one (r a b : Nat) (x y : List Nat) : run r (x ++ a :: y) ^^^ run r (x ++ b :: y) = it ah8 (y.length + 1) (a ^^^ b) := by
  rw [run_append, run_append]
  generalize run r x = s
  have e : step s a = step s b ^^^ ah8 (a ^^^ b) := by
    unfold step; rw [← ah8_xor]; congr 1
    rw [Nat.xor_assoc, Nat.xor_comm a b, ← Nat.xor_assoc b, Nat.xor_self, Nat.zero_xor]
  show run (step s a) y ^^^ run (step s b) y = _
  rw [e, run_xor_same, it, Nat.xor_assoc, Nat.xor_comm (it ah8 y.length _), ← Nat.xor_assoc, Nat.xor_self, Nat.zero_xor]
theorem xor_cancel_right (a b c : Nat) : (a ^^^ c) ^^^ (b ^^^ c) = a ^^^ b := by
  rw [Nat.xor_assoc, Nat.xor_comm b c, ← Nat.xor_assoc c, Nat.xor_self, Nat.zero_xor]
theorem xor_xor_self (a b : Nat) : a ^^^ b ^^^ b = a := by rw [Nat.xor_assoc, Nat.xor_self, Nat.xor_zero]
theorem sum_one (a b : Nat) (x y : List Nat) : sum (x ++ a :: y) ^^^ sum (x ++ b :: y) = it ah8 (y.length + 1) (a ^^^ b) := by
  unfold sum; rw [xor_cancel_right, run_one]
theorem sum_change (a b : Nat) (x y : List Nat) : sum (x ++ a :: y) ^^^ it ah8 (y.length + 1) (a ^^^ b) = sum (x ++ b :: y) := by
  rw [← sum_one a b x y, ← Nat.xor_assoc, Nat.xor_self, Nat.zero_xor]
theorem sum_lt (l : List Nat) (h : ∀ c ∈ l, c < 256) : sum l < 4294967296 := xor_lt32 (run_lt l (by omega) h) (by omega)
theorem split_at (l : List Nat) (k : Nat) (h : k < l.length) : l = l.take k ++ l[k] :: l.drop (k + 1) := by
  rw [← List.drop_eq_getElem_cons h, List.take_append_drop]
theorem set_at (l : List Nat) (k v : Nat) (h : k < l.length) : l.set k v = l.take k ++ v :: l.drop (k + 1) := by
  rw [List.set_eq_take_append_cons_drop, if_pos h]
theorem sum_set (l : List Nat) (k v : Nat) (h : k < l.length) : sum l ^^^ it ah8 (l.length - 1 - k + 1) (l[k] ^^^ v) = sum (l.set k v) := by
  have := sum_change l[k] v (l.take k) (l.drop (k + 1))
  rw [← split_at l k h, ← set_at l k v h, List.length_drop] at this
  rwa [show l.length - (k + 1) = l.length - 1 - k by omega] at this
theorem it_zero' (f : Nat → Nat) (n : Nat) : it f 0 n = n := rfl
theorem run_nil (r : Nat) : run r [] = r := rfl
theorem run_snoc (r : Nat) (l : List Nat) (c : Nat) : run r (l ++ [c]) = step (run r l) c := by rw [run_append]; rfl
theorem ah8_eq (n : Nat) : it ah 8 n = ah8 n := rfl
theorem bk8_eq (n : Nat) : it bk 8 n = bk8 n := rfl
theorem step_eq (r c : Nat) : step r c = ah8 (r ^^^ c) := rfl
theorem sum_eq (l : List Nat) : sum l = run 4294967295 l ^^^ 4294967295 := rfl
end Go.Proofs.Ytegkogbkoealaaa.Crc
