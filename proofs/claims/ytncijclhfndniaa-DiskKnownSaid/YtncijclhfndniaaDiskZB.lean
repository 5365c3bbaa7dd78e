/-
  Chapter 14: calls of a disk that is not there; the walk of the closed statement DiskKnown.
-/
import Derived.Test.YtncijclhfndniaaDiskN
import Derived.Test.YtncijclhfndniaaDiskZ
namespace Go.Proofs.Ytncijclhfndniaa
open Go.RowKit
attribute [local irreducible] byteVals okB zeros pad strOf Dk.wCode Dk.sCode Dk.write Dk.sync Dk.crash Dk.on Dk.rd Dk.ask Dk.fail P2 Kz DZ
theorem nil_blocks (w : World) : Calls Try.prog 22 #[.pointer none] w fun e w' => e = .returned (.int .i64 0) ∧ Below w.heap.size w w' := by
  go_enter Try.func22, Try.ntmps22
  go_wp2_with fail
  go_ret
  exact ⟨rfl, Below.refl _ _⟩
theorem nil_steps (w : World) : Calls Try.prog 23 #[.pointer none] w fun e w' => e = .returned (.int .i64 0) ∧ Below w.heap.size w w' := by
  go_enter Try.func23, Try.ntmps23
  go_wp2_with fail
  go_ret
  exact ⟨rfl, Below.refl _ _⟩
theorem nil_open (w : World) : Calls Try.prog 24 #[.pointer none] w fun e w' => e = .returned (.int .i64 0) ∧ Below w.heap.size w w' := by
  go_enter Try.func24, Try.ntmps24
  go_wp2_with fail
  go_ret
  exact ⟨rfl, Below.refl _ _⟩
theorem nil_off (w : World) : Calls Try.prog 10 #[.pointer none] w fun e w' => e = .returned (.bool true) ∧ Below w.heap.size w w' := by
  go_enter Try.func10, Try.ntmps10
  go_wp2_with fail
  go_ret
  exact ⟨rfl, Below.refl _ _⟩
theorem nil_sync (w : World) : Calls Try.prog 11 #[.pointer none] w fun e w' => e = .returned (.int .i64 1) ∧ Below w.heap.size w w' := by
  go_enter Try.func11, Try.ntmps11
  go_wp2_with fail
  go_ret
  exact ⟨rfl, Below.refl _ _⟩
theorem nil_copy (w : World) : Calls Try.prog 19 #[.pointer none] w fun e w' => e = .returned (.pointer none) ∧ Below w.heap.size w w' := by
  go_enter Try.func19, Try.ntmps19
  go_wp2_with fail
  go_ret
  exact ⟨rfl, Below.refl _ _⟩
theorem nil_asked (w : World) : Calls Try.prog 27 #[.pointer none, .int .i64 0] w fun e w' => e = .returned (.int .i64 1) ∧ Below w.heap.size w w' := by
  go_enter Try.func27, Try.ntmps27
  go_wp2_with fail
  go_ret
  exact ⟨rfl, Below.refl _ _⟩
theorem nil_crash (w : World) : Calls Try.prog 13 #[.pointer none] w fun e w' => e = .returned (.tuple #[]) ∧ Below w.heap.size w w' := by
  go_enter Try.func13, Try.ntmps13
  go_wp2_with fail
  go_end0
  exact ⟨rfl, Below.refl _ _⟩
theorem nil_on (w : World) : Calls Try.prog 14 #[.pointer none, .slice none 0 0] w fun e w' => e = .returned (.tuple #[]) ∧ Below w.heap.size w w' := by
  go_enter Try.func14, Try.ntmps14
  go_wp2_with fail
  refine bodyPost_ret (results_none rfl _ _ _) rfl ?_
  exact ⟨rfl, Below.refl _ _⟩
theorem nil_fail (w : World) : Calls Try.prog 9 #[.pointer none, .int .i64 1] w fun e w' => e = .returned (.tuple #[]) ∧ Below w.heap.size w w' := by
  go_enter Try.func9, Try.ntmps9
  go_wp2_with fail
  refine bodyPost_ret (results_none rfl _ _ _) rfl ?_
  exact ⟨rfl, below1 _ _⟩
theorem nil_write (w : World) : Calls Try.prog 12 #[.pointer none, .int .i64 0, .slice none 0 0] w fun e w' => e = .returned (.int .i64 1) ∧ Below w.heap.size w w' := by
  go_enter Try.func12, Try.ntmps12
  go_wp2_with fail
  refine (nil_asked _).mono ?_
  rintro e w1 ⟨rfl, hb⟩
  go_wp2_with fail
  go_ret
  exact ⟨rfl, hb⟩
theorem nil_read (w : World) : Calls Try.prog 15 #[.pointer none, .int .i64 0] w fun e w' => e = .returned (.tuple #[.slice none 0 0, .int .i64 1]) ∧ Below w.heap.size w w' := by
  refine (callsIn_wide (n := 6)).1 ?_
  refine callsIn_of_wp_marks Try.func15 rfl trivial ?_ rfl
  simp only [Try.ntmps15, List.size_toArray, List.length_cons, List.length_nil, Nat.reduceAdd, Nat.reduceSub, Array.replicate_succ, Array.replicate_zero, List.push_toArray, List.append_toArray, List.nil_append, List.cons_append]
  refine wpIn_wide.2 ?_
  go_wp2_with fail
  refine (nil_asked _).mono ?_
  rintro e w1 ⟨rfl, hb⟩
  go_wp2_with fail
  refine ⟨_, results_tmp2 (t := 4) (u := 5) rfl _ _ _, rfl, below_on (below1 _ _) hb⟩
theorem al2 (w : World) (A B : Obj) : ((w.alloc A).alloc B).heap[w.heap.size]? = some A ∧ ((w.alloc A).alloc B).heap[w.heap.size + 1]? = some B := alloc2' w A B
theorem al4 (w : World) (A B C D : Obj) : ((((w.alloc A).alloc B).alloc C).alloc D).heap[w.heap.size]? = some A ∧ ((((w.alloc A).alloc B).alloc C).alloc D).heap[w.heap.size + 1]? = some B ∧ ((((w.alloc A).alloc B).alloc C).alloc D).heap[w.heap.size + 1 + 1]? = some C ∧ ((((w.alloc A).alloc B).alloc C).alloc D).heap[w.heap.size + 1 + 1 + 1]? = some D := by
  have h1 := al2 w A B
  have h2 := al2 ((w.alloc A).alloc B) C D
  rw [World.size_alloc, World.size_alloc] at h2
  have hb : Below ((w.alloc A).alloc B).heap.size ((w.alloc A).alloc B) ((((w.alloc A).alloc B).alloc C).alloc D) := below2' _ _ _
  exact ⟨blk_keep hb h1.1, blk_keep hb h1.2, h2.1, h2.2⟩
theorem al5 (W w : World) (A0 A1 A2 A3 A4 : Obj) (h : W = ((((w.alloc A0).alloc A1).alloc A2).alloc A3).alloc A4) : (W.heap[w.heap.size]? = some A0 ∧ W.heap[w.heap.size + 1]? = some A1 ∧ W.heap[w.heap.size + 1 + 1]? = some A2 ∧ W.heap[w.heap.size + 1 + 1 + 1]? = some A3 ∧ W.heap[w.heap.size + 1 + 1 + 1 + 1]? = some A4) ∧ Below w.heap.size w W := by
  subst h
  have h1 := al4 w A0 A1 A2 A3
  have b1 := below4 w A0 A1 A2 A3
  have h2 := heap_new1 ((((w.alloc A0).alloc A1).alloc A2).alloc A3) A4
  have b2 := below1 ((((w.alloc A0).alloc A1).alloc A2).alloc A3) A4
  simp only [World.size_alloc] at h2
  exact ⟨⟨blk_keep b2 h1.1, blk_keep b2 h1.2.1, blk_keep b2 h1.2.2.1, blk_keep b2 h1.2.2.2, h2⟩, below_on b1 b2⟩
theorem al11 (W w : World) (A0 A1 A2 A3 A4 A5 A6 A7 A8 A9 A10 : Obj) (h : W = (((((((((((w.alloc A0).alloc A1).alloc A2).alloc A3).alloc A4).alloc A5).alloc A6).alloc A7).alloc A8).alloc A9).alloc A10)) : (W.heap[w.heap.size]? = some A0 ∧ W.heap[w.heap.size + 1]? = some A1 ∧ W.heap[w.heap.size + 1 + 1]? = some A2 ∧ W.heap[w.heap.size + 1 + 1 + 1]? = some A3 ∧ W.heap[w.heap.size + 1 + 1 + 1 + 1]? = some A4 ∧ W.heap[w.heap.size + 1 + 1 + 1 + 1 + 1]? = some A5 ∧ W.heap[w.heap.size + 1 + 1 + 1 + 1 + 1 + 1]? = some A6 ∧ W.heap[w.heap.size + 1 + 1 + 1 + 1 + 1 + 1 + 1]? = some A7 ∧ W.heap[w.heap.size + 1 + 1 + 1 + 1 + 1 + 1 + 1 + 1]? = some A8 ∧ W.heap[w.heap.size + 1 + 1 + 1 + 1 + 1 + 1 + 1 + 1 + 1]? = some A9 ∧ W.heap[w.heap.size + 1 + 1 + 1 + 1 + 1 + 1 + 1 + 1 + 1 + 1]? = some A10) ∧ Below w.heap.size w W := by
  obtain ⟨⟨h0, h1, h2, h3, h4⟩, b1⟩ := al5 (((((w.alloc A0).alloc A1).alloc A2).alloc A3).alloc A4) w A0 A1 A2 A3 A4 rfl
  obtain ⟨⟨k0, k1, k2, k3, k4⟩, b2⟩ := al5 (((((((((((w.alloc A0).alloc A1).alloc A2).alloc A3).alloc A4).alloc A5).alloc A6).alloc A7).alloc A8).alloc A9)) (((((w.alloc A0).alloc A1).alloc A2).alloc A3).alloc A4) A5 A6 A7 A8 A9 rfl
  have l0 := heap_new1 (((((((((((w.alloc A0).alloc A1).alloc A2).alloc A3).alloc A4).alloc A5).alloc A6).alloc A7).alloc A8).alloc A9)) A10
  have b3 := below1 (((((((((((w.alloc A0).alloc A1).alloc A2).alloc A3).alloc A4).alloc A5).alloc A6).alloc A7).alloc A8).alloc A9)) A10
  simp only [World.size_alloc] at k0 k1 k2 k3 k4 l0
  have b23 := below_on b2 b3
  subst h
  exact ⟨⟨blk_keep b23 h0, blk_keep b23 h1, blk_keep b23 h2, blk_keep b23 h3, blk_keep b23 h4, blk_keep b3 k0, blk_keep b3 k1, blk_keep b3 k2, blk_keep b3 k3, blk_keep b3 k4, l0⟩, below_on b1 b23⟩
def clRow (c : Cl) : List Value := [.int .u8 (c.k : Int), .int .i64 c.i, .slice c.a c.b.length c.c, .slice c.fa c.f.length c.fc]
def clRows : List Cl → List Value
  | [] => []
  | c :: l => clRow c ++ clRows l
theorem clRows_at (l : List Cl) : ∀ (i : Nat) (c : Cl), l[i]? = some c → ∀ j, j < 4 → (clRows l)[i * 4 + j]? = (clRow c)[j]? := by
  induction l with
  | nil => intro i c h; simp at h
  | cons q l ih =>
    intro i c h j hj
    rcases i with _ | i
    · simp at h; subst h
      simp only [clRows, Nat.zero_mul, Nat.zero_add]
      rw [List.getElem?_append_left (by unfold clRow; simpa using hj)]
    · simp only [clRows]
      rw [List.getElem?_append_right (by unfold clRow; simp; omega), show (i + 1) * 4 + j - (clRow q).length = i * 4 + j by unfold clRow; simp; omega]
      exact ih i c (by simpa using h) j hj
theorem cls_lit {w : World} {g : Nat} {C : Array Value} {t : TypeId} {fr : Nat × Nat} {l : List Cl} (hg : w.heap[g]? = some (.cells C t fr)) (hC : C = (clRows l).toArray) (hcl : ∀ c ∈ l, ClAt w c) : ClsAt w (some ⟨g, 0, none⟩) l := by
  subst hC
  refine ⟨hcl, .inr ⟨g, 0, rfl, fun i c hc => ?_⟩⟩
  have h := fun j hj => clRows_at l i c hc j hj
  have k : ∀ j v, j < 4 → (clRow c)[j]? = some v → w.cell? ⟨g, 0 + i * 4 + j, none⟩ = some v := fun j v hj hv => by
    rw [Nat.zero_add]
    exact blk_cell hg _ _ (by rw [List.getElem?_toArray, h j hj]; exact hv)
  exact ⟨k 0 _ (by omega) rfl, k 1 _ (by omega) rfl, k 2 _ (by omega) rfl, k 3 _ (by omega) rfl⟩
theorem row_nil (w : World) : RowIn w none 0 [] := ⟨Nat.zero_le _, ⟨by simp, .inl rfl⟩, fun _ => rfl, fun b o h => by cases h⟩
theorem row_lit {w : World} {g c : Nat} {C : Array Value} {t : TypeId} {fr : Nat × Nat} (l : List Nat) (hl : ∀ x ∈ l, x < 256) (hC : C = (l.map fun (x : Nat) => Value.int .u8 (x : Int)).toArray) (hm : l.length ≤ 1000) (hg : w.heap[g]? = some (.cells C t fr)) : RowIn w (some ⟨g, 0, none⟩) c l :=
  ⟨by unfold maxLen; omega, bytes_lit l hl hC hg, (fun h => by cases h), (fun b o e _ => by cases e; exact blk_lt hg)⟩
theorem row_long {w : World} {g c k : Nat} {C : Array Value} {t : TypeId} {fr : Nat × Nat} (o : Nat) (hC : C = byteRow (List.replicate (o + k) 0)) (hk : k ≤ 1000) (hg : w.heap[g]? = some (.cells C t fr)) : RowIn w (some ⟨g, o, none⟩) c (List.replicate k 0) := by
  subst hC
  refine ⟨by rw [List.length_replicate]; unfold maxLen; omega, ⟨fun x hx => by rw [List.eq_of_mem_replicate hx]; decide, .inr ⟨g, o, rfl, fun i hi => ?_⟩⟩, (fun h => by cases h), (fun b o e _ => by cases e; exact blk_lt hg)⟩
  rw [List.length_replicate] at hi
  have h1 := byteRow_get (List.replicate (o + k) 0) (o + i) (by rw [List.length_replicate]; omega)
  have e1 : (List.replicate (o + k) 0).getD (o + i) 0 = 0 := by rw [List.getD_eq_getElem?_getD, List.getElem?_replicate]; split <;> rfl
  have e2 : (List.replicate k 0).getD i 0 = 0 := by rw [List.getD_eq_getElem?_getD, List.getElem?_replicate]; split <;> rfl
  rw [e2]
  rw [e1] at h1
  exact blk_cell hg _ _ h1
theorem cl_mk {W : World} {k : Nat} {i : Int} {a fa : Option Addr} {c fc : Nat} {b f : List Nat} (h1 : k < 256) (h2 : -9223372036854775808 ≤ i ∧ i ≤ 9223372036854775807) (h3 : RowIn W a c b) (h4 : RowIn W fa fc f) : ClAt W ⟨k, i, a, c, b, fa, fc, f⟩ := ⟨h1, h2, h3, h4⟩
theorem mk_long : ∃ C, C = byteRow (List.replicate 257 0) ∧ ∀ w, (Instr.makeSlice 29 (.int .i64 257) (.int .i64 257)).run Try.prog w = .ok (.slice (some ⟨w.heap.size, 0, none⟩) 257 257) (w.alloc (.cells C 5)) := by
  obtain ⟨i0, hi, hz0, hz1, hz2⟩ := info_parts info_byte
  refine ⟨madeCells (Value.int .u8 0).cells (257 * i0.size), by rw [hz1]; kernel_rfl, fun w => ?_⟩
  have := run_makeSlice (P := Try.prog) (w := w) 29 5 i0 (.int .u8 0) Try.underlying29 hi hz0 .i64 .i64 257 257 (by omega) (by omega) (by rw [hz1]; omega) (by rw [hz2]; omega) (by omega)
  simpa using this
def knownL (w : World) : List Cl := [⟨0, 0, some ⟨w.heap.size + 1, 0, none⟩, 2, [97, 98], none, 0, []⟩, ⟨1, 1, some ⟨w.heap.size, 0, none⟩, 257, List.replicate 257 0, none, 0, []⟩, ⟨2, 1, some ⟨w.heap.size, 1, none⟩, 256, List.replicate 256 0, none, 0, []⟩, ⟨0, -1, none, 0, [], none, 0, []⟩, ⟨0, 3, none, 0, [], none, 0, []⟩, ⟨3, 0, none, 0, [], none, 0, []⟩, ⟨0, 0, some ⟨w.heap.size + 1 + 1, 0, none⟩, 3, [120, 121, 122], none, 0, []⟩, ⟨0, 0, some ⟨w.heap.size + 1 + 1 + 1, 0, none⟩, 2, [112, 113], none, 0, []⟩, ⟨0, 2, some ⟨w.heap.size + 1 + 1 + 1 + 1, 0, none⟩, 1, [114], none, 0, []⟩, ⟨5, 1, none, 0, [], none, 0, []⟩, ⟨0, 2, some ⟨w.heap.size + 1 + 1 + 1 + 1 + 1, 0, none⟩, 1, [115], none, 0, []⟩, ⟨3, 0, none, 0, [], none, 0, []⟩, ⟨0, 0, none, 0, [], none, 0, []⟩, ⟨7, 0, none, 0, [], some ⟨w.heap.size + 1 + 1 + 1 + 1 + 1 + 1, 0, none⟩, 4, [255, 1, 0, 254]⟩, ⟨5, 0, none, 0, [], none, 0, []⟩, ⟨0, 1, some ⟨w.heap.size + 1 + 1 + 1 + 1 + 1 + 1 + 1, 0, none⟩, 1, [116], none, 0, []⟩, ⟨7, 0, none, 0, [], some ⟨w.heap.size + 1 + 1 + 1 + 1 + 1 + 1 + 1 + 1, 0, none⟩, 1, [255]⟩, ⟨7, 0, none, 0, [], none, 0, []⟩, ⟨8, 1, some ⟨w.heap.size + 1 + 1 + 1 + 1 + 1 + 1 + 1 + 1 + 1, 0, none⟩, 1, [117], none, 0, []⟩, ⟨5, 3, none, 0, [], none, 0, []⟩, ⟨5, -1, none, 0, [], none, 0, []⟩, ⟨3, 0, none, 0, [], none, 0, []⟩, ⟨6, 0, none, 0, [], none, 0, []⟩, ⟨8, 0, none, 0, [], none, 0, []⟩]
def keepsL (w : World) : List Cl := [⟨1, 1, some ⟨w.heap.size, 0, none⟩, 1, [97], some ⟨w.heap.size + 1, 0, none⟩, 1, [3]⟩, ⟨1, 1, some ⟨w.heap.size + 1 + 1, 0, none⟩, 1, [98], none, 0, []⟩, ⟨0, 2, some ⟨w.heap.size + 1 + 1 + 1, 0, none⟩, 1, [99], none, 0, []⟩]
theorem known_at {W w : World} {C C1 C2 C3 C4 C5 C6 C7 C8 C9 CT : Array Value} {f1 f2 f3 f4 f5 f6 f7 f8 f9 : Nat × Nat} (HLG : Hid (C = byteRow (List.replicate 257 0)))
    (k0 : W.heap[w.heap.size]? = some (.cells C 5)) (k1 : W.heap[w.heap.size + 1]? = some (.cells C1 5 f1)) (k2 : W.heap[w.heap.size + 1 + 1]? = some (.cells C2 5 f2)) (k3 : W.heap[w.heap.size + 1 + 1 + 1]? = some (.cells C3 5 f3)) (k4 : W.heap[w.heap.size + 1 + 1 + 1 + 1]? = some (.cells C4 5 f4)) (k5 : W.heap[w.heap.size + 1 + 1 + 1 + 1 + 1]? = some (.cells C5 5 f5)) (k6 : W.heap[w.heap.size + 1 + 1 + 1 + 1 + 1 + 1]? = some (.cells C6 5 f6)) (k7 : W.heap[w.heap.size + 1 + 1 + 1 + 1 + 1 + 1 + 1]? = some (.cells C7 5 f7)) (k8 : W.heap[w.heap.size + 1 + 1 + 1 + 1 + 1 + 1 + 1 + 1]? = some (.cells C8 5 f8)) (k9 : W.heap[w.heap.size + 1 + 1 + 1 + 1 + 1 + 1 + 1 + 1 + 1]? = some (.cells C9 5 f9)) (kt : W.heap[w.heap.size + 1 + 1 + 1 + 1 + 1 + 1 + 1 + 1 + 1 + 1]? = some (.cells CT 32))
    (h1 : C1 = #[.int .u8 97, .int .u8 98]) (h2 : C2 = #[.int .u8 120, .int .u8 121, .int .u8 122]) (h3 : C3 = #[.int .u8 112, .int .u8 113]) (h4 : C4 = #[.int .u8 114]) (h5 : C5 = #[.int .u8 115]) (h6 : C6 = #[.int .u8 255, .int .u8 1, .int .u8 0, .int .u8 254]) (h7 : C7 = #[.int .u8 116]) (h8 : C8 = #[.int .u8 255]) (h9 : C9 = #[.int .u8 117]) (hT : CT = (clRows (knownL w)).toArray) : ClsAt W (some ⟨w.heap.size + 1 + 1 + 1 + 1 + 1 + 1 + 1 + 1 + 1 + 1, 0, none⟩) (knownL w) := by
  subst h1 h2 h3 h4 h5 h6 h7 h8 h9
  refine cls_lit kt hT ?_
  unfold knownL
  exact (List.forall_mem_cons.2 ⟨cl_mk (by decide) (by decide) (row_lit [97, 98] (by decide) rfl (by decide) k1) (row_nil _), (List.forall_mem_cons.2 ⟨cl_mk (by decide) (by decide) (row_long 0 HLG.out (by omega) k0) (row_nil _), (List.forall_mem_cons.2 ⟨cl_mk (by decide) (by decide) (row_long 1 HLG.out (by omega) k0) (row_nil _), (List.forall_mem_cons.2 ⟨cl_mk (by decide) (by decide) (row_nil _) (row_nil _), (List.forall_mem_cons.2 ⟨cl_mk (by decide) (by decide) (row_nil _) (row_nil _), (List.forall_mem_cons.2 ⟨cl_mk (by decide) (by decide) (row_nil _) (row_nil _), (List.forall_mem_cons.2 ⟨cl_mk (by decide) (by decide) (row_lit [120, 121, 122] (by decide) rfl (by decide) k2) (row_nil _), (List.forall_mem_cons.2 ⟨cl_mk (by decide) (by decide) (row_lit [112, 113] (by decide) rfl (by decide) k3) (row_nil _), (List.forall_mem_cons.2 ⟨cl_mk (by decide) (by decide) (row_lit [114] (by decide) rfl (by decide) k4) (row_nil _), (List.forall_mem_cons.2 ⟨cl_mk (by decide) (by decide) (row_nil _) (row_nil _), (List.forall_mem_cons.2 ⟨cl_mk (by decide) (by decide) (row_lit [115] (by decide) rfl (by decide) k5) (row_nil _), (List.forall_mem_cons.2 ⟨cl_mk (by decide) (by decide) (row_nil _) (row_nil _), (List.forall_mem_cons.2 ⟨cl_mk (by decide) (by decide) (row_nil _) (row_nil _), (List.forall_mem_cons.2 ⟨cl_mk (by decide) (by decide) (row_nil _) (row_lit [255, 1, 0, 254] (by decide) rfl (by decide) k6), (List.forall_mem_cons.2 ⟨cl_mk (by decide) (by decide) (row_nil _) (row_nil _), (List.forall_mem_cons.2 ⟨cl_mk (by decide) (by decide) (row_lit [116] (by decide) rfl (by decide) k7) (row_nil _), (List.forall_mem_cons.2 ⟨cl_mk (by decide) (by decide) (row_nil _) (row_lit [255] (by decide) rfl (by decide) k8), (List.forall_mem_cons.2 ⟨cl_mk (by decide) (by decide) (row_nil _) (row_nil _), (List.forall_mem_cons.2 ⟨cl_mk (by decide) (by decide) (row_lit [117] (by decide) rfl (by decide) k9) (row_nil _), (List.forall_mem_cons.2 ⟨cl_mk (by decide) (by decide) (row_nil _) (row_nil _), (List.forall_mem_cons.2 ⟨cl_mk (by decide) (by decide) (row_nil _) (row_nil _), (List.forall_mem_cons.2 ⟨cl_mk (by decide) (by decide) (row_nil _) (row_nil _), (List.forall_mem_cons.2 ⟨cl_mk (by decide) (by decide) (row_nil _) (row_nil _), (List.forall_mem_cons.2 ⟨cl_mk (by decide) (by decide) (row_nil _) (row_nil _), (fun _ h => by cases h)⟩)⟩)⟩)⟩)⟩)⟩)⟩)⟩)⟩)⟩)⟩)⟩)⟩)⟩)⟩)⟩)⟩)⟩)⟩)⟩)⟩)⟩)⟩)⟩)
theorem keeps_at {W w : World} {C0 C1 C2 C3 CT : Array Value} {f0 f1 f2 f3 : Nat × Nat} (k0 : W.heap[w.heap.size]? = some (.cells C0 5 f0)) (k1 : W.heap[w.heap.size + 1]? = some (.cells C1 5 f1)) (k2 : W.heap[w.heap.size + 1 + 1]? = some (.cells C2 5 f2)) (k3 : W.heap[w.heap.size + 1 + 1 + 1]? = some (.cells C3 5 f3)) (kt : W.heap[w.heap.size + 1 + 1 + 1 + 1]? = some (.cells CT 32)) (h0 : C0 = #[.int .u8 97]) (h1 : C1 = #[.int .u8 3]) (h2 : C2 = #[.int .u8 98]) (h3 : C3 = #[.int .u8 99]) (hT : CT = (clRows (keepsL w)).toArray) : ClsAt W (some ⟨w.heap.size + 1 + 1 + 1 + 1, 0, none⟩) (keepsL w) := by
  subst h0 h1 h2 h3
  refine cls_lit kt hT ?_
  unfold keepsL
  exact (List.forall_mem_cons.2 ⟨cl_mk (by decide) (by decide) (row_lit [97] (by decide) rfl (by decide) k0) (row_lit [3] (by decide) rfl (by decide) k1), (List.forall_mem_cons.2 ⟨cl_mk (by decide) (by decide) (row_lit [98] (by decide) rfl (by decide) k2) (row_nil _), (List.forall_mem_cons.2 ⟨cl_mk (by decide) (by decide) (row_lit [99] (by decide) rfl (by decide) k3) (row_nil _), (fun _ h => by cases h)⟩)⟩)⟩)
set_option maxRecDepth 100000 in
set_option maxHeartbeats 20000000 in
theorem known_any (w : World) : Calls Try.prog 5 #[] w fun e w' => e = .returned (.bool true) ∧ Below w.heap.size w w' := by
  have kc := fun (w : World) (C : Array Value) (n c : Nat) => Lib.run_convert_bytes_const (P := Try.prog) w 29 5 C n c Try.underlying29 Try.underlying5
  have kc2 : ∀ (w : World) (b : Nat) (C : Array Value) (n c : Nat), b = w.heap.size → (convert 29 29 (.slice (some ⟨b, 0, none⟩) n c)).run Try.prog (w.alloc (.cells C 5)) = .ok (.slice (some ⟨b, 0, none⟩) n c) (w.alloc (.cells C 5 (C.size, C.size + 1))) := fun w b C n c hb => by rw [hb]; exact kc w C n c
  obtain ⟨CL, hCL, hmk⟩ := mk_long
  have HLG := Lib.hid hCL
  clear hCL
  go_enter Try.func5, Try.ntmps5
  go_wp2_with fail
  refine (nil_fail _).mono ?_
  rintro e w1 ⟨rfl, hb1⟩
  have B1 := Lib.hid (hb1)
  clear hb1
  go_wp2_with fail
  refine (nil_crash _).mono ?_
  rintro e w2 ⟨rfl, hb2⟩
  have B2 := Lib.hid (below_on B1.out hb2)
  clear hb2
  go_wp2_with fail
  refine (nil_on _).mono ?_
  rintro e w3 ⟨rfl, hb3⟩
  have B3 := Lib.hid (below_on B2.out hb3)
  clear hb3
  go_wp2_with fail
  refine (nil_read _).mono ?_
  rintro e w4 ⟨rfl, hb4⟩
  have B4 := Lib.hid (below_on B3.out hb4)
  clear hb4
  go_wp2_with fail
  refine (nil_off _).mono ?_
  rintro e w5 ⟨rfl, hb5⟩
  have B5 := Lib.hid (below_on B4.out hb5)
  clear hb5
  go_wp2_with fail
  refine (nil_write _).mono ?_
  rintro e w6 ⟨rfl, hb6⟩
  have B6 := Lib.hid (below_on B5.out hb6)
  clear hb6
  go_wp2_with fail
  refine (nil_sync _).mono ?_
  rintro e w7 ⟨rfl, hb7⟩
  have B7 := Lib.hid (below_on B6.out hb7)
  clear hb7
  go_wp2_with fail
  refine (nil_blocks _).mono ?_
  rintro e w8 ⟨rfl, hb8⟩
  have B8 := Lib.hid (below_on B7.out hb8)
  clear hb8
  go_wp2_with fail
  refine (nil_steps _).mono ?_
  rintro e w9 ⟨rfl, hb9⟩
  have B9 := Lib.hid (below_on B8.out hb9)
  clear hb9
  go_wp2_with fail
  refine (nil_open _).mono ?_
  rintro e w10 ⟨rfl, hb10⟩
  have B10 := Lib.hid (below_on B9.out hb10)
  clear hb10
  go_wp2_with fail
  refine (nil_copy _).mono ?_
  rintro e w11 ⟨rfl, hb11⟩
  have B11 := Lib.hid (below_on B10.out hb11)
  clear hb11
  go_wp2_with fail
  refine (new_z 5000 4096 (by omega) w11).mono ?_
  rintro e w12 ⟨g1, rfl, hd, hb12⟩
  have D := Lib.hid hd
  have B12 := Lib.hid (below_on B11.out hb12)
  clear hd hb12
  go_wp2_with fail
  refine (blocks_z D.out 4096 (by unfold Dk.new; rw [List.length_replicate]; rfl)).mono ?_
  rintro e w13 ⟨rfl, rfl⟩
  clear D
  go_wp2_with fail
  refine (new_z (-1) 0 (by omega) _).mono ?_
  rintro e w13 ⟨g2, rfl, hd, hb13⟩
  have D := Lib.hid hd
  have B13 := Lib.hid (below_on B12.out hb13)
  clear hd hb13
  go_wp2_with fail
  refine (blocks_z D.out 0 (by unfold Dk.new; rw [List.length_replicate]; rfl)).mono ?_
  rintro e w14 ⟨rfl, rfl⟩
  clear D
  go_wp2_with fail
  refine (new_z 0 0 (by omega) _).mono ?_
  rintro e w14 ⟨g3, rfl, hd, hb14⟩
  have D := Lib.hid hd
  have B14 := Lib.hid (below_on B13.out hb14)
  clear hd
  go_wp2_with fail
  refine (write_z D.out 0 [] none 0 0 rfl ⟨by simp, .inl rfl⟩ (fun _ => rfl) (by unfold Dk.new; simp) 2 (by decide +kernel) _ rfl).mono ?_
  rintro e w15 ⟨rfl, _, hk15⟩
  have B15 := Lib.hid (Kz.below B13.out B13.out.size (fun k hk => Nat.lt_of_lt_of_le hk B13.out.size) (Kz.trans (Kz.of_below hb14) hk15))
  clear D hk15 hb14 B14
  go_upto_region 10 with (fail)
  refine name_world ?_
  intro W hW
  obtain ⟨⟨k0, k1, k2, k3, k4, k5, k6, k7, k8, k9, kt⟩, hbW⟩ := al11 W w15 _ _ _ _ _ _ _ _ _ _ _ hW
  have hL := known_at HLG k0 k1 k2 k3 k4 k5 k6 k7 k8 k9 kt rfl rfl rfl rfl rfl rfl rfl rfl rfl rfl
  have HL := Lib.hid hL
  have B16 := Lib.hid (below_on B15.out hbW)
  obtain ⟨gr, hgr⟩ : ∃ g, g = w15.heap.size + 1 + 1 + 1 + 1 + 1 + 1 + 1 + 1 + 1 + 1 := ⟨_, rfl⟩
  rw [← hgr] at HL ⊢
  clear hW k0 k1 k2 k3 k4 k5 k6 k7 k8 k9 kt hbW hL hgr
  obtain ⟨KL, hKL⟩ : ∃ KL, KL = knownL w15 := ⟨_, rfl⟩
  have HKL : Hid (KL.length = 24) := Lib.hid (by rw [hKL]; rfl)
  rw [← hKL] at HL
  clear hKL
  go_wp2_with fail
  refine (plays_any 3 _ 24 24 KL W HKL.out (by unfold maxLen; omega) HL.out).mono ?_
  rintro e w17 ⟨rfl, hb17⟩
  have HL17 := Lib.hid (HL.out.below hb17)
  have B17 := Lib.hid (below_on B16.out hb17)
  clear hb17
  go_wp2_with fail
  refine (plays_any 0 _ 24 24 KL w17 HKL.out (by unfold maxLen; omega) HL17.out).mono ?_
  rintro e w18 ⟨rfl, hb18⟩
  have B18 := Lib.hid (below_on B17.out hb18)
  clear hb18 HL17 HL
  go_wp2_with fail
  refine name_calls ?_
  intro W2 hW2
  obtain ⟨⟨k0, k1, k2, k3, kt⟩, hbW2⟩ := al5 W2 w18 _ _ _ _ _ hW2
  have hL := keeps_at k0 k1 k2 k3 kt rfl rfl rfl rfl rfl
  have B19 := Lib.hid (below_on B18.out hbW2)
  clear hW2 k0 k1 k2 k3 kt hbW2
  refine (keeps_any _ 3 3 (keepsL w18) 3 W2 rfl (by unfold maxLen; omega) hL (by omega)).mono ?_
  rintro e w20 ⟨rfl, hb20⟩
  have B20 := Lib.hid (below_on B19.out hb20)
  clear hb20 hL
  go_wp2_with fail
  refine (works_any _).mono ?_
  rintro e w21 ⟨rfl, hb21⟩
  have B21 := Lib.hid (below_on B20.out hb21)
  clear hb21
  go_wp2_with fail
  go_ret
  exact ⟨rfl, B21.out⟩
theorem walk_DiskKnown (w : World) : Calls Try.prog 5 #[] w fun e w' => e = .returned (.bool true) ∧ Below w.heap.size w w' := known_any w
end Go.Proofs.Ytncijclhfndniaa
