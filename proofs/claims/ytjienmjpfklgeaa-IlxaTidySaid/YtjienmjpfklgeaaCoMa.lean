/-
  Layer 06: what serves the walks of Table, Of and of higher layers.
-/
import Derived.Test.YtjienmjpfklgeaaCoKp
import Derived.Test.YtjienmjpfklgeaaCoH
import Derived.Test.YtjienmjpfklgeaaCoC
import Derived.Test.YtjienmjpfklgeaaCoL
namespace Go.Proofs.Ytjienmjpfklgeaa
open Go.RowKit
set_option maxRecDepth 100000
theorem or_step {s n : Nat} (hn : n ≤ 63) (hs : s < 18446744073709551616) : IntKind.u64.wrap ((2 : Int) ^ n) = (pw n : Int) ∧ bits .or .u64 (s : Int) (pw n : Int) = ((withBit s n : Nat) : Int) := ⟨one_form n hn, or_form s n hn hs⟩
theorem wsucc {k n : Nat} (h : k < n) (hn : n ≤ 64) : wrap64 ((k : Int) + 1) = (k : Int) + 1 := by unfold wrap64; omega
theorem cs_zero {L : Lay} (h : (checkS L).1 = 0) : mayS L = true := by
  cases hm : mayS L with
  | true => rfl
  | false => rw [cs_no hm] at h; cases h
theorem conflict_may (L : Lay) (x y : Rt) (W : World) (hmay : mayS L = true) (hL : LayAt W L) (hx : x ∈ L.rt.l) (hy : y ∈ L.rt.l) :
    Calls Try.prog 70 #[.agg #[L.se.v, L.po.v, L.sg.v, L.rt.v], .agg #[.string x.nm, .int .i64 x.sg, x.pa.v, x.po.v, x.ov.v, x.fl.v], .agg #[.string y.nm, .int .i64 y.sg, y.pa.v, y.po.v, y.ov.v, y.fl.v]] W fun e w' => e = .returned (.bool (conflictS L x y)) ∧ Below W.heap.size W w' := by
  have ox := mayS_rt hmay x hx
  have oy := mayS_rt hmay y hy
  have hx1 : x.pa.l.length + x.ov.l.length ≤ 100000 := by have := ox.pa; have := ox.ov; omega
  have hx2 : x.po.l.length + x.fl.l.length ≤ 100000 := by have := ox.po; have := ox.fl; omega
  have hy1 : y.pa.l.length + y.ov.l.length ≤ 100000 := by have := oy.pa; have := oy.ov; omega
  have hy2 : y.po.l.length + y.fl.l.length ≤ 100000 := by have := oy.po; have := oy.fl; omega
  exact conflict_is L x y W hL (hL.rn x hx) (hL.rn y hy) (by have := mayS_small hmay; omega) ⟨hx1, hx2⟩ ⟨hy1, hy2⟩
theorem rconflict_may (L : Lay) (x y : Rt) (W : World) (hmay : mayS L = true) (hL : LayAt W L) (hx : x ∈ L.rt.l) (hy : y ∈ L.rt.l) :
    Calls Try.prog 44 #[.agg #[L.se.v, L.po.v, L.sg.v, L.rt.v], .agg #[.string x.nm, .int .i64 x.sg, x.pa.v, x.po.v, x.ov.v, x.fl.v], .agg #[.string y.nm, .int .i64 y.sg, y.pa.v, y.po.v, y.ov.v, y.fl.v]] W fun e w' => e = .returned (.bool (conflictS L x y)) ∧ Below W.heap.size W w' := by
  have ox := mayS_rt hmay x hx
  have oy := mayS_rt hmay y hy
  have hx1 : x.pa.l.length + x.ov.l.length ≤ 100000 := by have := ox.pa; have := ox.ov; omega
  have hx2 : x.po.l.length + x.fl.l.length ≤ 100000 := by have := ox.po; have := ox.fl; omega
  have hy1 : y.pa.l.length + y.ov.l.length ≤ 100000 := by have := oy.pa; have := oy.ov; omega
  have hy2 : y.po.l.length + y.fl.l.length ≤ 100000 := by have := oy.po; have := oy.fl; omega
  exact rconflict_is L x y W hL (hL.rn x hx) (hL.rn y hy) hx1 hx2 hy1 hy2
theorem grown_keep {A B : World} {row : Option Nat} {k : Nat} {o : Obj} (h : A.grownBy B row) (hk : A.heap[k]? = some o) (hne : row ≠ some k) : B.heap[k]? = some o := (h.block k (blk_lt hk) (fun e => hne e.symm)).trans hk
end Go.Proofs.Ytjienmjpfklgeaa
