/-
 Layer 10: the document's command.
-/
import Derived.Test.YtjienmjpfklgeaaIxTg
import Derived.Test.YtjienmjpfklgeaaIxTh
import Derived.Test.YtjienmjpfklgeaaIxTi
namespace Go.Proofs.Ytjienmjpfklgeaa
open Go.RowKit
set_option maxRecDepth 100000
theorem dcommand_is (L : Lay) (s : St) (oc no re : Nat) (ia : Option Addr) (il ic : Nat) (kd : Nat) (nn : Int) (w : World) (hL : LayAt w L) (hc : (checkS L).1 = 0) (hs : s.ok) (ho : oc < 18446744073709551616) (hkd : kd ≤ 255) (h1 : -9223372036854775808 ≤ nn) (h2 : nn ≤ 9223372036854775807) :
 Calls Try.prog 29 #[.agg #[L.se.v, L.po.v, L.sg.v, L.rt.v], .agg (stL s).toArray, .agg #[.int .u64 (oc : Int), .int .u32 (no : Int), .int .u32 (re : Int), .slice ia il ic], .agg #[.int .u8 (kd : Int), .int .i64 nn]] w fun e w' => e = .returned (.agg (stL (comD (tbL L) s oc (kd, nn))).toArray) ∧ Below w.heap.size w w' := by
 cases hr : cmdRight L.po.l.length L.rt.l.length (kd, nn) with
 | false => exact dcmd_0 L s oc no re ia il ic kd nn w hL hc hs ho hkd h1 h2 hr
 | true =>
   unfold cmdRight at hr
   have hr := of_decide_eq_true hr
   dsimp only at hr
   rcases hr with ⟨h | h, h0, h3⟩ | ⟨h, h0, h3⟩
   ·obtain ⟨n, rfl⟩ : ∃ n : Nat, nn = n := ⟨nn.toNat, by omega⟩
    have hlt : n < L.rt.l.length := by omega
    exact dcmd_1 L s oc no re ia il ic kd n w hL hc hs ho hkd h1 h2 h n _ rfl (List.getElem?_eq_getElem hlt)
   ·obtain ⟨n, rfl⟩ : ∃ n : Nat, nn = n := ⟨nn.toNat, by omega⟩
    have hlt : n < L.rt.l.length := by omega
    exact dcmd_2 L s oc no re ia il ic kd n w hL hc hs ho hkd h1 h2 h n _ rfl (List.getElem?_eq_getElem hlt)
   ·obtain ⟨n, rfl⟩ : ∃ n : Nat, nn = n := ⟨nn.toNat, by omega⟩
    have hlt : n < L.po.l.length := by omega
    exact dcmd_3 L s oc no re ia il ic kd n w hL hc hs ho hkd h1 h2 h n _ _ rfl (List.getElem?_eq_getElem hlt)
end Go.Proofs.Ytjienmjpfklgeaa
