/- Layer 10: the document's command. -/
import Derived.Test.YtpohoannggdbjaaGreatIxTg
import Derived.Test.YtpohoannggdbjaaGreatIxTh
import Derived.Test.YtpohoannggdbjaaGreatIxTi
set_option maxRecDepth 100000
set_option maxHeartbeats 200000000
namespace Go.Proofs.YtpohoannggdbjaaGreat
open Lib (hid)
open Go.RowKit
theorem K5(L:AL)(s:St)(oc no re:Nat)(ia:Option Addr)(il ic:Nat)(kd:Nat)(nn:Int)(w:World)(hL:AO w L)(hc:(Ap L).1=0)(hs:s.ok)(ho:oc<18446744073709551616)(hkd:kd≤255)(h1 : -9223372036854775808≤nn)(h2:nn≤9223372036854775807) :
 Calls Tryz.prog 42 #[.agg #[L.se.v,L.po.v,L.sg.v,L.rt.v],.agg (Af s).toArray,.agg #[.int .u64 (oc:Int),.int .u32 (no:Int),.int .u32 (re:Int),.slice ia il ic],.agg #[.int .u8 (kd:Int),.int .i64 nn]] w fun e w'=>e = .returned (.agg (Af (D6 (AW L) s oc (kd,nn))).toArray)∧Below w.heap.size w w':=by
 cases hr:AJ L.po.l.length L.rt.l.length (kd,nn) with
 | false=>exact Tj L s oc no re ia il ic kd nn w hL hc hs ho hkd h1 h2 hr
 | true=>
   unfold AJ at hr;have hr:=of_decide_eq_true hr;dsimp only at hr;rcases hr with ⟨h | h,h0,h3⟩ | ⟨h,h0,h3⟩
   ·obtain⟨n,rfl⟩:∃ n:Nat,nn=n:=⟨nn.toNat,by omega⟩;have hlt:n<L.rt.l.length:=(by omega);exact Tk L s oc no re ia il ic kd n w hL hc hs ho hkd h1 h2 h n _ rfl (Wb hlt)
   ·obtain⟨n,rfl⟩:∃ n:Nat,nn=n:=⟨nn.toNat,by omega⟩;have hlt:n<L.rt.l.length:=(by omega);exact Tl L s oc no re ia il ic kd n w hL hc hs ho hkd h1 h2 h n _ rfl (Wb hlt)
   ·obtain⟨n,rfl⟩:∃ n:Nat,nn=n:=⟨nn.toNat,by omega⟩;have hlt:n<L.po.l.length:=(by omega);exact Tm L s oc no re ia il ic kd n w hL hc hs ho hkd h1 h2 h n _ _ rfl (Wb hlt)
end Go.Proofs.YtpohoannggdbjaaGreat
