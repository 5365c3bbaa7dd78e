/- Layer 28: works. -/
import Derived.Test.YtpohoannggdbjaaGreatMoH
import Derived.Test.YtpohoannggdbjaaGreatMC
import Derived.Test.YtpohoannggdbjaaGreatIxS
set_option maxRecDepth 100000
set_option maxHeartbeats 200000000
namespace Go.Proofs.YtpohoannggdbjaaGreat
open Lib (hid)
open Go.RowKit
def L0(b:Nat):AL:=⟨⟨some ⟨b,0,none⟩,3,[⟨#[97]⟩,⟨#[98]⟩,⟨#[99]⟩]⟩,⟨some ⟨b+1,0,none⟩,1,[(⟨#[80]⟩,1)]⟩,⟨some ⟨b+1+1,0,none⟩,1,[(⟨#[71]⟩,0)]⟩,⟨some ⟨b+1+1+1+1+1,0,none⟩,1,[⟨⟨#[82]⟩,0,⟨some ⟨b+1+1+1,0,none⟩,2,[1,2]⟩,⟨some ⟨b+1+1+1+1,0,none⟩,1,[(0,false)]⟩,⟨none,0,[]⟩,⟨none,0,[]⟩⟩]⟩⟩
theorem Vp{W:World}{b:Nat}(q0:W.heap[b]?=some (.cells #[.string ⟨#[97]⟩,.string ⟨#[98]⟩,.string ⟨#[99]⟩] 9))(q1:W.heap[b+1]?=some (.cells #[.string ⟨#[80]⟩,.int .i64 1] 68))(q2:W.heap[b+1+1]?=some (.cells #[.string ⟨#[71]⟩,.int .i64 0] 69))(q3:W.heap[b+1+1+1]?=some (.cells #[.int .i64 1,.int .i64 2] 3))(q4:W.heap[b+1+1+1+1]?=some (.cells #[.int .i64 0,.bool false] 71))(q5:W.heap[b+1+1+1+1+1]?=some (.cells #[.string ⟨#[82]⟩,.int .i64 0,.slice (some ⟨b+1+1+1,0,none⟩) 2 2,.slice (some ⟨b+1+1+1+1,0,none⟩) 1 1,.slice none 0 0,.slice none 0 0] 52)):AO W (L0 b):=by
 refine⟨D2 F2 q0 rfl rfl (by decide),D2 FZ q1 rfl rfl (by decide),D2 FZ q2 rfl rfl (by decide),D2 Lz q5 rfl rfl (by decide),?_,?_,?_,?_⟩
 ·intro s hs;simp[L0] at hs;rcases hs with rfl | rfl | rfl<;>decide
 ·intro s hs;simp[L0] at hs;subst hs;decide
 ·intro s hs;simp[L0] at hs;subst hs;decide
 ·intro s hs;simp[L0] at hs;subst hs;exact⟨by show(⟨#[82]⟩:BA).size≤maxLen;decide,D2 BD q3 rfl rfl (by decide),D2 CA q4 rfl rfl (by decide),CU,CU⟩
theorem Su(b:Nat):(Ap (L0 b)).1=0:=by kernel_rfl
def VT:Tb:=⟨[⟨1,0,[1,2],[(0,false)],[]⟩],[1]⟩
theorem Sw(b:Nat):AW (L0 b)=VT:=by kernel_rfl
def I8(c:Nat):List Iv:=[⟨0,1,0,some ⟨c,0,none⟩,1,1,[(1,0)]⟩,⟨0,1,0,none,0,0,[]⟩]
theorem FQ(c:Iv):(DV c).length=4:=rfl
theorem PJ(c:Sh):(Cx c).length=3:=rfl
theorem Sr(c:Nat):(I8 c).length=2:=rfl
theorem Ss{w:World}{g c:Nat}{t:TypeId}{fr:Nat × Nat}(h:w.heap[g]?=some (.cells #[.int .u64 0,.int .u32 1,.int .u32 0,.slice (some ⟨c,0,none⟩) 1 1,.int .u64 0,.int .u32 1,.int .u32 0,.slice none 0 0] t fr)):As 4 DV w (some ⟨g,0,none⟩) (I8 c):=CR FQ h rfl
theorem Uh{w:World}{c:Nat}{t:TypeId}{fr:Nat × Nat}(h:w.heap[c]?=some (.cells #[.int .u8 ((1:Nat):Int),.int .i64 0] t fr)):∀ x∈I8 c,Ci w x∧x.len≤100000:=by
 intro x hx;simp only[I8,List.mem_cons,List.not_mem_nil,or_false] at hx;rcases hx with rfl | rfl
 ·exact⟨⟨⟨by show(0:Nat)<_;omega,by show(1:Nat)<_;omega,by show(0:Nat)<_;omega⟩,rfl,Wc _,Et h (by omega) (by omega) (by omega)⟩,by show 1≤100000;omega⟩
 ·exact⟨⟨⟨by show(0:Nat)<_;omega,by show(1:Nat)<_;omega,by show(0:Nat)<_;omega⟩,rfl,Wc _,fun _ hc=>(nomatch hc),.inl rfl⟩,by show 0≤100000;omega⟩
theorem Vq(b c:Nat):BH (L0 b) (I8 c) [⟨false,1,0⟩,⟨false,1,0⟩]=true:=by
 rw[DD (Su b) rfl,Sw];kernel_rfl
theorem Vr(b c:Nat):BH (L0 b) (I8 c) [⟨true,0,0⟩,⟨false,1,0⟩]=true:=by
 rw[DD (Su b) rfl,Sw];kernel_rfl
theorem Vs(b c:Nat):BH (L0 b) (I8 c) [⟨true,0,0⟩,⟨false,0,0⟩]=true:=by
 rw[DD (Su b) rfl,Sw];kernel_rfl
theorem Vt(b c:Nat):BH (L0 b) (I8 c) [⟨false,0,0⟩,⟨false,1,0⟩]=false:=by
 rw[DD (Su b) rfl,Sw];kernel_rfl
theorem Vu(b c:Nat):BH (L0 b) (I8 c) [⟨false,1,0⟩]=false:=GL (by show¬ 2=1;omega)
theorem Sv(b gi c g k:Nat)(Y:List Sh)(e:Bool)(V:World)(hL:AO V (L0 b))(hX:As 4 DV V (some ⟨gi,0,none⟩) (I8 c))(hok:∀ x∈I8 c,Ci V x∧x.len≤100000)(hY:As 3 Cx V (some ⟨g,0,none⟩) Y)(hk:Y.length=k)(he:BH (L0 b) (I8 c) Y=e) :
 Calls Tryz.prog 15 #[.agg #[.slice (some ⟨b,0,none⟩) 3 3,.slice (some ⟨b+1,0,none⟩) 1 1,.slice (some ⟨b+1+1,0,none⟩) 1 1,.slice (some ⟨b+1+1+1+1+1,0,none⟩) 1 1],.slice (some ⟨gi,0,none⟩) 2 2,.slice (some ⟨g,0,none⟩) k k] V fun e' w'=>e' = .returned (.bool e)∧Below V.heap.size V w':=
 CK (L0 b) _ 2 2 _ k k (I8 c) Y e V hL hX (Sr c) hok hY hk (by omega) he
attribute [local irreducible] Sl.v Aa pw Ab Aw C8 Af BC CD Bi Bg B9 CB BQ AU Bp BB BG Bh Bd BP Bo BL BF BN AI AY AV Be Bw Bq C4 Mc.tb BZ AX Ap B5
attribute [local irreducible] Bs BV C6 BS Ay AN
attribute [local irreducible] AW CY Bt BO zS FL BH Df C3 I8
theorem BI(w:World):Calls Tryz.prog 10 #[] w fun e w'=>e = .returned (.bool true)∧Below w.heap.size w w':=by
 go_enter Tryz.func10,Tryz.ntmps10;go_upto_region 6 with fail
 refine Ao (os:=[_,_,_,_,_,_,_,_,_,_,_,_]) (w0:=w) rfl ?_;intro W hat hbw;obtain⟨b,hb⟩:=X0 w.heap.size;have q0:=hat 0 _ rfl;have q1:=hat 1 _ rfl;have q2:=hat 2 _ rfl;have q3:=hat 3 _ rfl;have q4:=hat 4 _ rfl;have q5:=hat 5 _ rfl;have q6:=hat 6 _ rfl;have q7:=hat 7 _ rfl;have q8:=hat 8 _ rfl;have q9:=hat 9 _ rfl;have q10:=hat 10 _ rfl;have q11:=hat 11 _ rfl;rw[Wa,← hb] at q0;rw[← hb] at q1 q2 q3 q4 q5 q6 q7 q8 q9 q10 q11;rw[← hb];clear hat;have HL:Hid (AO W (L0 b)):=hid (by
  exact Vp q0 q1 q2 q3 q4 q5)
 have q6':W.heap[b+1+1+1+1+1+1]?=some (.cells #[.slice (some ⟨b,0,none⟩) 3 3,.slice (some ⟨b+1,0,none⟩) 1 1,.slice (some ⟨b+1+1,0,none⟩) 1 1,.slice (some ⟨b+1+1+1+1+1,0,none⟩) 1 1] 27):=q6;have q7':W.heap[b+1+1+1+1+1+1+1]?=some (.cells #[.int .u8 ((1:Nat):Int),.int .i64 0] 31):=by
  rw[show b+1+1+1+1+1+1+1=b+7 by omega];exact q7
 have q8':W.heap[b+1+1+1+1+1+1+1+1]?=some (.cells #[.int .u64 0,.int .u32 1,.int .u32 0,.slice (some ⟨b+1+1+1+1+1+1+1,0,none⟩) 1 1,.int .u64 0,.int .u32 1,.int .u32 0,.slice none 0 0] 35):=by
  rw[show b+1+1+1+1+1+1+1+1=b+8 by omega];exact q8
 have q9':W.heap[b+1+1+1+1+1+1+1+1+1]?=some (.cells #[.bool false,.int .u64 1,.int .u32 0] 46):=by
  rw[show b+1+1+1+1+1+1+1+1+1=b+9 by omega];exact q9
 have q10':W.heap[b+1+1+1+1+1+1+1+1+1+1]?=some (.cells #[.bool true,.int .u64 0,.int .u32 0] 46):=by
  rw[show b+1+1+1+1+1+1+1+1+1+1=b+10 by omega];exact q10
 have q11':W.heap[b+1+1+1+1+1+1+1+1+1+1+1]?=some (.cells #[.bool false,.int .u64 0,.int .u32 0] 46):=by
  rw[show b+1+1+1+1+1+1+1+1+1+1+1=b+11 by omega];exact q11
 have hrow:As 4 DV W (some ⟨b+1+1+1+1+1+1+1+1,0,none⟩) (I8 (b+1+1+1+1+1+1+1)):=Ss q8';have hok:=Uh q7';have KEX:Hid (∀(V:World) (g k:Nat) (cs:Array Value) (Y:List Sh) (e:Bool),Below W.heap.size W V→V.heap[g]?=some (.cells cs 46)→cs.toList=Y.flatMap Cx→Y.length=k→BH (L0 b) (I8 (b+1+1+1+1+1+1+1)) Y=e→Calls Tryz.prog 15 #[.agg #[.slice (some ⟨b,0,none⟩) 3 3,.slice (some ⟨b+1,0,none⟩) 1 1,.slice (some ⟨b+1+1,0,none⟩) 1 1,.slice (some ⟨b+1+1+1+1+1,0,none⟩) 1 1],.slice (some ⟨b+1+1+1+1+1+1+1+1,0,none⟩) 2 2,.slice (some ⟨g,0,none⟩) k k] V (fun e' w'=>e' = .returned (.bool e)∧Below V.heap.size V w')):=hid (fun V g k cs Y e hV hg hcs hk he=>Sv b _ _ g k Y e V (HL.o.below hV) (hrow.below hV) (fun x hx=>⟨(hok x hx).1.below hV,(hok x hx).2⟩) (CR PJ hg hcs) hk he);obtain⟨gl,hgl⟩:=X0 (b+1+1+1+1+1+1);have HB:=hid hbw;have HQL:=hid q6';have HG:=hid q9';have HP:=hid q10';have HN:=hid q11';have HC:=hid (VU W.heap.size W);clear q0 q1 q2 q3 q4 q5 q6 q7 q8 q9 q10 q11 q6' q7' q8' q9' q10' q11' hb hgl hbw hrow hok HL gl;obtain⟨l0,l1,l2,l3⟩:_∧_∧_∧_:=⟨A4 HQL.o 0 _ rfl,A4 HQL.o 1 _ rfl,A4 HQL.o 2 _ rfl,A4 HQL.o 3 _ rfl⟩;have hg0:=A4 HG.o 0 _ rfl;have hg1:=A4 HG.o 1 _ rfl;have hg2:=A4 HG.o 2 _ rfl;have hlt1:=Aj HQL.o;go_wp2_with fail;refine(KEX.o _ _ 2 #[.bool false,.int .u64 1,.int .u32 0,.bool false,.int .u64 1,.int .u32 0] [⟨false,1,0⟩,⟨false,1,0⟩] true (A6 HC.o (Ac _ _)) (Al _ _ (VU _ _)) (by rfl) (by rfl) (Vq b (b+1+1+1+1+1+1+1))).mono ?_;rintro e w1 ⟨rfl,hb⟩;have hb:=A6 (Ac _ _) hb;have HC1:=hid (A6 HC.o hb);have HQL1:=hid (A5 hb HQL.o);have HG1:=hid (A5 hb HG.o);have HP1:=hid (A5 hb HP.o);have HN1:=hid (A5 hb HN.o);clear hb l0 l1 l2 l3 hlt1 hg0 hg1 hg2;obtain⟨l0,l1,l2,l3⟩:_∧_∧_∧_:=⟨A4 HQL1.o 0 _ rfl,A4 HQL1.o 1 _ rfl,A4 HQL1.o 2 _ rfl,A4 HQL1.o 3 _ rfl⟩;have hp0:=A4 HP1.o 0 _ rfl;have hp1:=A4 HP1.o 1 _ rfl;have hp2:=A4 HP1.o 2 _ rfl;have hg0:=A4 HG1.o 0 _ rfl;have hg1:=A4 HG1.o 1 _ rfl;have hg2:=A4 HG1.o 2 _ rfl;have hlt1:=Aj HQL1.o;go_wp2_with fail;refine(KEX.o _ _ 2 #[.bool true,.int .u64 0,.int .u32 0,.bool false,.int .u64 1,.int .u32 0] [⟨true,0,0⟩,⟨false,1,0⟩] true (A6 HC1.o (Ac _ _)) (Al _ _ (VU _ _)) (by rfl) (by rfl) (Vr b (b+1+1+1+1+1+1+1))).mono ?_;rintro e w2 ⟨rfl,hb⟩;have hb:=A6 (Ac _ _) hb;have HC2:=hid (A6 HC1.o hb);have HQL2:=hid (A5 hb HQL1.o);have HG2:=hid (A5 hb HG1.o);have HP2:=hid (A5 hb HP1.o);have HN2:=hid (A5 hb HN1.o);clear hb l0 l1 l2 l3 hlt1 hp0 hp1 hp2 hg0 hg1 hg2;obtain⟨l0,l1,l2,l3⟩:_∧_∧_∧_:=⟨A4 HQL2.o 0 _ rfl,A4 HQL2.o 1 _ rfl,A4 HQL2.o 2 _ rfl,A4 HQL2.o 3 _ rfl⟩;have hp0:=A4 HP2.o 0 _ rfl;have hp1:=A4 HP2.o 1 _ rfl;have hp2:=A4 HP2.o 2 _ rfl;have hn0:=A4 HN2.o 0 _ rfl;have hn1:=A4 HN2.o 1 _ rfl;have hn2:=A4 HN2.o 2 _ rfl;have hlt1:=Aj HQL2.o;go_wp2_with fail;refine(KEX.o _ _ 2 #[.bool true,.int .u64 0,.int .u32 0,.bool false,.int .u64 0,.int .u32 0] [⟨true,0,0⟩,⟨false,0,0⟩] true (A6 HC2.o (Ac _ _)) (Al _ _ (VU _ _)) (by rfl) (by rfl) (Vs b (b+1+1+1+1+1+1+1))).mono ?_;rintro e w3 ⟨rfl,hb⟩;have hb:=A6 (Ac _ _) hb;have HC3:=hid (A6 HC2.o hb);have HQL3:=hid (A5 hb HQL2.o);have HG3:=hid (A5 hb HG2.o);have HP3:=hid (A5 hb HP2.o);have HN3:=hid (A5 hb HN2.o);clear hb l0 l1 l2 l3 hlt1 hp0 hp1 hp2 hn0 hn1 hn2;obtain⟨l0,l1,l2,l3⟩:_∧_∧_∧_:=⟨A4 HQL3.o 0 _ rfl,A4 HQL3.o 1 _ rfl,A4 HQL3.o 2 _ rfl,A4 HQL3.o 3 _ rfl⟩;have hn0:=A4 HN3.o 0 _ rfl;have hn1:=A4 HN3.o 1 _ rfl;have hn2:=A4 HN3.o 2 _ rfl;have hg0:=A4 HG3.o 0 _ rfl;have hg1:=A4 HG3.o 1 _ rfl;have hg2:=A4 HG3.o 2 _ rfl;have hlt1:=Aj HQL3.o;go_wp2_with fail;refine(KEX.o _ _ 2 #[.bool false,.int .u64 0,.int .u32 0,.bool false,.int .u64 1,.int .u32 0] [⟨false,0,0⟩,⟨false,1,0⟩] false (A6 HC3.o (Ac _ _)) (Al _ _ (VU _ _)) (by rfl) (by rfl) (Vt b (b+1+1+1+1+1+1+1))).mono ?_;rintro e w4 ⟨rfl,hb⟩;have hb:=A6 (Ac _ _) hb;have HC4:=hid (A6 HC3.o hb);have HQL4:=hid (A5 hb HQL3.o);have HG4:=hid (A5 hb HG3.o);have HP4:=hid (A5 hb HP3.o);have HN4:=hid (A5 hb HN3.o);clear hb l0 l1 l2 l3 hlt1 hn0 hn1 hn2 hg0 hg1 hg2;obtain⟨l0,l1,l2,l3⟩:_∧_∧_∧_:=⟨A4 HQL4.o 0 _ rfl,A4 HQL4.o 1 _ rfl,A4 HQL4.o 2 _ rfl,A4 HQL4.o 3 _ rfl⟩;have hg0:=A4 HG4.o 0 _ rfl;have hg1:=A4 HG4.o 1 _ rfl;have hg2:=A4 HG4.o 2 _ rfl;have hlt1:=Aj HQL4.o;go_wp2_with fail;refine(KEX.o _ _ 1 #[.bool false,.int .u64 1,.int .u32 0] [⟨false,1,0⟩] false (A6 HC4.o (Ac _ _)) (Al _ _ (VU _ _)) (by rfl) (by rfl) (Vu b (b+1+1+1+1+1+1+1))).mono ?_;rintro e w5 ⟨rfl,hb⟩;have hb:=A6 (Ac _ _) hb;have HC5:=hid (A6 HC4.o hb);have HQL5:=hid (A5 hb HQL4.o);have HG5:=hid (A5 hb HG4.o);have HP5:=hid (A5 hb HP4.o);have HN5:=hid (A5 hb HN4.o);clear hb l0 l1 l2 l3 hlt1 hg0 hg1 hg2;go_wp2_with fail;go_ret;exact⟨rfl,A6 HB.o HC5.o⟩
end Go.Proofs.YtpohoannggdbjaaGreat
