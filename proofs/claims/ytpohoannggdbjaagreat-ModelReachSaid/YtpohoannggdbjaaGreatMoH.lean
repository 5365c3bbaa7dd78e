/- Layer 28: Explains, few, Pick. -/
import Derived.Test.YtpohoannggdbjaaGreatMoG
import Derived.Test.YtpohoannggdbjaaGreatMC
set_option maxRecDepth 100000
set_option maxHeartbeats 200000000
namespace Go.Proofs.YtpohoannggdbjaaGreat
open Lib (hid)
open Go.RowKit
def BH(L:AL)(X:List Iv)(Y:List Sh):Bool:=decide ((Ap L).1=0) && (decide (X.length=Y.length) && !(AN (AW L) X Y X.length).isEmpty)
theorem J7{L:AL}{X:List Iv}{Y:List Sh}(h:¬ (Ap L).1=0):BH L X Y=false:=by unfold BH;rw[Wg h];rfl
theorem GL{L:AL}{X:List Iv}{Y:List Sh}(h:¬ X.length=Y.length):BH L X Y=false:=by unfold BH;rw[Wg h,Bool.false_and,WN]
theorem DD{L:AL}{X:List Iv}{Y:List Sh}(h1:(Ap L).1=0)(h2:X.length=Y.length):BH L X Y = !(AN (AW L) X Y X.length).isEmpty:=by unfold BH;rw[Wk h1,Wk h2,WL,WL]
theorem Hn{A B:List St}(h:AP A B):A.isEmpty=B.isEmpty:=by
 rw[Ww,List.isEmpty_iff,List.isEmpty_iff];exact h.nil
def Df(L:AL)(X:List Iv)(top:Nat):Bool:=decide (C3 300 L≤300) && (decide (X.length≤top) && X.all (fun x=>decide (x.len≤20)))
theorem Ts{L:AL}{X:List Iv}{top:Nat}(h:300<C3 300 L):Df L X top=false:=by unfold Df;rw[Wg (by omega)];rfl
theorem OD{L:AL}{X:List Iv}{top:Nat}(h:top<X.length):Df L X top=false:=by unfold Df;rw[Wg (p:=X.length≤top) (by omega),Bool.false_and,WN]
theorem QV{L:AL}{X:List Iv}{top:Nat}{x:Iv}(hx:x∈X)(h:20<x.len):Df L X top=false:=by
 unfold Df;have:X.all (fun x=>decide (x.len≤20))=false:=List.all_eq_false.2 ⟨x,hx,by simpa using h⟩;rw[this,WN,WN]
theorem QW{L:AL}{X:List Iv}{top:Nat}(h1:¬ 300<C3 300 L)(h2:¬ top<X.length)(h3:∀ x∈X,x.len≤20):Df L X top=true:=by
 unfold Df;rw[Wk (by omega),Wk (by omega),WL,WL,Wm];exact fun x hx=>Wk (h3 x hx)
theorem J9{L:AL}{X:List Iv}{top:Nat}(h:Df L X top=true):X.length≤top∧∀ x∈X,x.len≤20:=by
 unfold Df at h;rw[Wl,Wl,decide_eq_true_eq,decide_eq_true_eq,Wm] at h;exact⟨h.2.1,fun x hx=>by simpa using h.2.2 x hx⟩
attribute [local irreducible] Sl.v Aa pw Ab Aw C8 Af BC CD Bi Bg B9 CB BQ AU Bp BB BG Bh Bd BP Bo BL BF BN AI AY AV Be Bw Bq C4 Mc.tb BZ AX Ap B5
attribute [local irreducible] Bs BV C6 BS Ay AN
attribute [local irreducible] AW CY Bt BO zS FL BH Df C3
theorem CK(L:AL)(ra:Option Addr)(n rc:Nat)(sa:Option Addr)(k sc:Nat)(X:List Iv)(Y:List Sh)(b:Bool)(w:World)(hL:AO w L)(hX:As 4 DV w ra X)(hxn:X.length=n)(hxo:∀ x∈X,Ci w x∧x.len≤100000)(hY:As 3 Cx w sa Y)(hyn:Y.length=k)(h11:n≤11)(hb:BH L X Y=b) :
 Calls Tryz.prog 15 #[.agg #[L.se.v,L.po.v,L.sg.v,L.rt.v],.slice ra n rc,.slice sa k sc] w fun e w'=>e = .returned (.bool b)∧Below w.heap.size w w':=by
 by_cases h0:(Ap L).1=0
 ·by_cases hk:n=k
  ·subst hk;have KR:Hid (∀ V,Below w.heap.size w V→Calls Tryz.prog 12 #[.agg #[L.se.v,L.po.v,L.sg.v,L.rt.v],.slice ra n rc,.slice sa n sc] V fun e w'=>∃(v:Value) (ss:List St),e = .returned (.tuple #[v,.int .i64 0])∧AP ss (AN (AW L) X Y n)∧w'.ownsRow V.heap.size 65 68 v ss.length (ss.flatMap Af)∧Below V.heap.size V w'):=hid (fun V hV=>Pw L ra n rc sa sc X Y V (hL.below hV) (hX.below hV) hxn (fun x hx=>⟨(hxo x hx).1.below hV,(hxo x hx).2⟩) (hY.below hV) hyn h11 h0);rw[DD h0 (hxn.trans hyn.symm),hxn] at hb;have HBB:=hid hb;clear hX hxn hxo hY hyn h11 hb h0;obtain⟨n1,hn1⟩:=WY L.se.l.length;obtain⟨n2,hn2⟩:=WY L.po.l.length;obtain⟨n3,hn3⟩:=WY L.sg.l.length;obtain⟨n4,hn4⟩:=WY L.rt.l.length;rw[Ak hn1,Ak hn2,Ak hn3,Ak hn4] at KR ⊢;clear hn1 hn2 hn3 hn4 hL;go_enter Tryz.func15,Tryz.ntmps15;go_upto_region 1 with fail
   refine Ao (os:=[.cells #[.slice L.se.a n1 L.se.c,.slice L.po.a n2 L.po.c,.slice L.sg.a n3 L.sg.c,.slice L.rt.a n4 L.rt.c] 27]) (w0:=w) rfl ?_;intro W hat hbw;obtain⟨gl,hgl⟩:=X0 w.heap.size;have q0:=hat 0 _ rfl;rw[Wa,← hgl] at q0;rw[← hgl];have HQl:=hid q0;have HB0:=hid hbw;clear hat hbw q0 hgl;have l0:=A4 HQl.o 0 _ rfl;have l1:=A4 HQl.o 1 _ rfl;have l2:=A4 HQl.o 2 _ rfl;have l3:=A4 HQl.o 3 _ rfl;go_wp2_with fail;refine(KR.o _ HB0.o).mono ?_;rintro e w1 ⟨v,ss,rfl,hss,hrow,hb1⟩;have HB1:=hid (A6 HB0.o hb1);have HE:Hid ((!ss.isEmpty)=b):=hid (by rw[Hn hss];exact HBB.o);rcases hrow.2 with ⟨rfl,h0⟩ | ⟨g,cap,cur,rfl,_⟩
   ·have hbf:b=false:=(by rw[← HE.o,List.eq_nil_of_length_eq_zero h0];rfl);subst hbf;clear hb1 l0 l1 l2 l3 hss hrow h0 HBB HE KR;go_wp2_with fail;go_ret;exact⟨rfl,HB1.o⟩
   ·obtain⟨q,hq⟩:=WY ss.length;rw[hq];cases q with
    | zero=>
      have hbf:b=false:=(by rw[← HE.o,List.eq_nil_of_length_eq_zero hq];rfl);subst hbf;clear hb1 l0 l1 l2 l3 hss hrow HBB HE KR hq;go_wp2_with fail;go_ret;exact⟨rfl,HB1.o⟩
    | succ q=>
      have hbt:b=true:=by
       rw[← HE.o];cases ss with
       | nil=>cases hq
       | cons _ _=>rfl
      subst hbt;have d:(0:Int)<((q+1:Nat):Int):=(by omega);clear hb1 l0 l1 l2 l3 hss hrow HBB HE KR hq;go_wp2_with fail;go_ret;exact⟨rfl,HB1.o⟩
  ·have KR:Hid (∀ V,Below w.heap.size w V→Calls Tryz.prog 12 #[.agg #[L.se.v,L.po.v,L.sg.v,L.rt.v],.slice ra n rc,.slice sa k sc] V fun e w'=>e = .returned (.tuple #[.slice none 0 0,.int .i64 2])∧Below V.heap.size V w'):=hid (fun V hV=>Ix L ra n rc sa k sc V (hL.below hV) h0 hk);obtain rfl:false=b:=(by rw[← hb];exact(GL (by omega)).symm);clear hX hxn hxo hY hyn h11 hb h0 hk;obtain⟨n1,hn1⟩:=WY L.se.l.length;obtain⟨n2,hn2⟩:=WY L.po.l.length;obtain⟨n3,hn3⟩:=WY L.sg.l.length;obtain⟨n4,hn4⟩:=WY L.rt.l.length;rw[Ak hn1,Ak hn2,Ak hn3,Ak hn4] at KR ⊢;clear hn1 hn2 hn3 hn4 hL;go_enter Tryz.func15,Tryz.ntmps15;go_upto_region 1 with fail
   refine Ao (os:=[.cells #[.slice L.se.a n1 L.se.c,.slice L.po.a n2 L.po.c,.slice L.sg.a n3 L.sg.c,.slice L.rt.a n4 L.rt.c] 27]) (w0:=w) rfl ?_;intro W hat hbw;obtain⟨gl,hgl⟩:=X0 w.heap.size;have q0:=hat 0 _ rfl;rw[Wa,← hgl] at q0;rw[← hgl];have HQl:=hid q0;have HB0:=hid hbw;clear hat hbw q0 hgl;have l0:=A4 HQl.o 0 _ rfl;have l1:=A4 HQl.o 1 _ rfl;have l2:=A4 HQl.o 2 _ rfl;have l3:=A4 HQl.o 3 _ rfl;go_wp2_with fail;refine(KR.o _ HB0.o).mono ?_;rintro e w1 ⟨rfl,hb1⟩;have HB1:=hid (A6 HB0.o hb1);clear hb1 l0 l1 l2 l3;go_wp2_with fail;go_ret;exact⟨rfl,HB1.o⟩
 ·obtain⟨c,hc⟩:=WY ((Ap L).1);have KR:Hid (∀ V,Below w.heap.size w V→Calls Tryz.prog 12 #[.agg #[L.se.v,L.po.v,L.sg.v,L.rt.v],.slice ra n rc,.slice sa k sc] V fun e w'=>e = .returned (.tuple #[.slice none 0 0,.int .i64 c])∧Below V.heap.size V w'):=hid (fun V hV=>KG L ra n rc sa k sc V (hL.below hV) c hc (hc ▸ h0));obtain rfl:false=b:=(by rw[← hb];exact(J7 h0).symm);have c1:(c == 0)=false:=(by rw[beq_eq_false_iff_ne,← hc];exact h0);clear hX hxn hxo hY hyn h11 hb h0 hc;obtain⟨n1,hn1⟩:=WY L.se.l.length;obtain⟨n2,hn2⟩:=WY L.po.l.length;obtain⟨n3,hn3⟩:=WY L.sg.l.length;obtain⟨n4,hn4⟩:=WY L.rt.l.length;rw[Ak hn1,Ak hn2,Ak hn3,Ak hn4] at KR ⊢;clear hn1 hn2 hn3 hn4 hL;go_enter Tryz.func15,Tryz.ntmps15;go_upto_region 1 with fail
  refine Ao (os:=[.cells #[.slice L.se.a n1 L.se.c,.slice L.po.a n2 L.po.c,.slice L.sg.a n3 L.sg.c,.slice L.rt.a n4 L.rt.c] 27]) (w0:=w) rfl ?_;intro W hat hbw;obtain⟨gl,hgl⟩:=X0 w.heap.size;have q0:=hat 0 _ rfl;rw[Wa,← hgl] at q0;rw[← hgl];have HQl:=hid q0;have HB0:=hid hbw;clear hat hbw q0 hgl;have l0:=A4 HQl.o 0 _ rfl;have l1:=A4 HQl.o 1 _ rfl;have l2:=A4 HQl.o 2 _ rfl;have l3:=A4 HQl.o 3 _ rfl;go_wp2_with fail;refine(KR.o _ HB0.o).mono ?_;rintro e w1 ⟨rfl,hb1⟩;have HB1:=hid (A6 HB0.o hb1);clear hb1 l0 l1 l2 l3;go_wp2_with fail;go_ret;exact⟨rfl,HB1.o⟩
theorem J8(L:AL)(ra:Option Addr)(n rc top:Nat)(X:List Iv)(b:Bool)(w:World)(hL:AO w L)(hX:As 4 DV w ra X)(hxn:X.length=n)(ht:top≤1000)(hb:Df L X top=b) :
 Calls Tryz.prog 11 #[.agg #[L.se.v,L.po.v,L.sg.v,L.rt.v],.slice ra n rc,.int .i64 (top:Int)] w fun e w'=>e = .returned (.bool b)∧Below w.heap.size w w':=by
 obtain⟨z,hz⟩:=WY (C3 300 L);have KW:Hid (∀ V,Below w.heap.size w V→Calls Tryz.prog 16 #[.agg #[L.se.v,L.po.v,L.sg.v,L.rt.v],.int .i64 300] V fun e w'=>e = .returned (.int .i64 z)∧Below V.heap.size V w'):=hid (fun V hV=>hz ▸ (IK 300 L V (hL.below hV)).mono (fun _ _ h=>⟨h.1,h.2⟩));by_cases h3:300<z
 ·obtain rfl:false=b:=(by rw[← hb];exact(Ts (hz ▸ h3)).symm);clear hX hxn ht hb;obtain⟨n1,hn1⟩:=WY L.se.l.length;obtain⟨n2,hn2⟩:=WY L.po.l.length;obtain⟨n3,hn3⟩:=WY L.sg.l.length;obtain⟨n4,hn4⟩:=WY L.rt.l.length;rw[Ak hn1,Ak hn2,Ak hn3,Ak hn4] at KW ⊢;clear hn1 hn2 hn3 hn4 hL hz;go_enter Tryz.func11,Tryz.ntmps11;go_upto_region 1 with fail
  refine Ao (os:=[.cells #[.slice L.se.a n1 L.se.c,.slice L.po.a n2 L.po.c,.slice L.sg.a n3 L.sg.c,.slice L.rt.a n4 L.rt.c] 27]) (w0:=w) rfl ?_;intro W hat hbw;obtain⟨gl,hgl⟩:=X0 w.heap.size;have q0:=hat 0 _ rfl;rw[Wa,← hgl] at q0;rw[← hgl];have HQl:=hid q0;have HB0:=hid hbw;clear hat hbw q0 hgl;have l0:=A4 HQl.o 0 _ rfl;have l1:=A4 HQl.o 1 _ rfl;have l2:=A4 HQl.o 2 _ rfl;have l3:=A4 HQl.o 3 _ rfl;go_wp2_with fail;refine(KW.o _ HB0.o).mono ?_;rintro e w1 ⟨rfl,hb1⟩;have HB1:=hid (A6 HB0.o hb1);clear hb1 l0 l1 l2 l3;go_wp2_with fail;go_ret;exact⟨rfl,HB1.o⟩
 by_cases hnt:top<n
 ·obtain rfl:false=b:=(by rw[← hb];exact(OD (by omega)).symm);have d:(top:Int)<(n:Int):=(by omega);clear hX hxn ht hb hnt;obtain⟨n1,hn1⟩:=WY L.se.l.length;obtain⟨n2,hn2⟩:=WY L.po.l.length;obtain⟨n3,hn3⟩:=WY L.sg.l.length;obtain⟨n4,hn4⟩:=WY L.rt.l.length;rw[Ak hn1,Ak hn2,Ak hn3,Ak hn4] at KW ⊢;clear hn1 hn2 hn3 hn4 hL hz;go_enter Tryz.func11,Tryz.ntmps11;go_upto_region 1 with fail
  refine Ao (os:=[.cells #[.slice L.se.a n1 L.se.c,.slice L.po.a n2 L.po.c,.slice L.sg.a n3 L.sg.c,.slice L.rt.a n4 L.rt.c] 27]) (w0:=w) rfl ?_;intro W hat hbw;obtain⟨gl,hgl⟩:=X0 w.heap.size;have q0:=hat 0 _ rfl;rw[Wa,← hgl] at q0;rw[← hgl];have HQl:=hid q0;have HB0:=hid hbw;clear hat hbw q0 hgl;have l0:=A4 HQl.o 0 _ rfl;have l1:=A4 HQl.o 1 _ rfl;have l2:=A4 HQl.o 2 _ rfl;have l3:=A4 HQl.o 3 _ rfl;go_wp2_with fail;refine(KW.o _ HB0.o).mono ?_;rintro e w1 ⟨rfl,hb1⟩;have HB1:=hid (A6 HB0.o hb1);clear hb1 l0 l1 l2 l3;go_wp2_with fail;go_ret;exact⟨rfl,HB1.o⟩
 have d:¬ (top:Int)<(n:Int):=by omega
 have dd:decide ((300:Int)<z)=false:=Wg h3;have dn:decide (top<n)=false:=Wg hnt;have HN:Hid (n≤1000):=hid (by omega);have HXR:=hid hX;have HXN:=hid hxn;have HNO:Hid (∀ x∈X,20<x.len→false=b):=hid (fun x hx h=>by rw[← hb];exact(QV hx h).symm);have HYES:Hid ((∀ x∈X,x.len≤20)→true=b):=hid (fun h=>by rw[← hb];exact(QW (by rw[hz];exact h3) (by omega) h).symm);clear hX hxn ht hb;obtain⟨n1,hn1⟩:=WY L.se.l.length;obtain⟨n2,hn2⟩:=WY L.po.l.length;obtain⟨n3,hn3⟩:=WY L.sg.l.length;obtain⟨n4,hn4⟩:=WY L.rt.l.length;rw[Ak hn1,Ak hn2,Ak hn3,Ak hn4] at KW ⊢;clear hn1 hn2 hn3 hn4 hL hz;go_enter Tryz.func11,Tryz.ntmps11;go_upto_region 1 with fail
 refine Ao (os:=[.cells #[.slice L.se.a n1 L.se.c,.slice L.po.a n2 L.po.c,.slice L.sg.a n3 L.sg.c,.slice L.rt.a n4 L.rt.c] 27]) (w0:=w) rfl ?_;intro W hat hbw;obtain⟨gl,hgl⟩:=X0 w.heap.size;have q0:=hat 0 _ rfl;rw[Wa,← hgl] at q0;rw[← hgl];have HQl:=hid q0;have HB0:=hid hbw;clear hat hbw q0 hgl;have l0:=A4 HQl.o 0 _ rfl;have l1:=A4 HQl.o 1 _ rfl;have l2:=A4 HQl.o 2 _ rfl;have l3:=A4 HQl.o 3 _ rfl;go_wp2_with fail;refine(KW.o _ HB0.o).mono ?_;rintro e w1 ⟨rfl,hb1⟩;have HB1:=hid (A6 HB0.o hb1);clear hb1 l0 l1 l2 l3;go_upto_region 4 with fail
 clear d h3 dd dn hnt;go_loopg [7] n (fun g v wr=>∃ i:Nat,i+g=n∧v = .int .i64 (i:Int)∧(∀ x∈X.take i,x.len≤20)∧wr=w1)
 case atStart=>exact⟨0,by omega,rfl,fun x hx=>(nomatch hx),rfl⟩
 case round=>
  obtain⟨i,hi,rfl,hall,rfl⟩:=hrel;have HI:=hid hi;have HALL:=hid hall;clear hi hall;by_cases hlt:i<n
  ·have d1:(0:Int)≤i:=(by omega);have d2:(i:Int)<n:=(by omega);have e1:=B8 hlt (Wd HN.o (by decide));have HLT:=hid hlt;obtain⟨x,hx⟩:∃ x,X[i]?=some x:=⟨_,Wb (by rw[HXN.o];exact hlt)⟩;rcases HXR.o with hnil | ⟨rb,ro,hra,hc⟩
   ·rw[hnil] at hx;cases hx
   have z3:=VY HB1.o (hc i _ hx 3 _ rfl);have HXM:=hid (Wf hx);have HNX:Hid (x.len≤20→∀ y∈X.take (i+1),y.len≤20):=hid (fun h y hy=>by
    rw[Wp,hx] at hy;rcases WE.1 hy with hy | hy
    ·exact HALL.o y hy
    ·simp at hy;rw[hy];exact h)
   obtain⟨A,hA⟩:=WY ra;have HAA:=hid hA;rw[hA] at hra ⊢;subst hra;clear hlt hx hc hA;by_cases h20:20<x.len
   ·have d4:(20:Int)<(x.len:Int):=(by omega);obtain rfl:=HNO.o x HXM.o h20;clear h20;go_wp2_with fail;go_ret;exact⟨rfl,HB1.o⟩
   ·have d4:¬ (20:Int)<(x.len:Int):=(by omega);have HX2:=hid (HNX.o (by omega));clear h20;go_wp2_with fail;rw[← HAA.o];go_roundg (n - (i+1))
    case rel=>exact⟨i+1,AA HI.o HLT.o,by go_num,HX2.o,rfl⟩
    case measure=>exact Az HI.o HLT.o
  ·have d2:¬ ((i:Int)<(n:Int)):=(by omega);obtain rfl:=HYES.o (fun x hx=>HALL.o x (by rw[Wo (by rw[HXN.o];omega)];exact hx));clear hlt;go_wp2_with fail;go_ret;exact⟨rfl,HB1.o⟩
theorem Vn(i n:Int)(hn:0<n):(i.tmod n+n).tmod n=i % n:=by
 have h1:=Int.tmod_eq_emod (a:=i) (b:=n);have h2:=Int.lt_tmod_of_pos i hn;have h4:(i.tmod n+n).tmod n=(i.tmod n+n) % n:=Int.tmod_eq_emod_of_nonneg (by omega);rw[h4,Int.add_emod_right,h1];split
 ·simp
 ·rw[show(n.natAbs:Int)=n by omega,Int.sub_emod_right,Int.emod_emod]
theorem Pp(i n:Int)(w:World)(hn:0<n)(hm:n<1000):Calls Tryz.prog 20 #[.int .i64 i,.int .i64 n] w fun e w'=>e = .returned (.int .i64 (i % n))∧w=w':=by
 have h1:=Int.lt_tmod_of_pos i hn;have h2:=Int.tmod_lt_of_pos i hn;have ht:=Vn i n hn;have h3:¬ n=0:=by omega
 have h4:¬ n≤0:=by omega
 have h5:wrap64 (i.tmod n+n)=i.tmod n+n:=by unfold wrap64;omega
 have h6:wrap64 (i.tmod n)=i.tmod n:=by unfold wrap64;omega
 have h7:wrap64 (i % n)=i % n:=by
  have a1:=Int.emod_nonneg i h3;have a2:=Int.emod_lt_of_pos i hn;unfold wrap64;omega
 go_enter Tryz.func20,Tryz.ntmps20;go_wp2;go_ret;exact⟨rfl,rfl⟩
end Go.Proofs.YtpohoannggdbjaaGreat
