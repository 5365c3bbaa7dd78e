/- Ours: MoH; RelT. -/
import Derived.Test.YtpohoannggdbjaaGreatMoG
import Derived.Test.YtpohoannggdbjaaGreatMC
import Derived.Test.YtpohoannggdbjaaGreatMA
import Derived.Orders
namespace Go.Proofs.YtpohoannggdbjaaGreat
open Lib (hid)
open Go.RowKit
set_option maxRecDepth 100000
def CA(L:AM)(X:List Iv)(Y:List Sh):Bool:=decide ((Aq L).1=0) && (decide (X.length=Y.length) && !(Bz (B6 L) X Y X.length).isEmpty)
theorem Pt{L:AM}{X:List Iv}{Y:List Sh}(h:¬ (Aq L).1=0):CA L X Y=false:=by unfold CA;rw[decide_eq_false h];rfl
theorem In{L:AM}{X:List Iv}{Y:List Sh}(h:¬ X.length=Y.length):CA L X Y=false:=by unfold CA;rw[decide_eq_false h,Bool.false_and,Bool.and_false]
theorem EL{L:AM}{X:List Iv}{Y:List Sh}(h1:(Aq L).1=0)(h2:X.length=Y.length):CA L X Y = !(Bz (B6 L) X Y X.length).isEmpty:=by unfold CA;rw[decide_eq_true h1,decide_eq_true h2,Bool.true_and,Bool.true_and]
theorem JT{A B:List St}(h:AV A B):A.isEmpty=B.isEmpty:=by
 rw[Bool.eq_iff_iff,List.isEmpty_iff,List.isEmpty_iff];exact h.nil
def DO(L:AM)(X:List Iv)(top:Nat):Bool:=decide (Ck 300 L≤300) && (decide (X.length≤top) && X.all (fun x=>decide (x.len≤20)))
theorem QB{L:AM}{X:List Iv}{top:Nat}(h:300<Ck 300 L):DO L X top=false:=by unfold DO;rw[decide_eq_false (by omega)];rfl
theorem No{L:AM}{X:List Iv}{top:Nat}(h:top<X.length):DO L X top=false:=by unfold DO;rw[decide_eq_false (p:=X.length≤top) (by omega),Bool.false_and,Bool.and_false]
theorem O7{L:AM}{X:List Iv}{top:Nat}{x:Iv}(hx:x∈X)(h:20<x.len):DO L X top=false:=by
 unfold DO;have:X.all (fun x=>decide (x.len≤20))=false:=List.all_eq_false.2 ⟨x,hx,by simpa using h⟩;rw[this,Bool.and_false,Bool.and_false]
theorem Pj{L:AM}{X:List Iv}{top:Nat}(h1:¬ 300<Ck 300 L)(h2:¬ top<X.length)(h3:∀ x∈X,x.len≤20):DO L X top=true:=by
 unfold DO;rw[decide_eq_true (by omega),decide_eq_true (by omega),Bool.true_and,Bool.true_and,List.all_eq_true];exact fun x hx=>decide_eq_true (h3 x hx)
theorem Ra{L:AM}{X:List Iv}{top:Nat}(h:DO L X top=true):X.length≤top∧∀ x∈X,x.len≤20:=by
 unfold DO at h;rw[Bool.and_eq_true,Bool.and_eq_true,decide_eq_true_eq,decide_eq_true_eq,List.all_eq_true] at h;exact⟨h.2.1,fun x hx=>by simpa using h.2.2 x hx⟩
attribute [local irreducible] Sl.v Aa pw Ab Ax C4 Ai BG Cs Bi Bf B7 Cr BO AT Bk Bw BD Bh Bg BQ Bj BI BC BM AD AS AR Bc BB Bq CT Mc.tb BU AQ Aq AW
attribute [local irreducible] Bt Cp CR Dj AE Bz
attribute [local irreducible] B6 CQ Bs BN zS Iz CA DO Ck
set_option maxHeartbeats 8000000 in
theorem IX(L:AM)(ra:Option Addr)(n rc:Nat)(sa:Option Addr)(k sc:Nat)(X:List Iv)(Y:List Sh)(b:Bool)(w:World)(hL:B5 w L)(hX:AF 4 Jg w ra X)(hxn:X.length=n)(hxo:∀ x∈X,DS w x∧x.len≤100000)(hY:AF 3 QW w sa Y)(hyn:Y.length=k)(h11:n≤11)(hb:CA L X Y=b) :
 Calls Tryz.prog 15 #[.agg #[L.se.v,L.po.v,L.sg.v,L.rt.v],.slice ra n rc,.slice sa k sc] w fun e w'=>e = .returned (.bool b)∧Below w.heap.size w w':=by
 by_cases h0:(Aq L).1=0
 ·by_cases hk:n=k
  ·subst hk;have KR:Hid (∀ V,Below w.heap.size w V→Calls Tryz.prog 12 #[.agg #[L.se.v,L.po.v,L.sg.v,L.rt.v],.slice ra n rc,.slice sa n sc] V fun e w'=>∃(v:Value) (ss:List St),e = .returned (.tuple #[v,.int .i64 0])∧AV ss (Bz (B6 L) X Y n)∧w'.ownsRow V.heap.size 65 68 v ss.length (ss.flatMap Ai)∧Below V.heap.size V w'):=hid (fun V hV=>M3 L ra n rc sa sc X Y V (hL.below hV) (hX.below hV) hxn (fun x hx=>⟨(hxo x hx).1.below hV,(hxo x hx).2⟩) (hY.below hV) hyn h11 h0);rw[EL h0 (hxn.trans hyn.symm),hxn] at hb;have HBB:=hid hb;clear hX hxn hxo hY hyn h11 hb h0;obtain⟨n1,hn1⟩:∃ n,L.se.l.length=n:=⟨_,rfl⟩;obtain⟨n2,hn2⟩:∃ n,L.po.l.length=n:=⟨_,rfl⟩;obtain⟨n3,hn3⟩:∃ n,L.sg.l.length=n:=⟨_,rfl⟩;obtain⟨n4,hn4⟩:∃ n,L.rt.l.length=n:=⟨_,rfl⟩;rw[Ak hn1,Ak hn2,Ak hn3,Ak hn4] at KR ⊢;clear hn1 hn2 hn3 hn4 hL;go_enter Tryz.func15,Tryz.ntmps15;go_upto_region 1 with fail
   refine Ap (os:=[.cells #[.slice L.se.a n1 L.se.c,.slice L.po.a n2 L.po.c,.slice L.sg.a n3 L.sg.c,.slice L.rt.a n4 L.rt.c] 27]) (w0:=w) rfl ?_;intro W hat hbw;obtain⟨gl,hgl⟩:∃ g,g=w.heap.size:=⟨_,rfl⟩;have q0:=hat 0 _ rfl;rw[Nat.add_zero,← hgl] at q0;rw[← hgl];have HQl:=hid q0;have HB0:=hid hbw;clear hat hbw q0 hgl;have l0:=A4 HQl.out 0 _ rfl;have l1:=A4 HQl.out 1 _ rfl;have l2:=A4 HQl.out 2 _ rfl;have l3:=A4 HQl.out 3 _ rfl;go_wp2_with fail;refine(KR.out _ HB0.out).mono ?_;rintro e w1 ⟨v,ss,rfl,hss,hrow,hb1⟩;have HB1:=hid (A8 HB0.out hb1);have HE:Hid ((!ss.isEmpty)=b):=hid (by rw[JT hss];exact HBB.out);rcases hrow.2 with ⟨rfl,h0⟩ | ⟨g,cap,cur,rfl,_⟩
   ·have hbf:b=false:=by rw[← HE.out,List.eq_nil_of_length_eq_zero h0];rfl
    subst hbf;clear hb1 l0 l1 l2 l3 hss hrow h0 HBB HE KR;go_wp2_with fail;go_ret;exact⟨rfl,HB1.out⟩
   ·obtain⟨q,hq⟩:∃ q,ss.length=q:=⟨_,rfl⟩;rw[hq];cases q with
    | zero=>
      have hbf:b=false:=by rw[← HE.out,List.eq_nil_of_length_eq_zero hq];rfl
      subst hbf;clear hb1 l0 l1 l2 l3 hss hrow HBB HE KR hq;go_wp2_with fail;go_ret;exact⟨rfl,HB1.out⟩
    | succ q=>
      have hbt:b=true:=by
       rw[← HE.out];cases ss with
       | nil=>cases hq
       | cons _ _=>rfl
      subst hbt;have d:(0:Int)<((q+1:Nat):Int):=by omega
      clear hb1 l0 l1 l2 l3 hss hrow HBB HE KR hq;go_wp2_with fail;go_ret;exact⟨rfl,HB1.out⟩
  ·have KR:Hid (∀ V,Below w.heap.size w V→Calls Tryz.prog 12 #[.agg #[L.se.v,L.po.v,L.sg.v,L.rt.v],.slice ra n rc,.slice sa k sc] V fun e w'=>e = .returned (.tuple #[.slice none 0 0,.int .i64 2])∧Below V.heap.size V w'):=hid (fun V hV=>L7 L ra n rc sa k sc V (hL.below hV) h0 hk);obtain rfl:false=b:=by rw[← hb];exact(In (by omega)).symm
   clear hX hxn hxo hY hyn h11 hb h0 hk;obtain⟨n1,hn1⟩:∃ n,L.se.l.length=n:=⟨_,rfl⟩;obtain⟨n2,hn2⟩:∃ n,L.po.l.length=n:=⟨_,rfl⟩;obtain⟨n3,hn3⟩:∃ n,L.sg.l.length=n:=⟨_,rfl⟩;obtain⟨n4,hn4⟩:∃ n,L.rt.l.length=n:=⟨_,rfl⟩;rw[Ak hn1,Ak hn2,Ak hn3,Ak hn4] at KR ⊢;clear hn1 hn2 hn3 hn4 hL;go_enter Tryz.func15,Tryz.ntmps15;go_upto_region 1 with fail
   refine Ap (os:=[.cells #[.slice L.se.a n1 L.se.c,.slice L.po.a n2 L.po.c,.slice L.sg.a n3 L.sg.c,.slice L.rt.a n4 L.rt.c] 27]) (w0:=w) rfl ?_;intro W hat hbw;obtain⟨gl,hgl⟩:∃ g,g=w.heap.size:=⟨_,rfl⟩;have q0:=hat 0 _ rfl;rw[Nat.add_zero,← hgl] at q0;rw[← hgl];have HQl:=hid q0;have HB0:=hid hbw;clear hat hbw q0 hgl;have l0:=A4 HQl.out 0 _ rfl;have l1:=A4 HQl.out 1 _ rfl;have l2:=A4 HQl.out 2 _ rfl;have l3:=A4 HQl.out 3 _ rfl;go_wp2_with fail;refine(KR.out _ HB0.out).mono ?_;rintro e w1 ⟨rfl,hb1⟩;have HB1:=hid (A8 HB0.out hb1);clear hb1 l0 l1 l2 l3;go_wp2_with fail;go_ret;exact⟨rfl,HB1.out⟩
 ·obtain⟨c,hc⟩:∃ c,(Aq L).1=c:=⟨_,rfl⟩;have KR:Hid (∀ V,Below w.heap.size w V→Calls Tryz.prog 12 #[.agg #[L.se.v,L.po.v,L.sg.v,L.rt.v],.slice ra n rc,.slice sa k sc] V fun e w'=>e = .returned (.tuple #[.slice none 0 0,.int .i64 c])∧Below V.heap.size V w'):=hid (fun V hV=>Nl L ra n rc sa k sc V (hL.below hV) c hc (hc ▸ h0));obtain rfl:false=b:=by rw[← hb];exact(Pt h0).symm
  have c1:(c == 0)=false:=by rw[beq_eq_false_iff_ne,← hc];exact h0
  clear hX hxn hxo hY hyn h11 hb h0 hc;obtain⟨n1,hn1⟩:∃ n,L.se.l.length=n:=⟨_,rfl⟩;obtain⟨n2,hn2⟩:∃ n,L.po.l.length=n:=⟨_,rfl⟩;obtain⟨n3,hn3⟩:∃ n,L.sg.l.length=n:=⟨_,rfl⟩;obtain⟨n4,hn4⟩:∃ n,L.rt.l.length=n:=⟨_,rfl⟩;rw[Ak hn1,Ak hn2,Ak hn3,Ak hn4] at KR ⊢;clear hn1 hn2 hn3 hn4 hL;go_enter Tryz.func15,Tryz.ntmps15;go_upto_region 1 with fail
  refine Ap (os:=[.cells #[.slice L.se.a n1 L.se.c,.slice L.po.a n2 L.po.c,.slice L.sg.a n3 L.sg.c,.slice L.rt.a n4 L.rt.c] 27]) (w0:=w) rfl ?_;intro W hat hbw;obtain⟨gl,hgl⟩:∃ g,g=w.heap.size:=⟨_,rfl⟩;have q0:=hat 0 _ rfl;rw[Nat.add_zero,← hgl] at q0;rw[← hgl];have HQl:=hid q0;have HB0:=hid hbw;clear hat hbw q0 hgl;have l0:=A4 HQl.out 0 _ rfl;have l1:=A4 HQl.out 1 _ rfl;have l2:=A4 HQl.out 2 _ rfl;have l3:=A4 HQl.out 3 _ rfl;go_wp2_with fail;refine(KR.out _ HB0.out).mono ?_;rintro e w1 ⟨rfl,hb1⟩;have HB1:=hid (A8 HB0.out hb1);clear hb1 l0 l1 l2 l3;go_wp2_with fail;go_ret;exact⟨rfl,HB1.out⟩
set_option maxHeartbeats 8000000 in
theorem Qh(L:AM)(ra:Option Addr)(n rc top:Nat)(X:List Iv)(b:Bool)(w:World)(hL:B5 w L)(hX:AF 4 Jg w ra X)(hxn:X.length=n)(ht:top≤1000)(hb:DO L X top=b) :
 Calls Tryz.prog 11 #[.agg #[L.se.v,L.po.v,L.sg.v,L.rt.v],.slice ra n rc,.int .i64 (top:Int)] w fun e w'=>e = .returned (.bool b)∧Below w.heap.size w w':=by
 obtain⟨z,hz⟩:∃ z,Ck 300 L=z:=⟨_,rfl⟩;have KW:Hid (∀ V,Below w.heap.size w V→Calls Tryz.prog 16 #[.agg #[L.se.v,L.po.v,L.sg.v,L.rt.v],.int .i64 300] V fun e w'=>e = .returned (.int .i64 z)∧Below V.heap.size V w'):=hid (fun V hV=>hz ▸ (GP 300 L V (hL.below hV)).mono (fun _ _ h=>⟨h.1,h.2⟩));by_cases h3:300<z
 ·obtain rfl:false=b:=by rw[← hb];exact(QB (hz ▸ h3)).symm
  clear hX hxn ht hb;obtain⟨n1,hn1⟩:∃ n,L.se.l.length=n:=⟨_,rfl⟩;obtain⟨n2,hn2⟩:∃ n,L.po.l.length=n:=⟨_,rfl⟩;obtain⟨n3,hn3⟩:∃ n,L.sg.l.length=n:=⟨_,rfl⟩;obtain⟨n4,hn4⟩:∃ n,L.rt.l.length=n:=⟨_,rfl⟩;rw[Ak hn1,Ak hn2,Ak hn3,Ak hn4] at KW ⊢;clear hn1 hn2 hn3 hn4 hL hz;go_enter Tryz.func11,Tryz.ntmps11;go_upto_region 1 with fail
  refine Ap (os:=[.cells #[.slice L.se.a n1 L.se.c,.slice L.po.a n2 L.po.c,.slice L.sg.a n3 L.sg.c,.slice L.rt.a n4 L.rt.c] 27]) (w0:=w) rfl ?_;intro W hat hbw;obtain⟨gl,hgl⟩:∃ g,g=w.heap.size:=⟨_,rfl⟩;have q0:=hat 0 _ rfl;rw[Nat.add_zero,← hgl] at q0;rw[← hgl];have HQl:=hid q0;have HB0:=hid hbw;clear hat hbw q0 hgl;have l0:=A4 HQl.out 0 _ rfl;have l1:=A4 HQl.out 1 _ rfl;have l2:=A4 HQl.out 2 _ rfl;have l3:=A4 HQl.out 3 _ rfl;go_wp2_with fail;refine(KW.out _ HB0.out).mono ?_;rintro e w1 ⟨rfl,hb1⟩;have HB1:=hid (A8 HB0.out hb1);clear hb1 l0 l1 l2 l3;go_wp2_with fail;go_ret;exact⟨rfl,HB1.out⟩
 by_cases hnt:top<n
 ·obtain rfl:false=b:=by rw[← hb];exact(No (by omega)).symm
  have d:(top:Int)<(n:Int):=by omega
  clear hX hxn ht hb hnt;obtain⟨n1,hn1⟩:∃ n,L.se.l.length=n:=⟨_,rfl⟩;obtain⟨n2,hn2⟩:∃ n,L.po.l.length=n:=⟨_,rfl⟩;obtain⟨n3,hn3⟩:∃ n,L.sg.l.length=n:=⟨_,rfl⟩;obtain⟨n4,hn4⟩:∃ n,L.rt.l.length=n:=⟨_,rfl⟩;rw[Ak hn1,Ak hn2,Ak hn3,Ak hn4] at KW ⊢;clear hn1 hn2 hn3 hn4 hL hz;go_enter Tryz.func11,Tryz.ntmps11;go_upto_region 1 with fail
  refine Ap (os:=[.cells #[.slice L.se.a n1 L.se.c,.slice L.po.a n2 L.po.c,.slice L.sg.a n3 L.sg.c,.slice L.rt.a n4 L.rt.c] 27]) (w0:=w) rfl ?_;intro W hat hbw;obtain⟨gl,hgl⟩:∃ g,g=w.heap.size:=⟨_,rfl⟩;have q0:=hat 0 _ rfl;rw[Nat.add_zero,← hgl] at q0;rw[← hgl];have HQl:=hid q0;have HB0:=hid hbw;clear hat hbw q0 hgl;have l0:=A4 HQl.out 0 _ rfl;have l1:=A4 HQl.out 1 _ rfl;have l2:=A4 HQl.out 2 _ rfl;have l3:=A4 HQl.out 3 _ rfl;go_wp2_with fail;refine(KW.out _ HB0.out).mono ?_;rintro e w1 ⟨rfl,hb1⟩;have HB1:=hid (A8 HB0.out hb1);clear hb1 l0 l1 l2 l3;go_wp2_with fail;go_ret;exact⟨rfl,HB1.out⟩
 have d:¬ (top:Int)<(n:Int):=by omega
 have dd:decide ((300:Int)<z)=false:=decide_eq_false h3;have dn:decide (top<n)=false:=decide_eq_false hnt;have HN:Hid (n≤1000):=hid (by omega);have HXR:=hid hX;have HXN:=hid hxn;have HNO:Hid (∀ x∈X,20<x.len→false=b):=hid (fun x hx h=>by rw[← hb];exact(O7 hx h).symm);have HYES:Hid ((∀ x∈X,x.len≤20)→true=b):=hid (fun h=>by rw[← hb];exact(Pj (by rw[hz];exact h3) (by omega) h).symm);clear hX hxn ht hb;obtain⟨n1,hn1⟩:∃ n,L.se.l.length=n:=⟨_,rfl⟩;obtain⟨n2,hn2⟩:∃ n,L.po.l.length=n:=⟨_,rfl⟩;obtain⟨n3,hn3⟩:∃ n,L.sg.l.length=n:=⟨_,rfl⟩;obtain⟨n4,hn4⟩:∃ n,L.rt.l.length=n:=⟨_,rfl⟩;rw[Ak hn1,Ak hn2,Ak hn3,Ak hn4] at KW ⊢;clear hn1 hn2 hn3 hn4 hL hz;go_enter Tryz.func11,Tryz.ntmps11;go_upto_region 1 with fail
 refine Ap (os:=[.cells #[.slice L.se.a n1 L.se.c,.slice L.po.a n2 L.po.c,.slice L.sg.a n3 L.sg.c,.slice L.rt.a n4 L.rt.c] 27]) (w0:=w) rfl ?_;intro W hat hbw;obtain⟨gl,hgl⟩:∃ g,g=w.heap.size:=⟨_,rfl⟩;have q0:=hat 0 _ rfl;rw[Nat.add_zero,← hgl] at q0;rw[← hgl];have HQl:=hid q0;have HB0:=hid hbw;clear hat hbw q0 hgl;have l0:=A4 HQl.out 0 _ rfl;have l1:=A4 HQl.out 1 _ rfl;have l2:=A4 HQl.out 2 _ rfl;have l3:=A4 HQl.out 3 _ rfl;go_wp2_with fail;refine(KW.out _ HB0.out).mono ?_;rintro e w1 ⟨rfl,hb1⟩;have HB1:=hid (A8 HB0.out hb1);clear hb1 l0 l1 l2 l3;go_upto_region 4 with fail
 clear d h3 dd dn hnt;go_loopg [7] n (fun g v wr=>∃ i:Nat,i+g=n∧v = .int .i64 (i:Int)∧(∀ x∈X.take i,x.len≤20)∧wr=w1)
 case atStart=>exact⟨0,by omega,rfl,fun x hx=>(nomatch hx),rfl⟩
 case round=>
  obtain⟨i,hi,rfl,hall,rfl⟩:=hrel;have HI:=hid hi;have HALL:=hid hall;clear hi hall;by_cases hlt:i<n
  ·have d1:(0:Int)≤i:=by omega
   have d2:(i:Int)<n:=by omega
   have e1:=Bp hlt (Nat.le_trans HN.out (by decide));have HLT:=hid hlt;obtain⟨x,hx⟩:∃ x,X[i]?=some x:=⟨_,List.getElem?_eq_getElem (by rw[HXN.out];exact hlt)⟩;rcases HXR.out with hnil | ⟨rb,ro,hra,hc⟩
   ·rw[hnil] at hx;cases hx
   have z3:=cell_later HB1.out (hc i _ hx 3 _ rfl);have HXM:=hid (List.mem_of_getElem? hx);have HNX:Hid (x.len≤20→∀ y∈X.take (i+1),y.len≤20):=hid (fun h y hy=>by
    rw[List.take_add_one,hx] at hy;rcases List.mem_append.1 hy with hy | hy
    ·exact HALL.out y hy
    ·simp at hy;rw[hy];exact h)
   obtain⟨A,hA⟩:∃ a,ra=a:=⟨_,rfl⟩;have HAA:=hid hA;rw[hA] at hra ⊢;subst hra;clear hlt hx hc hA;by_cases h20:20<x.len
   ·have d4:(20:Int)<(x.len:Int):=by omega
    obtain rfl:=HNO.out x HXM.out h20;clear h20;go_wp2_with fail;go_ret;exact⟨rfl,HB1.out⟩
   ·have d4:¬ (20:Int)<(x.len:Int):=by omega
    have HX2:=hid (HNX.out (by omega));clear h20;go_wp2_with fail;rw[← HAA.out];go_roundg (n - (i+1))
    case rel=>exact⟨i+1,AK HI.out HLT.out,by go_num,HX2.out,rfl⟩
    case measure=>exact AL HI.out HLT.out
  ·have d2:¬ ((i:Int)<(n:Int)):=by omega
   obtain rfl:=HYES.out (fun x hx=>HALL.out x (by rw[List.take_of_length_le (by rw[HXN.out];omega)];exact hx));clear hlt;go_wp2_with fail;go_ret;exact⟨rfl,HB1.out⟩
end Go.Proofs.YtpohoannggdbjaaGreat
namespace Go.Proofs.YtpohoannggdbjaaGreat
open Lib (hid)
open Go.RowKit
section
variable {P:Program} {ops:Array Oper} {Q:Exit→Act→World→Prop} {T:List Nat} {a0:Act} {w0:World} {F:Nat→Value→World→Prop}
theorem MD(u:Nat)(hB:Jk ops T=true){k:Nat}(hK:Ic ops T k u=true)(hsz:(List.range ops.size).all (fun i=>T.contains i || ((By ops i).map (fun d=>decide (d<a0.tmps.size))).getD false)=true)
 (hF:∀ i v w w',F i v w→Below w.heap.size w w'→F i v w') (H:∀ i,i<ops.size→T.contains i=false→GD P ops T a0 w0 F i)
 (hend:∀(fuel:Nat) (listed:Array Bool) (a:Act) (w:World),listed.toList.count true+fuel=ops.size→D3 ops T a0 w0 F listed a w→(∀ i,i<ops.size→T.contains i=false→i≠u→listed.getD i false=true)→wpAny P .any ops Q fuel listed a w) :
 ∀(fuel:Nat) (listed:Array Bool) (a:Act) (w:World),listed.toList.count true+fuel=ops.size→D3 ops T a0 w0 F listed a w→wpAny P .any ops Q fuel listed a w:=by
 intro fuel
 induction fuel with
 | zero=>
   intro listed a w hc h;exact hend 0 listed a w hc h (fun i hi _ _=>by
    have h1:listed.toList.count true=listed.toList.length:=by rw[Array.length_toList,h.size];omega
    have h2:=List.count_eq_length.1 h1;have hlt:i<listed.size:=by rw[h.size];exact hi
    have h3:=h2 listed[i] (by simp);rw[Array.getD_eq_getD_getElem?,Array.getElem?_eq_getElem hlt,← h3];rfl)
 | succ fuel ih=>
   intro listed a w hc h;by_cases hall:∀ i,i<ops.size→T.contains i=false→i≠u→listed.getD i false=true
   ·exact hend (fuel+1) listed a w hc h hall
   refine⟨fun hr=>?_,fun i hi=>?_⟩
   ·exfalso;apply hall
    suffices key:∀ i,i<ops.size→T.contains i=false→listed.getD i false=true from fun i hi hT _=>key i hi hT
    intro i
    induction i using Nat.strongRecOn with
    | ind i ihi=>
      intro hi hT;cases hg:listed.getD i false with
      | true=>rfl
      | false=>
        have hin:i∈Region.ready .any ops listed:=by
         refine mem_ready.2 ⟨?_,ops[i],Array.getElem?_eq_getElem hi,fun e he hb=>?_⟩
         ·have hlt:i<listed.size:=by rw[h.size];exact hi
          rw[Array.getD_eq_getD_getElem?,Array.getElem?_eq_getElem hlt] at hg ⊢;exact hg
         ·have hd:Dm ops i e.on=true:=(CF (Array.getElem?_eq_getElem hi)).2 ⟨e,he,hb,rfl⟩;have hu:=List.all_eq_true.1 hB i (List.mem_range.2 hi);rw[hT,Bool.false_or,Bool.and_eq_true] at hu;by_cases hlt:e.on<ops.size
          ·have:=List.all_eq_true.1 hu.2 e.on (List.mem_range.2 hlt);rw[hd] at this;simp at this;exact ihi e.on this.1.1 hlt (by simpa using this.1.2)
          ·have hx:e.on<i:=by
            have h5:=hu.1;rw[Bool.and_eq_true,Array.getElem?_eq_getElem hi] at h5;have h6:=h5.2;simp only[Option.map_some,Option.getD_some,Bool.and_eq_true] at h6;have h7:=(Array.all_eq_true_iff_forall_mem.1 h6.2) e he;rw[hb] at h7;simpa using h7
           omega
        rw[hr] at hin;cases hin
   ·obtain⟨hun,o,ho,hdeps⟩:=mem_ready.1 hi;have hlt:i<ops.size:=(Array.getElem?_eq_some_iff.1 ho).1;have hdep:∀ j,Dm ops i j=true→listed.getD j false=true:=fun j hj=>by
     obtain⟨e,he,hb,rfl⟩:=(CF ho).1 hj;exact hdeps e he hb
    cases hT:T.contains i with
    | true=>
      exfalso;apply hall;intro m hm hmT hmu;have h1:=List.all_eq_true.1 (List.all_eq_true.1 hK i (List.contains_iff_mem.1 hT)) m (List.mem_range.2 hm);have hne:(m == u)=false:=by simpa using hmu
      rw[hmT,hne,Bool.false_or,Bool.false_or] at h1;exact EA h.closed k _ (fun j hj=>hdep j (List.mem_filter.1 hj).2) m (List.contains_iff_mem.1 h1)
    | false=>
      have hu:=List.all_eq_true.1 hB i (List.mem_range.2 hlt);rw[hT,Bool.false_or,Bool.and_eq_true,Bool.and_eq_true,ho] at hu;have hgu:o.guard=none:=by have h8:=hu.1.2;simp only[Option.map_some,Option.getD_some,Bool.and_eq_true] at h8;simpa using h8.1
      obtain⟨d,hd⟩:=Option.isSome_iff_exists.1 hu.1.1;have hod:o.dst=some d:=by unfold By at hd;rw[ho] at hd;exact hd
      have hob:=H i hlt hT o ho a.eval w (fun _=>rfl) (fun _=>rfl) (fun _=>rfl) h.frame h.below (fun j s hs hj=>h.facts j s hs (hdep j hj));have hcnt:(listed.setIfInBounds i true).toList.count true+fuel=ops.size:=by
       rw[Array.toList_setIfInBounds,List.count_set (by rw[Array.length_toList,h.size];exact hlt)];have hx:listed.toList[i]'(by rw[Array.length_toList,h.size];exact hlt)=false:=by
        have hl:i<listed.size:=by rw[h.size];exact hlt
        rw[Array.getD_eq_getD_getElem?,Array.getElem?_eq_getElem hl] at hun;simpa using hun
       rw[hx,if_neg (by decide),if_pos (by decide)];omega
      unfold wpOp;rw[ho];dsimp only;rw[if_pos (by simp[Region.wanted,hgu])];left;unfold Oper.wp;have hnext:∀ v w',Below w.heap.size w w'→F i v w'→wpAny P .any ops Q fuel (listed.setIfInBounds i true) (a.put o.dst v) w':=fun v w' hb hv=>by
       rw[hod];exact ih _ _ _ hcnt (h.step hB hsz hF hlt hT hd hdep hb hv)
      generalize (execOp a.eval o).run P w=res at *;cases res with
      | ok n w'=>
        cases n<;>simp only[Cj] at hob<;>simp only[Oper.upon]
        case value v=>exact hnext v w' hob.1 hob.2
        case enter f args=>
         refine Calls.mono hob fun e w'' he=>?_
         obtain⟨v,rfl,hb,hv⟩:=he;exact hnext v w'' hb hv
      | halt x w'=>simp only[Cj] at hob
theorem GG{listed LI:Array Bool}(h1:listed.size=LI.size)(h:∀ i,i<LI.size→listed.getD i false=LI.getD i false):listed=LI:=by
 refine Array.ext h1 fun i h2 h3=>?_
 have:=h i h3;rw[Array.getD_eq_getD_getElem?,Array.getD_eq_getD_getElem?,Array.getElem?_eq_getElem h2,Array.getElem?_eq_getElem h3] at this;exact this
theorem FO{id:Nat}(hm:P.follows .mixedOrders=true)(T:List Nat)(k:Nat)(L:List Nat)(D:List Nat)(LI LJ:Array Bool)(n':Nat)(G:List (Value→World→Prop))(u d:Nat)(v:Value){ou:Oper}
 (hu:ops[u]?=some ou) (hud:ou.dst=some d) (hdu:By ops u=some d) (huT:T.contains u=false) (hs:Region.noSelect ops=true) (hf:Region.free .any ops LJ u=true) (hr:(Region.ready .any ops LJ).contains u=true)
 (hQ:∀ c a w,Q (.panic c) (a.put ou.dst v) w→Q (.panic c) a w) (hvu:∀ w,G.getD u (fun _ _=>True) v w)
 (hy:∀ a w,(∀ i s,By ops i=some s→LJ.getD i false=true→G.getD i (fun _ _=>True) (a.eval (.tmp s)) w)→Yields P ops ou v a)
 (hB:Jk ops T=true) (hK:Ic ops T k u=true) (hsz:(List.range ops.size).all (fun i=>T.contains i || ((By ops i).map (fun d=>decide (d<a0.tmps.size))).getD false)=true)
 (hL:(List.range ops.size).all (fun i=>T.contains i || L.contains i)=true) (hD:(List.range a0.tmps.size).all (fun s=>D.contains s || LH ops T s)=true)
 (hL1:LI.size=ops.size) (hL2:((List.range ops.size).all fun i=>LI.getD i false == !T.contains i)=true) (hL3:LI.toList.count true+n'=ops.size)
 (hJ1:LJ.size=ops.size) (hJ2:((List.range ops.size).all fun i=>LJ.getD i false ==(!T.contains i && i != u))=true) (hJ3:LJ.toList.count true+(n'+1)=ops.size) (hJ4:LJ.setIfInBounds u true=LI) (hJ5:(List.range ops.size).all (fun j=>!Dm ops u j || LJ.getD j false)=true)
 (hG:DY G) (H:G2 P ops T a0 w0 (fun i=>G.getD i (fun _ _=>True)) L)
 (hend:∀ a w,Below w0.heap.size w0 w→(∀ i s,By ops i=some s→LI.getD i false=true→G.getD i (fun _ _=>True) (a.eval (.tmp s)) w)→wpAny P .any ops Q n' LI (AA a D a0) w) :
 (Code.region id ops true).wp P Q a0 w0:=by
 have hF:∀ i v w w',G.getD i (fun _ _=>True) v w→Below w.heap.size w w'→G.getD i (fun _ _=>True) v w':=fun i v w w' h hb=>EH hG i v w w' h hb
 have hult:u<ops.size:=(Array.getElem?_eq_some_iff.1 hu).1;have fin:∀ a w,D3 ops T a0 w0 (fun i=>G.getD i (fun _ _=>True)) LI a w→wpAny P .any ops Q n' LI a w:=fun a w h=>by
  have he:a=AA a D a0:=by
   obtain⟨f1,f2⟩:=Ef a D a0;refine Hn (h.tmps.trans f1.symm) (h.defers.trans f2.symm) fun s hs=>?_
   have hs':s<a0.tmps.size:=by rw[← h.tmps];exact hs
   rw[Eb a D a0 hs'];split
   ·rfl
   ·rename_i hn
    have:=List.all_eq_true.1 hD s (List.mem_range.2 hs');rw[Bool.or_eq_true] at this;exact h.frame s (this.resolve_left hn)
  have h2:=hend a w h.below h.facts;rw[← he] at h2;exact h2
 refine wp_region_any hm (MD (w0:=w0) u hB hK hsz hF (fun i hi hT=>?_) (fun fuel listed a w hc h hall=>?_) ops.size (Array.replicate ops.size false) a0 _ ?_ (GI w0 _))
 ·have:=List.all_eq_true.1 hL i (List.mem_range.2 hi);rw[hT,Bool.false_or] at this;exact Ec H i (List.contains_iff_mem.1 this)
 ·cases hlu:listed.getD u false with
  | true=>
    have he:listed=LI:=GG (h.size.trans hL1.symm) (fun i hi=>by
     have hi:i<ops.size:=by rw[← hL1];exact hi
     have h3:=List.all_eq_true.1 hL2 i (List.mem_range.2 hi);rw[beq_iff_eq] at h3;rw[h3];cases hT:T.contains i with
     | true=>
       cases hg:listed.getD i false with
       | false=>rfl
       | true=>rw[h.none i hg] at hT;cases hT
     | false=>
       by_cases hiu:i=u
       ·rw[hiu];exact hlu
       ·exact hall i hi hT hiu)
    subst he;have:fuel=n':=by omega
    subst this;exact fin a w h
  | false=>
    have he:listed=LJ:=GG (h.size.trans hJ1.symm) (fun i hi=>by
     have hi:i<ops.size:=by rw[← hJ1];exact hi
     have h3:=List.all_eq_true.1 hJ2 i (List.mem_range.2 hi);rw[beq_iff_eq] at h3;rw[h3];by_cases hiu:i=u
     ·rw[hiu,hlu];simp
     have hne:(i != u)=true:=by simpa using hiu
     rw[hne];cases hT:T.contains i with
     | true=>
       cases hg:listed.getD i false with
       | false=>rfl
       | true=>rw[h.none i hg] at hT;cases hT
     | false=>exact hall i hi hT hiu)
    subst he;have:fuel=n'+1:=by omega
    subst this;have hdep:∀ j,Dm ops u j=true→listed.getD j false=true:=fun j hj=>by
     by_cases hjl:j<ops.size
     ·have:=List.all_eq_true.1 hJ5 j (List.mem_range.2 hjl);rw[hj] at this;simpa using this
     ·exfalso;obtain⟨e,he,hb,rfl⟩:=(CF hu).1 hj;have hB1:=List.all_eq_true.1 hB u (List.mem_range.2 hult);rw[huT,Bool.false_or,Bool.and_eq_true,Bool.and_eq_true,hu] at hB1;have h8:=hB1.1.2;simp only[Option.map_some,Option.getD_some,Bool.and_eq_true] at h8;have h9:=(Array.all_eq_true_iff_forall_mem.1 h8.2) e he;have h10:e.on<u:=by rw[hb] at h9;simpa using h9
      omega
    have h1:=D3.step hB hsz hF h hult huT hdu hdep (Below.refl _ w) (hvu w);rw[hJ4] at h1;refine wpAny_take hu hs hf hr hQ (hy a w h.facts) ?_;rw[hJ4,hud];exact fin _ _ h1
 ·rw[Array.toList_replicate,List.count_replicate,if_neg (by decide),Nat.zero_add]
end
end Go.Proofs.YtpohoannggdbjaaGreat
