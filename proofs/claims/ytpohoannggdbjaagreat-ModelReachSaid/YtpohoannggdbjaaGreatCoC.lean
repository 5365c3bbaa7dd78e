/- Walks: the document's Conflict. -/
import Derived.Test.YtpohoannggdbjaaGreatMC
import Derived.Deep.RegionHeld3
set_option maxRecDepth 100000
set_option maxHeartbeats 200000000
namespace Go.Proofs.YtpohoannggdbjaaGreat
open Lib (hid)
open Go.RowKit
theorem Uv{L:AL}{a b:Rt}(h:a.sg=b.sg):AC L a b=true:=by unfold AC Bj;rw[Wk h];rfl
theorem Uw{L:AL}{a b:Rt}{k:Nat}{x:Int}(h:a.tr[k]?=some x)(hu:AB b.tr x=true):AC L a b=true:=by
 unfold AC Bj;rw[List.any_cons,List.any_append,Bool.or_eq_true,Bool.or_eq_true];exact .inr (.inl (WF.2 ⟨true,List.mem_map.2 ⟨x,Wf h,hu⟩,rfl⟩))
theorem Id{L:AL}{a b:Rt}{k:Nat}{p:BA × Int}(h:L.po.l[k]?=some p)(hb:AR a.tr b.tr (Av a.nd (k:Int)) (Av b.nd (k:Int)) p.2=true):AC L a b=true:=by
 unfold AC Bj;rw[List.any_cons,List.any_append,Bool.or_eq_true,Bool.or_eq_true];have:=Fu (a:=a) (b:=b) (k:=0) h;rw[Wq,hb] at this;exact .inr (.inr (WF.2 ⟨true,Wf this,rfl⟩))
theorem Uu{L:AL}{a b:Rt}(h1:a.sg≠b.sg)(h2:∀(k:Nat) (x:Int),a.tr[k]?=some x→AB b.tr x=false)(h3:∀(k:Nat) (p:BA × Int),L.po.l[k]?=some p→AR a.tr b.tr (Av a.nd (k:Int)) (Av b.nd (k:Int)) p.2=false):AC L a b=false:=by
 unfold AC Bj;rw[List.any_cons,List.any_append,Wg h1];show(false || _)=false;rw[Bool.false_or,Bool.or_eq_false_iff];constructor
 ·rw[WU];intro v hv;obtain⟨x,hx,rfl⟩:=List.mem_map.1 hv;obtain⟨k,hk⟩:=List.getElem?_of_mem hx;rw[h2 k x hk];decide
 ·rw[WU];intro v hv;obtain⟨k,hk⟩:=List.getElem?_of_mem hv;have hk2:k<L.po.l.length:=(by rw[← H8 a b L.po.l 0];exact(We.1 hk).1);have h4:=Fu (a:=a) (b:=b) (k:=0) (Wb hk2);rw[hk,Wq,h3 k _ (Wb hk2)] at h4;injection h4 with h4
  rw[h4];decide
theorem Ip{X:Option Bool}{z:Int}(h:((In X:Nat):Int)=z):(X=none∧z=0)∨(X=some false∧z=1)∨(X=some true∧z=2):=by
 rcases X with _ | (_ | _)
 ·exact .inl ⟨rfl,h.symm⟩
 ·exact .inr (.inl ⟨rfl,h.symm⟩)
 ·exact .inr (.inr ⟨rfl,h.symm⟩)
structure O4(w0 w:World)(g0 g1 g2:Nat)(C A B:Array Value):Prop where
 lay:w.heap[g0]?=some (.cells C 27)
 a:w.heap[g1]?=some (.cells A 52)
 b:w.heap[g2]?=some (.cells B 52)
 below:Below w0.heap.size w0 w
theorem O4.step{w0 w w':World}{g0 g1 g2:Nat}{C A B:Array Value}(h:O4 w0 w g0 g1 g2 C A B)(hb:Below w.heap.size w w'):O4 w0 w' g0 g1 g2 C A B:=⟨A5 hb h.lay,A5 hb h.a,A5 hb h.b,A6 h.below hb⟩
attribute [local irreducible] AB Av Sl.v AC AR Rt.tr Rt.nd
theorem Jw(L:AL)(a b:Rt)(w:World)(hL:AO w L)(ha:CM w a)(hb:CM w b)(ha1:a.pa.l.length+a.ov.l.length≤100000)(ha2:a.po.l.length+a.fl.l.length≤100000)(hb1:b.pa.l.length+b.ov.l.length≤100000)(hb2:b.po.l.length+b.fl.l.length≤100000) :
 Calls Tryz.prog 100 #[.agg #[L.se.v,L.po.v,L.sg.v,L.rt.v],.agg #[.string a.nm,.int .i64 a.sg,a.pa.v,a.po.v,a.ov.v,a.fl.v],.agg #[.string b.nm,.int .i64 b.sg,b.pa.v,b.po.v,b.ov.v,b.fl.v]] w fun e w'=>e = .returned (.bool (AC L a b))∧Below w.heap.size w w':=by
 have HA:=hid hL;have TA:Hid (∀ W,Below w.heap.size w W→Calls Tryz.prog 68 #[.agg #[.string a.nm,.int .i64 a.sg,a.pa.v,a.po.v,a.ov.v,a.fl.v]] W fun e w'=>∃ x n c,e = .returned (.slice x n c)∧n=a.pa.l.length+a.ov.l.length∧B7 1 AT w' ⟨x,c,a.tr⟩∧Below W.heap.size W w'):=hid (fun W hW=>by have h:=EY a W (ha.below hW) ha1;unfold Rt.tr;exact h);have NA:Hid (∀ W,Below w.heap.size w W→∀(p:Int) (z:Nat),In (Av a.nd p)=z→Calls Tryz.prog 111 #[.agg #[.string a.nm,.int .i64 a.sg,a.pa.v,a.po.v,a.ov.v,a.fl.v],.int .i64 p] W fun e w'=>e = .returned (.int .i64 (z:Int))∧Below W.heap.size W w'):=hid (fun W hW p z hz=>Hb z a p W hz (ha.below hW) ha2);have TB:Hid (∀ W,Below w.heap.size w W→Calls Tryz.prog 68 #[.agg #[.string b.nm,.int .i64 b.sg,b.pa.v,b.po.v,b.ov.v,b.fl.v]] W fun e w'=>∃ x n c,e = .returned (.slice x n c)∧n=b.pa.l.length+b.ov.l.length∧B7 1 AT w' ⟨x,c,b.tr⟩∧Below W.heap.size W w'):=hid (fun W hW=>by have h:=EY b W (hb.below hW) hb1;unfold Rt.tr;exact h);have NB:Hid (∀ W,Below w.heap.size w W→∀(p:Int) (z:Nat),In (Av b.nd p)=z→Calls Tryz.prog 111 #[.agg #[.string b.nm,.int .i64 b.sg,b.pa.v,b.po.v,b.ov.v,b.fl.v],.int .i64 p] W fun e w'=>e = .returned (.int .i64 (z:Int))∧Below W.heap.size W w'):=hid (fun W hW p z hz=>Hb z b p W hz (hb.below hW) hb2);obtain⟨n1,hn1⟩:=WY L.se.l.length;obtain⟨n2,hn2⟩:=WY L.po.l.length;obtain⟨n3,hn3⟩:=WY L.sg.l.length;obtain⟨n4,hn4⟩:=WY L.rt.l.length;obtain⟨a1,ha1x⟩:=WY a.pa.l.length;obtain⟨a2,ha2x⟩:=WY a.po.l.length;obtain⟨a3,ha3x⟩:=WY a.ov.l.length;obtain⟨a4,ha4x⟩:=WY a.fl.l.length;obtain⟨b1,hb1x⟩:=WY b.pa.l.length;obtain⟨b2,hb2x⟩:=WY b.po.l.length;obtain⟨b3,hb3x⟩:=WY b.ov.l.length;obtain⟨b4,hb4x⟩:=WY b.fl.l.length;have HN2:=hid hn2;have HM2:Hid (n2≤9223372036854775807):=hid (by rw[← hn2];exact hL.po.lenM);have HTA:Hid (a.tr.length=a1+a3∧a1+a3≤100000):=hid (by unfold Rt.tr;rw[Wh];omega);have HTB:Hid (b.tr.length=b1+b3∧b1+b3≤100000):=hid (by unfold Rt.tr;rw[Wh];omega);obtain⟨ma,hma⟩:=WY (a1+a3);obtain⟨mb,hmb⟩:=WY (b1+b3);rw[ha1x,ha3x,hma,Ak ha1x,Ak ha2x,Ak ha3x,Ak ha4x] at TA;rw[hb1x,hb3x,hmb,Ak hb1x,Ak hb2x,Ak hb3x,Ak hb4x] at TB;rw[Ak ha1x,Ak ha2x,Ak ha3x,Ak ha4x] at NA;rw[Ak hb1x,Ak hb2x,Ak hb3x,Ak hb4x] at NB;rw[hma] at HTA;rw[hmb] at HTB;rw[Ak hn1,Ak hn2,Ak hn3,Ak hn4,Ak ha1x,Ak ha2x,Ak ha3x,Ak ha4x,Ak hb1x,Ak hb2x,Ak hb3x,Ak hb4x];clear hn1 hn2 hn3 hn4 ha1x ha2x ha3x ha4x hb1x hb2x hb3x hb4x ha1 ha2 hb1 hb2 ha hb hL hma hmb;go_enter Tryz.func100,Tryz.ntmps100;go_upto_region 1 with fail
 refine Ao (os:=[_,_,_]) (w0:=w) rfl ?_;intro W0 hat hbw;have q0:=hat 0 _ rfl;have q1:=hat 1 _ rfl;have q2:=hat 2 _ rfl;obtain⟨g0,hg0⟩:=X0 w.heap.size;obtain⟨g1,hg1⟩:=X0 (g0+1);obtain⟨g2,hg2⟩:=X0 (g1+1);rw[show w.heap.size+0=g0 by omega] at q0;rw[show w.heap.size+1=g1 by omega] at q1;rw[show w.heap.size+2=g2 by omega] at q2;rw[← hg0,← hg1,← hg2];have HC:Hid (O4 w W0 g0 g1 g2 #[.slice L.se.a n1 L.se.c,.slice L.po.a n2 L.po.c,.slice L.sg.a n3 L.sg.c,.slice L.rt.a n4 L.rt.c] #[.string a.nm,.int .i64 a.sg,.slice a.pa.a a1 a.pa.c,.slice a.po.a a2 a.po.c,.slice a.ov.a a3 a.ov.c,.slice a.fl.a a4 a.fl.c] #[.string b.nm,.int .i64 b.sg,.slice b.pa.a b1 b.pa.c,.slice b.po.a b2 b.po.c,.slice b.ov.a b3 b.ov.c,.slice b.fl.a b4 b.fl.c]):=hid ⟨q0,q1,q2,hbw⟩;clear hat hbw q0 q1 q2 hg0 hg1 hg2;obtain⟨l1,x1,y1⟩:W0.cell? ⟨g0,1,none⟩=some (.slice L.po.a n2 L.po.c)∧W0.cell? ⟨g1,1,none⟩=some (.int .i64 a.sg)∧W0.cell? ⟨g2,1,none⟩=some (.int .i64 b.sg):=by
  have q:=HC.o;exact⟨A4 q.lay 1 _ rfl,A4 q.a 1 _ rfl,A4 q.b 1 _ rfl⟩
 by_cases hsg:a.sg=b.sg
 ·have HF:=hid (Uv (L:=L) hsg);have hq:(a.sg == b.sg)=true:=(by simpa using hsg);clear hsg;go_wp2_with fail;go_ret;exact⟨by rw[HF.o];rfl,HC.o.below⟩
 have hq:(a.sg == b.sg)=false:=by simpa using hsg
 have HSG:=hid hsg;clear hsg;go_upto_region 3 with fail
 clear l1 x1 y1 hq;have HS:Hid (∀ w',Below W0.heap.size W0 w'→(w'.cell? ⟨g1,0,none⟩=some (.string a.nm)∧w'.cell? ⟨g1,1,none⟩=some (.int .i64 a.sg)∧w'.cell? ⟨g1,2,none⟩=some (.slice a.pa.a a1 a.pa.c)∧w'.cell? ⟨g1,3,none⟩=some (.slice a.po.a a2 a.po.c)∧w'.cell? ⟨g1,4,none⟩=some (.slice a.ov.a a3 a.ov.c)∧w'.cell? ⟨g1,5,none⟩=some (.slice a.fl.a a4 a.fl.c))∧(w'.cell? ⟨g2,0,none⟩=some (.string b.nm)∧w'.cell? ⟨g2,1,none⟩=some (.int .i64 b.sg)∧w'.cell? ⟨g2,2,none⟩=some (.slice b.pa.a b1 b.pa.c)∧w'.cell? ⟨g2,3,none⟩=some (.slice b.po.a b2 b.po.c)∧w'.cell? ⟨g2,4,none⟩=some (.slice b.ov.a b3 b.ov.c)∧w'.cell? ⟨g2,5,none⟩=some (.slice b.fl.a b4 b.fl.c))):=hid (fun w' hw'=>by
  have q:=HC.o.step hw';exact⟨⟨A4 q.a 0 _ rfl,A4 q.a 1 _ rfl,A4 q.a 2 _ rfl,A4 q.a 3 _ rfl,A4 q.a 4 _ rfl,A4 q.a 5 _ rfl⟩,⟨A4 q.b 0 _ rfl,A4 q.b 1 _ rfl,A4 q.b 2 _ rfl,A4 q.b 3 _ rfl,A4 q.b 4 _ rfl,A4 q.b 5 _ rfl⟩⟩)
 go_region_held3 (fun w'=>(w'.cell? ⟨g1,0,none⟩=some (.string a.nm)∧w'.cell? ⟨g1,1,none⟩=some (.int .i64 a.sg)∧w'.cell? ⟨g1,2,none⟩=some (.slice a.pa.a a1 a.pa.c)∧w'.cell? ⟨g1,3,none⟩=some (.slice a.po.a a2 a.po.c)∧w'.cell? ⟨g1,4,none⟩=some (.slice a.ov.a a3 a.ov.c)∧w'.cell? ⟨g1,5,none⟩=some (.slice a.fl.a a4 a.fl.c))∧(w'.cell? ⟨g2,0,none⟩=some (.string b.nm)∧w'.cell? ⟨g2,1,none⟩=some (.int .i64 b.sg)∧w'.cell? ⟨g2,2,none⟩=some (.slice b.pa.a b1 b.pa.c)∧w'.cell? ⟨g2,3,none⟩=some (.slice b.po.a b2 b.po.c)∧w'.cell? ⟨g2,4,none⟩=some (.slice b.ov.a b3 b.ov.c)∧w'.cell? ⟨g2,5,none⟩=some (.slice b.fl.a b4 b.fl.c)))
  (exact HS.o _ (by first | exact(VU _ W0) | exact(VU _ W0).drew | assumption))
  (first
    | ((with_reducible refine(TA.o _ (A6 HC.o.below (by first | exact(VU _ W0) | exact(VU _ W0).drew | assumption))).mono ?_);rintro e w1 ⟨ta,tn,tc,rfl,hnt,hst,hbt⟩;have hBt:Below W0.heap.size W0 w1:=A6 (by first | exact(VU _ W0) | exact(VU _ W0).drew | assumption) hbt)
    | ((with_reducible refine(TB.o _ (A6 HC.o.below (by first | exact hBt | exact hBt.drew | assumption))).mono ?_);rintro e w2 ⟨ua,un,uc,rfl,hnu,hsu,hbu⟩;have hBu:Below W0.heap.size W0 w2:=A6 (by first | exact hBt | exact hBt.drew | assumption) hbu))
 obtain rfl:ma=tn:=hnt.symm;obtain rfl:mb=un:=hnu.symm;have hc:=HC.o.step hBu;have ht:=hst.below (show Below w1.heap.size w1 w2 by first | exact hbu | exact E6 hbu);clear HC HS;have HC:=hid hc;have HT:=hid ht;have HU:=hid hsu;clear hc ht hsu hst hbt hBt hbu hBu;go_upto_region 5 with fail
 go_loopg [9] ma (fun g i wr=>∃ k:Nat,k+g=ma∧i = .int .i64 (k:Int)∧(∀ j x,j<k→a.tr[j]?=some x→AB b.tr x=false)∧w2=wr)
 case atStart=>exact⟨0,by omega,rfl,fun j x h=>absurd h (Nat.not_lt_zero _),rfl⟩
 case round=>
  obtain⟨k,hk,rfl,hst,rfl⟩:=hrel;have HST:=hid hst;clear hst;by_cases hlt:k<ma
  ·obtain⟨x,hx⟩:∃ x,a.tr[k]?=some x:=⟨_,Wb (by rw[HTA.o.1];exact hlt)⟩;have hrow:=HT.o.row;dsimp only at hrow;rcases hrow with hnil | ⟨xb,off,hxb,hc⟩
   ·rw[hnil] at hx;simp at hx
   have z0:=hc k _ hx 0 _ rfl;rw[Wa,Nat.mul_one] at z0;have HX:=hid hx;have HXB:=hid hxb;have d1:(0:Int)≤k:=(by omega);have d2:(k:Int)<ma:=(by omega);have e0:wrap64 ((k:Int)+1)=(k:Int)+1:=(by have:=HTA.o;unfold wrap64;omega);have HK:=hid hk;obtain⟨D,hD⟩:=WY (AB b.tr x);have HIN:=hid (Fw D ua mb uc b.tr x w2 hD HTB.o.1 (by have:=HTB.o.2;omega) HU.o.row);have HD:=hid hD;rw[hxb];clear hc hx hk hD hxb;cases D with
   | true=>
     have HF:=hid (Uw (L:=L) HX.o HD.o);go_wp2_with fail;refine HIN.o.mono ?_;rintro e w3 ⟨rfl,rfl⟩;go_wp2_with fail;go_ret;exact⟨by rw[HF.o];rfl,HC.o.below⟩
   | false=>
     have HX2:Hid (∀ j x,j<k+1→a.tr[j]?=some x→AB b.tr x=false):=hid (fun j y hj hs=>by
      rcases Nat.lt_or_ge j k with h | h
      ·exact HST.o j y h hs
      ·have hjk:j=k:=(by omega);subst hjk;rw[HX.o] at hs;cases hs;exact HD.o)
     go_wp2_with fail;refine HIN.o.mono ?_;rintro e w3 ⟨rfl,rfl⟩;go_wp2_with fail;rw[← HXB.o];go_roundg (ma - (k+1))
     case rel=>exact⟨k+1,by have:=HK.o;omega,by go_num,HX2.o,rfl⟩
     case measure=>have:=HK.o;omega
  ·have hkm:k=ma:=(by omega);have HTR:Hid (∀(j:Nat) (x:Int),a.tr[j]?=some x→AB b.tr x=false):=hid (fun j x hj=>HST.o j x (by have:=(We.1 hj).1;have:=HTA.o.1;omega) hj);have d2:¬ (k:Int)<ma:=(by omega);clear hk hlt hkm HST;go_upto_region 10 with fail
   clear d2;go_loopg [10,11,12,13] n2 (fun g i _ _ _ wr=>∃ k:Nat,k+g=n2∧i = .int .i64 (k:Int)∧(∀(j:Nat) (p:BA × Int),j<k→L.po.l[j]?=some p→AR a.tr b.tr (Av a.nd (j:Int)) (Av b.nd (j:Int)) p.2=false)∧O4 w wr g0 g1 g2 #[.slice L.se.a n1 L.se.c,.slice L.po.a n2 L.po.c,.slice L.sg.a n3 L.sg.c,.slice L.rt.a n4 L.rt.c] #[.string a.nm,.int .i64 a.sg,.slice a.pa.a a1 a.pa.c,.slice a.po.a a2 a.po.c,.slice a.ov.a a3 a.ov.c,.slice a.fl.a a4 a.fl.c] #[.string b.nm,.int .i64 b.sg,.slice b.pa.a b1 b.pa.c,.slice b.po.a b2 b.po.c,.slice b.ov.a b3 b.ov.c,.slice b.fl.a b4 b.fl.c]∧B7 1 AT wr ⟨ta,tc,a.tr⟩∧B7 1 AT wr ⟨ua,uc,b.tr⟩)
   case atStart=>exact⟨0,by omega,rfl,fun j p h=>absurd h (Nat.not_lt_zero _),HC.o,HT.o,HU.o⟩
   case round=>
    obtain⟨k,hk,rfl,hst,hc,ht,hu⟩:=hrel;clear HC HT HU;have HST:=hid hst;have HCR:=hid hc;have HT:=hid ht;have HU:=hid hu;have l1:=A4 hc.lay 1 _ rfl;clear hst hc ht hu;by_cases hlt:k<n2
    ·obtain⟨⟨y0,s1⟩,hy⟩:∃ y,L.po.l[k]?=some y:=⟨_,Wb (by rw[HN2.o];exact hlt)⟩;have HY:=hid hy;have d1:(0:Int)≤k:=(by omega);have d2:(k:Int)<n2:=(by omega);have E0:Hid (wrap64 ((k:Int)+1)=(k:Int)+1):=hid (by have:=HM2.o;unfold wrap64;omega);have HK:=hid hk;obtain⟨X,hX⟩:=WY (Av a.nd (k:Int));obtain⟨Y,hY⟩:=WY (Av b.nd (k:Int));obtain⟨zx,hzx⟩:∃ z:Int,((In X:Nat):Int)=z:=⟨_,rfl⟩;obtain⟨zy,hzy⟩:∃ z:Int,((In Y:Nat):Int)=z:=⟨_,rfl⟩;have HZX:=hid (Ip hzx);have HZY:=hid (Ip hzy);have KA:Hid (∀ W,Below wr.heap.size wr W→Calls Tryz.prog 111 #[.agg #[.string a.nm,.int .i64 a.sg,.slice a.pa.a a1 a.pa.c,.slice a.po.a a2 a.po.c,.slice a.ov.a a3 a.ov.c,.slice a.fl.a a4 a.fl.c],.int .i64 (k:Int)] W fun e w'=>e = .returned (.int .i64 zx)∧Below wr.heap.size wr w'):=hid (fun W hW=>(hzx ▸ NA.o W (A6 HCR.o.below hW) k _ (by rw[hX])).mono (fun _ _ h=>⟨h.1,A6 hW h.2⟩));have KB:Hid (∀ W,Below wr.heap.size wr W→Calls Tryz.prog 111 #[.agg #[.string b.nm,.int .i64 b.sg,.slice b.pa.a b1 b.pa.c,.slice b.po.a b2 b.po.c,.slice b.ov.a b3 b.ov.c,.slice b.fl.a b4 b.fl.c],.int .i64 (k:Int)] W fun e w'=>e = .returned (.int .i64 zy)∧Below wr.heap.size wr w'):=hid (fun W hW=>(hzy ▸ NB.o W (A6 HCR.o.below hW) k _ (by rw[hY])).mono (fun _ _ h=>⟨h.1,A6 hW h.2⟩));have HXA:=hid hX;have HXB:=hid hY;clear hy hk hX hY hlt hzx hzy;go_upto_region 12 with fail
     refine Ad (by kernel_rfl) ?_ ?_
     ·kernel_rfl
     repeat first
      | go_big_quiet_skip
      | (go_big_quiet_want;go_big_quiet_op;go_big_quiet_on)
      | (with_reducible apply wpQuiet_step
         intro K hK;go_simp;first
          | (refine hK _ ?_;clear hK K)
          | (apply Exists.intro
             refine⟨fun w' hw'=>?_,hK _ ?_⟩
             ·
              (first
               | with_reducible exact KA.o _ hw'
               | with_reducible exact KB.o _ hw'
               | (have p0:=A4 (A5 hw' HCR.o.a) 0 _ rfl
                  have p1:=A4 (A5 hw' HCR.o.a) 1 _ rfl;have p2:=A4 (A5 hw' HCR.o.a) 2 _ rfl;have p3:=A4 (A5 hw' HCR.o.a) 3 _ rfl;have p4:=A4 (A5 hw' HCR.o.a) 4 _ rfl;have p5:=A4 (A5 hw' HCR.o.a) 5 _ rfl;have r0:=A4 (A5 hw' HCR.o.b) 0 _ rfl;have r1:=A4 (A5 hw' HCR.o.b) 1 _ rfl;have r2:=A4 (A5 hw' HCR.o.b) 2 _ rfl;have r3:=A4 (A5 hw' HCR.o.b) 3 _ rfl;have r4:=A4 (A5 hw' HCR.o.b) 4 _ rfl;have r5:=A4 (A5 hw' HCR.o.b) 5 _ rfl;go_simp;first | done | with_reducible exact rfl | with_reducible exact⟨rfl,rfl⟩ | with_reducible exact KA.o _ hw' | with_reducible exact KB.o _ hw'))
             clear hK K))
     refine wpQuiet_nil ?_;intro w7 hw7;have hc7:=HCR.o.step hw7;have ht7:=HT.o.below hw7;have hu7:=HU.o.below hw7;have l1:=A4 hc7.lay 1 _ rfl;rcases HA.o.po.row.below hc7.below with hnil | ⟨xb,off,hxb,hc⟩
     ·have hy:=HY.o;rw[hnil] at hy;simp at hy
     have z1:=hc k _ HY.o 1 _ rfl;dsimp only at z1;have HC7:=hid hc7;have HT7:=hid ht7;have HU7:=hid hu7;have HXP:=hid hxb;rw[hxb] at l1;clear hw7 hc7 ht7 hu7 hc hxb HCR HT HU KA KB;go_upto_region 14 with fail
     rw[← HXP.o];clear l1 z1;have e0:=E0.o;rcases HZX.o with ⟨rfl,rfl⟩ | ⟨rfl,rfl⟩ | ⟨rfl,rfl⟩<;>rcases HZY.o with ⟨rfl,rfl⟩ | ⟨rfl,rfl⟩ | ⟨rfl,rfl⟩
     all_goals clear HZX HZY
     ·have HBD:Hid (AR a.tr b.tr (Av a.nd (k:Int)) (Av b.nd (k:Int)) (y0,s1).2=false):=hid (by rw[HXA.o,HXB.o];unfold AR;dsimp only;cases AB a.tr s1<;>cases AB b.tr s1<;>rfl);have HXX:Hid (∀(j:Nat) (p:BA × Int),j<k+1→L.po.l[j]?=some p→AR a.tr b.tr (Av a.nd (j:Int)) (Av b.nd (j:Int)) p.2=false):=hid (fun j p hj hs=>by
       rcases Nat.lt_or_ge j k with h | h
       ·exact HST.o j p h hs
       ·have hjk:j=k:=(by omega);subst hjk;rw[HY.o] at hs;cases hs;exact HBD.o)
      go_wp2_with fail;go_roundg (n2 - (k+1))
      case rel=>exact⟨k+1,by have:=HK.o;omega,by go_num,HXX.o,HC7.o,HT7.o,HU7.o⟩
      case measure=>have:=HK.o;omega
     ·obtain⟨E,hE⟩:=WY (AB a.tr s1);have HIN:=hid (Fw E ta ma tc a.tr s1 w7 hE HTA.o.1 (by have:=HTA.o.2;omega) HT7.o.row);have HE:=hid hE;clear hE;cases E with
      | true=>
        have HBD:Hid (AR a.tr b.tr (Av a.nd (k:Int)) (Av b.nd (k:Int)) (y0,s1).2=true):=hid (by rw[HXA.o,HXB.o];unfold AR;dsimp only;rw[HE.o];cases AB b.tr s1<;>rfl);go_wp2_with fail;refine HIN.o.mono ?_;rintro e w8 ⟨rfl,rfl⟩;have HF:=hid (Id HY.o HBD.o);go_wp2_with fail;go_ret;exact⟨by rw[HF.o];rfl,HC7.o.below⟩
      | false=>
        have HBD:Hid (AR a.tr b.tr (Av a.nd (k:Int)) (Av b.nd (k:Int)) (y0,s1).2=false):=hid (by rw[HXA.o,HXB.o];unfold AR;dsimp only;rw[HE.o];cases AB b.tr s1<;>rfl);go_wp2_with fail;refine HIN.o.mono ?_;rintro e w8 ⟨rfl,rfl⟩;have HXX:Hid (∀(j:Nat) (p:BA × Int),j<k+1→L.po.l[j]?=some p→AR a.tr b.tr (Av a.nd (j:Int)) (Av b.nd (j:Int)) p.2=false):=hid (fun j p hj hs=>by
         rcases Nat.lt_or_ge j k with h | h
         ·exact HST.o j p h hs
         ·have hjk:j=k:=(by omega);subst hjk;rw[HY.o] at hs;cases hs;exact HBD.o)
        go_wp2_with fail;go_roundg (n2 - (k+1))
        case rel=>exact⟨k+1,by have:=HK.o;omega,by go_num,HXX.o,HC7.o,HT7.o,HU7.o⟩
        case measure=>have:=HK.o;omega
     ·obtain⟨E,hE⟩:=WY (AB a.tr s1);have HIN:=hid (Fw E ta ma tc a.tr s1 w7 hE HTA.o.1 (by have:=HTA.o.2;omega) HT7.o.row);have HE:=hid hE;clear hE;cases E with
      | true=>
        have HBD:Hid (AR a.tr b.tr (Av a.nd (k:Int)) (Av b.nd (k:Int)) (y0,s1).2=true):=hid (by rw[HXA.o,HXB.o];unfold AR;dsimp only;rw[HE.o];cases AB b.tr s1<;>rfl);go_wp2_with fail;refine HIN.o.mono ?_;rintro e w8 ⟨rfl,rfl⟩;have HF:=hid (Id HY.o HBD.o);go_wp2_with fail;go_ret;exact⟨by rw[HF.o];rfl,HC7.o.below⟩
      | false=>
        have HBD:Hid (AR a.tr b.tr (Av a.nd (k:Int)) (Av b.nd (k:Int)) (y0,s1).2=false):=hid (by rw[HXA.o,HXB.o];unfold AR;dsimp only;rw[HE.o];cases AB b.tr s1<;>rfl);go_wp2_with fail;refine HIN.o.mono ?_;rintro e w8 ⟨rfl,rfl⟩;have HXX:Hid (∀(j:Nat) (p:BA × Int),j<k+1→L.po.l[j]?=some p→AR a.tr b.tr (Av a.nd (j:Int)) (Av b.nd (j:Int)) p.2=false):=hid (fun j p hj hs=>by
         rcases Nat.lt_or_ge j k with h | h
         ·exact HST.o j p h hs
         ·have hjk:j=k:=(by omega);subst hjk;rw[HY.o] at hs;cases hs;exact HBD.o)
        go_wp2_with fail;go_roundg (n2 - (k+1))
        case rel=>exact⟨k+1,by have:=HK.o;omega,by go_num,HXX.o,HC7.o,HT7.o,HU7.o⟩
        case measure=>have:=HK.o;omega
     ·obtain⟨E,hE⟩:=WY (AB b.tr s1);have HIN:=hid (Fw E ua mb uc b.tr s1 w7 hE HTB.o.1 (by have:=HTB.o.2;omega) HU7.o.row);have HE:=hid hE;clear hE;cases E with
      | true=>
        have HBD:Hid (AR a.tr b.tr (Av a.nd (k:Int)) (Av b.nd (k:Int)) (y0,s1).2=true):=hid (by rw[HXA.o,HXB.o];unfold AR;dsimp only;rw[HE.o];cases AB a.tr s1<;>rfl);go_wp2_with fail;refine HIN.o.mono ?_;rintro e w8 ⟨rfl,rfl⟩;have HF:=hid (Id HY.o HBD.o);go_wp2_with fail;go_ret;exact⟨by rw[HF.o];rfl,HC7.o.below⟩
      | false=>
        have HBD:Hid (AR a.tr b.tr (Av a.nd (k:Int)) (Av b.nd (k:Int)) (y0,s1).2=false):=hid (by rw[HXA.o,HXB.o];unfold AR;dsimp only;rw[HE.o];cases AB a.tr s1<;>rfl);go_wp2_with fail;refine HIN.o.mono ?_;rintro e w8 ⟨rfl,rfl⟩;have HXX:Hid (∀(j:Nat) (p:BA × Int),j<k+1→L.po.l[j]?=some p→AR a.tr b.tr (Av a.nd (j:Int)) (Av b.nd (j:Int)) p.2=false):=hid (fun j p hj hs=>by
         rcases Nat.lt_or_ge j k with h | h
         ·exact HST.o j p h hs
         ·have hjk:j=k:=(by omega);subst hjk;rw[HY.o] at hs;cases hs;exact HBD.o)
        go_wp2_with fail;go_roundg (n2 - (k+1))
        case rel=>exact⟨k+1,by have:=HK.o;omega,by go_num,HXX.o,HC7.o,HT7.o,HU7.o⟩
        case measure=>have:=HK.o;omega
     ·have HBD:Hid (AR a.tr b.tr (Av a.nd (k:Int)) (Av b.nd (k:Int)) (y0,s1).2=false):=hid (by rw[HXA.o,HXB.o];unfold AR;dsimp only;cases AB a.tr s1<;>cases AB b.tr s1<;>rfl);have HXX:Hid (∀(j:Nat) (p:BA × Int),j<k+1→L.po.l[j]?=some p→AR a.tr b.tr (Av a.nd (j:Int)) (Av b.nd (j:Int)) p.2=false):=hid (fun j p hj hs=>by
       rcases Nat.lt_or_ge j k with h | h
       ·exact HST.o j p h hs
       ·have hjk:j=k:=(by omega);subst hjk;rw[HY.o] at hs;cases hs;exact HBD.o)
      go_wp2_with fail;go_roundg (n2 - (k+1))
      case rel=>exact⟨k+1,by have:=HK.o;omega,by go_num,HXX.o,HC7.o,HT7.o,HU7.o⟩
      case measure=>have:=HK.o;omega
     ·have HBD:Hid (AR a.tr b.tr (Av a.nd (k:Int)) (Av b.nd (k:Int)) (y0,s1).2=true):=hid (by rw[HXA.o,HXB.o];unfold AR;dsimp only;cases AB a.tr s1<;>cases AB b.tr s1<;>rfl);have HF:=hid (Id HY.o HBD.o);go_wp2_with fail;go_ret;exact⟨by rw[HF.o];rfl,HC7.o.below⟩
     ·obtain⟨E,hE⟩:=WY (AB b.tr s1);have HIN:=hid (Fw E ua mb uc b.tr s1 w7 hE HTB.o.1 (by have:=HTB.o.2;omega) HU7.o.row);have HE:=hid hE;clear hE;cases E with
      | true=>
        have HBD:Hid (AR a.tr b.tr (Av a.nd (k:Int)) (Av b.nd (k:Int)) (y0,s1).2=true):=hid (by rw[HXA.o,HXB.o];unfold AR;dsimp only;rw[HE.o];cases AB a.tr s1<;>rfl);go_wp2_with fail;refine HIN.o.mono ?_;rintro e w8 ⟨rfl,rfl⟩;have HF:=hid (Id HY.o HBD.o);go_wp2_with fail;go_ret;exact⟨by rw[HF.o];rfl,HC7.o.below⟩
      | false=>
        have HBD:Hid (AR a.tr b.tr (Av a.nd (k:Int)) (Av b.nd (k:Int)) (y0,s1).2=false):=hid (by rw[HXA.o,HXB.o];unfold AR;dsimp only;rw[HE.o];cases AB a.tr s1<;>rfl);go_wp2_with fail;refine HIN.o.mono ?_;rintro e w8 ⟨rfl,rfl⟩;have HXX:Hid (∀(j:Nat) (p:BA × Int),j<k+1→L.po.l[j]?=some p→AR a.tr b.tr (Av a.nd (j:Int)) (Av b.nd (j:Int)) p.2=false):=hid (fun j p hj hs=>by
         rcases Nat.lt_or_ge j k with h | h
         ·exact HST.o j p h hs
         ·have hjk:j=k:=(by omega);subst hjk;rw[HY.o] at hs;cases hs;exact HBD.o)
        go_wp2_with fail;go_roundg (n2 - (k+1))
        case rel=>exact⟨k+1,by have:=HK.o;omega,by go_num,HXX.o,HC7.o,HT7.o,HU7.o⟩
        case measure=>have:=HK.o;omega
     ·have HBD:Hid (AR a.tr b.tr (Av a.nd (k:Int)) (Av b.nd (k:Int)) (y0,s1).2=true):=hid (by rw[HXA.o,HXB.o];unfold AR;dsimp only;cases AB a.tr s1<;>cases AB b.tr s1<;>rfl);have HF:=hid (Id HY.o HBD.o);go_wp2_with fail;go_ret;exact⟨by rw[HF.o];rfl,HC7.o.below⟩
     ·have HBD:Hid (AR a.tr b.tr (Av a.nd (k:Int)) (Av b.nd (k:Int)) (y0,s1).2=false):=hid (by rw[HXA.o,HXB.o];unfold AR;dsimp only;cases AB a.tr s1<;>cases AB b.tr s1<;>rfl);have HXX:Hid (∀(j:Nat) (p:BA × Int),j<k+1→L.po.l[j]?=some p→AR a.tr b.tr (Av a.nd (j:Int)) (Av b.nd (j:Int)) p.2=false):=hid (fun j p hj hs=>by
       rcases Nat.lt_or_ge j k with h | h
       ·exact HST.o j p h hs
       ·have hjk:j=k:=(by omega);subst hjk;rw[HY.o] at hs;cases hs;exact HBD.o)
      go_wp2_with fail;go_roundg (n2 - (k+1))
      case rel=>exact⟨k+1,by have:=HK.o;omega,by go_num,HXX.o,HC7.o,HT7.o,HU7.o⟩
      case measure=>have:=HK.o;omega
    ·have hkm:n2=k:=(by omega);subst hkm;have HF:=hid (Uu (L:=L) HSG.o HTR.o (fun j p hj=>HST.o j p (by have:=(We.1 hj).1;have:=HN2.o;omega) hj));go_wp2_with fail;go_ret;exact⟨by rw[HF.o];rfl,HCR.o.below⟩
end Go.Proofs.YtpohoannggdbjaaGreat
