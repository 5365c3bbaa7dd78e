/- Walks: the document's Conflict. -/
import Derived.Test.YtpohoannggdbjaaGreatMC
import Derived.Deep.RegionHeld3
namespace Go.Proofs.YtpohoannggdbjaaGreat
open Lib (hid)
open Go.RowKit
set_option maxRecDepth 100000
theorem RY{L:AM}{a b:Rt}(h:a.sg=b.sg):Aw L a b=true:=by unfold Aw AZ;rw[decide_eq_true h];rfl
theorem RE{L:AM}{a b:Rt}{k:Nat}{x:Int}(h:a.tr[k]?=some x)(hu:Av b.tr x=true):Aw L a b=true:=by
 unfold Aw AZ;rw[List.any_cons,List.any_append,Bool.or_eq_true,Bool.or_eq_true];exact .inr (.inl (List.any_eq_true.2 ⟨true,List.mem_map.2 ⟨x,List.mem_of_getElem? h,hu⟩,rfl⟩))
theorem GF{L:AM}{a b:Rt}{k:Nat}{p:BA × Int}(h:L.po.l[k]?=some p)(hb:AJ a.tr b.tr (At a.nd (k:Int)) (At b.nd (k:Int)) p.2=true):Aw L a b=true:=by
 unfold Aw AZ;rw[List.any_cons,List.any_append,Bool.or_eq_true,Bool.or_eq_true];have:=EC (a:=a) (b:=b) (k:=0) h;rw[Nat.zero_add,hb] at this;exact .inr (.inr (List.any_eq_true.2 ⟨true,List.mem_of_getElem? this,rfl⟩))
theorem Ri{L:AM}{a b:Rt}(h1:a.sg≠b.sg)(h2:∀(k:Nat) (x:Int),a.tr[k]?=some x→Av b.tr x=false)(h3:∀(k:Nat) (p:BA × Int),L.po.l[k]?=some p→AJ a.tr b.tr (At a.nd (k:Int)) (At b.nd (k:Int)) p.2=false):Aw L a b=false:=by
 unfold Aw AZ;rw[List.any_cons,List.any_append,decide_eq_false h1];show(false || _)=false;rw[Bool.false_or,Bool.or_eq_false_iff];constructor
 ·rw[List.any_eq_false];intro v hv;obtain⟨x,hx,rfl⟩:=List.mem_map.1 hv;obtain⟨k,hk⟩:=List.getElem?_of_mem hx;rw[h2 k x hk];decide
 ·rw[List.any_eq_false];intro v hv;obtain⟨k,hk⟩:=List.getElem?_of_mem hv;have hk2:k<L.po.l.length:=by rw[← Gg a b L.po.l 0];exact(List.getElem?_eq_some_iff.1 hk).1
  have h4:=EC (a:=a) (b:=b) (k:=0) (List.getElem?_eq_getElem hk2);rw[hk,Nat.zero_add,h3 k _ (List.getElem?_eq_getElem hk2)] at h4;injection h4 with h4
  rw[h4];decide
theorem GM{X:Option Bool}{z:Int}(h:((Gz X:Nat):Int)=z):(X=none∧z=0)∨(X=some false∧z=1)∨(X=some true∧z=2):=by
 rcases X with _ | (_ | _)
 ·exact .inl ⟨rfl,h.symm⟩
 ·exact .inr (.inl ⟨rfl,h.symm⟩)
 ·exact .inr (.inr ⟨rfl,h.symm⟩)
structure MW(w0 w:World)(g0 g1 g2:Nat)(C A B:Array Value):Prop where
 lay:w.heap[g0]?=some (.cells C 27)
 a:w.heap[g1]?=some (.cells A 52)
 b:w.heap[g2]?=some (.cells B 52)
 below:Below w0.heap.size w0 w
theorem MW.step{w0 w w':World}{g0 g1 g2:Nat}{C A B:Array Value}(h:MW w0 w g0 g1 g2 C A B)(hb:Below w.heap.size w w'):MW w0 w' g0 g1 g2 C A B:=⟨A5 hb h.lay,A5 hb h.a,A5 hb h.b,A8 h.below hb⟩
attribute [local irreducible] Av At Sl.v Aw AJ Rt.tr Rt.nd
set_option maxHeartbeats 8000000 in
theorem I7(L:AM)(a b:Rt)(w:World)(hL:B5 w L)(ha:Cq w a)(hb:Cq w b)(ha1:a.pa.l.length+a.ov.l.length≤100000)(ha2:a.po.l.length+a.fl.l.length≤100000)(hb1:b.pa.l.length+b.ov.l.length≤100000)(hb2:b.po.l.length+b.fl.l.length≤100000) :
 Calls Tryz.prog 100 #[.agg #[L.se.v,L.po.v,L.sg.v,L.rt.v],.agg #[.string a.nm,.int .i64 a.sg,a.pa.v,a.po.v,a.ov.v,a.fl.v],.agg #[.string b.nm,.int .i64 b.sg,b.pa.v,b.po.v,b.ov.v,b.fl.v]] w fun e w'=>e = .returned (.bool (Aw L a b))∧Below w.heap.size w w':=by
 have HA:=hid hL;have TA:Hid (∀ W,Below w.heap.size w W→Calls Tryz.prog 68 #[.agg #[.string a.nm,.int .i64 a.sg,a.pa.v,a.po.v,a.ov.v,a.fl.v]] W fun e w'=>∃ x n c,e = .returned (.slice x n c)∧n=a.pa.l.length+a.ov.l.length∧B8 1 AO w' ⟨x,c,a.tr⟩∧Below W.heap.size W w'):=hid (fun W hW=>by have h:=Ei a W (ha.below hW) ha1;unfold Rt.tr;exact h);have NA:Hid (∀ W,Below w.heap.size w W→∀(p:Int) (z:Nat),Gz (At a.nd p)=z→Calls Tryz.prog 111 #[.agg #[.string a.nm,.int .i64 a.sg,a.pa.v,a.po.v,a.ov.v,a.fl.v],.int .i64 p] W fun e w'=>e = .returned (.int .i64 (z:Int))∧Below W.heap.size W w'):=hid (fun W hW p z hz=>FR z a p W hz (ha.below hW) ha2);have TB:Hid (∀ W,Below w.heap.size w W→Calls Tryz.prog 68 #[.agg #[.string b.nm,.int .i64 b.sg,b.pa.v,b.po.v,b.ov.v,b.fl.v]] W fun e w'=>∃ x n c,e = .returned (.slice x n c)∧n=b.pa.l.length+b.ov.l.length∧B8 1 AO w' ⟨x,c,b.tr⟩∧Below W.heap.size W w'):=hid (fun W hW=>by have h:=Ei b W (hb.below hW) hb1;unfold Rt.tr;exact h);have NB:Hid (∀ W,Below w.heap.size w W→∀(p:Int) (z:Nat),Gz (At b.nd p)=z→Calls Tryz.prog 111 #[.agg #[.string b.nm,.int .i64 b.sg,b.pa.v,b.po.v,b.ov.v,b.fl.v],.int .i64 p] W fun e w'=>e = .returned (.int .i64 (z:Int))∧Below W.heap.size W w'):=hid (fun W hW p z hz=>FR z b p W hz (hb.below hW) hb2);obtain⟨n1,hn1⟩:∃ n,L.se.l.length=n:=⟨_,rfl⟩;obtain⟨n2,hn2⟩:∃ n,L.po.l.length=n:=⟨_,rfl⟩;obtain⟨n3,hn3⟩:∃ n,L.sg.l.length=n:=⟨_,rfl⟩;obtain⟨n4,hn4⟩:∃ n,L.rt.l.length=n:=⟨_,rfl⟩;obtain⟨a1,ha1x⟩:∃ n,a.pa.l.length=n:=⟨_,rfl⟩;obtain⟨a2,ha2x⟩:∃ n,a.po.l.length=n:=⟨_,rfl⟩;obtain⟨a3,ha3x⟩:∃ n,a.ov.l.length=n:=⟨_,rfl⟩;obtain⟨a4,ha4x⟩:∃ n,a.fl.l.length=n:=⟨_,rfl⟩;obtain⟨b1,hb1x⟩:∃ n,b.pa.l.length=n:=⟨_,rfl⟩;obtain⟨b2,hb2x⟩:∃ n,b.po.l.length=n:=⟨_,rfl⟩;obtain⟨b3,hb3x⟩:∃ n,b.ov.l.length=n:=⟨_,rfl⟩;obtain⟨b4,hb4x⟩:∃ n,b.fl.l.length=n:=⟨_,rfl⟩;have HN2:=hid hn2;have HM2:Hid (n2≤9223372036854775807):=hid (by rw[← hn2];exact hL.po.lenM);have HTA:Hid (a.tr.length=a1+a3∧a1+a3≤100000):=hid (by unfold Rt.tr;rw[List.length_append];omega);have HTB:Hid (b.tr.length=b1+b3∧b1+b3≤100000):=hid (by unfold Rt.tr;rw[List.length_append];omega);obtain⟨ma,hma⟩:∃ m,a1+a3=m:=⟨_,rfl⟩;obtain⟨mb,hmb⟩:∃ m,b1+b3=m:=⟨_,rfl⟩;rw[ha1x,ha3x,hma,Ak ha1x,Ak ha2x,Ak ha3x,Ak ha4x] at TA;rw[hb1x,hb3x,hmb,Ak hb1x,Ak hb2x,Ak hb3x,Ak hb4x] at TB;rw[Ak ha1x,Ak ha2x,Ak ha3x,Ak ha4x] at NA;rw[Ak hb1x,Ak hb2x,Ak hb3x,Ak hb4x] at NB;rw[hma] at HTA;rw[hmb] at HTB;rw[Ak hn1,Ak hn2,Ak hn3,Ak hn4,Ak ha1x,Ak ha2x,Ak ha3x,Ak ha4x,Ak hb1x,Ak hb2x,Ak hb3x,Ak hb4x];clear hn1 hn2 hn3 hn4 ha1x ha2x ha3x ha4x hb1x hb2x hb3x hb4x ha1 ha2 hb1 hb2 ha hb hL hma hmb;go_enter Tryz.func100,Tryz.ntmps100;go_upto_region 1 with fail
 refine Ap (os:=[_,_,_]) (w0:=w) rfl ?_;intro W0 hat hbw;have q0:=hat 0 _ rfl;have q1:=hat 1 _ rfl;have q2:=hat 2 _ rfl;obtain⟨g0,hg0⟩:∃ g,g=w.heap.size:=⟨_,rfl⟩;obtain⟨g1,hg1⟩:∃ g,g=g0+1:=⟨_,rfl⟩;obtain⟨g2,hg2⟩:∃ g,g=g1+1:=⟨_,rfl⟩;rw[show w.heap.size+0=g0 by omega] at q0;rw[show w.heap.size+1=g1 by omega] at q1;rw[show w.heap.size+2=g2 by omega] at q2;rw[← hg0,← hg1,← hg2];have HC:Hid (MW w W0 g0 g1 g2 #[.slice L.se.a n1 L.se.c,.slice L.po.a n2 L.po.c,.slice L.sg.a n3 L.sg.c,.slice L.rt.a n4 L.rt.c] #[.string a.nm,.int .i64 a.sg,.slice a.pa.a a1 a.pa.c,.slice a.po.a a2 a.po.c,.slice a.ov.a a3 a.ov.c,.slice a.fl.a a4 a.fl.c] #[.string b.nm,.int .i64 b.sg,.slice b.pa.a b1 b.pa.c,.slice b.po.a b2 b.po.c,.slice b.ov.a b3 b.ov.c,.slice b.fl.a b4 b.fl.c]):=hid ⟨q0,q1,q2,hbw⟩;clear hat hbw q0 q1 q2 hg0 hg1 hg2;obtain⟨l1,x1,y1⟩:W0.cell? ⟨g0,1,none⟩=some (.slice L.po.a n2 L.po.c)∧W0.cell? ⟨g1,1,none⟩=some (.int .i64 a.sg)∧W0.cell? ⟨g2,1,none⟩=some (.int .i64 b.sg):=by
  have q:=HC.out;exact⟨A4 q.lay 1 _ rfl,A4 q.a 1 _ rfl,A4 q.b 1 _ rfl⟩
 by_cases hsg:a.sg=b.sg
 ·have HF:=hid (RY (L:=L) hsg);have hq:(a.sg == b.sg)=true:=by simpa using hsg
  clear hsg;go_wp2_with fail;go_ret;exact⟨by rw[HF.out];rfl,HC.out.below⟩
 have hq:(a.sg == b.sg)=false:=by simpa using hsg
 have HSG:=hid hsg;clear hsg;go_upto_region 3 with fail
 clear l1 x1 y1 hq;have HS:Hid (∀ w',Below W0.heap.size W0 w'→(w'.cell? ⟨g1,0,none⟩=some (.string a.nm)∧w'.cell? ⟨g1,1,none⟩=some (.int .i64 a.sg)∧w'.cell? ⟨g1,2,none⟩=some (.slice a.pa.a a1 a.pa.c)∧w'.cell? ⟨g1,3,none⟩=some (.slice a.po.a a2 a.po.c)∧w'.cell? ⟨g1,4,none⟩=some (.slice a.ov.a a3 a.ov.c)∧w'.cell? ⟨g1,5,none⟩=some (.slice a.fl.a a4 a.fl.c))∧(w'.cell? ⟨g2,0,none⟩=some (.string b.nm)∧w'.cell? ⟨g2,1,none⟩=some (.int .i64 b.sg)∧w'.cell? ⟨g2,2,none⟩=some (.slice b.pa.a b1 b.pa.c)∧w'.cell? ⟨g2,3,none⟩=some (.slice b.po.a b2 b.po.c)∧w'.cell? ⟨g2,4,none⟩=some (.slice b.ov.a b3 b.ov.c)∧w'.cell? ⟨g2,5,none⟩=some (.slice b.fl.a b4 b.fl.c))):=hid (fun w' hw'=>by
  have q:=HC.out.step hw';exact⟨⟨A4 q.a 0 _ rfl,A4 q.a 1 _ rfl,A4 q.a 2 _ rfl,A4 q.a 3 _ rfl,A4 q.a 4 _ rfl,A4 q.a 5 _ rfl⟩,⟨A4 q.b 0 _ rfl,A4 q.b 1 _ rfl,A4 q.b 2 _ rfl,A4 q.b 3 _ rfl,A4 q.b 4 _ rfl,A4 q.b 5 _ rfl⟩⟩)
 go_region_held3 (fun w'=>(w'.cell? ⟨g1,0,none⟩=some (.string a.nm)∧w'.cell? ⟨g1,1,none⟩=some (.int .i64 a.sg)∧w'.cell? ⟨g1,2,none⟩=some (.slice a.pa.a a1 a.pa.c)∧w'.cell? ⟨g1,3,none⟩=some (.slice a.po.a a2 a.po.c)∧w'.cell? ⟨g1,4,none⟩=some (.slice a.ov.a a3 a.ov.c)∧w'.cell? ⟨g1,5,none⟩=some (.slice a.fl.a a4 a.fl.c))∧(w'.cell? ⟨g2,0,none⟩=some (.string b.nm)∧w'.cell? ⟨g2,1,none⟩=some (.int .i64 b.sg)∧w'.cell? ⟨g2,2,none⟩=some (.slice b.pa.a b1 b.pa.c)∧w'.cell? ⟨g2,3,none⟩=some (.slice b.po.a b2 b.po.c)∧w'.cell? ⟨g2,4,none⟩=some (.slice b.ov.a b3 b.ov.c)∧w'.cell? ⟨g2,5,none⟩=some (.slice b.fl.a b4 b.fl.c)))
  (exact HS.out _ (by first | exact(Below.refl _ W0) | exact(Below.refl _ W0).drew | assumption))
  (first
    | ((with_reducible refine(TA.out _ (A8 HC.out.below (by first | exact(Below.refl _ W0) | exact(Below.refl _ W0).drew | assumption))).mono ?_);rintro e w1 ⟨ta,tn,tc,rfl,hnt,hst,hbt⟩;have hBt:Below W0.heap.size W0 w1:=A8 (by first | exact(Below.refl _ W0) | exact(Below.refl _ W0).drew | assumption) hbt)
    | ((with_reducible refine(TB.out _ (A8 HC.out.below (by first | exact hBt | exact hBt.drew | assumption))).mono ?_);rintro e w2 ⟨ua,un,uc,rfl,hnu,hsu,hbu⟩;have hBu:Below W0.heap.size W0 w2:=A8 (by first | exact hBt | exact hBt.drew | assumption) hbu))
 obtain rfl:ma=tn:=hnt.symm;obtain rfl:mb=un:=hnu.symm;have hc:=HC.out.step hBu;have ht:=hst.below (show Below w1.heap.size w1 w2 by first | exact hbu | exact DK hbu);clear HC HS;have HC:=hid hc;have HT:=hid ht;have HU:=hid hsu;clear hc ht hsu hst hbt hBt hbu hBu;go_upto_region 5 with fail
 go_loopg [9] ma (fun g i wr=>∃ k:Nat,k+g=ma∧i = .int .i64 (k:Int)∧(∀ j x,j<k→a.tr[j]?=some x→Av b.tr x=false)∧w2=wr)
 case atStart=>exact⟨0,by omega,rfl,fun j x h=>absurd h (Nat.not_lt_zero _),rfl⟩
 case round=>
  obtain⟨k,hk,rfl,hst,rfl⟩:=hrel;have HST:=hid hst;clear hst;by_cases hlt:k<ma
  ·obtain⟨x,hx⟩:∃ x,a.tr[k]?=some x:=⟨_,List.getElem?_eq_getElem (by rw[HTA.out.1];exact hlt)⟩;have hrow:=HT.out.row;dsimp only at hrow;rcases hrow with hnil | ⟨xb,off,hxb,hc⟩
   ·rw[hnil] at hx;simp at hx
   have z0:=hc k _ hx 0 _ rfl;rw[Nat.add_zero,Nat.mul_one] at z0;have HX:=hid hx;have HXB:=hid hxb;have d1:(0:Int)≤k:=by omega
   have d2:(k:Int)<ma:=by omega
   have e0:wrap64 ((k:Int)+1)=(k:Int)+1:=by have:=HTA.out;unfold wrap64;omega
   have HK:=hid hk;obtain⟨D,hD⟩:∃ D,Av b.tr x=D:=⟨_,rfl⟩;have HIN:=hid (EJ D ua mb uc b.tr x w2 hD HTB.out.1 (by have:=HTB.out.2;omega) HU.out.row);have HD:=hid hD;rw[hxb];clear hc hx hk hD hxb;cases D with
   | true=>
     have HF:=hid (RE (L:=L) HX.out HD.out);go_wp2_with fail;refine HIN.out.mono ?_;rintro e w3 ⟨rfl,rfl⟩;go_wp2_with fail;go_ret;exact⟨by rw[HF.out];rfl,HC.out.below⟩
   | false=>
     have HX2:Hid (∀ j x,j<k+1→a.tr[j]?=some x→Av b.tr x=false):=hid (fun j y hj hs=>by
      rcases Nat.lt_or_ge j k with h | h
      ·exact HST.out j y h hs
      ·have hjk:j=k:=by omega
       subst hjk;rw[HX.out] at hs;cases hs;exact HD.out)
     go_wp2_with fail;refine HIN.out.mono ?_;rintro e w3 ⟨rfl,rfl⟩;go_wp2_with fail;rw[← HXB.out];go_roundg (ma - (k+1))
     case rel=>exact⟨k+1,by have:=HK.out;omega,by go_num,HX2.out,rfl⟩
     case measure=>have:=HK.out;omega
  ·have hkm:k=ma:=by omega
   have HTR:Hid (∀(j:Nat) (x:Int),a.tr[j]?=some x→Av b.tr x=false):=hid (fun j x hj=>HST.out j x (by have:=(List.getElem?_eq_some_iff.1 hj).1;have:=HTA.out.1;omega) hj);have d2:¬ (k:Int)<ma:=by omega
   clear hk hlt hkm HST;go_upto_region 10 with fail
   clear d2;go_loopg [10,11,12,13] n2 (fun g i _ _ _ wr=>∃ k:Nat,k+g=n2∧i = .int .i64 (k:Int)∧(∀(j:Nat) (p:BA × Int),j<k→L.po.l[j]?=some p→AJ a.tr b.tr (At a.nd (j:Int)) (At b.nd (j:Int)) p.2=false)∧MW w wr g0 g1 g2 #[.slice L.se.a n1 L.se.c,.slice L.po.a n2 L.po.c,.slice L.sg.a n3 L.sg.c,.slice L.rt.a n4 L.rt.c] #[.string a.nm,.int .i64 a.sg,.slice a.pa.a a1 a.pa.c,.slice a.po.a a2 a.po.c,.slice a.ov.a a3 a.ov.c,.slice a.fl.a a4 a.fl.c] #[.string b.nm,.int .i64 b.sg,.slice b.pa.a b1 b.pa.c,.slice b.po.a b2 b.po.c,.slice b.ov.a b3 b.ov.c,.slice b.fl.a b4 b.fl.c]∧B8 1 AO wr ⟨ta,tc,a.tr⟩∧B8 1 AO wr ⟨ua,uc,b.tr⟩)
   case atStart=>exact⟨0,by omega,rfl,fun j p h=>absurd h (Nat.not_lt_zero _),HC.out,HT.out,HU.out⟩
   case round=>
    obtain⟨k,hk,rfl,hst,hc,ht,hu⟩:=hrel;clear HC HT HU;have HST:=hid hst;have HCR:=hid hc;have HT:=hid ht;have HU:=hid hu;have l1:=A4 hc.lay 1 _ rfl;clear hst hc ht hu;by_cases hlt:k<n2
    ·obtain⟨⟨y0,s1⟩,hy⟩:∃ y,L.po.l[k]?=some y:=⟨_,List.getElem?_eq_getElem (by rw[HN2.out];exact hlt)⟩;have HY:=hid hy;have d1:(0:Int)≤k:=by omega
     have d2:(k:Int)<n2:=by omega
     have E0:Hid (wrap64 ((k:Int)+1)=(k:Int)+1):=hid (by have:=HM2.out;unfold wrap64;omega);have HK:=hid hk;obtain⟨X,hX⟩:∃ X,At a.nd (k:Int)=X:=⟨_,rfl⟩;obtain⟨Y,hY⟩:∃ Y,At b.nd (k:Int)=Y:=⟨_,rfl⟩;obtain⟨zx,hzx⟩:∃ z:Int,((Gz X:Nat):Int)=z:=⟨_,rfl⟩;obtain⟨zy,hzy⟩:∃ z:Int,((Gz Y:Nat):Int)=z:=⟨_,rfl⟩;have HZX:=hid (GM hzx);have HZY:=hid (GM hzy);have KA:Hid (∀ W,Below wr.heap.size wr W→Calls Tryz.prog 111 #[.agg #[.string a.nm,.int .i64 a.sg,.slice a.pa.a a1 a.pa.c,.slice a.po.a a2 a.po.c,.slice a.ov.a a3 a.ov.c,.slice a.fl.a a4 a.fl.c],.int .i64 (k:Int)] W fun e w'=>e = .returned (.int .i64 zx)∧Below wr.heap.size wr w'):=hid (fun W hW=>(hzx ▸ NA.out W (A8 HCR.out.below hW) k _ (by rw[hX])).mono (fun _ _ h=>⟨h.1,A8 hW h.2⟩));have KB:Hid (∀ W,Below wr.heap.size wr W→Calls Tryz.prog 111 #[.agg #[.string b.nm,.int .i64 b.sg,.slice b.pa.a b1 b.pa.c,.slice b.po.a b2 b.po.c,.slice b.ov.a b3 b.ov.c,.slice b.fl.a b4 b.fl.c],.int .i64 (k:Int)] W fun e w'=>e = .returned (.int .i64 zy)∧Below wr.heap.size wr w'):=hid (fun W hW=>(hzy ▸ NB.out W (A8 HCR.out.below hW) k _ (by rw[hY])).mono (fun _ _ h=>⟨h.1,A8 hW h.2⟩));have HXA:=hid hX;have HXB:=hid hY;clear hy hk hX hY hlt hzx hzy;go_upto_region 12 with fail
     refine Ae (by kernel_rfl) ?_ ?_
     ·kernel_rfl
     repeat first
      | go_big_quiet_skip
      | (go_big_quiet_want;go_big_quiet_op;go_big_quiet_on)
      | (with_reducible apply wpQuiet_step
         intro K hK;go_simp;first
          | (refine hK _ ?_;clear hK K)
          | (apply Exists.intro
             refine⟨fun w' hw'=>?_,hK _ ?_⟩
             ·
              (first
               | with_reducible exact KA.out _ hw'
               | with_reducible exact KB.out _ hw'
               | (have p0:=A4 (A5 hw' HCR.out.a) 0 _ rfl
                  have p1:=A4 (A5 hw' HCR.out.a) 1 _ rfl;have p2:=A4 (A5 hw' HCR.out.a) 2 _ rfl;have p3:=A4 (A5 hw' HCR.out.a) 3 _ rfl;have p4:=A4 (A5 hw' HCR.out.a) 4 _ rfl;have p5:=A4 (A5 hw' HCR.out.a) 5 _ rfl;have r0:=A4 (A5 hw' HCR.out.b) 0 _ rfl;have r1:=A4 (A5 hw' HCR.out.b) 1 _ rfl;have r2:=A4 (A5 hw' HCR.out.b) 2 _ rfl;have r3:=A4 (A5 hw' HCR.out.b) 3 _ rfl;have r4:=A4 (A5 hw' HCR.out.b) 4 _ rfl;have r5:=A4 (A5 hw' HCR.out.b) 5 _ rfl;go_simp;first | done | with_reducible exact rfl | with_reducible exact⟨rfl,rfl⟩ | with_reducible exact KA.out _ hw' | with_reducible exact KB.out _ hw'))
             clear hK K))
     refine wpQuiet_nil ?_;intro w7 hw7;have hc7:=HCR.out.step hw7;have ht7:=HT.out.below hw7;have hu7:=HU.out.below hw7;have l1:=A4 hc7.lay 1 _ rfl;rcases HA.out.po.row.below hc7.below with hnil | ⟨xb,off,hxb,hc⟩
     ·have hy:=HY.out;rw[hnil] at hy;simp at hy
     have z1:=hc k _ HY.out 1 _ rfl;dsimp only at z1;have HC7:=hid hc7;have HT7:=hid ht7;have HU7:=hid hu7;have HXP:=hid hxb;rw[hxb] at l1;clear hw7 hc7 ht7 hu7 hc hxb HCR HT HU KA KB;go_upto_region 14 with fail
     rw[← HXP.out];clear l1 z1;have e0:=E0.out;rcases HZX.out with ⟨rfl,rfl⟩ | ⟨rfl,rfl⟩ | ⟨rfl,rfl⟩<;>rcases HZY.out with ⟨rfl,rfl⟩ | ⟨rfl,rfl⟩ | ⟨rfl,rfl⟩
     all_goals clear HZX HZY
     ·have HBD:Hid (AJ a.tr b.tr (At a.nd (k:Int)) (At b.nd (k:Int)) (y0,s1).2=false):=hid (by rw[HXA.out,HXB.out];unfold AJ;dsimp only;cases Av a.tr s1<;>cases Av b.tr s1<;>rfl);have HXX:Hid (∀(j:Nat) (p:BA × Int),j<k+1→L.po.l[j]?=some p→AJ a.tr b.tr (At a.nd (j:Int)) (At b.nd (j:Int)) p.2=false):=hid (fun j p hj hs=>by
       rcases Nat.lt_or_ge j k with h | h
       ·exact HST.out j p h hs
       ·have hjk:j=k:=by omega
        subst hjk;rw[HY.out] at hs;cases hs;exact HBD.out)
      go_wp2_with fail;go_roundg (n2 - (k+1))
      case rel=>exact⟨k+1,by have:=HK.out;omega,by go_num,HXX.out,HC7.out,HT7.out,HU7.out⟩
      case measure=>have:=HK.out;omega
     ·obtain⟨E,hE⟩:∃ E,Av a.tr s1=E:=⟨_,rfl⟩;have HIN:=hid (EJ E ta ma tc a.tr s1 w7 hE HTA.out.1 (by have:=HTA.out.2;omega) HT7.out.row);have HE:=hid hE;clear hE;cases E with
      | true=>
        have HBD:Hid (AJ a.tr b.tr (At a.nd (k:Int)) (At b.nd (k:Int)) (y0,s1).2=true):=hid (by rw[HXA.out,HXB.out];unfold AJ;dsimp only;rw[HE.out];cases Av b.tr s1<;>rfl);go_wp2_with fail;refine HIN.out.mono ?_;rintro e w8 ⟨rfl,rfl⟩;have HF:=hid (GF HY.out HBD.out);go_wp2_with fail;go_ret;exact⟨by rw[HF.out];rfl,HC7.out.below⟩
      | false=>
        have HBD:Hid (AJ a.tr b.tr (At a.nd (k:Int)) (At b.nd (k:Int)) (y0,s1).2=false):=hid (by rw[HXA.out,HXB.out];unfold AJ;dsimp only;rw[HE.out];cases Av b.tr s1<;>rfl);go_wp2_with fail;refine HIN.out.mono ?_;rintro e w8 ⟨rfl,rfl⟩;have HXX:Hid (∀(j:Nat) (p:BA × Int),j<k+1→L.po.l[j]?=some p→AJ a.tr b.tr (At a.nd (j:Int)) (At b.nd (j:Int)) p.2=false):=hid (fun j p hj hs=>by
         rcases Nat.lt_or_ge j k with h | h
         ·exact HST.out j p h hs
         ·have hjk:j=k:=by omega
          subst hjk;rw[HY.out] at hs;cases hs;exact HBD.out)
        go_wp2_with fail;go_roundg (n2 - (k+1))
        case rel=>exact⟨k+1,by have:=HK.out;omega,by go_num,HXX.out,HC7.out,HT7.out,HU7.out⟩
        case measure=>have:=HK.out;omega
     ·obtain⟨E,hE⟩:∃ E,Av a.tr s1=E:=⟨_,rfl⟩;have HIN:=hid (EJ E ta ma tc a.tr s1 w7 hE HTA.out.1 (by have:=HTA.out.2;omega) HT7.out.row);have HE:=hid hE;clear hE;cases E with
      | true=>
        have HBD:Hid (AJ a.tr b.tr (At a.nd (k:Int)) (At b.nd (k:Int)) (y0,s1).2=true):=hid (by rw[HXA.out,HXB.out];unfold AJ;dsimp only;rw[HE.out];cases Av b.tr s1<;>rfl);go_wp2_with fail;refine HIN.out.mono ?_;rintro e w8 ⟨rfl,rfl⟩;have HF:=hid (GF HY.out HBD.out);go_wp2_with fail;go_ret;exact⟨by rw[HF.out];rfl,HC7.out.below⟩
      | false=>
        have HBD:Hid (AJ a.tr b.tr (At a.nd (k:Int)) (At b.nd (k:Int)) (y0,s1).2=false):=hid (by rw[HXA.out,HXB.out];unfold AJ;dsimp only;rw[HE.out];cases Av b.tr s1<;>rfl);go_wp2_with fail;refine HIN.out.mono ?_;rintro e w8 ⟨rfl,rfl⟩;have HXX:Hid (∀(j:Nat) (p:BA × Int),j<k+1→L.po.l[j]?=some p→AJ a.tr b.tr (At a.nd (j:Int)) (At b.nd (j:Int)) p.2=false):=hid (fun j p hj hs=>by
         rcases Nat.lt_or_ge j k with h | h
         ·exact HST.out j p h hs
         ·have hjk:j=k:=by omega
          subst hjk;rw[HY.out] at hs;cases hs;exact HBD.out)
        go_wp2_with fail;go_roundg (n2 - (k+1))
        case rel=>exact⟨k+1,by have:=HK.out;omega,by go_num,HXX.out,HC7.out,HT7.out,HU7.out⟩
        case measure=>have:=HK.out;omega
     ·obtain⟨E,hE⟩:∃ E,Av b.tr s1=E:=⟨_,rfl⟩;have HIN:=hid (EJ E ua mb uc b.tr s1 w7 hE HTB.out.1 (by have:=HTB.out.2;omega) HU7.out.row);have HE:=hid hE;clear hE;cases E with
      | true=>
        have HBD:Hid (AJ a.tr b.tr (At a.nd (k:Int)) (At b.nd (k:Int)) (y0,s1).2=true):=hid (by rw[HXA.out,HXB.out];unfold AJ;dsimp only;rw[HE.out];cases Av a.tr s1<;>rfl);go_wp2_with fail;refine HIN.out.mono ?_;rintro e w8 ⟨rfl,rfl⟩;have HF:=hid (GF HY.out HBD.out);go_wp2_with fail;go_ret;exact⟨by rw[HF.out];rfl,HC7.out.below⟩
      | false=>
        have HBD:Hid (AJ a.tr b.tr (At a.nd (k:Int)) (At b.nd (k:Int)) (y0,s1).2=false):=hid (by rw[HXA.out,HXB.out];unfold AJ;dsimp only;rw[HE.out];cases Av a.tr s1<;>rfl);go_wp2_with fail;refine HIN.out.mono ?_;rintro e w8 ⟨rfl,rfl⟩;have HXX:Hid (∀(j:Nat) (p:BA × Int),j<k+1→L.po.l[j]?=some p→AJ a.tr b.tr (At a.nd (j:Int)) (At b.nd (j:Int)) p.2=false):=hid (fun j p hj hs=>by
         rcases Nat.lt_or_ge j k with h | h
         ·exact HST.out j p h hs
         ·have hjk:j=k:=by omega
          subst hjk;rw[HY.out] at hs;cases hs;exact HBD.out)
        go_wp2_with fail;go_roundg (n2 - (k+1))
        case rel=>exact⟨k+1,by have:=HK.out;omega,by go_num,HXX.out,HC7.out,HT7.out,HU7.out⟩
        case measure=>have:=HK.out;omega
     ·have HBD:Hid (AJ a.tr b.tr (At a.nd (k:Int)) (At b.nd (k:Int)) (y0,s1).2=false):=hid (by rw[HXA.out,HXB.out];unfold AJ;dsimp only;cases Av a.tr s1<;>cases Av b.tr s1<;>rfl);have HXX:Hid (∀(j:Nat) (p:BA × Int),j<k+1→L.po.l[j]?=some p→AJ a.tr b.tr (At a.nd (j:Int)) (At b.nd (j:Int)) p.2=false):=hid (fun j p hj hs=>by
       rcases Nat.lt_or_ge j k with h | h
       ·exact HST.out j p h hs
       ·have hjk:j=k:=by omega
        subst hjk;rw[HY.out] at hs;cases hs;exact HBD.out)
      go_wp2_with fail;go_roundg (n2 - (k+1))
      case rel=>exact⟨k+1,by have:=HK.out;omega,by go_num,HXX.out,HC7.out,HT7.out,HU7.out⟩
      case measure=>have:=HK.out;omega
     ·have HBD:Hid (AJ a.tr b.tr (At a.nd (k:Int)) (At b.nd (k:Int)) (y0,s1).2=true):=hid (by rw[HXA.out,HXB.out];unfold AJ;dsimp only;cases Av a.tr s1<;>cases Av b.tr s1<;>rfl);have HF:=hid (GF HY.out HBD.out);go_wp2_with fail;go_ret;exact⟨by rw[HF.out];rfl,HC7.out.below⟩
     ·obtain⟨E,hE⟩:∃ E,Av b.tr s1=E:=⟨_,rfl⟩;have HIN:=hid (EJ E ua mb uc b.tr s1 w7 hE HTB.out.1 (by have:=HTB.out.2;omega) HU7.out.row);have HE:=hid hE;clear hE;cases E with
      | true=>
        have HBD:Hid (AJ a.tr b.tr (At a.nd (k:Int)) (At b.nd (k:Int)) (y0,s1).2=true):=hid (by rw[HXA.out,HXB.out];unfold AJ;dsimp only;rw[HE.out];cases Av a.tr s1<;>rfl);go_wp2_with fail;refine HIN.out.mono ?_;rintro e w8 ⟨rfl,rfl⟩;have HF:=hid (GF HY.out HBD.out);go_wp2_with fail;go_ret;exact⟨by rw[HF.out];rfl,HC7.out.below⟩
      | false=>
        have HBD:Hid (AJ a.tr b.tr (At a.nd (k:Int)) (At b.nd (k:Int)) (y0,s1).2=false):=hid (by rw[HXA.out,HXB.out];unfold AJ;dsimp only;rw[HE.out];cases Av a.tr s1<;>rfl);go_wp2_with fail;refine HIN.out.mono ?_;rintro e w8 ⟨rfl,rfl⟩;have HXX:Hid (∀(j:Nat) (p:BA × Int),j<k+1→L.po.l[j]?=some p→AJ a.tr b.tr (At a.nd (j:Int)) (At b.nd (j:Int)) p.2=false):=hid (fun j p hj hs=>by
         rcases Nat.lt_or_ge j k with h | h
         ·exact HST.out j p h hs
         ·have hjk:j=k:=by omega
          subst hjk;rw[HY.out] at hs;cases hs;exact HBD.out)
        go_wp2_with fail;go_roundg (n2 - (k+1))
        case rel=>exact⟨k+1,by have:=HK.out;omega,by go_num,HXX.out,HC7.out,HT7.out,HU7.out⟩
        case measure=>have:=HK.out;omega
     ·have HBD:Hid (AJ a.tr b.tr (At a.nd (k:Int)) (At b.nd (k:Int)) (y0,s1).2=true):=hid (by rw[HXA.out,HXB.out];unfold AJ;dsimp only;cases Av a.tr s1<;>cases Av b.tr s1<;>rfl);have HF:=hid (GF HY.out HBD.out);go_wp2_with fail;go_ret;exact⟨by rw[HF.out];rfl,HC7.out.below⟩
     ·have HBD:Hid (AJ a.tr b.tr (At a.nd (k:Int)) (At b.nd (k:Int)) (y0,s1).2=false):=hid (by rw[HXA.out,HXB.out];unfold AJ;dsimp only;cases Av a.tr s1<;>cases Av b.tr s1<;>rfl);have HXX:Hid (∀(j:Nat) (p:BA × Int),j<k+1→L.po.l[j]?=some p→AJ a.tr b.tr (At a.nd (j:Int)) (At b.nd (j:Int)) p.2=false):=hid (fun j p hj hs=>by
       rcases Nat.lt_or_ge j k with h | h
       ·exact HST.out j p h hs
       ·have hjk:j=k:=by omega
        subst hjk;rw[HY.out] at hs;cases hs;exact HBD.out)
      go_wp2_with fail;go_roundg (n2 - (k+1))
      case rel=>exact⟨k+1,by have:=HK.out;omega,by go_num,HXX.out,HC7.out,HT7.out,HU7.out⟩
      case measure=>have:=HK.out;omega
    ·have hkm:n2=k:=by omega
     subst hkm;have HF:=hid (Ri (L:=L) HSG.out HTR.out (fun j p hj=>HST.out j p (by have:=(List.getElem?_eq_some_iff.1 hj).1;have:=HN2.out;omega) hj));go_wp2_with fail;go_ret;exact⟨by rw[HF.out];rfl,HCR.out.below⟩
end Go.Proofs.YtpohoannggdbjaaGreat
