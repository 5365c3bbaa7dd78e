/- Merged: ToH, ToK, ToL, ToM, ToN, ToO, ToP, ToQ, ToR, ToS, ToT, ToU, ToV, ToX, Gen, ToZ, CoA, CoKp, CoB, CoD, CoE. -/
import Derived.Test.YtpohoannggdbjaaGreatMA
import Derived.Lib.AppendZerosOnto
import Derived.Lib.SliceRun
import Derived.Lib.Walk
import Derived.Deep.LoopGhost
import Derived.MapKept
import Derived.RangeFuncNested
import Derived.RangeFuncBound
import Derived.RangeFuncCalls
import Derived.RangeFuncLeaves
import Derived.RangeFuncBox
import Derived.Shelf.Abstract
import Derived.Shelf.RegionOpen
import Derived.WalkKit
import Derived.OwnWalkIn
import Derived.TacticsInMore
import Derived.LoopNIn
import Derived.LoopIn
import Derived.Maps.AppendAt
set_option maxRecDepth 100000
set_option maxHeartbeats 200000000
namespace Go.Proofs.YtpohoannggdbjaaGreat
open Lib (hid)
open Go.RowKit
section
theorem Bk{w w':World}{a:Option Addr}{c:Nat}{l:List Value}(h:C1 w a c l)(hb:Below w.heap.size w w'):C1 w' a c l:=⟨h.1,h.2.1,fun ad had j u hu=>VY hb (h.2.2 ad had j u hu)⟩
def Cn(sz base:Nat)(w:World)(a:Option Addr)(n:Nat):Prop:=n=0∨∃ g cs t,a=some ⟨g,0,none⟩∧base≤g∧w.heap[g]?=some (.cells cs t (0,0))∧n*sz≤cs.size
theorem Cn.mono{sz base base':Nat}{w:World}{a:Option Addr}{n:Nat}(h:Cn sz base w a n)(hb:base'≤base):Cn sz base' w a n:=by
 refine h.imp id ?_;rintro⟨g,cs,t,h1,h2,h3,h4⟩;exact⟨g,cs,t,h1,Wd hb h2,h3,h4⟩
theorem Cn.below{sz base:Nat}{w w':World}{a:Option Addr}{n:Nat}(h:Cn sz base w a n)(hb:Below w.heap.size w w'):Cn sz base w' a n:=by
 refine h.imp id ?_;rintro⟨g,cs,t,h1,h2,h3,h4⟩;exact⟨g,cs,t,h1,h2,A5 hb h3,h4⟩
theorem EU{α:Type}{f:α→List Value}{sz:Nat}{w:World}{base:Nat}{e:TypeId}{v:Value}{n:Nat}{l:List α}(hf:∀ c,(f c).length=sz)(hn:l.length=n)(h:w.ownsRow base e sz v n (l.flatMap f)) :
 ∃ a c,v = .slice a n c∧B7 sz f w ⟨a,c,l⟩∧Cn sz base w a n:=by
 obtain⟨a,c,hv,hs⟩:=CJ hf hn h;refine⟨a,c,hv,hs,?_⟩;rcases h.2 with ⟨_,rfl⟩ | ⟨g,cap,cur,hv2,hg,hheap,hncap,hcm,hsz,htake⟩
 ·exact .inl rfl
 ·rw[hv] at hv2;injection hv2 with h1 h2 h3
  refine .inr ⟨g,cur,e,h1,hg,hheap,?_⟩;have h4:=congrArg List.length htake;rw[Wu,Cg hf,hn,Array.length_toList] at h4;omega
def GT:Nat→List Int→Int→Int
 | _,[],_=>-1
 | k,y :: t,s=>if y=s then (k:Int) else GT (k+1) t s
def AB(l:List Int)(s:Int):Bool:=l.any fun x=>decide (x=s)
theorem Re:∀(l:List Int) (k:Nat) (s:Int),(0≤GT k l s∧AB l s=true)∨(GT k l s<0∧AB l s=false):=by
 intro l
 induction l with
 | nil=>intro k s;exact .inr ⟨by unfold GT;decide,by unfold AB;rfl⟩
 | cons y l ih=>
   intro k s;by_cases h:y=s
   ·exact .inl ⟨by unfold GT;rw[if_pos h];omega,by unfold AB;simp[h]⟩
   ·have e1:GT k (y :: l) s=GT (k+1) l s:=by
     show(if y=s then (k:Int) else GT (k+1) l s)=_;rw[if_neg h]
    have e2:AB (y :: l) s=AB l s:=(by unfold AB;simp[h]);rw[e1,e2];exact ih (k+1) s
theorem OU{l:List Int}{s y:Int}{k:Nat}(h:l[k]?=some y)(hy:y≠s):GT k (l.drop k) s=GT (k+1) (l.drop (k+1)) s:=by
 have hk:k<l.length:=(We.1 h).1;rw[List.drop_eq_getElem_cons hk,(We.1 h).2];show(if y=s then (k:Int) else GT (k+1) (l.drop (k+1)) s)=_;rw[if_neg hy]
theorem Rc{l:List Int}{s y:Int}{k:Nat}(h:l[k]?=some y)(hy:y=s):GT k (l.drop k) s=k:=by
 have hk:k<l.length:=(We.1 h).1;rw[List.drop_eq_getElem_cons hk,(We.1 h).2];show(if y=s then (k:Int) else GT (k+1) (l.drop (k+1)) s)=_;rw[if_pos hy]
theorem Rb{l:List Int}{s:Int}{k:Nat}(h:l.length=k):GT k (l.drop k) s = -1:=by rw[List.drop_eq_nil_of_le (by omega)];rfl
def C7(l:List Int)(s:Int):Nat:=(l.filter fun x=>decide (x=s)).length
theorem N5{l:List Int}{s y:Int}{k:Nat}(h:l[k]?=some y):C7 (l.take (k+1)) s=C7 (l.take k) s+(if y=s then 1 else 0):=by
 unfold C7;rw[Wp,h,List.filter_append,Wh];by_cases hy:y=s<;>simp[hy]
theorem QH(l:List Int)(s:Int):C7 l s≤l.length:=List.length_filter_le _ _
attribute [local irreducible] GT C7 AB
theorem OO(x:Option Addr)(m c:Nat)(l:List Int)(s:Int)(w:World)(hn:l.length=m)(hm:m≤9223372036854775807)(hl:As 1 AT w x l) :
 Calls Tryz.prog 104 #[.slice x m c,.int .i64 s] w fun e w'=>e = .returned (.int .i64 (GT 0 l s))∧w=w':=by
 have HN:=hid hn;clear hn;go_enter Tryz.func104,Tryz.ntmps104;go_wp2_with fail;go_loopg [5,8] m (fun g _ i wr=>∃ k:Nat,k+g=m∧i = .int .i64 (k:Int)∧GT k (l.drop k) s=GT 0 l s∧w=wr)
 case atStart=>exact⟨0,by omega,rfl,rfl,rfl⟩
 case round=>
  obtain⟨k,hk,rfl,hb,rfl⟩:=hrel;have HB:=hid hb;clear hb;by_cases hlt:k<m
  ·obtain⟨y,hy⟩:∃ y,l[k]?=some y:=⟨_,Wb (by rw[HN.o];exact hlt)⟩;rcases hl with rfl | ⟨b,off,rfl,hc⟩
   ·simp at hy
   have z0:=hc k y hy 0 _ rfl;rw[Wa,Nat.mul_one] at z0;have HY:=hid hy;have d1:(0:Int)≤k:=(by omega);have d2:(k:Int)<m:=(by omega);have e1:wrap64 ((k:Int)+1)=(k:Int)+1:=(by unfold wrap64;omega);have HK:=hid hk;clear hc hy hk;by_cases hys:y=s
   ·have HF:Hid (GT 0 l s=k):=hid (HB.o.symm.trans (Rc HY.o hys));have hbe:(s == y)=true:=(by simp[hys]);clear hys;go_wp2_with fail;go_ret;exact⟨by rw[HF.o];rfl,rfl⟩
   ·have HT:Hid (GT (k+1) (l.drop (k+1)) s=GT 0 l s):=hid ((OU HY.o hys).symm.trans HB.o);have hbe:(s == y)=false:=by simpa using fun h=>hys h.symm
    clear hys;go_wp2_with fail;go_roundg (m - (k+1))
    case rel=>exact⟨k+1,by have:=HK.o;omega,by go_num,HT.o,rfl⟩
    case measure=>have:=HK.o;omega
  ·have hkm:m=k:=(by omega);subst hkm;have HF:Hid (GT 0 l s = -1):=hid (HB.o.symm.trans (Rb HN.o));go_wp2_with fail;go_ret;exact⟨by rw[HF.o];rfl,rfl⟩
theorem Cq(b:Bool)(x:Option Addr)(m c:Nat)(l:List Int)(s:Int)(w:World)(hB:AB l s=b)(hn:l.length=m)(hm:m≤9223372036854775807)(hl:As 1 AT w x l) :
 Calls Tryz.prog 87 #[.slice x m c,.int .i64 s] w fun e w'=>e = .returned (.bool b)∧w=w':=by
 obtain⟨z,hz⟩:=WY (GT 0 l s);have hi:=Re l 0 s;rw[hz,hB] at hi;have HC:=hid (OO x m c l s w hn hm hl);rw[hz] at HC;clear hz hn hm hl;rcases hi with ⟨h1,rfl⟩ | ⟨h1,rfl⟩
 ·go_enter Tryz.func87,Tryz.ntmps87;go_wp2_with fail;refine HC.o.mono ?_;rintro e w1 ⟨rfl,rfl⟩;go_wp2_with fail;go_ret;exact⟨rfl,rfl⟩
 ·have h2:¬ 0≤z:=(by omega);clear h1;go_enter Tryz.func87,Tryz.ntmps87;go_wp2_with fail;refine HC.o.mono ?_;rintro e w1 ⟨rfl,rfl⟩;go_wp2_with fail;go_ret;exact⟨by show Ending.returned (.bool (decide (0≤z)))=_;rw[Wg (by omega)],rfl⟩
theorem Dt(x:Option Addr)(m c:Nat)(l:List Int)(s:Int)(w:World)(hn:l.length=m)(hm:m≤9223372036854775807)(hl:As 1 AT w x l) :
 Calls Tryz.prog 71 #[.slice x m c,.int .i64 s] w fun e w'=>e = .returned (.int .i64 (C7 l s:Int))∧w=w':=by
 have HN:=hid hn;clear hn;go_enter Tryz.func71,Tryz.ntmps71;go_wp2_with fail;go_loopg [5,6] m (fun g v i wr=>∃ k:Nat,k+g=m∧i = .int .i64 (k:Int)∧v = .int .i64 (C7 (l.take k) s:Int)∧w=wr)
 case atStart=>exact⟨0,by omega,rfl,by unfold C7;rfl,rfl⟩
 case round=>
  obtain⟨k,hk,rfl,rfl,rfl⟩:=hrel;by_cases hlt:k<m
  ·obtain⟨y,hy⟩:∃ y,l[k]?=some y:=⟨_,Wb (by rw[HN.o];exact hlt)⟩;rcases hl with rfl | ⟨b,off,rfl,hc⟩
   ·simp at hy
   have z0:=hc k y hy 0 _ rfl;rw[Wa,Nat.mul_one] at z0;have hle:C7 (l.take k) s≤k:=Wd (QH _ _) (by rw[Wu];omega);have HT:=hid (N5 (s:=s) hy);have d1:(0:Int)≤k:=(by omega);have d2:(k:Int)<m:=(by omega);have e1:wrap64 ((k:Int)+1)=(k:Int)+1:=(by unfold wrap64;omega);have e2:wrap64 ((C7 (l.take k) s:Int)+1)=(C7 (l.take k) s:Int)+1:=(by unfold wrap64;omega);have HK:=hid hk;clear hc hy hk hle;by_cases hys:y=s
   ·have hbe:(y == s)=true:=(by simp[hys]);have HF:Hid (C7 (l.take (k+1)) s=C7 (l.take k) s+1):=hid (by rw[HT.o,if_pos hys]);clear hys;go_wp2_with fail;go_roundg (m - (k+1))
    case rel=>exact⟨k+1,by have:=HK.o;omega,by go_num,by rw[HF.o];first | rfl | go_num,rfl⟩
    case measure=>have:=HK.o;omega
   ·have hbe:(y == s)=false:=(by simpa using hys);have HF:Hid (C7 (l.take (k+1)) s=C7 (l.take k) s):=hid (by rw[HT.o,if_neg hys,Wa]);clear hys;go_wp2_with fail;go_roundg (m - (k+1))
    case rel=>exact⟨k+1,by have:=HK.o;omega,by go_num,by rw[HF.o],rfl⟩
    case measure=>have:=HK.o;omega
  ·have hkm:m=k:=(by omega);subst hkm;have HF:Hid (l.take m=l):=hid (Wo (by rw[HN.o];exact Wc _));go_wp2_with fail;go_ret;exact⟨by rw[HF.o];rfl,rfl⟩
theorem LB(r:Rt)(w:World)(hr:CM w r)(hlen:r.pa.l.length+r.ov.l.length≤100000) :
 Calls Tryz.prog 68 #[.agg #[.string r.nm,.int .i64 r.sg,r.pa.v,r.po.v,r.ov.v,r.fl.v]] w fun e w'=>∃ a n c,e = .returned (.slice a n c)∧n=r.pa.l.length+r.ov.l.length∧B7 1 AT w' ⟨a,c,r.pa.l ++ r.ov.l⟩∧Below w.heap.size w w'∧Cn 1 w.heap.size w' a n:=by
 obtain⟨nm,sg,⟨pa,pc,pl⟩,⟨oa,oc,ol⟩,⟨va,vc,vl⟩,⟨fa,fc,fl⟩⟩:=r;have hS1:=Eh BD Gq hr.pa;have hS2:=Eh BD Gq hr.ov;dsimp only at hS1 hS2 hlen ⊢;obtain⟨m1,hm1⟩:=WY pl.length;obtain⟨m2,hm2⟩:=WY ol.length;obtain⟨m3,hm3⟩:=WY vl.length;obtain⟨m4,hm4⟩:=WY fl.length;rw[Dm hm1,Dm hm2,Dm hm3,Dm hm4];rw[hm1,hm3] at hlen ⊢;obtain⟨i0,hi,hz0,hz1,hz2⟩:=info_parts DU;have HI:=hid (And.intro hi (And.intro hz0 (And.intro hz1 hz2)));obtain⟨W,hW⟩:=X0 (w.alloc (.cells #[.string nm,.int .i64 sg,.slice pa m1 pc,.slice oa m2 oc,.slice va m3 vc,.slice fa m4 fc] 52));have hBW:Below w.heap.size w W:=by rw[hW];exact Ac w _
 have hk:W.heap[w.heap.size]?=some (.cells #[.string nm,.int .i64 sg,.slice pa m1 pc,.slice oa m2 oc,.slice va m3 vc,.slice fa m4 fc] 52):=by rw[hW];exact Al w _ (VU _ _)
 have HS1:=hid (Bk hS1 hBW);have HS2:=hid (Bk hS2 hBW);have HBW:=hid hBW;have HM:=hid (And.intro hm1 (And.intro hm2 (And.intro hm3 hm4)));have HLE:=hid hlen;obtain⟨gx,hgx⟩:=X0 w.heap.size;rw[← hgx] at hk;have HK:=hid hk;have HWW:=hid hW;have c2:=A4 hk 2 _ rfl;have c3:=A4 hk 3 _ rfl;have c4:=A4 hk 4 _ rfl;have c5:=A4 hk 5 _ rfl;clear hi hz0 hz1 hz2 hS1 hS2 hm1 hm2 hm3 hm4 hBW hk hlen hr hW;go_enter Tryz.func68,Tryz.ntmps68;go_upto_region 1 with fail
 rw[← HWW.o,← hgx];clear hgx;go_upto_region 2 with fail
 go_wp2_with (at_builtin;first
  | (refine AK rfl _ _ 49 rfl W.heap.size 3 i0 (.int .i64 0) 1 8 Tryz.underlying49 HI.o.1 HI.o.2.1 HI.o.2.2.1 HI.o.2.2.2 rfl (by decide) (.slice none 0 0) 0 [] rfl (Wz _ _ _ _) pa m1 pc (pl.flatMap AT) rfl (by rw[Cg BD,HM.o.1]) HS1.o (by have:=HLE.o;unfold maxLen;omega) (by have:=HLE.o;omega) (Wc _) ?_;intro v4 W4 hown4 hg4;have hB4:Below W.heap.size W W4:=(VU _ W).grown hg4 (Wc _) (fun k hk=>by cases hk);have HK4:=hid (A5 hB4 HK.o);rw[WC,Wq] at hown4;have d2:=A4 HK4.o 2 _ rfl;have d3:=A4 HK4.o 3 _ rfl;have d4:=A4 HK4.o 4 _ rfl;have d5:=A4 HK4.o 5 _ rfl;have HO4:=hid hown4;have HB4:=hid hB4;have HS4:=hid (Bk HS2.o hB4);clear hown4 hg4 hB4 c2 c3 c4 c5)
  | (refine AK rfl _ _ 49 rfl W.heap.size 3 i0 (.int .i64 0) 1 8 Tryz.underlying49 HI.o.1 HI.o.2.1 HI.o.2.2.1 HI.o.2.2.2 rfl (by decide) v4 m1 (pl.flatMap AT) rfl HO4.o va m3 vc (vl.flatMap AT) rfl (by rw[Cg BD,HM.o.2.2.1]) HS4.o (by have:=HLE.o;unfold maxLen;omega) (by have:=HLE.o;omega) HB4.o.size ?_;intro v5 W5 hown5 hg5;rw[← WA] at hown5;obtain⟨a5,c5,rfl,hS5,hN5⟩:=EU BD (by rw[Wh,HM.o.1,HM.o.2.2.1]) hown5;have HS5:=hid hS5;have HN5:=hid hN5;have HB5:=hid (HB4.o.grown hg5 HB4.o.size (fun k hk=>(HO4.o.lt _ hk).1));clear hown5 hg5 hS5 hN5 d2 d3 d4 d5))
 go_ret;exact⟨a5,_,c5,rfl,rfl,HS5.o,A6 HBW.o HB5.o,HN5.o.mono HBW.o.size⟩
theorem EY(r:Rt)(w:World)(hr:CM w r)(hlen:r.pa.l.length+r.ov.l.length≤100000) :
 Calls Tryz.prog 68 #[.agg #[.string r.nm,.int .i64 r.sg,r.pa.v,r.po.v,r.ov.v,r.fl.v]] w fun e w'=>∃ a n c,e = .returned (.slice a n c)∧n=r.pa.l.length+r.ov.l.length∧B7 1 AT w' ⟨a,c,r.pa.l ++ r.ov.l⟩∧Below w.heap.size w w':=
 (LB r w hr hlen).mono (fun _ _ ⟨a,n,c,h1,h2,h3,h4,_⟩=>⟨a,n,c,h1,h2,h3,h4⟩)
theorem Je:(Tryz.prog.info? 71).map (fun i=>(i.zero,i.size,i.bytes))=some (some (.agg #[.int .i64 0,.bool false]),2,16):=by kernel_rfl
theorem Hi(r:Rt)(w:World)(hr:CM w r)(hlen:r.po.l.length+r.fl.l.length≤100000) :
 Calls Tryz.prog 70 #[.agg #[.string r.nm,.int .i64 r.sg,r.pa.v,r.po.v,r.ov.v,r.fl.v]] w fun e w'=>∃ a n c,e = .returned (.slice a n c)∧n=r.po.l.length+r.fl.l.length∧B7 2 CX w' ⟨a,c,r.po.l ++ r.fl.l⟩∧Below w.heap.size w w'∧Cn 2 w.heap.size w' a n:=by
 obtain⟨nm,sg,⟨pa,pc,pl⟩,⟨oa,oc,ol⟩,⟨va,vc,vl⟩,⟨fa,fc,fl⟩⟩:=r;have hS1:=Eh CA Jk hr.po;have hS2:=Eh CA Jk hr.fl;dsimp only at hS1 hS2 hlen ⊢;obtain⟨m1,hm1⟩:=WY pl.length;obtain⟨m2,hm2⟩:=WY ol.length;obtain⟨m3,hm3⟩:=WY vl.length;obtain⟨m4,hm4⟩:=WY fl.length;rw[Dm hm1,Dm hm2,Dm hm3,Dm hm4];rw[hm2,hm4] at hlen ⊢;obtain⟨i0,hi,hz0,hz1,hz2⟩:=info_parts Je;have HI:=hid (And.intro hi (And.intro hz0 (And.intro hz1 hz2)));obtain⟨W,hW⟩:=X0 (w.alloc (.cells #[.string nm,.int .i64 sg,.slice pa m1 pc,.slice oa m2 oc,.slice va m3 vc,.slice fa m4 fc] 52));have hBW:Below w.heap.size w W:=by rw[hW];exact Ac w _
 have hk:W.heap[w.heap.size]?=some (.cells #[.string nm,.int .i64 sg,.slice pa m1 pc,.slice oa m2 oc,.slice va m3 vc,.slice fa m4 fc] 52):=by rw[hW];exact Al w _ (VU _ _)
 have HS1:=hid (Bk hS1 hBW);have HS2:=hid (Bk hS2 hBW);have HBW:=hid hBW;have HM:=hid (And.intro hm1 (And.intro hm2 (And.intro hm3 hm4)));have HLE:=hid hlen;obtain⟨gx,hgx⟩:=X0 w.heap.size;rw[← hgx] at hk;have HK:=hid hk;have HWW:=hid hW;have c2:=A4 hk 2 _ rfl;have c3:=A4 hk 3 _ rfl;have c4:=A4 hk 4 _ rfl;have c5:=A4 hk 5 _ rfl;clear hi hz0 hz1 hz2 hS1 hS2 hm1 hm2 hm3 hm4 hBW hk hlen hr hW;go_enter Tryz.func70,Tryz.ntmps70;go_upto_region 1 with fail
 rw[← HWW.o,← hgx];clear hgx;go_upto_region 2 with fail
 go_wp2_with (at_builtin;first
  | (refine AK rfl _ _ 50 rfl W.heap.size 71 i0 (.agg #[.int .i64 0,.bool false]) 2 16 Tryz.underlying50 HI.o.1 HI.o.2.1 HI.o.2.2.1 HI.o.2.2.2 rfl (by decide) (.slice none 0 0) 0 [] rfl (Wz _ _ _ _) oa m2 oc (ol.flatMap CX) rfl (by rw[Cg CA,HM.o.2.1]) HS1.o (by have:=HLE.o;unfold maxLen;omega) (by have:=HLE.o;omega) (Wc _) ?_;intro v4 W4 hown4 hg4;have hB4:Below W.heap.size W W4:=(VU _ W).grown hg4 (Wc _) (fun k hk=>by cases hk);have HK4:=hid (A5 hB4 HK.o);rw[WC,Wq] at hown4;have d2:=A4 HK4.o 2 _ rfl;have d3:=A4 HK4.o 3 _ rfl;have d4:=A4 HK4.o 4 _ rfl;have d5:=A4 HK4.o 5 _ rfl;have HO4:=hid hown4;have HB4:=hid hB4;have HS4:=hid (Bk HS2.o hB4);clear hown4 hg4 hB4 c2 c3 c4 c5)
  | (refine AK rfl _ _ 50 rfl W.heap.size 71 i0 (.agg #[.int .i64 0,.bool false]) 2 16 Tryz.underlying50 HI.o.1 HI.o.2.1 HI.o.2.2.1 HI.o.2.2.2 rfl (by decide) v4 m2 (ol.flatMap CX) rfl HO4.o fa m4 fc (fl.flatMap CX) rfl (by rw[Cg CA,HM.o.2.2.2]) HS4.o (by have:=HLE.o;unfold maxLen;omega) (by have:=HLE.o;omega) HB4.o.size ?_;intro v5 W5 hown5 hg5;rw[← WA] at hown5;obtain⟨a5,c5,rfl,hS5,hN5⟩:=EU CA (by rw[Wh,HM.o.2.1,HM.o.2.2.2]) hown5;have HS5:=hid hS5;have HN5:=hid hN5;have HB5:=hid (HB4.o.grown hg5 HB4.o.size (fun k hk=>(HO4.o.lt _ hk).1));clear hown5 hg5 hS5 hN5 d2 d3 d4 d5))
 go_ret;exact⟨a5,_,c5,rfl,rfl,HS5.o,A6 HBW.o HB5.o,HN5.o.mono HBW.o.size⟩
theorem DY(r:Rt)(w:World)(hr:CM w r)(hlen:r.po.l.length+r.fl.l.length≤100000) :
 Calls Tryz.prog 70 #[.agg #[.string r.nm,.int .i64 r.sg,r.pa.v,r.po.v,r.ov.v,r.fl.v]] w fun e w'=>∃ a n c,e = .returned (.slice a n c)∧n=r.po.l.length+r.fl.l.length∧B7 2 CX w' ⟨a,c,r.po.l ++ r.fl.l⟩∧Below w.heap.size w w':=
 (Hi r w hr hlen).mono (fun _ _ ⟨a,n,c,h1,h2,h3,h4,_⟩=>⟨a,n,c,h1,h2,h3,h4⟩)
end
section
theorem OI(n:Nat)(hn:n≤100000)(w:World):Calls Tryz.prog 91 #[.slice none 0 0,.int .i64 (n:Int)] w fun e w'=>∃ v,e = .returned v∧w'.ownsRow w.heap.size 3 1 v 0 []∧Below w.heap.size w w':=by
 have h1:¬ ((n:Int)<0):=by omega
 have h2:wrap64 (n:Int)=(n:Int):=by unfold wrap64;omega
 by_cases h0:n=0
 ·subst h0;go_enter Tryz.func91,Tryz.ntmps91;go_wp2_with fail;go_ret;exact⟨_,rfl,Wz _ _ _ _,VU _ _⟩
 ·have h4:(n:Int)>0:=(by omega);have h5:(0:Int)<n:=(by omega);obtain⟨i0,hi,hz0,hz1,hz2⟩:=info_parts DU;have hrz:∀ ty,(Builtin.append_ #[49,3] ty #[.slice none 0 0,.int .i64 (n:Int)]).run Tryz.prog w = .ok (.slice (some ⟨w.heap.size,0,none⟩) (0+n) (grownCap w (0+n) 0 3)) (w.drew.alloc (.cells (([]:List Value).toArray ++ Builtin.zeroCells (.int .i64 0:Value).cells n ++ Builtin.zeroCells (.int .i64 0:Value).cells (grownCap w (0+n) 0 3 - (0+n))) 3)):=fun ty=>
   Lib.run_append_grow_zeros w 49 3 ty 3 i0 (.int .i64 0) .i64 .i64 Tryz.underlying49 Tryz.underlying3 hi hz0 none 0 0 [] (run_firstCells_none _ _ _ _ _) n (by omega) (by rw[hz1];decide) (by omega) (by omega) (by rw[hz2];omega) (growslice_fits (by omega) (by rw[hz2];omega))
  have hge:=grownCap_ge w (0+n) 0 3;have hcm:=grownCap_le_maxLen w (0+n) 0 3 (by unfold maxLen;omega);obtain⟨G,hG⟩:=X0 (grownCap w (0+n) 0 3);rw[← hG] at hrz hge hcm;rw[Wq] at hrz hge;obtain⟨Z,hZ⟩:=X0 (([]:List Value).toArray ++ Builtin.zeroCells (.int .i64 0:Value).cells n ++ Builtin.zeroCells (.int .i64 0:Value).cells (G - n));rw[← hZ] at hrz;have hs:Z.size=G*1:=by
   rw[hZ,Array.size_append,Array.size_append,size_zeroCells,size_zeroCells];show 0+n*1+(G - n)*1=G*1;omega
  have hG63:G≤9223372036854775807:=(by unfold maxLen at hcm;exact hcm);have g1:(0:Int)≤G:=(by omega);have HE:Hid ((w.drew.alloc (.cells Z 3)).ownsRow w.heap.size 3 1 (.slice (some ⟨w.heap.size,0,none⟩) 0 G) 0 []∧Below w.heap.size w (w.drew.alloc (.cells Z 3))):=hid ⟨⟨rfl,.inr ⟨w.heap.size,G,Z,rfl,Wc _,Al w.drew _ (VU _ _),Nat.zero_le _,hcm,hs,by simp⟩⟩,(VU _ w).drew.alloc (Wc _) _⟩;clear hi hz0 hz1 hz2 hG hZ hs hcm h0;go_enter Tryz.func91,Tryz.ntmps91;go_wp2_with (at_builtin;refine Lib.wpList_append_run _ rfl _ _ _ _ rfl _ _ rfl rfl _ _ (hrz _) ?_);go_ret;exact⟨_,rfl,HE.o.1,HE.o.2⟩
theorem R0(n:Nat)(hn:n≤100000)(w:World):Calls Tryz.prog 92 #[.slice none 0 0,.int .i64 (n:Int)] w fun e w'=>∃ v,e = .returned v∧w'.ownsRow w.heap.size 71 2 v 0 []∧Below w.heap.size w w':=by
 have h1:¬ ((n:Int)<0):=by omega
 have h2:wrap64 (n:Int)=(n:Int):=by unfold wrap64;omega
 by_cases h0:n=0
 ·subst h0;go_enter Tryz.func92,Tryz.ntmps92;go_wp2_with fail;go_ret;exact⟨_,rfl,Wz _ _ _ _,VU _ _⟩
 ·have h4:(n:Int)>0:=(by omega);have h5:(0:Int)<n:=(by omega);obtain⟨i0,hi,hz0,hz1,hz2⟩:=info_parts Je;have hrz:∀ ty,(Builtin.append_ #[50,3] ty #[.slice none 0 0,.int .i64 (n:Int)]).run Tryz.prog w = .ok (.slice (some ⟨w.heap.size,0,none⟩) (0+n) (grownCap w (0+n) 0 71)) (w.drew.alloc (.cells (([]:List Value).toArray ++ Builtin.zeroCells (.agg #[.int .i64 0,.bool false]:Value).cells n ++ Builtin.zeroCells (.agg #[.int .i64 0,.bool false]:Value).cells (grownCap w (0+n) 0 71 - (0+n))) 71)):=fun ty=>
   Lib.run_append_grow_zeros w 50 3 ty 71 i0 (.agg #[.int .i64 0,.bool false]) .i64 .i64 Tryz.underlying50 Tryz.underlying3 hi hz0 none 0 0 [] (run_firstCells_none _ _ _ _ _) n (by omega) (by rw[hz1];decide) (by omega) (by omega) (by rw[hz2];omega) (growslice_fits (by omega) (by rw[hz2];omega))
  have hge:=grownCap_ge w (0+n) 0 71;have hcm:=grownCap_le_maxLen w (0+n) 0 71 (by unfold maxLen;omega);obtain⟨G,hG⟩:=X0 (grownCap w (0+n) 0 71);rw[← hG] at hrz hge hcm;rw[Wq] at hrz hge;obtain⟨Z,hZ⟩:=X0 (([]:List Value).toArray ++ Builtin.zeroCells (.agg #[.int .i64 0,.bool false]:Value).cells n ++ Builtin.zeroCells (.agg #[.int .i64 0,.bool false]:Value).cells (G - n));rw[← hZ] at hrz;have hs:Z.size=G*2:=by
   rw[hZ,Array.size_append,Array.size_append,size_zeroCells,size_zeroCells];show 0+n*2+(G - n)*2=G*2;omega
  have hG63:G≤9223372036854775807:=(by unfold maxLen at hcm;exact hcm);have g1:(0:Int)≤G:=(by omega);have HE:Hid ((w.drew.alloc (.cells Z 71)).ownsRow w.heap.size 71 2 (.slice (some ⟨w.heap.size,0,none⟩) 0 G) 0 []∧Below w.heap.size w (w.drew.alloc (.cells Z 71))):=hid ⟨⟨rfl,.inr ⟨w.heap.size,G,Z,rfl,Wc _,Al w.drew _ (VU _ _),Nat.zero_le _,hcm,hs,by simp⟩⟩,(VU _ w).drew.alloc (Wc _) _⟩;clear hi hz0 hz1 hz2 hG hZ hs hcm h0;go_enter Tryz.func92,Tryz.ntmps92;go_wp2_with (at_builtin;refine Lib.wpList_append_run _ rfl _ _ _ _ rfl _ _ rfl rfl _ _ (hrz _) ?_);go_ret;exact⟨_,rfl,HE.o.1,HE.o.2⟩
end
section
theorem K2(g:Nat)(t:TypeId)(fr:Nat × Nat)(a1 a2:Option Addr)(m1 c1 m2 c2:Nat)(l1 l2:List Int)(w:World)(hg:w.heap[g]?=some (.cells #[.slice a1 m1 c1,.slice a2 m2 c2] t fr))(hS1:C1 w a1 c1 (l1.flatMap AT))(hS2:C1 w a2 c2 (l2.flatMap AT))(hl1:l1.length=m1)(hl2:l2.length=m2)(hle:m1+m2≤100000) :
 Calls Tryz.prog 50 #[.slice (some ⟨g,0,none⟩) 2 2] w fun e w'=>∃ a n c,e = .returned (.slice a n c)∧n=m1+m2∧B7 1 AT w' ⟨a,c,l1 ++ l2⟩∧Below w.heap.size w w'∧Cn 1 w.heap.size w' a n:=by
 have HG:=hid hg;have HS1:=hid hS1;have HS2:=hid hS2;have HL:=hid (And.intro hl1 hl2);have HLE:=hid hle;obtain⟨i0,hi,hz0,hz1,hz2⟩:=info_parts DU;have HI:=hid (And.intro hi (And.intro hz0 (And.intro hz1 hz2)));have x0:=A4 hg 0 _ rfl;have x1:=A4 hg 1 _ rfl;have e1:wrap64 (m1:Int)=m1:=by unfold wrap64;omega
 have e2:wrap64 ((m1:Int)+(m2:Int))=(m1:Int)+(m2:Int):=by unfold wrap64;omega
 have n1:¬ (m1:Int)<0:=by omega
 have n2:¬ (m1:Int)+(m2:Int)<0:=by omega
 have p1:(0:Int)≤(m1:Int):=by omega
 have p2:(0:Int)≤(m1:Int)+(m2:Int):=by omega
 clear hi hz0 hz1 hz2 hS1 hS2 hl1 hl2 hle hg;go_enter Tryz.func50,Tryz.ntmps50;go_wp2_with fail;go_loopg [3,5,11] 2 (fun q s _ i wr=>(q=2∧i = .int .i64 0∧s = .int .i64 0∧w=wr)∨(q=1∧i = .int .i64 1∧s = .int .i64 (m1:Int)∧w=wr)∨(q=0∧i = .int .i64 2∧s = .int .i64 ((m1:Int)+(m2:Int))∧w=wr))
 case atStart=>exact .inl ⟨rfl,rfl,rfl,rfl⟩
 case round=>
  rcases hrel with ⟨rfl,rfl,rfl,rfl⟩ | ⟨rfl,rfl,rfl,rfl⟩ | ⟨rfl,rfl,rfl,rfl⟩
  ·go_wp2_with fail;go_roundg 1
   case rel=>exact .inr (.inl ⟨rfl,by go_num,by first | rfl | go_num | simp[e1],rfl⟩)
   case measure=>omega
  ·go_wp2_with fail;go_roundg 0
   case rel=>exact .inr (.inr ⟨rfl,by go_num,by first | rfl | go_num | simp[e2],rfl⟩)
   case measure=>omega
  ·go_wp2_with fail;have hgr:=OI (m1+m2) HLE.o w;rw[Int.natCast_add] at hgr;refine hgr.mono ?_;rintro e w1 ⟨v0,rfl,hO,hb⟩;have HO:=hid hO;have HB:=hid hb;clear hgr hO hb x0 x1 n1 n2 p1 p2 e1 e2;have x0:=A4 (A5 HB.o HG.o) 0 _ rfl;have x1:=A4 (A5 HB.o HG.o) 1 _ rfl;go_wp2_with fail;clear x0 x1;go_loopg [6,8,27] 2 (fun q v _ i wr=>(q=2∧i = .int .i64 0∧wr.ownsRow w.heap.size 3 1 v 0 []∧Below w.heap.size w wr)∨(q=1∧i = .int .i64 1∧wr.ownsRow w.heap.size 3 1 v m1 (l1.flatMap AT)∧Below w.heap.size w wr)∨(q=0∧i = .int .i64 2∧wr.ownsRow w.heap.size 3 1 v (m1+m2) ((l1 ++ l2).flatMap AT)∧Below w.heap.size w wr))
   case atStart=>exact .inl ⟨rfl,rfl,HO.o,HB.o⟩
   case round=>
    clear HO HB;rcases hrel with ⟨rfl,rfl,hO,hb⟩ | ⟨rfl,rfl,hO,hb⟩ | ⟨rfl,rfl,hO,hb⟩
    ·have HO:=hid hO;have HB:=hid hb;have HSS:=hid (Bk HS1.o hb);have x0:=A4 (A5 hb HG.o) 0 _ rfl;have x1:=A4 (A5 hb HG.o) 1 _ rfl;clear hO hb;go_wp2_with (at_builtin;refine AK rfl _ _ 49 rfl w.heap.size 3 i0 (.int .i64 0) 1 8 Tryz.underlying49 HI.o.1 HI.o.2.1 HI.o.2.2.1 HI.o.2.2.2 rfl (by decide) _ 0 [] rfl HO.o a1 m1 c1 (l1.flatMap AT) rfl (by rw[Cg BD,HL.o.1]) HSS.o (by have:=HLE.o;unfold maxLen;omega) (by have:=HLE.o;omega) HB.o.size ?_;intro v5 W5 hown5 hg5);have hB5:=HB.o.grown hg5 HB.o.size (fun k hk=>(HO.o.lt _ hk).1);rw[WC,Wq] at hown5;go_roundg 1
     case rel=>exact .inr (.inl ⟨rfl,by go_num,hown5,hB5⟩)
     case measure=>omega
    ·have HO:=hid hO;have HB:=hid hb;have HSS:=hid (Bk HS2.o hb);have x0:=A4 (A5 hb HG.o) 0 _ rfl;have x1:=A4 (A5 hb HG.o) 1 _ rfl;clear hO hb;go_wp2_with (at_builtin;refine AK rfl _ _ 49 rfl w.heap.size 3 i0 (.int .i64 0) 1 8 Tryz.underlying49 HI.o.1 HI.o.2.1 HI.o.2.2.1 HI.o.2.2.2 rfl (by decide) _ m1 (l1.flatMap AT) rfl HO.o a2 m2 c2 (l2.flatMap AT) rfl (by rw[Cg BD,HL.o.2]) HSS.o (by have:=HLE.o;unfold maxLen;omega) (by have:=HLE.o;omega) HB.o.size ?_;intro v5 W5 hown5 hg5);have hB5:=HB.o.grown hg5 HB.o.size (fun k hk=>(HO.o.lt _ hk).1);rw[← WA] at hown5;go_roundg 0
     case rel=>exact .inr (.inr ⟨rfl,by go_num,hown5,hB5⟩)
     case measure=>omega
    ·obtain⟨a5,c5,rfl,hS5,hN5⟩:=EU BD (by rw[Wh,HL.o.1,HL.o.2]) hO;have HS5:=hid hS5;have HN5:=hid hN5;have HB:=hid hb;clear hO hb hS5 hN5;go_wp2_with fail;go_ret;exact⟨a5,_,c5,rfl,rfl,HS5.o,HB.o,HN5.o⟩
theorem Le(g:Nat)(t:TypeId)(fr:Nat × Nat)(a1 a2:Option Addr)(m1 c1 m2 c2:Nat)(l1 l2:List (Int × Bool))(w:World)(hg:w.heap[g]?=some (.cells #[.slice a1 m1 c1,.slice a2 m2 c2] t fr))(hS1:C1 w a1 c1 (l1.flatMap CX))(hS2:C1 w a2 c2 (l2.flatMap CX))(hl1:l1.length=m1)(hl2:l2.length=m2)(hle:m1+m2≤100000) :
 Calls Tryz.prog 51 #[.slice (some ⟨g,0,none⟩) 2 2] w fun e w'=>∃ a n c,e = .returned (.slice a n c)∧n=m1+m2∧B7 2 CX w' ⟨a,c,l1 ++ l2⟩∧Below w.heap.size w w'∧Cn 2 w.heap.size w' a n:=by
 have HG:=hid hg;have HS1:=hid hS1;have HS2:=hid hS2;have HL:=hid (And.intro hl1 hl2);have HLE:=hid hle;obtain⟨i0,hi,hz0,hz1,hz2⟩:=info_parts Je;have HI:=hid (And.intro hi (And.intro hz0 (And.intro hz1 hz2)));have x0:=A4 hg 0 _ rfl;have x1:=A4 hg 1 _ rfl;have e1:wrap64 (m1:Int)=m1:=by unfold wrap64;omega
 have e2:wrap64 ((m1:Int)+(m2:Int))=(m1:Int)+(m2:Int):=by unfold wrap64;omega
 have n1:¬ (m1:Int)<0:=by omega
 have n2:¬ (m1:Int)+(m2:Int)<0:=by omega
 have p1:(0:Int)≤(m1:Int):=by omega
 have p2:(0:Int)≤(m1:Int)+(m2:Int):=by omega
 clear hi hz0 hz1 hz2 hS1 hS2 hl1 hl2 hle hg;go_enter Tryz.func51,Tryz.ntmps51;go_wp2_with fail;go_loopg [3,5,11] 2 (fun q s _ i wr=>(q=2∧i = .int .i64 0∧s = .int .i64 0∧w=wr)∨(q=1∧i = .int .i64 1∧s = .int .i64 (m1:Int)∧w=wr)∨(q=0∧i = .int .i64 2∧s = .int .i64 ((m1:Int)+(m2:Int))∧w=wr))
 case atStart=>exact .inl ⟨rfl,rfl,rfl,rfl⟩
 case round=>
  rcases hrel with ⟨rfl,rfl,rfl,rfl⟩ | ⟨rfl,rfl,rfl,rfl⟩ | ⟨rfl,rfl,rfl,rfl⟩
  ·go_wp2_with fail;go_roundg 1
   case rel=>exact .inr (.inl ⟨rfl,by go_num,by first | rfl | go_num | simp[e1],rfl⟩)
   case measure=>omega
  ·go_wp2_with fail;go_roundg 0
   case rel=>exact .inr (.inr ⟨rfl,by go_num,by first | rfl | go_num | simp[e2],rfl⟩)
   case measure=>omega
  ·go_wp2_with fail;have hgr:=R0 (m1+m2) HLE.o w;rw[Int.natCast_add] at hgr;refine hgr.mono ?_;rintro e w1 ⟨v0,rfl,hO,hb⟩;have HO:=hid hO;have HB:=hid hb;clear hgr hO hb x0 x1 n1 n2 p1 p2 e1 e2;have x0:=A4 (A5 HB.o HG.o) 0 _ rfl;have x1:=A4 (A5 HB.o HG.o) 1 _ rfl;go_wp2_with fail;clear x0 x1;go_loopg [6,8,27] 2 (fun q v _ i wr=>(q=2∧i = .int .i64 0∧wr.ownsRow w.heap.size 71 2 v 0 []∧Below w.heap.size w wr)∨(q=1∧i = .int .i64 1∧wr.ownsRow w.heap.size 71 2 v m1 (l1.flatMap CX)∧Below w.heap.size w wr)∨(q=0∧i = .int .i64 2∧wr.ownsRow w.heap.size 71 2 v (m1+m2) ((l1 ++ l2).flatMap CX)∧Below w.heap.size w wr))
   case atStart=>exact .inl ⟨rfl,rfl,HO.o,HB.o⟩
   case round=>
    clear HO HB;rcases hrel with ⟨rfl,rfl,hO,hb⟩ | ⟨rfl,rfl,hO,hb⟩ | ⟨rfl,rfl,hO,hb⟩
    ·have HO:=hid hO;have HB:=hid hb;have HSS:=hid (Bk HS1.o hb);have x0:=A4 (A5 hb HG.o) 0 _ rfl;have x1:=A4 (A5 hb HG.o) 1 _ rfl;clear hO hb;go_wp2_with (at_builtin;refine AK rfl _ _ 50 rfl w.heap.size 71 i0 (.agg #[.int .i64 0,.bool false]) 2 16 Tryz.underlying50 HI.o.1 HI.o.2.1 HI.o.2.2.1 HI.o.2.2.2 rfl (by decide) _ 0 [] rfl HO.o a1 m1 c1 (l1.flatMap CX) rfl (by rw[Cg CA,HL.o.1]) HSS.o (by have:=HLE.o;unfold maxLen;omega) (by have:=HLE.o;omega) HB.o.size ?_;intro v5 W5 hown5 hg5);have hB5:=HB.o.grown hg5 HB.o.size (fun k hk=>(HO.o.lt _ hk).1);rw[WC,Wq] at hown5;go_roundg 1
     case rel=>exact .inr (.inl ⟨rfl,by go_num,hown5,hB5⟩)
     case measure=>omega
    ·have HO:=hid hO;have HB:=hid hb;have HSS:=hid (Bk HS2.o hb);have x0:=A4 (A5 hb HG.o) 0 _ rfl;have x1:=A4 (A5 hb HG.o) 1 _ rfl;clear hO hb;go_wp2_with (at_builtin;refine AK rfl _ _ 50 rfl w.heap.size 71 i0 (.agg #[.int .i64 0,.bool false]) 2 16 Tryz.underlying50 HI.o.1 HI.o.2.1 HI.o.2.2.1 HI.o.2.2.2 rfl (by decide) _ m1 (l1.flatMap CX) rfl HO.o a2 m2 c2 (l2.flatMap CX) rfl (by rw[Cg CA,HL.o.2]) HSS.o (by have:=HLE.o;unfold maxLen;omega) (by have:=HLE.o;omega) HB.o.size ?_;intro v5 W5 hown5 hg5);have hB5:=HB.o.grown hg5 HB.o.size (fun k hk=>(HO.o.lt _ hk).1);rw[← WA] at hown5;go_roundg 0
     case rel=>exact .inr (.inr ⟨rfl,by go_num,hown5,hB5⟩)
     case measure=>omega
    ·obtain⟨a5,c5,rfl,hS5,hN5⟩:=EU CA (by rw[Wh,HL.o.1,HL.o.2]) hO;have HS5:=hid hS5;have HN5:=hid hN5;have HB:=hid hb;clear hO hb hS5 hN5;go_wp2_with fail;go_ret;exact⟨a5,_,c5,rfl,rfl,HS5.o,HB.o,HN5.o⟩
end
section
theorem IJ(r:Rt)(w:World)(hr:CM w r)(hlen:r.pa.l.length+r.ov.l.length≤100000) :
 Calls Tryz.prog 29 #[.agg #[.string r.nm,.int .i64 r.sg,r.pa.v,r.po.v,r.ov.v,r.fl.v]] w fun e w'=>∃ a n c,e = .returned (.slice a n c)∧n=r.pa.l.length+r.ov.l.length∧B7 1 AT w' ⟨a,c,r.pa.l ++ r.ov.l⟩∧Below w.heap.size w w'∧Cn 1 w.heap.size w' a n:=by
 obtain⟨nm,sg,⟨pa,pc,pl⟩,⟨oa,oc,ol⟩,⟨va,vc,vl⟩,⟨fa,fc,fl⟩⟩:=r;have hS1:=Eh BD Gq hr.pa;have hS2:=Eh BD Gq hr.ov;dsimp only at hS1 hS2 hlen ⊢;obtain⟨m1,hm1⟩:=WY pl.length;obtain⟨m2,hm2⟩:=WY ol.length;obtain⟨m3,hm3⟩:=WY vl.length;obtain⟨m4,hm4⟩:=WY fl.length;rw[Dm hm1,Dm hm2,Dm hm3,Dm hm4];rw[hm1,hm3] at hlen ⊢;have HM:=hid (And.intro hm1 (And.intro hm2 (And.intro hm3 hm4)));have HC:Hid (∀(g:Nat) (W:World),W.heap[g]?=some (.cells #[.slice pa m1 pc,.slice va m3 vc] 49)→Below w.heap.size w W→Calls Tryz.prog 50 #[.slice (some ⟨g,0,none⟩) 2 2] W fun e w'=>∃ a n c,e = .returned (.slice a n c)∧n=m1+m3∧B7 1 AT w' ⟨a,c,pl ++ vl⟩∧Below w.heap.size w w'∧Cn 1 w.heap.size w' a n):=hid (fun g W hg hb=>(K2 g 49 (0,0) pa va m1 pc m3 vc pl vl W hg (Bk hS1 hb) (Bk hS2 hb) hm1 hm3 hlen).mono (fun e w9 ⟨a,n,c,h1,h2,h3,h4,h5⟩=>⟨a,n,c,h1,h2,h3,A6 hb h4,h5.mono hb.size⟩));clear hS1 hS2 hm1 hm2 hm3 hm4 hlen hr;go_enter Tryz.func29,Tryz.ntmps29;go_wp2_with fail;refine(HC.o _ _ (DA w _ _).2 (Cb w _ _)).mono ?_;rintro e w9 ⟨a,n,c,rfl,hn,hS,hb,hN⟩;have HN:=hid hn;have HS:=hid hS;have HNR:=hid hN;have HB:=hid hb;clear hn hS hb hN;go_wp2_with fail;go_ret;exact⟨a,n,c,rfl,HN.o,HS.o,HB.o,HNR.o⟩
theorem Hu(r:Rt)(w:World)(hr:CM w r)(hlen:r.pa.l.length+r.ov.l.length≤100000) :
 Calls Tryz.prog 29 #[.agg #[.string r.nm,.int .i64 r.sg,r.pa.v,r.po.v,r.ov.v,r.fl.v]] w fun e w'=>∃ a n c,e = .returned (.slice a n c)∧n=r.pa.l.length+r.ov.l.length∧B7 1 AT w' ⟨a,c,r.pa.l ++ r.ov.l⟩∧Below w.heap.size w w':=
 (IJ r w hr hlen).mono (fun _ _ ⟨a,n,c,h1,h2,h3,h4,_⟩=>⟨a,n,c,h1,h2,h3,h4⟩)
theorem Io(r:Rt)(w:World)(hr:CM w r)(hlen:r.po.l.length+r.fl.l.length≤100000) :
 Calls Tryz.prog 30 #[.agg #[.string r.nm,.int .i64 r.sg,r.pa.v,r.po.v,r.ov.v,r.fl.v]] w fun e w'=>∃ a n c,e = .returned (.slice a n c)∧n=r.po.l.length+r.fl.l.length∧B7 2 CX w' ⟨a,c,r.po.l ++ r.fl.l⟩∧Below w.heap.size w w'∧Cn 2 w.heap.size w' a n:=by
 obtain⟨nm,sg,⟨pa,pc,pl⟩,⟨oa,oc,ol⟩,⟨va,vc,vl⟩,⟨fa,fc,fl⟩⟩:=r;have hS1:=Eh CA Jk hr.po;have hS2:=Eh CA Jk hr.fl;dsimp only at hS1 hS2 hlen ⊢;obtain⟨m1,hm1⟩:=WY pl.length;obtain⟨m2,hm2⟩:=WY ol.length;obtain⟨m3,hm3⟩:=WY vl.length;obtain⟨m4,hm4⟩:=WY fl.length;rw[Dm hm1,Dm hm2,Dm hm3,Dm hm4];rw[hm2,hm4] at hlen ⊢;have HM:=hid (And.intro hm1 (And.intro hm2 (And.intro hm3 hm4)));have HC:Hid (∀(g:Nat) (W:World),W.heap[g]?=some (.cells #[.slice oa m2 oc,.slice fa m4 fc] 50)→Below w.heap.size w W→Calls Tryz.prog 51 #[.slice (some ⟨g,0,none⟩) 2 2] W fun e w'=>∃ a n c,e = .returned (.slice a n c)∧n=m2+m4∧B7 2 CX w' ⟨a,c,ol ++ fl⟩∧Below w.heap.size w w'∧Cn 2 w.heap.size w' a n):=hid (fun g W hg hb=>(Le g 50 (0,0) oa fa m2 oc m4 fc ol fl W hg (Bk hS1 hb) (Bk hS2 hb) hm2 hm4 hlen).mono (fun e w9 ⟨a,n,c,h1,h2,h3,h4,h5⟩=>⟨a,n,c,h1,h2,h3,A6 hb h4,h5.mono hb.size⟩));clear hS1 hS2 hm1 hm2 hm3 hm4 hlen hr;go_enter Tryz.func30,Tryz.ntmps30;go_wp2_with fail;refine(HC.o _ _ (DA w _ _).2 (Cb w _ _)).mono ?_;rintro e w9 ⟨a,n,c,rfl,hn,hS,hb,hN⟩;have HN:=hid hn;have HS:=hid hS;have HNR:=hid hN;have HB:=hid hb;clear hn hS hb hN;go_wp2_with fail;go_ret;exact⟨a,n,c,rfl,HN.o,HS.o,HB.o,HNR.o⟩
theorem Ko(r:Rt)(w:World)(hr:CM w r)(hlen:r.po.l.length+r.fl.l.length≤100000) :
 Calls Tryz.prog 30 #[.agg #[.string r.nm,.int .i64 r.sg,r.pa.v,r.po.v,r.ov.v,r.fl.v]] w fun e w'=>∃ a n c,e = .returned (.slice a n c)∧n=r.po.l.length+r.fl.l.length∧B7 2 CX w' ⟨a,c,r.po.l ++ r.fl.l⟩∧Below w.heap.size w w':=
 (Io r w hr hlen).mono (fun _ _ ⟨a,n,c,h1,h2,h3,h4,_⟩=>⟨a,n,c,h1,h2,h3,h4⟩)
end
section
theorem R5(gp:Nat)(pt:Int)(t:TypeId)(fr:Nat × Nat)(n:Int × Bool)(w:World)(h:w.heap[gp]?=some (.cells #[.int .i64 pt] t fr)) :
 Calls Tryz.prog 106 #[.agg #[.int .i64 n.1,.bool n.2],.pointer (some ⟨gp,0,none⟩)] w fun e w'=>e = .returned (.bool (decide (n.1=pt)))∧Below w.heap.size w w':=by
 have c0:=A4 h 0 _ rfl;have hlt:=Aj h;clear h;by_cases hp:n.1=pt
 ·have q1:(n.1 == pt)=true:=(by simpa using hp);have HP:=hid hp;clear hp;go_enter Tryz.func106,Tryz.ntmps106;go_wp2_with fail;go_ret;refine⟨?_,Ac _ _⟩;rw[Wk HP.o];first | rfl | (show Ending.returned (.bool (n.1 == pt))=_;rw[q1]) | (show Ending.returned (.bool (decide (n.1=pt)))=_;rw[Wk HP.o])
 ·have q1:(n.1 == pt)=false:=(by simpa using hp);have HP:=hid hp;clear hp;go_enter Tryz.func106,Tryz.ntmps106;go_wp2_with fail;go_ret;refine⟨?_,Ac _ _⟩;rw[Wg HP.o];first | rfl | (show Ending.returned (.bool (n.1 == pt))=_;rw[q1]) | (show Ending.returned (.bool (decide (n.1=pt)))=_;rw[Wg HP.o])
def BU{α:Type}(p:α→Bool):Nat→List α→Int
 | _,[]=>-1
 | k,y :: t=>if p y then (k:Int) else BU p (k+1) t
theorem DF{α:Type}(p:α→Bool):∀(l:List α) (k:Nat),(0≤BU p k l∧l.any p=true)∨(BU p k l<0∧l.any p=false):=by
 intro l
 induction l with
 | nil=>intro k;exact .inr ⟨by unfold BU;decide,rfl⟩
 | cons y l ih=>
   intro k;cases h:p y with
   | true=>exact .inl ⟨by unfold BU;rw[if_pos h];omega,by simp[h]⟩
   | false=>
     have e1:BU p k (y :: l)=BU p (k+1) l:=by
      show(if p y then (k:Int) else BU p (k+1) l)=_;rw[if_neg (by rw[h];decide)]
     have e2:(y :: l).any p=l.any p:=(by simp[h]);rw[e1,e2];exact ih (k+1)
theorem CE{α:Type}{p:α→Bool}{l:List α}{y:α}{k:Nat}(h:l[k]?=some y):BU p k (l.drop k)=if p y then (k:Int) else BU p (k+1) (l.drop (k+1)):=by
 have hk:k<l.length:=(We.1 h).1;rw[List.drop_eq_getElem_cons hk,(We.1 h).2];rfl
theorem Dk{α:Type}{p:α→Bool}{l:List α}{k:Nat}(h:l.length=k):BU p k (l.drop k) = -1:=by rw[List.drop_eq_nil_of_le (by omega)];rfl
attribute [local irreducible] BU
theorem Rf(gp:Nat)(p:Int × Bool→Bool)(x:Option Addr)(m c:Nat)(l:List (Int × Bool))(w:World)(hn:l.length=m)(hm:m≤9223372036854775807)(hl:As 2 CX w x l)
 (hp:∀ W,Below w.heap.size w W→∀ n,Calls Tryz.prog 106 #[.agg #[.int .i64 n.1,.bool n.2],.pointer (some ⟨gp,0,none⟩)] W fun e w'=>e = .returned (.bool (p n))∧Below W.heap.size W w') :
 Calls Tryz.prog 97 #[.slice x m c,.func (.func 106) #[] #[.pointer (some ⟨gp,0,none⟩)]] w fun e w'=>e = .returned (.int .i64 (BU p 0 l))∧Below w.heap.size w w':=by
 have HN:=hid hn;have HP:=hid hp;have HR:=hid hl;clear hn hp hl;go_enter Tryz.func97,Tryz.ntmps97;go_wp2_with fail;go_loopg [5,8] m (fun g _ i wr=>∃ k:Nat,k+g=m∧i = .int .i64 (k:Int)∧BU p k (l.drop k)=BU p 0 l∧Below w.heap.size w wr)
 case atStart=>exact⟨0,by omega,rfl,rfl,VU _ _⟩
 case round=>
  obtain⟨k,hk,rfl,hb,hbw⟩:=hrel;have HB:=hid hb;have HBW:=hid hbw;clear hb hbw;by_cases hlt:k<m
  ·obtain⟨y,hy⟩:∃ y,l[k]?=some y:=⟨_,Wb (by rw[HN.o];exact hlt)⟩;rcases HR.o.below HBW.o with hnil | ⟨b,off,rfl,hc⟩
   ·rw[hnil] at hy;simp at hy
   have z0:=hc k _ hy 0 _ rfl;have z1:=hc k _ hy 1 _ rfl;rw[Wa] at z0;have hd:=CE (p:=p) hy;have d1:(0:Int)≤k:=(by omega);have d2:(k:Int)<m:=(by omega);have e1:wrap64 ((k:Int)+1)=(k:Int)+1:=(by unfold wrap64;omega);have HK:=hid hk;have hcall:=HP.o wr HBW.o y;obtain⟨D,hD⟩:=WY (p y);rw[hD] at hcall hd;have HC:=hid hcall;clear hc hy hk hcall hD;cases D with
   | true=>
     have HF:Hid (BU p 0 l=k):=hid (HB.o.symm.trans (by rw[hd,if_pos rfl]));clear hd;go_wp2_with fail;refine HC.o.mono ?_;rintro e w5 ⟨rfl,hb5⟩;have HB5:=hid (A6 HBW.o hb5);clear hb5;go_wp2_with fail;go_ret;exact⟨by rw[HF.o];rfl,HB5.o⟩
   | false=>
     have HT:Hid (BU p (k+1) (l.drop (k+1))=BU p 0 l):=hid (Eq.trans (by rw[hd,if_neg (by decide)]) HB.o);clear hd;go_wp2_with fail;refine HC.o.mono ?_;rintro e w5 ⟨rfl,hb5⟩;have HB5:=hid (A6 HBW.o hb5);clear hb5;go_wp2_with fail;go_roundg (m - (k+1))
     case rel=>exact⟨k+1,by have:=HK.o;omega,by go_num,HT.o,HB5.o⟩
     case measure=>have:=HK.o;omega
  ·have hkm:m=k:=(by omega);subst hkm;have HF:Hid (BU p 0 l = -1):=hid (HB.o.symm.trans (Dk HN.o));go_wp2_with fail;go_ret;exact⟨by rw[HF.o];rfl,HBW.o⟩
end
section
attribute [local irreducible] BU
theorem I3(b:Bool)(gp:Nat)(p:Int × Bool→Bool)(x:Option Addr)(m c:Nat)(l:List (Int × Bool))(w:World)(hb:l.any p=b)(hn:l.length=m)(hm:m≤9223372036854775807)(hl:As 2 CX w x l)
 (hp:∀ W,Below w.heap.size w W→∀ n,Calls Tryz.prog 106 #[.agg #[.int .i64 n.1,.bool n.2],.pointer (some ⟨gp,0,none⟩)] W fun e w'=>e = .returned (.bool (p n))∧Below W.heap.size W w') :
 Calls Tryz.prog 60 #[.slice x m c,.func (.func 106) #[] #[.pointer (some ⟨gp,0,none⟩)]] w fun e w'=>e = .returned (.bool b)∧Below w.heap.size w w':=by
 have hc:=Rf gp p x m c l w hn hm hl hp;have hi:=DF p l 0;obtain⟨z,hz⟩:=WY (BU p 0 l);rw[hz,hb] at hi;rw[hz] at hc;have HC:=hid hc;clear hz hb hn hm hl hp hc;rcases hi with ⟨h1,rfl⟩ | ⟨h1,rfl⟩
 ·go_enter Tryz.func60,Tryz.ntmps60;go_wp2_with fail;refine HC.o.mono ?_;rintro e w1 ⟨rfl,hb1⟩;have HB:=hid hb1;clear hb1;go_wp2_with fail;go_ret;exact⟨rfl,HB.o⟩
 ·have h2:¬ 0≤z:=(by omega);go_enter Tryz.func60,Tryz.ntmps60;go_wp2_with fail;refine HC.o.mono ?_;rintro e w1 ⟨rfl,hb1⟩;have HB:=hid hb1;clear hb1;go_wp2_with fail;go_ret;exact⟨by show Ending.returned (.bool (decide (0≤z)))=_;rw[Wg (by omega)],HB.o⟩
theorem Tu(b:Bool)(pt:Int)(x:Option Addr)(m c:Nat)(l:List (Int × Bool))(w:World)(hb:(l.any fun n=>decide (n.1=pt))=b)(hn:l.length=m)(hm:m≤9223372036854775807)(hl:As 2 CX w x l) :
 Calls Tryz.prog 90 #[.slice x m c,.int .i64 pt] w fun e w'=>e = .returned (.bool b)∧Below w.heap.size w w':=by
 have hB1:=Ac w (.cells #[.int .i64 pt] 3);have hg:=Al w (.cells #[.int .i64 pt] 3) (VU _ _);have HC:=hid (I3 b w.heap.size (fun n=>decide (n.1=pt)) x m c l (w.alloc (.cells #[.int .i64 pt] 3)) hb hn hm (hl.below hB1) (fun W hW n=>R5 w.heap.size pt 3 (0,0) n W (A5 hW hg)));have HB:=hid hB1;clear hb hn hm hl hB1 hg;go_enter Tryz.func90,Tryz.ntmps90;go_wp2_with fail;refine HC.o.mono ?_;rintro e w1 ⟨rfl,hb1⟩;have HB1:=hid (A6 HB.o hb1);clear hb1;go_wp2_with fail;go_ret;exact⟨rfl,HB1.o⟩
end
section
attribute [local irreducible] BU
theorem Mj(y:Int)(w:World):Calls Tryz.prog 86 #[.int .i64 y] w fun e w'=>e = .returned (.int .i64 y)∧w=w':=by
 go_enter Tryz.func86,Tryz.ntmps86;go_wp2_with fail;go_ret;exact⟨rfl,rfl⟩
theorem O0(b:Bool)(gk gx:Nat)(x y:Int)(tk tx:TypeId)(f1 f2:Nat × Nat)(w:World)(hb:decide (y=x)=b)(hk:w.heap[gk]?=some (.cells #[.func (.func 86) #[] #[]] tk f1))(hx:w.heap[gx]?=some (.cells #[.int .i64 x] tx f2)) :
 Calls Tryz.prog 103 #[.int .i64 y,.pointer (some ⟨gk,0,none⟩),.pointer (some ⟨gx,0,none⟩)] w fun e w'=>e = .returned (.bool b)∧Below w.heap.size w w':=by
 have HK:=hid hk;have HX:=hid hx;have hbe:(x == y)=b:=by
  rw[← hb];by_cases h:y=x
  ·subst h;simp
  ·rw[Wg h];simpa using fun q=>h q.symm
 clear hk hx hb;have k1:∀ w',Below w.heap.size w w'→Calls Tryz.prog 86 #[.int .i64 x] w' fun e w''=>e = .returned (.int .i64 x)∧Below w.heap.size w w'':=
  fun w' hw'=>(Mj x w').mono (fun e w9 ⟨h1,h2⟩=>⟨h1,h2 ▸ hw'⟩)
 have k2:∀ w',Below w.heap.size w w'→Calls Tryz.prog 86 #[.int .i64 y] w' fun e w''=>e = .returned (.int .i64 y)∧Below w.heap.size w w'':=
  fun w' hw'=>(Mj y w').mono (fun e w9 ⟨h1,h2⟩=>⟨h1,h2 ▸ hw'⟩)
 go_enter Tryz.func103,Tryz.ntmps103;go_wp2_with fail;refine Ad (by kernel_rfl) (by kernel_rfl) ?_;repeat
  (with_reducible apply wpQuiet_step
   intro K hK;go_simp;first
    | (refine hK _ ?_;clear hK K)
    | (apply Exists.intro
       refine⟨fun w' hw'=>?_,hK _ ?_⟩
       ·
        (first
         | with_reducible exact k1 _ hw'
         | with_reducible exact k2 _ hw'
         | (have e0:=A4 (A5 hw' HK.o) 0 _ rfl
            have e1:=A4 (A5 hw' HX.o) 0 _ rfl;go_simp;first | done | with_reducible exact rfl | with_reducible exact⟨rfl,rfl⟩ | with_reducible exact k1 _ hw' | with_reducible exact k2 _ hw'))
       clear hK K))
 refine wpQuiet_nil ?_;intro w7 hw7;go_wp2_with fail;go_ret;exact⟨rfl,hw7⟩
end
section
attribute [local irreducible] BU AB
theorem Ty(gk gx:Nat)(p:Int→Bool)(x:Option Addr)(m c:Nat)(l:List Int)(w:World)(hn:l.length=m)(hm:m≤9223372036854775807)(hl:As 1 AT w x l)
 (hp:∀ W,Below w.heap.size w W→∀ n,Calls Tryz.prog 103 #[.int .i64 n,.pointer (some ⟨gk,0,none⟩),.pointer (some ⟨gx,0,none⟩)] W fun e w'=>e = .returned (.bool (p n))∧Below W.heap.size W w') :
 Calls Tryz.prog 109 #[.slice x m c,.func (.func 103) #[] #[.pointer (some ⟨gk,0,none⟩),.pointer (some ⟨gx,0,none⟩)]] w fun e w'=>e = .returned (.int .i64 (BU p 0 l))∧Below w.heap.size w w':=by
 have HN:=hid hn;have HP:=hid hp;have HR:=hid hl;clear hn hp hl;go_enter Tryz.func109,Tryz.ntmps109;go_wp2_with fail;go_loopg [5,8] m (fun g _ i wr=>∃ k:Nat,k+g=m∧i = .int .i64 (k:Int)∧BU p k (l.drop k)=BU p 0 l∧Below w.heap.size w wr)
 case atStart=>exact⟨0,by omega,rfl,rfl,VU _ _⟩
 case round=>
  obtain⟨k,hk,rfl,hb,hbw⟩:=hrel;have HB:=hid hb;have HBW:=hid hbw;clear hb hbw;by_cases hlt:k<m
  ·obtain⟨y,hy⟩:∃ y,l[k]?=some y:=⟨_,Wb (by rw[HN.o];exact hlt)⟩;rcases HR.o.below HBW.o with hnil | ⟨b,off,rfl,hc⟩
   ·rw[hnil] at hy;simp at hy
   have z0:=hc k _ hy 0 _ rfl;rw[Wa,Nat.mul_one] at z0;have hd:=CE (p:=p) hy;have d1:(0:Int)≤k:=(by omega);have d2:(k:Int)<m:=(by omega);have e1:wrap64 ((k:Int)+1)=(k:Int)+1:=(by unfold wrap64;omega);have HK:=hid hk;have hcall:=HP.o wr HBW.o y;obtain⟨D,hD⟩:=WY (p y);rw[hD] at hcall hd;have HC:=hid hcall;clear hc hy hk hcall hD;cases D with
   | true=>
     have HF:Hid (BU p 0 l=k):=hid (HB.o.symm.trans (by rw[hd,if_pos rfl]));clear hd;go_wp2_with fail;refine HC.o.mono ?_;rintro e w5 ⟨rfl,hb5⟩;have HB5:=hid (A6 HBW.o hb5);clear hb5;go_wp2_with fail;go_ret;exact⟨by rw[HF.o];rfl,HB5.o⟩
   | false=>
     have HT:Hid (BU p (k+1) (l.drop (k+1))=BU p 0 l):=hid (Eq.trans (by rw[hd,if_neg (by decide)]) HB.o);clear hd;go_wp2_with fail;refine HC.o.mono ?_;rintro e w5 ⟨rfl,hb5⟩;have HB5:=hid (A6 HBW.o hb5);clear hb5;go_wp2_with fail;go_roundg (m - (k+1))
     case rel=>exact⟨k+1,by have:=HK.o;omega,by go_num,HT.o,HB5.o⟩
     case measure=>have:=HK.o;omega
  ·have hkm:m=k:=(by omega);subst hkm;have HF:Hid (BU p 0 l = -1):=hid (HB.o.symm.trans (Dk HN.o));go_wp2_with fail;go_ret;exact⟨by rw[HF.o];rfl,HBW.o⟩
theorem J2(b:Bool)(gk gx:Nat)(p:Int→Bool)(x:Option Addr)(m c:Nat)(l:List Int)(w:World)(hb:l.any p=b)(hn:l.length=m)(hm:m≤9223372036854775807)(hl:As 1 AT w x l)
 (hp:∀ W,Below w.heap.size w W→∀ n,Calls Tryz.prog 103 #[.int .i64 n,.pointer (some ⟨gk,0,none⟩),.pointer (some ⟨gx,0,none⟩)] W fun e w'=>e = .returned (.bool (p n))∧Below W.heap.size W w') :
 Calls Tryz.prog 94 #[.slice x m c,.func (.func 103) #[] #[.pointer (some ⟨gk,0,none⟩),.pointer (some ⟨gx,0,none⟩)]] w fun e w'=>e = .returned (.bool b)∧Below w.heap.size w w':=by
 have hc:=Ty gk gx p x m c l w hn hm hl hp;have hi:=DF p l 0;obtain⟨z,hz⟩:=WY (BU p 0 l);rw[hz,hb] at hi;rw[hz] at hc;have HC:=hid hc;clear hz hb hn hm hl hp hc;rcases hi with ⟨h1,rfl⟩ | ⟨h1,rfl⟩
 ·go_enter Tryz.func94,Tryz.ntmps94;go_wp2_with fail;refine HC.o.mono ?_;rintro e w1 ⟨rfl,hb1⟩;have HB:=hid hb1;clear hb1;go_wp2_with fail;go_ret;exact⟨rfl,HB.o⟩
 ·have h2:¬ 0≤z:=(by omega);go_enter Tryz.func94,Tryz.ntmps94;go_wp2_with fail;refine HC.o.mono ?_;rintro e w1 ⟨rfl,hb1⟩;have HB:=hid hb1;clear hb1;go_wp2_with fail;go_ret;exact⟨by show Ending.returned (.bool (decide (0≤z)))=_;rw[Wg (by omega)],HB.o⟩
def Cu:List Int→List Int→Bool
 | _,[]=>false
 | pre,y :: t=>(pre.any fun n=>decide (n=y)) || Cu (pre ++ [y]) t
theorem Nj{l:List Int}{y:Int}{k:Nat}(h:l[k]?=some y):Cu (l.take k) (l.drop k)=(((l.take k).any fun n=>decide (n=y)) || Cu (l.take (k+1)) (l.drop (k+1))):=by
 have hk:k<l.length:=(We.1 h).1;rw[List.drop_eq_getElem_cons hk,(We.1 h).2,Wp,h];rfl
theorem Oy{l:List Int}{k:Nat}(h:l.length=k):Cu (l.take k) (l.drop k)=false:=by rw[List.drop_eq_nil_of_le (by omega)];rfl
attribute [local irreducible] Cu
theorem O1(x:Option Addr)(m c:Nat)(l:List Int)(w:World)(hn:l.length=m)(hmc:m≤c)(hm:c≤9223372036854775807)(hl:As 1 AT w x l) :
 Calls Tryz.prog 85 #[.slice x m c,.func (.func 86) #[] #[]] w fun e w'=>e = .returned (.bool (Cu [] l))∧Below w.heap.size w w':=by
 have HN:=hid hn;have HR:=hid hl;clear hn hl;obtain⟨gkb,hgkb⟩:=X0 w.heap.size;have HG:=hid hgkb;go_enter Tryz.func85,Tryz.ntmps85;go_upto_region 1 with fail
 have hk0:=Al w (.cells #[.func (.func 86) #[] #[]] 149) (VU _ _);have hb0:=Ac w (.cells #[.func (.func 86) #[] #[]] 149);obtain⟨W,hW⟩:=X0 (w.alloc (.cells #[.func (.func 86) #[] #[]] 149));rw[← hW] at hk0 hb0 ⊢;rw[← hgkb] at hk0 ⊢;have HK0:=hid hk0;have HB0:=hid hb0;clear hW hk0 hb0 hgkb;go_wp2_with fail;go_loopg [5,6,9] m (fun g _ _ i wr=>∃ k:Nat,k+g=m∧i = .int .i64 (k:Int)∧Cu (l.take k) (l.drop k)=Cu [] l∧Below W.heap.size W wr)
 case atStart=>exact⟨0,by omega,rfl,rfl,VU _ _⟩
 case round=>
  obtain⟨k,hk,rfl,hb,hbw⟩:=hrel;have HB:=hid hb;have HBW:=hid hbw;clear hb hbw;by_cases hlt:k<m
  ·obtain⟨y,hy⟩:∃ y,l[k]?=some y:=⟨_,Wb (by rw[HN.o];exact hlt)⟩;have hrow:=HR.o.below (A6 HB0.o HBW.o);have HROW:=hid hrow;rcases hrow with hnil | ⟨b,off,rfl,hc⟩
   ·rw[hnil] at hy;simp at hy
   have z0:=hc k _ hy 0 _ rfl;rw[Wa,Nat.mul_one] at z0;have hd:=Nj hy;have d1:(0:Int)≤k:=(by omega);have d2:(k:Int)<m:=(by omega);have d3:(k:Int)≤c:=(by omega);have d4:k≤c:=(by omega);have e1:wrap64 ((k:Int)+1)=(k:Int)+1:=(by unfold wrap64;omega);have HK:=hid hk;have hbx:=Ac wr (.cells #[.int .i64 y] 3);have hgx:=Al wr (.cells #[.int .i64 y] 3) (VU _ _);obtain⟨D,hD⟩:=WY (((l.take k).any fun n=>decide (n=y)));rw[hD] at hd;have HC:=hid (J2 D gkb wr.heap.size (fun n=>decide (n=y)) (some ⟨b,off,none⟩) k c (l.take k) (wr.alloc (.cells #[.int .i64 y] 3)) hD (by rw[Wu,HN.o];omega) (by omega) ((HROW.o.take k).below hbx) (fun V hV n=>O0 _ gkb wr.heap.size y n 149 3 (0,0) (0,0) V rfl (A5 hV (A5 hbx (A5 HBW.o HK0.o))) (A5 hV hgx)));have HBX:=hid hbx;clear hc hy hk hbx hgx hD HROW;cases D with
   | true=>
     have HF:Hid (Cu [] l=true):=hid (HB.o.symm.trans (by rw[hd];rfl));clear hd;go_wp2_with fail;refine HC.o.mono ?_;rintro e w5 ⟨rfl,hb5⟩;have HB5:=hid (A6 HB0.o (A6 HBW.o (A6 HBX.o hb5)));clear hb5;go_wp2_with fail;go_ret;exact⟨by rw[HF.o];rfl,HB5.o⟩
   | false=>
     have HT:Hid (Cu (l.take (k+1)) (l.drop (k+1))=Cu [] l):=hid (Eq.trans (by rw[hd];rfl) HB.o);clear hd;go_wp2_with fail;refine HC.o.mono ?_;rintro e w5 ⟨rfl,hb5⟩;have HB5:=hid (A6 HBW.o (A6 HBX.o hb5));clear hb5;go_wp2_with fail;go_roundg (m - (k+1))
     case rel=>exact⟨k+1,by have:=HK.o;omega,by go_num,HT.o,HB5.o⟩
     case measure=>have:=HK.o;omega
  ·have hkm:m=k:=(by omega);subst hkm;have HF:Hid (Cu [] l=false):=hid (HB.o.symm.trans (Oy HN.o));have HB5:=hid (A6 HB0.o HBW.o);go_wp2_with fail;go_ret;exact⟨by rw[HF.o];rfl,HB5.o⟩
end
section
attribute [local irreducible] BU
theorem P5(y:Int × Bool)(w:World):Calls Tryz.prog 89 #[.agg #[.int .i64 y.1,.bool y.2]] w fun e w'=>e = .returned (.int .i64 y.1)∧Below w.heap.size w w':=by
 go_enter Tryz.func89,Tryz.ntmps89;go_wp2_with fail;go_ret;exact⟨rfl,Ac _ _⟩
theorem LM(b:Bool)(gk gx:Nat)(x y:Int × Bool)(tk tx:TypeId)(f1 f2:Nat × Nat)(w:World)(hb:decide (y.1=x.1)=b)(hk:w.heap[gk]?=some (.cells #[.func (.func 89) #[] #[]] tk f1))(hx:w.heap[gx]?=some (.cells #[.int .i64 x.1,.bool x.2] tx f2)) :
 Calls Tryz.prog 105 #[.agg #[.int .i64 y.1,.bool y.2],.pointer (some ⟨gk,0,none⟩),.pointer (some ⟨gx,0,none⟩)] w fun e w'=>e = .returned (.bool b)∧Below w.heap.size w w':=by
 have HK:=hid hk;have HX:=hid hx;have hbe:(x.1 == y.1)=b:=by
  rw[← hb];by_cases h:y.1=x.1
  ·rw[h];simp
  ·rw[Wg h];simpa using fun q=>h q.symm
 clear hk hx hb;go_enter Tryz.func105,Tryz.ntmps105;go_upto_region 1 with fail
 have hbY:=Ac w (.cells #[.int .i64 y.1,.bool y.2] 71);have hgY:=Al w (.cells #[.int .i64 y.1,.bool y.2] 71) (VU _ _);obtain⟨V,hV⟩:=X0 (w.alloc (.cells #[.int .i64 y.1,.bool y.2] 71));obtain⟨gy,hgy⟩:=X0 w.heap.size;rw[← hV] at hbY hgY ⊢;rw[← hgy] at hgY ⊢;have HY:=hid hgY;have HBY:=hid hbY;have HK:=hid (A5 hbY HK.o);have HX:=hid (A5 hbY HX.o);have k1:∀ w',Below V.heap.size V w'→Calls Tryz.prog 89 #[.agg #[.int .i64 x.1,.bool x.2]] w' fun e w''=>e = .returned (.int .i64 x.1)∧Below V.heap.size V w'':=
  fun w' hw'=>(P5 x w').mono (fun e w9 ⟨h1,h2⟩=>⟨h1,A6 hw' h2⟩)
 have k2:∀ w',Below V.heap.size V w'→Calls Tryz.prog 89 #[.agg #[.int .i64 y.1,.bool y.2]] w' fun e w''=>e = .returned (.int .i64 y.1)∧Below V.heap.size V w'':=
  fun w' hw'=>(P5 y w').mono (fun e w9 ⟨h1,h2⟩=>⟨h1,A6 hw' h2⟩)
 clear hV hgy hbY hgY;refine Ad (by kernel_rfl) (by kernel_rfl) ?_;repeat
  (with_reducible apply wpQuiet_step
   intro K hK;go_simp;first
    | (refine hK _ ?_;clear hK K)
    | (apply Exists.intro
       refine⟨fun w' hw'=>?_,hK _ ?_⟩
       ·
        (first
         | with_reducible exact k1 _ hw'
         | with_reducible exact k2 _ hw'
         | (have e0:=A4 (A5 hw' HK.o) 0 _ rfl
            have e1:=A4 (A5 hw' HX.o) 0 _ rfl;have e2:=A4 (A5 hw' HX.o) 1 _ rfl;have e3:=A4 (A5 hw' HY.o) 0 _ rfl;have e4:=A4 (A5 hw' HY.o) 1 _ rfl;go_simp;first | done | with_reducible exact rfl | with_reducible exact⟨rfl,rfl⟩ | with_reducible exact k1 _ hw' | with_reducible exact k2 _ hw'))
       clear hK K))
 refine wpQuiet_nil ?_;intro w7 hw7;go_wp2_with fail;go_ret;exact⟨rfl,A6 HBY.o hw7⟩
end
section
attribute [local irreducible] BU
theorem Rg(gk gx:Nat)(p:Int × Bool→Bool)(x:Option Addr)(m c:Nat)(l:List (Int × Bool))(w:World)(hn:l.length=m)(hm:m≤9223372036854775807)(hl:As 2 CX w x l)
 (hp:∀ W,Below w.heap.size w W→∀ n,Calls Tryz.prog 105 #[.agg #[.int .i64 n.1,.bool n.2],.pointer (some ⟨gk,0,none⟩),.pointer (some ⟨gx,0,none⟩)] W fun e w'=>e = .returned (.bool (p n))∧Below W.heap.size W w') :
 Calls Tryz.prog 97 #[.slice x m c,.func (.func 105) #[] #[.pointer (some ⟨gk,0,none⟩),.pointer (some ⟨gx,0,none⟩)]] w fun e w'=>e = .returned (.int .i64 (BU p 0 l))∧Below w.heap.size w w':=by
 have HN:=hid hn;have HP:=hid hp;have HR:=hid hl;clear hn hp hl;go_enter Tryz.func97,Tryz.ntmps97;go_wp2_with fail;go_loopg [5,8] m (fun g _ i wr=>∃ k:Nat,k+g=m∧i = .int .i64 (k:Int)∧BU p k (l.drop k)=BU p 0 l∧Below w.heap.size w wr)
 case atStart=>exact⟨0,by omega,rfl,rfl,VU _ _⟩
 case round=>
  obtain⟨k,hk,rfl,hb,hbw⟩:=hrel;have HB:=hid hb;have HBW:=hid hbw;clear hb hbw;by_cases hlt:k<m
  ·obtain⟨y,hy⟩:∃ y,l[k]?=some y:=⟨_,Wb (by rw[HN.o];exact hlt)⟩;rcases HR.o.below HBW.o with hnil | ⟨b,off,rfl,hc⟩
   ·rw[hnil] at hy;simp at hy
   have z0:=hc k _ hy 0 _ rfl;have z1:=hc k _ hy 1 _ rfl;rw[Wa] at z0;have hd:=CE (p:=p) hy;have d1:(0:Int)≤k:=(by omega);have d2:(k:Int)<m:=(by omega);have e1:wrap64 ((k:Int)+1)=(k:Int)+1:=(by unfold wrap64;omega);have HK:=hid hk;have hcall:=HP.o wr HBW.o y;obtain⟨D,hD⟩:=WY (p y);rw[hD] at hcall hd;have HC:=hid hcall;clear hc hy hk hcall hD;cases D with
   | true=>
     have HF:Hid (BU p 0 l=k):=hid (HB.o.symm.trans (by rw[hd,if_pos rfl]));clear hd;go_wp2_with fail;refine HC.o.mono ?_;rintro e w5 ⟨rfl,hb5⟩;have HB5:=hid (A6 HBW.o hb5);clear hb5;go_wp2_with fail;go_ret;exact⟨by rw[HF.o];rfl,HB5.o⟩
   | false=>
     have HT:Hid (BU p (k+1) (l.drop (k+1))=BU p 0 l):=hid (Eq.trans (by rw[hd,if_neg (by decide)]) HB.o);clear hd;go_wp2_with fail;refine HC.o.mono ?_;rintro e w5 ⟨rfl,hb5⟩;have HB5:=hid (A6 HBW.o hb5);clear hb5;go_wp2_with fail;go_roundg (m - (k+1))
     case rel=>exact⟨k+1,by have:=HK.o;omega,by go_num,HT.o,HB5.o⟩
     case measure=>have:=HK.o;omega
  ·have hkm:m=k:=(by omega);subst hkm;have HF:Hid (BU p 0 l = -1):=hid (HB.o.symm.trans (Dk HN.o));go_wp2_with fail;go_ret;exact⟨by rw[HF.o];rfl,HBW.o⟩
theorem I4(b:Bool)(gk gx:Nat)(p:Int × Bool→Bool)(x:Option Addr)(m c:Nat)(l:List (Int × Bool))(w:World)(hb:l.any p=b)(hn:l.length=m)(hm:m≤9223372036854775807)(hl:As 2 CX w x l)
 (hp:∀ W,Below w.heap.size w W→∀ n,Calls Tryz.prog 105 #[.agg #[.int .i64 n.1,.bool n.2],.pointer (some ⟨gk,0,none⟩),.pointer (some ⟨gx,0,none⟩)] W fun e w'=>e = .returned (.bool (p n))∧Below W.heap.size W w') :
 Calls Tryz.prog 60 #[.slice x m c,.func (.func 105) #[] #[.pointer (some ⟨gk,0,none⟩),.pointer (some ⟨gx,0,none⟩)]] w fun e w'=>e = .returned (.bool b)∧Below w.heap.size w w':=by
 have hc:=Rg gk gx p x m c l w hn hm hl hp;have hi:=DF p l 0;obtain⟨z,hz⟩:=WY (BU p 0 l);rw[hz,hb] at hi;rw[hz] at hc;have HC:=hid hc;clear hz hb hn hm hl hp hc;rcases hi with ⟨h1,rfl⟩ | ⟨h1,rfl⟩
 ·go_enter Tryz.func60,Tryz.ntmps60;go_wp2_with fail;refine HC.o.mono ?_;rintro e w1 ⟨rfl,hb1⟩;have HB:=hid hb1;clear hb1;go_wp2_with fail;go_ret;exact⟨rfl,HB.o⟩
 ·have h2:¬ 0≤z:=(by omega);go_enter Tryz.func60,Tryz.ntmps60;go_wp2_with fail;refine HC.o.mono ?_;rintro e w1 ⟨rfl,hb1⟩;have HB:=hid hb1;clear hb1;go_wp2_with fail;go_ret;exact⟨by show Ending.returned (.bool (decide (0≤z)))=_;rw[Wg (by omega)],HB.o⟩
def De:List (Int × Bool)→List (Int × Bool)→Bool
 | _,[]=>false
 | pre,y :: t=>(pre.any fun n=>decide (n.1=y.1)) || De (pre ++ [y]) t
theorem Nk{l:List (Int × Bool)}{y:Int × Bool}{k:Nat}(h:l[k]?=some y):De (l.take k) (l.drop k)=(((l.take k).any fun n=>decide (n.1=y.1)) || De (l.take (k+1)) (l.drop (k+1))):=by
 have hk:k<l.length:=(We.1 h).1;rw[List.drop_eq_getElem_cons hk,(We.1 h).2,Wp,h];rfl
theorem OB{l:List (Int × Bool)}{k:Nat}(h:l.length=k):De (l.take k) (l.drop k)=false:=by rw[List.drop_eq_nil_of_le (by omega)];rfl
attribute [local irreducible] De
theorem Q1(x:Option Addr)(m c:Nat)(l:List (Int × Bool))(w:World)(hn:l.length=m)(hmc:m≤c)(hm:c≤9223372036854775807)(hl:As 2 CX w x l) :
 Calls Tryz.prog 88 #[.slice x m c,.func (.func 89) #[] #[]] w fun e w'=>e = .returned (.bool (De [] l))∧Below w.heap.size w w':=by
 have HN:=hid hn;have HR:=hid hl;clear hn hl;obtain⟨gkb,hgkb⟩:=X0 w.heap.size;have HG:=hid hgkb;go_enter Tryz.func88,Tryz.ntmps88;go_upto_region 1 with fail
 have hk0:=Al w (.cells #[.func (.func 89) #[] #[]] 151) (VU _ _);have hb0:=Ac w (.cells #[.func (.func 89) #[] #[]] 151);obtain⟨W,hW⟩:=X0 (w.alloc (.cells #[.func (.func 89) #[] #[]] 151));rw[← hW] at hk0 hb0 ⊢;rw[← hgkb] at hk0 ⊢;have HK0:=hid hk0;have HB0:=hid hb0;clear hW hk0 hb0 hgkb;go_wp2_with fail;go_loopg [5,6,9] m (fun g _ _ i wr=>∃ k:Nat,k+g=m∧i = .int .i64 (k:Int)∧De (l.take k) (l.drop k)=De [] l∧Below W.heap.size W wr)
 case atStart=>exact⟨0,by omega,rfl,rfl,VU _ _⟩
 case round=>
  obtain⟨k,hk,rfl,hb,hbw⟩:=hrel;have HB:=hid hb;have HBW:=hid hbw;clear hb hbw;by_cases hlt:k<m
  ·obtain⟨y,hy⟩:∃ y,l[k]?=some y:=⟨_,Wb (by rw[HN.o];exact hlt)⟩;have hrow:=HR.o.below (A6 HB0.o HBW.o);have HROW:=hid hrow;rcases hrow with hnil | ⟨b,off,rfl,hc⟩
   ·rw[hnil] at hy;simp at hy
   have z0:=hc k _ hy 0 _ rfl;have z1:=hc k _ hy 1 _ rfl;rw[Wa] at z0;have hd:=Nk hy;have d1:(0:Int)≤k:=(by omega);have d2:(k:Int)<m:=(by omega);have d3:(k:Int)≤c:=(by omega);have d4:k≤c:=(by omega);have e1:wrap64 ((k:Int)+1)=(k:Int)+1:=(by unfold wrap64;omega);have HK:=hid hk;have hbx:=Ac wr (.cells #[.int .i64 y.1,.bool y.2] 71);have hgx:=Al wr (.cells #[.int .i64 y.1,.bool y.2] 71) (VU _ _);obtain⟨D,hD⟩:=WY (((l.take k).any fun n=>decide (n.1=y.1)));rw[hD] at hd;have HC:=hid (I4 D gkb wr.heap.size (fun n=>decide (n.1=y.1)) (some ⟨b,off,none⟩) k c (l.take k) (wr.alloc (.cells #[.int .i64 y.1,.bool y.2] 71)) hD (by rw[Wu,HN.o];omega) (by omega) ((HROW.o.take k).below hbx) (fun V hV n=>LM _ gkb wr.heap.size y n 151 71 (0,0) (0,0) V rfl (A5 hV (A5 hbx (A5 HBW.o HK0.o))) (A5 hV hgx)));have HBX:=hid hbx;clear hc hy hk hbx hgx hD HROW;cases D with
   | true=>
     have HF:Hid (De [] l=true):=hid (HB.o.symm.trans (by rw[hd];rfl));clear hd;go_wp2_with fail;refine HC.o.mono ?_;rintro e w5 ⟨rfl,hb5⟩;have HB5:=hid (A6 HB0.o (A6 HBW.o (A6 HBX.o hb5)));clear hb5;go_wp2_with fail;go_ret;exact⟨by rw[HF.o];rfl,HB5.o⟩
   | false=>
     have HT:Hid (De (l.take (k+1)) (l.drop (k+1))=De [] l):=hid (Eq.trans (by rw[hd];rfl) HB.o);clear hd;go_wp2_with fail;refine HC.o.mono ?_;rintro e w5 ⟨rfl,hb5⟩;have HB5:=hid (A6 HBW.o (A6 HBX.o hb5));clear hb5;go_wp2_with fail;go_roundg (m - (k+1))
     case rel=>exact⟨k+1,by have:=HK.o;omega,by go_num,HT.o,HB5.o⟩
     case measure=>have:=HK.o;omega
  ·have hkm:m=k:=(by omega);subst hkm;have HF:Hid (De [] l=false):=hid (HB.o.symm.trans (OB HN.o));have HB5:=hid (A6 HB0.o HBW.o);go_wp2_with fail;go_ret;exact⟨by rw[HF.o];rfl,HB5.o⟩
end
section
theorem T5{l:List Int}{y:Int}:(l.any fun n=>decide (n=y))=false↔y ∉ l:=by
 rw[WU];constructor
 ·intro h hm;have:=h y hm;simp at this
 ·intro h x hx;simp;intro e;exact h (e ▸ hx)
theorem Oz:∀(l pre:List Int),Cu pre l=false↔(l.Nodup∧∀ y∈l,y ∉ pre):=by
 intro l
 induction l with
 | nil=>intro pre;exact⟨fun _=>⟨List.nodup_nil,by simp⟩,fun _=>rfl⟩
 | cons y l ih=>
   intro pre;have e:Cu pre (y :: l)=((pre.any fun n=>decide (n=y)) || Cu (pre ++ [y]) l):=rfl;rw[e,Bool.or_eq_false_iff,T5,ih];constructor
   ·rintro⟨h1,h2,h3⟩;refine⟨List.nodup_cons.2 ⟨fun hm=>?_,h2⟩,fun z hz=>?_⟩
    ·exact h3 y hm (by simp)
    ·rcases List.mem_cons.1 hz with rfl | hz
     ·exact h1
     ·exact fun hp=>h3 z hz (by simp[hp])
   ·rintro⟨h1,h2⟩;obtain⟨g1,g2⟩:=List.nodup_cons.1 h1;refine⟨h2 y (by simp),g2,fun z hz hp=>?_⟩;rcases WE.1 hp with hp | hp
    ·exact h2 z (by simp[hz]) hp
    ·simp at hp;subst hp;exact g1 hz
theorem QS:∀(l pre:List (Int × Bool)),De pre l=Cu (pre.map (·.1)) (l.map (·.1)):=by
 intro l
 induction l with
 | nil=>intro pre;rfl
 | cons y l ih=>
   intro pre;have e1:De pre (y :: l)=((pre.any fun n=>decide (n.1=y.1)) || De (pre ++ [y]) l):=rfl;have e2:Cu (pre.map (·.1)) ((y :: l).map (·.1))=(((pre.map (·.1)).any fun n=>decide (n=y.1)) || Cu (pre.map (·.1) ++ [y.1]) (l.map (·.1))):=rfl;rw[e1,e2,ih,List.map_append,List.any_map];rfl
theorem Fc(l:List Int)(s:Int):C7 l s=l.count s:=by
 unfold C7;rw[List.count_eq_length_filter]
 congr 1
theorem Ih(l:List Int):Cu [] l=false↔∀ y∈l,C7 l y≤1:=by
 rw[Oz];constructor
 ·intro h y _;rw[Fc];exact List.nodup_iff_count.1 h.1 y
 ·intro h;refine⟨List.nodup_iff_count.2 fun y=>?_,by simp⟩;by_cases hy:y∈l
  ·have:=h y hy;rwa [Fc] at this
  ·rw[List.count_eq_zero_of_not_mem hy];exact Nat.zero_le _
theorem LZ(l:List Int)(s:Int):0<C7 l s↔AB l s=true:=by
 rw[Fc,List.count_pos_iff];unfold AB;rw[WF];constructor
 ·exact fun h=>⟨s,h,Wk rfl⟩
 ·rintro⟨x,hx,h⟩;have:=of_decide_eq_true h;subst this;exact hx
end
section
def DT(l:List (Int × Bool))(k:Nat):Bool:=l.any fun n=>decide (n.1=(k:Int))
theorem GP(l:List (Int × Bool))(k:Nat):AB (l.map (·.1)) (k:Int)=DT l k:=by
 unfold AB DT;rw[List.any_map];rfl
def FT(t:List Int)(po fl:List (Int × Bool))(k:Nat)(s:Int):Bool:=(AB t s == DT po k) && !(AB t s && DT fl k)
def Cl(t:List Int)(po fl:List (Int × Bool)):Nat→List (BA × Int)→Bool
 | _,[]=>true
 | k,p :: l=>FT t po fl k p.2 && Cl t po fl (k+1) l
theorem Cd{t:List Int}{po fl:List (Int × Bool)}{l:List (BA × Int)}{p:BA × Int}{k:Nat}(h:l[k]?=some p):Cl t po fl k (l.drop k)=(FT t po fl k p.2 && Cl t po fl (k+1) (l.drop (k+1))):=by
 have hk:k<l.length:=(We.1 h).1;rw[List.drop_eq_getElem_cons hk,(We.1 h).2];rfl
theorem Iq{t:List Int}{po fl:List (Int × Bool)}{l:List (BA × Int)}{k:Nat}(h:l.length=k):Cl t po fl k (l.drop k)=true:=by rw[List.drop_eq_nil_of_le (by omega)];rfl
theorem Jr{t:List Int}{po fl:List (Int × Bool)}{k:Nat}{s:Int}{b c:Bool}(h1:AB t s=b)(h2:DT po k=c)(h:b≠c):FT t po fl k s=false:=by
 unfold FT;rw[h1,h2];cases b<;>cases c<;>first | rfl | exact absurd rfl h
theorem Mw{t:List Int}{po fl:List (Int × Bool)}{k:Nat}{s:Int}(h1:AB t s=false)(h2:DT po k=false):FT t po fl k s=true:=by
 unfold FT;rw[h1,h2];rfl
theorem Gr{t:List Int}{po fl:List (Int × Bool)}{k:Nat}{s:Int}{b:Bool}(h1:AB t s=true)(h2:DT po k=true)(h3:DT fl k=b):FT t po fl k s = !b:=by
 unfold FT;rw[h1,h2,h3];cases b<;>rfl
def Bt(L:AL)(k:Int):Int:=((L.sg.l[k.toNat]?).map (·.2)).getD 0
theorem EF{L:AL}{k:Nat}{p:BA × Int}(h:L.sg.l[k]?=some p):Bt L (k:Int)=p.2:=by unfold Bt;rw[Int.toNat_natCast,h];rfl
def At(L:AL)(r:Rt):Bool:=
 (!decide (r.pa.l.length=0) && !Cu [] (r.pa.l ++ r.ov.l)) && (!AB (r.pa.l ++ r.ov.l) (Bt L r.sg) && !De [] (r.po.l ++ r.fl.l)) && Cl (r.pa.l ++ r.ov.l) r.po.l r.fl.l 0 L.po.l
theorem Tt{L:AL}{r:Rt}(h:r.pa.l.length=0):At L r=false:=by unfold At;rw[Wk h];rfl
theorem UE{L:AL}{r:Rt}(h:Cu [] (r.pa.l ++ r.ov.l)=true):At L r=false:=by unfold At;rw[h];simp
theorem UF{L:AL}{r:Rt}(h:AB (r.pa.l ++ r.ov.l) (Bt L r.sg)=true):At L r=false:=by unfold At;rw[h];simp
theorem UG{L:AL}{r:Rt}(h:De [] (r.po.l ++ r.fl.l)=true):At L r=false:=by unfold At;rw[h];simp
theorem OH{L:AL}{r:Rt}(h:Cl (r.pa.l ++ r.ov.l) r.po.l r.fl.l 0 L.po.l=false):At L r=false:=by unfold At;rw[h];simp
theorem UH{L:AL}{r:Rt}(h0:¬ r.pa.l.length=0)(h1:Cu [] (r.pa.l ++ r.ov.l)=false)(h2:AB (r.pa.l ++ r.ov.l) (Bt L r.sg)=false)(h3:De [] (r.po.l ++ r.fl.l)=false)(h4:Cl (r.pa.l ++ r.ov.l) r.po.l r.fl.l 0 L.po.l=true):At L r=true:=by
 unfold At;rw[Wg h0,h1,h2,h3,h4];rfl
theorem Mb{l:List Int}{y:Int}(hy:y∈l)(h:1<C7 l y):Cu [] l=true:=by
 cases hd:Cu [] l with
 | true=>rfl
 | false=>exact absurd ((Ih l).1 hd y hy) (by omega)
theorem Ii{l:List Int}(h:∀ y∈l,¬ 1<C7 l y):Cu [] l=false:=(Ih l).2 (fun y hy=>Nat.le_of_not_lt (h y hy))
theorem K7(l:List (Int × Bool)):De [] l=Cu [] (l.map (·.1)):=QS l []
theorem Tf{l:List Int}{s:Int}(h:AB l s=false):C7 l s=0:=by
 have:=(LZ l s).1;rw[h] at this;cases hc:C7 l s with
 | zero=>rfl
 | succ n=>exact absurd (this (by omega)) (by decide)
theorem QI{l:List Int}{s:Int}(h:AB l s=true):0<C7 l s:=(LZ l s).2 h
end
section
structure IP(w0 w:World)(gl gr:Nat)(L:AL)(r:Rt):Prop where
 lay:w.heap[gl]?=some (.cells #[L.se.v,L.po.v,L.sg.v,L.rt.v] 27)
 rt:w.heap[gr]?=some (.cells #[.string r.nm,.int .i64 r.sg,r.pa.v,r.po.v,r.ov.v,r.fl.v] 52)
 below:Below w0.heap.size w0 w
theorem IP.step{w0 w w':World}{gl gr:Nat}{L:AL}{r:Rt}(h:IP w0 w gl gr L r)(hb:Below w.heap.size w w'):IP w0 w' gl gr L r:=⟨A5 hb h.lay,A5 hb h.rt,A6 h.below hb⟩
theorem OM(b:Bool)(k:Nat)(x:Option Addr)(m c:Nat)(l:List (Int × Bool))(w:World)(hb:DT l k=b)(hn:l.length=m)(hm:m≤9223372036854775807)(hl:As 2 CX w x l) :
 Calls Tryz.prog 90 #[.slice x m c,.int .i64 (k:Int)] w fun e w'=>e = .returned (.bool b)∧Below w.heap.size w w':=Tu b k x m c l w (by unfold DT at hb;exact hb) hn hm hl
attribute [local irreducible] AB DT Cu De FT Cl Bt At Sl.v
theorem Nn(L:AL)(r:Rt)(w:World)(hL:AO w L)(hr:CM w r)(hsg:0≤r.sg)(hsn:r.sg<(L.sg.l.length:Int))(hl1:r.pa.l.length+r.ov.l.length≤100000)(hl2:r.po.l.length+r.fl.l.length≤100000) :
 Calls Tryz.prog 49 #[.agg #[L.se.v,L.po.v,L.sg.v,L.rt.v],.agg #[.string r.nm,.int .i64 r.sg,r.pa.v,r.po.v,r.ov.v,r.fl.v]] w fun e w'=>e = .returned (.bool (At L r))∧Below w.heap.size w w':=by
 have HA:=hid hL;have HTR:Hid (∀ W,Below w.heap.size w W→Calls Tryz.prog 29 #[.agg #[.string r.nm,.int .i64 r.sg,r.pa.v,r.po.v,r.ov.v,r.fl.v]] W fun e w'=>∃ a n c,e = .returned (.slice a n c)∧n=r.pa.l.length+r.ov.l.length∧B7 1 AT w' ⟨a,c,r.pa.l ++ r.ov.l⟩∧Below W.heap.size W w'):=hid (fun W hb=>Hu r W (hr.below hb) hl1);have HND:Hid (∀ W,Below w.heap.size w W→Calls Tryz.prog 30 #[.agg #[.string r.nm,.int .i64 r.sg,r.pa.v,r.po.v,r.ov.v,r.fl.v]] W fun e w'=>∃ a n c,e = .returned (.slice a n c)∧n=r.po.l.length+r.fl.l.length∧B7 2 CX w' ⟨a,c,r.po.l ++ r.fl.l⟩∧Below W.heap.size W w'):=hid (fun W hb=>Ko r W (hr.below hb) hl2);obtain⟨n1,hn1⟩:=WY L.se.l.length;obtain⟨n2,hn2⟩:=WY L.po.l.length;obtain⟨n3,hn3⟩:=WY L.sg.l.length;obtain⟨n4,hn4⟩:=WY L.rt.l.length;obtain⟨m1,hm1⟩:=WY r.pa.l.length;obtain⟨m2,hm2⟩:=WY r.po.l.length;obtain⟨m3,hm3⟩:=WY r.ov.l.length;obtain⟨m4,hm4⟩:=WY r.fl.l.length;have v1:=Ak hn1;have v2:=Ak hn2;have v3:=Ak hn3;have v4:=Ak hn4;have u1:=Ak hm1;have u2:=Ak hm2;have u3:=Ak hm3;have u4:=Ak hm4;have R2:=hid hL.po.row;have R3:=hid hL.sg.row;have M2:=hid hL.po.lenM;have Q2:=hid hr.po.row;have Q4:=hid hr.fl.row;obtain⟨T,hT⟩:=WY (r.pa.l ++ r.ov.l);obtain⟨N,hN⟩:=WY (r.po.l ++ r.fl.l);obtain⟨nm,hnm⟩:=WY r.nm;obtain⟨ks,hks⟩:∃ k:Nat,r.sg=(k:Int):=⟨r.sg.toNat,by omega⟩;obtain⟨a1,ha1⟩:=WY L.se.a;obtain⟨c1,hc1⟩:=WY L.se.c;rw[ha1,hc1] at v1;obtain⟨a2,ha2⟩:=WY L.po.a;obtain⟨c2,hc2⟩:=WY L.po.c;rw[ha2,hc2] at v2;obtain⟨a3,ha3⟩:=WY L.sg.a;obtain⟨c3,hc3⟩:=WY L.sg.c;rw[ha3,hc3] at v3;obtain⟨a4,ha4⟩:=WY L.rt.a;obtain⟨c4,hc4⟩:=WY L.rt.c;rw[ha4,hc4] at v4;obtain⟨b1,hb1⟩:=WY r.pa.a;obtain⟨e1,he1⟩:=WY r.pa.c;rw[hb1,he1] at u1;obtain⟨b2,hb2⟩:=WY r.po.a;obtain⟨e2,he2⟩:=WY r.po.c;rw[hb2,he2] at u2;obtain⟨b3,hb3⟩:=WY r.ov.a;obtain⟨e3,he3⟩:=WY r.ov.c;rw[hb3,he3] at u3;obtain⟨b4,hb4⟩:=WY r.fl.a;obtain⟨e4,he4⟩:=WY r.fl.c;rw[hb4,he4] at u4;rw[ha2] at R2;rw[ha3] at R3;rw[hb2] at Q2;rw[hb4] at Q4;rw[hn3,hks] at hsn;rw[hnm,hks,u1,u2,u3,u4] at HTR HND;rw[hT,hm1,hm3] at HTR;rw[hN,hm2,hm4] at HND;rw[hnm,hks,u1,u2,u3,u4,v1,v2,v3,v4];have HV:=hid (And.intro v1 (And.intro v2 (And.intro v3 v4)));have HU:=hid (And.intro hnm (And.intro hks (And.intro u1 (And.intro u2 (And.intro u3 u4)))));have HNN:=hid (And.intro hn2 hn3);have HMM:=hid (And.intro hm1 (And.intro hm2 (And.intro hm3 hm4)));have HTN:=hid (And.intro hT hN);have HT:Hid (T.length=m1+m3):=hid (by rw[← hT,Wh,hm1,hm3]);have HN:Hid (N.length=m2+m4):=hid (by rw[← hN,Wh,hm2,hm4]);rw[hm1,hm3] at hl1;rw[hm2,hm4] at hl2;have HL1:=hid hl1;have HL2:=hid hl2;have s1:(0:Int)≤ks:=by omega
 have HSN:=hid (show ks<n3 by omega);have s2:(ks:Int)<n3:=hsn;clear hn1 hn2 hn3 hn4 hm1 hm2 hm3 hm4 ha1 ha2 ha3 ha4 hc1 hc2 hc3 hc4 hb1 hb2 hb3 hb4 he1 he2 he3 he4 v1 v2 v3 v4 u1 u2 u3 u4 hL hr hnm hks hT hN hsg hsn hl1 hl2;obtain⟨gl,hgl⟩:=X0 w.heap.size;obtain⟨gr,hgr⟩:=X0 (gl+1);have HGL:=hid hgl;have HGR:=hid hgr;clear hgl hgr;go_enter Tryz.func49,Tryz.ntmps49;go_wp2_with fail;refine(HTR.o _ (Cb w _ _)).mono ?_;rintro e w1 ⟨ta,tn,tc,rfl,hn,hS,hb⟩;have HM:IP w w1 gl gr L r:=by
  obtain⟨q1,q2⟩:=DA w (.cells #[.slice a1 n1 c1,.slice a2 n2 c2,.slice a3 n3 c3,.slice a4 n4 c4] 27) (.cells #[.string nm,.int .i64 (ks:Int),.slice b1 m1 e1,.slice b2 m2 e2,.slice b3 m3 e3,.slice b4 m4 e4] 52);obtain⟨x1,x2,x3,x4⟩:=HV.o;obtain⟨y1,y2,y3,y4,y5,y6⟩:=HU.o;refine⟨?_,?_,A6 (Cb w _ _) hb⟩
  ·rw[HGL.o,x1,x2,x3,x4];exact A5 hb q1
  ·rw[HGR.o,HGL.o,y1,y2,y3,y4,y5,y6];exact A5 hb q2
 rw[← HGL.o,← HGR.o];have HM:=hid HM;have HS:=hid hS;obtain rfl:=hn;clear hb hS;obtain⟨l1,l2,r1,r2,r3,r5⟩:w1.cell? ⟨gl,1,none⟩=some (.slice a2 n2 c2)∧w1.cell? ⟨gl,2,none⟩=some (.slice a3 n3 c3)∧w1.cell? ⟨gr,1,none⟩=some (.int .i64 (ks:Int))∧w1.cell? ⟨gr,2,none⟩=some (.slice b1 m1 e1)∧w1.cell? ⟨gr,3,none⟩=some (.slice b2 m2 e2)∧w1.cell? ⟨gr,5,none⟩=some (.slice b4 m4 e4):=by
  obtain⟨x1,x2,x3,x4⟩:=HV.o;obtain⟨y1,y2,y3,y4,y5,y6⟩:=HU.o;rw[← x2,← x3,← y2,← y3,← y4,← y6];exact⟨A4 HM.o.lay 1 _ rfl,A4 HM.o.lay 2 _ rfl,A4 HM.o.rt 1 _ rfl,A4 HM.o.rt 2 _ rfl,A4 HM.o.rt 3 _ rfl,A4 HM.o.rt 5 _ rfl⟩
 by_cases h0:m1=0
 ·have HF:Hid (At L r=false):=hid (Tt (HMM.o.1.trans h0));subst h0;go_wp2_with fail;go_ret;exact⟨by rw[HF.o];rfl,HM.o.below⟩
 have h01:¬ (m1:Int)=0:=by omega
 have H0:=hid h0;clear h0;go_wp2_with fail;clear l1 l2 r1 r2 r3 r5;refine(O1 ta _ tc T w1 HT.o (by have:=HS.o.len;rw[HT.o] at this;exact this) (by have:=HS.o.cap;unfold maxLen at this;omega) HS.o.row).mono ?_;rintro e w2 ⟨rfl,hb⟩;have hM:=HM.o.step hb;have hS:=HS.o.below hb;clear HM HS hb h01;have HM:=hid hM;have HS:=hid hS;clear hM hS;obtain⟨D,hD⟩:=WY (Cu [] T);rw[hD];cases D with
 | true=>
   have HF:Hid (At L r=false):=hid (UE (by rw[HTN.o.1];exact hD));clear hD;go_wp2_with fail;go_ret;exact⟨by rw[HF.o];rfl,HM.o.below⟩
 | false=>
   have HD1:=hid hD;clear hD;obtain⟨l1,l2,r1,r2,r3,r5⟩:w2.cell? ⟨gl,1,none⟩=some (.slice a2 n2 c2)∧w2.cell? ⟨gl,2,none⟩=some (.slice a3 n3 c3)∧w2.cell? ⟨gr,1,none⟩=some (.int .i64 (ks:Int))∧w2.cell? ⟨gr,2,none⟩=some (.slice b1 m1 e1)∧w2.cell? ⟨gr,3,none⟩=some (.slice b2 m2 e2)∧w2.cell? ⟨gr,5,none⟩=some (.slice b4 m4 e4):=by
    obtain⟨x1,x2,x3,x4⟩:=HV.o;obtain⟨y1,y2,y3,y4,y5,y6⟩:=HU.o;rw[← x2,← x3,← y2,← y3,← y4,← y6];exact⟨A4 HM.o.lay 1 _ rfl,A4 HM.o.lay 2 _ rfl,A4 HM.o.rt 1 _ rfl,A4 HM.o.rt 2 _ rfl,A4 HM.o.rt 3 _ rfl,A4 HM.o.rt 5 _ rfl⟩
   obtain⟨y,hy⟩:∃ y,L.sg.l[ks]?=some y:=⟨_,Wb (by rw[HNN.o.2];exact HSN.o)⟩;rcases R3.o.below HM.o.below with hnil | ⟨xs,os,rfl,hc⟩
   ·rw[hnil] at hy;simp at hy
   obtain⟨y0,y1⟩:=y;have z1:=hc ks _ hy 1 _ rfl;have hsec:=EF hy;dsimp only at z1 hsec;rw[← HU.o.2.1] at hsec;have HSE:=hid hsec;clear hc hy hsec;obtain⟨D,hD⟩:=WY (AB T y1);have HC:=hid (Cq D ta (m1+m3) tc T y1 w2 hD HT.o (by have:=HL1.o;omega) HS.o.row);go_wp2_with fail;refine HC.o.mono ?_;rintro e w3 ⟨rfl,rfl⟩;clear HC z1;clear l1 l2 r1 r2 r3 r5;cases D with
   | true=>
     have HF:Hid (At L r=false):=hid (UF (by rw[HTN.o.1,HSE.o];exact hD));clear hD;go_wp2_with fail;go_ret;exact⟨by rw[HF.o];rfl,HM.o.below⟩
   | false=>
     have HD2:Hid (AB T (Bt L r.sg)=false):=hid (by rw[HSE.o];exact hD);clear hD HSE;obtain⟨r0,r1,r2,r3,r4,r5⟩:w2.cell? ⟨gr,0,none⟩=some (.string nm)∧w2.cell? ⟨gr,1,none⟩=some (.int .i64 (ks:Int))∧w2.cell? ⟨gr,2,none⟩=some (.slice b1 m1 e1)∧w2.cell? ⟨gr,3,none⟩=some (.slice b2 m2 e2)∧w2.cell? ⟨gr,4,none⟩=some (.slice b3 m3 e3)∧w2.cell? ⟨gr,5,none⟩=some (.slice b4 m4 e4):=by
      obtain⟨y1,y2,y3,y4,y5,y6⟩:=HU.o;rw[← y1,← y2,← y3,← y4,← y5,← y6];exact⟨A4 HM.o.rt 0 _ rfl,A4 HM.o.rt 1 _ rfl,A4 HM.o.rt 2 _ rfl,A4 HM.o.rt 3 _ rfl,A4 HM.o.rt 4 _ rfl,A4 HM.o.rt 5 _ rfl⟩
     go_wp2_with fail;clear r0 r1 r2 r3 r4 r5;refine(HND.o _ HM.o.below).mono ?_;rintro e w3 ⟨na,nn,nc,rfl,hn,hS2,hb⟩;have hM:=HM.o.step hb;have hS:=HS.o.below hb;clear HM HS hb;have HM:=hid hM;have HS:=hid hS;have HS2:=hid hS2;obtain rfl:=hn;clear hM hS hS2;go_wp2_with fail;refine(Q1 na _ nc N w3 HN.o (by have:=HS2.o.len;rw[HN.o] at this;exact this) (by have:=HS2.o.cap;unfold maxLen at this;omega) HS2.o.row).mono ?_;rintro e w4 ⟨rfl,hb⟩;have hM:=HM.o.step hb;have hS:=HS.o.below hb;clear HM HS HS2 hb;have HM:=hid hM;have HS:=hid hS;clear hM hS;obtain⟨D,hD⟩:=WY (De [] N);rw[hD];cases D with
     | true=>
       have HF:Hid (At L r=false):=hid (UG (by rw[HTN.o.2];exact hD));clear hD;go_wp2_with fail;go_ret;exact⟨by rw[HF.o];rfl,HM.o.below⟩
     | false=>
       have HD3:=hid hD;clear hD;obtain⟨l1,l2,r1,r2,r3,r5⟩:w4.cell? ⟨gl,1,none⟩=some (.slice a2 n2 c2)∧w4.cell? ⟨gl,2,none⟩=some (.slice (some ⟨xs,os,none⟩) n3 c3)∧w4.cell? ⟨gr,1,none⟩=some (.int .i64 (ks:Int))∧w4.cell? ⟨gr,2,none⟩=some (.slice b1 m1 e1)∧w4.cell? ⟨gr,3,none⟩=some (.slice b2 m2 e2)∧w4.cell? ⟨gr,5,none⟩=some (.slice b4 m4 e4):=by
        obtain⟨x1,x2,x3,x4⟩:=HV.o;obtain⟨y1,y2,y3,y4,y5,y6⟩:=HU.o;rw[← x2,← x3,← y2,← y3,← y4,← y6];exact⟨A4 HM.o.lay 1 _ rfl,A4 HM.o.lay 2 _ rfl,A4 HM.o.rt 1 _ rfl,A4 HM.o.rt 2 _ rfl,A4 HM.o.rt 3 _ rfl,A4 HM.o.rt 5 _ rfl⟩
       go_wp2_with fail;clear l1 l2 r1 r2 r3 r5;go_loopg [6,7,8,33] n2 (fun g _ _ _ i wr=>∃ k:Nat,k+g=n2∧i = .int .i64 (k:Int)∧Cl T r.po.l r.fl.l k (L.po.l.drop k)=Cl T r.po.l r.fl.l 0 L.po.l∧IP w wr gl gr L r∧B7 1 AT wr ⟨ta,tc,T⟩)
       case atStart=>exact⟨0,by omega,rfl,rfl,HM.o,HS.o⟩
       case round=>
        obtain⟨k,hk,rfl,hst,hM,hS⟩:=hrel;clear HM HS;have HM:=hid hM;have HS:=hid hS;have HST:=hid hst;clear hst hM hS;by_cases hlt:k<n2
        ·obtain⟨y,hy⟩:∃ y,L.po.l[k]?=some y:=⟨_,Wb (by rw[HNN.o.1];exact hlt)⟩;rcases R2.o.below HM.o.below with hnil | ⟨xb,off,rfl,hc⟩
         ·rw[hnil] at hy;simp at hy
         obtain⟨y0,y1⟩:=y;have z0:=hc k _ hy 0 _ rfl;have z1:=hc k _ hy 1 _ rfl;rw[Wa] at z0;dsimp only at z0 z1;have HY:=hid hy;have d1:(0:Int)≤k:=(by omega);have d2:(k:Int)<n2:=(by omega);have e0:wrap64 ((k:Int)+1)=(k:Int)+1:=(by have:=HNN.o;have:=M2.o;unfold wrap64;omega);have HK:=hid hk;clear hc hy hk;have hb4:=Ac wr (.cells #[.string y0,.int .i64 y1] 68);have hM:=HM.o.step hb4;have hS:=HS.o.below hb4;clear HM HS;have HM:=hid hM;have HS:=hid hS;clear hM hS hb4;obtain⟨D,hD⟩:=WY (AB T y1);have HD:=hid hD;have HC:=hid (Cq D ta (m1+m3) tc T y1 (wr.alloc (.cells #[.string y0,.int .i64 y1] 68)) hD HT.o (by have:=HL1.o;omega) HS.o.row);clear hD;go_wp2_with fail;refine HC.o.mono ?_;rintro e w5 ⟨rfl,rfl⟩;clear HC z0 z1;obtain⟨W5,hW5⟩:=X0 (wr.alloc (.cells #[.string y0,.int .i64 y1] 68));rw[← hW5] at HM HS ⊢;clear hW5;obtain⟨E,hE⟩:=WY (DT r.po.l k);have HE:=hid hE;have HC:=hid (OM E k b2 m2 e2 r.po.l W5 hE HMM.o.2.1 (by have:=HL2.o;omega) (Q2.o.below HM.o.below));clear hE;obtain⟨l1,l2,r1,r2,r3,r5⟩:W5.cell? ⟨gl,1,none⟩=some (.slice (some ⟨xb,off,none⟩) n2 c2)∧W5.cell? ⟨gl,2,none⟩=some (.slice (some ⟨xs,os,none⟩) n3 c3)∧W5.cell? ⟨gr,1,none⟩=some (.int .i64 (ks:Int))∧W5.cell? ⟨gr,2,none⟩=some (.slice b1 m1 e1)∧W5.cell? ⟨gr,3,none⟩=some (.slice b2 m2 e2)∧W5.cell? ⟨gr,5,none⟩=some (.slice b4 m4 e4):=by
          obtain⟨x1,x2,x3,x4⟩:=HV.o;obtain⟨y1,y2,y3,y4,y5,y6⟩:=HU.o;rw[← x2,← x3,← y2,← y3,← y4,← y6];exact⟨A4 HM.o.lay 1 _ rfl,A4 HM.o.lay 2 _ rfl,A4 HM.o.rt 1 _ rfl,A4 HM.o.rt 2 _ rfl,A4 HM.o.rt 3 _ rfl,A4 HM.o.rt 5 _ rfl⟩
         go_wp2_with fail;refine HC.o.mono ?_;rintro e w6 ⟨rfl,hb⟩;have hM:=HM.o.step hb;have hS:=HS.o.below hb;clear HM HS HC hb l1 l2 r1 r2 r3 r5;have HM:=hid hM;have HS:=hid hS;clear hM hS;rcases Decidable.em (D=E) with hde | hde
         ·subst hde;cases D with
          | false=>
            have HX:Hid (Cl T r.po.l r.fl.l (k+1) (L.po.l.drop (k+1))=Cl T r.po.l r.fl.l 0 L.po.l):=hid (by rw[← HST.o,Cd HY.o,Mw HD.o HE.o];rfl);go_wp2_with fail;go_roundg (n2 - (k+1))
            case rel=>exact⟨k+1,by have:=HK.o;omega,by go_num,HX.o,HM.o,HS.o⟩
            case measure=>have:=HK.o;omega
          | true=>
            obtain⟨F,hF⟩:=WY (DT r.fl.l k);have HFF:=hid hF;have HC:=hid (OM F k b4 m4 e4 r.fl.l w6 hF HMM.o.2.2.2 (by have:=HL2.o;omega) (Q4.o.below HM.o.below));clear hF;obtain⟨l1,l2,r1,r2,r3,r5⟩:w6.cell? ⟨gl,1,none⟩=some (.slice (some ⟨xb,off,none⟩) n2 c2)∧w6.cell? ⟨gl,2,none⟩=some (.slice (some ⟨xs,os,none⟩) n3 c3)∧w6.cell? ⟨gr,1,none⟩=some (.int .i64 (ks:Int))∧w6.cell? ⟨gr,2,none⟩=some (.slice b1 m1 e1)∧w6.cell? ⟨gr,3,none⟩=some (.slice b2 m2 e2)∧w6.cell? ⟨gr,5,none⟩=some (.slice b4 m4 e4):=by
             obtain⟨x1,x2,x3,x4⟩:=HV.o;obtain⟨y1,y2,y3,y4,y5,y6⟩:=HU.o;rw[← x2,← x3,← y2,← y3,← y4,← y6];exact⟨A4 HM.o.lay 1 _ rfl,A4 HM.o.lay 2 _ rfl,A4 HM.o.rt 1 _ rfl,A4 HM.o.rt 2 _ rfl,A4 HM.o.rt 3 _ rfl,A4 HM.o.rt 5 _ rfl⟩
            go_wp2_with fail;refine HC.o.mono ?_;rintro e w7 ⟨rfl,hb⟩;have hM:=HM.o.step hb;have hS:=HS.o.below hb;clear HM HS HC hb l1 l2 r1 r2 r3 r5;have HM:=hid hM;have HS:=hid hS;clear hM hS;cases F with
            | false=>
              have HX:Hid (Cl T r.po.l r.fl.l (k+1) (L.po.l.drop (k+1))=Cl T r.po.l r.fl.l 0 L.po.l):=hid (by rw[← HST.o,Cd HY.o,Gr HD.o HE.o HFF.o];rfl);go_wp2_with fail;go_roundg (n2 - (k+1))
              case rel=>exact⟨k+1,by have:=HK.o;omega,by go_num,HX.o,HM.o,HS.o⟩
              case measure=>have:=HK.o;omega
            | true=>
              have HF:Hid (At L r=false):=hid (OH (by rw[HTN.o.1,← HST.o,Cd HY.o,Gr HD.o HE.o HFF.o];rfl));go_wp2_with fail;go_ret;exact⟨by rw[HF.o];rfl,HM.o.below⟩
         ·have HF:Hid (At L r=false):=hid (OH (by rw[HTN.o.1,← HST.o,Cd HY.o,Jr HD.o HE.o hde];rfl));cases D<;>cases E<;>first | exact absurd rfl hde | skip
          all_goals
           clear hde;go_wp2_with fail;go_ret;exact⟨by rw[HF.o];rfl,HM.o.below⟩
        ·have hkm:n2=k:=(by omega);subst hkm;have HF:Hid (At L r=true):=hid (UH (by rw[HMM.o.1];exact H0.o) (by rw[HTN.o.1];exact HD1.o) (by rw[HTN.o.1];exact HD2.o) (by rw[HTN.o.2];exact HD3.o) (by rw[HTN.o.1,← HST.o,Iq HNN.o.1]));go_wp2_with fail;go_ret;exact⟨by rw[HF.o];rfl,HM.o.below⟩
end
section
theorem CI{n:Nat}{l:List Int}(h:Ax n l=true):∀ x∈l,0≤x∧x<(n:Int):=by
 unfold Ax at h;rw[Wm] at h;exact fun x hx=>of_decide_eq_true (h x hx)
structure Us(L:AL)(r:Rt):Prop where
 s0:0≤r.sg
 s1:r.sg<(L.sg.l.length:Int)
 pa:r.pa.l.length≤16
 ov:r.ov.l.length≤16
 po:r.po.l.length≤16
 fl:r.fl.l.length≤16
 pb:Ax L.se.l.length r.pa.l=true
 ob:Ax L.se.l.length r.ov.l=true
 qb:Ax L.po.l.length (r.po.l.map (·.1))=true
 fb:Ax L.po.l.length (r.fl.l.map (·.1))=true
theorem Bv{L:AL}(h:AX L=true):∀ r∈L.rt.l,Us L r:=by
 intro r hr;unfold AX BT at h;simp only[Wl] at h;obtain⟨_,_,⟨_,h1⟩,h2⟩:=h;have a:=CI h1 r.sg (List.mem_map.2 ⟨r,hr,rfl⟩);rw[Wm] at h2;have b:=h2 r hr;unfold Fz Cv at b;simp only[Wl,decide_eq_true_eq] at b;obtain⟨⟨⟨⟨b1,b2⟩,b3⟩,b4⟩,⟨b5,b6⟩,b7,b8⟩:=b;exact⟨a.1,a.2,b1,b2,b5,b7,b3,b4,b6,b8⟩
def Eo(L:AL):Int:=BU (fun r=>!At L r) 0 L.rt.l
def Ap(L:AL):Int × Int:=if AX L then (if 0≤Eo L then (50,Eo L) else (0,0)) else (2,0)
theorem Oo{L:AL}(h:AX L=false):Ap L=(2,0):=by unfold Ap;rw[h];rfl
theorem Lf{L:AL}{z:Int}(h:AX L=true)(hz:Eo L=z)(h0:0≤z):Ap L=(50,z):=by unfold Ap;rw[h,hz,if_pos rfl,if_pos h0]
theorem SE{L:AL}{z:Int}(h:AX L=true)(hz:Eo L=z)(h0:¬ 0≤z):Ap L=(0,0):=by unfold Ap;rw[h,hz,if_pos rfl,if_neg h0]
attribute [local irreducible] AB DT Cu De FT Cl Bt At Sl.v C7 BU AX
theorem N0(gl:Nat)(t:TypeId)(fr:Nat × Nat)(L:AL)(r:Rt)(w:World)(b:Bool)(hb:At L r=b)(hg:w.heap[gl]?=some (.cells #[L.se.v,L.po.v,L.sg.v,L.rt.v] t fr))(hL:AO w L)(hr:CM w r)(ho:Us L r) :
 Calls Tryz.prog 48 #[.agg #[.string r.nm,.int .i64 r.sg,r.pa.v,r.po.v,r.ov.v,r.fl.v],.pointer (some ⟨gl,0,none⟩)] w fun e w'=>e = .returned (.bool (!b))∧Below w.heap.size w w':=by
 have HF:Hid (∀ W,Below w.heap.size w W→Calls Tryz.prog 49 #[.agg #[L.se.v,L.po.v,L.sg.v,L.rt.v],.agg #[.string r.nm,.int .i64 r.sg,r.pa.v,r.po.v,r.ov.v,r.fl.v]] W fun e w'=>e = .returned (.bool b)∧Below W.heap.size W w'):=
  hid (fun W hW=>hb ▸ Nn L r W (hL.below hW) (hr.below hW) ho.s0 ho.s1 (by have:=ho.pa;have:=ho.ov;omega) (by have:=ho.po;have:=ho.fl;omega))
 obtain⟨m1,hm1⟩:=WY r.pa.l.length;obtain⟨m2,hm2⟩:=WY r.po.l.length;obtain⟨m3,hm3⟩:=WY r.ov.l.length;obtain⟨m4,hm4⟩:=WY r.fl.l.length;obtain⟨n1,hn1⟩:=WY L.se.l.length;obtain⟨n2,hn2⟩:=WY L.po.l.length;obtain⟨n3,hn3⟩:=WY L.sg.l.length;obtain⟨n4,hn4⟩:=WY L.rt.l.length;rw[Ak hm1,Ak hm2,Ak hm3,Ak hm4,Ak hn1,Ak hn2,Ak hn3,Ak hn4] at HF;rw[Ak hn1,Ak hn2,Ak hn3,Ak hn4] at hg;rw[Ak hm1,Ak hm2,Ak hm3,Ak hm4];clear hm1 hm2 hm3 hm4 hn1 hn2 hn3 hn4 hL hr ho hb;have l0:=A4 hg 0 _ rfl;have l1:=A4 hg 1 _ rfl;have l2:=A4 hg 2 _ rfl;have l3:=A4 hg 3 _ rfl;have hlt:=Aj hg;clear hg;go_enter Tryz.func48,Tryz.ntmps48;go_wp2_with fail;refine(HF.o _ (Ac w _)).mono ?_;rintro e w1 ⟨rfl,hb1⟩;have HB:=hid (A6 (Ac w _) hb1);clear hb1 l0 l1 l2 l3;go_wp2_with fail;go_ret;exact⟨rfl,HB.o⟩
theorem Tx(gl:Nat)(p:Rt→Bool)(x:Option Addr)(m c:Nat)(l:List Rt)(w:World)(hn:l.length=m)(hm:m≤9223372036854775807)(hl:As 6 Qj w x l)
 (hp:∀ W,Below w.heap.size w W→∀ r∈l,Calls Tryz.prog 48 #[.agg #[.string r.nm,.int .i64 r.sg,r.pa.v,r.po.v,r.ov.v,r.fl.v],.pointer (some ⟨gl,0,none⟩)] W fun e w'=>e = .returned (.bool (p r))∧Below W.heap.size W w') :
 Calls Tryz.prog 47 #[.slice x m c,.func (.func 48) #[] #[.pointer (some ⟨gl,0,none⟩)]] w fun e w'=>e = .returned (.int .i64 (BU p 0 l))∧Below w.heap.size w w':=by
 have HN:=hid hn;have HP:=hid hp;have HR:=hid hl;clear hn hp hl;go_enter Tryz.func47,Tryz.ntmps47;go_wp2_with fail;go_loopg [5,8] m (fun g _ i wr=>∃ k:Nat,k+g=m∧i = .int .i64 (k:Int)∧BU p k (l.drop k)=BU p 0 l∧Below w.heap.size w wr)
 case atStart=>exact⟨0,by omega,rfl,rfl,VU _ _⟩
 case round=>
  obtain⟨k,hk,rfl,hb,hbw⟩:=hrel;have HB:=hid hb;have HBW:=hid hbw;clear hb hbw;by_cases hlt:k<m
  ·obtain⟨y,hy⟩:∃ y,l[k]?=some y:=⟨_,Wb (by rw[HN.o];exact hlt)⟩;rcases HR.o.below HBW.o with hnil | ⟨b,off,rfl,hc⟩
   ·rw[hnil] at hy;simp at hy
   have z0:=hc k _ hy 0 _ rfl;have z1:=hc k _ hy 1 _ rfl;have z2:=hc k _ hy 2 _ rfl;have z3:=hc k _ hy 3 _ rfl;have z4:=hc k _ hy 4 _ rfl;have z5:=hc k _ hy 5 _ rfl;rw[Wa] at z0;have hd:=CE (p:=p) hy;have d1:(0:Int)≤k:=(by omega);have d2:(k:Int)<m:=(by omega);have e1:wrap64 ((k:Int)+1)=(k:Int)+1:=(by unfold wrap64;omega);have HK:=hid hk;have hcall:=HP.o wr HBW.o y (Wf hy);obtain⟨D,hD⟩:=WY (p y);rw[hD] at hcall hd;obtain⟨m1,hm1⟩:=WY y.pa.l.length;obtain⟨m2,hm2⟩:=WY y.po.l.length;obtain⟨m3,hm3⟩:=WY y.ov.l.length;obtain⟨m4,hm4⟩:=WY y.fl.l.length;rw[Ak hm1,Ak hm2,Ak hm3,Ak hm4] at hcall;rw[Ak hm1] at z2;rw[Ak hm2] at z3;rw[Ak hm3] at z4;rw[Ak hm4] at z5;have HC:=hid hcall;clear hc hy hk hcall hD hm1 hm2 hm3 hm4;cases D with
   | true=>
     have HF:Hid (BU p 0 l=k):=hid (HB.o.symm.trans (by rw[hd,if_pos rfl]));clear hd;go_wp2_with fail;refine HC.o.mono ?_;rintro e w5 ⟨rfl,hb5⟩;have HB5:=hid (A6 HBW.o hb5);clear hb5;go_wp2_with fail;go_ret;exact⟨by rw[HF.o];rfl,HB5.o⟩
   | false=>
     have HT:Hid (BU p (k+1) (l.drop (k+1))=BU p 0 l):=hid (Eq.trans (by rw[hd,if_neg (by decide)]) HB.o);clear hd;go_wp2_with fail;refine HC.o.mono ?_;rintro e w5 ⟨rfl,hb5⟩;have HB5:=hid (A6 HBW.o hb5);clear hb5;go_wp2_with fail;go_roundg (m - (k+1))
     case rel=>exact⟨k+1,by have:=HK.o;omega,by go_num,HT.o,HB5.o⟩
     case measure=>have:=HK.o;omega
  ·have hkm:m=k:=(by omega);subst hkm;have HF:Hid (BU p 0 l = -1):=hid (HB.o.symm.trans (Dk HN.o));go_wp2_with fail;go_ret;exact⟨by rw[HF.o];rfl,HBW.o⟩
theorem JX(L:AL)(w:World)(hL:AO w L) :
 Calls Tryz.prog 28 #[.agg #[L.se.v,L.po.v,L.sg.v,L.rt.v]] w fun e w'=>e = .returned (.tuple #[.int .i64 (Ap L).1,.int .i64 (Ap L).2])∧Below w.heap.size w w':=by
 have HMAY:Hid (∀ W,Below w.heap.size w W→Calls Tryz.prog 46 #[.agg #[L.se.v,L.po.v,L.sg.v,L.rt.v]] W fun e w'=>e = .returned (.bool (AX L))∧Below W.heap.size W w'):=hid (fun W hW=>Mo L W (hL.below hW));have HLW:=hid hL;obtain⟨n1,hn1⟩:=WY L.se.l.length;obtain⟨n2,hn2⟩:=WY L.po.l.length;obtain⟨n3,hn3⟩:=WY L.sg.l.length;obtain⟨n4,hn4⟩:=WY L.rt.l.length;have hm4:n4≤9223372036854775807:=by rw[← hn4];exact hL.rt.lenM
 have HN:=hid (And.intro (Ak hn1) (And.intro (Ak hn2) (And.intro (Ak hn3) (And.intro (Ak hn4) hm4))));have HN4:=hid hn4;rw[Ak hn1,Ak hn2,Ak hn3,Ak hn4] at HMAY ⊢;clear hn1 hn2 hn3 hn4 hm4 hL;obtain⟨gl,hgl⟩:=X0 w.heap.size;have HGL:=hid hgl;clear hgl;obtain⟨B,hB⟩:=WY (AX L);rw[hB] at HMAY;have HBB:=hid hB;clear hB;go_enter Tryz.func28,Tryz.ntmps28;go_wp2_with fail;refine(HMAY.o _ (Ac w _)).mono ?_;rintro e w1 ⟨rfl,hb1⟩;have hq:=A5 hb1 (Al w (.cells #[.slice L.se.a n1 L.se.c,.slice L.po.a n2 L.po.c,.slice L.sg.a n3 L.sg.c,.slice L.rt.a n4 L.rt.c] 27) (VU _ _));have hbw:=A6 (Ac w _) hb1;rw[← HGL.o] at hq ⊢;have HB1:=hid hbw;clear hb1 hbw;cases B with
 | false=>
   have HC:=hid (Oo HBB.o);clear hq;go_wp2_with fail;go_ret2;exact⟨by rw[HC.o];rfl,HB1.o⟩
 | true=>
   have l3:=A4 hq 3 _ rfl;obtain⟨z,hz⟩:=WY (Eo L);have HZ:=hid hz;have HIX:Hid (Calls Tryz.prog 47 #[.slice L.rt.a n4 L.rt.c,.func (.func 48) #[] #[.pointer (some ⟨gl,0,none⟩)]] w1 fun e w'=>e = .returned (.int .i64 z)∧Below w1.heap.size w1 w'):=by
    have hLw:=HLW.o.below HB1.o;have hok:=Bv HBB.o;refine hid (hz ▸ Tx gl (fun r=>!At L r) _ _ _ L.rt.l w1 HN4.o HN.o.2.2.2.2 hLw.rt.row (fun W hW r hr=>N0 gl 27 (0,0) L r W _ rfl ?_ (hLw.below hW) ((hLw.rn r hr).below hW) (hok r hr)));obtain⟨x1,x2,x3,x4,_⟩:=HN.o;rw[x1,x2,x3,x4];exact A5 hW hq
   clear hq hz;go_wp2_with fail;refine HIX.o.mono ?_;rintro e w2 ⟨rfl,hb2⟩;have HB2:=hid (A6 HB1.o hb2);clear hb2 l3;by_cases hz0:0≤z
   ·have HC:=hid (Lf HBB.o HZ.o hz0);go_wp2_with fail;go_ret2;exact⟨by rw[HC.o];rfl,HB2.o⟩
   ·have HC:=hid (SE HBB.o HZ.o hz0);go_wp2_with fail;go_ret2;exact⟨by rw[HC.o];rfl,HB2.o⟩
end
section
theorem Cs:∀(os:List Obj) (w:World),Below w.heap.size w (os.foldl World.alloc w):=by
 intro os
 induction os with
 | nil=>exact fun w=>VU _ _
 | cons o os ih=>exact fun w=>A6 (Ac w o) (ih (w.alloc o))
theorem DP:∀(os:List Obj) (w:World) (i:Nat) (o:Obj),os[i]?=some o→(os.foldl World.alloc w).heap[w.heap.size+i]?=some o:=by
 intro os
 induction os with
 | nil=>intro w i o h;simp at h
 | cons p os ih=>
   intro w i o h;cases i with
   | zero=>
     simp at h;subst h;exact Al w p (Cs os (w.alloc p))
   | succ i=>
     have:=ih (w.alloc p) i o (by simpa using h);have e:(w.alloc p).heap.size=w.heap.size+1:=(by simp);rw[e,show w.heap.size+1+i=w.heap.size+(i+1) by omega] at this;exact this
theorem CR{α:Type}{sz:Nat}{f:α→List Value}(hf:∀ c,(f c).length=sz){w:World}{g:Nat}{cs:Array Value}{t:TypeId}{fr:Nat × Nat}{l:List α}(h:w.heap[g]?=some (.cells cs t fr))(hcs:cs.toList=l.flatMap f):As sz f w (some ⟨g,0,none⟩) l:=by
 refine .inr ⟨g,0,rfl,fun i c hi j v hv=>?_⟩;rw[Wq];refine A4 h _ _ ?_;rw[← WW,hcs];exact GM hf l i c j v hi hv
theorem D2{α:Type}{sz:Nat}{f:α→List Value}(hf:∀ c,(f c).length=sz){w:World}{g n:Nat}{cs:Array Value}{t:TypeId}{fr:Nat × Nat}{l:List α}(h:w.heap[g]?=some (.cells cs t fr))(hcs:cs.toList=l.flatMap f)(hn:l.length=n)(hm:n≤maxLen):B7 sz f w ⟨some ⟨g,0,none⟩,n,l⟩:=
 ⟨CR hf h hcs,by dsimp only;omega,hm,fun h=>by cases h⟩
theorem FZ(c:BA × Int):(O3 c).length=2:=rfl
theorem Lz(c:Rt):(Qj c).length=6:=rfl
theorem CU{α:Type}{sz:Nat}{f:α→List Value}{w:World}:B7 sz f w ⟨none,0,[]⟩:=⟨.inl rfl,Wc _,Nat.zero_le _,fun _=>rfl⟩
theorem Ao{P:World→Prop}{os:List Obj}{w0 w:World}(hw:os.foldl World.alloc w0=w)(h:∀ W:World,(∀ i o,os[i]?=some o→W.heap[w0.heap.size+i]?=some o)→Below w0.heap.size w0 W→P W):P w:=
 h w (fun i o hi=>hw ▸ DP os w0 i o hi) (hw ▸ Cs os w0)
theorem BR{P:World→Prop}{w:World}(h:∀ W,W=w→P W):P w:=h w rfl
theorem Bc{K:Act→World→Prop}{a:Act}{w:World}(h:∀ W,W=w→K a W):K a w:=h w rfl
theorem E6{w w':World}(h:Below w.drew.heap.size w.drew w'):Below w.heap.size w w':=⟨h.os,h.tape,h.output,h.size,h.block⟩
end
section
def L3{α:Type}(t:Int)(f:Int→α→Int):Int→List α→Int
 | z,[]=>z
 | z,y :: l=>if z≤t then L3 t f (f z y) l else z
theorem FJ{α:Type}{t:Int}{f:Int→α→Int}{z:Int}{l:List α}{y:α}{k:Nat}(h:l[k]?=some y)(hz:z≤t):L3 t f z (l.drop k)=L3 t f (f z y) (l.drop (k+1)):=by
 have hk:k<l.length:=(We.1 h).1;rw[List.drop_eq_getElem_cons hk,(We.1 h).2];show(if z≤t then _ else _)=_;rw[if_pos hz]
theorem FK{α:Type}{t:Int}{f:Int→α→Int}{z:Int}{l:List α}{k n:Nat}(hn:l.length=n)(h:n≤k∨t<z):L3 t f z (l.drop k)=z:=by
 cases hd:l.drop k with
 | nil=>rfl
 | cons y m=>
   rcases h with h | h
   ·rw[List.drop_eq_nil_of_le (by omega)] at hd;cases hd
   ·show(if z≤t then _ else _)=_;rw[if_neg (by omega)]
def MU(z:Int)(s:BA):Int:=wrap64 (wrap64 (z+1)+(s.size:Int))
def Sx(t z:Int)(r:Rt):Int:=
 let y:=wrap64 (wrap64 (wrap64 (wrap64 (z+1)+(r.nm.size:Int))+(r.pa.l.length:Int))+(r.po.l.length:Int))
 if y≤t then wrap64 (wrap64 (y+(r.ov.l.length:Int))+(r.fl.l.length:Int)) else y
def C3(t:Int)(L:AL):Int:=L3 t (Sx t) (L3 t (fun z (p:BA × Int)=>MU z p.1) (L3 t (fun z (p:BA × Int)=>MU z p.1) (L3 t MU 0 L.se.l) L.po.l) L.sg.l) L.rt.l
theorem LN(z:Int)(s:BA):wrap64 (wrap64 (z+1)+(s.size:Int))=MU z s:=rfl
theorem Uk{t z:Int}{r:Rt}{m1 m2 m3 m4:Nat}(h:r.pa.l.length=m1∧r.po.l.length=m2∧r.ov.l.length=m3∧r.fl.l.length=m4)(q:wrap64 (wrap64 (wrap64 (wrap64 (z+1)+(r.nm.size:Int))+(m1:Int))+(m2:Int))≤t) :
 wrap64 (wrap64 (wrap64 (wrap64 (wrap64 (wrap64 (z+1)+(r.nm.size:Int))+(m1:Int))+(m2:Int))+(m3:Int))+(m4:Int))=Sx t z r:=by
 obtain⟨rfl,rfl,rfl,rfl⟩:=h;unfold Sx;rw[if_pos q]
theorem Uj{t z:Int}{r:Rt}{m1 m2 m3 m4:Nat}(h:r.pa.l.length=m1∧r.po.l.length=m2∧r.ov.l.length=m3∧r.fl.l.length=m4)(q:¬ wrap64 (wrap64 (wrap64 (wrap64 (z+1)+(r.nm.size:Int))+(m1:Int))+(m2:Int))≤t) :
 wrap64 (wrap64 (wrap64 (wrap64 (z+1)+(r.nm.size:Int))+(m1:Int))+(m2:Int))=Sx t z r:=by
 obtain⟨rfl,rfl,rfl,rfl⟩:=h;unfold Sx;rw[if_neg q]
attribute [local irreducible] Sl.v L3 Sx MU
theorem IK(t:Int)(L:AL)(w:World)(hL:AO w L) :
 Calls Tryz.prog 16 #[.agg #[L.se.v,L.po.v,L.sg.v,L.rt.v],.int .i64 t] w fun e w'=>e = .returned (.int .i64 (C3 t L))∧Below w.heap.size w w':=by
 have HR1:=hid hL.se.row;have HR2:=hid hL.po.row;have HR3:=hid hL.sg.row;have HR4:=hid hL.rt.row;obtain⟨n1,hn1⟩:=WY L.se.l.length;obtain⟨n2,hn2⟩:=WY L.po.l.length;obtain⟨n3,hn3⟩:=WY L.sg.l.length;obtain⟨n4,hn4⟩:=WY L.rt.l.length;have HM1:Hid (n1≤9223372036854775807):=hid (by rw[← hn1];exact hL.se.lenM);have HM2:Hid (n2≤9223372036854775807):=hid (by rw[← hn2];exact hL.po.lenM);have HM3:Hid (n3≤9223372036854775807):=hid (by rw[← hn3];exact hL.sg.lenM);have HM4:Hid (n4≤9223372036854775807):=hid (by rw[← hn4];exact hL.rt.lenM);have HN1:=hid hn1;have HN2:=hid hn2;have HN3:=hid hn3;have HN4:=hid hn4;rw[Ak hn1,Ak hn2,Ak hn3,Ak hn4];clear hn1 hn2 hn3 hn4 hL;obtain⟨W1,hW1⟩:=X0 (L3 t MU 0 L.se.l);obtain⟨W2,hW2⟩:=X0 (L3 t (fun z (p:BA × Int)=>MU z p.1) W1 L.po.l);obtain⟨W3,hW3⟩:=X0 (L3 t (fun z (p:BA × Int)=>MU z p.1) W2 L.sg.l);obtain⟨W4,hW4⟩:=X0 (L3 t (Sx t) W3 L.rt.l);have HW:Hid (C3 t L=W4):=hid (by rw[hW4,hW3,hW2,hW1];rfl);have HW1:=hid hW1.symm;have HW2:=hid hW2.symm;have HW3:=hid hW3.symm;have HW4:=hid hW4.symm;clear hW1 hW2 hW3 hW4;obtain⟨gl,hgl⟩:=X0 w.heap.size;have HGL:=hid hgl;clear hgl;go_enter Tryz.func16,Tryz.ntmps16;go_wp2_with fail;refine Ea ?_;intro W0 hW0;have hq:W0.heap[gl]?=some (.cells #[.slice L.se.a n1 L.se.c,.slice L.po.a n2 L.po.c,.slice L.sg.a n3 L.sg.c,.slice L.rt.a n4 L.rt.c] 27):=by rw[hW0,HGL.o];exact Al w _ (VU _ _)
 have hb0:Below w.heap.size w W0:=by rw[hW0];exact Ac w _
 rw[← HGL.o];have HQ:=hid hq;have HB:=hid hb0;clear hq hb0 hW0
 skip
 go_loopg [5,6] n1 (fun g nn i wr=>∃(k:Nat) (z:Int),k+g=n1∧nn = .int .i64 z∧i = .int .i64 (k:Int)∧L3 t MU z (L.se.l.drop k)=W1∧wr.heap[gl]?=some (.cells #[.slice L.se.a n1 L.se.c,.slice L.po.a n2 L.po.c,.slice L.sg.a n3 L.sg.c,.slice L.rt.a n4 L.rt.c] 27)∧Below w.heap.size w wr)
 case atStart=>exact⟨0,0,by omega,rfl,rfl,HW1.o,HQ.o,HB.o⟩
 case round=>
  obtain⟨k,z,hk,rfl,rfl,hst,hq,hbw⟩:=hrel;clear HQ HB;have HST:=hid hst;have HQ:=hid hq;have HB:=hid hbw;have l1:=A4 hq 0 _ rfl;have hgz:=Aj hq;have HGZ:=hid hgz;have HK:=hid hk;clear hst hq hbw hk hgz;have e0:k<n1→wrap64 ((k:Int)+1)=(k:Int)+1:=(by intro h;have:=HM1.o;unfold wrap64;omega);have HE:=hid e0;clear e0;go_upto_region 3 with fail
  go_cut [15,16,17,18,19,20] (fun _s15 _s16 _s17 _s18 _s19 s20 wx=>∃ D:Bool,s20 = .bool D∧wr=wx∧Hid (D=true→k<n1∧z≤t)∧Hid (D=false→n1≤k∨t<z))
  case first=>
   by_cases hlt:k<n1
   ·have d1:(k:Int)<n1:=(by omega);by_cases hz:z≤t
    ·go_wp2_with fail;go_meet;exact⟨true,rfl,rfl,hid (fun _=>⟨hlt,hz⟩),hid (fun h=>absurd h (by decide))⟩
    ·go_wp2_with fail;go_meet;exact⟨false,rfl,rfl,hid (fun h=>absurd h (by decide)),hid (fun _=>.inr (by omega))⟩
   ·have d1:¬ (k:Int)<n1:=(by omega);go_wp2_with fail;go_meet;exact⟨false,rfl,rfl,hid (fun h=>absurd h (by decide)),hid (fun _=>.inl (Nat.le_of_not_lt hlt))⟩
  case rest=>
   obtain⟨D,rfl,hwx,hD1,hD2⟩:=hcut;subst hwx;cases D with
   | true=>
     obtain⟨hlt,hz⟩:=hD1.o rfl;clear hD1 hD2;have e0:=HE.o hlt;clear HE;obtain⟨y,hy⟩:∃ y,L.se.l[k]?=some y:=⟨_,Wb (by rw[HN1.o];exact hlt)⟩;have hst:=HST.o;rw[FJ hy hz] at hst;clear HST;have hz2:=hz;clear hz;rcases HR1.o.below HB.o with hnil | ⟨xb,off,hxb,hc⟩
     ·rw[hnil] at hy;simp at hy
     have z0:=hc k _ hy 0 _ rfl;rw[Wa,Nat.mul_one] at z0;have d1:(0:Int)≤k:=(by omega);have d2:(k:Int)<n1:=(by omega);have HX:=hid hst;have HLT:=hid hlt;clear hc hy hst hlt hz2;obtain⟨x,hx⟩:=WY L.se.a;have HXX:=hid hx;rw[hx] at l1 HQ hxb ⊢;subst hxb;clear hx;go_wp2_with fail;rw[← HXX.o];go_roundg (n1 - (k+1))
     case rel=>exact⟨k+1,wrap64 (wrap64 (z+1)+((y.size:Nat):Int)),by have:=HK.o;have:=HLT.o;omega,rfl,by go_num,by rw[LN];exact HX.o,by rw[HXX.o];exact HQ.o,HB.o⟩
     case measure=>have:=HK.o;have:=HLT.o;omega
   | false=>
     have h:=FK (f:=MU) HN1.o (hD2.o rfl);rw[HST.o] at h;subst h;clear hD1 hD2 HST HE l1 HK HGZ;go_wp2_with fail;go_loopg [5,7] n2 (fun g nn i wr=>∃(k:Nat) (z:Int),k+g=n2∧nn = .int .i64 z∧i = .int .i64 (k:Int)∧L3 t (fun z (p:BA × Int)=>MU z p.1) z (L.po.l.drop k)=W2∧wr.heap[gl]?=some (.cells #[.slice L.se.a n1 L.se.c,.slice L.po.a n2 L.po.c,.slice L.sg.a n3 L.sg.c,.slice L.rt.a n4 L.rt.c] 27)∧Below w.heap.size w wr)
     case atStart=>exact⟨0,W1,by omega,rfl,rfl,HW2.o,HQ.o,HB.o⟩
     case round=>
      obtain⟨k,z,hk,rfl,rfl,hst,hq,hbw⟩:=hrel;clear HQ HB;have HST:=hid hst;have HQ:=hid hq;have HB:=hid hbw;have l2:=A4 hq 1 _ rfl;have hgz:=Aj hq;have HGZ:=hid hgz;have HK:=hid hk;clear hst hq hbw hk hgz;have e0:k<n2→wrap64 ((k:Int)+1)=(k:Int)+1:=(by intro h;have:=HM2.o;unfold wrap64;omega);have HE:=hid e0;clear e0;go_upto_region 7 with fail
      go_cut [36,37,38,39,40,41] (fun _s36 _s37 _s38 _s39 _s40 s41 wx=>∃ D:Bool,s41 = .bool D∧wr=wx∧Hid (D=true→k<n2∧z≤t)∧Hid (D=false→n2≤k∨t<z))
      case first=>
       by_cases hlt:k<n2
       ·have d1:(k:Int)<n2:=(by omega);by_cases hz:z≤t
        ·go_wp2_with fail;go_meet;exact⟨true,rfl,rfl,hid (fun _=>⟨hlt,hz⟩),hid (fun h=>absurd h (by decide))⟩
        ·go_wp2_with fail;go_meet;exact⟨false,rfl,rfl,hid (fun h=>absurd h (by decide)),hid (fun _=>.inr (by omega))⟩
       ·have d1:¬ (k:Int)<n2:=(by omega);go_wp2_with fail;go_meet;exact⟨false,rfl,rfl,hid (fun h=>absurd h (by decide)),hid (fun _=>.inl (Nat.le_of_not_lt hlt))⟩
      case rest=>
       obtain⟨D,rfl,hwx,hD1,hD2⟩:=hcut;subst hwx;cases D with
       | true=>
         obtain⟨hlt,hz⟩:=hD1.o rfl;clear hD1 hD2;have e0:=HE.o hlt;clear HE;obtain⟨y,hy⟩:∃ y,L.po.l[k]?=some y:=⟨_,Wb (by rw[HN2.o];exact hlt)⟩;have hst:=HST.o;rw[FJ hy hz] at hst;clear HST;have hz2:=hz;clear hz;rcases HR2.o.below HB.o with hnil | ⟨xb,off,hxb,hc⟩
         ·rw[hnil] at hy;simp at hy
         have z0:=hc k _ hy 0 _ rfl;rw[Wa] at z0;have d1:(0:Int)≤k:=(by omega);have d2:(k:Int)<n2:=(by omega);have HX:=hid hst;have HLT:=hid hlt;clear hc hy hst hlt hz2;obtain⟨x,hx⟩:=WY L.po.a;have HXX:=hid hx;rw[hx] at l2 HQ hxb ⊢;subst hxb;clear hx;go_wp2_with fail;rw[← HXX.o];go_roundg (n2 - (k+1))
         case rel=>exact⟨k+1,wrap64 (wrap64 (z+1)+((y.1.size:Nat):Int)),by have:=HK.o;have:=HLT.o;omega,rfl,by go_num,by rw[LN];exact HX.o,by rw[HXX.o];exact HQ.o,HB.o⟩
         case measure=>have:=HK.o;have:=HLT.o;omega
       | false=>
         have h:=FK (f:=(fun z (p:BA × Int)=>MU z p.1)) HN2.o (hD2.o rfl);rw[HST.o] at h;subst h;clear hD1 hD2 HST HE l2 HK HGZ;go_wp2_with fail;go_loopg [5,8] n3 (fun g nn i wr=>∃(k:Nat) (z:Int),k+g=n3∧nn = .int .i64 z∧i = .int .i64 (k:Int)∧L3 t (fun z (p:BA × Int)=>MU z p.1) z (L.sg.l.drop k)=W3∧wr.heap[gl]?=some (.cells #[.slice L.se.a n1 L.se.c,.slice L.po.a n2 L.po.c,.slice L.sg.a n3 L.sg.c,.slice L.rt.a n4 L.rt.c] 27)∧Below w.heap.size w wr)
         case atStart=>exact⟨0,W2,by omega,rfl,rfl,HW3.o,HQ.o,HB.o⟩
         case round=>
          obtain⟨k,z,hk,rfl,rfl,hst,hq,hbw⟩:=hrel;clear HQ HB;have HST:=hid hst;have HQ:=hid hq;have HB:=hid hbw;have l3:=A4 hq 2 _ rfl;have hgz:=Aj hq;have HGZ:=hid hgz;have HK:=hid hk;clear hst hq hbw hk hgz;have e0:k<n3→wrap64 ((k:Int)+1)=(k:Int)+1:=(by intro h;have:=HM3.o;unfold wrap64;omega);have HE:=hid e0;clear e0;go_upto_region 11 with fail
          go_cut [58,59,60,61,62,63] (fun _s58 _s59 _s60 _s61 _s62 s63 wx=>∃ D:Bool,s63 = .bool D∧wr=wx∧Hid (D=true→k<n3∧z≤t)∧Hid (D=false→n3≤k∨t<z))
          case first=>
           by_cases hlt:k<n3
           ·have d1:(k:Int)<n3:=(by omega);by_cases hz:z≤t
            ·go_wp2_with fail;go_meet;exact⟨true,rfl,rfl,hid (fun _=>⟨hlt,hz⟩),hid (fun h=>absurd h (by decide))⟩
            ·go_wp2_with fail;go_meet;exact⟨false,rfl,rfl,hid (fun h=>absurd h (by decide)),hid (fun _=>.inr (by omega))⟩
           ·have d1:¬ (k:Int)<n3:=(by omega);go_wp2_with fail;go_meet;exact⟨false,rfl,rfl,hid (fun h=>absurd h (by decide)),hid (fun _=>.inl (Nat.le_of_not_lt hlt))⟩
          case rest=>
           obtain⟨D,rfl,hwx,hD1,hD2⟩:=hcut;subst hwx;cases D with
           | true=>
             obtain⟨hlt,hz⟩:=hD1.o rfl;clear hD1 hD2;have e0:=HE.o hlt;clear HE;obtain⟨y,hy⟩:∃ y,L.sg.l[k]?=some y:=⟨_,Wb (by rw[HN3.o];exact hlt)⟩;have hst:=HST.o;rw[FJ hy hz] at hst;clear HST;have hz2:=hz;clear hz;rcases HR3.o.below HB.o with hnil | ⟨xb,off,hxb,hc⟩
             ·rw[hnil] at hy;simp at hy
             have z0:=hc k _ hy 0 _ rfl;rw[Wa] at z0;have d1:(0:Int)≤k:=(by omega);have d2:(k:Int)<n3:=(by omega);have HX:=hid hst;have HLT:=hid hlt;clear hc hy hst hlt hz2;obtain⟨x,hx⟩:=WY L.sg.a;have HXX:=hid hx;rw[hx] at l3 HQ hxb ⊢;subst hxb;clear hx;go_wp2_with fail;rw[← HXX.o];go_roundg (n3 - (k+1))
             case rel=>exact⟨k+1,wrap64 (wrap64 (z+1)+((y.1.size:Nat):Int)),by have:=HK.o;have:=HLT.o;omega,rfl,by go_num,by rw[LN];exact HX.o,by rw[HXX.o];exact HQ.o,HB.o⟩
             case measure=>have:=HK.o;have:=HLT.o;omega
           | false=>
             have h:=FK (f:=(fun z (p:BA × Int)=>MU z p.1)) HN3.o (hD2.o rfl);rw[HST.o] at h;subst h;clear hD1 hD2 HST HE l3 HK HGZ;go_wp2_with fail;go_loopg [5,9,10] n4 (fun g nn i _ wr=>∃(k:Nat) (z:Int),k+g=n4∧nn = .int .i64 z∧i = .int .i64 (k:Int)∧L3 t (Sx t) z (L.rt.l.drop k)=W4∧wr.heap[gl]?=some (.cells #[.slice L.se.a n1 L.se.c,.slice L.po.a n2 L.po.c,.slice L.sg.a n3 L.sg.c,.slice L.rt.a n4 L.rt.c] 27)∧Below w.heap.size w wr)
             case atStart=>exact⟨0,W3,by omega,rfl,rfl,HW4.o,HQ.o,HB.o⟩
             case round=>
              obtain⟨k,z,hk,rfl,rfl,hst,hq,hbw⟩:=hrel;clear HQ HB;have HST:=hid hst;have HQ:=hid hq;have HB:=hid hbw;have l4:=A4 hq 3 _ rfl;have hgz:=Aj hq;have HGZ:=hid hgz;have HK:=hid hk;clear hst hq hbw hk hgz;have e0:k<n4→wrap64 ((k:Int)+1)=(k:Int)+1:=(by intro h;have:=HM4.o;unfold wrap64;omega);have HE:=hid e0;clear e0;go_upto_region 15 with fail
              go_cut [80,81,82,83,84,85] (fun _s80 _s81 _s82 _s83 _s84 s85 wx=>∃ D:Bool,s85 = .bool D∧wr=wx∧Hid (D=true→k<n4∧z≤t)∧Hid (D=false→n4≤k∨t<z))
              case first=>
               by_cases hlt:k<n4
               ·have d1:(k:Int)<n4:=(by omega);by_cases hz:z≤t
                ·go_wp2_with fail;go_meet;exact⟨true,rfl,rfl,hid (fun _=>⟨hlt,hz⟩),hid (fun h=>absurd h (by decide))⟩
                ·go_wp2_with fail;go_meet;exact⟨false,rfl,rfl,hid (fun h=>absurd h (by decide)),hid (fun _=>.inr (by omega))⟩
               ·have d1:¬ (k:Int)<n4:=(by omega);go_wp2_with fail;go_meet;exact⟨false,rfl,rfl,hid (fun h=>absurd h (by decide)),hid (fun _=>.inl (Nat.le_of_not_lt hlt))⟩
              case rest=>
               obtain⟨D,rfl,hwx,hD1,hD2⟩:=hcut;subst hwx;cases D with
               | true=>
                 obtain⟨hlt,hz⟩:=hD1.o rfl;clear hD1 hD2;have e0:=HE.o hlt;clear HE;obtain⟨y,hy⟩:∃ y,L.rt.l[k]?=some y:=⟨_,Wb (by rw[HN4.o];exact hlt)⟩;have hst:=HST.o;rw[FJ hy hz] at hst;clear HST;have hz2:=hz;clear hz;rcases HR4.o.below HB.o with hnil | ⟨xb,off,hxb,hc⟩
                 ·rw[hnil] at hy;simp at hy
                 have z0:=hc k _ hy 0 _ rfl;have z1:=hc k _ hy 1 _ rfl;have z2:=hc k _ hy 2 _ rfl;have z3:=hc k _ hy 3 _ rfl;have z4:=hc k _ hy 4 _ rfl;have z5:=hc k _ hy 5 _ rfl;rw[Wa] at z0;obtain⟨m1,hm1⟩:=WY y.pa.l.length;obtain⟨m2,hm2⟩:=WY y.po.l.length;obtain⟨m3,hm3⟩:=WY y.ov.l.length;obtain⟨m4,hm4⟩:=WY y.fl.l.length;rw[Ak hm1] at z2;rw[Ak hm2] at z3;rw[Ak hm3] at z4;rw[Ak hm4] at z5;have HMM:=hid (And.intro hm1 (And.intro hm2 (And.intro hm3 hm4)));clear hm1 hm2 hm3 hm4;have d1:(0:Int)≤k:=(by omega);have d2:(k:Int)<n4:=(by omega);have HX:=hid hst;have HLT:=hid hlt;clear hc hy hst hlt hz2;obtain⟨x,hx⟩:=WY L.rt.a;have HXX:=hid hx;rw[hx] at l4 HQ hxb ⊢;subst hxb;clear hx;by_cases hv:wrap64 (wrap64 (wrap64 (wrap64 (z+1)+(y.nm.size:Int))+(m1:Int))+(m2:Int))≤t
                 ·have HV:=hid hv;go_wp2_with fail;rw[← HXX.o];go_roundg (n4 - (k+1))
                  case rel=>exact⟨k+1,wrap64 (wrap64 (wrap64 (wrap64 (wrap64 (wrap64 (z+1)+(y.nm.size:Int))+(m1:Int))+(m2:Int))+(m3:Int))+(m4:Int)),by have:=HK.o;have:=HLT.o;omega,rfl,by go_num,by rw[Uk (t:=t) (z:=z) HMM.o (by have:=HV.o;omega)];exact HX.o,by rw[HXX.o];exact A5 (Ac wr _) HQ.o,A6 HB.o (Ac wr _)⟩
                  case measure=>have:=HK.o;have:=HLT.o;omega
                 ·have HV:=hid hv;go_wp2_with fail;rw[← HXX.o];go_roundg (n4 - (k+1))
                  case rel=>exact⟨k+1,wrap64 (wrap64 (wrap64 (wrap64 (z+1)+(y.nm.size:Int))+(m1:Int))+(m2:Int)),by have:=HK.o;have:=HLT.o;omega,rfl,by go_num,by rw[Uj (t:=t) (z:=z) HMM.o (by have:=HV.o;omega)];exact HX.o,by rw[HXX.o];exact A5 (Ac wr _) HQ.o,A6 HB.o (Ac wr _)⟩
                  case measure=>have:=HK.o;have:=HLT.o;omega
               | false=>
                 have h:=FK (f:=(Sx t)) HN4.o (hD2.o rfl);rw[HST.o] at h;subst h;clear hD1 hD2 HST HE l4 HK HGZ;go_wp2_with fail;go_ret;exact⟨by rw[HW.o];rfl,HB.o⟩
end
section
def Av:List (Int × Bool)→Int→Option Bool
 | [],_=>none
 | n :: l,p=>if n.1=p then some n.2 else Av l p
theorem Kl(l m:List (Int × Bool))(p:Int):Av (l ++ m) p=(Av l p).or (Av m p):=by
 induction l with
 | nil=>rfl
 | cons n l ih=>
   show(if n.1=p then some n.2 else Av (l ++ m) p)=(if n.1=p then some n.2 else Av l p).or (Av m p);by_cases h:n.1=p
   ·rw[if_pos h,if_pos h];rfl
   ·rw[if_neg h,if_neg h,ih]
theorem NF{l:List (Int × Bool)}{p:Int}{v:Bool}(h:Av l p=some v):(p,v)∈l:=by
 induction l with
 | nil=>cases h
 | cons n l ih=>
   by_cases hp:n.1=p
   ·have e:Av (n :: l) p=some n.2:=if_pos hp;rw[e] at h;injection h with h
    subst h;subst hp;exact WM
   ·have e:Av (n :: l) p=Av l p:=if_neg hp;rw[e] at h;exact WS _ (ih h)
theorem Pg{l:List (Int × Bool)}{p:Int}{v:Bool}(hn:(l.map (·.1)).Nodup)(h:(p,v)∈l):Av l p=some v:=by
 induction l with
 | nil=>cases h
 | cons n l ih=>
   rw[List.map_cons,List.nodup_cons] at hn;by_cases hp:n.1=p
   ·have e:Av (n :: l) p=some n.2:=if_pos hp;rw[e];rcases List.mem_cons.1 h with h | h
    ·rw[← h]
    ·exact absurd (List.mem_map.2 ⟨_,h,hp.symm⟩) hn.1
   ·have e:Av (n :: l) p=Av l p:=if_neg hp;rw[e];rcases List.mem_cons.1 h with h | h
    ·exact absurd (by rw[← h]) hp
    ·exact ih hn.2 h
def AR(t u:List Int)(x y:Option Bool)(s:Int):Bool:=
 ((x.isSome && y.isSome) || (x.isSome && AB u s) || (y.isSome && AB t s)) && !((x.isSome == y.isSome) && (x.getD false == y.getD false))
def In:Option Bool→Nat
 | none=>0
 | some false=>1
 | some true=>2
def Rt.tr(r:Rt):List Int:=r.pa.l ++ r.ov.l
def Rt.nd(r:Rt):List (Int × Bool):=r.po.l ++ r.fl.l
def Cm(a b:Rt):Nat→List (BA × Int)→List Bool
 | _,[]=>[]
 | k,p :: l=>AR a.tr b.tr (Av a.nd k) (Av b.nd k) p.2 :: Cm a b (k+1) l
def Bj(L:AL)(a b:Rt):List Bool:=decide (a.sg=b.sg) ::(a.tr.map (AB b.tr) ++ Cm a b 0 L.po.l)
def AC(L:AL)(a b:Rt):Bool:=(Bj L a b).any id
theorem Fu{a b:Rt}:∀ {l:List (BA × Int)} {k j:Nat} {p:BA × Int},l[j]?=some p→(Cm a b k l)[j]?=some (AR a.tr b.tr (Av a.nd ((k+j:Nat):Int)) (Av b.nd ((k+j:Nat):Int)) p.2):=by
 intro l
 induction l with
 | nil=>intro k j p h;simp at h
 | cons q l ih=>
   intro k j p h;cases j with
   | zero=>simp at h;subst h;rfl
   | succ j=>
     have:=ih (k:=k+1) (by simpa using h);rw[show k+1+j=k+(j+1) by omega] at this;exact this
theorem H8(a b:Rt):∀(l:List (BA × Int)) (k:Nat),(Cm a b k l).length=l.length:=by
 intro l
 induction l with
 | nil=>intro k;rfl
 | cons p l ih=>intro k;show(Cm a b (k+1) l).length+1=_;rw[ih];rfl
end
section
def C9(L:AL)(a b:Int):Bool:=
 decide (0≤a∧0≤b∧a<L.rt.l.length∧b<L.rt.l.length∧a≠b) && (AX L && (match L.rt.l[a.toNat]?,L.rt.l[b.toNat]? with | some x,some y=>AC L x y | _,_=>false))
theorem Ps{L:AL}{a b:Int}(h:¬ (0≤a∧0≤b∧a<L.rt.l.length∧b<L.rt.l.length∧a≠b)):C9 L a b=false:=by unfold C9;rw[Wg h];rfl
theorem TQ{L:AL}{a b:Int}(h:AX L=false):C9 L a b=false:=by unfold C9;rw[h];simp
theorem Pr{L:AL}{i k:Nat}{x y:Rt}(hm:AX L=true)(hi:L.rt.l[i]?=some x)(hk:L.rt.l[k]?=some y)(hne:i≠k):C9 L i k=AC L x y:=by
 have h1:=(We.1 hi).1;have h2:=(We.1 hk).1;unfold C9;rw[Wk (by omega),hm,Int.toNat_natCast,Int.toNat_natCast,hi,hk];rfl
theorem AE{L:AL}(h:AX L=true):L.se.l.length≤64∧L.po.l.length≤32∧L.sg.l.length≤32∧L.rt.l.length≤64:=by
 by_cases hs:L.se.l.length≤64∧L.po.l.length≤32∧L.sg.l.length≤32∧L.rt.l.length≤64
 ·exact hs
 ·rw[Fr (CV hs)] at h;cases h
end
section
theorem R6{l:List Int}{s y:Int}{k:Nat}(h:l[k]?=some y)(hs:AB (l.take k) s=false)(hy:y≠s):AB (l.take (k+1)) s=false:=by
 unfold AB at hs ⊢;rw[Wp,h,List.any_append,hs];simp[hy]
theorem OJ{l:List Int}{s y:Int}{k:Nat}(h:l[k]?=some y)(hy:y=s):AB l s=true:=by
 unfold AB;rw[WF];exact⟨y,Wf h,Wk hy⟩
theorem ND{l:List (Int × Bool)}{y:Int × Bool}{k:Nat}{p:Int}(h:l[k]?=some y):Av (l.drop k) p=if y.1=p then some y.2 else Av (l.drop (k+1)) p:=by
 have hk:k<l.length:=(We.1 h).1;rw[List.drop_eq_getElem_cons hk,(We.1 h).2];rfl
theorem Pf{l:List (Int × Bool)}{k:Nat}{p:Int}(h:l.length=k):Av (l.drop k) p=none:=by rw[List.drop_eq_nil_of_le (by omega)];rfl
attribute [local irreducible] AB Av
theorem Fw(b:Bool)(x:Option Addr)(m c:Nat)(l:List Int)(s:Int)(w:World)(hB:AB l s=b)(hn:l.length=m)(hm:m≤9223372036854775807)(hl:As 1 AT w x l) :
 Calls Tryz.prog 110 #[.slice x m c,.int .i64 s] w fun e w'=>e = .returned (.bool b)∧w=w':=by
 have HN:=hid hn;have HBB:=hid hB;clear hn hB;go_enter Tryz.func110,Tryz.ntmps110;go_wp2_with fail;go_loopg [5] m (fun g i wr=>∃ k:Nat,k+g=m∧i = .int .i64 (k:Int)∧AB (l.take k) s=false∧w=wr)
 case atStart=>exact⟨0,by omega,rfl,by unfold AB;rfl,rfl⟩
 case round=>
  obtain⟨k,hk,rfl,hst,rfl⟩:=hrel;have HST:=hid hst;clear hst;by_cases hlt:k<m
  ·obtain⟨y,hy⟩:∃ y,l[k]?=some y:=⟨_,Wb (by rw[HN.o];exact hlt)⟩;rcases hl with hnil | ⟨bb,off,rfl,hc⟩
   ·rw[hnil] at hy;simp at hy
   have z0:=hc k _ hy 0 _ rfl;rw[Wa,Nat.mul_one] at z0;have d1:(0:Int)≤k:=(by omega);have d2:(k:Int)<m:=(by omega);have e1:wrap64 ((k:Int)+1)=(k:Int)+1:=(by unfold wrap64;omega);have HY:=hid hy;have HK:=hid hk;clear hc hy hk;by_cases hs:y=s
   ·have q1:(y == s)=true:=(by simpa using hs);have HF:Hid (b=true):=hid (HBB.o.symm.trans (OJ HY.o hs));clear hs;go_wp2_with fail;go_ret;exact⟨by rw[HF.o];rfl,rfl⟩
   ·have q1:(y == s)=false:=(by simpa using hs);have HT:=hid (R6 HY.o HST.o hs);clear hs;go_wp2_with fail;go_roundg (m - (k+1))
    case rel=>exact⟨k+1,by have:=HK.o;omega,by go_num,HT.o,rfl⟩
    case measure=>have:=HK.o;omega
  ·have hkm:m=k:=(by omega);subst hkm;have HF:Hid (b=false):=hid (by have h:=HST.o;rw[Wo (by rw[HN.o];exact Wc _)] at h;rw[← HBB.o,h]);go_wp2_with fail;go_ret;exact⟨by rw[HF.o];rfl,rfl⟩
attribute [local irreducible] Sl.v
theorem Hb(z:Nat)(r:Rt)(p:Int)(w:World)(hz:In (Av r.nd p)=z)(hr:CM w r)(hlen:r.po.l.length+r.fl.l.length≤100000) :
 Calls Tryz.prog 111 #[.agg #[.string r.nm,.int .i64 r.sg,r.pa.v,r.po.v,r.ov.v,r.fl.v],.int .i64 p] w fun e w'=>e = .returned (.int .i64 (z:Int))∧Below w.heap.size w w':=by
 have HND:Hid (∀ W,Below w.heap.size w W→Calls Tryz.prog 70 #[.agg #[.string r.nm,.int .i64 r.sg,r.pa.v,r.po.v,r.ov.v,r.fl.v]] W fun e w'=>∃ a n c,e = .returned (.slice a n c)∧n=r.po.l.length+r.fl.l.length∧B7 2 CX w' ⟨a,c,r.nd⟩∧Below W.heap.size W w'):=hid (fun W hb=>DY r W (hr.below hb) hlen);obtain⟨m1,hm1⟩:=WY r.pa.l.length;obtain⟨m2,hm2⟩:=WY r.po.l.length;obtain⟨m3,hm3⟩:=WY r.ov.l.length;obtain⟨m4,hm4⟩:=WY r.fl.l.length;obtain⟨m,hm⟩:=WY (m2+m4);obtain⟨N,hN⟩:=WY r.nd;have HNL:Hid (N.length=m):=hid (by rw[← hN,← hm,← hm2,← hm4];exact Wh);have HML:Hid (m≤100000):=hid (by omega);rw[hN,hm2,hm4,hm] at HND;rw[Ak hm1,Ak hm2,Ak hm3,Ak hm4] at HND ⊢;rw[hN] at hz;have HZ:=hid hz;clear hm1 hm2 hm3 hm4 hr hlen hz hN hm;go_enter Tryz.func111,Tryz.ntmps111;go_wp2_with fail;refine(HND.o _ (Ac w _)).mono ?_;rintro e w1 ⟨na,nn,nc,rfl,hn,hs,hb⟩;obtain rfl:m=nn:=hn.symm;have HS:=hid hs.row;have HB:=hid (A6 (Ac w _) hb);clear hs hb HND;go_wp2_with fail;go_loopg [6] m (fun g i wr=>∃ k:Nat,k+g=m∧i = .int .i64 (k:Int)∧Av (N.drop k) p=Av N p∧w1=wr)
 case atStart=>exact⟨0,by omega,rfl,rfl,rfl⟩
 case round=>
  obtain⟨k,hk,rfl,hst,rfl⟩:=hrel;have HST:=hid hst;clear hst;by_cases hlt:k<m
  ·obtain⟨⟨y0,y1⟩,hy⟩:∃ y,N[k]?=some y:=⟨_,Wb (by rw[HNL.o];exact hlt)⟩;have hrow:=HS.o
   try dsimp only at hrow
   rcases hrow with hnil | ⟨bb,off,rfl,hc⟩
   ·rw[hnil] at hy;simp at hy
   have z0:=hc k _ hy 0 _ rfl;have z1:=hc k _ hy 1 _ rfl;rw[Wa] at z0;dsimp only at z0 z1;have hd:=ND (p:=p) hy;rw[HST.o] at hd
   try dsimp only at hd
   have d1:(0:Int)≤k:=(by omega);have d2:(k:Int)<m:=(by omega);have e1:wrap64 ((k:Int)+1)=(k:Int)+1:=(by have:=HML.o;unfold wrap64;omega);have HK:=hid hk;clear hc hy hk;by_cases hs:y0=p
   ·rw[if_pos hs] at hd;have q1:(y0 == p)=true:=(by simpa using hs);have HZ2:=HZ.o;rw[hd] at HZ2;have HD:=hid HZ2;clear hs hd HZ2;cases y1 with
    | true=>
      go_wp2_with fail;go_ret;exact⟨by rw[← HD.o];rfl,HB.o⟩
    | false=>
      go_wp2_with fail;go_ret;exact⟨by rw[← HD.o];rfl,HB.o⟩
   ·rw[if_neg hs] at hd;have q1:(y0 == p)=false:=(by simpa using hs);have HD:=hid hd.symm;clear hs hd;go_wp2_with fail;go_roundg (m - (k+1))
    case rel=>exact⟨k+1,by have:=HK.o;omega,by go_num,HD.o,rfl⟩
    case measure=>have:=HK.o;omega
  ·have hkm:m=k:=(by omega);subst hkm;have HF:Hid (z=0):=hid (by rw[← HZ.o,← HST.o,Pf HNL.o];rfl);go_wp2_with fail;go_ret;exact⟨by rw[HF.o];rfl,HB.o⟩
end
section
def E4(w:World)(r:Nat)(f:Int→Option Bool):Prop:=∃ es clock K,w.heap[r]?=some (.map es clock)∧es.toList.map (fun e=>(e.key,e.val))=K.map (fun(n:Int × Bool)=>(Value.int .i64 n.1,Value.bool n.2))∧(K.map (·.1)).Nodup∧∀ p,Av K p=f p
theorem E4.below{w w':World}{r:Nat}{f:Int→Option Bool}(h:E4 w r f)(hb:Below w.heap.size w w'):E4 w' r f:=by
 obtain⟨es,clock,K,h1,h2⟩:=h;exact⟨es,clock,K,A5 hb h1,h2⟩
theorem U1{es:List MapEntry}{K:List (Int × Bool)}(h:es.map (fun e=>(e.key,e.val))=K.map (fun(n:Int × Bool)=>(Value.int .i64 n.1,Value.bool n.2))):∀ x∈es,MapKept.IsKey (.int .i64) x.key:=by
 intro x hx;have:(x.key,x.val)∈K.map (fun(n:Int × Bool)=>(Value.int .i64 n.1,Value.bool n.2)):=by rw[← h];exact List.mem_map.2 ⟨x,hx,rfl⟩
 obtain⟨s,_,hs⟩:=List.mem_map.1 this;injection hs with h1 h2
 rw[← h1];simp[MapKept.IsKey]
theorem Im{l:List (Int × Bool)}{p:Int}(h:∀ v,(p,v) ∉ l):Av l p=none:=by
 cases hn:Av l p with
 | none=>rfl
 | some v=>exact absurd (NF hn) (h v)
theorem MH{es:List MapEntry}{K:List (Int × Bool)}{p:Int}(h:es.map (fun e=>(e.key,e.val))=K.map (fun(n:Int × Bool)=>(Value.int .i64 n.1,Value.bool n.2)))(hn:(K.map (·.1)).Nodup) :
 (Av K p=none∧(∀ v,(p,v) ∉ K)∧Instr.findNow (.int .i64) (.int .i64 p) es 0=some none)∨∃ j b e,Av K p=some b∧K[j]?=some (p,b)∧es[j]?=some e∧e.key = .int .i64 p∧e.val = .bool b∧Instr.findNow (.int .i64) (.int .i64 p) es 0=some (some (j,.bool b)):=by
 rcases MapKept.findNow_spec (d:=.int .i64) (k:=.int .i64 p) (by simp[MapKept.IsKey]) es 0 (U1 h) with ⟨h1,h2⟩ | ⟨j,e,h1,h2,h3⟩
 ·have h4:∀ v,(p,v) ∉ K:=by
   intro v hv;have:(Value.int .i64 p,Value.bool v)∈es.map (fun e=>(e.key,e.val)):=(by rw[h];exact List.mem_map.2 ⟨(p,v),hv,rfl⟩);obtain⟨x,hx,he⟩:=List.mem_map.1 this;injection he with he1 he2
   exact h2 x hx he1
  exact .inl ⟨Im h4,h4,h1⟩
 ·have h5:(es.map (fun e=>(e.key,e.val)))[j]?=some (e.key,e.val):=(by rw[List.getElem?_map,h2];rfl);rw[h,List.getElem?_map] at h5;cases hk:K[j]? with
  | none=>rw[hk] at h5;cases h5
  | some n=>
    rw[hk] at h5;obtain⟨n1,n2⟩:=n;injection h5 with h5
    injection h5 with h6 h7
    rw[h3] at h6;injection h6 with _ h6
    dsimp only at h6 h7;subst h6;refine .inr ⟨j,n2,e,Pg hn (Wf hk),hk,h2,h3,h7.symm,?_⟩;rw[h1,Wq,← h7]
theorem Nt:(Tryz.prog.info? 4).map (fun i=>(i.zero,i.size,i.bytes))=some (some (.bool false),1,1):=by kernel_rfl
theorem Hl{w:World}{r:Nat}{f:Int→Option Bool}{p:Int}(h:E4 w r f):(Instr.lookup 166 (.map (some r)) (.int .i64 p) true).run Tryz.prog w = .ok (.tuple #[.bool ((f p).getD false),.bool (f p).isSome]) w:=by
 obtain⟨es,clock,K,h1,h2,h3,h4⟩:=h;have hc:(Instr.checkKey es.isEmpty 10000 3 (.int .i64 p)).run Tryz.prog w = .ok () w:=MapKept.run_checkKey (k:=.int .i64 p) Tryz.underlying3 (by simp[MapKept.IsKey]) es.isEmpty 9999;rw[← h4 p];rcases MH (p:=p) h2 h3 with ⟨g1,_,g2⟩ | ⟨j,b,e,g1,_,_,_,_,g2⟩
 ·obtain⟨i0,hi,hz0,_,_⟩:=info_parts Nt;have hz:(zeroValue 4).run Tryz.prog w = .ok (.bool false) w:=(by simp[zeroValue,typeInfo,hi,hz0,Result.andThen]);rw[g1];simp[Instr.lookup,run_underlying Tryz.underlying166,MapKept.run_getObj_map h1,hc,MapKept.run_findKey Tryz.underlying3 g2,hz,Result.andThen]
 ·rw[g1];simp[Instr.lookup,run_underlying Tryz.underlying166,MapKept.run_getObj_map h1,hc,MapKept.run_findKey Tryz.underlying3 g2,Result.andThen]
theorem Ph:∀(K:List (Int × Bool)) (j:Nat) (p q:Int) (b v:Bool),K[j]?=some (p,b)→(K.map (·.1)).Nodup→Av (K.set j (p,v)) q=if q=p then some v else Av K q:=by
 intro K
 induction K with
 | nil=>intro j p q b v h;simp at h
 | cons n K ih=>
   intro j p q b v h hn;rw[List.map_cons,List.nodup_cons] at hn;cases j with
   | zero=>
     simp at h;subst h;rw[VX];show(if p=q then some v else Av K q)=if q=p then some v else (if p=q then some b else Av K q)
     by_cases hq:q=p
     ·rw[if_pos hq,if_pos hq.symm]
     ·rw[if_neg hq,if_neg (fun e=>hq e.symm),if_neg (fun e=>hq e.symm)]
   | succ j=>
     have h':K[j]?=some (p,b):=(by simpa using h);rw[VV];show(if n.1=q then some n.2 else Av (K.set j (p,v)) q)=if q=p then some v else (if n.1=q then some n.2 else Av K q)
     rw[ih j p q b v h' hn.2];by_cases hq:q=p
     ·subst hq;have hne:n.1≠q:=fun e=>hn.1 (List.mem_map.2 ⟨(q,b),Wf h',e.symm⟩)
      rw[if_pos rfl,if_neg hne,if_pos rfl]
     ·rw[if_neg hq,if_neg hq]
theorem NE(K:List (Int × Bool))(p q:Int)(v:Bool)(h:∀ b,(p,b) ∉ K):Av (K ++ [(p,v)]) q=if q=p then some v else Av K q:=by
 rw[Kl];show(Av K q).or (if p=q then some v else none)=_;by_cases hq:q=p
 ·subst hq;rw[Im h];simp
 ·rw[if_neg hq,if_neg (fun e=>hq e.symm)];cases Av K q<;>rfl
theorem LG{w:World}{r:Nat}{f:Int→Option Bool}{p:Int}(v:Bool)(h:E4 w r f):∃ w',(Instr.mapUpdate 166 (.map (some r)) (.int .i64 p) (.bool v)).run Tryz.prog w = .ok () w'∧E4 w' r (fun q=>if q=p then some v else f q)∧Ai r w w':=by
 obtain⟨es,clock,K,h1,h2,h3,h4⟩:=h;have hc:(Instr.checkKey false 10000 3 (.int .i64 p)).run Tryz.prog w = .ok () w:=MapKept.run_checkKey (k:=.int .i64 p) Tryz.underlying3 (by simp[MapKept.IsKey]) false 9999;rcases MH (p:=p) h2 h3 with ⟨g1,g0,g2⟩ | ⟨j,b,e,g1,gk,ge,gek,gev,g2⟩
 ·refine⟨{ w with heap:=w.heap.setIfInBounds r (.map (es.push { key:=.int .i64 p,val:=.bool v,born:=clock }) (clock+1)) },?_,?_,?_⟩
  ·simp[Instr.mapUpdate,run_underlying Tryz.underlying166,MapKept.run_getObj_map h1,hc,MapKept.run_findKey Tryz.underlying3 g2,MapKept.run_setObj_map _ h1,Result.andThen]
  ·refine⟨_,_,K ++ [(p,v)],(MapKept.heap_set h1).1,by rw[Array.toList_push,List.map_append,h2,List.map_append];rfl,?_,fun q=>?_⟩
   ·rw[List.map_append];refine List.nodup_append.2 ⟨h3,by simp,?_⟩;intro a ha c hc2;simp at hc2;subst hc2;intro e;subst e;obtain⟨n,hn,hh⟩:=List.mem_map.1 ha;exact g0 n.2 (by rw[← hh];exact hn)
   ·rw[NE K p q v g0,h4]
  ·exact⟨rfl,rfl,rfl,by simp,fun k _ hk=>(MapKept.heap_set h1).2 k hk⟩
 ·have hj:es[j]?=some e:=(by simpa using ge);refine⟨{ w with heap:=w.heap.setIfInBounds r (.map (es.modify j fun e'=>{ e' with key:=.int .i64 p,val:=.bool v }) clock) },?_,?_,?_⟩
  ·simp[Instr.mapUpdate,run_underlying Tryz.underlying166,MapKept.run_getObj_map h1,hc,MapKept.run_findKey Tryz.underlying3 g2,hj,gek,MapKept.run_keyThatStays (d:=.int .i64) (k:=.int .i64 p) (by simp[MapKept.IsKey]),MapKept.run_setObj_map _ h1,Result.andThen]
  ·refine⟨_,_,K.set j (p,v),(MapKept.heap_set h1).1,?_,?_,fun q=>?_⟩
   ·rw[Array.toList_modify];apply List.ext_getElem?
    intro i;have h5:(es.toList.map (fun e=>(e.key,e.val)))[i]?=(K.map (fun(n:Int × Bool)=>(Value.int .i64 n.1,Value.bool n.2)))[i]?:=(by rw[h2]);rw[List.getElem?_map,List.getElem?_map] at h5;rw[List.getElem?_map,List.getElem?_map,List.getElem?_modify,List.getElem?_set];by_cases hij:j=i
    ·subst hij;have hlt:j<K.length:=(We.1 gk).1;rw[if_pos rfl,if_pos hlt,ge];simp
    ·rw[if_neg hij];simp only[hij,if_false];rw[← h5];simp
   ·have:(K.set j (p,v)).map (·.1)=K.map (·.1):=by
     rw[List.map_set];apply List.ext_getElem?
     intro i;rw[List.getElem?_set];by_cases hij:j=i
     ·subst hij;have hlt:j<(K.map (·.1)).length:=(by rw[Ws];exact(We.1 gk).1);rw[if_pos rfl,if_pos hlt,List.getElem?_map,gk];rfl
     ·rw[if_neg hij]
    rw[this];exact h3
   ·rw[Ph K j p q b v gk h3,h4]
  ·exact⟨rfl,rfl,rfl,by simp,fun k _ hk=>(MapKept.heap_set h1).2 k hk⟩
end
section
open Go.RowKit Go.Shelf
attribute [local go_sem] Oper.semAt_some
theorem IU(a:Option Addr)(n c:Nat)(w:World):Calls Tryz.prog 112 #[.slice a n c] w fun e w'=>e = .returned (.func (.func 113) #[] #[.pointer (some ⟨w.heap.size,0,none⟩)])∧w'=w.alloc (.cells #[.slice a n c] 50):=by
 go_enter Tryz.func112,Tryz.ntmps112;go_wp2_with fail;go_ret;exact⟨rfl,rfl⟩
def MX(l:List (Int × Bool)):List (Nat × (Int × Bool)):=(l.zipIdx.map fun p=>(p.2,p.1)).reverse
theorem LU(l:List (Int × Bool)):(MX l).length=l.length:=by simp[MX]
theorem Qr{l:List (Int × Bool)}{q t:Nat}{y:Int × Bool}(ht:l.length=q+1+t)(h:l[t]?=some y):(MX l)[q]?=some (t,y):=by
 unfold MX;have hlen:(l.zipIdx.map fun p=>((p.2,p.1):Nat × (Int × Bool))).length=l.length:=by simp
 rw[List.getElem?_reverse (by rw[hlen];omega),hlen,show l.length - 1 - q=t by omega,List.getElem?_map,List.getElem?_zipIdx,h];simp
def Tn(m:Nat × (Int × Bool)):Array Value := #[.int .i64 (m.1:Int),.agg #[.int .i64 m.2.1,.bool m.2.2]]
def O2(X Y:World):Prop:=∀(k:Nat) (cs:Array Value) (t:TypeId) (fr:Nat × Nat),X.heap[k]?=some (Obj.cells cs t fr)→Y.heap[k]?=some (Obj.cells cs t fr)
theorem UO{X Y Z:World}(h:O2 X Y)(k:O2 Y Z):O2 X Z:=fun b cs t fr hb=>k b cs t fr (h b cs t fr hb)
theorem UN(W:World)(l:Nat)(o o':Obj)(hl:W.heap[l]?=some o)(ho:o.isCells=false):O2 W (W.putObj l o'):=by
 intro k cs t fr hk;have hne:k≠l:=by
  intro e;subst e;rw[hl] at hk;injection hk with hk
  rw[hk] at ho;cases ho
 rw[World.putObj_heap_other hne];exact hk
theorem D1{X Y:World}(h:Below X.heap.size X Y):O2 X Y:=fun _ _ _ _ hk=>A5 h hk
theorem Oe{w:World}{b i:Nat}{v:Value}(h:w.cell? ⟨b,i,none⟩=some v):∃ cs t fr,w.heap[b]?=some (.cells cs t fr):=by
 unfold World.cell? at h;cases hh:w.heap[b]? with
 | none=>simp[hh] at h
 | some o=>
   cases o with
   | cells cs t fr=>exact⟨cs,t,fr,rfl⟩
   | _=>simp[hh] at h
theorem As.kpC{α:Type}{sz:Nat}{f:α→List Value}{w w':World}{a:Option Addr}{l:List α}(h:As sz f w a l)(k:O2 w w'):As sz f w' a l:=by
 refine h.imp id ?_;rintro⟨b,off,h1,h2⟩;refine⟨b,off,h1,fun i c hi j v hv=>?_⟩;have h3:=h2 i c hi j v hv;obtain⟨cs,t,fr,h4⟩:=Oe h3;rw[World.cell?_of_block (w:=w) (a:=⟨b,off+i*sz+j,none⟩) ((k b cs t fr h4).trans h4.symm)];exact h3
attribute [local irreducible] MX
theorem L6(n:Nat)(hn:2≤n)(Bx m c:Nat)(a:Option Addr)(l:List (Int × Bool))(w:World)(hl:l.length=m)(hm:m≤100000)(hrow:As 2 CX w a l)(hBx:w.heap[Bx]?=some (.cells #[.slice a m c] 50)) :
 SeqStopsK Fence.wide n Tryz.prog 113 #[.pointer (some ⟨Bx,0,none⟩)] Tn O2 (fun ys=>ys=MX l) (fun _=>True) m w:=fun lp J Jx W hW _ _ hY h0=>by
 have hqW:=A5 hW hBx;have hrW:=hrow.below hW;have HL:=hid hl;have HM:=hid hm;have E3:Hid (wrap64 ((m:Int) - 1)=(m:Int) - 1):=hid (by unfold wrap64;omega);have c0:=A4 hqW 0 _ rfl;have e3:=E3.o;clear hl hm hrow hBx hW;refine callsIn_of_wp Tryz.func113 rfl trivial ?_ rfl;simp only[Tryz.ntmps113,Wn,WK,WQ,Nat.reduceAdd,Nat.reduceSub,Array.replicate_succ,Array.replicate_zero,List.push_toArray,List.append_toArray,WC,List.cons_append];gi_wp2;clear e3 c0;gi_loopw [3] (fun i wr=>∃(q:Nat) (iv:Int),q≤m∧i = .int .i64 iv∧iv=(m:Int) - 1 - (q:Int)∧J ((MX l).take q) wr∧wr.heap[Bx]?=some (.cells #[.slice a m c] 50)∧As 2 CX wr a l) (fun i _=>(intOf i+1).toNat)
 case atStart=>exact⟨0,_,Nat.zero_le _,rfl,by first | (rw[E3.o];omega) | omega,by rw[List.take_zero];exact h0,hqW,hrW⟩
 case round=>
  obtain⟨q,iv,hq,rfl,hiv,hJ,hbx,hr⟩:=hrel;have HBX:=hid hbx;have HR:=hid hr;by_cases hlt:q<m
  ·obtain⟨t,ht⟩:∃ t,m=q+1+t:=⟨m - (q+1),by omega⟩;have hit:iv=(t:Int):=(by omega);subst hit;obtain⟨y,hy⟩:∃ y,l[t]?=some y:=⟨_,Wb (by rw[HL.o];omega)⟩;have hbk:=Qr (by rw[HL.o];exact ht) hy;obtain⟨fn,tmps,assign,body,hy2,hR⟩:=hY ((MX l).take q) (t,y) wr hJ (by rw[Wu,LU,HL.o];omega);obtain⟨y0,y1⟩:=y;dsimp only[Tn] at hy2;rcases hr with hnil | ⟨xb,off,hxb,hc⟩
   ·rw[hnil] at hy;simp at hy
   subst hxb;have z0:=hc t _ hy 0 _ rfl;have z1:=hc t _ hy 1 _ rfl;rw[Wa] at z0;dsimp only at z0 z1;have c0:=A4 hbx 0 _ rfl;have d1:(0:Int)≤(t:Int):=(by omega);have d2:(t:Int)<(m:Int):=(by omega);have HT:=hid ht;have HQ:=hid hq;have HLT:=hid hlt;have HJN:Hid (∀ V,J ((MX l).take q ++ [(t,(y0,y1))]) V→J ((MX l).take (q+1)) V):=hid (fun V h=>by rw[Wp,hbk];exact h);have E5:Hid (wrap64 ((t:Int) - 1)=(t:Int) - 1):=hid (by have:=HM.o;unfold wrap64;omega);clear hc hy hbk hbx ht hq hlt hJ hiv;gi_wp2;refine⟨fun _=>by omega,?_⟩;refine hR.mono ?_;rintro e W' (⟨rfl,hJ',hk'⟩ | ⟨rfl,hJx⟩)
   ·have hb':=hk' _ _ _ _ HBX.o;have hr':=HR.o.kpC hk';have e5:=E5.o;gi_wp2;go_roundw
    case rel=>exact⟨q+1,(t:Int) - 1,by have:=HLT.o;omega,by first | rfl | go_num,by have:=HT.o;omega,HJN.o _ hJ',hb',hr'⟩
    case measure=>first | (simp[intOf,E5.o];done) | (simp[intOf,E5.o];omega)
   ·gi_wp2;refine bodyPost_ret (results_none rfl _ _ _) rfl ?_;exact⟨⟨_,rfl⟩,.inr ⟨_,trivial,hJx⟩⟩
  ·have hqm:q=m:=(by omega);have hit:iv = -1:=(by omega);subst hit;subst hqm;have hJ2:=hJ;rw[Wo (by rw[LU,HL.o];exact Wc _)] at hJ2;clear hbx hr hiv hq hlt;gi_wp2;go_end0;exact⟨⟨_,rfl⟩,.inl ⟨_,rfl,hJ2⟩⟩
end
end Go.Proofs.YtpohoannggdbjaaGreat
