/- Merged: ToH, ToK, ToL, ToM, ToN, ToO, ToP, ToQ, ToR, ToS, ToT, ToU, ToV, ToX, Gen, ToZ, CoA, CoKp, CoB, CoD, CoE. -/
import Derived.Test.YtpohoannggdbjaaGreatMA
import Derived.Lib.AppendZerosOnto
import Derived.Lib.SliceRun
import Derived.Lib.Walk
import Derived.Deep.LoopGhost
import Derived.MapKept
import Derived.RangeFuncNested
import Derived.RangeFuncBound
import Derived.RangeFuncCalls
import Derived.RangeFuncLeaves
import Derived.RangeFuncBox
import Derived.Shelf.Abstract
import Derived.Shelf.RegionOpen
import Derived.WalkKit
import Derived.OwnWalkIn
import Derived.TacticsInMore
import Derived.LoopNIn
import Derived.LoopIn
import Derived.Maps.AppendAt
namespace Go.Proofs.YtpohoannggdbjaaGreat
open Lib (hid)
open Go.RowKit
set_option maxRecDepth 100000
theorem B9{w w':World}{a:Option Addr}{c:Nat}{l:List Value}(h:Co w a c l)(hb:Below w.heap.size w w'):Co w' a c l:=⟨h.1,h.2.1,fun ad had j u hu=>cell_later hb (h.2.2 ad had j u hu)⟩
def C8(sz base:Nat)(w:World)(a:Option Addr)(n:Nat):Prop:=n=0∨∃ g cs t,a=some ⟨g,0,none⟩∧base≤g∧w.heap[g]?=some (.cells cs t (0,0))∧n*sz≤cs.size
theorem C8.mono{sz base base':Nat}{w:World}{a:Option Addr}{n:Nat}(h:C8 sz base w a n)(hb:base'≤base):C8 sz base' w a n:=by
 refine h.imp id ?_;rintro⟨g,cs,t,h1,h2,h3,h4⟩;exact⟨g,cs,t,h1,Nat.le_trans hb h2,h3,h4⟩
theorem C8.below{sz base:Nat}{w w':World}{a:Option Addr}{n:Nat}(h:C8 sz base w a n)(hb:Below w.heap.size w w'):C8 sz base w' a n:=by
 refine h.imp id ?_;rintro⟨g,cs,t,h1,h2,h3,h4⟩;exact⟨g,cs,t,h1,h2,A5 hb h3,h4⟩
theorem E8{α:Type}{f:α→List Value}{sz:Nat}{w:World}{base:Nat}{e:TypeId}{v:Value}{n:Nat}{l:List α}(hf:∀ c,(f c).length=sz)(hn:l.length=n)(h:w.ownsRow base e sz v n (l.flatMap f)) :
 ∃ a c,v = .slice a n c∧B8 sz f w ⟨a,c,l⟩∧C8 sz base w a n:=by
 obtain⟨a,c,hv,hs⟩:=Er hf hn h;refine⟨a,c,hv,hs,?_⟩;rcases h.2 with ⟨_,rfl⟩ | ⟨g,cap,cur,hv2,hg,hheap,hncap,hcm,hsz,htake⟩
 ·exact .inl rfl
 ·rw[hv] at hv2;injection hv2 with h1 h2 h3
  refine .inr ⟨g,cur,e,h1,hg,hheap,?_⟩;have h4:=congrArg List.length htake;rw[List.length_take,C2 hf,hn,Array.length_toList] at h4;omega
def FC:Nat→List Int→Int→Int
 | _,[],_=>-1
 | k,y :: t,s=>if y=s then (k:Int) else FC (k+1) t s
def Av(l:List Int)(s:Int):Bool:=l.any fun x=>decide (x=s)
theorem Pl:∀(l:List Int) (k:Nat) (s:Int),(0≤FC k l s∧Av l s=true)∨(FC k l s<0∧Av l s=false):=by
 intro l
 induction l with
 | nil=>intro k s;exact .inr ⟨by unfold FC;decide,by unfold Av;rfl⟩
 | cons y l ih=>
   intro k s;by_cases h:y=s
   ·exact .inl ⟨by unfold FC;rw[if_pos h];omega,by unfold Av;simp[h]⟩
   ·have e1:FC k (y :: l) s=FC (k+1) l s:=by
     show(if y=s then (k:Int) else FC (k+1) l s)=_;rw[if_neg h]
    have e2:Av (y :: l) s=Av l s:=by unfold Av;simp[h]
    rw[e1,e2];exact ih (k+1) s
theorem Nh{l:List Int}{s y:Int}{k:Nat}(h:l[k]?=some y)(hy:y≠s):FC k (l.drop k) s=FC (k+1) (l.drop (k+1)) s:=by
 have hk:k<l.length:=(List.getElem?_eq_some_iff.1 h).1;rw[List.drop_eq_getElem_cons hk,(List.getElem?_eq_some_iff.1 h).2];show(if y=s then (k:Int) else FC (k+1) (l.drop (k+1)) s)=_;rw[if_neg hy]
theorem P5{l:List Int}{s y:Int}{k:Nat}(h:l[k]?=some y)(hy:y=s):FC k (l.drop k) s=k:=by
 have hk:k<l.length:=(List.getElem?_eq_some_iff.1 h).1;rw[List.drop_eq_getElem_cons hk,(List.getElem?_eq_some_iff.1 h).2];show(if y=s then (k:Int) else FC (k+1) (l.drop (k+1)) s)=_;rw[if_pos hy]
theorem Ob{l:List Int}{s:Int}{k:Nat}(h:l.length=k):FC k (l.drop k) s = -1:=by rw[List.drop_eq_nil_of_le (by omega)];rfl
def BR(l:List Int)(s:Int):Nat:=(l.filter fun x=>decide (x=s)).length
theorem LK{l:List Int}{s y:Int}{k:Nat}(h:l[k]?=some y):BR (l.take (k+1)) s=BR (l.take k) s+(if y=s then 1 else 0):=by
 unfold BR;rw[List.take_add_one,h,List.filter_append,List.length_append];by_cases hy:y=s<;>simp[hy]
theorem O3(l:List Int)(s:Int):BR l s≤l.length:=List.length_filter_le _ _
attribute [local irreducible] FC BR Av
theorem Nm(x:Option Addr)(m c:Nat)(l:List Int)(s:Int)(w:World)(hn:l.length=m)(hm:m≤9223372036854775807)(hl:AF 1 AO w x l) :
 Calls Tryz.prog 104 #[.slice x m c,.int .i64 s] w fun e w'=>e = .returned (.int .i64 (FC 0 l s))∧w=w':=by
 have HN:=hid hn;clear hn;go_enter Tryz.func104,Tryz.ntmps104;go_wp2_with fail;go_loopg [5,8] m (fun g _ i wr=>∃ k:Nat,k+g=m∧i = .int .i64 (k:Int)∧FC k (l.drop k) s=FC 0 l s∧w=wr)
 case atStart=>exact⟨0,by omega,rfl,rfl,rfl⟩
 case round=>
  obtain⟨k,hk,rfl,hb,rfl⟩:=hrel;have HB:=hid hb;clear hb;by_cases hlt:k<m
  ·obtain⟨y,hy⟩:∃ y,l[k]?=some y:=⟨_,List.getElem?_eq_getElem (by rw[HN.out];exact hlt)⟩;rcases hl with rfl | ⟨b,off,rfl,hc⟩
   ·simp at hy
   have z0:=hc k y hy 0 _ rfl;rw[Nat.add_zero,Nat.mul_one] at z0;have HY:=hid hy;have d1:(0:Int)≤k:=by omega
   have d2:(k:Int)<m:=by omega
   have e1:wrap64 ((k:Int)+1)=(k:Int)+1:=by unfold wrap64;omega
   have HK:=hid hk;clear hc hy hk;by_cases hys:y=s
   ·have HF:Hid (FC 0 l s=k):=hid (HB.out.symm.trans (P5 HY.out hys));have hbe:(s == y)=true:=by simp[hys]
    clear hys;go_wp2_with fail;go_ret;exact⟨by rw[HF.out];rfl,rfl⟩
   ·have HT:Hid (FC (k+1) (l.drop (k+1)) s=FC 0 l s):=hid ((Nh HY.out hys).symm.trans HB.out);have hbe:(s == y)=false:=by simpa using fun h=>hys h.symm
    clear hys;go_wp2_with fail;go_roundg (m - (k+1))
    case rel=>exact⟨k+1,by have:=HK.out;omega,by go_num,HT.out,rfl⟩
    case measure=>have:=HK.out;omega
  ·have hkm:m=k:=by omega
   subst hkm;have HF:Hid (FC 0 l s = -1):=hid (HB.out.symm.trans (Ob HN.out));go_wp2_with fail;go_ret;exact⟨by rw[HF.out];rfl,rfl⟩
theorem Ca(b:Bool)(x:Option Addr)(m c:Nat)(l:List Int)(s:Int)(w:World)(hB:Av l s=b)(hn:l.length=m)(hm:m≤9223372036854775807)(hl:AF 1 AO w x l) :
 Calls Tryz.prog 87 #[.slice x m c,.int .i64 s] w fun e w'=>e = .returned (.bool b)∧w=w':=by
 obtain⟨z,hz⟩:∃ z,FC 0 l s=z:=⟨_,rfl⟩;have hi:=Pl l 0 s;rw[hz,hB] at hi;have HC:=hid (Nm x m c l s w hn hm hl);rw[hz] at HC;clear hz hn hm hl;rcases hi with ⟨h1,rfl⟩ | ⟨h1,rfl⟩
 ·go_enter Tryz.func87,Tryz.ntmps87;go_wp2_with fail;refine HC.out.mono ?_;rintro e w1 ⟨rfl,rfl⟩;go_wp2_with fail;go_ret;exact⟨rfl,rfl⟩
 ·have h2:¬ 0≤z:=by omega
  clear h1;go_enter Tryz.func87,Tryz.ntmps87;go_wp2_with fail;refine HC.out.mono ?_;rintro e w1 ⟨rfl,rfl⟩;go_wp2_with fail;go_ret;exact⟨by show Ending.returned (.bool (decide (0≤z)))=_;rw[decide_eq_false (by omega)],rfl⟩
theorem D6(x:Option Addr)(m c:Nat)(l:List Int)(s:Int)(w:World)(hn:l.length=m)(hm:m≤9223372036854775807)(hl:AF 1 AO w x l) :
 Calls Tryz.prog 71 #[.slice x m c,.int .i64 s] w fun e w'=>e = .returned (.int .i64 (BR l s:Int))∧w=w':=by
 have HN:=hid hn;clear hn;go_enter Tryz.func71,Tryz.ntmps71;go_wp2_with fail;go_loopg [5,6] m (fun g v i wr=>∃ k:Nat,k+g=m∧i = .int .i64 (k:Int)∧v = .int .i64 (BR (l.take k) s:Int)∧w=wr)
 case atStart=>exact⟨0,by omega,rfl,by unfold BR;rfl,rfl⟩
 case round=>
  obtain⟨k,hk,rfl,rfl,rfl⟩:=hrel;by_cases hlt:k<m
  ·obtain⟨y,hy⟩:∃ y,l[k]?=some y:=⟨_,List.getElem?_eq_getElem (by rw[HN.out];exact hlt)⟩;rcases hl with rfl | ⟨b,off,rfl,hc⟩
   ·simp at hy
   have z0:=hc k y hy 0 _ rfl;rw[Nat.add_zero,Nat.mul_one] at z0;have hle:BR (l.take k) s≤k:=Nat.le_trans (O3 _ _) (by rw[List.length_take];omega);have HT:=hid (LK (s:=s) hy);have d1:(0:Int)≤k:=by omega
   have d2:(k:Int)<m:=by omega
   have e1:wrap64 ((k:Int)+1)=(k:Int)+1:=by unfold wrap64;omega
   have e2:wrap64 ((BR (l.take k) s:Int)+1)=(BR (l.take k) s:Int)+1:=by unfold wrap64;omega
   have HK:=hid hk;clear hc hy hk hle;by_cases hys:y=s
   ·have hbe:(y == s)=true:=by simp[hys]
    have HF:Hid (BR (l.take (k+1)) s=BR (l.take k) s+1):=hid (by rw[HT.out,if_pos hys]);clear hys;go_wp2_with fail;go_roundg (m - (k+1))
    case rel=>exact⟨k+1,by have:=HK.out;omega,by go_num,by rw[HF.out];first | rfl | go_num,rfl⟩
    case measure=>have:=HK.out;omega
   ·have hbe:(y == s)=false:=by simpa using hys
    have HF:Hid (BR (l.take (k+1)) s=BR (l.take k) s):=hid (by rw[HT.out,if_neg hys,Nat.add_zero]);clear hys;go_wp2_with fail;go_roundg (m - (k+1))
    case rel=>exact⟨k+1,by have:=HK.out;omega,by go_num,by rw[HF.out],rfl⟩
    case measure=>have:=HK.out;omega
  ·have hkm:m=k:=by omega
   subst hkm;have HF:Hid (l.take m=l):=hid (List.take_of_length_le (by rw[HN.out];exact Nat.le_refl _));go_wp2_with fail;go_ret;exact⟨by rw[HF.out];rfl,rfl⟩
set_option maxRecDepth 100000 in
set_option maxHeartbeats 2000000 in
theorem Jm(r:Rt)(w:World)(hr:Cq w r)(hlen:r.pa.l.length+r.ov.l.length≤100000) :
 Calls Tryz.prog 68 #[.agg #[.string r.nm,.int .i64 r.sg,r.pa.v,r.po.v,r.ov.v,r.fl.v]] w fun e w'=>∃ a n c,e = .returned (.slice a n c)∧n=r.pa.l.length+r.ov.l.length∧B8 1 AO w' ⟨a,c,r.pa.l ++ r.ov.l⟩∧Below w.heap.size w w'∧C8 1 w.heap.size w' a n:=by
 obtain⟨nm,sg,⟨pa,pc,pl⟩,⟨oa,oc,ol⟩,⟨va,vc,vl⟩,⟨fa,fc,fl⟩⟩:=r;have hS1:=DJ BZ Fo hr.pa;have hS2:=DJ BZ Fo hr.ov;dsimp only at hS1 hS2 hlen ⊢;obtain⟨m1,hm1⟩:∃ m,pl.length=m:=⟨_,rfl⟩;obtain⟨m2,hm2⟩:∃ m,ol.length=m:=⟨_,rfl⟩;obtain⟨m3,hm3⟩:∃ m,vl.length=m:=⟨_,rfl⟩;obtain⟨m4,hm4⟩:∃ m,fl.length=m:=⟨_,rfl⟩;rw[CU hm1,CU hm2,CU hm3,CU hm4];rw[hm1,hm3] at hlen ⊢;obtain⟨i0,hi,hz0,hz1,hz2⟩:=info_parts Dx;have HI:=hid (And.intro hi (And.intro hz0 (And.intro hz1 hz2)));obtain⟨W,hW⟩:∃ W,W=w.alloc (.cells #[.string nm,.int .i64 sg,.slice pa m1 pc,.slice oa m2 oc,.slice va m3 vc,.slice fa m4 fc] 52):=⟨_,rfl⟩;have hBW:Below w.heap.size w W:=by rw[hW];exact Ac w _
 have hk:W.heap[w.heap.size]?=some (.cells #[.string nm,.int .i64 sg,.slice pa m1 pc,.slice oa m2 oc,.slice va m3 vc,.slice fa m4 fc] 52):=by rw[hW];exact Ao w _ (Below.refl _ _)
 have HS1:=hid (B9 hS1 hBW);have HS2:=hid (B9 hS2 hBW);have HBW:=hid hBW;have HM:=hid (And.intro hm1 (And.intro hm2 (And.intro hm3 hm4)));have HLE:=hid hlen;obtain⟨gx,hgx⟩:∃ g,g=w.heap.size:=⟨_,rfl⟩;rw[← hgx] at hk;have HK:=hid hk;have HWW:=hid hW;have c2:=A4 hk 2 _ rfl;have c3:=A4 hk 3 _ rfl;have c4:=A4 hk 4 _ rfl;have c5:=A4 hk 5 _ rfl;clear hi hz0 hz1 hz2 hS1 hS2 hm1 hm2 hm3 hm4 hBW hk hlen hr hW;go_enter Tryz.func68,Tryz.ntmps68;go_upto_region 1 with fail
 rw[← HWW.out,← hgx];clear hgx;go_upto_region 2 with fail
 go_wp2_with (at_builtin;first
  | (refine AC rfl _ _ 49 rfl W.heap.size 3 i0 (.int .i64 0) 1 8 Tryz.underlying49 HI.out.1 HI.out.2.1 HI.out.2.2.1 HI.out.2.2.2 rfl (by decide) (.slice none 0 0) 0 [] rfl (World.ownsRow_nil _ _ _ _) pa m1 pc (pl.flatMap AO) rfl (by rw[C2 BZ,HM.out.1]) HS1.out (by have:=HLE.out;unfold maxLen;omega) (by have:=HLE.out;omega) (Nat.le_refl _) ?_;intro v4 W4 hown4 hg4;have hB4:Below W.heap.size W W4:=(Below.refl _ W).grown hg4 (Nat.le_refl _) (fun k hk=>by cases hk);have HK4:=hid (A5 hB4 HK.out);rw[List.nil_append,Nat.zero_add] at hown4;have d2:=A4 HK4.out 2 _ rfl;have d3:=A4 HK4.out 3 _ rfl;have d4:=A4 HK4.out 4 _ rfl;have d5:=A4 HK4.out 5 _ rfl;have HO4:=hid hown4;have HB4:=hid hB4;have HS4:=hid (B9 HS2.out hB4);clear hown4 hg4 hB4 c2 c3 c4 c5)
  | (refine AC rfl _ _ 49 rfl W.heap.size 3 i0 (.int .i64 0) 1 8 Tryz.underlying49 HI.out.1 HI.out.2.1 HI.out.2.2.1 HI.out.2.2.2 rfl (by decide) v4 m1 (pl.flatMap AO) rfl HO4.out va m3 vc (vl.flatMap AO) rfl (by rw[C2 BZ,HM.out.2.2.1]) HS4.out (by have:=HLE.out;unfold maxLen;omega) (by have:=HLE.out;omega) HB4.out.size ?_;intro v5 W5 hown5 hg5;rw[← List.flatMap_append] at hown5;obtain⟨a5,c5,rfl,hS5,hN5⟩:=E8 BZ (by rw[List.length_append,HM.out.1,HM.out.2.2.1]) hown5;have HS5:=hid hS5;have HN5:=hid hN5;have HB5:=hid (HB4.out.grown hg5 HB4.out.size (fun k hk=>(HO4.out.lt _ hk).1));clear hown5 hg5 hS5 hN5 d2 d3 d4 d5))
 go_ret;exact⟨a5,_,c5,rfl,rfl,HS5.out,A8 HBW.out HB5.out,HN5.out.mono HBW.out.size⟩
theorem Ei(r:Rt)(w:World)(hr:Cq w r)(hlen:r.pa.l.length+r.ov.l.length≤100000) :
 Calls Tryz.prog 68 #[.agg #[.string r.nm,.int .i64 r.sg,r.pa.v,r.po.v,r.ov.v,r.fl.v]] w fun e w'=>∃ a n c,e = .returned (.slice a n c)∧n=r.pa.l.length+r.ov.l.length∧B8 1 AO w' ⟨a,c,r.pa.l ++ r.ov.l⟩∧Below w.heap.size w w':=
 (Jm r w hr hlen).mono (fun _ _ ⟨a,n,c,h1,h2,h3,h4,_⟩=>⟨a,n,c,h1,h2,h3,h4⟩)
theorem I2:(Tryz.prog.info? 71).map (fun i=>(i.zero,i.size,i.bytes))=some (some (.agg #[.int .i64 0,.bool false]),2,16):=by kernel_rfl
set_option maxRecDepth 100000 in
set_option maxHeartbeats 2000000 in
theorem FY(r:Rt)(w:World)(hr:Cq w r)(hlen:r.po.l.length+r.fl.l.length≤100000) :
 Calls Tryz.prog 70 #[.agg #[.string r.nm,.int .i64 r.sg,r.pa.v,r.po.v,r.ov.v,r.fl.v]] w fun e w'=>∃ a n c,e = .returned (.slice a n c)∧n=r.po.l.length+r.fl.l.length∧B8 2 Cz w' ⟨a,c,r.po.l ++ r.fl.l⟩∧Below w.heap.size w w'∧C8 2 w.heap.size w' a n:=by
 obtain⟨nm,sg,⟨pa,pc,pl⟩,⟨oa,oc,ol⟩,⟨va,vc,vl⟩,⟨fa,fc,fl⟩⟩:=r;have hS1:=DJ D7 I6 hr.po;have hS2:=DJ D7 I6 hr.fl;dsimp only at hS1 hS2 hlen ⊢;obtain⟨m1,hm1⟩:∃ m,pl.length=m:=⟨_,rfl⟩;obtain⟨m2,hm2⟩:∃ m,ol.length=m:=⟨_,rfl⟩;obtain⟨m3,hm3⟩:∃ m,vl.length=m:=⟨_,rfl⟩;obtain⟨m4,hm4⟩:∃ m,fl.length=m:=⟨_,rfl⟩;rw[CU hm1,CU hm2,CU hm3,CU hm4];rw[hm2,hm4] at hlen ⊢;obtain⟨i0,hi,hz0,hz1,hz2⟩:=info_parts I2;have HI:=hid (And.intro hi (And.intro hz0 (And.intro hz1 hz2)));obtain⟨W,hW⟩:∃ W,W=w.alloc (.cells #[.string nm,.int .i64 sg,.slice pa m1 pc,.slice oa m2 oc,.slice va m3 vc,.slice fa m4 fc] 52):=⟨_,rfl⟩;have hBW:Below w.heap.size w W:=by rw[hW];exact Ac w _
 have hk:W.heap[w.heap.size]?=some (.cells #[.string nm,.int .i64 sg,.slice pa m1 pc,.slice oa m2 oc,.slice va m3 vc,.slice fa m4 fc] 52):=by rw[hW];exact Ao w _ (Below.refl _ _)
 have HS1:=hid (B9 hS1 hBW);have HS2:=hid (B9 hS2 hBW);have HBW:=hid hBW;have HM:=hid (And.intro hm1 (And.intro hm2 (And.intro hm3 hm4)));have HLE:=hid hlen;obtain⟨gx,hgx⟩:∃ g,g=w.heap.size:=⟨_,rfl⟩;rw[← hgx] at hk;have HK:=hid hk;have HWW:=hid hW;have c2:=A4 hk 2 _ rfl;have c3:=A4 hk 3 _ rfl;have c4:=A4 hk 4 _ rfl;have c5:=A4 hk 5 _ rfl;clear hi hz0 hz1 hz2 hS1 hS2 hm1 hm2 hm3 hm4 hBW hk hlen hr hW;go_enter Tryz.func70,Tryz.ntmps70;go_upto_region 1 with fail
 rw[← HWW.out,← hgx];clear hgx;go_upto_region 2 with fail
 go_wp2_with (at_builtin;first
  | (refine AC rfl _ _ 50 rfl W.heap.size 71 i0 (.agg #[.int .i64 0,.bool false]) 2 16 Tryz.underlying50 HI.out.1 HI.out.2.1 HI.out.2.2.1 HI.out.2.2.2 rfl (by decide) (.slice none 0 0) 0 [] rfl (World.ownsRow_nil _ _ _ _) oa m2 oc (ol.flatMap Cz) rfl (by rw[C2 D7,HM.out.2.1]) HS1.out (by have:=HLE.out;unfold maxLen;omega) (by have:=HLE.out;omega) (Nat.le_refl _) ?_;intro v4 W4 hown4 hg4;have hB4:Below W.heap.size W W4:=(Below.refl _ W).grown hg4 (Nat.le_refl _) (fun k hk=>by cases hk);have HK4:=hid (A5 hB4 HK.out);rw[List.nil_append,Nat.zero_add] at hown4;have d2:=A4 HK4.out 2 _ rfl;have d3:=A4 HK4.out 3 _ rfl;have d4:=A4 HK4.out 4 _ rfl;have d5:=A4 HK4.out 5 _ rfl;have HO4:=hid hown4;have HB4:=hid hB4;have HS4:=hid (B9 HS2.out hB4);clear hown4 hg4 hB4 c2 c3 c4 c5)
  | (refine AC rfl _ _ 50 rfl W.heap.size 71 i0 (.agg #[.int .i64 0,.bool false]) 2 16 Tryz.underlying50 HI.out.1 HI.out.2.1 HI.out.2.2.1 HI.out.2.2.2 rfl (by decide) v4 m2 (ol.flatMap Cz) rfl HO4.out fa m4 fc (fl.flatMap Cz) rfl (by rw[C2 D7,HM.out.2.2.2]) HS4.out (by have:=HLE.out;unfold maxLen;omega) (by have:=HLE.out;omega) HB4.out.size ?_;intro v5 W5 hown5 hg5;rw[← List.flatMap_append] at hown5;obtain⟨a5,c5,rfl,hS5,hN5⟩:=E8 D7 (by rw[List.length_append,HM.out.2.1,HM.out.2.2.2]) hown5;have HS5:=hid hS5;have HN5:=hid hN5;have HB5:=hid (HB4.out.grown hg5 HB4.out.size (fun k hk=>(HO4.out.lt _ hk).1));clear hown5 hg5 hS5 hN5 d2 d3 d4 d5))
 go_ret;exact⟨a5,_,c5,rfl,rfl,HS5.out,A8 HBW.out HB5.out,HN5.out.mono HBW.out.size⟩
theorem Dr(r:Rt)(w:World)(hr:Cq w r)(hlen:r.po.l.length+r.fl.l.length≤100000) :
 Calls Tryz.prog 70 #[.agg #[.string r.nm,.int .i64 r.sg,r.pa.v,r.po.v,r.ov.v,r.fl.v]] w fun e w'=>∃ a n c,e = .returned (.slice a n c)∧n=r.po.l.length+r.fl.l.length∧B8 2 Cz w' ⟨a,c,r.po.l ++ r.fl.l⟩∧Below w.heap.size w w':=
 (FY r w hr hlen).mono (fun _ _ ⟨a,n,c,h1,h2,h3,h4,_⟩=>⟨a,n,c,h1,h2,h3,h4⟩)
end Go.Proofs.YtpohoannggdbjaaGreat
namespace Go.Proofs.YtpohoannggdbjaaGreat
open Lib (hid)
open Go.RowKit
set_option maxRecDepth 100000
set_option maxRecDepth 100000 in
set_option maxHeartbeats 2000000 in
theorem Nw(n:Nat)(hn:n≤100000)(w:World):Calls Tryz.prog 91 #[.slice none 0 0,.int .i64 (n:Int)] w fun e w'=>∃ v,e = .returned v∧w'.ownsRow w.heap.size 3 1 v 0 []∧Below w.heap.size w w':=by
 have h1:¬ ((n:Int)<0):=by omega
 have h2:wrap64 (n:Int)=(n:Int):=by unfold wrap64;omega
 by_cases h0:n=0
 ·subst h0;go_enter Tryz.func91,Tryz.ntmps91;go_wp2_with fail;go_ret;exact⟨_,rfl,World.ownsRow_nil _ _ _ _,Below.refl _ _⟩
 ·have h4:(n:Int)>0:=by omega
  have h5:(0:Int)<n:=by omega
  obtain⟨i0,hi,hz0,hz1,hz2⟩:=info_parts Dx;have hrz:∀ ty,(Builtin.append_ #[49,3] ty #[.slice none 0 0,.int .i64 (n:Int)]).run Tryz.prog w = .ok (.slice (some ⟨w.heap.size,0,none⟩) (0+n) (grownCap w (0+n) 0 3)) (w.drew.alloc (.cells (([]:List Value).toArray ++ Builtin.zeroCells (.int .i64 0:Value).cells n ++ Builtin.zeroCells (.int .i64 0:Value).cells (grownCap w (0+n) 0 3 - (0+n))) 3)):=fun ty=>
   Lib.run_append_grow_zeros w 49 3 ty 3 i0 (.int .i64 0) .i64 .i64 Tryz.underlying49 Tryz.underlying3 hi hz0 none 0 0 [] (run_firstCells_none _ _ _ _ _) n (by omega) (by rw[hz1];decide) (by omega) (by omega) (by rw[hz2];omega) (growslice_fits (by omega) (by rw[hz2];omega))
  have hge:=grownCap_ge w (0+n) 0 3;have hcm:=grownCap_le_maxLen w (0+n) 0 3 (by unfold maxLen;omega);obtain⟨G,hG⟩:∃ G,G=grownCap w (0+n) 0 3:=⟨_,rfl⟩;rw[← hG] at hrz hge hcm;rw[Nat.zero_add] at hrz hge;obtain⟨Z,hZ⟩:∃ Z,Z=([]:List Value).toArray ++ Builtin.zeroCells (.int .i64 0:Value).cells n ++ Builtin.zeroCells (.int .i64 0:Value).cells (G - n):=⟨_,rfl⟩;rw[← hZ] at hrz;have hs:Z.size=G*1:=by
   rw[hZ,Array.size_append,Array.size_append,size_zeroCells,size_zeroCells];show 0+n*1+(G - n)*1=G*1;omega
  have hG63:G≤9223372036854775807:=by unfold maxLen at hcm;exact hcm
  have g1:(0:Int)≤G:=by omega
  have HE:Hid ((w.drew.alloc (.cells Z 3)).ownsRow w.heap.size 3 1 (.slice (some ⟨w.heap.size,0,none⟩) 0 G) 0 []∧Below w.heap.size w (w.drew.alloc (.cells Z 3))):=hid ⟨⟨rfl,.inr ⟨w.heap.size,G,Z,rfl,Nat.le_refl _,Ao w.drew _ (Below.refl _ _),Nat.zero_le _,hcm,hs,by simp⟩⟩,(Below.refl _ w).drew.alloc (Nat.le_refl _) _⟩;clear hi hz0 hz1 hz2 hG hZ hs hcm h0;go_enter Tryz.func91,Tryz.ntmps91;go_wp2_with (at_builtin;refine Lib.wpList_append_run _ rfl _ _ _ _ rfl _ _ rfl rfl _ _ (hrz _) ?_);go_ret;exact⟨_,rfl,HE.out.1,HE.out.2⟩
set_option maxRecDepth 100000 in
set_option maxHeartbeats 2000000 in
theorem P6(n:Nat)(hn:n≤100000)(w:World):Calls Tryz.prog 92 #[.slice none 0 0,.int .i64 (n:Int)] w fun e w'=>∃ v,e = .returned v∧w'.ownsRow w.heap.size 71 2 v 0 []∧Below w.heap.size w w':=by
 have h1:¬ ((n:Int)<0):=by omega
 have h2:wrap64 (n:Int)=(n:Int):=by unfold wrap64;omega
 by_cases h0:n=0
 ·subst h0;go_enter Tryz.func92,Tryz.ntmps92;go_wp2_with fail;go_ret;exact⟨_,rfl,World.ownsRow_nil _ _ _ _,Below.refl _ _⟩
 ·have h4:(n:Int)>0:=by omega
  have h5:(0:Int)<n:=by omega
  obtain⟨i0,hi,hz0,hz1,hz2⟩:=info_parts I2;have hrz:∀ ty,(Builtin.append_ #[50,3] ty #[.slice none 0 0,.int .i64 (n:Int)]).run Tryz.prog w = .ok (.slice (some ⟨w.heap.size,0,none⟩) (0+n) (grownCap w (0+n) 0 71)) (w.drew.alloc (.cells (([]:List Value).toArray ++ Builtin.zeroCells (.agg #[.int .i64 0,.bool false]:Value).cells n ++ Builtin.zeroCells (.agg #[.int .i64 0,.bool false]:Value).cells (grownCap w (0+n) 0 71 - (0+n))) 71)):=fun ty=>
   Lib.run_append_grow_zeros w 50 3 ty 71 i0 (.agg #[.int .i64 0,.bool false]) .i64 .i64 Tryz.underlying50 Tryz.underlying3 hi hz0 none 0 0 [] (run_firstCells_none _ _ _ _ _) n (by omega) (by rw[hz1];decide) (by omega) (by omega) (by rw[hz2];omega) (growslice_fits (by omega) (by rw[hz2];omega))
  have hge:=grownCap_ge w (0+n) 0 71;have hcm:=grownCap_le_maxLen w (0+n) 0 71 (by unfold maxLen;omega);obtain⟨G,hG⟩:∃ G,G=grownCap w (0+n) 0 71:=⟨_,rfl⟩;rw[← hG] at hrz hge hcm;rw[Nat.zero_add] at hrz hge;obtain⟨Z,hZ⟩:∃ Z,Z=([]:List Value).toArray ++ Builtin.zeroCells (.agg #[.int .i64 0,.bool false]:Value).cells n ++ Builtin.zeroCells (.agg #[.int .i64 0,.bool false]:Value).cells (G - n):=⟨_,rfl⟩;rw[← hZ] at hrz;have hs:Z.size=G*2:=by
   rw[hZ,Array.size_append,Array.size_append,size_zeroCells,size_zeroCells];show 0+n*2+(G - n)*2=G*2;omega
  have hG63:G≤9223372036854775807:=by unfold maxLen at hcm;exact hcm
  have g1:(0:Int)≤G:=by omega
  have HE:Hid ((w.drew.alloc (.cells Z 71)).ownsRow w.heap.size 71 2 (.slice (some ⟨w.heap.size,0,none⟩) 0 G) 0 []∧Below w.heap.size w (w.drew.alloc (.cells Z 71))):=hid ⟨⟨rfl,.inr ⟨w.heap.size,G,Z,rfl,Nat.le_refl _,Ao w.drew _ (Below.refl _ _),Nat.zero_le _,hcm,hs,by simp⟩⟩,(Below.refl _ w).drew.alloc (Nat.le_refl _) _⟩;clear hi hz0 hz1 hz2 hG hZ hs hcm h0;go_enter Tryz.func92,Tryz.ntmps92;go_wp2_with (at_builtin;refine Lib.wpList_append_run _ rfl _ _ _ _ rfl _ _ rfl rfl _ _ (hrz _) ?_);go_ret;exact⟨_,rfl,HE.out.1,HE.out.2⟩
end Go.Proofs.YtpohoannggdbjaaGreat
namespace Go.Proofs.YtpohoannggdbjaaGreat
open Lib (hid)
open Go.RowKit
set_option maxRecDepth 100000
set_option maxRecDepth 100000 in
set_option maxHeartbeats 4000000 in
theorem Ja(g:Nat)(t:TypeId)(fr:Nat × Nat)(a1 a2:Option Addr)(m1 c1 m2 c2:Nat)(l1 l2:List Int)(w:World)(hg:w.heap[g]?=some (.cells #[.slice a1 m1 c1,.slice a2 m2 c2] t fr))(hS1:Co w a1 c1 (l1.flatMap AO))(hS2:Co w a2 c2 (l2.flatMap AO))(hl1:l1.length=m1)(hl2:l2.length=m2)(hle:m1+m2≤100000) :
 Calls Tryz.prog 50 #[.slice (some ⟨g,0,none⟩) 2 2] w fun e w'=>∃ a n c,e = .returned (.slice a n c)∧n=m1+m2∧B8 1 AO w' ⟨a,c,l1 ++ l2⟩∧Below w.heap.size w w'∧C8 1 w.heap.size w' a n:=by
 have HG:=hid hg;have HS1:=hid hS1;have HS2:=hid hS2;have HL:=hid (And.intro hl1 hl2);have HLE:=hid hle;obtain⟨i0,hi,hz0,hz1,hz2⟩:=info_parts Dx;have HI:=hid (And.intro hi (And.intro hz0 (And.intro hz1 hz2)));have x0:=A4 hg 0 _ rfl;have x1:=A4 hg 1 _ rfl;have e1:wrap64 (m1:Int)=m1:=by unfold wrap64;omega
 have e2:wrap64 ((m1:Int)+(m2:Int))=(m1:Int)+(m2:Int):=by unfold wrap64;omega
 have n1:¬ (m1:Int)<0:=by omega
 have n2:¬ (m1:Int)+(m2:Int)<0:=by omega
 have p1:(0:Int)≤(m1:Int):=by omega
 have p2:(0:Int)≤(m1:Int)+(m2:Int):=by omega
 clear hi hz0 hz1 hz2 hS1 hS2 hl1 hl2 hle hg;go_enter Tryz.func50,Tryz.ntmps50;go_wp2_with fail;go_loopg [3,5,11] 2 (fun q s _ i wr=>(q=2∧i = .int .i64 0∧s = .int .i64 0∧w=wr)∨(q=1∧i = .int .i64 1∧s = .int .i64 (m1:Int)∧w=wr)∨(q=0∧i = .int .i64 2∧s = .int .i64 ((m1:Int)+(m2:Int))∧w=wr))
 case atStart=>exact .inl ⟨rfl,rfl,rfl,rfl⟩
 case round=>
  rcases hrel with ⟨rfl,rfl,rfl,rfl⟩ | ⟨rfl,rfl,rfl,rfl⟩ | ⟨rfl,rfl,rfl,rfl⟩
  ·go_wp2_with fail;go_roundg 1
   case rel=>exact .inr (.inl ⟨rfl,by go_num,by first | rfl | go_num | simp[e1],rfl⟩)
   case measure=>omega
  ·go_wp2_with fail;go_roundg 0
   case rel=>exact .inr (.inr ⟨rfl,by go_num,by first | rfl | go_num | simp[e2],rfl⟩)
   case measure=>omega
  ·go_wp2_with fail;have hgr:=Nw (m1+m2) HLE.out w;rw[Int.natCast_add] at hgr;refine hgr.mono ?_;rintro e w1 ⟨v0,rfl,hO,hb⟩;have HO:=hid hO;have HB:=hid hb;clear hgr hO hb x0 x1 n1 n2 p1 p2 e1 e2;have x0:=A4 (A5 HB.out HG.out) 0 _ rfl;have x1:=A4 (A5 HB.out HG.out) 1 _ rfl;go_wp2_with fail;clear x0 x1;go_loopg [6,8,27] 2 (fun q v _ i wr=>(q=2∧i = .int .i64 0∧wr.ownsRow w.heap.size 3 1 v 0 []∧Below w.heap.size w wr)∨(q=1∧i = .int .i64 1∧wr.ownsRow w.heap.size 3 1 v m1 (l1.flatMap AO)∧Below w.heap.size w wr)∨(q=0∧i = .int .i64 2∧wr.ownsRow w.heap.size 3 1 v (m1+m2) ((l1 ++ l2).flatMap AO)∧Below w.heap.size w wr))
   case atStart=>exact .inl ⟨rfl,rfl,HO.out,HB.out⟩
   case round=>
    clear HO HB;rcases hrel with ⟨rfl,rfl,hO,hb⟩ | ⟨rfl,rfl,hO,hb⟩ | ⟨rfl,rfl,hO,hb⟩
    ·have HO:=hid hO;have HB:=hid hb;have HSS:=hid (B9 HS1.out hb);have x0:=A4 (A5 hb HG.out) 0 _ rfl;have x1:=A4 (A5 hb HG.out) 1 _ rfl;clear hO hb;go_wp2_with (at_builtin;refine AC rfl _ _ 49 rfl w.heap.size 3 i0 (.int .i64 0) 1 8 Tryz.underlying49 HI.out.1 HI.out.2.1 HI.out.2.2.1 HI.out.2.2.2 rfl (by decide) _ 0 [] rfl HO.out a1 m1 c1 (l1.flatMap AO) rfl (by rw[C2 BZ,HL.out.1]) HSS.out (by have:=HLE.out;unfold maxLen;omega) (by have:=HLE.out;omega) HB.out.size ?_;intro v5 W5 hown5 hg5);have hB5:=HB.out.grown hg5 HB.out.size (fun k hk=>(HO.out.lt _ hk).1);rw[List.nil_append,Nat.zero_add] at hown5;go_roundg 1
     case rel=>exact .inr (.inl ⟨rfl,by go_num,hown5,hB5⟩)
     case measure=>omega
    ·have HO:=hid hO;have HB:=hid hb;have HSS:=hid (B9 HS2.out hb);have x0:=A4 (A5 hb HG.out) 0 _ rfl;have x1:=A4 (A5 hb HG.out) 1 _ rfl;clear hO hb;go_wp2_with (at_builtin;refine AC rfl _ _ 49 rfl w.heap.size 3 i0 (.int .i64 0) 1 8 Tryz.underlying49 HI.out.1 HI.out.2.1 HI.out.2.2.1 HI.out.2.2.2 rfl (by decide) _ m1 (l1.flatMap AO) rfl HO.out a2 m2 c2 (l2.flatMap AO) rfl (by rw[C2 BZ,HL.out.2]) HSS.out (by have:=HLE.out;unfold maxLen;omega) (by have:=HLE.out;omega) HB.out.size ?_;intro v5 W5 hown5 hg5);have hB5:=HB.out.grown hg5 HB.out.size (fun k hk=>(HO.out.lt _ hk).1);rw[← List.flatMap_append] at hown5;go_roundg 0
     case rel=>exact .inr (.inr ⟨rfl,by go_num,hown5,hB5⟩)
     case measure=>omega
    ·obtain⟨a5,c5,rfl,hS5,hN5⟩:=E8 BZ (by rw[List.length_append,HL.out.1,HL.out.2]) hO;have HS5:=hid hS5;have HN5:=hid hN5;have HB:=hid hb;clear hO hb hS5 hN5;go_wp2_with fail;go_ret;exact⟨a5,_,c5,rfl,rfl,HS5.out,HB.out,HN5.out⟩
set_option maxRecDepth 100000 in
set_option maxHeartbeats 4000000 in
theorem JR(g:Nat)(t:TypeId)(fr:Nat × Nat)(a1 a2:Option Addr)(m1 c1 m2 c2:Nat)(l1 l2:List (Int × Bool))(w:World)(hg:w.heap[g]?=some (.cells #[.slice a1 m1 c1,.slice a2 m2 c2] t fr))(hS1:Co w a1 c1 (l1.flatMap Cz))(hS2:Co w a2 c2 (l2.flatMap Cz))(hl1:l1.length=m1)(hl2:l2.length=m2)(hle:m1+m2≤100000) :
 Calls Tryz.prog 51 #[.slice (some ⟨g,0,none⟩) 2 2] w fun e w'=>∃ a n c,e = .returned (.slice a n c)∧n=m1+m2∧B8 2 Cz w' ⟨a,c,l1 ++ l2⟩∧Below w.heap.size w w'∧C8 2 w.heap.size w' a n:=by
 have HG:=hid hg;have HS1:=hid hS1;have HS2:=hid hS2;have HL:=hid (And.intro hl1 hl2);have HLE:=hid hle;obtain⟨i0,hi,hz0,hz1,hz2⟩:=info_parts I2;have HI:=hid (And.intro hi (And.intro hz0 (And.intro hz1 hz2)));have x0:=A4 hg 0 _ rfl;have x1:=A4 hg 1 _ rfl;have e1:wrap64 (m1:Int)=m1:=by unfold wrap64;omega
 have e2:wrap64 ((m1:Int)+(m2:Int))=(m1:Int)+(m2:Int):=by unfold wrap64;omega
 have n1:¬ (m1:Int)<0:=by omega
 have n2:¬ (m1:Int)+(m2:Int)<0:=by omega
 have p1:(0:Int)≤(m1:Int):=by omega
 have p2:(0:Int)≤(m1:Int)+(m2:Int):=by omega
 clear hi hz0 hz1 hz2 hS1 hS2 hl1 hl2 hle hg;go_enter Tryz.func51,Tryz.ntmps51;go_wp2_with fail;go_loopg [3,5,11] 2 (fun q s _ i wr=>(q=2∧i = .int .i64 0∧s = .int .i64 0∧w=wr)∨(q=1∧i = .int .i64 1∧s = .int .i64 (m1:Int)∧w=wr)∨(q=0∧i = .int .i64 2∧s = .int .i64 ((m1:Int)+(m2:Int))∧w=wr))
 case atStart=>exact .inl ⟨rfl,rfl,rfl,rfl⟩
 case round=>
  rcases hrel with ⟨rfl,rfl,rfl,rfl⟩ | ⟨rfl,rfl,rfl,rfl⟩ | ⟨rfl,rfl,rfl,rfl⟩
  ·go_wp2_with fail;go_roundg 1
   case rel=>exact .inr (.inl ⟨rfl,by go_num,by first | rfl | go_num | simp[e1],rfl⟩)
   case measure=>omega
  ·go_wp2_with fail;go_roundg 0
   case rel=>exact .inr (.inr ⟨rfl,by go_num,by first | rfl | go_num | simp[e2],rfl⟩)
   case measure=>omega
  ·go_wp2_with fail;have hgr:=P6 (m1+m2) HLE.out w;rw[Int.natCast_add] at hgr;refine hgr.mono ?_;rintro e w1 ⟨v0,rfl,hO,hb⟩;have HO:=hid hO;have HB:=hid hb;clear hgr hO hb x0 x1 n1 n2 p1 p2 e1 e2;have x0:=A4 (A5 HB.out HG.out) 0 _ rfl;have x1:=A4 (A5 HB.out HG.out) 1 _ rfl;go_wp2_with fail;clear x0 x1;go_loopg [6,8,27] 2 (fun q v _ i wr=>(q=2∧i = .int .i64 0∧wr.ownsRow w.heap.size 71 2 v 0 []∧Below w.heap.size w wr)∨(q=1∧i = .int .i64 1∧wr.ownsRow w.heap.size 71 2 v m1 (l1.flatMap Cz)∧Below w.heap.size w wr)∨(q=0∧i = .int .i64 2∧wr.ownsRow w.heap.size 71 2 v (m1+m2) ((l1 ++ l2).flatMap Cz)∧Below w.heap.size w wr))
   case atStart=>exact .inl ⟨rfl,rfl,HO.out,HB.out⟩
   case round=>
    clear HO HB;rcases hrel with ⟨rfl,rfl,hO,hb⟩ | ⟨rfl,rfl,hO,hb⟩ | ⟨rfl,rfl,hO,hb⟩
    ·have HO:=hid hO;have HB:=hid hb;have HSS:=hid (B9 HS1.out hb);have x0:=A4 (A5 hb HG.out) 0 _ rfl;have x1:=A4 (A5 hb HG.out) 1 _ rfl;clear hO hb;go_wp2_with (at_builtin;refine AC rfl _ _ 50 rfl w.heap.size 71 i0 (.agg #[.int .i64 0,.bool false]) 2 16 Tryz.underlying50 HI.out.1 HI.out.2.1 HI.out.2.2.1 HI.out.2.2.2 rfl (by decide) _ 0 [] rfl HO.out a1 m1 c1 (l1.flatMap Cz) rfl (by rw[C2 D7,HL.out.1]) HSS.out (by have:=HLE.out;unfold maxLen;omega) (by have:=HLE.out;omega) HB.out.size ?_;intro v5 W5 hown5 hg5);have hB5:=HB.out.grown hg5 HB.out.size (fun k hk=>(HO.out.lt _ hk).1);rw[List.nil_append,Nat.zero_add] at hown5;go_roundg 1
     case rel=>exact .inr (.inl ⟨rfl,by go_num,hown5,hB5⟩)
     case measure=>omega
    ·have HO:=hid hO;have HB:=hid hb;have HSS:=hid (B9 HS2.out hb);have x0:=A4 (A5 hb HG.out) 0 _ rfl;have x1:=A4 (A5 hb HG.out) 1 _ rfl;clear hO hb;go_wp2_with (at_builtin;refine AC rfl _ _ 50 rfl w.heap.size 71 i0 (.agg #[.int .i64 0,.bool false]) 2 16 Tryz.underlying50 HI.out.1 HI.out.2.1 HI.out.2.2.1 HI.out.2.2.2 rfl (by decide) _ m1 (l1.flatMap Cz) rfl HO.out a2 m2 c2 (l2.flatMap Cz) rfl (by rw[C2 D7,HL.out.2]) HSS.out (by have:=HLE.out;unfold maxLen;omega) (by have:=HLE.out;omega) HB.out.size ?_;intro v5 W5 hown5 hg5);have hB5:=HB.out.grown hg5 HB.out.size (fun k hk=>(HO.out.lt _ hk).1);rw[← List.flatMap_append] at hown5;go_roundg 0
     case rel=>exact .inr (.inr ⟨rfl,by go_num,hown5,hB5⟩)
     case measure=>omega
    ·obtain⟨a5,c5,rfl,hS5,hN5⟩:=E8 D7 (by rw[List.length_append,HL.out.1,HL.out.2]) hO;have HS5:=hid hS5;have HN5:=hid hN5;have HB:=hid hb;clear hO hb hS5 hN5;go_wp2_with fail;go_ret;exact⟨a5,_,c5,rfl,rfl,HS5.out,HB.out,HN5.out⟩
end Go.Proofs.YtpohoannggdbjaaGreat
namespace Go.Proofs.YtpohoannggdbjaaGreat
open Lib (hid)
open Go.RowKit
set_option maxRecDepth 100000
set_option maxRecDepth 100000 in
set_option maxHeartbeats 2000000 in
theorem GS(r:Rt)(w:World)(hr:Cq w r)(hlen:r.pa.l.length+r.ov.l.length≤100000) :
 Calls Tryz.prog 29 #[.agg #[.string r.nm,.int .i64 r.sg,r.pa.v,r.po.v,r.ov.v,r.fl.v]] w fun e w'=>∃ a n c,e = .returned (.slice a n c)∧n=r.pa.l.length+r.ov.l.length∧B8 1 AO w' ⟨a,c,r.pa.l ++ r.ov.l⟩∧Below w.heap.size w w'∧C8 1 w.heap.size w' a n:=by
 obtain⟨nm,sg,⟨pa,pc,pl⟩,⟨oa,oc,ol⟩,⟨va,vc,vl⟩,⟨fa,fc,fl⟩⟩:=r;have hS1:=DJ BZ Fo hr.pa;have hS2:=DJ BZ Fo hr.ov;dsimp only at hS1 hS2 hlen ⊢;obtain⟨m1,hm1⟩:∃ m,pl.length=m:=⟨_,rfl⟩;obtain⟨m2,hm2⟩:∃ m,ol.length=m:=⟨_,rfl⟩;obtain⟨m3,hm3⟩:∃ m,vl.length=m:=⟨_,rfl⟩;obtain⟨m4,hm4⟩:∃ m,fl.length=m:=⟨_,rfl⟩;rw[CU hm1,CU hm2,CU hm3,CU hm4];rw[hm1,hm3] at hlen ⊢;have HM:=hid (And.intro hm1 (And.intro hm2 (And.intro hm3 hm4)));have HC:Hid (∀(g:Nat) (W:World),W.heap[g]?=some (.cells #[.slice pa m1 pc,.slice va m3 vc] 49)→Below w.heap.size w W→Calls Tryz.prog 50 #[.slice (some ⟨g,0,none⟩) 2 2] W fun e w'=>∃ a n c,e = .returned (.slice a n c)∧n=m1+m3∧B8 1 AO w' ⟨a,c,pl ++ vl⟩∧Below w.heap.size w w'∧C8 1 w.heap.size w' a n):=hid (fun g W hg hb=>(Ja g 49 (0,0) pa va m1 pc m3 vc pl vl W hg (B9 hS1 hb) (B9 hS2 hb) hm1 hm3 hlen).mono (fun e w9 ⟨a,n,c,h1,h2,h3,h4,h5⟩=>⟨a,n,c,h1,h2,h3,A8 hb h4,h5.mono hb.size⟩));clear hS1 hS2 hm1 hm2 hm3 hm4 hlen hr;go_enter Tryz.func29,Tryz.ntmps29;go_wp2_with fail;refine(HC.out _ _ (De w _ _).2 (C1 w _ _)).mono ?_;rintro e w9 ⟨a,n,c,rfl,hn,hS,hb,hN⟩;have HN:=hid hn;have HS:=hid hS;have HNR:=hid hN;have HB:=hid hb;clear hn hS hb hN;go_wp2_with fail;go_ret;exact⟨a,n,c,rfl,HN.out,HS.out,HB.out,HNR.out⟩
theorem Gd(r:Rt)(w:World)(hr:Cq w r)(hlen:r.pa.l.length+r.ov.l.length≤100000) :
 Calls Tryz.prog 29 #[.agg #[.string r.nm,.int .i64 r.sg,r.pa.v,r.po.v,r.ov.v,r.fl.v]] w fun e w'=>∃ a n c,e = .returned (.slice a n c)∧n=r.pa.l.length+r.ov.l.length∧B8 1 AO w' ⟨a,c,r.pa.l ++ r.ov.l⟩∧Below w.heap.size w w':=
 (GS r w hr hlen).mono (fun _ _ ⟨a,n,c,h1,h2,h3,h4,_⟩=>⟨a,n,c,h1,h2,h3,h4⟩)
set_option maxRecDepth 100000 in
set_option maxHeartbeats 2000000 in
theorem GN(r:Rt)(w:World)(hr:Cq w r)(hlen:r.po.l.length+r.fl.l.length≤100000) :
 Calls Tryz.prog 30 #[.agg #[.string r.nm,.int .i64 r.sg,r.pa.v,r.po.v,r.ov.v,r.fl.v]] w fun e w'=>∃ a n c,e = .returned (.slice a n c)∧n=r.po.l.length+r.fl.l.length∧B8 2 Cz w' ⟨a,c,r.po.l ++ r.fl.l⟩∧Below w.heap.size w w'∧C8 2 w.heap.size w' a n:=by
 obtain⟨nm,sg,⟨pa,pc,pl⟩,⟨oa,oc,ol⟩,⟨va,vc,vl⟩,⟨fa,fc,fl⟩⟩:=r;have hS1:=DJ D7 I6 hr.po;have hS2:=DJ D7 I6 hr.fl;dsimp only at hS1 hS2 hlen ⊢;obtain⟨m1,hm1⟩:∃ m,pl.length=m:=⟨_,rfl⟩;obtain⟨m2,hm2⟩:∃ m,ol.length=m:=⟨_,rfl⟩;obtain⟨m3,hm3⟩:∃ m,vl.length=m:=⟨_,rfl⟩;obtain⟨m4,hm4⟩:∃ m,fl.length=m:=⟨_,rfl⟩;rw[CU hm1,CU hm2,CU hm3,CU hm4];rw[hm2,hm4] at hlen ⊢;have HM:=hid (And.intro hm1 (And.intro hm2 (And.intro hm3 hm4)));have HC:Hid (∀(g:Nat) (W:World),W.heap[g]?=some (.cells #[.slice oa m2 oc,.slice fa m4 fc] 50)→Below w.heap.size w W→Calls Tryz.prog 51 #[.slice (some ⟨g,0,none⟩) 2 2] W fun e w'=>∃ a n c,e = .returned (.slice a n c)∧n=m2+m4∧B8 2 Cz w' ⟨a,c,ol ++ fl⟩∧Below w.heap.size w w'∧C8 2 w.heap.size w' a n):=hid (fun g W hg hb=>(JR g 50 (0,0) oa fa m2 oc m4 fc ol fl W hg (B9 hS1 hb) (B9 hS2 hb) hm2 hm4 hlen).mono (fun e w9 ⟨a,n,c,h1,h2,h3,h4,h5⟩=>⟨a,n,c,h1,h2,h3,A8 hb h4,h5.mono hb.size⟩));clear hS1 hS2 hm1 hm2 hm3 hm4 hlen hr;go_enter Tryz.func30,Tryz.ntmps30;go_wp2_with fail;refine(HC.out _ _ (De w _ _).2 (C1 w _ _)).mono ?_;rintro e w9 ⟨a,n,c,rfl,hn,hS,hb,hN⟩;have HN:=hid hn;have HS:=hid hS;have HNR:=hid hN;have HB:=hid hb;clear hn hS hb hN;go_wp2_with fail;go_ret;exact⟨a,n,c,rfl,HN.out,HS.out,HB.out,HNR.out⟩
theorem Jf(r:Rt)(w:World)(hr:Cq w r)(hlen:r.po.l.length+r.fl.l.length≤100000) :
 Calls Tryz.prog 30 #[.agg #[.string r.nm,.int .i64 r.sg,r.pa.v,r.po.v,r.ov.v,r.fl.v]] w fun e w'=>∃ a n c,e = .returned (.slice a n c)∧n=r.po.l.length+r.fl.l.length∧B8 2 Cz w' ⟨a,c,r.po.l ++ r.fl.l⟩∧Below w.heap.size w w':=
 (GN r w hr hlen).mono (fun _ _ ⟨a,n,c,h1,h2,h3,h4,_⟩=>⟨a,n,c,h1,h2,h3,h4⟩)
end Go.Proofs.YtpohoannggdbjaaGreat
namespace Go.Proofs.YtpohoannggdbjaaGreat
open Lib (hid)
open Go.RowKit
set_option maxRecDepth 100000
theorem OJ(gp:Nat)(pt:Int)(t:TypeId)(fr:Nat × Nat)(n:Int × Bool)(w:World)(h:w.heap[gp]?=some (.cells #[.int .i64 pt] t fr)) :
 Calls Tryz.prog 106 #[.agg #[.int .i64 n.1,.bool n.2],.pointer (some ⟨gp,0,none⟩)] w fun e w'=>e = .returned (.bool (decide (n.1=pt)))∧Below w.heap.size w w':=by
 have c0:=A4 h 0 _ rfl;have hlt:=Af h;clear h;by_cases hp:n.1=pt
 ·have q1:(n.1 == pt)=true:=by simpa using hp
  have HP:=hid hp;clear hp;go_enter Tryz.func106,Tryz.ntmps106;go_wp2_with fail;go_ret;refine⟨?_,Ac _ _⟩;rw[decide_eq_true HP.out];first | rfl | (show Ending.returned (.bool (n.1 == pt))=_;rw[q1]) | (show Ending.returned (.bool (decide (n.1=pt)))=_;rw[decide_eq_true HP.out])
 ·have q1:(n.1 == pt)=false:=by simpa using hp
  have HP:=hid hp;clear hp;go_enter Tryz.func106,Tryz.ntmps106;go_wp2_with fail;go_ret;refine⟨?_,Ac _ _⟩;rw[decide_eq_false HP.out];first | rfl | (show Ending.returned (.bool (n.1 == pt))=_;rw[q1]) | (show Ending.returned (.bool (decide (n.1=pt)))=_;rw[decide_eq_false HP.out])
def BH{α:Type}(p:α→Bool):Nat→List α→Int
 | _,[]=>-1
 | k,y :: t=>if p y then (k:Int) else BH p (k+1) t
theorem Dh{α:Type}(p:α→Bool):∀(l:List α) (k:Nat),(0≤BH p k l∧l.any p=true)∨(BH p k l<0∧l.any p=false):=by
 intro l
 induction l with
 | nil=>intro k;exact .inr ⟨by unfold BH;decide,rfl⟩
 | cons y l ih=>
   intro k;cases h:p y with
   | true=>exact .inl ⟨by unfold BH;rw[if_pos h];omega,by simp[h]⟩
   | false=>
     have e1:BH p k (y :: l)=BH p (k+1) l:=by
      show(if p y then (k:Int) else BH p (k+1) l)=_;rw[if_neg (by rw[h];decide)]
     have e2:(y :: l).any p=l.any p:=by simp[h]
     rw[e1,e2];exact ih (k+1)
theorem Ci{α:Type}{p:α→Bool}{l:List α}{y:α}{k:Nat}(h:l[k]?=some y):BH p k (l.drop k)=if p y then (k:Int) else BH p (k+1) (l.drop (k+1)):=by
 have hk:k<l.length:=(List.getElem?_eq_some_iff.1 h).1;rw[List.drop_eq_getElem_cons hk,(List.getElem?_eq_some_iff.1 h).2];rfl
theorem CV{α:Type}{p:α→Bool}{l:List α}{k:Nat}(h:l.length=k):BH p k (l.drop k) = -1:=by rw[List.drop_eq_nil_of_le (by omega)];rfl
attribute [local irreducible] BH
set_option maxHeartbeats 1000000 in
theorem Ps(gp:Nat)(p:Int × Bool→Bool)(x:Option Addr)(m c:Nat)(l:List (Int × Bool))(w:World)(hn:l.length=m)(hm:m≤9223372036854775807)(hl:AF 2 Cz w x l)
 (hp:∀ W,Below w.heap.size w W→∀ n,Calls Tryz.prog 106 #[.agg #[.int .i64 n.1,.bool n.2],.pointer (some ⟨gp,0,none⟩)] W fun e w'=>e = .returned (.bool (p n))∧Below W.heap.size W w') :
 Calls Tryz.prog 97 #[.slice x m c,.func (.func 106) #[] #[.pointer (some ⟨gp,0,none⟩)]] w fun e w'=>e = .returned (.int .i64 (BH p 0 l))∧Below w.heap.size w w':=by
 have HN:=hid hn;have HP:=hid hp;have HR:=hid hl;clear hn hp hl;go_enter Tryz.func97,Tryz.ntmps97;go_wp2_with fail;go_loopg [5,8] m (fun g _ i wr=>∃ k:Nat,k+g=m∧i = .int .i64 (k:Int)∧BH p k (l.drop k)=BH p 0 l∧Below w.heap.size w wr)
 case atStart=>exact⟨0,by omega,rfl,rfl,Below.refl _ _⟩
 case round=>
  obtain⟨k,hk,rfl,hb,hbw⟩:=hrel;have HB:=hid hb;have HBW:=hid hbw;clear hb hbw;by_cases hlt:k<m
  ·obtain⟨y,hy⟩:∃ y,l[k]?=some y:=⟨_,List.getElem?_eq_getElem (by rw[HN.out];exact hlt)⟩;rcases HR.out.below HBW.out with hnil | ⟨b,off,rfl,hc⟩
   ·rw[hnil] at hy;simp at hy
   have z0:=hc k _ hy 0 _ rfl;have z1:=hc k _ hy 1 _ rfl;rw[Nat.add_zero] at z0;have hd:=Ci (p:=p) hy;have d1:(0:Int)≤k:=by omega
   have d2:(k:Int)<m:=by omega
   have e1:wrap64 ((k:Int)+1)=(k:Int)+1:=by unfold wrap64;omega
   have HK:=hid hk;have hcall:=HP.out wr HBW.out y;obtain⟨D,hD⟩:∃ D,p y=D:=⟨_,rfl⟩;rw[hD] at hcall hd;have HC:=hid hcall;clear hc hy hk hcall hD;cases D with
   | true=>
     have HF:Hid (BH p 0 l=k):=hid (HB.out.symm.trans (by rw[hd,if_pos rfl]));clear hd;go_wp2_with fail;refine HC.out.mono ?_;rintro e w5 ⟨rfl,hb5⟩;have HB5:=hid (A8 HBW.out hb5);clear hb5;go_wp2_with fail;go_ret;exact⟨by rw[HF.out];rfl,HB5.out⟩
   | false=>
     have HT:Hid (BH p (k+1) (l.drop (k+1))=BH p 0 l):=hid (Eq.trans (by rw[hd,if_neg (by decide)]) HB.out);clear hd;go_wp2_with fail;refine HC.out.mono ?_;rintro e w5 ⟨rfl,hb5⟩;have HB5:=hid (A8 HBW.out hb5);clear hb5;go_wp2_with fail;go_roundg (m - (k+1))
     case rel=>exact⟨k+1,by have:=HK.out;omega,by go_num,HT.out,HB5.out⟩
     case measure=>have:=HK.out;omega
  ·have hkm:m=k:=by omega
   subst hkm;have HF:Hid (BH p 0 l = -1):=hid (HB.out.symm.trans (CV HN.out));go_wp2_with fail;go_ret;exact⟨by rw[HF.out];rfl,HBW.out⟩
end Go.Proofs.YtpohoannggdbjaaGreat
namespace Go.Proofs.YtpohoannggdbjaaGreat
open Lib (hid)
open Go.RowKit
set_option maxRecDepth 100000
attribute [local irreducible] BH
theorem Gt(b:Bool)(gp:Nat)(p:Int × Bool→Bool)(x:Option Addr)(m c:Nat)(l:List (Int × Bool))(w:World)(hb:l.any p=b)(hn:l.length=m)(hm:m≤9223372036854775807)(hl:AF 2 Cz w x l)
 (hp:∀ W,Below w.heap.size w W→∀ n,Calls Tryz.prog 106 #[.agg #[.int .i64 n.1,.bool n.2],.pointer (some ⟨gp,0,none⟩)] W fun e w'=>e = .returned (.bool (p n))∧Below W.heap.size W w') :
 Calls Tryz.prog 60 #[.slice x m c,.func (.func 106) #[] #[.pointer (some ⟨gp,0,none⟩)]] w fun e w'=>e = .returned (.bool b)∧Below w.heap.size w w':=by
 have hc:=Ps gp p x m c l w hn hm hl hp;have hi:=Dh p l 0;obtain⟨z,hz⟩:∃ z,BH p 0 l=z:=⟨_,rfl⟩;rw[hz,hb] at hi;rw[hz] at hc;have HC:=hid hc;clear hz hb hn hm hl hp hc;rcases hi with ⟨h1,rfl⟩ | ⟨h1,rfl⟩
 ·go_enter Tryz.func60,Tryz.ntmps60;go_wp2_with fail;refine HC.out.mono ?_;rintro e w1 ⟨rfl,hb1⟩;have HB:=hid hb1;clear hb1;go_wp2_with fail;go_ret;exact⟨rfl,HB.out⟩
 ·have h2:¬ 0≤z:=by omega
  go_enter Tryz.func60,Tryz.ntmps60;go_wp2_with fail;refine HC.out.mono ?_;rintro e w1 ⟨rfl,hb1⟩;have HB:=hid hb1;clear hb1;go_wp2_with fail;go_ret;exact⟨by show Ending.returned (.bool (decide (0≤z)))=_;rw[decide_eq_false (by omega)],HB.out⟩
theorem Qg(b:Bool)(pt:Int)(x:Option Addr)(m c:Nat)(l:List (Int × Bool))(w:World)(hb:(l.any fun n=>decide (n.1=pt))=b)(hn:l.length=m)(hm:m≤9223372036854775807)(hl:AF 2 Cz w x l) :
 Calls Tryz.prog 90 #[.slice x m c,.int .i64 pt] w fun e w'=>e = .returned (.bool b)∧Below w.heap.size w w':=by
 have hB1:=Ac w (.cells #[.int .i64 pt] 3);have hg:=Ao w (.cells #[.int .i64 pt] 3) (Below.refl _ _);have HC:=hid (Gt b w.heap.size (fun n=>decide (n.1=pt)) x m c l (w.alloc (.cells #[.int .i64 pt] 3)) hb hn hm (hl.below hB1) (fun W hW n=>OJ w.heap.size pt 3 (0,0) n W (A5 hW hg)));have HB:=hid hB1;clear hb hn hm hl hB1 hg;go_enter Tryz.func90,Tryz.ntmps90;go_wp2_with fail;refine HC.out.mono ?_;rintro e w1 ⟨rfl,hb1⟩;have HB1:=hid (A8 HB.out hb1);clear hb1;go_wp2_with fail;go_ret;exact⟨rfl,HB1.out⟩
end Go.Proofs.YtpohoannggdbjaaGreat
namespace Go.Proofs.YtpohoannggdbjaaGreat
open Lib (hid)
open Go.RowKit
set_option maxRecDepth 100000
attribute [local irreducible] BH
theorem KT(y:Int)(w:World):Calls Tryz.prog 86 #[.int .i64 y] w fun e w'=>e = .returned (.int .i64 y)∧w=w':=by
 go_enter Tryz.func86,Tryz.ntmps86;go_wp2_with fail;go_ret;exact⟨rfl,rfl⟩
theorem Lw(b:Bool)(gk gx:Nat)(x y:Int)(tk tx:TypeId)(f1 f2:Nat × Nat)(w:World)(hb:decide (y=x)=b)(hk:w.heap[gk]?=some (.cells #[.func (.func 86) #[] #[]] tk f1))(hx:w.heap[gx]?=some (.cells #[.int .i64 x] tx f2)) :
 Calls Tryz.prog 103 #[.int .i64 y,.pointer (some ⟨gk,0,none⟩),.pointer (some ⟨gx,0,none⟩)] w fun e w'=>e = .returned (.bool b)∧Below w.heap.size w w':=by
 have HK:=hid hk;have HX:=hid hx;have hbe:(x == y)=b:=by
  rw[← hb];by_cases h:y=x
  ·subst h;simp
  ·rw[decide_eq_false h];simpa using fun q=>h q.symm
 clear hk hx hb;have k1:∀ w',Below w.heap.size w w'→Calls Tryz.prog 86 #[.int .i64 x] w' fun e w''=>e = .returned (.int .i64 x)∧Below w.heap.size w w'':=
  fun w' hw'=>(KT x w').mono (fun e w9 ⟨h1,h2⟩=>⟨h1,h2 ▸ hw'⟩)
 have k2:∀ w',Below w.heap.size w w'→Calls Tryz.prog 86 #[.int .i64 y] w' fun e w''=>e = .returned (.int .i64 y)∧Below w.heap.size w w'':=
  fun w' hw'=>(KT y w').mono (fun e w9 ⟨h1,h2⟩=>⟨h1,h2 ▸ hw'⟩)
 go_enter Tryz.func103,Tryz.ntmps103;go_wp2_with fail;refine Ae (by kernel_rfl) (by kernel_rfl) ?_;repeat
  (with_reducible apply wpQuiet_step
   intro K hK;go_simp;first
    | (refine hK _ ?_;clear hK K)
    | (apply Exists.intro
       refine⟨fun w' hw'=>?_,hK _ ?_⟩
       ·
        (first
         | with_reducible exact k1 _ hw'
         | with_reducible exact k2 _ hw'
         | (have e0:=A4 (A5 hw' HK.out) 0 _ rfl
            have e1:=A4 (A5 hw' HX.out) 0 _ rfl;go_simp;first | done | with_reducible exact rfl | with_reducible exact⟨rfl,rfl⟩ | with_reducible exact k1 _ hw' | with_reducible exact k2 _ hw'))
       clear hK K))
 refine wpQuiet_nil ?_;intro w7 hw7;go_wp2_with fail;go_ret;exact⟨rfl,hw7⟩
end Go.Proofs.YtpohoannggdbjaaGreat
namespace Go.Proofs.YtpohoannggdbjaaGreat
open Lib (hid)
open Go.RowKit
set_option maxRecDepth 100000
attribute [local irreducible] BH Av
set_option maxHeartbeats 1000000 in
theorem Qy(gk gx:Nat)(p:Int→Bool)(x:Option Addr)(m c:Nat)(l:List Int)(w:World)(hn:l.length=m)(hm:m≤9223372036854775807)(hl:AF 1 AO w x l)
 (hp:∀ W,Below w.heap.size w W→∀ n,Calls Tryz.prog 103 #[.int .i64 n,.pointer (some ⟨gk,0,none⟩),.pointer (some ⟨gx,0,none⟩)] W fun e w'=>e = .returned (.bool (p n))∧Below W.heap.size W w') :
 Calls Tryz.prog 109 #[.slice x m c,.func (.func 103) #[] #[.pointer (some ⟨gk,0,none⟩),.pointer (some ⟨gx,0,none⟩)]] w fun e w'=>e = .returned (.int .i64 (BH p 0 l))∧Below w.heap.size w w':=by
 have HN:=hid hn;have HP:=hid hp;have HR:=hid hl;clear hn hp hl;go_enter Tryz.func109,Tryz.ntmps109;go_wp2_with fail;go_loopg [5,8] m (fun g _ i wr=>∃ k:Nat,k+g=m∧i = .int .i64 (k:Int)∧BH p k (l.drop k)=BH p 0 l∧Below w.heap.size w wr)
 case atStart=>exact⟨0,by omega,rfl,rfl,Below.refl _ _⟩
 case round=>
  obtain⟨k,hk,rfl,hb,hbw⟩:=hrel;have HB:=hid hb;have HBW:=hid hbw;clear hb hbw;by_cases hlt:k<m
  ·obtain⟨y,hy⟩:∃ y,l[k]?=some y:=⟨_,List.getElem?_eq_getElem (by rw[HN.out];exact hlt)⟩;rcases HR.out.below HBW.out with hnil | ⟨b,off,rfl,hc⟩
   ·rw[hnil] at hy;simp at hy
   have z0:=hc k _ hy 0 _ rfl;rw[Nat.add_zero,Nat.mul_one] at z0;have hd:=Ci (p:=p) hy;have d1:(0:Int)≤k:=by omega
   have d2:(k:Int)<m:=by omega
   have e1:wrap64 ((k:Int)+1)=(k:Int)+1:=by unfold wrap64;omega
   have HK:=hid hk;have hcall:=HP.out wr HBW.out y;obtain⟨D,hD⟩:∃ D,p y=D:=⟨_,rfl⟩;rw[hD] at hcall hd;have HC:=hid hcall;clear hc hy hk hcall hD;cases D with
   | true=>
     have HF:Hid (BH p 0 l=k):=hid (HB.out.symm.trans (by rw[hd,if_pos rfl]));clear hd;go_wp2_with fail;refine HC.out.mono ?_;rintro e w5 ⟨rfl,hb5⟩;have HB5:=hid (A8 HBW.out hb5);clear hb5;go_wp2_with fail;go_ret;exact⟨by rw[HF.out];rfl,HB5.out⟩
   | false=>
     have HT:Hid (BH p (k+1) (l.drop (k+1))=BH p 0 l):=hid (Eq.trans (by rw[hd,if_neg (by decide)]) HB.out);clear hd;go_wp2_with fail;refine HC.out.mono ?_;rintro e w5 ⟨rfl,hb5⟩;have HB5:=hid (A8 HBW.out hb5);clear hb5;go_wp2_with fail;go_roundg (m - (k+1))
     case rel=>exact⟨k+1,by have:=HK.out;omega,by go_num,HT.out,HB5.out⟩
     case measure=>have:=HK.out;omega
  ·have hkm:m=k:=by omega
   subst hkm;have HF:Hid (BH p 0 l = -1):=hid (HB.out.symm.trans (CV HN.out));go_wp2_with fail;go_ret;exact⟨by rw[HF.out];rfl,HBW.out⟩
theorem I3(b:Bool)(gk gx:Nat)(p:Int→Bool)(x:Option Addr)(m c:Nat)(l:List Int)(w:World)(hb:l.any p=b)(hn:l.length=m)(hm:m≤9223372036854775807)(hl:AF 1 AO w x l)
 (hp:∀ W,Below w.heap.size w W→∀ n,Calls Tryz.prog 103 #[.int .i64 n,.pointer (some ⟨gk,0,none⟩),.pointer (some ⟨gx,0,none⟩)] W fun e w'=>e = .returned (.bool (p n))∧Below W.heap.size W w') :
 Calls Tryz.prog 94 #[.slice x m c,.func (.func 103) #[] #[.pointer (some ⟨gk,0,none⟩),.pointer (some ⟨gx,0,none⟩)]] w fun e w'=>e = .returned (.bool b)∧Below w.heap.size w w':=by
 have hc:=Qy gk gx p x m c l w hn hm hl hp;have hi:=Dh p l 0;obtain⟨z,hz⟩:∃ z,BH p 0 l=z:=⟨_,rfl⟩;rw[hz,hb] at hi;rw[hz] at hc;have HC:=hid hc;clear hz hb hn hm hl hp hc;rcases hi with ⟨h1,rfl⟩ | ⟨h1,rfl⟩
 ·go_enter Tryz.func94,Tryz.ntmps94;go_wp2_with fail;refine HC.out.mono ?_;rintro e w1 ⟨rfl,hb1⟩;have HB:=hid hb1;clear hb1;go_wp2_with fail;go_ret;exact⟨rfl,HB.out⟩
 ·have h2:¬ 0≤z:=by omega
  go_enter Tryz.func94,Tryz.ntmps94;go_wp2_with fail;refine HC.out.mono ?_;rintro e w1 ⟨rfl,hb1⟩;have HB:=hid hb1;clear hb1;go_wp2_with fail;go_ret;exact⟨by show Ending.returned (.bool (decide (0≤z)))=_;rw[decide_eq_false (by omega)],HB.out⟩
def Cg:List Int→List Int→Bool
 | _,[]=>false
 | pre,y :: t=>(pre.any fun n=>decide (n=y)) || Cg (pre ++ [y]) t
theorem Lk{l:List Int}{y:Int}{k:Nat}(h:l[k]?=some y):Cg (l.take k) (l.drop k)=(((l.take k).any fun n=>decide (n=y)) || Cg (l.take (k+1)) (l.drop (k+1))):=by
 have hk:k<l.length:=(List.getElem?_eq_some_iff.1 h).1;rw[List.drop_eq_getElem_cons hk,(List.getElem?_eq_some_iff.1 h).2,List.take_add_one,h];rfl
theorem Np{l:List Int}{k:Nat}(h:l.length=k):Cg (l.take k) (l.drop k)=false:=by rw[List.drop_eq_nil_of_le (by omega)];rfl
attribute [local irreducible] Cg
set_option maxHeartbeats 2000000 in
theorem La(x:Option Addr)(m c:Nat)(l:List Int)(w:World)(hn:l.length=m)(hmc:m≤c)(hm:c≤9223372036854775807)(hl:AF 1 AO w x l) :
 Calls Tryz.prog 85 #[.slice x m c,.func (.func 86) #[] #[]] w fun e w'=>e = .returned (.bool (Cg [] l))∧Below w.heap.size w w':=by
 have HN:=hid hn;have HR:=hid hl;clear hn hl;obtain⟨gkb,hgkb⟩:∃ g,g=w.heap.size:=⟨_,rfl⟩;have HG:=hid hgkb;go_enter Tryz.func85,Tryz.ntmps85;go_upto_region 1 with fail
 have hk0:=Ao w (.cells #[.func (.func 86) #[] #[]] 149) (Below.refl _ _);have hb0:=Ac w (.cells #[.func (.func 86) #[] #[]] 149);obtain⟨W,hW⟩:∃ W,W=w.alloc (.cells #[.func (.func 86) #[] #[]] 149):=⟨_,rfl⟩;rw[← hW] at hk0 hb0 ⊢;rw[← hgkb] at hk0 ⊢;have HK0:=hid hk0;have HB0:=hid hb0;clear hW hk0 hb0 hgkb;go_wp2_with fail;go_loopg [5,6,9] m (fun g _ _ i wr=>∃ k:Nat,k+g=m∧i = .int .i64 (k:Int)∧Cg (l.take k) (l.drop k)=Cg [] l∧Below W.heap.size W wr)
 case atStart=>exact⟨0,by omega,rfl,rfl,Below.refl _ _⟩
 case round=>
  obtain⟨k,hk,rfl,hb,hbw⟩:=hrel;have HB:=hid hb;have HBW:=hid hbw;clear hb hbw;by_cases hlt:k<m
  ·obtain⟨y,hy⟩:∃ y,l[k]?=some y:=⟨_,List.getElem?_eq_getElem (by rw[HN.out];exact hlt)⟩;have hrow:=HR.out.below (A8 HB0.out HBW.out);have HROW:=hid hrow;rcases hrow with hnil | ⟨b,off,rfl,hc⟩
   ·rw[hnil] at hy;simp at hy
   have z0:=hc k _ hy 0 _ rfl;rw[Nat.add_zero,Nat.mul_one] at z0;have hd:=Lk hy;have d1:(0:Int)≤k:=by omega
   have d2:(k:Int)<m:=by omega
   have d3:(k:Int)≤c:=by omega
   have d4:k≤c:=by omega
   have e1:wrap64 ((k:Int)+1)=(k:Int)+1:=by unfold wrap64;omega
   have HK:=hid hk;have hbx:=Ac wr (.cells #[.int .i64 y] 3);have hgx:=Ao wr (.cells #[.int .i64 y] 3) (Below.refl _ _);obtain⟨D,hD⟩:∃ D,((l.take k).any fun n=>decide (n=y))=D:=⟨_,rfl⟩;rw[hD] at hd;have HC:=hid (I3 D gkb wr.heap.size (fun n=>decide (n=y)) (some ⟨b,off,none⟩) k c (l.take k) (wr.alloc (.cells #[.int .i64 y] 3)) hD (by rw[List.length_take,HN.out];omega) (by omega) ((HROW.out.take k).below hbx) (fun V hV n=>Lw _ gkb wr.heap.size y n 149 3 (0,0) (0,0) V rfl (A5 hV (A5 hbx (A5 HBW.out HK0.out))) (A5 hV hgx)));have HBX:=hid hbx;clear hc hy hk hbx hgx hD HROW;cases D with
   | true=>
     have HF:Hid (Cg [] l=true):=hid (HB.out.symm.trans (by rw[hd];rfl));clear hd;go_wp2_with fail;refine HC.out.mono ?_;rintro e w5 ⟨rfl,hb5⟩;have HB5:=hid (A8 HB0.out (A8 HBW.out (A8 HBX.out hb5)));clear hb5;go_wp2_with fail;go_ret;exact⟨by rw[HF.out];rfl,HB5.out⟩
   | false=>
     have HT:Hid (Cg (l.take (k+1)) (l.drop (k+1))=Cg [] l):=hid (Eq.trans (by rw[hd];rfl) HB.out);clear hd;go_wp2_with fail;refine HC.out.mono ?_;rintro e w5 ⟨rfl,hb5⟩;have HB5:=hid (A8 HBW.out (A8 HBX.out hb5));clear hb5;go_wp2_with fail;go_roundg (m - (k+1))
     case rel=>exact⟨k+1,by have:=HK.out;omega,by go_num,HT.out,HB5.out⟩
     case measure=>have:=HK.out;omega
  ·have hkm:m=k:=by omega
   subst hkm;have HF:Hid (Cg [] l=false):=hid (HB.out.symm.trans (Np HN.out));have HB5:=hid (A8 HB0.out HBW.out);go_wp2_with fail;go_ret;exact⟨by rw[HF.out];rfl,HB5.out⟩
end Go.Proofs.YtpohoannggdbjaaGreat
namespace Go.Proofs.YtpohoannggdbjaaGreat
open Lib (hid)
open Go.RowKit
set_option maxRecDepth 100000
attribute [local irreducible] BH
theorem Mt(y:Int × Bool)(w:World):Calls Tryz.prog 89 #[.agg #[.int .i64 y.1,.bool y.2]] w fun e w'=>e = .returned (.int .i64 y.1)∧Below w.heap.size w w':=by
 go_enter Tryz.func89,Tryz.ntmps89;go_wp2_with fail;go_ret;exact⟨rfl,Ac _ _⟩
theorem JE(b:Bool)(gk gx:Nat)(x y:Int × Bool)(tk tx:TypeId)(f1 f2:Nat × Nat)(w:World)(hb:decide (y.1=x.1)=b)(hk:w.heap[gk]?=some (.cells #[.func (.func 89) #[] #[]] tk f1))(hx:w.heap[gx]?=some (.cells #[.int .i64 x.1,.bool x.2] tx f2)) :
 Calls Tryz.prog 105 #[.agg #[.int .i64 y.1,.bool y.2],.pointer (some ⟨gk,0,none⟩),.pointer (some ⟨gx,0,none⟩)] w fun e w'=>e = .returned (.bool b)∧Below w.heap.size w w':=by
 have HK:=hid hk;have HX:=hid hx;have hbe:(x.1 == y.1)=b:=by
  rw[← hb];by_cases h:y.1=x.1
  ·rw[h];simp
  ·rw[decide_eq_false h];simpa using fun q=>h q.symm
 clear hk hx hb;go_enter Tryz.func105,Tryz.ntmps105;go_upto_region 1 with fail
 have hbY:=Ac w (.cells #[.int .i64 y.1,.bool y.2] 71);have hgY:=Ao w (.cells #[.int .i64 y.1,.bool y.2] 71) (Below.refl _ _);obtain⟨V,hV⟩:∃ V,V=w.alloc (.cells #[.int .i64 y.1,.bool y.2] 71):=⟨_,rfl⟩;obtain⟨gy,hgy⟩:∃ g,g=w.heap.size:=⟨_,rfl⟩;rw[← hV] at hbY hgY ⊢;rw[← hgy] at hgY ⊢;have HY:=hid hgY;have HBY:=hid hbY;have HK:=hid (A5 hbY HK.out);have HX:=hid (A5 hbY HX.out);have k1:∀ w',Below V.heap.size V w'→Calls Tryz.prog 89 #[.agg #[.int .i64 x.1,.bool x.2]] w' fun e w''=>e = .returned (.int .i64 x.1)∧Below V.heap.size V w'':=
  fun w' hw'=>(Mt x w').mono (fun e w9 ⟨h1,h2⟩=>⟨h1,A8 hw' h2⟩)
 have k2:∀ w',Below V.heap.size V w'→Calls Tryz.prog 89 #[.agg #[.int .i64 y.1,.bool y.2]] w' fun e w''=>e = .returned (.int .i64 y.1)∧Below V.heap.size V w'':=
  fun w' hw'=>(Mt y w').mono (fun e w9 ⟨h1,h2⟩=>⟨h1,A8 hw' h2⟩)
 clear hV hgy hbY hgY;refine Ae (by kernel_rfl) (by kernel_rfl) ?_;repeat
  (with_reducible apply wpQuiet_step
   intro K hK;go_simp;first
    | (refine hK _ ?_;clear hK K)
    | (apply Exists.intro
       refine⟨fun w' hw'=>?_,hK _ ?_⟩
       ·
        (first
         | with_reducible exact k1 _ hw'
         | with_reducible exact k2 _ hw'
         | (have e0:=A4 (A5 hw' HK.out) 0 _ rfl
            have e1:=A4 (A5 hw' HX.out) 0 _ rfl;have e2:=A4 (A5 hw' HX.out) 1 _ rfl;have e3:=A4 (A5 hw' HY.out) 0 _ rfl;have e4:=A4 (A5 hw' HY.out) 1 _ rfl;go_simp;first | done | with_reducible exact rfl | with_reducible exact⟨rfl,rfl⟩ | with_reducible exact k1 _ hw' | with_reducible exact k2 _ hw'))
       clear hK K))
 refine wpQuiet_nil ?_;intro w7 hw7;go_wp2_with fail;go_ret;exact⟨rfl,A8 HBY.out hw7⟩
end Go.Proofs.YtpohoannggdbjaaGreat
namespace Go.Proofs.YtpohoannggdbjaaGreat
open Lib (hid)
open Go.RowKit
set_option maxRecDepth 100000
attribute [local irreducible] BH
set_option maxHeartbeats 1000000 in
theorem Oq(gk gx:Nat)(p:Int × Bool→Bool)(x:Option Addr)(m c:Nat)(l:List (Int × Bool))(w:World)(hn:l.length=m)(hm:m≤9223372036854775807)(hl:AF 2 Cz w x l)
 (hp:∀ W,Below w.heap.size w W→∀ n,Calls Tryz.prog 105 #[.agg #[.int .i64 n.1,.bool n.2],.pointer (some ⟨gk,0,none⟩),.pointer (some ⟨gx,0,none⟩)] W fun e w'=>e = .returned (.bool (p n))∧Below W.heap.size W w') :
 Calls Tryz.prog 97 #[.slice x m c,.func (.func 105) #[] #[.pointer (some ⟨gk,0,none⟩),.pointer (some ⟨gx,0,none⟩)]] w fun e w'=>e = .returned (.int .i64 (BH p 0 l))∧Below w.heap.size w w':=by
 have HN:=hid hn;have HP:=hid hp;have HR:=hid hl;clear hn hp hl;go_enter Tryz.func97,Tryz.ntmps97;go_wp2_with fail;go_loopg [5,8] m (fun g _ i wr=>∃ k:Nat,k+g=m∧i = .int .i64 (k:Int)∧BH p k (l.drop k)=BH p 0 l∧Below w.heap.size w wr)
 case atStart=>exact⟨0,by omega,rfl,rfl,Below.refl _ _⟩
 case round=>
  obtain⟨k,hk,rfl,hb,hbw⟩:=hrel;have HB:=hid hb;have HBW:=hid hbw;clear hb hbw;by_cases hlt:k<m
  ·obtain⟨y,hy⟩:∃ y,l[k]?=some y:=⟨_,List.getElem?_eq_getElem (by rw[HN.out];exact hlt)⟩;rcases HR.out.below HBW.out with hnil | ⟨b,off,rfl,hc⟩
   ·rw[hnil] at hy;simp at hy
   have z0:=hc k _ hy 0 _ rfl;have z1:=hc k _ hy 1 _ rfl;rw[Nat.add_zero] at z0;have hd:=Ci (p:=p) hy;have d1:(0:Int)≤k:=by omega
   have d2:(k:Int)<m:=by omega
   have e1:wrap64 ((k:Int)+1)=(k:Int)+1:=by unfold wrap64;omega
   have HK:=hid hk;have hcall:=HP.out wr HBW.out y;obtain⟨D,hD⟩:∃ D,p y=D:=⟨_,rfl⟩;rw[hD] at hcall hd;have HC:=hid hcall;clear hc hy hk hcall hD;cases D with
   | true=>
     have HF:Hid (BH p 0 l=k):=hid (HB.out.symm.trans (by rw[hd,if_pos rfl]));clear hd;go_wp2_with fail;refine HC.out.mono ?_;rintro e w5 ⟨rfl,hb5⟩;have HB5:=hid (A8 HBW.out hb5);clear hb5;go_wp2_with fail;go_ret;exact⟨by rw[HF.out];rfl,HB5.out⟩
   | false=>
     have HT:Hid (BH p (k+1) (l.drop (k+1))=BH p 0 l):=hid (Eq.trans (by rw[hd,if_neg (by decide)]) HB.out);clear hd;go_wp2_with fail;refine HC.out.mono ?_;rintro e w5 ⟨rfl,hb5⟩;have HB5:=hid (A8 HBW.out hb5);clear hb5;go_wp2_with fail;go_roundg (m - (k+1))
     case rel=>exact⟨k+1,by have:=HK.out;omega,by go_num,HT.out,HB5.out⟩
     case measure=>have:=HK.out;omega
  ·have hkm:m=k:=by omega
   subst hkm;have HF:Hid (BH p 0 l = -1):=hid (HB.out.symm.trans (CV HN.out));go_wp2_with fail;go_ret;exact⟨by rw[HF.out];rfl,HBW.out⟩
theorem Gk(b:Bool)(gk gx:Nat)(p:Int × Bool→Bool)(x:Option Addr)(m c:Nat)(l:List (Int × Bool))(w:World)(hb:l.any p=b)(hn:l.length=m)(hm:m≤9223372036854775807)(hl:AF 2 Cz w x l)
 (hp:∀ W,Below w.heap.size w W→∀ n,Calls Tryz.prog 105 #[.agg #[.int .i64 n.1,.bool n.2],.pointer (some ⟨gk,0,none⟩),.pointer (some ⟨gx,0,none⟩)] W fun e w'=>e = .returned (.bool (p n))∧Below W.heap.size W w') :
 Calls Tryz.prog 60 #[.slice x m c,.func (.func 105) #[] #[.pointer (some ⟨gk,0,none⟩),.pointer (some ⟨gx,0,none⟩)]] w fun e w'=>e = .returned (.bool b)∧Below w.heap.size w w':=by
 have hc:=Oq gk gx p x m c l w hn hm hl hp;have hi:=Dh p l 0;obtain⟨z,hz⟩:∃ z,BH p 0 l=z:=⟨_,rfl⟩;rw[hz,hb] at hi;rw[hz] at hc;have HC:=hid hc;clear hz hb hn hm hl hp hc;rcases hi with ⟨h1,rfl⟩ | ⟨h1,rfl⟩
 ·go_enter Tryz.func60,Tryz.ntmps60;go_wp2_with fail;refine HC.out.mono ?_;rintro e w1 ⟨rfl,hb1⟩;have HB:=hid hb1;clear hb1;go_wp2_with fail;go_ret;exact⟨rfl,HB.out⟩
 ·have h2:¬ 0≤z:=by omega
  go_enter Tryz.func60,Tryz.ntmps60;go_wp2_with fail;refine HC.out.mono ?_;rintro e w1 ⟨rfl,hb1⟩;have HB:=hid hb1;clear hb1;go_wp2_with fail;go_ret;exact⟨by show Ending.returned (.bool (decide (0≤z)))=_;rw[decide_eq_false (by omega)],HB.out⟩
def CP:List (Int × Bool)→List (Int × Bool)→Bool
 | _,[]=>false
 | pre,y :: t=>(pre.any fun n=>decide (n.1=y.1)) || CP (pre ++ [y]) t
theorem Lr{l:List (Int × Bool)}{y:Int × Bool}{k:Nat}(h:l[k]?=some y):CP (l.take k) (l.drop k)=(((l.take k).any fun n=>decide (n.1=y.1)) || CP (l.take (k+1)) (l.drop (k+1))):=by
 have hk:k<l.length:=(List.getElem?_eq_some_iff.1 h).1;rw[List.drop_eq_getElem_cons hk,(List.getElem?_eq_some_iff.1 h).2,List.take_add_one,h];rfl
theorem Mj{l:List (Int × Bool)}{k:Nat}(h:l.length=k):CP (l.take k) (l.drop k)=false:=by rw[List.drop_eq_nil_of_le (by omega)];rfl
attribute [local irreducible] CP
set_option maxHeartbeats 2000000 in
theorem MQ(x:Option Addr)(m c:Nat)(l:List (Int × Bool))(w:World)(hn:l.length=m)(hmc:m≤c)(hm:c≤9223372036854775807)(hl:AF 2 Cz w x l) :
 Calls Tryz.prog 88 #[.slice x m c,.func (.func 89) #[] #[]] w fun e w'=>e = .returned (.bool (CP [] l))∧Below w.heap.size w w':=by
 have HN:=hid hn;have HR:=hid hl;clear hn hl;obtain⟨gkb,hgkb⟩:∃ g,g=w.heap.size:=⟨_,rfl⟩;have HG:=hid hgkb;go_enter Tryz.func88,Tryz.ntmps88;go_upto_region 1 with fail
 have hk0:=Ao w (.cells #[.func (.func 89) #[] #[]] 151) (Below.refl _ _);have hb0:=Ac w (.cells #[.func (.func 89) #[] #[]] 151);obtain⟨W,hW⟩:∃ W,W=w.alloc (.cells #[.func (.func 89) #[] #[]] 151):=⟨_,rfl⟩;rw[← hW] at hk0 hb0 ⊢;rw[← hgkb] at hk0 ⊢;have HK0:=hid hk0;have HB0:=hid hb0;clear hW hk0 hb0 hgkb;go_wp2_with fail;go_loopg [5,6,9] m (fun g _ _ i wr=>∃ k:Nat,k+g=m∧i = .int .i64 (k:Int)∧CP (l.take k) (l.drop k)=CP [] l∧Below W.heap.size W wr)
 case atStart=>exact⟨0,by omega,rfl,rfl,Below.refl _ _⟩
 case round=>
  obtain⟨k,hk,rfl,hb,hbw⟩:=hrel;have HB:=hid hb;have HBW:=hid hbw;clear hb hbw;by_cases hlt:k<m
  ·obtain⟨y,hy⟩:∃ y,l[k]?=some y:=⟨_,List.getElem?_eq_getElem (by rw[HN.out];exact hlt)⟩;have hrow:=HR.out.below (A8 HB0.out HBW.out);have HROW:=hid hrow;rcases hrow with hnil | ⟨b,off,rfl,hc⟩
   ·rw[hnil] at hy;simp at hy
   have z0:=hc k _ hy 0 _ rfl;have z1:=hc k _ hy 1 _ rfl;rw[Nat.add_zero] at z0;have hd:=Lr hy;have d1:(0:Int)≤k:=by omega
   have d2:(k:Int)<m:=by omega
   have d3:(k:Int)≤c:=by omega
   have d4:k≤c:=by omega
   have e1:wrap64 ((k:Int)+1)=(k:Int)+1:=by unfold wrap64;omega
   have HK:=hid hk;have hbx:=Ac wr (.cells #[.int .i64 y.1,.bool y.2] 71);have hgx:=Ao wr (.cells #[.int .i64 y.1,.bool y.2] 71) (Below.refl _ _);obtain⟨D,hD⟩:∃ D,((l.take k).any fun n=>decide (n.1=y.1))=D:=⟨_,rfl⟩;rw[hD] at hd;have HC:=hid (Gk D gkb wr.heap.size (fun n=>decide (n.1=y.1)) (some ⟨b,off,none⟩) k c (l.take k) (wr.alloc (.cells #[.int .i64 y.1,.bool y.2] 71)) hD (by rw[List.length_take,HN.out];omega) (by omega) ((HROW.out.take k).below hbx) (fun V hV n=>JE _ gkb wr.heap.size y n 151 71 (0,0) (0,0) V rfl (A5 hV (A5 hbx (A5 HBW.out HK0.out))) (A5 hV hgx)));have HBX:=hid hbx;clear hc hy hk hbx hgx hD HROW;cases D with
   | true=>
     have HF:Hid (CP [] l=true):=hid (HB.out.symm.trans (by rw[hd];rfl));clear hd;go_wp2_with fail;refine HC.out.mono ?_;rintro e w5 ⟨rfl,hb5⟩;have HB5:=hid (A8 HB0.out (A8 HBW.out (A8 HBX.out hb5)));clear hb5;go_wp2_with fail;go_ret;exact⟨by rw[HF.out];rfl,HB5.out⟩
   | false=>
     have HT:Hid (CP (l.take (k+1)) (l.drop (k+1))=CP [] l):=hid (Eq.trans (by rw[hd];rfl) HB.out);clear hd;go_wp2_with fail;refine HC.out.mono ?_;rintro e w5 ⟨rfl,hb5⟩;have HB5:=hid (A8 HBW.out (A8 HBX.out hb5));clear hb5;go_wp2_with fail;go_roundg (m - (k+1))
     case rel=>exact⟨k+1,by have:=HK.out;omega,by go_num,HT.out,HB5.out⟩
     case measure=>have:=HK.out;omega
  ·have hkm:m=k:=by omega
   subst hkm;have HF:Hid (CP [] l=false):=hid (HB.out.symm.trans (Mj HN.out));have HB5:=hid (A8 HB0.out HBW.out);go_wp2_with fail;go_ret;exact⟨by rw[HF.out];rfl,HB5.out⟩
end Go.Proofs.YtpohoannggdbjaaGreat
namespace Go.Proofs.YtpohoannggdbjaaGreat
open Lib (hid)
open Go.RowKit
set_option maxRecDepth 100000
theorem Rc{l:List Int}{y:Int}:(l.any fun n=>decide (n=y))=false↔y ∉ l:=by
 rw[List.any_eq_false];constructor
 ·intro h hm;have:=h y hm;simp at this
 ·intro h x hx;simp;intro e;exact h (e ▸ hx)
theorem Nv:∀(l pre:List Int),Cg pre l=false↔(l.Nodup∧∀ y∈l,y ∉ pre):=by
 intro l
 induction l with
 | nil=>intro pre;exact⟨fun _=>⟨List.nodup_nil,by simp⟩,fun _=>rfl⟩
 | cons y l ih=>
   intro pre;have e:Cg pre (y :: l)=((pre.any fun n=>decide (n=y)) || Cg (pre ++ [y]) l):=rfl;rw[e,Bool.or_eq_false_iff,Rc,ih];constructor
   ·rintro⟨h1,h2,h3⟩;refine⟨List.nodup_cons.2 ⟨fun hm=>?_,h2⟩,fun z hz=>?_⟩
    ·exact h3 y hm (by simp)
    ·rcases List.mem_cons.1 hz with rfl | hz
     ·exact h1
     ·exact fun hp=>h3 z hz (by simp[hp])
   ·rintro⟨h1,h2⟩;obtain⟨g1,g2⟩:=List.nodup_cons.1 h1;refine⟨h2 y (by simp),g2,fun z hz hp=>?_⟩;rcases List.mem_append.1 hp with hp | hp
    ·exact h2 z (by simp[hz]) hp
    ·simp at hp;subst hp;exact g1 hz
theorem Pf:∀(l pre:List (Int × Bool)),CP pre l=Cg (pre.map (·.1)) (l.map (·.1)):=by
 intro l
 induction l with
 | nil=>intro pre;rfl
 | cons y l ih=>
   intro pre;have e1:CP pre (y :: l)=((pre.any fun n=>decide (n.1=y.1)) || CP (pre ++ [y]) l):=rfl;have e2:Cg (pre.map (·.1)) ((y :: l).map (·.1))=(((pre.map (·.1)).any fun n=>decide (n=y.1)) || Cg (pre.map (·.1) ++ [y.1]) (l.map (·.1))):=rfl;rw[e1,e2,ih,List.map_append,List.any_map];rfl
theorem Eo(l:List Int)(s:Int):BR l s=l.count s:=by
 unfold BR;rw[List.count_eq_length_filter]
 congr 1
theorem GA(l:List Int):Cg [] l=false↔∀ y∈l,BR l y≤1:=by
 rw[Nv];constructor
 ·intro h y _;rw[Eo];exact List.nodup_iff_count.1 h.1 y
 ·intro h;refine⟨List.nodup_iff_count.2 fun y=>?_,by simp⟩;by_cases hy:y∈l
  ·have:=h y hy;rwa [Eo] at this
  ·rw[List.count_eq_zero_of_not_mem hy];exact Nat.zero_le _
theorem K2(l:List Int)(s:Int):0<BR l s↔Av l s=true:=by
 rw[Eo,List.count_pos_iff];unfold Av;rw[List.any_eq_true];constructor
 ·exact fun h=>⟨s,h,decide_eq_true rfl⟩
 ·rintro⟨x,hx,h⟩;have:=of_decide_eq_true h;subst this;exact hx
end Go.Proofs.YtpohoannggdbjaaGreat
namespace Go.Proofs.YtpohoannggdbjaaGreat
open Lib (hid)
open Go.RowKit
set_option maxRecDepth 100000
def Dq(l:List (Int × Bool))(k:Nat):Bool:=l.any fun n=>decide (n.1=(k:Int))
theorem FK(l:List (Int × Bool))(k:Nat):Av (l.map (·.1)) (k:Int)=Dq l k:=by
 unfold Av Dq;rw[List.any_map];rfl
def F0(t:List Int)(po fl:List (Int × Bool))(k:Nat)(s:Int):Bool:=(Av t s == Dq po k) && !(Av t s && Dq fl k)
def C6(t:List Int)(po fl:List (Int × Bool)):Nat→List (BA × Int)→Bool
 | _,[]=>true
 | k,p :: l=>F0 t po fl k p.2 && C6 t po fl (k+1) l
theorem BX{t:List Int}{po fl:List (Int × Bool)}{l:List (BA × Int)}{p:BA × Int}{k:Nat}(h:l[k]?=some p):C6 t po fl k (l.drop k)=(F0 t po fl k p.2 && C6 t po fl (k+1) (l.drop (k+1))):=by
 have hk:k<l.length:=(List.getElem?_eq_some_iff.1 h).1;rw[List.drop_eq_getElem_cons hk,(List.getElem?_eq_some_iff.1 h).2];rfl
theorem Gx{t:List Int}{po fl:List (Int × Bool)}{l:List (BA × Int)}{k:Nat}(h:l.length=k):C6 t po fl k (l.drop k)=true:=by rw[List.drop_eq_nil_of_le (by omega)];rfl
theorem Ht{t:List Int}{po fl:List (Int × Bool)}{k:Nat}{s:Int}{b c:Bool}(h1:Av t s=b)(h2:Dq po k=c)(h:b≠c):F0 t po fl k s=false:=by
 unfold F0;rw[h1,h2];cases b<;>cases c<;>first | rfl | exact absurd rfl h
theorem K4{t:List Int}{po fl:List (Int × Bool)}{k:Nat}{s:Int}(h1:Av t s=false)(h2:Dq po k=false):F0 t po fl k s=true:=by
 unfold F0;rw[h1,h2];rfl
theorem Fq{t:List Int}{po fl:List (Int × Bool)}{k:Nat}{s:Int}{b:Bool}(h1:Av t s=true)(h2:Dq po k=true)(h3:Dq fl k=b):F0 t po fl k s = !b:=by
 unfold F0;rw[h1,h2,h3];cases b<;>rfl
def Bs(L:AM)(k:Int):Int:=((L.sg.l[k.toNat]?).map (·.2)).getD 0
theorem DU{L:AM}{k:Nat}{p:BA × Int}(h:L.sg.l[k]?=some p):Bs L (k:Int)=p.2:=by unfold Bs;rw[Int.toNat_natCast,h];rfl
def As(L:AM)(r:Rt):Bool:=
 (!decide (r.pa.l.length=0) && !Cg [] (r.pa.l ++ r.ov.l)) && (!Av (r.pa.l ++ r.ov.l) (Bs L r.sg) && !CP [] (r.po.l ++ r.fl.l)) && C6 (r.pa.l ++ r.ov.l) r.po.l r.fl.l 0 L.po.l
theorem R5{L:AM}{r:Rt}(h:r.pa.l.length=0):As L r=false:=by unfold As;rw[decide_eq_true h];rfl
theorem RQ{L:AM}{r:Rt}(h:Cg [] (r.pa.l ++ r.ov.l)=true):As L r=false:=by unfold As;rw[h];simp
theorem RW{L:AM}{r:Rt}(h:Av (r.pa.l ++ r.ov.l) (Bs L r.sg)=true):As L r=false:=by unfold As;rw[h];simp
theorem RA{L:AM}{r:Rt}(h:CP [] (r.po.l ++ r.fl.l)=true):As L r=false:=by unfold As;rw[h];simp
theorem MP{L:AM}{r:Rt}(h:C6 (r.pa.l ++ r.ov.l) r.po.l r.fl.l 0 L.po.l=false):As L r=false:=by unfold As;rw[h];simp
theorem Rk{L:AM}{r:Rt}(h0:¬ r.pa.l.length=0)(h1:Cg [] (r.pa.l ++ r.ov.l)=false)(h2:Av (r.pa.l ++ r.ov.l) (Bs L r.sg)=false)(h3:CP [] (r.po.l ++ r.fl.l)=false)(h4:C6 (r.pa.l ++ r.ov.l) r.po.l r.fl.l 0 L.po.l=true):As L r=true:=by
 unfold As;rw[decide_eq_false h0,h1,h2,h3,h4];rfl
theorem KI{l:List Int}{y:Int}(hy:y∈l)(h:1<BR l y):Cg [] l=true:=by
 cases hd:Cg [] l with
 | true=>rfl
 | false=>exact absurd ((GA l).1 hd y hy) (by omega)
theorem GR{l:List Int}(h:∀ y∈l,¬ 1<BR l y):Cg [] l=false:=(GA l).2 (fun y hy=>Nat.le_of_not_lt (h y hy))
theorem IM(l:List (Int × Bool)):CP [] l=Cg [] (l.map (·.1)):=Pf l []
theorem Re{l:List Int}{s:Int}(h:Av l s=false):BR l s=0:=by
 have:=(K2 l s).1;rw[h] at this;cases hc:BR l s with
 | zero=>rfl
 | succ n=>exact absurd (this (by omega)) (by decide)
theorem O5{l:List Int}{s:Int}(h:Av l s=true):0<BR l s:=(K2 l s).2 h
end Go.Proofs.YtpohoannggdbjaaGreat
namespace Go.Proofs.YtpohoannggdbjaaGreat
open Lib (hid)
open Go.RowKit
set_option maxRecDepth 100000
structure Hl(w0 w:World)(gl gr:Nat)(L:AM)(r:Rt):Prop where
 lay:w.heap[gl]?=some (.cells #[L.se.v,L.po.v,L.sg.v,L.rt.v] 27)
 rt:w.heap[gr]?=some (.cells #[.string r.nm,.int .i64 r.sg,r.pa.v,r.po.v,r.ov.v,r.fl.v] 52)
 below:Below w0.heap.size w0 w
theorem Hl.step{w0 w w':World}{gl gr:Nat}{L:AM}{r:Rt}(h:Hl w0 w gl gr L r)(hb:Below w.heap.size w w'):Hl w0 w' gl gr L r:=⟨A5 hb h.lay,A5 hb h.rt,A8 h.below hb⟩
theorem M9(b:Bool)(k:Nat)(x:Option Addr)(m c:Nat)(l:List (Int × Bool))(w:World)(hb:Dq l k=b)(hn:l.length=m)(hm:m≤9223372036854775807)(hl:AF 2 Cz w x l) :
 Calls Tryz.prog 90 #[.slice x m c,.int .i64 (k:Int)] w fun e w'=>e = .returned (.bool b)∧Below w.heap.size w w':=Qg b k x m c l w (by unfold Dq at hb;exact hb) hn hm hl
attribute [local irreducible] Av Dq Cg CP F0 C6 Bs As Sl.v
set_option maxRecDepth 100000 in
set_option maxHeartbeats 20000000 in
theorem Lt(L:AM)(r:Rt)(w:World)(hL:B5 w L)(hr:Cq w r)(hsg:0≤r.sg)(hsn:r.sg<(L.sg.l.length:Int))(hl1:r.pa.l.length+r.ov.l.length≤100000)(hl2:r.po.l.length+r.fl.l.length≤100000) :
 Calls Tryz.prog 49 #[.agg #[L.se.v,L.po.v,L.sg.v,L.rt.v],.agg #[.string r.nm,.int .i64 r.sg,r.pa.v,r.po.v,r.ov.v,r.fl.v]] w fun e w'=>e = .returned (.bool (As L r))∧Below w.heap.size w w':=by
 have HA:=hid hL;have HTR:Hid (∀ W,Below w.heap.size w W→Calls Tryz.prog 29 #[.agg #[.string r.nm,.int .i64 r.sg,r.pa.v,r.po.v,r.ov.v,r.fl.v]] W fun e w'=>∃ a n c,e = .returned (.slice a n c)∧n=r.pa.l.length+r.ov.l.length∧B8 1 AO w' ⟨a,c,r.pa.l ++ r.ov.l⟩∧Below W.heap.size W w'):=hid (fun W hb=>Gd r W (hr.below hb) hl1);have HND:Hid (∀ W,Below w.heap.size w W→Calls Tryz.prog 30 #[.agg #[.string r.nm,.int .i64 r.sg,r.pa.v,r.po.v,r.ov.v,r.fl.v]] W fun e w'=>∃ a n c,e = .returned (.slice a n c)∧n=r.po.l.length+r.fl.l.length∧B8 2 Cz w' ⟨a,c,r.po.l ++ r.fl.l⟩∧Below W.heap.size W w'):=hid (fun W hb=>Jf r W (hr.below hb) hl2);obtain⟨n1,hn1⟩:∃ n,L.se.l.length=n:=⟨_,rfl⟩;obtain⟨n2,hn2⟩:∃ n,L.po.l.length=n:=⟨_,rfl⟩;obtain⟨n3,hn3⟩:∃ n,L.sg.l.length=n:=⟨_,rfl⟩;obtain⟨n4,hn4⟩:∃ n,L.rt.l.length=n:=⟨_,rfl⟩;obtain⟨m1,hm1⟩:∃ n,r.pa.l.length=n:=⟨_,rfl⟩;obtain⟨m2,hm2⟩:∃ n,r.po.l.length=n:=⟨_,rfl⟩;obtain⟨m3,hm3⟩:∃ n,r.ov.l.length=n:=⟨_,rfl⟩;obtain⟨m4,hm4⟩:∃ n,r.fl.l.length=n:=⟨_,rfl⟩;have v1:=Ak hn1;have v2:=Ak hn2;have v3:=Ak hn3;have v4:=Ak hn4;have u1:=Ak hm1;have u2:=Ak hm2;have u3:=Ak hm3;have u4:=Ak hm4;have R2:=hid hL.po.row;have R3:=hid hL.sg.row;have M2:=hid hL.po.lenM;have Q2:=hid hr.po.row;have Q4:=hid hr.fl.row;obtain⟨T,hT⟩:∃ T,r.pa.l ++ r.ov.l=T:=⟨_,rfl⟩;obtain⟨N,hN⟩:∃ N,r.po.l ++ r.fl.l=N:=⟨_,rfl⟩;obtain⟨nm,hnm⟩:∃ x,r.nm=x:=⟨_,rfl⟩;obtain⟨ks,hks⟩:∃ k:Nat,r.sg=(k:Int):=⟨r.sg.toNat,by omega⟩;obtain⟨a1,ha1⟩:∃ a,L.se.a=a:=⟨_,rfl⟩;obtain⟨c1,hc1⟩:∃ a,L.se.c=a:=⟨_,rfl⟩;rw[ha1,hc1] at v1;obtain⟨a2,ha2⟩:∃ a,L.po.a=a:=⟨_,rfl⟩;obtain⟨c2,hc2⟩:∃ a,L.po.c=a:=⟨_,rfl⟩;rw[ha2,hc2] at v2;obtain⟨a3,ha3⟩:∃ a,L.sg.a=a:=⟨_,rfl⟩;obtain⟨c3,hc3⟩:∃ a,L.sg.c=a:=⟨_,rfl⟩;rw[ha3,hc3] at v3;obtain⟨a4,ha4⟩:∃ a,L.rt.a=a:=⟨_,rfl⟩;obtain⟨c4,hc4⟩:∃ a,L.rt.c=a:=⟨_,rfl⟩;rw[ha4,hc4] at v4;obtain⟨b1,hb1⟩:∃ a,r.pa.a=a:=⟨_,rfl⟩;obtain⟨e1,he1⟩:∃ a,r.pa.c=a:=⟨_,rfl⟩;rw[hb1,he1] at u1;obtain⟨b2,hb2⟩:∃ a,r.po.a=a:=⟨_,rfl⟩;obtain⟨e2,he2⟩:∃ a,r.po.c=a:=⟨_,rfl⟩;rw[hb2,he2] at u2;obtain⟨b3,hb3⟩:∃ a,r.ov.a=a:=⟨_,rfl⟩;obtain⟨e3,he3⟩:∃ a,r.ov.c=a:=⟨_,rfl⟩;rw[hb3,he3] at u3;obtain⟨b4,hb4⟩:∃ a,r.fl.a=a:=⟨_,rfl⟩;obtain⟨e4,he4⟩:∃ a,r.fl.c=a:=⟨_,rfl⟩;rw[hb4,he4] at u4;rw[ha2] at R2;rw[ha3] at R3;rw[hb2] at Q2;rw[hb4] at Q4;rw[hn3,hks] at hsn;rw[hnm,hks,u1,u2,u3,u4] at HTR HND;rw[hT,hm1,hm3] at HTR;rw[hN,hm2,hm4] at HND;rw[hnm,hks,u1,u2,u3,u4,v1,v2,v3,v4];have HV:=hid (And.intro v1 (And.intro v2 (And.intro v3 v4)));have HU:=hid (And.intro hnm (And.intro hks (And.intro u1 (And.intro u2 (And.intro u3 u4)))));have HNN:=hid (And.intro hn2 hn3);have HMM:=hid (And.intro hm1 (And.intro hm2 (And.intro hm3 hm4)));have HTN:=hid (And.intro hT hN);have HT:Hid (T.length=m1+m3):=hid (by rw[← hT,List.length_append,hm1,hm3]);have HN:Hid (N.length=m2+m4):=hid (by rw[← hN,List.length_append,hm2,hm4]);rw[hm1,hm3] at hl1;rw[hm2,hm4] at hl2;have HL1:=hid hl1;have HL2:=hid hl2;have s1:(0:Int)≤ks:=by omega
 have HSN:=hid (show ks<n3 by omega);have s2:(ks:Int)<n3:=hsn;clear hn1 hn2 hn3 hn4 hm1 hm2 hm3 hm4 ha1 ha2 ha3 ha4 hc1 hc2 hc3 hc4 hb1 hb2 hb3 hb4 he1 he2 he3 he4 v1 v2 v3 v4 u1 u2 u3 u4 hL hr hnm hks hT hN hsg hsn hl1 hl2;obtain⟨gl,hgl⟩:∃ g,g=w.heap.size:=⟨_,rfl⟩;obtain⟨gr,hgr⟩:∃ g,g=gl+1:=⟨_,rfl⟩;have HGL:=hid hgl;have HGR:=hid hgr;clear hgl hgr;go_enter Tryz.func49,Tryz.ntmps49;go_wp2_with fail;refine(HTR.out _ (C1 w _ _)).mono ?_;rintro e w1 ⟨ta,tn,tc,rfl,hn,hS,hb⟩;have HM:Hl w w1 gl gr L r:=by
  obtain⟨q1,q2⟩:=De w (.cells #[.slice a1 n1 c1,.slice a2 n2 c2,.slice a3 n3 c3,.slice a4 n4 c4] 27) (.cells #[.string nm,.int .i64 (ks:Int),.slice b1 m1 e1,.slice b2 m2 e2,.slice b3 m3 e3,.slice b4 m4 e4] 52);obtain⟨x1,x2,x3,x4⟩:=HV.out;obtain⟨y1,y2,y3,y4,y5,y6⟩:=HU.out;refine⟨?_,?_,A8 (C1 w _ _) hb⟩
  ·rw[HGL.out,x1,x2,x3,x4];exact A5 hb q1
  ·rw[HGR.out,HGL.out,y1,y2,y3,y4,y5,y6];exact A5 hb q2
 rw[← HGL.out,← HGR.out];have HM:=hid HM;have HS:=hid hS;obtain rfl:=hn;clear hb hS;obtain⟨l1,l2,r1,r2,r3,r5⟩:w1.cell? ⟨gl,1,none⟩=some (.slice a2 n2 c2)∧w1.cell? ⟨gl,2,none⟩=some (.slice a3 n3 c3)∧w1.cell? ⟨gr,1,none⟩=some (.int .i64 (ks:Int))∧w1.cell? ⟨gr,2,none⟩=some (.slice b1 m1 e1)∧w1.cell? ⟨gr,3,none⟩=some (.slice b2 m2 e2)∧w1.cell? ⟨gr,5,none⟩=some (.slice b4 m4 e4):=by
  obtain⟨x1,x2,x3,x4⟩:=HV.out;obtain⟨y1,y2,y3,y4,y5,y6⟩:=HU.out;rw[← x2,← x3,← y2,← y3,← y4,← y6];exact⟨A4 HM.out.lay 1 _ rfl,A4 HM.out.lay 2 _ rfl,A4 HM.out.rt 1 _ rfl,A4 HM.out.rt 2 _ rfl,A4 HM.out.rt 3 _ rfl,A4 HM.out.rt 5 _ rfl⟩
 by_cases h0:m1=0
 ·have HF:Hid (As L r=false):=hid (R5 (HMM.out.1.trans h0));subst h0;go_wp2_with fail;go_ret;exact⟨by rw[HF.out];rfl,HM.out.below⟩
 have h01:¬ (m1:Int)=0:=by omega
 have H0:=hid h0;clear h0;go_wp2_with fail;clear l1 l2 r1 r2 r3 r5;refine(La ta _ tc T w1 HT.out (by have:=HS.out.len;rw[HT.out] at this;exact this) (by have:=HS.out.cap;unfold maxLen at this;omega) HS.out.row).mono ?_;rintro e w2 ⟨rfl,hb⟩;have hM:=HM.out.step hb;have hS:=HS.out.below hb;clear HM HS hb h01;have HM:=hid hM;have HS:=hid hS;clear hM hS;obtain⟨D,hD⟩:∃ D,Cg [] T=D:=⟨_,rfl⟩;rw[hD];cases D with
 | true=>
   have HF:Hid (As L r=false):=hid (RQ (by rw[HTN.out.1];exact hD));clear hD;go_wp2_with fail;go_ret;exact⟨by rw[HF.out];rfl,HM.out.below⟩
 | false=>
   have HD1:=hid hD;clear hD;obtain⟨l1,l2,r1,r2,r3,r5⟩:w2.cell? ⟨gl,1,none⟩=some (.slice a2 n2 c2)∧w2.cell? ⟨gl,2,none⟩=some (.slice a3 n3 c3)∧w2.cell? ⟨gr,1,none⟩=some (.int .i64 (ks:Int))∧w2.cell? ⟨gr,2,none⟩=some (.slice b1 m1 e1)∧w2.cell? ⟨gr,3,none⟩=some (.slice b2 m2 e2)∧w2.cell? ⟨gr,5,none⟩=some (.slice b4 m4 e4):=by
    obtain⟨x1,x2,x3,x4⟩:=HV.out;obtain⟨y1,y2,y3,y4,y5,y6⟩:=HU.out;rw[← x2,← x3,← y2,← y3,← y4,← y6];exact⟨A4 HM.out.lay 1 _ rfl,A4 HM.out.lay 2 _ rfl,A4 HM.out.rt 1 _ rfl,A4 HM.out.rt 2 _ rfl,A4 HM.out.rt 3 _ rfl,A4 HM.out.rt 5 _ rfl⟩
   obtain⟨y,hy⟩:∃ y,L.sg.l[ks]?=some y:=⟨_,List.getElem?_eq_getElem (by rw[HNN.out.2];exact HSN.out)⟩;rcases R3.out.below HM.out.below with hnil | ⟨xs,os,rfl,hc⟩
   ·rw[hnil] at hy;simp at hy
   obtain⟨y0,y1⟩:=y;have z1:=hc ks _ hy 1 _ rfl;have hsec:=DU hy;dsimp only at z1 hsec;rw[← HU.out.2.1] at hsec;have HSE:=hid hsec;clear hc hy hsec;obtain⟨D,hD⟩:∃ D,Av T y1=D:=⟨_,rfl⟩;have HC:=hid (Ca D ta (m1+m3) tc T y1 w2 hD HT.out (by have:=HL1.out;omega) HS.out.row);go_wp2_with fail;refine HC.out.mono ?_;rintro e w3 ⟨rfl,rfl⟩;clear HC z1;clear l1 l2 r1 r2 r3 r5;cases D with
   | true=>
     have HF:Hid (As L r=false):=hid (RW (by rw[HTN.out.1,HSE.out];exact hD));clear hD;go_wp2_with fail;go_ret;exact⟨by rw[HF.out];rfl,HM.out.below⟩
   | false=>
     have HD2:Hid (Av T (Bs L r.sg)=false):=hid (by rw[HSE.out];exact hD);clear hD HSE;obtain⟨r0,r1,r2,r3,r4,r5⟩:w2.cell? ⟨gr,0,none⟩=some (.string nm)∧w2.cell? ⟨gr,1,none⟩=some (.int .i64 (ks:Int))∧w2.cell? ⟨gr,2,none⟩=some (.slice b1 m1 e1)∧w2.cell? ⟨gr,3,none⟩=some (.slice b2 m2 e2)∧w2.cell? ⟨gr,4,none⟩=some (.slice b3 m3 e3)∧w2.cell? ⟨gr,5,none⟩=some (.slice b4 m4 e4):=by
      obtain⟨y1,y2,y3,y4,y5,y6⟩:=HU.out;rw[← y1,← y2,← y3,← y4,← y5,← y6];exact⟨A4 HM.out.rt 0 _ rfl,A4 HM.out.rt 1 _ rfl,A4 HM.out.rt 2 _ rfl,A4 HM.out.rt 3 _ rfl,A4 HM.out.rt 4 _ rfl,A4 HM.out.rt 5 _ rfl⟩
     go_wp2_with fail;clear r0 r1 r2 r3 r4 r5;refine(HND.out _ HM.out.below).mono ?_;rintro e w3 ⟨na,nn,nc,rfl,hn,hS2,hb⟩;have hM:=HM.out.step hb;have hS:=HS.out.below hb;clear HM HS hb;have HM:=hid hM;have HS:=hid hS;have HS2:=hid hS2;obtain rfl:=hn;clear hM hS hS2;go_wp2_with fail;refine(MQ na _ nc N w3 HN.out (by have:=HS2.out.len;rw[HN.out] at this;exact this) (by have:=HS2.out.cap;unfold maxLen at this;omega) HS2.out.row).mono ?_;rintro e w4 ⟨rfl,hb⟩;have hM:=HM.out.step hb;have hS:=HS.out.below hb;clear HM HS HS2 hb;have HM:=hid hM;have HS:=hid hS;clear hM hS;obtain⟨D,hD⟩:∃ D,CP [] N=D:=⟨_,rfl⟩;rw[hD];cases D with
     | true=>
       have HF:Hid (As L r=false):=hid (RA (by rw[HTN.out.2];exact hD));clear hD;go_wp2_with fail;go_ret;exact⟨by rw[HF.out];rfl,HM.out.below⟩
     | false=>
       have HD3:=hid hD;clear hD;obtain⟨l1,l2,r1,r2,r3,r5⟩:w4.cell? ⟨gl,1,none⟩=some (.slice a2 n2 c2)∧w4.cell? ⟨gl,2,none⟩=some (.slice (some ⟨xs,os,none⟩) n3 c3)∧w4.cell? ⟨gr,1,none⟩=some (.int .i64 (ks:Int))∧w4.cell? ⟨gr,2,none⟩=some (.slice b1 m1 e1)∧w4.cell? ⟨gr,3,none⟩=some (.slice b2 m2 e2)∧w4.cell? ⟨gr,5,none⟩=some (.slice b4 m4 e4):=by
        obtain⟨x1,x2,x3,x4⟩:=HV.out;obtain⟨y1,y2,y3,y4,y5,y6⟩:=HU.out;rw[← x2,← x3,← y2,← y3,← y4,← y6];exact⟨A4 HM.out.lay 1 _ rfl,A4 HM.out.lay 2 _ rfl,A4 HM.out.rt 1 _ rfl,A4 HM.out.rt 2 _ rfl,A4 HM.out.rt 3 _ rfl,A4 HM.out.rt 5 _ rfl⟩
       go_wp2_with fail;clear l1 l2 r1 r2 r3 r5;go_loopg [6,7,8,33] n2 (fun g _ _ _ i wr=>∃ k:Nat,k+g=n2∧i = .int .i64 (k:Int)∧C6 T r.po.l r.fl.l k (L.po.l.drop k)=C6 T r.po.l r.fl.l 0 L.po.l∧Hl w wr gl gr L r∧B8 1 AO wr ⟨ta,tc,T⟩)
       case atStart=>exact⟨0,by omega,rfl,rfl,HM.out,HS.out⟩
       case round=>
        obtain⟨k,hk,rfl,hst,hM,hS⟩:=hrel;clear HM HS;have HM:=hid hM;have HS:=hid hS;have HST:=hid hst;clear hst hM hS;by_cases hlt:k<n2
        ·obtain⟨y,hy⟩:∃ y,L.po.l[k]?=some y:=⟨_,List.getElem?_eq_getElem (by rw[HNN.out.1];exact hlt)⟩;rcases R2.out.below HM.out.below with hnil | ⟨xb,off,rfl,hc⟩
         ·rw[hnil] at hy;simp at hy
         obtain⟨y0,y1⟩:=y;have z0:=hc k _ hy 0 _ rfl;have z1:=hc k _ hy 1 _ rfl;rw[Nat.add_zero] at z0;dsimp only at z0 z1;have HY:=hid hy;have d1:(0:Int)≤k:=by omega
         have d2:(k:Int)<n2:=by omega
         have e0:wrap64 ((k:Int)+1)=(k:Int)+1:=by have:=HNN.out;have:=M2.out;unfold wrap64;omega
         have HK:=hid hk;clear hc hy hk;have hb4:=Ac wr (.cells #[.string y0,.int .i64 y1] 68);have hM:=HM.out.step hb4;have hS:=HS.out.below hb4;clear HM HS;have HM:=hid hM;have HS:=hid hS;clear hM hS hb4;obtain⟨D,hD⟩:∃ D,Av T y1=D:=⟨_,rfl⟩;have HD:=hid hD;have HC:=hid (Ca D ta (m1+m3) tc T y1 (wr.alloc (.cells #[.string y0,.int .i64 y1] 68)) hD HT.out (by have:=HL1.out;omega) HS.out.row);clear hD;go_wp2_with fail;refine HC.out.mono ?_;rintro e w5 ⟨rfl,rfl⟩;clear HC z0 z1;obtain⟨W5,hW5⟩:∃ W,W=wr.alloc (.cells #[.string y0,.int .i64 y1] 68):=⟨_,rfl⟩;rw[← hW5] at HM HS ⊢;clear hW5;obtain⟨E,hE⟩:∃ E,Dq r.po.l k=E:=⟨_,rfl⟩;have HE:=hid hE;have HC:=hid (M9 E k b2 m2 e2 r.po.l W5 hE HMM.out.2.1 (by have:=HL2.out;omega) (Q2.out.below HM.out.below));clear hE;obtain⟨l1,l2,r1,r2,r3,r5⟩:W5.cell? ⟨gl,1,none⟩=some (.slice (some ⟨xb,off,none⟩) n2 c2)∧W5.cell? ⟨gl,2,none⟩=some (.slice (some ⟨xs,os,none⟩) n3 c3)∧W5.cell? ⟨gr,1,none⟩=some (.int .i64 (ks:Int))∧W5.cell? ⟨gr,2,none⟩=some (.slice b1 m1 e1)∧W5.cell? ⟨gr,3,none⟩=some (.slice b2 m2 e2)∧W5.cell? ⟨gr,5,none⟩=some (.slice b4 m4 e4):=by
          obtain⟨x1,x2,x3,x4⟩:=HV.out;obtain⟨y1,y2,y3,y4,y5,y6⟩:=HU.out;rw[← x2,← x3,← y2,← y3,← y4,← y6];exact⟨A4 HM.out.lay 1 _ rfl,A4 HM.out.lay 2 _ rfl,A4 HM.out.rt 1 _ rfl,A4 HM.out.rt 2 _ rfl,A4 HM.out.rt 3 _ rfl,A4 HM.out.rt 5 _ rfl⟩
         go_wp2_with fail;refine HC.out.mono ?_;rintro e w6 ⟨rfl,hb⟩;have hM:=HM.out.step hb;have hS:=HS.out.below hb;clear HM HS HC hb l1 l2 r1 r2 r3 r5;have HM:=hid hM;have HS:=hid hS;clear hM hS;rcases Decidable.em (D=E) with hde | hde
         ·subst hde;cases D with
          | false=>
            have HX:Hid (C6 T r.po.l r.fl.l (k+1) (L.po.l.drop (k+1))=C6 T r.po.l r.fl.l 0 L.po.l):=hid (by rw[← HST.out,BX HY.out,K4 HD.out HE.out];rfl);go_wp2_with fail;go_roundg (n2 - (k+1))
            case rel=>exact⟨k+1,by have:=HK.out;omega,by go_num,HX.out,HM.out,HS.out⟩
            case measure=>have:=HK.out;omega
          | true=>
            obtain⟨F,hF⟩:∃ F,Dq r.fl.l k=F:=⟨_,rfl⟩;have HFF:=hid hF;have HC:=hid (M9 F k b4 m4 e4 r.fl.l w6 hF HMM.out.2.2.2 (by have:=HL2.out;omega) (Q4.out.below HM.out.below));clear hF;obtain⟨l1,l2,r1,r2,r3,r5⟩:w6.cell? ⟨gl,1,none⟩=some (.slice (some ⟨xb,off,none⟩) n2 c2)∧w6.cell? ⟨gl,2,none⟩=some (.slice (some ⟨xs,os,none⟩) n3 c3)∧w6.cell? ⟨gr,1,none⟩=some (.int .i64 (ks:Int))∧w6.cell? ⟨gr,2,none⟩=some (.slice b1 m1 e1)∧w6.cell? ⟨gr,3,none⟩=some (.slice b2 m2 e2)∧w6.cell? ⟨gr,5,none⟩=some (.slice b4 m4 e4):=by
             obtain⟨x1,x2,x3,x4⟩:=HV.out;obtain⟨y1,y2,y3,y4,y5,y6⟩:=HU.out;rw[← x2,← x3,← y2,← y3,← y4,← y6];exact⟨A4 HM.out.lay 1 _ rfl,A4 HM.out.lay 2 _ rfl,A4 HM.out.rt 1 _ rfl,A4 HM.out.rt 2 _ rfl,A4 HM.out.rt 3 _ rfl,A4 HM.out.rt 5 _ rfl⟩
            go_wp2_with fail;refine HC.out.mono ?_;rintro e w7 ⟨rfl,hb⟩;have hM:=HM.out.step hb;have hS:=HS.out.below hb;clear HM HS HC hb l1 l2 r1 r2 r3 r5;have HM:=hid hM;have HS:=hid hS;clear hM hS;cases F with
            | false=>
              have HX:Hid (C6 T r.po.l r.fl.l (k+1) (L.po.l.drop (k+1))=C6 T r.po.l r.fl.l 0 L.po.l):=hid (by rw[← HST.out,BX HY.out,Fq HD.out HE.out HFF.out];rfl);go_wp2_with fail;go_roundg (n2 - (k+1))
              case rel=>exact⟨k+1,by have:=HK.out;omega,by go_num,HX.out,HM.out,HS.out⟩
              case measure=>have:=HK.out;omega
            | true=>
              have HF:Hid (As L r=false):=hid (MP (by rw[HTN.out.1,← HST.out,BX HY.out,Fq HD.out HE.out HFF.out];rfl));go_wp2_with fail;go_ret;exact⟨by rw[HF.out];rfl,HM.out.below⟩
         ·have HF:Hid (As L r=false):=hid (MP (by rw[HTN.out.1,← HST.out,BX HY.out,Ht HD.out HE.out hde];rfl));cases D<;>cases E<;>first | exact absurd rfl hde | skip
          all_goals
           clear hde;go_wp2_with fail;go_ret;exact⟨by rw[HF.out];rfl,HM.out.below⟩
        ·have hkm:n2=k:=by omega
         subst hkm;have HF:Hid (As L r=true):=hid (Rk (by rw[HMM.out.1];exact H0.out) (by rw[HTN.out.1];exact HD1.out) (by rw[HTN.out.1];exact HD2.out) (by rw[HTN.out.2];exact HD3.out) (by rw[HTN.out.1,← HST.out,Gx HNN.out.1]));go_wp2_with fail;go_ret;exact⟨by rw[HF.out];rfl,HM.out.below⟩
end Go.Proofs.YtpohoannggdbjaaGreat
namespace Go.Proofs.YtpohoannggdbjaaGreat
open Lib (hid)
open Go.RowKit
set_option maxRecDepth 100000
theorem Cl{n:Nat}{l:List Int}(h:Au n l=true):∀ x∈l,0≤x∧x<(n:Int):=by
 unfold Au at h;rw[List.all_eq_true] at h;exact fun x hx=>of_decide_eq_true (h x hx)
structure Rh(L:AM)(r:Rt):Prop where
 s0:0≤r.sg
 s1:r.sg<(L.sg.l.length:Int)
 pa:r.pa.l.length≤16
 ov:r.ov.l.length≤16
 po:r.po.l.length≤16
 fl:r.fl.l.length≤16
 pb:Au L.se.l.length r.pa.l=true
 ob:Au L.se.l.length r.ov.l=true
 qb:Au L.po.l.length (r.po.l.map (·.1))=true
 fb:Au L.po.l.length (r.fl.l.map (·.1))=true
theorem Bn{L:AM}(h:AQ L=true):∀ r∈L.rt.l,Rh L r:=by
 intro r hr;unfold AQ BE at h;simp only[Bool.and_eq_true] at h;obtain⟨_,_,⟨_,h1⟩,h2⟩:=h;have a:=Cl h1 r.sg (List.mem_map.2 ⟨r,hr,rfl⟩);rw[List.all_eq_true] at h2;have b:=h2 r hr;unfold ES Cc at b;simp only[Bool.and_eq_true,decide_eq_true_eq] at b;obtain⟨⟨⟨⟨b1,b2⟩,b3⟩,b4⟩,⟨b5,b6⟩,b7,b8⟩:=b;exact⟨a.1,a.2,b1,b2,b5,b7,b3,b4,b6,b8⟩
def DR(L:AM):Int:=BH (fun r=>!As L r) 0 L.rt.l
def Aq(L:AM):Int × Int:=if AQ L then (if 0≤DR L then (50,DR L) else (0,0)) else (2,0)
theorem Mm{L:AM}(h:AQ L=false):Aq L=(2,0):=by unfold Aq;rw[h];rfl
theorem Jo{L:AM}{z:Int}(h:AQ L=true)(hz:DR L=z)(h0:0≤z):Aq L=(50,z):=by unfold Aq;rw[h,hz,if_pos rfl,if_pos h0]
theorem Pv{L:AM}{z:Int}(h:AQ L=true)(hz:DR L=z)(h0:¬ 0≤z):Aq L=(0,0):=by unfold Aq;rw[h,hz,if_pos rfl,if_neg h0]
attribute [local irreducible] Av Dq Cg CP F0 C6 Bs As Sl.v BR BH AQ
set_option maxRecDepth 100000 in
set_option maxHeartbeats 2000000 in
theorem LB(gl:Nat)(t:TypeId)(fr:Nat × Nat)(L:AM)(r:Rt)(w:World)(b:Bool)(hb:As L r=b)(hg:w.heap[gl]?=some (.cells #[L.se.v,L.po.v,L.sg.v,L.rt.v] t fr))(hL:B5 w L)(hr:Cq w r)(ho:Rh L r) :
 Calls Tryz.prog 48 #[.agg #[.string r.nm,.int .i64 r.sg,r.pa.v,r.po.v,r.ov.v,r.fl.v],.pointer (some ⟨gl,0,none⟩)] w fun e w'=>e = .returned (.bool (!b))∧Below w.heap.size w w':=by
 have HF:Hid (∀ W,Below w.heap.size w W→Calls Tryz.prog 49 #[.agg #[L.se.v,L.po.v,L.sg.v,L.rt.v],.agg #[.string r.nm,.int .i64 r.sg,r.pa.v,r.po.v,r.ov.v,r.fl.v]] W fun e w'=>e = .returned (.bool b)∧Below W.heap.size W w'):=
  hid (fun W hW=>hb ▸ Lt L r W (hL.below hW) (hr.below hW) ho.s0 ho.s1 (by have:=ho.pa;have:=ho.ov;omega) (by have:=ho.po;have:=ho.fl;omega))
 obtain⟨m1,hm1⟩:∃ n,r.pa.l.length=n:=⟨_,rfl⟩;obtain⟨m2,hm2⟩:∃ n,r.po.l.length=n:=⟨_,rfl⟩;obtain⟨m3,hm3⟩:∃ n,r.ov.l.length=n:=⟨_,rfl⟩;obtain⟨m4,hm4⟩:∃ n,r.fl.l.length=n:=⟨_,rfl⟩;obtain⟨n1,hn1⟩:∃ n,L.se.l.length=n:=⟨_,rfl⟩;obtain⟨n2,hn2⟩:∃ n,L.po.l.length=n:=⟨_,rfl⟩;obtain⟨n3,hn3⟩:∃ n,L.sg.l.length=n:=⟨_,rfl⟩;obtain⟨n4,hn4⟩:∃ n,L.rt.l.length=n:=⟨_,rfl⟩;rw[Ak hm1,Ak hm2,Ak hm3,Ak hm4,Ak hn1,Ak hn2,Ak hn3,Ak hn4] at HF;rw[Ak hn1,Ak hn2,Ak hn3,Ak hn4] at hg;rw[Ak hm1,Ak hm2,Ak hm3,Ak hm4];clear hm1 hm2 hm3 hm4 hn1 hn2 hn3 hn4 hL hr ho hb;have l0:=A4 hg 0 _ rfl;have l1:=A4 hg 1 _ rfl;have l2:=A4 hg 2 _ rfl;have l3:=A4 hg 3 _ rfl;have hlt:=Af hg;clear hg;go_enter Tryz.func48,Tryz.ntmps48;go_wp2_with fail;refine(HF.out _ (Ac w _)).mono ?_;rintro e w1 ⟨rfl,hb1⟩;have HB:=hid (A8 (Ac w _) hb1);clear hb1 l0 l1 l2 l3;go_wp2_with fail;go_ret;exact⟨rfl,HB.out⟩
set_option maxRecDepth 100000 in
set_option maxHeartbeats 2000000 in
theorem Rb(gl:Nat)(p:Rt→Bool)(x:Option Addr)(m c:Nat)(l:List Rt)(w:World)(hn:l.length=m)(hm:m≤9223372036854775807)(hl:AF 6 NE w x l)
 (hp:∀ W,Below w.heap.size w W→∀ r∈l,Calls Tryz.prog 48 #[.agg #[.string r.nm,.int .i64 r.sg,r.pa.v,r.po.v,r.ov.v,r.fl.v],.pointer (some ⟨gl,0,none⟩)] W fun e w'=>e = .returned (.bool (p r))∧Below W.heap.size W w') :
 Calls Tryz.prog 47 #[.slice x m c,.func (.func 48) #[] #[.pointer (some ⟨gl,0,none⟩)]] w fun e w'=>e = .returned (.int .i64 (BH p 0 l))∧Below w.heap.size w w':=by
 have HN:=hid hn;have HP:=hid hp;have HR:=hid hl;clear hn hp hl;go_enter Tryz.func47,Tryz.ntmps47;go_wp2_with fail;go_loopg [5,8] m (fun g _ i wr=>∃ k:Nat,k+g=m∧i = .int .i64 (k:Int)∧BH p k (l.drop k)=BH p 0 l∧Below w.heap.size w wr)
 case atStart=>exact⟨0,by omega,rfl,rfl,Below.refl _ _⟩
 case round=>
  obtain⟨k,hk,rfl,hb,hbw⟩:=hrel;have HB:=hid hb;have HBW:=hid hbw;clear hb hbw;by_cases hlt:k<m
  ·obtain⟨y,hy⟩:∃ y,l[k]?=some y:=⟨_,List.getElem?_eq_getElem (by rw[HN.out];exact hlt)⟩;rcases HR.out.below HBW.out with hnil | ⟨b,off,rfl,hc⟩
   ·rw[hnil] at hy;simp at hy
   have z0:=hc k _ hy 0 _ rfl;have z1:=hc k _ hy 1 _ rfl;have z2:=hc k _ hy 2 _ rfl;have z3:=hc k _ hy 3 _ rfl;have z4:=hc k _ hy 4 _ rfl;have z5:=hc k _ hy 5 _ rfl;rw[Nat.add_zero] at z0;have hd:=Ci (p:=p) hy;have d1:(0:Int)≤k:=by omega
   have d2:(k:Int)<m:=by omega
   have e1:wrap64 ((k:Int)+1)=(k:Int)+1:=by unfold wrap64;omega
   have HK:=hid hk;have hcall:=HP.out wr HBW.out y (List.mem_of_getElem? hy);obtain⟨D,hD⟩:∃ D,p y=D:=⟨_,rfl⟩;rw[hD] at hcall hd;obtain⟨m1,hm1⟩:∃ n,y.pa.l.length=n:=⟨_,rfl⟩;obtain⟨m2,hm2⟩:∃ n,y.po.l.length=n:=⟨_,rfl⟩;obtain⟨m3,hm3⟩:∃ n,y.ov.l.length=n:=⟨_,rfl⟩;obtain⟨m4,hm4⟩:∃ n,y.fl.l.length=n:=⟨_,rfl⟩;rw[Ak hm1,Ak hm2,Ak hm3,Ak hm4] at hcall;rw[Ak hm1] at z2;rw[Ak hm2] at z3;rw[Ak hm3] at z4;rw[Ak hm4] at z5;have HC:=hid hcall;clear hc hy hk hcall hD hm1 hm2 hm3 hm4;cases D with
   | true=>
     have HF:Hid (BH p 0 l=k):=hid (HB.out.symm.trans (by rw[hd,if_pos rfl]));clear hd;go_wp2_with fail;refine HC.out.mono ?_;rintro e w5 ⟨rfl,hb5⟩;have HB5:=hid (A8 HBW.out hb5);clear hb5;go_wp2_with fail;go_ret;exact⟨by rw[HF.out];rfl,HB5.out⟩
   | false=>
     have HT:Hid (BH p (k+1) (l.drop (k+1))=BH p 0 l):=hid (Eq.trans (by rw[hd,if_neg (by decide)]) HB.out);clear hd;go_wp2_with fail;refine HC.out.mono ?_;rintro e w5 ⟨rfl,hb5⟩;have HB5:=hid (A8 HBW.out hb5);clear hb5;go_wp2_with fail;go_roundg (m - (k+1))
     case rel=>exact⟨k+1,by have:=HK.out;omega,by go_num,HT.out,HB5.out⟩
     case measure=>have:=HK.out;omega
  ·have hkm:m=k:=by omega
   subst hkm;have HF:Hid (BH p 0 l = -1):=hid (HB.out.symm.trans (CV HN.out));go_wp2_with fail;go_ret;exact⟨by rw[HF.out];rfl,HBW.out⟩
set_option maxRecDepth 100000 in
set_option maxHeartbeats 2000000 in
theorem It(L:AM)(w:World)(hL:B5 w L) :
 Calls Tryz.prog 28 #[.agg #[L.se.v,L.po.v,L.sg.v,L.rt.v]] w fun e w'=>e = .returned (.tuple #[.int .i64 (Aq L).1,.int .i64 (Aq L).2])∧Below w.heap.size w w':=by
 have HMAY:Hid (∀ W,Below w.heap.size w W→Calls Tryz.prog 46 #[.agg #[L.se.v,L.po.v,L.sg.v,L.rt.v]] W fun e w'=>e = .returned (.bool (AQ L))∧Below W.heap.size W w'):=hid (fun W hW=>JU L W (hL.below hW));have HLW:=hid hL;obtain⟨n1,hn1⟩:∃ n,L.se.l.length=n:=⟨_,rfl⟩;obtain⟨n2,hn2⟩:∃ n,L.po.l.length=n:=⟨_,rfl⟩;obtain⟨n3,hn3⟩:∃ n,L.sg.l.length=n:=⟨_,rfl⟩;obtain⟨n4,hn4⟩:∃ n,L.rt.l.length=n:=⟨_,rfl⟩;have hm4:n4≤9223372036854775807:=by rw[← hn4];exact hL.rt.lenM
 have HN:=hid (And.intro (Ak hn1) (And.intro (Ak hn2) (And.intro (Ak hn3) (And.intro (Ak hn4) hm4))));have HN4:=hid hn4;rw[Ak hn1,Ak hn2,Ak hn3,Ak hn4] at HMAY ⊢;clear hn1 hn2 hn3 hn4 hm4 hL;obtain⟨gl,hgl⟩:∃ g,g=w.heap.size:=⟨_,rfl⟩;have HGL:=hid hgl;clear hgl;obtain⟨B,hB⟩:∃ B,AQ L=B:=⟨_,rfl⟩;rw[hB] at HMAY;have HBB:=hid hB;clear hB;go_enter Tryz.func28,Tryz.ntmps28;go_wp2_with fail;refine(HMAY.out _ (Ac w _)).mono ?_;rintro e w1 ⟨rfl,hb1⟩;have hq:=A5 hb1 (Ao w (.cells #[.slice L.se.a n1 L.se.c,.slice L.po.a n2 L.po.c,.slice L.sg.a n3 L.sg.c,.slice L.rt.a n4 L.rt.c] 27) (Below.refl _ _));have hbw:=A8 (Ac w _) hb1;rw[← HGL.out] at hq ⊢;have HB1:=hid hbw;clear hb1 hbw;cases B with
 | false=>
   have HC:=hid (Mm HBB.out);clear hq;go_wp2_with fail;go_ret2;exact⟨by rw[HC.out];rfl,HB1.out⟩
 | true=>
   have l3:=A4 hq 3 _ rfl;obtain⟨z,hz⟩:∃ z,DR L=z:=⟨_,rfl⟩;have HZ:=hid hz;have HIX:Hid (Calls Tryz.prog 47 #[.slice L.rt.a n4 L.rt.c,.func (.func 48) #[] #[.pointer (some ⟨gl,0,none⟩)]] w1 fun e w'=>e = .returned (.int .i64 z)∧Below w1.heap.size w1 w'):=by
    have hLw:=HLW.out.below HB1.out;have hok:=Bn HBB.out;refine hid (hz ▸ Rb gl (fun r=>!As L r) _ _ _ L.rt.l w1 HN4.out HN.out.2.2.2.2 hLw.rt.row (fun W hW r hr=>LB gl 27 (0,0) L r W _ rfl ?_ (hLw.below hW) ((hLw.rn r hr).below hW) (hok r hr)));obtain⟨x1,x2,x3,x4,_⟩:=HN.out;rw[x1,x2,x3,x4];exact A5 hW hq
   clear hq hz;go_wp2_with fail;refine HIX.out.mono ?_;rintro e w2 ⟨rfl,hb2⟩;have HB2:=hid (A8 HB1.out hb2);clear hb2 l3;by_cases hz0:0≤z
   ·have HC:=hid (Jo HBB.out HZ.out hz0);go_wp2_with fail;go_ret2;exact⟨by rw[HC.out];rfl,HB2.out⟩
   ·have HC:=hid (Pv HBB.out HZ.out hz0);go_wp2_with fail;go_ret2;exact⟨by rw[HC.out];rfl,HB2.out⟩
end Go.Proofs.YtpohoannggdbjaaGreat
namespace Go.Proofs.YtpohoannggdbjaaGreat
open Lib (hid)
open Go.RowKit
theorem Cd:∀(os:List Obj) (w:World),Below w.heap.size w (os.foldl World.alloc w):=by
 intro os
 induction os with
 | nil=>exact fun w=>Below.refl _ _
 | cons o os ih=>exact fun w=>A8 (Ac w o) (ih (w.alloc o))
theorem Dy:∀(os:List Obj) (w:World) (i:Nat) (o:Obj),os[i]?=some o→(os.foldl World.alloc w).heap[w.heap.size+i]?=some o:=by
 intro os
 induction os with
 | nil=>intro w i o h;simp at h
 | cons p os ih=>
   intro w i o h;cases i with
   | zero=>
     simp at h;subst h;exact Ao w p (Cd os (w.alloc p))
   | succ i=>
     have:=ih (w.alloc p) i o (by simpa using h);have e:(w.alloc p).heap.size=w.heap.size+1:=by simp
     rw[e,show w.heap.size+1+i=w.heap.size+(i+1) by omega] at this;exact this
theorem Ex{α:Type}{sz:Nat}{f:α→List Value}(hf:∀ c,(f c).length=sz){w:World}{g:Nat}{cs:Array Value}{t:TypeId}{fr:Nat × Nat}{l:List α}(h:w.heap[g]?=some (.cells cs t fr))(hcs:cs.toList=l.flatMap f):AF sz f w (some ⟨g,0,none⟩) l:=by
 refine .inr ⟨g,0,rfl,fun i c hi j v hv=>?_⟩;rw[Nat.zero_add];refine A4 h _ _ ?_;rw[← Array.getElem?_toList,hcs];exact FT hf l i c j v hi hv
theorem EX{α:Type}{sz:Nat}{f:α→List Value}(hf:∀ c,(f c).length=sz){w:World}{g n:Nat}{cs:Array Value}{t:TypeId}{fr:Nat × Nat}{l:List α}(h:w.heap[g]?=some (.cells cs t fr))(hcs:cs.toList=l.flatMap f)(hn:l.length=n)(hm:n≤maxLen):B8 sz f w ⟨some ⟨g,0,none⟩,n,l⟩:=
 ⟨Ex hf h hcs,by dsimp only;omega,hm,fun h=>by cases h⟩
theorem Mh(c:BA × Int):(LQ c).length=2:=rfl
theorem QF(c:Rt):(NE c).length=6:=rfl
theorem Eh{α:Type}{sz:Nat}{f:α→List Value}{w:World}:B8 sz f w ⟨none,0,[]⟩:=⟨.inl rfl,Nat.le_refl _,Nat.zero_le _,fun _=>rfl⟩
theorem Ap{P:World→Prop}{os:List Obj}{w0 w:World}(hw:os.foldl World.alloc w0=w)(h:∀ W:World,(∀ i o,os[i]?=some o→W.heap[w0.heap.size+i]?=some o)→Below w0.heap.size w0 W→P W):P w:=
 h w (fun i o hi=>hw ▸ Dy os w0 i o hi) (hw ▸ Cd os w0)
theorem BP{P:World→Prop}{w:World}(h:∀ W,W=w→P W):P w:=h w rfl
theorem AY{K:Act→World→Prop}{a:Act}{w:World}(h:∀ W,W=w→K a W):K a w:=h w rfl
theorem DK{w w':World}(h:Below w.drew.heap.size w.drew w'):Below w.heap.size w w':=⟨h.os,h.tape,h.output,h.size,h.block⟩
end Go.Proofs.YtpohoannggdbjaaGreat
namespace Go.Proofs.YtpohoannggdbjaaGreat
open Lib (hid)
open Go.RowKit
set_option maxRecDepth 100000
def IU{α:Type}(t:Int)(f:Int→α→Int):Int→List α→Int
 | z,[]=>z
 | z,y :: l=>if z≤t then IU t f (f z y) l else z
theorem EP{α:Type}{t:Int}{f:Int→α→Int}{z:Int}{l:List α}{y:α}{k:Nat}(h:l[k]?=some y)(hz:z≤t):IU t f z (l.drop k)=IU t f (f z y) (l.drop (k+1)):=by
 have hk:k<l.length:=(List.getElem?_eq_some_iff.1 h).1;rw[List.drop_eq_getElem_cons hk,(List.getElem?_eq_some_iff.1 h).2];show(if z≤t then _ else _)=_;rw[if_pos hz]
theorem EE{α:Type}{t:Int}{f:Int→α→Int}{z:Int}{l:List α}{k n:Nat}(hn:l.length=n)(h:n≤k∨t<z):IU t f z (l.drop k)=z:=by
 cases hd:l.drop k with
 | nil=>rfl
 | cons y m=>
   rcases h with h | h
   ·rw[List.drop_eq_nil_of_le (by omega)] at hd;cases hd
   ·show(if z≤t then _ else _)=_;rw[if_neg (by omega)]
def JZ(z:Int)(s:BA):Int:=wrap64 (wrap64 (z+1)+(s.size:Int))
def OF(t z:Int)(r:Rt):Int:=
 let y:=wrap64 (wrap64 (wrap64 (wrap64 (z+1)+(r.nm.size:Int))+(r.pa.l.length:Int))+(r.po.l.length:Int))
 if y≤t then wrap64 (wrap64 (y+(r.ov.l.length:Int))+(r.fl.l.length:Int)) else y
def Ck(t:Int)(L:AM):Int:=IU t (OF t) (IU t (fun z (p:BA × Int)=>JZ z p.1) (IU t (fun z (p:BA × Int)=>JZ z p.1) (IU t JZ 0 L.se.l) L.po.l) L.sg.l) L.rt.l
theorem Jt(z:Int)(s:BA):wrap64 (wrap64 (z+1)+(s.size:Int))=JZ z s:=rfl
theorem Q1{t z:Int}{r:Rt}{m1 m2 m3 m4:Nat}(h:r.pa.l.length=m1∧r.po.l.length=m2∧r.ov.l.length=m3∧r.fl.l.length=m4)(q:wrap64 (wrap64 (wrap64 (wrap64 (z+1)+(r.nm.size:Int))+(m1:Int))+(m2:Int))≤t) :
 wrap64 (wrap64 (wrap64 (wrap64 (wrap64 (wrap64 (z+1)+(r.nm.size:Int))+(m1:Int))+(m2:Int))+(m3:Int))+(m4:Int))=OF t z r:=by
 obtain⟨rfl,rfl,rfl,rfl⟩:=h;unfold OF;rw[if_pos q]
theorem Ql{t z:Int}{r:Rt}{m1 m2 m3 m4:Nat}(h:r.pa.l.length=m1∧r.po.l.length=m2∧r.ov.l.length=m3∧r.fl.l.length=m4)(q:¬ wrap64 (wrap64 (wrap64 (wrap64 (z+1)+(r.nm.size:Int))+(m1:Int))+(m2:Int))≤t) :
 wrap64 (wrap64 (wrap64 (wrap64 (z+1)+(r.nm.size:Int))+(m1:Int))+(m2:Int))=OF t z r:=by
 obtain⟨rfl,rfl,rfl,rfl⟩:=h;unfold OF;rw[if_neg q]
attribute [local irreducible] Sl.v IU OF JZ
set_option maxRecDepth 100000 in
set_option maxHeartbeats 4000000 in
theorem GP(t:Int)(L:AM)(w:World)(hL:B5 w L) :
 Calls Tryz.prog 16 #[.agg #[L.se.v,L.po.v,L.sg.v,L.rt.v],.int .i64 t] w fun e w'=>e = .returned (.int .i64 (Ck t L))∧Below w.heap.size w w':=by
 have HR1:=hid hL.se.row;have HR2:=hid hL.po.row;have HR3:=hid hL.sg.row;have HR4:=hid hL.rt.row;obtain⟨n1,hn1⟩:∃ n,L.se.l.length=n:=⟨_,rfl⟩;obtain⟨n2,hn2⟩:∃ n,L.po.l.length=n:=⟨_,rfl⟩;obtain⟨n3,hn3⟩:∃ n,L.sg.l.length=n:=⟨_,rfl⟩;obtain⟨n4,hn4⟩:∃ n,L.rt.l.length=n:=⟨_,rfl⟩;have HM1:Hid (n1≤9223372036854775807):=hid (by rw[← hn1];exact hL.se.lenM);have HM2:Hid (n2≤9223372036854775807):=hid (by rw[← hn2];exact hL.po.lenM);have HM3:Hid (n3≤9223372036854775807):=hid (by rw[← hn3];exact hL.sg.lenM);have HM4:Hid (n4≤9223372036854775807):=hid (by rw[← hn4];exact hL.rt.lenM);have HN1:=hid hn1;have HN2:=hid hn2;have HN3:=hid hn3;have HN4:=hid hn4;rw[Ak hn1,Ak hn2,Ak hn3,Ak hn4];clear hn1 hn2 hn3 hn4 hL;obtain⟨W1,hW1⟩:∃ W,W=IU t JZ 0 L.se.l:=⟨_,rfl⟩;obtain⟨W2,hW2⟩:∃ W,W=IU t (fun z (p:BA × Int)=>JZ z p.1) W1 L.po.l:=⟨_,rfl⟩;obtain⟨W3,hW3⟩:∃ W,W=IU t (fun z (p:BA × Int)=>JZ z p.1) W2 L.sg.l:=⟨_,rfl⟩;obtain⟨W4,hW4⟩:∃ W,W=IU t (OF t) W3 L.rt.l:=⟨_,rfl⟩;have HW:Hid (Ck t L=W4):=hid (by rw[hW4,hW3,hW2,hW1];rfl);have HW1:=hid hW1.symm;have HW2:=hid hW2.symm;have HW3:=hid hW3.symm;have HW4:=hid hW4.symm;clear hW1 hW2 hW3 hW4;obtain⟨gl,hgl⟩:∃ g,g=w.heap.size:=⟨_,rfl⟩;have HGL:=hid hgl;clear hgl;go_enter Tryz.func16,Tryz.ntmps16;go_wp2_with fail;refine DA ?_;intro W0 hW0;have hq:W0.heap[gl]?=some (.cells #[.slice L.se.a n1 L.se.c,.slice L.po.a n2 L.po.c,.slice L.sg.a n3 L.sg.c,.slice L.rt.a n4 L.rt.c] 27):=by rw[hW0,HGL.out];exact Ao w _ (Below.refl _ _)
 have hb0:Below w.heap.size w W0:=by rw[hW0];exact Ac w _
 rw[← HGL.out];have HQ:=hid hq;have HB:=hid hb0;clear hq hb0 hW0
 skip
 go_loopg [5,6] n1 (fun g nn i wr=>∃(k:Nat) (z:Int),k+g=n1∧nn = .int .i64 z∧i = .int .i64 (k:Int)∧IU t JZ z (L.se.l.drop k)=W1∧wr.heap[gl]?=some (.cells #[.slice L.se.a n1 L.se.c,.slice L.po.a n2 L.po.c,.slice L.sg.a n3 L.sg.c,.slice L.rt.a n4 L.rt.c] 27)∧Below w.heap.size w wr)
 case atStart=>exact⟨0,0,by omega,rfl,rfl,HW1.out,HQ.out,HB.out⟩
 case round=>
  obtain⟨k,z,hk,rfl,rfl,hst,hq,hbw⟩:=hrel;clear HQ HB;have HST:=hid hst;have HQ:=hid hq;have HB:=hid hbw;have l1:=A4 hq 0 _ rfl;have hgz:=Af hq;have HGZ:=hid hgz;have HK:=hid hk;clear hst hq hbw hk hgz;have e0:k<n1→wrap64 ((k:Int)+1)=(k:Int)+1:=by intro h;have:=HM1.out;unfold wrap64;omega
  have HE:=hid e0;clear e0;go_upto_region 3 with fail
  go_cut [15,16,17,18,19,20] (fun _s15 _s16 _s17 _s18 _s19 s20 wx=>∃ D:Bool,s20 = .bool D∧wr=wx∧Hid (D=true→k<n1∧z≤t)∧Hid (D=false→n1≤k∨t<z))
  case first=>
   by_cases hlt:k<n1
   ·have d1:(k:Int)<n1:=by omega
    by_cases hz:z≤t
    ·go_wp2_with fail;go_meet;exact⟨true,rfl,rfl,hid (fun _=>⟨hlt,hz⟩),hid (fun h=>absurd h (by decide))⟩
    ·go_wp2_with fail;go_meet;exact⟨false,rfl,rfl,hid (fun h=>absurd h (by decide)),hid (fun _=>.inr (by omega))⟩
   ·have d1:¬ (k:Int)<n1:=by omega
    go_wp2_with fail;go_meet;exact⟨false,rfl,rfl,hid (fun h=>absurd h (by decide)),hid (fun _=>.inl (Nat.le_of_not_lt hlt))⟩
  case rest=>
   obtain⟨D,rfl,hwx,hD1,hD2⟩:=hcut;subst hwx;cases D with
   | true=>
     obtain⟨hlt,hz⟩:=hD1.out rfl;clear hD1 hD2;have e0:=HE.out hlt;clear HE;obtain⟨y,hy⟩:∃ y,L.se.l[k]?=some y:=⟨_,List.getElem?_eq_getElem (by rw[HN1.out];exact hlt)⟩;have hst:=HST.out;rw[EP hy hz] at hst;clear HST;have hz2:=hz;clear hz;rcases HR1.out.below HB.out with hnil | ⟨xb,off,hxb,hc⟩
     ·rw[hnil] at hy;simp at hy
     have z0:=hc k _ hy 0 _ rfl;rw[Nat.add_zero,Nat.mul_one] at z0;have d1:(0:Int)≤k:=by omega
     have d2:(k:Int)<n1:=by omega
     have HX:=hid hst;have HLT:=hid hlt;clear hc hy hst hlt hz2;obtain⟨x,hx⟩:∃ x,L.se.a=x:=⟨_,rfl⟩;have HXX:=hid hx;rw[hx] at l1 HQ hxb ⊢;subst hxb;clear hx;go_wp2_with fail;rw[← HXX.out];go_roundg (n1 - (k+1))
     case rel=>exact⟨k+1,wrap64 (wrap64 (z+1)+((y.size:Nat):Int)),by have:=HK.out;have:=HLT.out;omega,rfl,by go_num,by rw[Jt];exact HX.out,by rw[HXX.out];exact HQ.out,HB.out⟩
     case measure=>have:=HK.out;have:=HLT.out;omega
   | false=>
     have h:=EE (f:=JZ) HN1.out (hD2.out rfl);rw[HST.out] at h;subst h;clear hD1 hD2 HST HE l1 HK HGZ;go_wp2_with fail;go_loopg [5,7] n2 (fun g nn i wr=>∃(k:Nat) (z:Int),k+g=n2∧nn = .int .i64 z∧i = .int .i64 (k:Int)∧IU t (fun z (p:BA × Int)=>JZ z p.1) z (L.po.l.drop k)=W2∧wr.heap[gl]?=some (.cells #[.slice L.se.a n1 L.se.c,.slice L.po.a n2 L.po.c,.slice L.sg.a n3 L.sg.c,.slice L.rt.a n4 L.rt.c] 27)∧Below w.heap.size w wr)
     case atStart=>exact⟨0,W1,by omega,rfl,rfl,HW2.out,HQ.out,HB.out⟩
     case round=>
      obtain⟨k,z,hk,rfl,rfl,hst,hq,hbw⟩:=hrel;clear HQ HB;have HST:=hid hst;have HQ:=hid hq;have HB:=hid hbw;have l2:=A4 hq 1 _ rfl;have hgz:=Af hq;have HGZ:=hid hgz;have HK:=hid hk;clear hst hq hbw hk hgz;have e0:k<n2→wrap64 ((k:Int)+1)=(k:Int)+1:=by intro h;have:=HM2.out;unfold wrap64;omega
      have HE:=hid e0;clear e0;go_upto_region 7 with fail
      go_cut [36,37,38,39,40,41] (fun _s36 _s37 _s38 _s39 _s40 s41 wx=>∃ D:Bool,s41 = .bool D∧wr=wx∧Hid (D=true→k<n2∧z≤t)∧Hid (D=false→n2≤k∨t<z))
      case first=>
       by_cases hlt:k<n2
       ·have d1:(k:Int)<n2:=by omega
        by_cases hz:z≤t
        ·go_wp2_with fail;go_meet;exact⟨true,rfl,rfl,hid (fun _=>⟨hlt,hz⟩),hid (fun h=>absurd h (by decide))⟩
        ·go_wp2_with fail;go_meet;exact⟨false,rfl,rfl,hid (fun h=>absurd h (by decide)),hid (fun _=>.inr (by omega))⟩
       ·have d1:¬ (k:Int)<n2:=by omega
        go_wp2_with fail;go_meet;exact⟨false,rfl,rfl,hid (fun h=>absurd h (by decide)),hid (fun _=>.inl (Nat.le_of_not_lt hlt))⟩
      case rest=>
       obtain⟨D,rfl,hwx,hD1,hD2⟩:=hcut;subst hwx;cases D with
       | true=>
         obtain⟨hlt,hz⟩:=hD1.out rfl;clear hD1 hD2;have e0:=HE.out hlt;clear HE;obtain⟨y,hy⟩:∃ y,L.po.l[k]?=some y:=⟨_,List.getElem?_eq_getElem (by rw[HN2.out];exact hlt)⟩;have hst:=HST.out;rw[EP hy hz] at hst;clear HST;have hz2:=hz;clear hz;rcases HR2.out.below HB.out with hnil | ⟨xb,off,hxb,hc⟩
         ·rw[hnil] at hy;simp at hy
         have z0:=hc k _ hy 0 _ rfl;rw[Nat.add_zero] at z0;have d1:(0:Int)≤k:=by omega
         have d2:(k:Int)<n2:=by omega
         have HX:=hid hst;have HLT:=hid hlt;clear hc hy hst hlt hz2;obtain⟨x,hx⟩:∃ x,L.po.a=x:=⟨_,rfl⟩;have HXX:=hid hx;rw[hx] at l2 HQ hxb ⊢;subst hxb;clear hx;go_wp2_with fail;rw[← HXX.out];go_roundg (n2 - (k+1))
         case rel=>exact⟨k+1,wrap64 (wrap64 (z+1)+((y.1.size:Nat):Int)),by have:=HK.out;have:=HLT.out;omega,rfl,by go_num,by rw[Jt];exact HX.out,by rw[HXX.out];exact HQ.out,HB.out⟩
         case measure=>have:=HK.out;have:=HLT.out;omega
       | false=>
         have h:=EE (f:=(fun z (p:BA × Int)=>JZ z p.1)) HN2.out (hD2.out rfl);rw[HST.out] at h;subst h;clear hD1 hD2 HST HE l2 HK HGZ;go_wp2_with fail;go_loopg [5,8] n3 (fun g nn i wr=>∃(k:Nat) (z:Int),k+g=n3∧nn = .int .i64 z∧i = .int .i64 (k:Int)∧IU t (fun z (p:BA × Int)=>JZ z p.1) z (L.sg.l.drop k)=W3∧wr.heap[gl]?=some (.cells #[.slice L.se.a n1 L.se.c,.slice L.po.a n2 L.po.c,.slice L.sg.a n3 L.sg.c,.slice L.rt.a n4 L.rt.c] 27)∧Below w.heap.size w wr)
         case atStart=>exact⟨0,W2,by omega,rfl,rfl,HW3.out,HQ.out,HB.out⟩
         case round=>
          obtain⟨k,z,hk,rfl,rfl,hst,hq,hbw⟩:=hrel;clear HQ HB;have HST:=hid hst;have HQ:=hid hq;have HB:=hid hbw;have l3:=A4 hq 2 _ rfl;have hgz:=Af hq;have HGZ:=hid hgz;have HK:=hid hk;clear hst hq hbw hk hgz;have e0:k<n3→wrap64 ((k:Int)+1)=(k:Int)+1:=by intro h;have:=HM3.out;unfold wrap64;omega
          have HE:=hid e0;clear e0;go_upto_region 11 with fail
          go_cut [58,59,60,61,62,63] (fun _s58 _s59 _s60 _s61 _s62 s63 wx=>∃ D:Bool,s63 = .bool D∧wr=wx∧Hid (D=true→k<n3∧z≤t)∧Hid (D=false→n3≤k∨t<z))
          case first=>
           by_cases hlt:k<n3
           ·have d1:(k:Int)<n3:=by omega
            by_cases hz:z≤t
            ·go_wp2_with fail;go_meet;exact⟨true,rfl,rfl,hid (fun _=>⟨hlt,hz⟩),hid (fun h=>absurd h (by decide))⟩
            ·go_wp2_with fail;go_meet;exact⟨false,rfl,rfl,hid (fun h=>absurd h (by decide)),hid (fun _=>.inr (by omega))⟩
           ·have d1:¬ (k:Int)<n3:=by omega
            go_wp2_with fail;go_meet;exact⟨false,rfl,rfl,hid (fun h=>absurd h (by decide)),hid (fun _=>.inl (Nat.le_of_not_lt hlt))⟩
          case rest=>
           obtain⟨D,rfl,hwx,hD1,hD2⟩:=hcut;subst hwx;cases D with
           | true=>
             obtain⟨hlt,hz⟩:=hD1.out rfl;clear hD1 hD2;have e0:=HE.out hlt;clear HE;obtain⟨y,hy⟩:∃ y,L.sg.l[k]?=some y:=⟨_,List.getElem?_eq_getElem (by rw[HN3.out];exact hlt)⟩;have hst:=HST.out;rw[EP hy hz] at hst;clear HST;have hz2:=hz;clear hz;rcases HR3.out.below HB.out with hnil | ⟨xb,off,hxb,hc⟩
             ·rw[hnil] at hy;simp at hy
             have z0:=hc k _ hy 0 _ rfl;rw[Nat.add_zero] at z0;have d1:(0:Int)≤k:=by omega
             have d2:(k:Int)<n3:=by omega
             have HX:=hid hst;have HLT:=hid hlt;clear hc hy hst hlt hz2;obtain⟨x,hx⟩:∃ x,L.sg.a=x:=⟨_,rfl⟩;have HXX:=hid hx;rw[hx] at l3 HQ hxb ⊢;subst hxb;clear hx;go_wp2_with fail;rw[← HXX.out];go_roundg (n3 - (k+1))
             case rel=>exact⟨k+1,wrap64 (wrap64 (z+1)+((y.1.size:Nat):Int)),by have:=HK.out;have:=HLT.out;omega,rfl,by go_num,by rw[Jt];exact HX.out,by rw[HXX.out];exact HQ.out,HB.out⟩
             case measure=>have:=HK.out;have:=HLT.out;omega
           | false=>
             have h:=EE (f:=(fun z (p:BA × Int)=>JZ z p.1)) HN3.out (hD2.out rfl);rw[HST.out] at h;subst h;clear hD1 hD2 HST HE l3 HK HGZ;go_wp2_with fail;go_loopg [5,9,10] n4 (fun g nn i _ wr=>∃(k:Nat) (z:Int),k+g=n4∧nn = .int .i64 z∧i = .int .i64 (k:Int)∧IU t (OF t) z (L.rt.l.drop k)=W4∧wr.heap[gl]?=some (.cells #[.slice L.se.a n1 L.se.c,.slice L.po.a n2 L.po.c,.slice L.sg.a n3 L.sg.c,.slice L.rt.a n4 L.rt.c] 27)∧Below w.heap.size w wr)
             case atStart=>exact⟨0,W3,by omega,rfl,rfl,HW4.out,HQ.out,HB.out⟩
             case round=>
              obtain⟨k,z,hk,rfl,rfl,hst,hq,hbw⟩:=hrel;clear HQ HB;have HST:=hid hst;have HQ:=hid hq;have HB:=hid hbw;have l4:=A4 hq 3 _ rfl;have hgz:=Af hq;have HGZ:=hid hgz;have HK:=hid hk;clear hst hq hbw hk hgz;have e0:k<n4→wrap64 ((k:Int)+1)=(k:Int)+1:=by intro h;have:=HM4.out;unfold wrap64;omega
              have HE:=hid e0;clear e0;go_upto_region 15 with fail
              go_cut [80,81,82,83,84,85] (fun _s80 _s81 _s82 _s83 _s84 s85 wx=>∃ D:Bool,s85 = .bool D∧wr=wx∧Hid (D=true→k<n4∧z≤t)∧Hid (D=false→n4≤k∨t<z))
              case first=>
               by_cases hlt:k<n4
               ·have d1:(k:Int)<n4:=by omega
                by_cases hz:z≤t
                ·go_wp2_with fail;go_meet;exact⟨true,rfl,rfl,hid (fun _=>⟨hlt,hz⟩),hid (fun h=>absurd h (by decide))⟩
                ·go_wp2_with fail;go_meet;exact⟨false,rfl,rfl,hid (fun h=>absurd h (by decide)),hid (fun _=>.inr (by omega))⟩
               ·have d1:¬ (k:Int)<n4:=by omega
                go_wp2_with fail;go_meet;exact⟨false,rfl,rfl,hid (fun h=>absurd h (by decide)),hid (fun _=>.inl (Nat.le_of_not_lt hlt))⟩
              case rest=>
               obtain⟨D,rfl,hwx,hD1,hD2⟩:=hcut;subst hwx;cases D with
               | true=>
                 obtain⟨hlt,hz⟩:=hD1.out rfl;clear hD1 hD2;have e0:=HE.out hlt;clear HE;obtain⟨y,hy⟩:∃ y,L.rt.l[k]?=some y:=⟨_,List.getElem?_eq_getElem (by rw[HN4.out];exact hlt)⟩;have hst:=HST.out;rw[EP hy hz] at hst;clear HST;have hz2:=hz;clear hz;rcases HR4.out.below HB.out with hnil | ⟨xb,off,hxb,hc⟩
                 ·rw[hnil] at hy;simp at hy
                 have z0:=hc k _ hy 0 _ rfl;have z1:=hc k _ hy 1 _ rfl;have z2:=hc k _ hy 2 _ rfl;have z3:=hc k _ hy 3 _ rfl;have z4:=hc k _ hy 4 _ rfl;have z5:=hc k _ hy 5 _ rfl;rw[Nat.add_zero] at z0;obtain⟨m1,hm1⟩:∃ n,y.pa.l.length=n:=⟨_,rfl⟩;obtain⟨m2,hm2⟩:∃ n,y.po.l.length=n:=⟨_,rfl⟩;obtain⟨m3,hm3⟩:∃ n,y.ov.l.length=n:=⟨_,rfl⟩;obtain⟨m4,hm4⟩:∃ n,y.fl.l.length=n:=⟨_,rfl⟩;rw[Ak hm1] at z2;rw[Ak hm2] at z3;rw[Ak hm3] at z4;rw[Ak hm4] at z5;have HMM:=hid (And.intro hm1 (And.intro hm2 (And.intro hm3 hm4)));clear hm1 hm2 hm3 hm4;have d1:(0:Int)≤k:=by omega
                 have d2:(k:Int)<n4:=by omega
                 have HX:=hid hst;have HLT:=hid hlt;clear hc hy hst hlt hz2;obtain⟨x,hx⟩:∃ x,L.rt.a=x:=⟨_,rfl⟩;have HXX:=hid hx;rw[hx] at l4 HQ hxb ⊢;subst hxb;clear hx;by_cases hv:wrap64 (wrap64 (wrap64 (wrap64 (z+1)+(y.nm.size:Int))+(m1:Int))+(m2:Int))≤t
                 ·have HV:=hid hv;go_wp2_with fail;rw[← HXX.out];go_roundg (n4 - (k+1))
                  case rel=>exact⟨k+1,wrap64 (wrap64 (wrap64 (wrap64 (wrap64 (wrap64 (z+1)+(y.nm.size:Int))+(m1:Int))+(m2:Int))+(m3:Int))+(m4:Int)),by have:=HK.out;have:=HLT.out;omega,rfl,by go_num,by rw[Q1 (t:=t) (z:=z) HMM.out (by have:=HV.out;omega)];exact HX.out,by rw[HXX.out];exact A5 (Ac wr _) HQ.out,A8 HB.out (Ac wr _)⟩
                  case measure=>have:=HK.out;have:=HLT.out;omega
                 ·have HV:=hid hv;go_wp2_with fail;rw[← HXX.out];go_roundg (n4 - (k+1))
                  case rel=>exact⟨k+1,wrap64 (wrap64 (wrap64 (wrap64 (z+1)+(y.nm.size:Int))+(m1:Int))+(m2:Int)),by have:=HK.out;have:=HLT.out;omega,rfl,by go_num,by rw[Ql (t:=t) (z:=z) HMM.out (by have:=HV.out;omega)];exact HX.out,by rw[HXX.out];exact A5 (Ac wr _) HQ.out,A8 HB.out (Ac wr _)⟩
                  case measure=>have:=HK.out;have:=HLT.out;omega
               | false=>
                 have h:=EE (f:=(OF t)) HN4.out (hD2.out rfl);rw[HST.out] at h;subst h;clear hD1 hD2 HST HE l4 HK HGZ;go_wp2_with fail;go_ret;exact⟨by rw[HW.out];rfl,HB.out⟩
end Go.Proofs.YtpohoannggdbjaaGreat
namespace Go.Proofs.YtpohoannggdbjaaGreat
open Lib (hid)
open Go.RowKit
def At:List (Int × Bool)→Int→Option Bool
 | [],_=>none
 | n :: l,p=>if n.1=p then some n.2 else At l p
theorem J0(l m:List (Int × Bool))(p:Int):At (l ++ m) p=(At l p).or (At m p):=by
 induction l with
 | nil=>rfl
 | cons n l ih=>
   show(if n.1=p then some n.2 else At (l ++ m) p)=(if n.1=p then some n.2 else At l p).or (At m p);by_cases h:n.1=p
   ·rw[if_pos h,if_pos h];rfl
   ·rw[if_neg h,if_neg h,ih]
theorem Lm{l:List (Int × Bool)}{p:Int}{v:Bool}(h:At l p=some v):(p,v)∈l:=by
 induction l with
 | nil=>cases h
 | cons n l ih=>
   by_cases hp:n.1=p
   ·have e:At (n :: l) p=some n.2:=if_pos hp;rw[e] at h;injection h with h
    subst h;subst hp;exact List.mem_cons_self
   ·have e:At (n :: l) p=At l p:=if_neg hp;rw[e] at h;exact List.mem_cons_of_mem _ (ih h)
theorem Ns{l:List (Int × Bool)}{p:Int}{v:Bool}(hn:(l.map (·.1)).Nodup)(h:(p,v)∈l):At l p=some v:=by
 induction l with
 | nil=>cases h
 | cons n l ih=>
   rw[List.map_cons,List.nodup_cons] at hn;by_cases hp:n.1=p
   ·have e:At (n :: l) p=some n.2:=if_pos hp;rw[e];rcases List.mem_cons.1 h with h | h
    ·rw[← h]
    ·exact absurd (List.mem_map.2 ⟨_,h,hp.symm⟩) hn.1
   ·have e:At (n :: l) p=At l p:=if_neg hp;rw[e];rcases List.mem_cons.1 h with h | h
    ·exact absurd (by rw[← h]) hp
    ·exact ih hn.2 h
def AJ(t u:List Int)(x y:Option Bool)(s:Int):Bool:=
 ((x.isSome && y.isSome) || (x.isSome && Av u s) || (y.isSome && Av t s)) && !((x.isSome == y.isSome) && (x.getD false == y.getD false))
def Gz:Option Bool→Nat
 | none=>0
 | some false=>1
 | some true=>2
def Rt.tr(r:Rt):List Int:=r.pa.l ++ r.ov.l
def Rt.nd(r:Rt):List (Int × Bool):=r.po.l ++ r.fl.l
def C7(a b:Rt):Nat→List (BA × Int)→List Bool
 | _,[]=>[]
 | k,p :: l=>AJ a.tr b.tr (At a.nd k) (At b.nd k) p.2 :: C7 a b (k+1) l
def AZ(L:AM)(a b:Rt):List Bool:=decide (a.sg=b.sg) ::(a.tr.map (Av b.tr) ++ C7 a b 0 L.po.l)
def Aw(L:AM)(a b:Rt):Bool:=(AZ L a b).any id
theorem EC{a b:Rt}:∀ {l:List (BA × Int)} {k j:Nat} {p:BA × Int},l[j]?=some p→(C7 a b k l)[j]?=some (AJ a.tr b.tr (At a.nd ((k+j:Nat):Int)) (At b.nd ((k+j:Nat):Int)) p.2):=by
 intro l
 induction l with
 | nil=>intro k j p h;simp at h
 | cons q l ih=>
   intro k j p h;cases j with
   | zero=>simp at h;subst h;rfl
   | succ j=>
     have:=ih (k:=k+1) (by simpa using h);rw[show k+1+j=k+(j+1) by omega] at this;exact this
theorem Gg(a b:Rt):∀(l:List (BA × Int)) (k:Nat),(C7 a b k l).length=l.length:=by
 intro l
 induction l with
 | nil=>intro k;rfl
 | cons p l ih=>intro k;show(C7 a b (k+1) l).length+1=_;rw[ih];rfl
end Go.Proofs.YtpohoannggdbjaaGreat
namespace Go.Proofs.YtpohoannggdbjaaGreat
open Lib (hid)
open Go.RowKit
set_option maxRecDepth 100000
def BS(L:AM)(a b:Int):Bool:=
 decide (0≤a∧0≤b∧a<L.rt.l.length∧b<L.rt.l.length∧a≠b) && (AQ L && (match L.rt.l[a.toNat]?,L.rt.l[b.toNat]? with | some x,some y=>Aw L x y | _,_=>false))
theorem MS{L:AM}{a b:Int}(h:¬ (0≤a∧0≤b∧a<L.rt.l.length∧b<L.rt.l.length∧a≠b)):BS L a b=false:=by unfold BS;rw[decide_eq_false h];rfl
theorem Rf{L:AM}{a b:Int}(h:AQ L=false):BS L a b=false:=by unfold BS;rw[h];simp
theorem Mp{L:AM}{i k:Nat}{x y:Rt}(hm:AQ L=true)(hi:L.rt.l[i]?=some x)(hk:L.rt.l[k]?=some y)(hne:i≠k):BS L i k=Aw L x y:=by
 have h1:=(List.getElem?_eq_some_iff.1 hi).1;have h2:=(List.getElem?_eq_some_iff.1 hk).1;unfold BS;rw[decide_eq_true (by omega),hm,Int.toNat_natCast,Int.toNat_natCast,hi,hk];rfl
theorem Ay{L:AM}(h:AQ L=true):L.se.l.length≤64∧L.po.l.length≤32∧L.sg.l.length≤32∧L.rt.l.length≤64:=by
 by_cases hs:L.se.l.length≤64∧L.po.l.length≤32∧L.sg.l.length≤32∧L.rt.l.length≤64
 ·exact hs
 ·rw[EI (Cw hs)] at h;cases h
end Go.Proofs.YtpohoannggdbjaaGreat
namespace Go.Proofs.YtpohoannggdbjaaGreat
open Lib (hid)
open Go.RowKit
theorem NP{l:List Int}{s y:Int}{k:Nat}(h:l[k]?=some y)(hs:Av (l.take k) s=false)(hy:y≠s):Av (l.take (k+1)) s=false:=by
 unfold Av at hs ⊢;rw[List.take_add_one,h,List.any_append,hs];simp[hy]
theorem M5{l:List Int}{s y:Int}{k:Nat}(h:l[k]?=some y)(hy:y=s):Av l s=true:=by
 unfold Av;rw[List.any_eq_true];exact⟨y,List.mem_of_getElem? h,decide_eq_true hy⟩
theorem Ld{l:List (Int × Bool)}{y:Int × Bool}{k:Nat}{p:Int}(h:l[k]?=some y):At (l.drop k) p=if y.1=p then some y.2 else At (l.drop (k+1)) p:=by
 have hk:k<l.length:=(List.getElem?_eq_some_iff.1 h).1;rw[List.drop_eq_getElem_cons hk,(List.getElem?_eq_some_iff.1 h).2];rfl
theorem LX{l:List (Int × Bool)}{k:Nat}{p:Int}(h:l.length=k):At (l.drop k) p=none:=by rw[List.drop_eq_nil_of_le (by omega)];rfl
attribute [local irreducible] Av At
set_option maxHeartbeats 1000000 in
theorem EJ(b:Bool)(x:Option Addr)(m c:Nat)(l:List Int)(s:Int)(w:World)(hB:Av l s=b)(hn:l.length=m)(hm:m≤9223372036854775807)(hl:AF 1 AO w x l) :
 Calls Tryz.prog 110 #[.slice x m c,.int .i64 s] w fun e w'=>e = .returned (.bool b)∧w=w':=by
 have HN:=hid hn;have HBB:=hid hB;clear hn hB;go_enter Tryz.func110,Tryz.ntmps110;go_wp2_with fail;go_loopg [5] m (fun g i wr=>∃ k:Nat,k+g=m∧i = .int .i64 (k:Int)∧Av (l.take k) s=false∧w=wr)
 case atStart=>exact⟨0,by omega,rfl,by unfold Av;rfl,rfl⟩
 case round=>
  obtain⟨k,hk,rfl,hst,rfl⟩:=hrel;have HST:=hid hst;clear hst;by_cases hlt:k<m
  ·obtain⟨y,hy⟩:∃ y,l[k]?=some y:=⟨_,List.getElem?_eq_getElem (by rw[HN.out];exact hlt)⟩;rcases hl with hnil | ⟨bb,off,rfl,hc⟩
   ·rw[hnil] at hy;simp at hy
   have z0:=hc k _ hy 0 _ rfl;rw[Nat.add_zero,Nat.mul_one] at z0;have d1:(0:Int)≤k:=by omega
   have d2:(k:Int)<m:=by omega
   have e1:wrap64 ((k:Int)+1)=(k:Int)+1:=by unfold wrap64;omega
   have HY:=hid hy;have HK:=hid hk;clear hc hy hk;by_cases hs:y=s
   ·have q1:(y == s)=true:=by simpa using hs
    have HF:Hid (b=true):=hid (HBB.out.symm.trans (M5 HY.out hs));clear hs;go_wp2_with fail;go_ret;exact⟨by rw[HF.out];rfl,rfl⟩
   ·have q1:(y == s)=false:=by simpa using hs
    have HT:=hid (NP HY.out HST.out hs);clear hs;go_wp2_with fail;go_roundg (m - (k+1))
    case rel=>exact⟨k+1,by have:=HK.out;omega,by go_num,HT.out,rfl⟩
    case measure=>have:=HK.out;omega
  ·have hkm:m=k:=by omega
   subst hkm;have HF:Hid (b=false):=hid (by have h:=HST.out;rw[List.take_of_length_le (by rw[HN.out];exact Nat.le_refl _)] at h;rw[← HBB.out,h]);go_wp2_with fail;go_ret;exact⟨by rw[HF.out];rfl,rfl⟩
attribute [local irreducible] Sl.v
set_option maxRecDepth 100000 in
set_option maxHeartbeats 2000000 in
theorem FR(z:Nat)(r:Rt)(p:Int)(w:World)(hz:Gz (At r.nd p)=z)(hr:Cq w r)(hlen:r.po.l.length+r.fl.l.length≤100000) :
 Calls Tryz.prog 111 #[.agg #[.string r.nm,.int .i64 r.sg,r.pa.v,r.po.v,r.ov.v,r.fl.v],.int .i64 p] w fun e w'=>e = .returned (.int .i64 (z:Int))∧Below w.heap.size w w':=by
 have HND:Hid (∀ W,Below w.heap.size w W→Calls Tryz.prog 70 #[.agg #[.string r.nm,.int .i64 r.sg,r.pa.v,r.po.v,r.ov.v,r.fl.v]] W fun e w'=>∃ a n c,e = .returned (.slice a n c)∧n=r.po.l.length+r.fl.l.length∧B8 2 Cz w' ⟨a,c,r.nd⟩∧Below W.heap.size W w'):=hid (fun W hb=>Dr r W (hr.below hb) hlen);obtain⟨m1,hm1⟩:∃ n,r.pa.l.length=n:=⟨_,rfl⟩;obtain⟨m2,hm2⟩:∃ n,r.po.l.length=n:=⟨_,rfl⟩;obtain⟨m3,hm3⟩:∃ n,r.ov.l.length=n:=⟨_,rfl⟩;obtain⟨m4,hm4⟩:∃ n,r.fl.l.length=n:=⟨_,rfl⟩;obtain⟨m,hm⟩:∃ m,m2+m4=m:=⟨_,rfl⟩;obtain⟨N,hN⟩:∃ N,r.nd=N:=⟨_,rfl⟩;have HNL:Hid (N.length=m):=hid (by rw[← hN,← hm,← hm2,← hm4];exact List.length_append);have HML:Hid (m≤100000):=hid (by omega);rw[hN,hm2,hm4,hm] at HND;rw[Ak hm1,Ak hm2,Ak hm3,Ak hm4] at HND ⊢;rw[hN] at hz;have HZ:=hid hz;clear hm1 hm2 hm3 hm4 hr hlen hz hN hm;go_enter Tryz.func111,Tryz.ntmps111;go_wp2_with fail;refine(HND.out _ (Ac w _)).mono ?_;rintro e w1 ⟨na,nn,nc,rfl,hn,hs,hb⟩;obtain rfl:m=nn:=hn.symm;have HS:=hid hs.row;have HB:=hid (A8 (Ac w _) hb);clear hs hb HND;go_wp2_with fail;go_loopg [6] m (fun g i wr=>∃ k:Nat,k+g=m∧i = .int .i64 (k:Int)∧At (N.drop k) p=At N p∧w1=wr)
 case atStart=>exact⟨0,by omega,rfl,rfl,rfl⟩
 case round=>
  obtain⟨k,hk,rfl,hst,rfl⟩:=hrel;have HST:=hid hst;clear hst;by_cases hlt:k<m
  ·obtain⟨⟨y0,y1⟩,hy⟩:∃ y,N[k]?=some y:=⟨_,List.getElem?_eq_getElem (by rw[HNL.out];exact hlt)⟩;have hrow:=HS.out
   try dsimp only at hrow
   rcases hrow with hnil | ⟨bb,off,rfl,hc⟩
   ·rw[hnil] at hy;simp at hy
   have z0:=hc k _ hy 0 _ rfl;have z1:=hc k _ hy 1 _ rfl;rw[Nat.add_zero] at z0;dsimp only at z0 z1;have hd:=Ld (p:=p) hy;rw[HST.out] at hd
   try dsimp only at hd
   have d1:(0:Int)≤k:=by omega
   have d2:(k:Int)<m:=by omega
   have e1:wrap64 ((k:Int)+1)=(k:Int)+1:=by have:=HML.out;unfold wrap64;omega
   have HK:=hid hk;clear hc hy hk;by_cases hs:y0=p
   ·rw[if_pos hs] at hd;have q1:(y0 == p)=true:=by simpa using hs
    have HZ2:=HZ.out;rw[hd] at HZ2;have HD:=hid HZ2;clear hs hd HZ2;cases y1 with
    | true=>
      go_wp2_with fail;go_ret;exact⟨by rw[← HD.out];rfl,HB.out⟩
    | false=>
      go_wp2_with fail;go_ret;exact⟨by rw[← HD.out];rfl,HB.out⟩
   ·rw[if_neg hs] at hd;have q1:(y0 == p)=false:=by simpa using hs
    have HD:=hid hd.symm;clear hs hd;go_wp2_with fail;go_roundg (m - (k+1))
    case rel=>exact⟨k+1,by have:=HK.out;omega,by go_num,HD.out,rfl⟩
    case measure=>have:=HK.out;omega
  ·have hkm:m=k:=by omega
   subst hkm;have HF:Hid (z=0):=hid (by rw[← HZ.out,← HST.out,LX HNL.out];rfl);go_wp2_with fail;go_ret;exact⟨by rw[HF.out];rfl,HB.out⟩
end Go.Proofs.YtpohoannggdbjaaGreat
namespace Go.Proofs.YtpohoannggdbjaaGreat
open Lib (hid)
open Go.RowKit
set_option maxRecDepth 100000
def DH(w:World)(r:Nat)(f:Int→Option Bool):Prop:=∃ es clock K,w.heap[r]?=some (.map es clock)∧es.toList.map (fun e=>(e.key,e.val))=K.map (fun(n:Int × Bool)=>(Value.int .i64 n.1,Value.bool n.2))∧(K.map (·.1)).Nodup∧∀ p,At K p=f p
theorem DH.below{w w':World}{r:Nat}{f:Int→Option Bool}(h:DH w r f)(hb:Below w.heap.size w w'):DH w' r f:=by
 obtain⟨es,clock,K,h1,h2⟩:=h;exact⟨es,clock,K,A5 hb h1,h2⟩
theorem R6{es:List MapEntry}{K:List (Int × Bool)}(h:es.map (fun e=>(e.key,e.val))=K.map (fun(n:Int × Bool)=>(Value.int .i64 n.1,Value.bool n.2))):∀ x∈es,MapKept.IsKey (.int .i64) x.key:=by
 intro x hx;have:(x.key,x.val)∈K.map (fun(n:Int × Bool)=>(Value.int .i64 n.1,Value.bool n.2)):=by rw[← h];exact List.mem_map.2 ⟨x,hx,rfl⟩
 obtain⟨s,_,hs⟩:=List.mem_map.1 this;injection hs with h1 h2
 rw[← h1];simp[MapKept.IsKey]
theorem GJ{l:List (Int × Bool)}{p:Int}(h:∀ v,(p,v) ∉ l):At l p=none:=by
 cases hn:At l p with
 | none=>rfl
 | some v=>exact absurd (Lm hn) (h v)
theorem Kj{es:List MapEntry}{K:List (Int × Bool)}{p:Int}(h:es.map (fun e=>(e.key,e.val))=K.map (fun(n:Int × Bool)=>(Value.int .i64 n.1,Value.bool n.2)))(hn:(K.map (·.1)).Nodup) :
 (At K p=none∧(∀ v,(p,v) ∉ K)∧Instr.findNow (.int .i64) (.int .i64 p) es 0=some none)∨∃ j b e,At K p=some b∧K[j]?=some (p,b)∧es[j]?=some e∧e.key = .int .i64 p∧e.val = .bool b∧Instr.findNow (.int .i64) (.int .i64 p) es 0=some (some (j,.bool b)):=by
 rcases MapKept.findNow_spec (d:=.int .i64) (k:=.int .i64 p) (by simp[MapKept.IsKey]) es 0 (R6 h) with ⟨h1,h2⟩ | ⟨j,e,h1,h2,h3⟩
 ·have h4:∀ v,(p,v) ∉ K:=by
   intro v hv;have:(Value.int .i64 p,Value.bool v)∈es.map (fun e=>(e.key,e.val)):=by rw[h];exact List.mem_map.2 ⟨(p,v),hv,rfl⟩
   obtain⟨x,hx,he⟩:=List.mem_map.1 this;injection he with he1 he2
   exact h2 x hx he1
  exact .inl ⟨GJ h4,h4,h1⟩
 ·have h5:(es.map (fun e=>(e.key,e.val)))[j]?=some (e.key,e.val):=by rw[List.getElem?_map,h2];rfl
  rw[h,List.getElem?_map] at h5;cases hk:K[j]? with
  | none=>rw[hk] at h5;cases h5
  | some n=>
    rw[hk] at h5;obtain⟨n1,n2⟩:=n;injection h5 with h5
    injection h5 with h6 h7
    rw[h3] at h6;injection h6 with _ h6
    dsimp only at h6 h7;subst h6;refine .inr ⟨j,n2,e,Ns hn (List.mem_of_getElem? hk),hk,h2,h3,h7.symm,?_⟩;rw[h1,Nat.zero_add,← h7]
theorem Lo:(Tryz.prog.info? 4).map (fun i=>(i.zero,i.size,i.bytes))=some (some (.bool false),1,1):=by kernel_rfl
theorem FM{w:World}{r:Nat}{f:Int→Option Bool}{p:Int}(h:DH w r f):(Instr.lookup 166 (.map (some r)) (.int .i64 p) true).run Tryz.prog w = .ok (.tuple #[.bool ((f p).getD false),.bool (f p).isSome]) w:=by
 obtain⟨es,clock,K,h1,h2,h3,h4⟩:=h;have hc:(Instr.checkKey es.isEmpty 10000 3 (.int .i64 p)).run Tryz.prog w = .ok () w:=MapKept.run_checkKey (k:=.int .i64 p) Tryz.underlying3 (by simp[MapKept.IsKey]) es.isEmpty 9999;rw[← h4 p];rcases Kj (p:=p) h2 h3 with ⟨g1,_,g2⟩ | ⟨j,b,e,g1,_,_,_,_,g2⟩
 ·obtain⟨i0,hi,hz0,_,_⟩:=info_parts Lo;have hz:(zeroValue 4).run Tryz.prog w = .ok (.bool false) w:=by simp[zeroValue,typeInfo,hi,hz0,Result.andThen]
  rw[g1];simp[Instr.lookup,run_underlying Tryz.underlying166,MapKept.run_getObj_map h1,hc,MapKept.run_findKey Tryz.underlying3 g2,hz,Result.andThen]
 ·rw[g1];simp[Instr.lookup,run_underlying Tryz.underlying166,MapKept.run_getObj_map h1,hc,MapKept.run_findKey Tryz.underlying3 g2,Result.andThen]
theorem Mx:∀(K:List (Int × Bool)) (j:Nat) (p q:Int) (b v:Bool),K[j]?=some (p,b)→(K.map (·.1)).Nodup→At (K.set j (p,v)) q=if q=p then some v else At K q:=by
 intro K
 induction K with
 | nil=>intro j p q b v h;simp at h
 | cons n K ih=>
   intro j p q b v h hn;rw[List.map_cons,List.nodup_cons] at hn;cases j with
   | zero=>
     simp at h;subst h;rw[List.set_cons_zero];show(if p=q then some v else At K q)=if q=p then some v else (if p=q then some b else At K q)
     by_cases hq:q=p
     ·rw[if_pos hq,if_pos hq.symm]
     ·rw[if_neg hq,if_neg (fun e=>hq e.symm),if_neg (fun e=>hq e.symm)]
   | succ j=>
     have h':K[j]?=some (p,b):=by simpa using h
     rw[List.set_cons_succ];show(if n.1=q then some n.2 else At (K.set j (p,v)) q)=if q=p then some v else (if n.1=q then some n.2 else At K q)
     rw[ih j p q b v h' hn.2];by_cases hq:q=p
     ·subst hq;have hne:n.1≠q:=fun e=>hn.1 (List.mem_map.2 ⟨(q,b),List.mem_of_getElem? h',e.symm⟩)
      rw[if_pos rfl,if_neg hne,if_pos rfl]
     ·rw[if_neg hq,if_neg hq]
theorem KZ(K:List (Int × Bool))(p q:Int)(v:Bool)(h:∀ b,(p,b) ∉ K):At (K ++ [(p,v)]) q=if q=p then some v else At K q:=by
 rw[J0];show(At K q).or (if p=q then some v else none)=_;by_cases hq:q=p
 ·subst hq;rw[GJ h];simp
 ·rw[if_neg hq,if_neg (fun e=>hq e.symm)];cases At K q<;>rfl
theorem Jr{w:World}{r:Nat}{f:Int→Option Bool}{p:Int}(v:Bool)(h:DH w r f):∃ w',(Instr.mapUpdate 166 (.map (some r)) (.int .i64 p) (.bool v)).run Tryz.prog w = .ok () w'∧DH w' r (fun q=>if q=p then some v else f q)∧Ag r w w':=by
 obtain⟨es,clock,K,h1,h2,h3,h4⟩:=h;have hc:(Instr.checkKey false 10000 3 (.int .i64 p)).run Tryz.prog w = .ok () w:=MapKept.run_checkKey (k:=.int .i64 p) Tryz.underlying3 (by simp[MapKept.IsKey]) false 9999;rcases Kj (p:=p) h2 h3 with ⟨g1,g0,g2⟩ | ⟨j,b,e,g1,gk,ge,gek,gev,g2⟩
 ·refine⟨{ w with heap:=w.heap.setIfInBounds r (.map (es.push { key:=.int .i64 p,val:=.bool v,born:=clock }) (clock+1)) },?_,?_,?_⟩
  ·simp[Instr.mapUpdate,run_underlying Tryz.underlying166,MapKept.run_getObj_map h1,hc,MapKept.run_findKey Tryz.underlying3 g2,MapKept.run_setObj_map _ h1,Result.andThen]
  ·refine⟨_,_,K ++ [(p,v)],(MapKept.heap_set h1).1,by rw[Array.toList_push,List.map_append,h2,List.map_append];rfl,?_,fun q=>?_⟩
   ·rw[List.map_append];refine List.nodup_append.2 ⟨h3,by simp,?_⟩;intro a ha c hc2;simp at hc2;subst hc2;intro e;subst e;obtain⟨n,hn,hh⟩:=List.mem_map.1 ha;exact g0 n.2 (by rw[← hh];exact hn)
   ·rw[KZ K p q v g0,h4]
  ·exact⟨rfl,rfl,rfl,by simp,fun k _ hk=>(MapKept.heap_set h1).2 k hk⟩
 ·have hj:es[j]?=some e:=by simpa using ge
  refine⟨{ w with heap:=w.heap.setIfInBounds r (.map (es.modify j fun e'=>{ e' with key:=.int .i64 p,val:=.bool v }) clock) },?_,?_,?_⟩
  ·simp[Instr.mapUpdate,run_underlying Tryz.underlying166,MapKept.run_getObj_map h1,hc,MapKept.run_findKey Tryz.underlying3 g2,hj,gek,MapKept.run_keyThatStays (d:=.int .i64) (k:=.int .i64 p) (by simp[MapKept.IsKey]),MapKept.run_setObj_map _ h1,Result.andThen]
  ·refine⟨_,_,K.set j (p,v),(MapKept.heap_set h1).1,?_,?_,fun q=>?_⟩
   ·rw[Array.toList_modify];apply List.ext_getElem?
    intro i;have h5:(es.toList.map (fun e=>(e.key,e.val)))[i]?=(K.map (fun(n:Int × Bool)=>(Value.int .i64 n.1,Value.bool n.2)))[i]?:=by rw[h2]
    rw[List.getElem?_map,List.getElem?_map] at h5;rw[List.getElem?_map,List.getElem?_map,List.getElem?_modify,List.getElem?_set];by_cases hij:j=i
    ·subst hij;have hlt:j<K.length:=(List.getElem?_eq_some_iff.1 gk).1;rw[if_pos rfl,if_pos hlt,ge];simp
    ·rw[if_neg hij];simp only[hij,if_false];rw[← h5];simp
   ·have:(K.set j (p,v)).map (·.1)=K.map (·.1):=by
     rw[List.map_set];apply List.ext_getElem?
     intro i;rw[List.getElem?_set];by_cases hij:j=i
     ·subst hij;have hlt:j<(K.map (·.1)).length:=by rw[List.length_map];exact(List.getElem?_eq_some_iff.1 gk).1
      rw[if_pos rfl,if_pos hlt,List.getElem?_map,gk];rfl
     ·rw[if_neg hij]
    rw[this];exact h3
   ·rw[Mx K j p q b v gk h3,h4]
  ·exact⟨rfl,rfl,rfl,by simp,fun k _ hk=>(MapKept.heap_set h1).2 k hk⟩
end Go.Proofs.YtpohoannggdbjaaGreat
namespace Go.Proofs.YtpohoannggdbjaaGreat
open Lib (hid)
open Go.RowKit Go.Shelf
set_option maxRecDepth 100000
attribute [local go_sem] Oper.semAt_some
theorem Hs(a:Option Addr)(n c:Nat)(w:World):Calls Tryz.prog 112 #[.slice a n c] w fun e w'=>e = .returned (.func (.func 113) #[] #[.pointer (some ⟨w.heap.size,0,none⟩)])∧w'=w.alloc (.cells #[.slice a n c] 50):=by
 go_enter Tryz.func112,Tryz.ntmps112;go_wp2_with fail;go_ret;exact⟨rfl,rfl⟩
def LL(l:List (Int × Bool)):List (Nat × (Int × Bool)):=(l.zipIdx.map fun p=>(p.2,p.1)).reverse
theorem Ks(l:List (Int × Bool)):(LL l).length=l.length:=by simp[LL]
theorem Pn{l:List (Int × Bool)}{q t:Nat}{y:Int × Bool}(ht:l.length=q+1+t)(h:l[t]?=some y):(LL l)[q]?=some (t,y):=by
 unfold LL;have hlen:(l.zipIdx.map fun p=>((p.2,p.1):Nat × (Int × Bool))).length=l.length:=by simp
 rw[List.getElem?_reverse (by rw[hlen];omega),hlen,show l.length - 1 - q=t by omega,List.getElem?_map,List.getElem?_zipIdx,h];simp
def Q0(m:Nat × (Int × Bool)):Array Value := #[.int .i64 (m.1:Int),.agg #[.int .i64 m.2.1,.bool m.2.2]]
def LP(X Y:World):Prop:=∀(k:Nat) (cs:Array Value) (t:TypeId) (fr:Nat × Nat),X.heap[k]?=some (Obj.cells cs t fr)→Y.heap[k]?=some (Obj.cells cs t fr)
theorem S4{X Y Z:World}(h:LP X Y)(k:LP Y Z):LP X Z:=fun b cs t fr hb=>k b cs t fr (h b cs t fr hb)
theorem RG(W:World)(l:Nat)(o o':Obj)(hl:W.heap[l]?=some o)(ho:o.isCells=false):LP W (W.putObj l o'):=by
 intro k cs t fr hk;have hne:k≠l:=by
  intro e;subst e;rw[hl] at hk;injection hk with hk
  rw[hk] at ho;cases ho
 rw[World.putObj_heap_other hne];exact hk
theorem CC{X Y:World}(h:Below X.heap.size X Y):LP X Y:=fun _ _ _ _ hk=>A5 h hk
theorem N0{w:World}{b i:Nat}{v:Value}(h:w.cell? ⟨b,i,none⟩=some v):∃ cs t fr,w.heap[b]?=some (.cells cs t fr):=by
 unfold World.cell? at h;cases hh:w.heap[b]? with
 | none=>simp[hh] at h
 | some o=>
   cases o with
   | cells cs t fr=>exact⟨cs,t,fr,rfl⟩
   | _=>simp[hh] at h
theorem AF.kpC{α:Type}{sz:Nat}{f:α→List Value}{w w':World}{a:Option Addr}{l:List α}(h:AF sz f w a l)(k:LP w w'):AF sz f w' a l:=by
 refine h.imp id ?_;rintro⟨b,off,h1,h2⟩;refine⟨b,off,h1,fun i c hi j v hv=>?_⟩;have h3:=h2 i c hi j v hv;obtain⟨cs,t,fr,h4⟩:=N0 h3;rw[World.cell?_of_block (w:=w) (a:=⟨b,off+i*sz+j,none⟩) ((k b cs t fr h4).trans h4.symm)];exact h3
attribute [local irreducible] LL
set_option maxHeartbeats 2000000 in
theorem Jv(n:Nat)(hn:2≤n)(Bx m c:Nat)(a:Option Addr)(l:List (Int × Bool))(w:World)(hl:l.length=m)(hm:m≤100000)(hrow:AF 2 Cz w a l)(hBx:w.heap[Bx]?=some (.cells #[.slice a m c] 50)) :
 SeqStopsK Fence.wide n Tryz.prog 113 #[.pointer (some ⟨Bx,0,none⟩)] Q0 LP (fun ys=>ys=LL l) (fun _=>True) m w:=fun lp J Jx W hW _ _ hY h0=>by
 have hqW:=A5 hW hBx;have hrW:=hrow.below hW;have HL:=hid hl;have HM:=hid hm;have E3:Hid (wrap64 ((m:Int) - 1)=(m:Int) - 1):=hid (by unfold wrap64;omega);have c0:=A4 hqW 0 _ rfl;have e3:=E3.out;clear hl hm hrow hBx hW;refine callsIn_of_wp Tryz.func113 rfl trivial ?_ rfl;simp only[Tryz.ntmps113,List.size_toArray,List.length_cons,List.length_nil,Nat.reduceAdd,Nat.reduceSub,Array.replicate_succ,Array.replicate_zero,List.push_toArray,List.append_toArray,List.nil_append,List.cons_append];gi_wp2;clear e3 c0;gi_loopw [3] (fun i wr=>∃(q:Nat) (iv:Int),q≤m∧i = .int .i64 iv∧iv=(m:Int) - 1 - (q:Int)∧J ((LL l).take q) wr∧wr.heap[Bx]?=some (.cells #[.slice a m c] 50)∧AF 2 Cz wr a l) (fun i _=>(intOf i+1).toNat)
 case atStart=>exact⟨0,_,Nat.zero_le _,rfl,by first | (rw[E3.out];omega) | omega,by rw[List.take_zero];exact h0,hqW,hrW⟩
 case round=>
  obtain⟨q,iv,hq,rfl,hiv,hJ,hbx,hr⟩:=hrel;have HBX:=hid hbx;have HR:=hid hr;by_cases hlt:q<m
  ·obtain⟨t,ht⟩:∃ t,m=q+1+t:=⟨m - (q+1),by omega⟩;have hit:iv=(t:Int):=by omega
   subst hit;obtain⟨y,hy⟩:∃ y,l[t]?=some y:=⟨_,List.getElem?_eq_getElem (by rw[HL.out];omega)⟩;have hbk:=Pn (by rw[HL.out];exact ht) hy;obtain⟨fn,tmps,assign,body,hy2,hR⟩:=hY ((LL l).take q) (t,y) wr hJ (by rw[List.length_take,Ks,HL.out];omega);obtain⟨y0,y1⟩:=y;dsimp only[Q0] at hy2;rcases hr with hnil | ⟨xb,off,hxb,hc⟩
   ·rw[hnil] at hy;simp at hy
   subst hxb;have z0:=hc t _ hy 0 _ rfl;have z1:=hc t _ hy 1 _ rfl;rw[Nat.add_zero] at z0;dsimp only at z0 z1;have c0:=A4 hbx 0 _ rfl;have d1:(0:Int)≤(t:Int):=by omega
   have d2:(t:Int)<(m:Int):=by omega
   have HT:=hid ht;have HQ:=hid hq;have HLT:=hid hlt;have HJN:Hid (∀ V,J ((LL l).take q ++ [(t,(y0,y1))]) V→J ((LL l).take (q+1)) V):=hid (fun V h=>by rw[List.take_add_one,hbk];exact h);have E5:Hid (wrap64 ((t:Int) - 1)=(t:Int) - 1):=hid (by have:=HM.out;unfold wrap64;omega);clear hc hy hbk hbx ht hq hlt hJ hiv;gi_wp2;refine⟨fun _=>by omega,?_⟩;refine hR.mono ?_;rintro e W' (⟨rfl,hJ',hk'⟩ | ⟨rfl,hJx⟩)
   ·have hb':=hk' _ _ _ _ HBX.out;have hr':=HR.out.kpC hk';have e5:=E5.out;gi_wp2;go_roundw
    case rel=>exact⟨q+1,(t:Int) - 1,by have:=HLT.out;omega,by first | rfl | go_num,by have:=HT.out;omega,HJN.out _ hJ',hb',hr'⟩
    case measure=>first | (simp[intOf,E5.out];done) | (simp[intOf,E5.out];omega)
   ·gi_wp2;refine bodyPost_ret (results_none rfl _ _ _) rfl ?_;exact⟨⟨_,rfl⟩,.inr ⟨_,trivial,hJx⟩⟩
  ·have hqm:q=m:=by omega
   have hit:iv = -1:=by omega
   subst hit;subst hqm;have hJ2:=hJ;rw[List.take_of_length_le (by rw[Ks,HL.out];exact Nat.le_refl _)] at hJ2;clear hbx hr hiv hq hlt;gi_wp2;go_end0;exact⟨⟨_,rfl⟩,.inl ⟨_,rfl,hJ2⟩⟩
end Go.Proofs.YtpohoannggdbjaaGreat
