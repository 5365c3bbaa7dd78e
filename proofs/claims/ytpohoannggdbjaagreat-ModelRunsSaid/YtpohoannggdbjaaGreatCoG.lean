/- Layer 06: the iterator over the reasons of two routes: its contract. -/
import Derived.Test.YtpohoannggdbjaaGreatCoF
import Derived.Test.YtpohoannggdbjaaGreatCoC
import Derived.Deep.RegionHeld3
namespace Go.Proofs.YtpohoannggdbjaaGreat
open Lib (hid)
open Go.RowKit Go.Shelf
set_option maxRecDepth 100000
attribute [local go_sem] Oper.semAt_some
structure NC(X Y:World):Prop where
 size:X.heap.size≤Y.heap.size
 same:∀(k:Nat) (o:Obj),X.heap[k]?=some o→(o.isCells=true∨o.isWalk=true)→Y.heap[k]?=some o
theorem NC.t{X Y Z:World}(h:NC X Y)(k:NC Y Z):NC X Z:=⟨Nat.le_trans h.size k.size,fun b o hb ho=>k.same b o (h.same b o hb ho) ho⟩
theorem Ru(W:World)(l:Nat)(o o':Obj)(hl:W.heap[l]?=some o)(ho:o.isCells=false)(hw:o.isWalk=false):NC W (W.putObj l o'):=by
 refine⟨by simp,fun k p hk hp=>?_⟩;have hne:k≠l:=by
  intro e;subst e;rw[hl] at hk;injection hk with hk
  subst hk;rw[ho,hw] at hp;rcases hp with hp | hp<;>cases hp
 rw[World.putObj_heap_other hne];exact hk
theorem Lf{X Y:World}(h:Below X.heap.size X Y):NC X Y:=⟨h.size,fun _ _ hk _=>A5 h hk⟩
theorem NC.c{X Y:World}(h:NC X Y):LP X Y:=fun k _ _ _ hk=>h.same k _ hk (.inl rfl)
theorem B8.kpC{α:Type}{sz:Nat}{f:α→List Value}{w w':World}{s:Sl α}(h:B8 sz f w s)(k:LP w w'):B8 sz f w' s:=⟨h.row.kpC k,h.len,h.cap,h.capNil⟩
theorem Cq.kpC{w w':World}{r:Rt}(h:Cq w r)(k:LP w w'):Cq w' r:=⟨h.nm,h.pa.kpC k,h.po.kpC k,h.ov.kpC k,h.fl.kpC k⟩
theorem DH.kpA{w w':World}{r:Nat}{f:Int→Option Bool}(h:DH w r f)(k:NC w w'):DH w' r f:=by
 obtain⟨es,clock,K,h1,h2⟩:=h;exact⟨es,clock,K,k.same _ _ h1 (.inr rfl),h2⟩
theorem Se{L:AM}{a b:Rt}{D:Bool}(hD:decide (a.sg=b.sg)=D):[D] <+: AZ L a b:=⟨a.tr.map (Av b.tr) ++ C7 a b 0 L.po.l,by unfold AZ;rw[hD];rfl⟩
theorem RH{L:AM}{a b:Rt}{D:Bool}{k:Nat}{x:Int}{v:Bool}(hD:decide (a.sg=b.sg)=D)(hx:a.tr[k]?=some x)(hv:Av b.tr x=v):(D ::(a.tr.take k).map (Av b.tr) ++ [v]) <+: AZ L a b:=by
 refine⟨(a.tr.drop (k+1)).map (Av b.tr) ++ C7 a b 0 L.po.l,?_⟩;unfold AZ;rw[hD];have h:(a.tr.take k).map (Av b.tr) ++ [v]=(a.tr.take (k+1)).map (Av b.tr):=by rw[List.take_add_one,hx,List.map_append,← hv];rfl
 show D ::((a.tr.take k).map (Av b.tr) ++ [v] ++ ((a.tr.drop (k+1)).map (Av b.tr) ++ C7 a b 0 L.po.l))=D ::(a.tr.map (Av b.tr) ++ C7 a b 0 L.po.l);rw[h,← List.append_assoc,← List.map_append,List.take_append_drop]
theorem Dt{L:AM}{a b:Rt}{D:Bool}{k:Nat}{B:Bool}(hD:decide (a.sg=b.sg)=D)(hp:(C7 a b 0 L.po.l)[k]?=some B):(D ::(a.tr.map (Av b.tr) ++ (C7 a b 0 L.po.l).take k) ++ [B]) <+: AZ L a b:=by
 refine⟨(C7 a b 0 L.po.l).drop (k+1),?_⟩;unfold AZ;rw[hD];have h:(C7 a b 0 L.po.l).take k ++ [B]=(C7 a b 0 L.po.l).take (k+1):=by rw[List.take_add_one,hp];rfl
 show D ::((a.tr.map (Av b.tr) ++ (C7 a b 0 L.po.l).take k) ++ [B] ++ (C7 a b 0 L.po.l).drop (k+1))=D ::(a.tr.map (Av b.tr) ++ C7 a b 0 L.po.l);rw[List.append_assoc (a.tr.map (Av b.tr)),h,List.append_assoc,List.take_append_drop]
structure JG(V:World)(Ba Bb Bl:Nat)(L:AM)(a b:Rt)(n2:Nat)(P1 P3 P4:Value)(A B:Array Value):Prop where
 qa:V.heap[Ba]?=some (.cells A 52)
 qb:V.heap[Bb]?=some (.cells B 52)
 ql:V.heap[Bl]?=some (.cells #[P1,.slice L.po.a n2 L.po.c,P3,P4] 27)
 po:AF 2 LQ V L.po.a L.po.l
 a:Cq V a
 b:Cq V b
theorem JG.kpC{V V':World}{Ba Bb Bl:Nat}{L:AM}{a b:Rt}{n2:Nat}{P1 P3 P4:Value}{A B:Array Value}(h:JG V Ba Bb Bl L a b n2 P1 P3 P4 A B)(k:LP V V'):JG V' Ba Bb Bl L a b n2 P1 P3 P4 A B:=⟨k _ _ _ _ h.qa,k _ _ _ _ h.qb,k _ _ _ _ h.ql,h.po.kpC k,h.a.kpC k,h.b.kpC k⟩
attribute [local irreducible] Av At Sl.v AJ Rt.tr Rt.nd
set_option maxHeartbeats 4000000 in
theorem Gl(n:Nat)(hn:3≤n)(Ba Bb Bl:Nat)(L:AM)(a b:Rt)(n2:Nat)(P1 P3 P4:Value)(a1 a2 a3 a4 b1 b2 b3 b4:Nat)(w:World)
 (hR0:JG w Ba Bb Bl L a b n2 P1 P3 P4 #[.string a.nm,.int .i64 a.sg,.slice a.pa.a a1 a.pa.c,.slice a.po.a a2 a.po.c,.slice a.ov.a a3 a.ov.c,.slice a.fl.a a4 a.fl.c] #[.string b.nm,.int .i64 b.sg,.slice b.pa.a b1 b.pa.c,.slice b.po.a b2 b.po.c,.slice b.ov.a b3 b.ov.c,.slice b.fl.a b4 b.fl.c])
 (hl:L.po.l.length=n2) (hn2:n2≤100000) (ha1:a.pa.l.length=a1) (ha2:a.po.l.length=a2) (ha3:a.ov.l.length=a3) (ha4:a.fl.l.length=a4) (hb1:b.pa.l.length=b1) (hb2:b.po.l.length=b2) (hb3:b.ov.l.length=b3) (hb4:b.fl.l.length=b4)
 (hla:a1+a3≤100000∧a2+a4≤100000) (hlb:b1+b3≤100000∧b2+b4≤100000) :
 SeqStopsK Fence.wide n Tryz.prog 107 #[.pointer (some ⟨Ba,0,none⟩),.pointer (some ⟨Bb,0,none⟩),.pointer (some ⟨Bl,0,none⟩)] (fun m:Bool => #[.bool m]) NC (fun ys=>ys=AZ L a b) (fun pre=>pre <+: AZ L a b) (AZ L a b).length w:=fun lp J Jx W hW hAb hAbx hY h0=>by
 have HR:=hid (hR0.kpC (CC hW));have HN:=hid hl;have HN2:=hid hn2;have HAb:=hid hAb;have HY:=hid hY;have H0:=hid h0;have hW0:=hW;clear hR0 hl hn2 hAb hAbx hY h0;obtain⟨D,hD⟩:∃ D,decide (a.sg=b.sg)=D:=⟨_,rfl⟩;have hq:(a.sg == b.sg)=D:=by rw[← hD];rfl
 have HD:=hid hD;have x1:=A4 HR.out.qa 1 _ rfl;have y1:=A4 HR.out.qb 1 _ rfl;clear hD hW hW0;obtain⟨ma,hma⟩:∃ m,a1+a3=m:=⟨_,rfl⟩;obtain⟨mb,hmb⟩:∃ m,b1+b3=m:=⟨_,rfl⟩;have HA:=hid (And.intro ha1 (And.intro ha2 (And.intro ha3 (And.intro ha4 (And.intro hla.1 (And.intro hla.2 hma))))));have HB:=hid (And.intro hb1 (And.intro hb2 (And.intro hb3 (And.intro hb4 (And.intro hlb.1 (And.intro hlb.2 hmb))))));have HTA:Hid (a.tr.length=ma∧ma≤100000):=hid (by unfold Rt.tr;rw[List.length_append];omega);have HTB:Hid (b.tr.length=mb∧mb≤100000):=hid (by unfold Rt.tr;rw[List.length_append];omega);clear ha1 ha2 ha3 ha4 hb1 hb2 hb3 hb4 hla hlb hma hmb;have HPF:Hid ([D] <+: AZ L a b):=hid (Se HD.out);refine callsIn_wide.2 ?_;go_enter Tryz.func107,Tryz.ntmps107;go_upto_region 0 with fail
 refine(wpIn_wide (n:=n)).1 ?_;obtain⟨fn,tmps,assign,body,hy,hRd⟩:=HY.out [] D W H0.out (by unfold AZ;simp);gi_wp2;refine⟨fun _=>by omega,?_⟩;refine hRd.mono ?_;clear hRd hy;rintro e W9 (⟨rfl,hJ',hk'⟩ | ⟨rfl,hJx⟩);rotate_left
 ·gi_wp2;go_wp2_with fail;refine bodyPost_ret (results_none rfl _ _ _) rfl ?_;exact⟨⟨_,rfl⟩,.inr ⟨_,HPF.out,hJx⟩⟩
 have hr:=HR.out.kpC hk'.c;clear HR x1 y1 hq hk';have HR:=hid hr;have HJ:Hid (J [D] W9):=hid hJ';clear hr hJ';gi_wp2;go_upto_region 1 with fail
 have HS:Hid (∀ w',Below W9.heap.size W9 w'→(w'.cell? ⟨Ba,0,none⟩=some (.string a.nm)∧w'.cell? ⟨Ba,1,none⟩=some (.int .i64 a.sg)∧w'.cell? ⟨Ba,2,none⟩=some (.slice a.pa.a a1 a.pa.c)∧w'.cell? ⟨Ba,3,none⟩=some (.slice a.po.a a2 a.po.c)∧w'.cell? ⟨Ba,4,none⟩=some (.slice a.ov.a a3 a.ov.c)∧w'.cell? ⟨Ba,5,none⟩=some (.slice a.fl.a a4 a.fl.c))∧(w'.cell? ⟨Bb,0,none⟩=some (.string b.nm)∧w'.cell? ⟨Bb,1,none⟩=some (.int .i64 b.sg)∧w'.cell? ⟨Bb,2,none⟩=some (.slice b.pa.a b1 b.pa.c)∧w'.cell? ⟨Bb,3,none⟩=some (.slice b.po.a b2 b.po.c)∧w'.cell? ⟨Bb,4,none⟩=some (.slice b.ov.a b3 b.ov.c)∧w'.cell? ⟨Bb,5,none⟩=some (.slice b.fl.a b4 b.fl.c))):=hid (fun w' hw'=>by
  have q:=HR.out.kpC (CC hw');exact⟨⟨A4 q.qa 0 _ rfl,A4 q.qa 1 _ rfl,A4 q.qa 2 _ rfl,A4 q.qa 3 _ rfl,A4 q.qa 4 _ rfl,A4 q.qa 5 _ rfl⟩,⟨A4 q.qb 0 _ rfl,A4 q.qb 1 _ rfl,A4 q.qb 2 _ rfl,A4 q.qb 3 _ rfl,A4 q.qb 4 _ rfl,A4 q.qb 5 _ rfl⟩⟩)
 have TA:Hid (∀ V,Below W9.heap.size W9 V→Calls Tryz.prog 29 #[.agg #[.string a.nm,.int .i64 a.sg,.slice a.pa.a a1 a.pa.c,.slice a.po.a a2 a.po.c,.slice a.ov.a a3 a.ov.c,.slice a.fl.a a4 a.fl.c]] V fun e w'=>∃ x n c,e = .returned (.slice x n c)∧n=ma∧B8 1 AO w' ⟨x,c,a.tr⟩∧Below V.heap.size V w'):=hid (fun V hV=>by
  have h:=Gd a V (HR.out.a.below hV) (by have:=HA.out;omega);rw[Ak HA.out.1,Ak HA.out.2.1,Ak HA.out.2.2.1,Ak HA.out.2.2.2.1,HA.out.1,HA.out.2.2.1,HA.out.2.2.2.2.2.2] at h;unfold Rt.tr;exact h)
 have TB:Hid (∀ V,Below W9.heap.size W9 V→Calls Tryz.prog 29 #[.agg #[.string b.nm,.int .i64 b.sg,.slice b.pa.a b1 b.pa.c,.slice b.po.a b2 b.po.c,.slice b.ov.a b3 b.ov.c,.slice b.fl.a b4 b.fl.c]] V fun e w'=>∃ x n c,e = .returned (.slice x n c)∧n=mb∧B8 1 AO w' ⟨x,c,b.tr⟩∧Below V.heap.size V w'):=hid (fun V hV=>by
  have h:=Gd b V (HR.out.b.below hV) (by have:=HB.out;omega);rw[Ak HB.out.1,Ak HB.out.2.1,Ak HB.out.2.2.1,Ak HB.out.2.2.2.1,HB.out.1,HB.out.2.2.1,HB.out.2.2.2.2.2.2] at h;unfold Rt.tr;exact h)
 go_region_held3 (fun w'=>(w'.cell? ⟨Ba,0,none⟩=some (.string a.nm)∧w'.cell? ⟨Ba,1,none⟩=some (.int .i64 a.sg)∧w'.cell? ⟨Ba,2,none⟩=some (.slice a.pa.a a1 a.pa.c)∧w'.cell? ⟨Ba,3,none⟩=some (.slice a.po.a a2 a.po.c)∧w'.cell? ⟨Ba,4,none⟩=some (.slice a.ov.a a3 a.ov.c)∧w'.cell? ⟨Ba,5,none⟩=some (.slice a.fl.a a4 a.fl.c))∧(w'.cell? ⟨Bb,0,none⟩=some (.string b.nm)∧w'.cell? ⟨Bb,1,none⟩=some (.int .i64 b.sg)∧w'.cell? ⟨Bb,2,none⟩=some (.slice b.pa.a b1 b.pa.c)∧w'.cell? ⟨Bb,3,none⟩=some (.slice b.po.a b2 b.po.c)∧w'.cell? ⟨Bb,4,none⟩=some (.slice b.ov.a b3 b.ov.c)∧w'.cell? ⟨Bb,5,none⟩=some (.slice b.fl.a b4 b.fl.c)))
  (exact HS.out _ (by first | exact(Below.refl _ W9) | exact(Below.refl _ W9).drew | assumption))
  (first
    | ((with_reducible refine(TA.out _ (by first | exact(Below.refl _ W9) | exact(Below.refl _ W9).drew | assumption)).mono ?_);rintro e w1 ⟨ta,tn,tc,rfl,hnt,hst,hbt⟩;have hBt:Below W9.heap.size W9 w1:=A8 (by first | exact(Below.refl _ W9) | exact(Below.refl _ W9).drew | assumption) hbt)
    | ((with_reducible refine(TB.out _ (by first | exact hBt | exact hBt.drew | assumption)).mono ?_);rintro e w2 ⟨ua,un,uc,rfl,hnu,hsu,hbu⟩;have hBu:Below W9.heap.size W9 w2:=A8 (by first | exact hBt | exact hBt.drew | assumption) hbu))
 obtain rfl:ma=tn:=hnt.symm;obtain rfl:mb=un:=hnu.symm;have hr:=HR.out.kpC (CC hBu);have ht:=hst.below (show Below w1.heap.size w1 w2 by first | exact hbu | exact DK hbu);have hj:=HAb.out _ _ _ none HJ.out (Di hBu) (fun r e=>by cases e);clear HR HS HJ TA TB;have HR:=hid hr;have HT:=hid ht;have HU:=hid hsu;have HJ:=hid hj;clear hr ht hsu hj hst hbt hBt hbu hBu;go_upto_region 3 with fail
 go_loopg [8,33] ma (fun g _ i wr=>∃ k:Nat,k+g=ma∧i = .int .i64 (k:Int)∧J (D ::(a.tr.take k).map (Av b.tr)) wr∧JG wr Ba Bb Bl L a b n2 P1 P3 P4 #[.string a.nm,.int .i64 a.sg,.slice a.pa.a a1 a.pa.c,.slice a.po.a a2 a.po.c,.slice a.ov.a a3 a.ov.c,.slice a.fl.a a4 a.fl.c] #[.string b.nm,.int .i64 b.sg,.slice b.pa.a b1 b.pa.c,.slice b.po.a b2 b.po.c,.slice b.ov.a b3 b.ov.c,.slice b.fl.a b4 b.fl.c]∧B8 1 AO wr ⟨ta,tc,a.tr⟩∧B8 1 AO wr ⟨ua,uc,b.tr⟩)
 case atStart=>exact⟨0,by omega,rfl,HJ.out,HR.out,HT.out,HU.out⟩
 case round=>
  obtain⟨k,hk,rfl,hj,hr,ht,hu⟩:=hrel;clear HR HT HU HJ;have HR:=hid hr;have HT:=hid ht;have HU:=hid hu;have HJ:=hid hj;clear hr ht hu hj;by_cases hlt:k<ma
  ·obtain⟨x,hx⟩:∃ x,a.tr[k]?=some x:=⟨_,List.getElem?_eq_getElem (by rw[HTA.out.1];exact hlt)⟩;have hrow:=HT.out.row
   try dsimp only at hrow
   rcases hrow with hnil | ⟨xb,off,hxb,hc⟩
   ·rw[hnil] at hx;simp at hx
   have z0:=hc k _ hx 0 _ rfl;rw[Nat.add_zero,Nat.mul_one] at z0;have HX:=hid hx;have HXB:=hid hxb;have d1:(0:Int)≤k:=by omega
   have d2:(k:Int)<ma:=by omega
   have E0:Hid (wrap64 ((k:Int)+1)=(k:Int)+1):=hid (by have:=HTA.out;unfold wrap64;omega);have HK:=hid hk;obtain⟨v,hv⟩:∃ v,Av b.tr x=v:=⟨_,rfl⟩;have HIN:=hid (Ca v ua mb uc b.tr x wr hv HTB.out.1 (by have:=HTB.out.2;omega) HU.out.row);have HJN:Hid (∀ V,J (D ::(a.tr.take k).map (Av b.tr) ++ [v]) V→J (D ::(a.tr.take (k+1)).map (Av b.tr)) V):=hid (fun V h=>by rw[List.take_add_one,HX.out,List.map_append];show J (D ::((a.tr.take k).map (Av b.tr) ++ [Av b.tr x])) V;rw[hv];exact h);have HLE:Hid ((D ::(a.tr.take k).map (Av b.tr)).length<(AZ L a b).length):=hid (by unfold AZ;simp only[List.length_cons,List.length_append,List.length_map,List.length_take];have:=HTA.out.1;omega);have HLT:=hid hlt;clear HPF;have HPF:=hid (RH (L:=L) HD.out hx hv);rw[hxb];clear hc hx hk hxb hv hlt;go_upto_region 5 with fail
   clear z0 d1 d2;refine(wpIn_wide (n:=n)).1 ?_;obtain⟨fn,tmps,assign,body,hy,hRd⟩:=HY.out (D ::(a.tr.take k).map (Av b.tr)) v wr HJ.out (HLE.out);gi_wp2;refine⟨trivial,fun _=>by omega,?_⟩;refine(callsIn_wide.2 HIN.out).mono ?_;rintro e w3 ⟨rfl,rfl⟩;gi_wp2;refine⟨fun _=>by omega,?_⟩;refine hRd.mono ?_;clear hRd hy;rintro e W9 (⟨rfl,hJ',hk'⟩ | ⟨rfl,hJx⟩);rotate_left
   ·gi_wp2;go_wp2_with fail;refine bodyPost_ret (results_none rfl _ _ _) rfl ?_;exact⟨⟨_,rfl⟩,.inr ⟨_,HPF.out,hJx⟩⟩
   have hr:=HR.out.kpC hk'.c;have ht:=HT.out.kpC hk'.c;have hu:=HU.out.kpC hk'.c;have hj:=HJN.out _ hJ';have HR2:=hid hr;have HT2:=hid ht;have HU2:=hid hu;have HJ2:=hid hj;clear hr ht hu hj hk' hJ' HR HT HU HJ;gi_wp2;have e0:=E0.out;go_wp2_with fail;rw[← HXB.out];go_roundg (ma - (k+1))
   case rel=>exact⟨k+1,by have:=HK.out;have:=HLT.out;omega,by go_num,HJ2.out,HR2.out,HT2.out,HU2.out⟩
   case measure=>have:=HK.out;have:=HLT.out;omega
  ·have hkm:k=ma:=by omega
   have d2:¬ (k:Int)<ma:=by omega
   have hj:=HJ.out;rw[List.take_of_length_le (by rw[HTA.out.1];omega)] at hj;have HJ2:=hid hj;clear HJ hj hk hlt hkm;go_upto_region 7 with fail
   clear d2;have HS:Hid (∀ w',Below wr.heap.size wr w'→(w'.cell? ⟨Ba,0,none⟩=some (.string a.nm)∧w'.cell? ⟨Ba,1,none⟩=some (.int .i64 a.sg)∧w'.cell? ⟨Ba,2,none⟩=some (.slice a.pa.a a1 a.pa.c)∧w'.cell? ⟨Ba,3,none⟩=some (.slice a.po.a a2 a.po.c)∧w'.cell? ⟨Ba,4,none⟩=some (.slice a.ov.a a3 a.ov.c)∧w'.cell? ⟨Ba,5,none⟩=some (.slice a.fl.a a4 a.fl.c))∧(w'.cell? ⟨Bb,0,none⟩=some (.string b.nm)∧w'.cell? ⟨Bb,1,none⟩=some (.int .i64 b.sg)∧w'.cell? ⟨Bb,2,none⟩=some (.slice b.pa.a b1 b.pa.c)∧w'.cell? ⟨Bb,3,none⟩=some (.slice b.po.a b2 b.po.c)∧w'.cell? ⟨Bb,4,none⟩=some (.slice b.ov.a b3 b.ov.c)∧w'.cell? ⟨Bb,5,none⟩=some (.slice b.fl.a b4 b.fl.c))):=hid (fun w' hw'=>by
    have q:=HR.out.kpC (CC hw');exact⟨⟨A4 q.qa 0 _ rfl,A4 q.qa 1 _ rfl,A4 q.qa 2 _ rfl,A4 q.qa 3 _ rfl,A4 q.qa 4 _ rfl,A4 q.qa 5 _ rfl⟩,⟨A4 q.qb 0 _ rfl,A4 q.qb 1 _ rfl,A4 q.qb 2 _ rfl,A4 q.qb 3 _ rfl,A4 q.qb 4 _ rfl,A4 q.qb 5 _ rfl⟩⟩)
   have SA:Hid (∀ V,Below wr.heap.size wr V→Calls Tryz.prog 108 #[.agg #[.string a.nm,.int .i64 a.sg,.slice a.pa.a a1 a.pa.c,.slice a.po.a a2 a.po.c,.slice a.ov.a a3 a.ov.c,.slice a.fl.a a4 a.fl.c]] V fun e w'=>∃ g,e = .returned (.map (some g))∧DH w' g (At a.nd)∧Below V.heap.size V w'):=hid (fun V hV=>by
    have h:=Jc a V (HR.out.a.below hV) (by have:=HA.out;omega);rw[Ak HA.out.1,Ak HA.out.2.1,Ak HA.out.2.2.1,Ak HA.out.2.2.2.1] at h;exact h)
   have SB:Hid (∀ V,Below wr.heap.size wr V→Calls Tryz.prog 108 #[.agg #[.string b.nm,.int .i64 b.sg,.slice b.pa.a b1 b.pa.c,.slice b.po.a b2 b.po.c,.slice b.ov.a b3 b.ov.c,.slice b.fl.a b4 b.fl.c]] V fun e w'=>∃ g,e = .returned (.map (some g))∧DH w' g (At b.nd)∧Below V.heap.size V w'):=hid (fun V hV=>by
    have h:=Jc b V (HR.out.b.below hV) (by have:=HB.out;omega);rw[Ak HB.out.1,Ak HB.out.2.1,Ak HB.out.2.2.1,Ak HB.out.2.2.2.1] at h;exact h)
   go_region_held3 (fun w'=>(w'.cell? ⟨Ba,0,none⟩=some (.string a.nm)∧w'.cell? ⟨Ba,1,none⟩=some (.int .i64 a.sg)∧w'.cell? ⟨Ba,2,none⟩=some (.slice a.pa.a a1 a.pa.c)∧w'.cell? ⟨Ba,3,none⟩=some (.slice a.po.a a2 a.po.c)∧w'.cell? ⟨Ba,4,none⟩=some (.slice a.ov.a a3 a.ov.c)∧w'.cell? ⟨Ba,5,none⟩=some (.slice a.fl.a a4 a.fl.c))∧(w'.cell? ⟨Bb,0,none⟩=some (.string b.nm)∧w'.cell? ⟨Bb,1,none⟩=some (.int .i64 b.sg)∧w'.cell? ⟨Bb,2,none⟩=some (.slice b.pa.a b1 b.pa.c)∧w'.cell? ⟨Bb,3,none⟩=some (.slice b.po.a b2 b.po.c)∧w'.cell? ⟨Bb,4,none⟩=some (.slice b.ov.a b3 b.ov.c)∧w'.cell? ⟨Bb,5,none⟩=some (.slice b.fl.a b4 b.fl.c)))
    (exact HS.out _ (by first | exact(Below.refl _ wr) | exact(Below.refl _ wr).drew | assumption))
    (first
      | ((with_reducible refine(SA.out _ (by first | exact(Below.refl _ wr) | exact(Below.refl _ wr).drew | assumption)).mono ?_);rintro e v1 ⟨gx,rfl,hsx,hbx⟩;have hBx:Below wr.heap.size wr v1:=A8 (by first | exact(Below.refl _ wr) | exact(Below.refl _ wr).drew | assumption) hbx)
      | ((with_reducible refine(SB.out _ (by first | exact hBx | exact hBx.drew | assumption)).mono ?_);rintro e v2 ⟨gy,rfl,hsy,hby⟩;have hBy:Below wr.heap.size wr v2:=A8 (by first | exact hBx | exact hBx.drew | assumption) hby))
   have hr:=HR.out.kpC (CC hBy);have ht:=HT.out.below hBy;have hu:=HU.out.below hBy;have hx:=hsx.below (show Below v1.heap.size v1 v2 by first | exact hby | exact DK hby);have hj:=HAb.out _ _ _ none HJ2.out (Di hBy) (fun r e=>by cases e);clear HR HS SA SB HT HU HJ2;have HR:=hid hr;have HT:=hid ht;have HU:=hid hu;have HJ:=hid hj;have HXM:=hid hx;have HYM:=hid hsy;have l1:=A4 HR.out.ql 1 _ rfl;clear hr ht hu hj hx hsy hsx hbx hBx hby hBy;go_upto_region 9 with fail
   clear l1;go_loopg [11,12,13,14,15,16,17,18,51] n2 (fun g _ _ _ _ _ _ _ _ i wr=>∃ k:Nat,k+g=n2∧i = .int .i64 (k:Int)∧J (D ::(a.tr.map (Av b.tr) ++ (C7 a b 0 L.po.l).take k)) wr∧JG wr Ba Bb Bl L a b n2 P1 P3 P4 #[.string a.nm,.int .i64 a.sg,.slice a.pa.a a1 a.pa.c,.slice a.po.a a2 a.po.c,.slice a.ov.a a3 a.ov.c,.slice a.fl.a a4 a.fl.c] #[.string b.nm,.int .i64 b.sg,.slice b.pa.a b1 b.pa.c,.slice b.po.a b2 b.po.c,.slice b.ov.a b3 b.ov.c,.slice b.fl.a b4 b.fl.c]∧B8 1 AO wr ⟨ta,tc,a.tr⟩∧B8 1 AO wr ⟨ua,uc,b.tr⟩∧DH wr gx (At a.nd)∧DH wr gy (At b.nd))
   case atStart=>exact⟨0,by omega,rfl,by rw[List.take_zero,List.append_nil];exact HJ.out,HR.out,HT.out,HU.out,HXM.out,HYM.out⟩
   case round=>
    obtain⟨k,hk,rfl,hj,hr,ht,hu,hx,hy⟩:=hrel;clear HR HT HU HJ HXM HYM;have HR:=hid hr;have HT:=hid ht;have HU:=hid hu;have HJ:=hid hj;have HXM:=hid hx;have HYM:=hid hy;clear hr ht hu hj hx hy;by_cases hlt:k<n2
    ·obtain⟨⟨y0,s1⟩,hy⟩:∃ y,L.po.l[k]?=some y:=⟨_,List.getElem?_eq_getElem (by rw[HN.out];exact hlt)⟩;rcases HR.out.po with hnil | ⟨xb,off,hxb,hc⟩
     ·rw[hnil] at hy;simp at hy
     have z0:=hc k _ hy 0 _ rfl;have z1:=hc k _ hy 1 _ rfl;rw[Nat.add_zero] at z0;dsimp only at z0 z1;have HXB:=hid hxb;have d1:(0:Int)≤k:=by omega
     have d2:(k:Int)<n2:=by omega
     have E0:Hid (wrap64 ((k:Int)+1)=(k:Int)+1):=hid (by have:=HN2.out;unfold wrap64;omega);have HK:=hid hk;have HLT:=hid hlt;have HJN:Hid (∀ B,AJ a.tr b.tr (At a.nd (k:Int)) (At b.nd (k:Int)) s1=B→∀ V,J (D ::(a.tr.map (Av b.tr) ++ (C7 a b 0 L.po.l).take k) ++ [B]) V→J (D ::(a.tr.map (Av b.tr) ++ (C7 a b 0 L.po.l).take (k+1))) V):=hid (fun B hB V h=>by
      have hp:=EC (a:=a) (b:=b) (k:=0) hy;rw[Nat.zero_add,hB] at hp;rw[List.take_add_one,hp];show J (D ::(a.tr.map (Av b.tr) ++ ((C7 a b 0 L.po.l).take k ++ [B]))) V;rw[← List.append_assoc];exact h)
     have HYP:Hid (∀ B,AJ a.tr b.tr (At a.nd (k:Int)) (At b.nd (k:Int)) s1=B→(C7 a b 0 L.po.l)[k]?=some B):=hid (fun B hB=>by
      have hp:=EC (a:=a) (b:=b) (k:=0) hy;rw[Nat.zero_add,hB] at hp;exact hp)
     clear HPF;have HLE:Hid ((D ::(a.tr.map (Av b.tr) ++ (C7 a b 0 L.po.l).take k)).length<(AZ L a b).length):=hid (by unfold AZ;simp only[List.length_cons,List.length_append,List.length_map,List.length_take,Gg];have:=HN.out;omega);have hb4:=Ac wr (.cells #[.string y0,.int .i64 s1] 68);have hc4:=Ao wr (.cells #[.string y0,.int .i64 s1] 68) (Below.refl _ _);obtain⟨W4,hW4⟩:∃ V,V=wr.alloc (.cells #[.string y0,.int .i64 s1] 68):=⟨_,rfl⟩;rw[← hW4] at hb4 hc4;have hr:=HR.out.kpC (CC hb4);have ht:=HT.out.below hb4;have hu:=HU.out.below hb4;have hx:=HXM.out.below hb4;have hy4:=HYM.out.below hb4;have hj:=HAb.out _ _ _ none HJ.out (Di hb4) (fun r e=>by cases e);clear HR HT HU HJ HXM HYM;have HR:=hid hr;have HT:=hid ht;have HU:=hid hu;have HJ:=hid hj;have HXM:=hid hx;have HYM:=hid hy4;have lkx:=FM (p:=(k:Int)) HXM.out;have lky:=FM (p:=(k:Int)) HYM.out;have HWW:=hid hW4;obtain⟨gp,hgp⟩:∃ g,g=wr.heap.size:=⟨_,rfl⟩;rw[← hgp] at hc4;have HGP:=hid hgp;have c1:=A4 hc4 1 _ rfl;rw[hxb];clear hc hy hk hlt hxb hb4 hc4 hr ht hu hx hy4 hj hW4 hgp;go_upto_region 11 with fail
     rw[← HWW.out,← HGP.out,← HXB.out];clear z0 z1 d1 d2;rcases hX:At a.nd (k:Int) with _ | (_ | _)<;>rcases hY:At b.nd (k:Int) with _ | (_ | _)
     ·have HXV:Hid (At a.nd (k:Int)=none):=hid hX;have HYV:Hid (At b.nd (k:Int)=none):=hid hY;rw[hX] at lkx;rw[hY] at lky;dsimp only[Option.getD,Option.isSome] at lkx lky;clear hX hY;go_upto_region 15 with fail
      clear c1 lkx lky;have HBD:Hid (AJ a.tr b.tr (At a.nd (k:Int)) (At b.nd (k:Int)) s1=false):=hid (by rw[HXV.out,HYV.out];unfold AJ;cases Av a.tr s1<;>cases Av b.tr s1<;>rfl);have HPF:=hid (Dt (L:=L) HD.out (HYP.out _ HBD.out));refine(wpIn_wide (n:=n)).1 ?_;obtain⟨fn,tmps,assign,body,hy,hRd⟩:=HY.out (D ::(a.tr.map (Av b.tr) ++ (C7 a b 0 L.po.l).take k)) false W4 HJ.out (HLE.out);gi_wp2;refine⟨fun _=>by omega,?_⟩;refine hRd.mono ?_;clear hRd hy;rintro e W9 (⟨rfl,hJ',hk'⟩ | ⟨rfl,hJx⟩);rotate_left
      ·gi_wp2;go_wp2_with fail;refine bodyPost_ret (results_none rfl _ _ _) rfl ?_;exact⟨⟨_,rfl⟩,.inr ⟨_,HPF.out,hJx⟩⟩
      have hr:=HR.out.kpC hk'.c;have ht:=HT.out.kpC hk'.c;have hu:=HU.out.kpC hk'.c;have hx:=HXM.out.kpA hk';have hy:=HYM.out.kpA hk';have hj:=HJN.out _ HBD.out _ hJ';have HR2:=hid hr;have HT2:=hid ht;have HU2:=hid hu;have HJ2:=hid hj;have HX2:=hid hx;have HY2:=hid hy;clear hr ht hu hj hx hy hk' hJ' HR HT HU HJ HXM HYM;gi_wp2;have e0:=E0.out;go_wp2_with fail;go_roundg (n2 - (k+1))
      case rel=>exact⟨k+1,by have:=HK.out;have:=HLT.out;omega,by go_num,HJ2.out,HR2.out,HT2.out,HU2.out,HX2.out,HY2.out⟩
      case measure=>have:=HK.out;have:=HLT.out;omega
     ·have HXV:Hid (At a.nd (k:Int)=none):=hid hX;have HYV:Hid (At b.nd (k:Int)=(some false)):=hid hY;rw[hX] at lkx;rw[hY] at lky;dsimp only[Option.getD,Option.isSome] at lkx lky;clear hX hY;obtain⟨E,hE⟩:∃ E,Av a.tr s1=E:=⟨_,rfl⟩;have HIN:=hid (Ca E ta ma tc a.tr s1 W4 hE HTA.out.1 (by have:=HTA.out.2;omega) HT.out.row);have HE:=hid hE;clear hE;go_upto_region 14 with fail
      go_wp2_with fail;refine HIN.out.mono ?_;rintro e w8 ⟨rfl,rfl⟩;clear HIN c1 lkx lky;cases E with
      | true=>
        go_upto_region 15 with fail
        have HBD:Hid (AJ a.tr b.tr (At a.nd (k:Int)) (At b.nd (k:Int)) s1=true):=hid (by rw[HXV.out,HYV.out];unfold AJ;rw[HE.out];cases Av b.tr s1<;>rfl);have HPF:=hid (Dt (L:=L) HD.out (HYP.out _ HBD.out));refine(wpIn_wide (n:=n)).1 ?_;obtain⟨fn,tmps,assign,body,hy,hRd⟩:=HY.out (D ::(a.tr.map (Av b.tr) ++ (C7 a b 0 L.po.l).take k)) true W4 HJ.out (HLE.out);gi_wp2;refine⟨fun _=>by omega,?_⟩;refine hRd.mono ?_;clear hRd hy;rintro e W9 (⟨rfl,hJ',hk'⟩ | ⟨rfl,hJx⟩);rotate_left
        ·gi_wp2;go_wp2_with fail;refine bodyPost_ret (results_none rfl _ _ _) rfl ?_;exact⟨⟨_,rfl⟩,.inr ⟨_,HPF.out,hJx⟩⟩
        have hr:=HR.out.kpC hk'.c;have ht:=HT.out.kpC hk'.c;have hu:=HU.out.kpC hk'.c;have hx:=HXM.out.kpA hk';have hy:=HYM.out.kpA hk';have hj:=HJN.out _ HBD.out _ hJ';have HR2:=hid hr;have HT2:=hid ht;have HU2:=hid hu;have HJ2:=hid hj;have HX2:=hid hx;have HY2:=hid hy;clear hr ht hu hj hx hy hk' hJ' HR HT HU HJ HXM HYM;gi_wp2;have e0:=E0.out;go_wp2_with fail;go_roundg (n2 - (k+1))
        case rel=>exact⟨k+1,by have:=HK.out;have:=HLT.out;omega,by go_num,HJ2.out,HR2.out,HT2.out,HU2.out,HX2.out,HY2.out⟩
        case measure=>have:=HK.out;have:=HLT.out;omega
      | false=>
        go_upto_region 15 with fail
        have HBD:Hid (AJ a.tr b.tr (At a.nd (k:Int)) (At b.nd (k:Int)) s1=false):=hid (by rw[HXV.out,HYV.out];unfold AJ;rw[HE.out];cases Av b.tr s1<;>rfl);have HPF:=hid (Dt (L:=L) HD.out (HYP.out _ HBD.out));refine(wpIn_wide (n:=n)).1 ?_;obtain⟨fn,tmps,assign,body,hy,hRd⟩:=HY.out (D ::(a.tr.map (Av b.tr) ++ (C7 a b 0 L.po.l).take k)) false W4 HJ.out (HLE.out);gi_wp2;refine⟨fun _=>by omega,?_⟩;refine hRd.mono ?_;clear hRd hy;rintro e W9 (⟨rfl,hJ',hk'⟩ | ⟨rfl,hJx⟩);rotate_left
        ·gi_wp2;go_wp2_with fail;refine bodyPost_ret (results_none rfl _ _ _) rfl ?_;exact⟨⟨_,rfl⟩,.inr ⟨_,HPF.out,hJx⟩⟩
        have hr:=HR.out.kpC hk'.c;have ht:=HT.out.kpC hk'.c;have hu:=HU.out.kpC hk'.c;have hx:=HXM.out.kpA hk';have hy:=HYM.out.kpA hk';have hj:=HJN.out _ HBD.out _ hJ';have HR2:=hid hr;have HT2:=hid ht;have HU2:=hid hu;have HJ2:=hid hj;have HX2:=hid hx;have HY2:=hid hy;clear hr ht hu hj hx hy hk' hJ' HR HT HU HJ HXM HYM;gi_wp2;have e0:=E0.out;go_wp2_with fail;go_roundg (n2 - (k+1))
        case rel=>exact⟨k+1,by have:=HK.out;have:=HLT.out;omega,by go_num,HJ2.out,HR2.out,HT2.out,HU2.out,HX2.out,HY2.out⟩
        case measure=>have:=HK.out;have:=HLT.out;omega
     ·have HXV:Hid (At a.nd (k:Int)=none):=hid hX;have HYV:Hid (At b.nd (k:Int)=(some true)):=hid hY;rw[hX] at lkx;rw[hY] at lky;dsimp only[Option.getD,Option.isSome] at lkx lky;clear hX hY;obtain⟨E,hE⟩:∃ E,Av a.tr s1=E:=⟨_,rfl⟩;have HIN:=hid (Ca E ta ma tc a.tr s1 W4 hE HTA.out.1 (by have:=HTA.out.2;omega) HT.out.row);have HE:=hid hE;clear hE;go_upto_region 14 with fail
      go_wp2_with fail;refine HIN.out.mono ?_;rintro e w8 ⟨rfl,rfl⟩;clear HIN c1 lkx lky;cases E with
      | true=>
        go_upto_region 15 with fail
        have HBD:Hid (AJ a.tr b.tr (At a.nd (k:Int)) (At b.nd (k:Int)) s1=true):=hid (by rw[HXV.out,HYV.out];unfold AJ;rw[HE.out];cases Av b.tr s1<;>rfl);have HPF:=hid (Dt (L:=L) HD.out (HYP.out _ HBD.out));refine(wpIn_wide (n:=n)).1 ?_;obtain⟨fn,tmps,assign,body,hy,hRd⟩:=HY.out (D ::(a.tr.map (Av b.tr) ++ (C7 a b 0 L.po.l).take k)) true W4 HJ.out (HLE.out);gi_wp2;refine⟨fun _=>by omega,?_⟩;refine hRd.mono ?_;clear hRd hy;rintro e W9 (⟨rfl,hJ',hk'⟩ | ⟨rfl,hJx⟩);rotate_left
        ·gi_wp2;go_wp2_with fail;refine bodyPost_ret (results_none rfl _ _ _) rfl ?_;exact⟨⟨_,rfl⟩,.inr ⟨_,HPF.out,hJx⟩⟩
        have hr:=HR.out.kpC hk'.c;have ht:=HT.out.kpC hk'.c;have hu:=HU.out.kpC hk'.c;have hx:=HXM.out.kpA hk';have hy:=HYM.out.kpA hk';have hj:=HJN.out _ HBD.out _ hJ';have HR2:=hid hr;have HT2:=hid ht;have HU2:=hid hu;have HJ2:=hid hj;have HX2:=hid hx;have HY2:=hid hy;clear hr ht hu hj hx hy hk' hJ' HR HT HU HJ HXM HYM;gi_wp2;have e0:=E0.out;go_wp2_with fail;go_roundg (n2 - (k+1))
        case rel=>exact⟨k+1,by have:=HK.out;have:=HLT.out;omega,by go_num,HJ2.out,HR2.out,HT2.out,HU2.out,HX2.out,HY2.out⟩
        case measure=>have:=HK.out;have:=HLT.out;omega
      | false=>
        go_upto_region 15 with fail
        have HBD:Hid (AJ a.tr b.tr (At a.nd (k:Int)) (At b.nd (k:Int)) s1=false):=hid (by rw[HXV.out,HYV.out];unfold AJ;rw[HE.out];cases Av b.tr s1<;>rfl);have HPF:=hid (Dt (L:=L) HD.out (HYP.out _ HBD.out));refine(wpIn_wide (n:=n)).1 ?_;obtain⟨fn,tmps,assign,body,hy,hRd⟩:=HY.out (D ::(a.tr.map (Av b.tr) ++ (C7 a b 0 L.po.l).take k)) false W4 HJ.out (HLE.out);gi_wp2;refine⟨fun _=>by omega,?_⟩;refine hRd.mono ?_;clear hRd hy;rintro e W9 (⟨rfl,hJ',hk'⟩ | ⟨rfl,hJx⟩);rotate_left
        ·gi_wp2;go_wp2_with fail;refine bodyPost_ret (results_none rfl _ _ _) rfl ?_;exact⟨⟨_,rfl⟩,.inr ⟨_,HPF.out,hJx⟩⟩
        have hr:=HR.out.kpC hk'.c;have ht:=HT.out.kpC hk'.c;have hu:=HU.out.kpC hk'.c;have hx:=HXM.out.kpA hk';have hy:=HYM.out.kpA hk';have hj:=HJN.out _ HBD.out _ hJ';have HR2:=hid hr;have HT2:=hid ht;have HU2:=hid hu;have HJ2:=hid hj;have HX2:=hid hx;have HY2:=hid hy;clear hr ht hu hj hx hy hk' hJ' HR HT HU HJ HXM HYM;gi_wp2;have e0:=E0.out;go_wp2_with fail;go_roundg (n2 - (k+1))
        case rel=>exact⟨k+1,by have:=HK.out;have:=HLT.out;omega,by go_num,HJ2.out,HR2.out,HT2.out,HU2.out,HX2.out,HY2.out⟩
        case measure=>have:=HK.out;have:=HLT.out;omega
     ·have HXV:Hid (At a.nd (k:Int)=(some false)):=hid hX;have HYV:Hid (At b.nd (k:Int)=none):=hid hY;rw[hX] at lkx;rw[hY] at lky;dsimp only[Option.getD,Option.isSome] at lkx lky;clear hX hY;obtain⟨E,hE⟩:∃ E,Av b.tr s1=E:=⟨_,rfl⟩;have HIN:=hid (Ca E ua mb uc b.tr s1 W4 hE HTB.out.1 (by have:=HTB.out.2;omega) HU.out.row);have HE:=hid hE;clear hE;go_upto_region 14 with fail
      go_wp2_with fail;refine HIN.out.mono ?_;rintro e w8 ⟨rfl,rfl⟩;clear HIN c1 lkx lky;cases E with
      | true=>
        go_upto_region 15 with fail
        have HBD:Hid (AJ a.tr b.tr (At a.nd (k:Int)) (At b.nd (k:Int)) s1=true):=hid (by rw[HXV.out,HYV.out];unfold AJ;rw[HE.out];cases Av a.tr s1<;>rfl);have HPF:=hid (Dt (L:=L) HD.out (HYP.out _ HBD.out));refine(wpIn_wide (n:=n)).1 ?_;obtain⟨fn,tmps,assign,body,hy,hRd⟩:=HY.out (D ::(a.tr.map (Av b.tr) ++ (C7 a b 0 L.po.l).take k)) true W4 HJ.out (HLE.out);gi_wp2;refine⟨fun _=>by omega,?_⟩;refine hRd.mono ?_;clear hRd hy;rintro e W9 (⟨rfl,hJ',hk'⟩ | ⟨rfl,hJx⟩);rotate_left
        ·gi_wp2;go_wp2_with fail;refine bodyPost_ret (results_none rfl _ _ _) rfl ?_;exact⟨⟨_,rfl⟩,.inr ⟨_,HPF.out,hJx⟩⟩
        have hr:=HR.out.kpC hk'.c;have ht:=HT.out.kpC hk'.c;have hu:=HU.out.kpC hk'.c;have hx:=HXM.out.kpA hk';have hy:=HYM.out.kpA hk';have hj:=HJN.out _ HBD.out _ hJ';have HR2:=hid hr;have HT2:=hid ht;have HU2:=hid hu;have HJ2:=hid hj;have HX2:=hid hx;have HY2:=hid hy;clear hr ht hu hj hx hy hk' hJ' HR HT HU HJ HXM HYM;gi_wp2;have e0:=E0.out;go_wp2_with fail;go_roundg (n2 - (k+1))
        case rel=>exact⟨k+1,by have:=HK.out;have:=HLT.out;omega,by go_num,HJ2.out,HR2.out,HT2.out,HU2.out,HX2.out,HY2.out⟩
        case measure=>have:=HK.out;have:=HLT.out;omega
      | false=>
        go_upto_region 15 with fail
        have HBD:Hid (AJ a.tr b.tr (At a.nd (k:Int)) (At b.nd (k:Int)) s1=false):=hid (by rw[HXV.out,HYV.out];unfold AJ;rw[HE.out];cases Av a.tr s1<;>rfl);have HPF:=hid (Dt (L:=L) HD.out (HYP.out _ HBD.out));refine(wpIn_wide (n:=n)).1 ?_;obtain⟨fn,tmps,assign,body,hy,hRd⟩:=HY.out (D ::(a.tr.map (Av b.tr) ++ (C7 a b 0 L.po.l).take k)) false W4 HJ.out (HLE.out);gi_wp2;refine⟨fun _=>by omega,?_⟩;refine hRd.mono ?_;clear hRd hy;rintro e W9 (⟨rfl,hJ',hk'⟩ | ⟨rfl,hJx⟩);rotate_left
        ·gi_wp2;go_wp2_with fail;refine bodyPost_ret (results_none rfl _ _ _) rfl ?_;exact⟨⟨_,rfl⟩,.inr ⟨_,HPF.out,hJx⟩⟩
        have hr:=HR.out.kpC hk'.c;have ht:=HT.out.kpC hk'.c;have hu:=HU.out.kpC hk'.c;have hx:=HXM.out.kpA hk';have hy:=HYM.out.kpA hk';have hj:=HJN.out _ HBD.out _ hJ';have HR2:=hid hr;have HT2:=hid ht;have HU2:=hid hu;have HJ2:=hid hj;have HX2:=hid hx;have HY2:=hid hy;clear hr ht hu hj hx hy hk' hJ' HR HT HU HJ HXM HYM;gi_wp2;have e0:=E0.out;go_wp2_with fail;go_roundg (n2 - (k+1))
        case rel=>exact⟨k+1,by have:=HK.out;have:=HLT.out;omega,by go_num,HJ2.out,HR2.out,HT2.out,HU2.out,HX2.out,HY2.out⟩
        case measure=>have:=HK.out;have:=HLT.out;omega
     ·have HXV:Hid (At a.nd (k:Int)=(some false)):=hid hX;have HYV:Hid (At b.nd (k:Int)=(some false)):=hid hY;rw[hX] at lkx;rw[hY] at lky;dsimp only[Option.getD,Option.isSome] at lkx lky;clear hX hY;go_upto_region 15 with fail
      clear c1 lkx lky;have HBD:Hid (AJ a.tr b.tr (At a.nd (k:Int)) (At b.nd (k:Int)) s1=false):=hid (by rw[HXV.out,HYV.out];unfold AJ;cases Av a.tr s1<;>cases Av b.tr s1<;>rfl);have HPF:=hid (Dt (L:=L) HD.out (HYP.out _ HBD.out));refine(wpIn_wide (n:=n)).1 ?_;obtain⟨fn,tmps,assign,body,hy,hRd⟩:=HY.out (D ::(a.tr.map (Av b.tr) ++ (C7 a b 0 L.po.l).take k)) false W4 HJ.out (HLE.out);gi_wp2;refine⟨fun _=>by omega,?_⟩;refine hRd.mono ?_;clear hRd hy;rintro e W9 (⟨rfl,hJ',hk'⟩ | ⟨rfl,hJx⟩);rotate_left
      ·gi_wp2;go_wp2_with fail;refine bodyPost_ret (results_none rfl _ _ _) rfl ?_;exact⟨⟨_,rfl⟩,.inr ⟨_,HPF.out,hJx⟩⟩
      have hr:=HR.out.kpC hk'.c;have ht:=HT.out.kpC hk'.c;have hu:=HU.out.kpC hk'.c;have hx:=HXM.out.kpA hk';have hy:=HYM.out.kpA hk';have hj:=HJN.out _ HBD.out _ hJ';have HR2:=hid hr;have HT2:=hid ht;have HU2:=hid hu;have HJ2:=hid hj;have HX2:=hid hx;have HY2:=hid hy;clear hr ht hu hj hx hy hk' hJ' HR HT HU HJ HXM HYM;gi_wp2;have e0:=E0.out;go_wp2_with fail;go_roundg (n2 - (k+1))
      case rel=>exact⟨k+1,by have:=HK.out;have:=HLT.out;omega,by go_num,HJ2.out,HR2.out,HT2.out,HU2.out,HX2.out,HY2.out⟩
      case measure=>have:=HK.out;have:=HLT.out;omega
     ·have HXV:Hid (At a.nd (k:Int)=(some false)):=hid hX;have HYV:Hid (At b.nd (k:Int)=(some true)):=hid hY;rw[hX] at lkx;rw[hY] at lky;dsimp only[Option.getD,Option.isSome] at lkx lky;clear hX hY;go_upto_region 15 with fail
      clear c1 lkx lky;have HBD:Hid (AJ a.tr b.tr (At a.nd (k:Int)) (At b.nd (k:Int)) s1=true):=hid (by rw[HXV.out,HYV.out];unfold AJ;cases Av a.tr s1<;>cases Av b.tr s1<;>rfl);have HPF:=hid (Dt (L:=L) HD.out (HYP.out _ HBD.out));refine(wpIn_wide (n:=n)).1 ?_;obtain⟨fn,tmps,assign,body,hy,hRd⟩:=HY.out (D ::(a.tr.map (Av b.tr) ++ (C7 a b 0 L.po.l).take k)) true W4 HJ.out (HLE.out);gi_wp2;refine⟨fun _=>by omega,?_⟩;refine hRd.mono ?_;clear hRd hy;rintro e W9 (⟨rfl,hJ',hk'⟩ | ⟨rfl,hJx⟩);rotate_left
      ·gi_wp2;go_wp2_with fail;refine bodyPost_ret (results_none rfl _ _ _) rfl ?_;exact⟨⟨_,rfl⟩,.inr ⟨_,HPF.out,hJx⟩⟩
      have hr:=HR.out.kpC hk'.c;have ht:=HT.out.kpC hk'.c;have hu:=HU.out.kpC hk'.c;have hx:=HXM.out.kpA hk';have hy:=HYM.out.kpA hk';have hj:=HJN.out _ HBD.out _ hJ';have HR2:=hid hr;have HT2:=hid ht;have HU2:=hid hu;have HJ2:=hid hj;have HX2:=hid hx;have HY2:=hid hy;clear hr ht hu hj hx hy hk' hJ' HR HT HU HJ HXM HYM;gi_wp2;have e0:=E0.out;go_wp2_with fail;go_roundg (n2 - (k+1))
      case rel=>exact⟨k+1,by have:=HK.out;have:=HLT.out;omega,by go_num,HJ2.out,HR2.out,HT2.out,HU2.out,HX2.out,HY2.out⟩
      case measure=>have:=HK.out;have:=HLT.out;omega
     ·have HXV:Hid (At a.nd (k:Int)=(some true)):=hid hX;have HYV:Hid (At b.nd (k:Int)=none):=hid hY;rw[hX] at lkx;rw[hY] at lky;dsimp only[Option.getD,Option.isSome] at lkx lky;clear hX hY;obtain⟨E,hE⟩:∃ E,Av b.tr s1=E:=⟨_,rfl⟩;have HIN:=hid (Ca E ua mb uc b.tr s1 W4 hE HTB.out.1 (by have:=HTB.out.2;omega) HU.out.row);have HE:=hid hE;clear hE;go_upto_region 14 with fail
      go_wp2_with fail;refine HIN.out.mono ?_;rintro e w8 ⟨rfl,rfl⟩;clear HIN c1 lkx lky;cases E with
      | true=>
        go_upto_region 15 with fail
        have HBD:Hid (AJ a.tr b.tr (At a.nd (k:Int)) (At b.nd (k:Int)) s1=true):=hid (by rw[HXV.out,HYV.out];unfold AJ;rw[HE.out];cases Av a.tr s1<;>rfl);have HPF:=hid (Dt (L:=L) HD.out (HYP.out _ HBD.out));refine(wpIn_wide (n:=n)).1 ?_;obtain⟨fn,tmps,assign,body,hy,hRd⟩:=HY.out (D ::(a.tr.map (Av b.tr) ++ (C7 a b 0 L.po.l).take k)) true W4 HJ.out (HLE.out);gi_wp2;refine⟨fun _=>by omega,?_⟩;refine hRd.mono ?_;clear hRd hy;rintro e W9 (⟨rfl,hJ',hk'⟩ | ⟨rfl,hJx⟩);rotate_left
        ·gi_wp2;go_wp2_with fail;refine bodyPost_ret (results_none rfl _ _ _) rfl ?_;exact⟨⟨_,rfl⟩,.inr ⟨_,HPF.out,hJx⟩⟩
        have hr:=HR.out.kpC hk'.c;have ht:=HT.out.kpC hk'.c;have hu:=HU.out.kpC hk'.c;have hx:=HXM.out.kpA hk';have hy:=HYM.out.kpA hk';have hj:=HJN.out _ HBD.out _ hJ';have HR2:=hid hr;have HT2:=hid ht;have HU2:=hid hu;have HJ2:=hid hj;have HX2:=hid hx;have HY2:=hid hy;clear hr ht hu hj hx hy hk' hJ' HR HT HU HJ HXM HYM;gi_wp2;have e0:=E0.out;go_wp2_with fail;go_roundg (n2 - (k+1))
        case rel=>exact⟨k+1,by have:=HK.out;have:=HLT.out;omega,by go_num,HJ2.out,HR2.out,HT2.out,HU2.out,HX2.out,HY2.out⟩
        case measure=>have:=HK.out;have:=HLT.out;omega
      | false=>
        go_upto_region 15 with fail
        have HBD:Hid (AJ a.tr b.tr (At a.nd (k:Int)) (At b.nd (k:Int)) s1=false):=hid (by rw[HXV.out,HYV.out];unfold AJ;rw[HE.out];cases Av a.tr s1<;>rfl);have HPF:=hid (Dt (L:=L) HD.out (HYP.out _ HBD.out));refine(wpIn_wide (n:=n)).1 ?_;obtain⟨fn,tmps,assign,body,hy,hRd⟩:=HY.out (D ::(a.tr.map (Av b.tr) ++ (C7 a b 0 L.po.l).take k)) false W4 HJ.out (HLE.out);gi_wp2;refine⟨fun _=>by omega,?_⟩;refine hRd.mono ?_;clear hRd hy;rintro e W9 (⟨rfl,hJ',hk'⟩ | ⟨rfl,hJx⟩);rotate_left
        ·gi_wp2;go_wp2_with fail;refine bodyPost_ret (results_none rfl _ _ _) rfl ?_;exact⟨⟨_,rfl⟩,.inr ⟨_,HPF.out,hJx⟩⟩
        have hr:=HR.out.kpC hk'.c;have ht:=HT.out.kpC hk'.c;have hu:=HU.out.kpC hk'.c;have hx:=HXM.out.kpA hk';have hy:=HYM.out.kpA hk';have hj:=HJN.out _ HBD.out _ hJ';have HR2:=hid hr;have HT2:=hid ht;have HU2:=hid hu;have HJ2:=hid hj;have HX2:=hid hx;have HY2:=hid hy;clear hr ht hu hj hx hy hk' hJ' HR HT HU HJ HXM HYM;gi_wp2;have e0:=E0.out;go_wp2_with fail;go_roundg (n2 - (k+1))
        case rel=>exact⟨k+1,by have:=HK.out;have:=HLT.out;omega,by go_num,HJ2.out,HR2.out,HT2.out,HU2.out,HX2.out,HY2.out⟩
        case measure=>have:=HK.out;have:=HLT.out;omega
     ·have HXV:Hid (At a.nd (k:Int)=(some true)):=hid hX;have HYV:Hid (At b.nd (k:Int)=(some false)):=hid hY;rw[hX] at lkx;rw[hY] at lky;dsimp only[Option.getD,Option.isSome] at lkx lky;clear hX hY;go_upto_region 15 with fail
      clear c1 lkx lky;have HBD:Hid (AJ a.tr b.tr (At a.nd (k:Int)) (At b.nd (k:Int)) s1=true):=hid (by rw[HXV.out,HYV.out];unfold AJ;cases Av a.tr s1<;>cases Av b.tr s1<;>rfl);have HPF:=hid (Dt (L:=L) HD.out (HYP.out _ HBD.out));refine(wpIn_wide (n:=n)).1 ?_;obtain⟨fn,tmps,assign,body,hy,hRd⟩:=HY.out (D ::(a.tr.map (Av b.tr) ++ (C7 a b 0 L.po.l).take k)) true W4 HJ.out (HLE.out);gi_wp2;refine⟨fun _=>by omega,?_⟩;refine hRd.mono ?_;clear hRd hy;rintro e W9 (⟨rfl,hJ',hk'⟩ | ⟨rfl,hJx⟩);rotate_left
      ·gi_wp2;go_wp2_with fail;refine bodyPost_ret (results_none rfl _ _ _) rfl ?_;exact⟨⟨_,rfl⟩,.inr ⟨_,HPF.out,hJx⟩⟩
      have hr:=HR.out.kpC hk'.c;have ht:=HT.out.kpC hk'.c;have hu:=HU.out.kpC hk'.c;have hx:=HXM.out.kpA hk';have hy:=HYM.out.kpA hk';have hj:=HJN.out _ HBD.out _ hJ';have HR2:=hid hr;have HT2:=hid ht;have HU2:=hid hu;have HJ2:=hid hj;have HX2:=hid hx;have HY2:=hid hy;clear hr ht hu hj hx hy hk' hJ' HR HT HU HJ HXM HYM;gi_wp2;have e0:=E0.out;go_wp2_with fail;go_roundg (n2 - (k+1))
      case rel=>exact⟨k+1,by have:=HK.out;have:=HLT.out;omega,by go_num,HJ2.out,HR2.out,HT2.out,HU2.out,HX2.out,HY2.out⟩
      case measure=>have:=HK.out;have:=HLT.out;omega
     ·have HXV:Hid (At a.nd (k:Int)=(some true)):=hid hX;have HYV:Hid (At b.nd (k:Int)=(some true)):=hid hY;rw[hX] at lkx;rw[hY] at lky;dsimp only[Option.getD,Option.isSome] at lkx lky;clear hX hY;go_upto_region 15 with fail
      clear c1 lkx lky;have HBD:Hid (AJ a.tr b.tr (At a.nd (k:Int)) (At b.nd (k:Int)) s1=false):=hid (by rw[HXV.out,HYV.out];unfold AJ;cases Av a.tr s1<;>cases Av b.tr s1<;>rfl);have HPF:=hid (Dt (L:=L) HD.out (HYP.out _ HBD.out));refine(wpIn_wide (n:=n)).1 ?_;obtain⟨fn,tmps,assign,body,hy,hRd⟩:=HY.out (D ::(a.tr.map (Av b.tr) ++ (C7 a b 0 L.po.l).take k)) false W4 HJ.out (HLE.out);gi_wp2;refine⟨fun _=>by omega,?_⟩;refine hRd.mono ?_;clear hRd hy;rintro e W9 (⟨rfl,hJ',hk'⟩ | ⟨rfl,hJx⟩);rotate_left
      ·gi_wp2;go_wp2_with fail;refine bodyPost_ret (results_none rfl _ _ _) rfl ?_;exact⟨⟨_,rfl⟩,.inr ⟨_,HPF.out,hJx⟩⟩
      have hr:=HR.out.kpC hk'.c;have ht:=HT.out.kpC hk'.c;have hu:=HU.out.kpC hk'.c;have hx:=HXM.out.kpA hk';have hy:=HYM.out.kpA hk';have hj:=HJN.out _ HBD.out _ hJ';have HR2:=hid hr;have HT2:=hid ht;have HU2:=hid hu;have HJ2:=hid hj;have HX2:=hid hx;have HY2:=hid hy;clear hr ht hu hj hx hy hk' hJ' HR HT HU HJ HXM HYM;gi_wp2;have e0:=E0.out;go_wp2_with fail;go_roundg (n2 - (k+1))
      case rel=>exact⟨k+1,by have:=HK.out;have:=HLT.out;omega,by go_num,HJ2.out,HR2.out,HT2.out,HU2.out,HX2.out,HY2.out⟩
      case measure=>have:=HK.out;have:=HLT.out;omega
    ·have hkm:k=n2:=by omega
     have d2:¬ (k:Int)<n2:=by omega
     have hj:=HJ.out;rw[List.take_of_length_le (by rw[Gg,HN.out];omega)] at hj;have HJ2:Hid (J (AZ L a b) wr):=hid (by unfold AZ;rw[HD.out];exact hj);clear hj hk hlt hkm;go_wp2_with fail;go_end0;first
      | exact⟨⟨_,rfl⟩,.inl HJ2.out⟩
      | exact⟨⟨_,rfl⟩,.inl ⟨AZ L a b,rfl,HJ2.out⟩⟩
end Go.Proofs.YtpohoannggdbjaaGreat
