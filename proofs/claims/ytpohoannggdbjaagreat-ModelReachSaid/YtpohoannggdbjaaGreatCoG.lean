/- Layer 06: the iterator over the reasons of two routes: its contract. -/
import Derived.Test.YtpohoannggdbjaaGreatCoF
import Derived.Test.YtpohoannggdbjaaGreatCoC
import Derived.Deep.RegionHeld3
set_option maxRecDepth 100000
set_option maxHeartbeats 200000000
namespace Go.Proofs.YtpohoannggdbjaaGreat
open Lib (hid)
open Go.RowKit
open Go.RowKit Go.Shelf
attribute [local go_sem] Oper.semAt_some
structure Qg(X Y:World):Prop where
 size:X.heap.size≤Y.heap.size
 same:∀(k:Nat) (o:Obj),X.heap[k]?=some o→(o.isCells=true∨o.isWalk=true)→Y.heap[k]?=some o
theorem Qg.t{X Y Z:World}(h:Qg X Y)(k:Qg Y Z):Qg X Z:=⟨Wd h.size k.size,fun b o hb ho=>k.same b o (h.same b o hb ho) ho⟩
theorem UM(W:World)(l:Nat)(o o':Obj)(hl:W.heap[l]?=some o)(ho:o.isCells=false)(hw:o.isWalk=false):Qg W (W.putObj l o'):=by
 refine⟨by simp,fun k p hk hp=>?_⟩;have hne:k≠l:=by
  intro e;subst e;rw[hl] at hk;injection hk with hk
  subst hk;rw[ho,hw] at hp;rcases hp with hp | hp<;>cases hp
 rw[World.putObj_heap_other hne];exact hk
theorem Nx{X Y:World}(h:Below X.heap.size X Y):Qg X Y:=⟨h.size,fun _ _ hk _=>A5 h hk⟩
theorem Qg.c{X Y:World}(h:Qg X Y):O2 X Y:=fun k _ _ _ hk=>h.same k _ hk (.inl rfl)
theorem B7.kpC{α:Type}{sz:Nat}{f:α→List Value}{w w':World}{s:Sl α}(h:B7 sz f w s)(k:O2 w w'):B7 sz f w' s:=⟨h.row.kpC k,h.len,h.cap,h.capNil⟩
theorem CM.kpC{w w':World}{r:Rt}(h:CM w r)(k:O2 w w'):CM w' r:=⟨h.nm,h.pa.kpC k,h.po.kpC k,h.ov.kpC k,h.fl.kpC k⟩
theorem E4.kpA{w w':World}{r:Nat}{f:Int→Option Bool}(h:E4 w r f)(k:Qg w w'):E4 w' r f:=by
 obtain⟨es,clock,K,h1,h2⟩:=h;exact⟨es,clock,K,k.same _ _ h1 (.inr rfl),h2⟩
theorem Vy{L:AL}{a b:Rt}{D:Bool}(hD:decide (a.sg=b.sg)=D):[D] <+: Bj L a b:=⟨a.tr.map (AB b.tr) ++ Cm a b 0 L.po.l,by unfold Bj;rw[hD];rfl⟩
theorem UQ{L:AL}{a b:Rt}{D:Bool}{k:Nat}{x:Int}{v:Bool}(hD:decide (a.sg=b.sg)=D)(hx:a.tr[k]?=some x)(hv:AB b.tr x=v):(D ::(a.tr.take k).map (AB b.tr) ++ [v]) <+: Bj L a b:=by
 refine⟨(a.tr.drop (k+1)).map (AB b.tr) ++ Cm a b 0 L.po.l,?_⟩;unfold Bj;rw[hD];have h:(a.tr.take k).map (AB b.tr) ++ [v]=(a.tr.take (k+1)).map (AB b.tr):=by rw[Wp,hx,List.map_append,← hv];rfl
 show D ::((a.tr.take k).map (AB b.tr) ++ [v] ++ ((a.tr.drop (k+1)).map (AB b.tr) ++ Cm a b 0 L.po.l))=D ::(a.tr.map (AB b.tr) ++ Cm a b 0 L.po.l);rw[h,← Wx,← List.map_append,List.take_append_drop]
theorem DX{L:AL}{a b:Rt}{D:Bool}{k:Nat}{B:Bool}(hD:decide (a.sg=b.sg)=D)(hp:(Cm a b 0 L.po.l)[k]?=some B):(D ::(a.tr.map (AB b.tr) ++ (Cm a b 0 L.po.l).take k) ++ [B]) <+: Bj L a b:=by
 refine⟨(Cm a b 0 L.po.l).drop (k+1),?_⟩;unfold Bj;rw[hD];have h:(Cm a b 0 L.po.l).take k ++ [B]=(Cm a b 0 L.po.l).take (k+1):=by rw[Wp,hp];rfl
 show D ::((a.tr.map (AB b.tr) ++ (Cm a b 0 L.po.l).take k) ++ [B] ++ (Cm a b 0 L.po.l).drop (k+1))=D ::(a.tr.map (AB b.tr) ++ Cm a b 0 L.po.l);rw[Wx (a.tr.map (AB b.tr)),h,Wx,List.take_append_drop]
structure L4(V:World)(Ba Bb Bl:Nat)(L:AL)(a b:Rt)(n2:Nat)(P1 P3 P4:Value)(A B:Array Value):Prop where
 qa:V.heap[Ba]?=some (.cells A 52)
 qb:V.heap[Bb]?=some (.cells B 52)
 ql:V.heap[Bl]?=some (.cells #[P1,.slice L.po.a n2 L.po.c,P3,P4] 27)
 po:As 2 O3 V L.po.a L.po.l
 a:CM V a
 b:CM V b
theorem L4.kpC{V V':World}{Ba Bb Bl:Nat}{L:AL}{a b:Rt}{n2:Nat}{P1 P3 P4:Value}{A B:Array Value}(h:L4 V Ba Bb Bl L a b n2 P1 P3 P4 A B)(k:O2 V V'):L4 V' Ba Bb Bl L a b n2 P1 P3 P4 A B:=⟨k _ _ _ _ h.qa,k _ _ _ _ h.qb,k _ _ _ _ h.ql,h.po.kpC k,h.a.kpC k,h.b.kpC k⟩
attribute [local irreducible] AB Av Sl.v AR Rt.tr Rt.nd
theorem I6(n:Nat)(hn:3≤n)(Ba Bb Bl:Nat)(L:AL)(a b:Rt)(n2:Nat)(P1 P3 P4:Value)(a1 a2 a3 a4 b1 b2 b3 b4:Nat)(w:World)
 (hR0:L4 w Ba Bb Bl L a b n2 P1 P3 P4 #[.string a.nm,.int .i64 a.sg,.slice a.pa.a a1 a.pa.c,.slice a.po.a a2 a.po.c,.slice a.ov.a a3 a.ov.c,.slice a.fl.a a4 a.fl.c] #[.string b.nm,.int .i64 b.sg,.slice b.pa.a b1 b.pa.c,.slice b.po.a b2 b.po.c,.slice b.ov.a b3 b.ov.c,.slice b.fl.a b4 b.fl.c])
 (hl:L.po.l.length=n2) (hn2:n2≤100000) (ha1:a.pa.l.length=a1) (ha2:a.po.l.length=a2) (ha3:a.ov.l.length=a3) (ha4:a.fl.l.length=a4) (hb1:b.pa.l.length=b1) (hb2:b.po.l.length=b2) (hb3:b.ov.l.length=b3) (hb4:b.fl.l.length=b4)
 (hla:a1+a3≤100000∧a2+a4≤100000) (hlb:b1+b3≤100000∧b2+b4≤100000) :
 SeqStopsK Fence.wide n Tryz.prog 107 #[.pointer (some ⟨Ba,0,none⟩),.pointer (some ⟨Bb,0,none⟩),.pointer (some ⟨Bl,0,none⟩)] (fun m:Bool => #[.bool m]) Qg (fun ys=>ys=Bj L a b) (fun pre=>pre <+: Bj L a b) (Bj L a b).length w:=fun lp J Jx W hW hAb hAbx hY h0=>by
 have HR:=hid (hR0.kpC (D1 hW));have HN:=hid hl;have HN2:=hid hn2;have HAb:=hid hAb;have HY:=hid hY;have H0:=hid h0;have hW0:=hW;clear hR0 hl hn2 hAb hAbx hY h0;obtain⟨D,hD⟩:=WY (decide (a.sg=b.sg));have hq:(a.sg == b.sg)=D:=by rw[← hD];rfl
 have HD:=hid hD;have x1:=A4 HR.o.qa 1 _ rfl;have y1:=A4 HR.o.qb 1 _ rfl;clear hD hW hW0;obtain⟨ma,hma⟩:=WY (a1+a3);obtain⟨mb,hmb⟩:=WY (b1+b3);have HA:=hid (And.intro ha1 (And.intro ha2 (And.intro ha3 (And.intro ha4 (And.intro hla.1 (And.intro hla.2 hma))))));have HB:=hid (And.intro hb1 (And.intro hb2 (And.intro hb3 (And.intro hb4 (And.intro hlb.1 (And.intro hlb.2 hmb))))));have HTA:Hid (a.tr.length=ma∧ma≤100000):=hid (by unfold Rt.tr;rw[Wh];omega);have HTB:Hid (b.tr.length=mb∧mb≤100000):=hid (by unfold Rt.tr;rw[Wh];omega);clear ha1 ha2 ha3 ha4 hb1 hb2 hb3 hb4 hla hlb hma hmb;have HPF:Hid ([D] <+: Bj L a b):=hid (Vy HD.o);refine callsIn_wide.2 ?_;go_enter Tryz.func107,Tryz.ntmps107;go_upto_region 0 with fail
 refine(wpIn_wide (n:=n)).1 ?_;obtain⟨fn,tmps,assign,body,hy,hRd⟩:=HY.o [] D W H0.o (by unfold Bj;simp);gi_wp2;refine⟨fun _=>by omega,?_⟩;refine hRd.mono ?_;clear hRd hy;rintro e W9 (⟨rfl,hJ',hk'⟩ | ⟨rfl,hJx⟩);rotate_left
 ·gi_wp2;go_wp2_with fail;refine bodyPost_ret (results_none rfl _ _ _) rfl ?_;exact⟨⟨_,rfl⟩,.inr ⟨_,HPF.o,hJx⟩⟩
 have hr:=HR.o.kpC hk'.c;clear HR x1 y1 hq hk';have HR:=hid hr;have HJ:Hid (J [D] W9):=hid hJ';clear hr hJ';gi_wp2;go_upto_region 1 with fail
 have HS:Hid (∀ w',Below W9.heap.size W9 w'→(w'.cell? ⟨Ba,0,none⟩=some (.string a.nm)∧w'.cell? ⟨Ba,1,none⟩=some (.int .i64 a.sg)∧w'.cell? ⟨Ba,2,none⟩=some (.slice a.pa.a a1 a.pa.c)∧w'.cell? ⟨Ba,3,none⟩=some (.slice a.po.a a2 a.po.c)∧w'.cell? ⟨Ba,4,none⟩=some (.slice a.ov.a a3 a.ov.c)∧w'.cell? ⟨Ba,5,none⟩=some (.slice a.fl.a a4 a.fl.c))∧(w'.cell? ⟨Bb,0,none⟩=some (.string b.nm)∧w'.cell? ⟨Bb,1,none⟩=some (.int .i64 b.sg)∧w'.cell? ⟨Bb,2,none⟩=some (.slice b.pa.a b1 b.pa.c)∧w'.cell? ⟨Bb,3,none⟩=some (.slice b.po.a b2 b.po.c)∧w'.cell? ⟨Bb,4,none⟩=some (.slice b.ov.a b3 b.ov.c)∧w'.cell? ⟨Bb,5,none⟩=some (.slice b.fl.a b4 b.fl.c))):=hid (fun w' hw'=>by
  have q:=HR.o.kpC (D1 hw');exact⟨⟨A4 q.qa 0 _ rfl,A4 q.qa 1 _ rfl,A4 q.qa 2 _ rfl,A4 q.qa 3 _ rfl,A4 q.qa 4 _ rfl,A4 q.qa 5 _ rfl⟩,⟨A4 q.qb 0 _ rfl,A4 q.qb 1 _ rfl,A4 q.qb 2 _ rfl,A4 q.qb 3 _ rfl,A4 q.qb 4 _ rfl,A4 q.qb 5 _ rfl⟩⟩)
 have TA:Hid (∀ V,Below W9.heap.size W9 V→Calls Tryz.prog 29 #[.agg #[.string a.nm,.int .i64 a.sg,.slice a.pa.a a1 a.pa.c,.slice a.po.a a2 a.po.c,.slice a.ov.a a3 a.ov.c,.slice a.fl.a a4 a.fl.c]] V fun e w'=>∃ x n c,e = .returned (.slice x n c)∧n=ma∧B7 1 AT w' ⟨x,c,a.tr⟩∧Below V.heap.size V w'):=hid (fun V hV=>by
  have h:=Hu a V (HR.o.a.below hV) (by have:=HA.o;omega);rw[Ak HA.o.1,Ak HA.o.2.1,Ak HA.o.2.2.1,Ak HA.o.2.2.2.1,HA.o.1,HA.o.2.2.1,HA.o.2.2.2.2.2.2] at h;unfold Rt.tr;exact h)
 have TB:Hid (∀ V,Below W9.heap.size W9 V→Calls Tryz.prog 29 #[.agg #[.string b.nm,.int .i64 b.sg,.slice b.pa.a b1 b.pa.c,.slice b.po.a b2 b.po.c,.slice b.ov.a b3 b.ov.c,.slice b.fl.a b4 b.fl.c]] V fun e w'=>∃ x n c,e = .returned (.slice x n c)∧n=mb∧B7 1 AT w' ⟨x,c,b.tr⟩∧Below V.heap.size V w'):=hid (fun V hV=>by
  have h:=Hu b V (HR.o.b.below hV) (by have:=HB.o;omega);rw[Ak HB.o.1,Ak HB.o.2.1,Ak HB.o.2.2.1,Ak HB.o.2.2.2.1,HB.o.1,HB.o.2.2.1,HB.o.2.2.2.2.2.2] at h;unfold Rt.tr;exact h)
 go_region_held3 (fun w'=>(w'.cell? ⟨Ba,0,none⟩=some (.string a.nm)∧w'.cell? ⟨Ba,1,none⟩=some (.int .i64 a.sg)∧w'.cell? ⟨Ba,2,none⟩=some (.slice a.pa.a a1 a.pa.c)∧w'.cell? ⟨Ba,3,none⟩=some (.slice a.po.a a2 a.po.c)∧w'.cell? ⟨Ba,4,none⟩=some (.slice a.ov.a a3 a.ov.c)∧w'.cell? ⟨Ba,5,none⟩=some (.slice a.fl.a a4 a.fl.c))∧(w'.cell? ⟨Bb,0,none⟩=some (.string b.nm)∧w'.cell? ⟨Bb,1,none⟩=some (.int .i64 b.sg)∧w'.cell? ⟨Bb,2,none⟩=some (.slice b.pa.a b1 b.pa.c)∧w'.cell? ⟨Bb,3,none⟩=some (.slice b.po.a b2 b.po.c)∧w'.cell? ⟨Bb,4,none⟩=some (.slice b.ov.a b3 b.ov.c)∧w'.cell? ⟨Bb,5,none⟩=some (.slice b.fl.a b4 b.fl.c)))
  (exact HS.o _ (by first | exact(VU _ W9) | exact(VU _ W9).drew | assumption))
  (first
    | ((with_reducible refine(TA.o _ (by first | exact(VU _ W9) | exact(VU _ W9).drew | assumption)).mono ?_);rintro e w1 ⟨ta,tn,tc,rfl,hnt,hst,hbt⟩;have hBt:Below W9.heap.size W9 w1:=A6 (by first | exact(VU _ W9) | exact(VU _ W9).drew | assumption) hbt)
    | ((with_reducible refine(TB.o _ (by first | exact hBt | exact hBt.drew | assumption)).mono ?_);rintro e w2 ⟨ua,un,uc,rfl,hnu,hsu,hbu⟩;have hBu:Below W9.heap.size W9 w2:=A6 (by first | exact hBt | exact hBt.drew | assumption) hbu))
 obtain rfl:ma=tn:=hnt.symm;obtain rfl:mb=un:=hnu.symm;have hr:=HR.o.kpC (D1 hBu);have ht:=hst.below (show Below w1.heap.size w1 w2 by first | exact hbu | exact E6 hbu);have hj:=HAb.o _ _ _ none HJ.o (DB hBu) (fun r e=>by cases e);clear HR HS HJ TA TB;have HR:=hid hr;have HT:=hid ht;have HU:=hid hsu;have HJ:=hid hj;clear hr ht hsu hj hst hbt hBt hbu hBu;go_upto_region 3 with fail
 go_loopg [8,33] ma (fun g _ i wr=>∃ k:Nat,k+g=ma∧i = .int .i64 (k:Int)∧J (D ::(a.tr.take k).map (AB b.tr)) wr∧L4 wr Ba Bb Bl L a b n2 P1 P3 P4 #[.string a.nm,.int .i64 a.sg,.slice a.pa.a a1 a.pa.c,.slice a.po.a a2 a.po.c,.slice a.ov.a a3 a.ov.c,.slice a.fl.a a4 a.fl.c] #[.string b.nm,.int .i64 b.sg,.slice b.pa.a b1 b.pa.c,.slice b.po.a b2 b.po.c,.slice b.ov.a b3 b.ov.c,.slice b.fl.a b4 b.fl.c]∧B7 1 AT wr ⟨ta,tc,a.tr⟩∧B7 1 AT wr ⟨ua,uc,b.tr⟩)
 case atStart=>exact⟨0,by omega,rfl,HJ.o,HR.o,HT.o,HU.o⟩
 case round=>
  obtain⟨k,hk,rfl,hj,hr,ht,hu⟩:=hrel;clear HR HT HU HJ;have HR:=hid hr;have HT:=hid ht;have HU:=hid hu;have HJ:=hid hj;clear hr ht hu hj;by_cases hlt:k<ma
  ·obtain⟨x,hx⟩:∃ x,a.tr[k]?=some x:=⟨_,Wb (by rw[HTA.o.1];exact hlt)⟩;have hrow:=HT.o.row
   try dsimp only at hrow
   rcases hrow with hnil | ⟨xb,off,hxb,hc⟩
   ·rw[hnil] at hx;simp at hx
   have z0:=hc k _ hx 0 _ rfl;rw[Wa,Nat.mul_one] at z0;have HX:=hid hx;have HXB:=hid hxb;have d1:(0:Int)≤k:=(by omega);have d2:(k:Int)<ma:=(by omega);have E0:Hid (wrap64 ((k:Int)+1)=(k:Int)+1):=hid (by have:=HTA.o;unfold wrap64;omega);have HK:=hid hk;obtain⟨v,hv⟩:=WY (AB b.tr x);have HIN:=hid (Cq v ua mb uc b.tr x wr hv HTB.o.1 (by have:=HTB.o.2;omega) HU.o.row);have HJN:Hid (∀ V,J (D ::(a.tr.take k).map (AB b.tr) ++ [v]) V→J (D ::(a.tr.take (k+1)).map (AB b.tr)) V):=hid (fun V h=>by rw[Wp,HX.o,List.map_append];show J (D ::((a.tr.take k).map (AB b.tr) ++ [AB b.tr x])) V;rw[hv];exact h);have HLE:Hid ((D ::(a.tr.take k).map (AB b.tr)).length<(Bj L a b).length):=hid (by unfold Bj;simp only[WK,Wh,Ws,Wu];have:=HTA.o.1;omega);have HLT:=hid hlt;clear HPF;have HPF:=hid (UQ (L:=L) HD.o hx hv);rw[hxb];clear hc hx hk hxb hv hlt;go_upto_region 5 with fail
   clear z0 d1 d2;refine(wpIn_wide (n:=n)).1 ?_;obtain⟨fn,tmps,assign,body,hy,hRd⟩:=HY.o (D ::(a.tr.take k).map (AB b.tr)) v wr HJ.o (HLE.o);gi_wp2;refine⟨trivial,fun _=>by omega,?_⟩;refine(callsIn_wide.2 HIN.o).mono ?_;rintro e w3 ⟨rfl,rfl⟩;gi_wp2;refine⟨fun _=>by omega,?_⟩;refine hRd.mono ?_;clear hRd hy;rintro e W9 (⟨rfl,hJ',hk'⟩ | ⟨rfl,hJx⟩);rotate_left
   ·gi_wp2;go_wp2_with fail;refine bodyPost_ret (results_none rfl _ _ _) rfl ?_;exact⟨⟨_,rfl⟩,.inr ⟨_,HPF.o,hJx⟩⟩
   have hr:=HR.o.kpC hk'.c;have ht:=HT.o.kpC hk'.c;have hu:=HU.o.kpC hk'.c;have hj:=HJN.o _ hJ';have HR2:=hid hr;have HT2:=hid ht;have HU2:=hid hu;have HJ2:=hid hj;clear hr ht hu hj hk' hJ' HR HT HU HJ;gi_wp2;have e0:=E0.o;go_wp2_with fail;rw[← HXB.o];go_roundg (ma - (k+1))
   case rel=>exact⟨k+1,by have:=HK.o;have:=HLT.o;omega,by go_num,HJ2.o,HR2.o,HT2.o,HU2.o⟩
   case measure=>have:=HK.o;have:=HLT.o;omega
  ·have hkm:k=ma:=(by omega);have d2:¬ (k:Int)<ma:=(by omega);have hj:=HJ.o;rw[Wo (by rw[HTA.o.1];omega)] at hj;have HJ2:=hid hj;clear HJ hj hk hlt hkm;go_upto_region 7 with fail
   clear d2;have HS:Hid (∀ w',Below wr.heap.size wr w'→(w'.cell? ⟨Ba,0,none⟩=some (.string a.nm)∧w'.cell? ⟨Ba,1,none⟩=some (.int .i64 a.sg)∧w'.cell? ⟨Ba,2,none⟩=some (.slice a.pa.a a1 a.pa.c)∧w'.cell? ⟨Ba,3,none⟩=some (.slice a.po.a a2 a.po.c)∧w'.cell? ⟨Ba,4,none⟩=some (.slice a.ov.a a3 a.ov.c)∧w'.cell? ⟨Ba,5,none⟩=some (.slice a.fl.a a4 a.fl.c))∧(w'.cell? ⟨Bb,0,none⟩=some (.string b.nm)∧w'.cell? ⟨Bb,1,none⟩=some (.int .i64 b.sg)∧w'.cell? ⟨Bb,2,none⟩=some (.slice b.pa.a b1 b.pa.c)∧w'.cell? ⟨Bb,3,none⟩=some (.slice b.po.a b2 b.po.c)∧w'.cell? ⟨Bb,4,none⟩=some (.slice b.ov.a b3 b.ov.c)∧w'.cell? ⟨Bb,5,none⟩=some (.slice b.fl.a b4 b.fl.c))):=hid (fun w' hw'=>by
    have q:=HR.o.kpC (D1 hw');exact⟨⟨A4 q.qa 0 _ rfl,A4 q.qa 1 _ rfl,A4 q.qa 2 _ rfl,A4 q.qa 3 _ rfl,A4 q.qa 4 _ rfl,A4 q.qa 5 _ rfl⟩,⟨A4 q.qb 0 _ rfl,A4 q.qb 1 _ rfl,A4 q.qb 2 _ rfl,A4 q.qb 3 _ rfl,A4 q.qb 4 _ rfl,A4 q.qb 5 _ rfl⟩⟩)
   have SA:Hid (∀ V,Below wr.heap.size wr V→Calls Tryz.prog 108 #[.agg #[.string a.nm,.int .i64 a.sg,.slice a.pa.a a1 a.pa.c,.slice a.po.a a2 a.po.c,.slice a.ov.a a3 a.ov.c,.slice a.fl.a a4 a.fl.c]] V fun e w'=>∃ g,e = .returned (.map (some g))∧E4 w' g (Av a.nd)∧Below V.heap.size V w'):=hid (fun V hV=>by
    have h:=KU a V (HR.o.a.below hV) (by have:=HA.o;omega);rw[Ak HA.o.1,Ak HA.o.2.1,Ak HA.o.2.2.1,Ak HA.o.2.2.2.1] at h;exact h)
   have SB:Hid (∀ V,Below wr.heap.size wr V→Calls Tryz.prog 108 #[.agg #[.string b.nm,.int .i64 b.sg,.slice b.pa.a b1 b.pa.c,.slice b.po.a b2 b.po.c,.slice b.ov.a b3 b.ov.c,.slice b.fl.a b4 b.fl.c]] V fun e w'=>∃ g,e = .returned (.map (some g))∧E4 w' g (Av b.nd)∧Below V.heap.size V w'):=hid (fun V hV=>by
    have h:=KU b V (HR.o.b.below hV) (by have:=HB.o;omega);rw[Ak HB.o.1,Ak HB.o.2.1,Ak HB.o.2.2.1,Ak HB.o.2.2.2.1] at h;exact h)
   go_region_held3 (fun w'=>(w'.cell? ⟨Ba,0,none⟩=some (.string a.nm)∧w'.cell? ⟨Ba,1,none⟩=some (.int .i64 a.sg)∧w'.cell? ⟨Ba,2,none⟩=some (.slice a.pa.a a1 a.pa.c)∧w'.cell? ⟨Ba,3,none⟩=some (.slice a.po.a a2 a.po.c)∧w'.cell? ⟨Ba,4,none⟩=some (.slice a.ov.a a3 a.ov.c)∧w'.cell? ⟨Ba,5,none⟩=some (.slice a.fl.a a4 a.fl.c))∧(w'.cell? ⟨Bb,0,none⟩=some (.string b.nm)∧w'.cell? ⟨Bb,1,none⟩=some (.int .i64 b.sg)∧w'.cell? ⟨Bb,2,none⟩=some (.slice b.pa.a b1 b.pa.c)∧w'.cell? ⟨Bb,3,none⟩=some (.slice b.po.a b2 b.po.c)∧w'.cell? ⟨Bb,4,none⟩=some (.slice b.ov.a b3 b.ov.c)∧w'.cell? ⟨Bb,5,none⟩=some (.slice b.fl.a b4 b.fl.c)))
    (exact HS.o _ (by first | exact(VU _ wr) | exact(VU _ wr).drew | assumption))
    (first
      | ((with_reducible refine(SA.o _ (by first | exact(VU _ wr) | exact(VU _ wr).drew | assumption)).mono ?_);rintro e v1 ⟨gx,rfl,hsx,hbx⟩;have hBx:Below wr.heap.size wr v1:=A6 (by first | exact(VU _ wr) | exact(VU _ wr).drew | assumption) hbx)
      | ((with_reducible refine(SB.o _ (by first | exact hBx | exact hBx.drew | assumption)).mono ?_);rintro e v2 ⟨gy,rfl,hsy,hby⟩;have hBy:Below wr.heap.size wr v2:=A6 (by first | exact hBx | exact hBx.drew | assumption) hby))
   have hr:=HR.o.kpC (D1 hBy);have ht:=HT.o.below hBy;have hu:=HU.o.below hBy;have hx:=hsx.below (show Below v1.heap.size v1 v2 by first | exact hby | exact E6 hby);have hj:=HAb.o _ _ _ none HJ2.o (DB hBy) (fun r e=>by cases e);clear HR HS SA SB HT HU HJ2;have HR:=hid hr;have HT:=hid ht;have HU:=hid hu;have HJ:=hid hj;have HXM:=hid hx;have HYM:=hid hsy;have l1:=A4 HR.o.ql 1 _ rfl;clear hr ht hu hj hx hsy hsx hbx hBx hby hBy;go_upto_region 9 with fail
   clear l1;go_loopg [11,12,13,14,15,16,17,18,51] n2 (fun g _ _ _ _ _ _ _ _ i wr=>∃ k:Nat,k+g=n2∧i = .int .i64 (k:Int)∧J (D ::(a.tr.map (AB b.tr) ++ (Cm a b 0 L.po.l).take k)) wr∧L4 wr Ba Bb Bl L a b n2 P1 P3 P4 #[.string a.nm,.int .i64 a.sg,.slice a.pa.a a1 a.pa.c,.slice a.po.a a2 a.po.c,.slice a.ov.a a3 a.ov.c,.slice a.fl.a a4 a.fl.c] #[.string b.nm,.int .i64 b.sg,.slice b.pa.a b1 b.pa.c,.slice b.po.a b2 b.po.c,.slice b.ov.a b3 b.ov.c,.slice b.fl.a b4 b.fl.c]∧B7 1 AT wr ⟨ta,tc,a.tr⟩∧B7 1 AT wr ⟨ua,uc,b.tr⟩∧E4 wr gx (Av a.nd)∧E4 wr gy (Av b.nd))
   case atStart=>exact⟨0,by omega,rfl,by rw[List.take_zero,Wt];exact HJ.o,HR.o,HT.o,HU.o,HXM.o,HYM.o⟩
   case round=>
    obtain⟨k,hk,rfl,hj,hr,ht,hu,hx,hy⟩:=hrel;clear HR HT HU HJ HXM HYM;have HR:=hid hr;have HT:=hid ht;have HU:=hid hu;have HJ:=hid hj;have HXM:=hid hx;have HYM:=hid hy;clear hr ht hu hj hx hy;by_cases hlt:k<n2
    ·obtain⟨⟨y0,s1⟩,hy⟩:∃ y,L.po.l[k]?=some y:=⟨_,Wb (by rw[HN.o];exact hlt)⟩;rcases HR.o.po with hnil | ⟨xb,off,hxb,hc⟩
     ·rw[hnil] at hy;simp at hy
     have z0:=hc k _ hy 0 _ rfl;have z1:=hc k _ hy 1 _ rfl;rw[Wa] at z0;dsimp only at z0 z1;have HXB:=hid hxb;have d1:(0:Int)≤k:=(by omega);have d2:(k:Int)<n2:=(by omega);have E0:Hid (wrap64 ((k:Int)+1)=(k:Int)+1):=hid (by have:=HN2.o;unfold wrap64;omega);have HK:=hid hk;have HLT:=hid hlt;have HJN:Hid (∀ B,AR a.tr b.tr (Av a.nd (k:Int)) (Av b.nd (k:Int)) s1=B→∀ V,J (D ::(a.tr.map (AB b.tr) ++ (Cm a b 0 L.po.l).take k) ++ [B]) V→J (D ::(a.tr.map (AB b.tr) ++ (Cm a b 0 L.po.l).take (k+1))) V):=hid (fun B hB V h=>by
      have hp:=Fu (a:=a) (b:=b) (k:=0) hy;rw[Wq,hB] at hp;rw[Wp,hp];show J (D ::(a.tr.map (AB b.tr) ++ ((Cm a b 0 L.po.l).take k ++ [B]))) V;rw[← Wx];exact h)
     have HYP:Hid (∀ B,AR a.tr b.tr (Av a.nd (k:Int)) (Av b.nd (k:Int)) s1=B→(Cm a b 0 L.po.l)[k]?=some B):=hid (fun B hB=>by
      have hp:=Fu (a:=a) (b:=b) (k:=0) hy;rw[Wq,hB] at hp;exact hp)
     clear HPF;have HLE:Hid ((D ::(a.tr.map (AB b.tr) ++ (Cm a b 0 L.po.l).take k)).length<(Bj L a b).length):=hid (by unfold Bj;simp only[WK,Wh,Ws,Wu,H8];have:=HN.o;omega);have hb4:=Ac wr (.cells #[.string y0,.int .i64 s1] 68);have hc4:=Al wr (.cells #[.string y0,.int .i64 s1] 68) (VU _ _);obtain⟨W4,hW4⟩:=X0 (wr.alloc (.cells #[.string y0,.int .i64 s1] 68));rw[← hW4] at hb4 hc4;have hr:=HR.o.kpC (D1 hb4);have ht:=HT.o.below hb4;have hu:=HU.o.below hb4;have hx:=HXM.o.below hb4;have hy4:=HYM.o.below hb4;have hj:=HAb.o _ _ _ none HJ.o (DB hb4) (fun r e=>by cases e);clear HR HT HU HJ HXM HYM;have HR:=hid hr;have HT:=hid ht;have HU:=hid hu;have HJ:=hid hj;have HXM:=hid hx;have HYM:=hid hy4;have lkx:=Hl (p:=(k:Int)) HXM.o;have lky:=Hl (p:=(k:Int)) HYM.o;have HWW:=hid hW4;obtain⟨gp,hgp⟩:=X0 wr.heap.size;rw[← hgp] at hc4;have HGP:=hid hgp;have c1:=A4 hc4 1 _ rfl;rw[hxb];clear hc hy hk hlt hxb hb4 hc4 hr ht hu hx hy4 hj hW4 hgp;go_upto_region 11 with fail
     rw[← HWW.o,← HGP.o,← HXB.o];clear z0 z1 d1 d2;rcases hX:Av a.nd (k:Int) with _ | (_ | _)<;>rcases hY:Av b.nd (k:Int) with _ | (_ | _)
     ·have HXV:Hid (Av a.nd (k:Int)=none):=hid hX;have HYV:Hid (Av b.nd (k:Int)=none):=hid hY;rw[hX] at lkx;rw[hY] at lky;dsimp only[Option.getD,Option.isSome] at lkx lky;clear hX hY;go_upto_region 15 with fail
      clear c1 lkx lky;have HBD:Hid (AR a.tr b.tr (Av a.nd (k:Int)) (Av b.nd (k:Int)) s1=false):=hid (by rw[HXV.o,HYV.o];unfold AR;cases AB a.tr s1<;>cases AB b.tr s1<;>rfl);have HPF:=hid (DX (L:=L) HD.o (HYP.o _ HBD.o));refine(wpIn_wide (n:=n)).1 ?_;obtain⟨fn,tmps,assign,body,hy,hRd⟩:=HY.o (D ::(a.tr.map (AB b.tr) ++ (Cm a b 0 L.po.l).take k)) false W4 HJ.o (HLE.o);gi_wp2;refine⟨fun _=>by omega,?_⟩;refine hRd.mono ?_;clear hRd hy;rintro e W9 (⟨rfl,hJ',hk'⟩ | ⟨rfl,hJx⟩);rotate_left
      ·gi_wp2;go_wp2_with fail;refine bodyPost_ret (results_none rfl _ _ _) rfl ?_;exact⟨⟨_,rfl⟩,.inr ⟨_,HPF.o,hJx⟩⟩
      have hr:=HR.o.kpC hk'.c;have ht:=HT.o.kpC hk'.c;have hu:=HU.o.kpC hk'.c;have hx:=HXM.o.kpA hk';have hy:=HYM.o.kpA hk';have hj:=HJN.o _ HBD.o _ hJ';have HR2:=hid hr;have HT2:=hid ht;have HU2:=hid hu;have HJ2:=hid hj;have HX2:=hid hx;have HY2:=hid hy;clear hr ht hu hj hx hy hk' hJ' HR HT HU HJ HXM HYM;gi_wp2;have e0:=E0.o;go_wp2_with fail;go_roundg (n2 - (k+1))
      case rel=>exact⟨k+1,by have:=HK.o;have:=HLT.o;omega,by go_num,HJ2.o,HR2.o,HT2.o,HU2.o,HX2.o,HY2.o⟩
      case measure=>have:=HK.o;have:=HLT.o;omega
     ·have HXV:Hid (Av a.nd (k:Int)=none):=hid hX;have HYV:Hid (Av b.nd (k:Int)=(some false)):=hid hY;rw[hX] at lkx;rw[hY] at lky;dsimp only[Option.getD,Option.isSome] at lkx lky;clear hX hY;obtain⟨E,hE⟩:=WY (AB a.tr s1);have HIN:=hid (Cq E ta ma tc a.tr s1 W4 hE HTA.o.1 (by have:=HTA.o.2;omega) HT.o.row);have HE:=hid hE;clear hE;go_upto_region 14 with fail
      go_wp2_with fail;refine HIN.o.mono ?_;rintro e w8 ⟨rfl,rfl⟩;clear HIN c1 lkx lky;cases E with
      | true=>
        go_upto_region 15 with fail
        have HBD:Hid (AR a.tr b.tr (Av a.nd (k:Int)) (Av b.nd (k:Int)) s1=true):=hid (by rw[HXV.o,HYV.o];unfold AR;rw[HE.o];cases AB b.tr s1<;>rfl);have HPF:=hid (DX (L:=L) HD.o (HYP.o _ HBD.o));refine(wpIn_wide (n:=n)).1 ?_;obtain⟨fn,tmps,assign,body,hy,hRd⟩:=HY.o (D ::(a.tr.map (AB b.tr) ++ (Cm a b 0 L.po.l).take k)) true W4 HJ.o (HLE.o);gi_wp2;refine⟨fun _=>by omega,?_⟩;refine hRd.mono ?_;clear hRd hy;rintro e W9 (⟨rfl,hJ',hk'⟩ | ⟨rfl,hJx⟩);rotate_left
        ·gi_wp2;go_wp2_with fail;refine bodyPost_ret (results_none rfl _ _ _) rfl ?_;exact⟨⟨_,rfl⟩,.inr ⟨_,HPF.o,hJx⟩⟩
        have hr:=HR.o.kpC hk'.c;have ht:=HT.o.kpC hk'.c;have hu:=HU.o.kpC hk'.c;have hx:=HXM.o.kpA hk';have hy:=HYM.o.kpA hk';have hj:=HJN.o _ HBD.o _ hJ';have HR2:=hid hr;have HT2:=hid ht;have HU2:=hid hu;have HJ2:=hid hj;have HX2:=hid hx;have HY2:=hid hy;clear hr ht hu hj hx hy hk' hJ' HR HT HU HJ HXM HYM;gi_wp2;have e0:=E0.o;go_wp2_with fail;go_roundg (n2 - (k+1))
        case rel=>exact⟨k+1,by have:=HK.o;have:=HLT.o;omega,by go_num,HJ2.o,HR2.o,HT2.o,HU2.o,HX2.o,HY2.o⟩
        case measure=>have:=HK.o;have:=HLT.o;omega
      | false=>
        go_upto_region 15 with fail
        have HBD:Hid (AR a.tr b.tr (Av a.nd (k:Int)) (Av b.nd (k:Int)) s1=false):=hid (by rw[HXV.o,HYV.o];unfold AR;rw[HE.o];cases AB b.tr s1<;>rfl);have HPF:=hid (DX (L:=L) HD.o (HYP.o _ HBD.o));refine(wpIn_wide (n:=n)).1 ?_;obtain⟨fn,tmps,assign,body,hy,hRd⟩:=HY.o (D ::(a.tr.map (AB b.tr) ++ (Cm a b 0 L.po.l).take k)) false W4 HJ.o (HLE.o);gi_wp2;refine⟨fun _=>by omega,?_⟩;refine hRd.mono ?_;clear hRd hy;rintro e W9 (⟨rfl,hJ',hk'⟩ | ⟨rfl,hJx⟩);rotate_left
        ·gi_wp2;go_wp2_with fail;refine bodyPost_ret (results_none rfl _ _ _) rfl ?_;exact⟨⟨_,rfl⟩,.inr ⟨_,HPF.o,hJx⟩⟩
        have hr:=HR.o.kpC hk'.c;have ht:=HT.o.kpC hk'.c;have hu:=HU.o.kpC hk'.c;have hx:=HXM.o.kpA hk';have hy:=HYM.o.kpA hk';have hj:=HJN.o _ HBD.o _ hJ';have HR2:=hid hr;have HT2:=hid ht;have HU2:=hid hu;have HJ2:=hid hj;have HX2:=hid hx;have HY2:=hid hy;clear hr ht hu hj hx hy hk' hJ' HR HT HU HJ HXM HYM;gi_wp2;have e0:=E0.o;go_wp2_with fail;go_roundg (n2 - (k+1))
        case rel=>exact⟨k+1,by have:=HK.o;have:=HLT.o;omega,by go_num,HJ2.o,HR2.o,HT2.o,HU2.o,HX2.o,HY2.o⟩
        case measure=>have:=HK.o;have:=HLT.o;omega
     ·have HXV:Hid (Av a.nd (k:Int)=none):=hid hX;have HYV:Hid (Av b.nd (k:Int)=(some true)):=hid hY;rw[hX] at lkx;rw[hY] at lky;dsimp only[Option.getD,Option.isSome] at lkx lky;clear hX hY;obtain⟨E,hE⟩:=WY (AB a.tr s1);have HIN:=hid (Cq E ta ma tc a.tr s1 W4 hE HTA.o.1 (by have:=HTA.o.2;omega) HT.o.row);have HE:=hid hE;clear hE;go_upto_region 14 with fail
      go_wp2_with fail;refine HIN.o.mono ?_;rintro e w8 ⟨rfl,rfl⟩;clear HIN c1 lkx lky;cases E with
      | true=>
        go_upto_region 15 with fail
        have HBD:Hid (AR a.tr b.tr (Av a.nd (k:Int)) (Av b.nd (k:Int)) s1=true):=hid (by rw[HXV.o,HYV.o];unfold AR;rw[HE.o];cases AB b.tr s1<;>rfl);have HPF:=hid (DX (L:=L) HD.o (HYP.o _ HBD.o));refine(wpIn_wide (n:=n)).1 ?_;obtain⟨fn,tmps,assign,body,hy,hRd⟩:=HY.o (D ::(a.tr.map (AB b.tr) ++ (Cm a b 0 L.po.l).take k)) true W4 HJ.o (HLE.o);gi_wp2;refine⟨fun _=>by omega,?_⟩;refine hRd.mono ?_;clear hRd hy;rintro e W9 (⟨rfl,hJ',hk'⟩ | ⟨rfl,hJx⟩);rotate_left
        ·gi_wp2;go_wp2_with fail;refine bodyPost_ret (results_none rfl _ _ _) rfl ?_;exact⟨⟨_,rfl⟩,.inr ⟨_,HPF.o,hJx⟩⟩
        have hr:=HR.o.kpC hk'.c;have ht:=HT.o.kpC hk'.c;have hu:=HU.o.kpC hk'.c;have hx:=HXM.o.kpA hk';have hy:=HYM.o.kpA hk';have hj:=HJN.o _ HBD.o _ hJ';have HR2:=hid hr;have HT2:=hid ht;have HU2:=hid hu;have HJ2:=hid hj;have HX2:=hid hx;have HY2:=hid hy;clear hr ht hu hj hx hy hk' hJ' HR HT HU HJ HXM HYM;gi_wp2;have e0:=E0.o;go_wp2_with fail;go_roundg (n2 - (k+1))
        case rel=>exact⟨k+1,by have:=HK.o;have:=HLT.o;omega,by go_num,HJ2.o,HR2.o,HT2.o,HU2.o,HX2.o,HY2.o⟩
        case measure=>have:=HK.o;have:=HLT.o;omega
      | false=>
        go_upto_region 15 with fail
        have HBD:Hid (AR a.tr b.tr (Av a.nd (k:Int)) (Av b.nd (k:Int)) s1=false):=hid (by rw[HXV.o,HYV.o];unfold AR;rw[HE.o];cases AB b.tr s1<;>rfl);have HPF:=hid (DX (L:=L) HD.o (HYP.o _ HBD.o));refine(wpIn_wide (n:=n)).1 ?_;obtain⟨fn,tmps,assign,body,hy,hRd⟩:=HY.o (D ::(a.tr.map (AB b.tr) ++ (Cm a b 0 L.po.l).take k)) false W4 HJ.o (HLE.o);gi_wp2;refine⟨fun _=>by omega,?_⟩;refine hRd.mono ?_;clear hRd hy;rintro e W9 (⟨rfl,hJ',hk'⟩ | ⟨rfl,hJx⟩);rotate_left
        ·gi_wp2;go_wp2_with fail;refine bodyPost_ret (results_none rfl _ _ _) rfl ?_;exact⟨⟨_,rfl⟩,.inr ⟨_,HPF.o,hJx⟩⟩
        have hr:=HR.o.kpC hk'.c;have ht:=HT.o.kpC hk'.c;have hu:=HU.o.kpC hk'.c;have hx:=HXM.o.kpA hk';have hy:=HYM.o.kpA hk';have hj:=HJN.o _ HBD.o _ hJ';have HR2:=hid hr;have HT2:=hid ht;have HU2:=hid hu;have HJ2:=hid hj;have HX2:=hid hx;have HY2:=hid hy;clear hr ht hu hj hx hy hk' hJ' HR HT HU HJ HXM HYM;gi_wp2;have e0:=E0.o;go_wp2_with fail;go_roundg (n2 - (k+1))
        case rel=>exact⟨k+1,by have:=HK.o;have:=HLT.o;omega,by go_num,HJ2.o,HR2.o,HT2.o,HU2.o,HX2.o,HY2.o⟩
        case measure=>have:=HK.o;have:=HLT.o;omega
     ·have HXV:Hid (Av a.nd (k:Int)=(some false)):=hid hX;have HYV:Hid (Av b.nd (k:Int)=none):=hid hY;rw[hX] at lkx;rw[hY] at lky;dsimp only[Option.getD,Option.isSome] at lkx lky;clear hX hY;obtain⟨E,hE⟩:=WY (AB b.tr s1);have HIN:=hid (Cq E ua mb uc b.tr s1 W4 hE HTB.o.1 (by have:=HTB.o.2;omega) HU.o.row);have HE:=hid hE;clear hE;go_upto_region 14 with fail
      go_wp2_with fail;refine HIN.o.mono ?_;rintro e w8 ⟨rfl,rfl⟩;clear HIN c1 lkx lky;cases E with
      | true=>
        go_upto_region 15 with fail
        have HBD:Hid (AR a.tr b.tr (Av a.nd (k:Int)) (Av b.nd (k:Int)) s1=true):=hid (by rw[HXV.o,HYV.o];unfold AR;rw[HE.o];cases AB a.tr s1<;>rfl);have HPF:=hid (DX (L:=L) HD.o (HYP.o _ HBD.o));refine(wpIn_wide (n:=n)).1 ?_;obtain⟨fn,tmps,assign,body,hy,hRd⟩:=HY.o (D ::(a.tr.map (AB b.tr) ++ (Cm a b 0 L.po.l).take k)) true W4 HJ.o (HLE.o);gi_wp2;refine⟨fun _=>by omega,?_⟩;refine hRd.mono ?_;clear hRd hy;rintro e W9 (⟨rfl,hJ',hk'⟩ | ⟨rfl,hJx⟩);rotate_left
        ·gi_wp2;go_wp2_with fail;refine bodyPost_ret (results_none rfl _ _ _) rfl ?_;exact⟨⟨_,rfl⟩,.inr ⟨_,HPF.o,hJx⟩⟩
        have hr:=HR.o.kpC hk'.c;have ht:=HT.o.kpC hk'.c;have hu:=HU.o.kpC hk'.c;have hx:=HXM.o.kpA hk';have hy:=HYM.o.kpA hk';have hj:=HJN.o _ HBD.o _ hJ';have HR2:=hid hr;have HT2:=hid ht;have HU2:=hid hu;have HJ2:=hid hj;have HX2:=hid hx;have HY2:=hid hy;clear hr ht hu hj hx hy hk' hJ' HR HT HU HJ HXM HYM;gi_wp2;have e0:=E0.o;go_wp2_with fail;go_roundg (n2 - (k+1))
        case rel=>exact⟨k+1,by have:=HK.o;have:=HLT.o;omega,by go_num,HJ2.o,HR2.o,HT2.o,HU2.o,HX2.o,HY2.o⟩
        case measure=>have:=HK.o;have:=HLT.o;omega
      | false=>
        go_upto_region 15 with fail
        have HBD:Hid (AR a.tr b.tr (Av a.nd (k:Int)) (Av b.nd (k:Int)) s1=false):=hid (by rw[HXV.o,HYV.o];unfold AR;rw[HE.o];cases AB a.tr s1<;>rfl);have HPF:=hid (DX (L:=L) HD.o (HYP.o _ HBD.o));refine(wpIn_wide (n:=n)).1 ?_;obtain⟨fn,tmps,assign,body,hy,hRd⟩:=HY.o (D ::(a.tr.map (AB b.tr) ++ (Cm a b 0 L.po.l).take k)) false W4 HJ.o (HLE.o);gi_wp2;refine⟨fun _=>by omega,?_⟩;refine hRd.mono ?_;clear hRd hy;rintro e W9 (⟨rfl,hJ',hk'⟩ | ⟨rfl,hJx⟩);rotate_left
        ·gi_wp2;go_wp2_with fail;refine bodyPost_ret (results_none rfl _ _ _) rfl ?_;exact⟨⟨_,rfl⟩,.inr ⟨_,HPF.o,hJx⟩⟩
        have hr:=HR.o.kpC hk'.c;have ht:=HT.o.kpC hk'.c;have hu:=HU.o.kpC hk'.c;have hx:=HXM.o.kpA hk';have hy:=HYM.o.kpA hk';have hj:=HJN.o _ HBD.o _ hJ';have HR2:=hid hr;have HT2:=hid ht;have HU2:=hid hu;have HJ2:=hid hj;have HX2:=hid hx;have HY2:=hid hy;clear hr ht hu hj hx hy hk' hJ' HR HT HU HJ HXM HYM;gi_wp2;have e0:=E0.o;go_wp2_with fail;go_roundg (n2 - (k+1))
        case rel=>exact⟨k+1,by have:=HK.o;have:=HLT.o;omega,by go_num,HJ2.o,HR2.o,HT2.o,HU2.o,HX2.o,HY2.o⟩
        case measure=>have:=HK.o;have:=HLT.o;omega
     ·have HXV:Hid (Av a.nd (k:Int)=(some false)):=hid hX;have HYV:Hid (Av b.nd (k:Int)=(some false)):=hid hY;rw[hX] at lkx;rw[hY] at lky;dsimp only[Option.getD,Option.isSome] at lkx lky;clear hX hY;go_upto_region 15 with fail
      clear c1 lkx lky;have HBD:Hid (AR a.tr b.tr (Av a.nd (k:Int)) (Av b.nd (k:Int)) s1=false):=hid (by rw[HXV.o,HYV.o];unfold AR;cases AB a.tr s1<;>cases AB b.tr s1<;>rfl);have HPF:=hid (DX (L:=L) HD.o (HYP.o _ HBD.o));refine(wpIn_wide (n:=n)).1 ?_;obtain⟨fn,tmps,assign,body,hy,hRd⟩:=HY.o (D ::(a.tr.map (AB b.tr) ++ (Cm a b 0 L.po.l).take k)) false W4 HJ.o (HLE.o);gi_wp2;refine⟨fun _=>by omega,?_⟩;refine hRd.mono ?_;clear hRd hy;rintro e W9 (⟨rfl,hJ',hk'⟩ | ⟨rfl,hJx⟩);rotate_left
      ·gi_wp2;go_wp2_with fail;refine bodyPost_ret (results_none rfl _ _ _) rfl ?_;exact⟨⟨_,rfl⟩,.inr ⟨_,HPF.o,hJx⟩⟩
      have hr:=HR.o.kpC hk'.c;have ht:=HT.o.kpC hk'.c;have hu:=HU.o.kpC hk'.c;have hx:=HXM.o.kpA hk';have hy:=HYM.o.kpA hk';have hj:=HJN.o _ HBD.o _ hJ';have HR2:=hid hr;have HT2:=hid ht;have HU2:=hid hu;have HJ2:=hid hj;have HX2:=hid hx;have HY2:=hid hy;clear hr ht hu hj hx hy hk' hJ' HR HT HU HJ HXM HYM;gi_wp2;have e0:=E0.o;go_wp2_with fail;go_roundg (n2 - (k+1))
      case rel=>exact⟨k+1,by have:=HK.o;have:=HLT.o;omega,by go_num,HJ2.o,HR2.o,HT2.o,HU2.o,HX2.o,HY2.o⟩
      case measure=>have:=HK.o;have:=HLT.o;omega
     ·have HXV:Hid (Av a.nd (k:Int)=(some false)):=hid hX;have HYV:Hid (Av b.nd (k:Int)=(some true)):=hid hY;rw[hX] at lkx;rw[hY] at lky;dsimp only[Option.getD,Option.isSome] at lkx lky;clear hX hY;go_upto_region 15 with fail
      clear c1 lkx lky;have HBD:Hid (AR a.tr b.tr (Av a.nd (k:Int)) (Av b.nd (k:Int)) s1=true):=hid (by rw[HXV.o,HYV.o];unfold AR;cases AB a.tr s1<;>cases AB b.tr s1<;>rfl);have HPF:=hid (DX (L:=L) HD.o (HYP.o _ HBD.o));refine(wpIn_wide (n:=n)).1 ?_;obtain⟨fn,tmps,assign,body,hy,hRd⟩:=HY.o (D ::(a.tr.map (AB b.tr) ++ (Cm a b 0 L.po.l).take k)) true W4 HJ.o (HLE.o);gi_wp2;refine⟨fun _=>by omega,?_⟩;refine hRd.mono ?_;clear hRd hy;rintro e W9 (⟨rfl,hJ',hk'⟩ | ⟨rfl,hJx⟩);rotate_left
      ·gi_wp2;go_wp2_with fail;refine bodyPost_ret (results_none rfl _ _ _) rfl ?_;exact⟨⟨_,rfl⟩,.inr ⟨_,HPF.o,hJx⟩⟩
      have hr:=HR.o.kpC hk'.c;have ht:=HT.o.kpC hk'.c;have hu:=HU.o.kpC hk'.c;have hx:=HXM.o.kpA hk';have hy:=HYM.o.kpA hk';have hj:=HJN.o _ HBD.o _ hJ';have HR2:=hid hr;have HT2:=hid ht;have HU2:=hid hu;have HJ2:=hid hj;have HX2:=hid hx;have HY2:=hid hy;clear hr ht hu hj hx hy hk' hJ' HR HT HU HJ HXM HYM;gi_wp2;have e0:=E0.o;go_wp2_with fail;go_roundg (n2 - (k+1))
      case rel=>exact⟨k+1,by have:=HK.o;have:=HLT.o;omega,by go_num,HJ2.o,HR2.o,HT2.o,HU2.o,HX2.o,HY2.o⟩
      case measure=>have:=HK.o;have:=HLT.o;omega
     ·have HXV:Hid (Av a.nd (k:Int)=(some true)):=hid hX;have HYV:Hid (Av b.nd (k:Int)=none):=hid hY;rw[hX] at lkx;rw[hY] at lky;dsimp only[Option.getD,Option.isSome] at lkx lky;clear hX hY;obtain⟨E,hE⟩:=WY (AB b.tr s1);have HIN:=hid (Cq E ua mb uc b.tr s1 W4 hE HTB.o.1 (by have:=HTB.o.2;omega) HU.o.row);have HE:=hid hE;clear hE;go_upto_region 14 with fail
      go_wp2_with fail;refine HIN.o.mono ?_;rintro e w8 ⟨rfl,rfl⟩;clear HIN c1 lkx lky;cases E with
      | true=>
        go_upto_region 15 with fail
        have HBD:Hid (AR a.tr b.tr (Av a.nd (k:Int)) (Av b.nd (k:Int)) s1=true):=hid (by rw[HXV.o,HYV.o];unfold AR;rw[HE.o];cases AB a.tr s1<;>rfl);have HPF:=hid (DX (L:=L) HD.o (HYP.o _ HBD.o));refine(wpIn_wide (n:=n)).1 ?_;obtain⟨fn,tmps,assign,body,hy,hRd⟩:=HY.o (D ::(a.tr.map (AB b.tr) ++ (Cm a b 0 L.po.l).take k)) true W4 HJ.o (HLE.o);gi_wp2;refine⟨fun _=>by omega,?_⟩;refine hRd.mono ?_;clear hRd hy;rintro e W9 (⟨rfl,hJ',hk'⟩ | ⟨rfl,hJx⟩);rotate_left
        ·gi_wp2;go_wp2_with fail;refine bodyPost_ret (results_none rfl _ _ _) rfl ?_;exact⟨⟨_,rfl⟩,.inr ⟨_,HPF.o,hJx⟩⟩
        have hr:=HR.o.kpC hk'.c;have ht:=HT.o.kpC hk'.c;have hu:=HU.o.kpC hk'.c;have hx:=HXM.o.kpA hk';have hy:=HYM.o.kpA hk';have hj:=HJN.o _ HBD.o _ hJ';have HR2:=hid hr;have HT2:=hid ht;have HU2:=hid hu;have HJ2:=hid hj;have HX2:=hid hx;have HY2:=hid hy;clear hr ht hu hj hx hy hk' hJ' HR HT HU HJ HXM HYM;gi_wp2;have e0:=E0.o;go_wp2_with fail;go_roundg (n2 - (k+1))
        case rel=>exact⟨k+1,by have:=HK.o;have:=HLT.o;omega,by go_num,HJ2.o,HR2.o,HT2.o,HU2.o,HX2.o,HY2.o⟩
        case measure=>have:=HK.o;have:=HLT.o;omega
      | false=>
        go_upto_region 15 with fail
        have HBD:Hid (AR a.tr b.tr (Av a.nd (k:Int)) (Av b.nd (k:Int)) s1=false):=hid (by rw[HXV.o,HYV.o];unfold AR;rw[HE.o];cases AB a.tr s1<;>rfl);have HPF:=hid (DX (L:=L) HD.o (HYP.o _ HBD.o));refine(wpIn_wide (n:=n)).1 ?_;obtain⟨fn,tmps,assign,body,hy,hRd⟩:=HY.o (D ::(a.tr.map (AB b.tr) ++ (Cm a b 0 L.po.l).take k)) false W4 HJ.o (HLE.o);gi_wp2;refine⟨fun _=>by omega,?_⟩;refine hRd.mono ?_;clear hRd hy;rintro e W9 (⟨rfl,hJ',hk'⟩ | ⟨rfl,hJx⟩);rotate_left
        ·gi_wp2;go_wp2_with fail;refine bodyPost_ret (results_none rfl _ _ _) rfl ?_;exact⟨⟨_,rfl⟩,.inr ⟨_,HPF.o,hJx⟩⟩
        have hr:=HR.o.kpC hk'.c;have ht:=HT.o.kpC hk'.c;have hu:=HU.o.kpC hk'.c;have hx:=HXM.o.kpA hk';have hy:=HYM.o.kpA hk';have hj:=HJN.o _ HBD.o _ hJ';have HR2:=hid hr;have HT2:=hid ht;have HU2:=hid hu;have HJ2:=hid hj;have HX2:=hid hx;have HY2:=hid hy;clear hr ht hu hj hx hy hk' hJ' HR HT HU HJ HXM HYM;gi_wp2;have e0:=E0.o;go_wp2_with fail;go_roundg (n2 - (k+1))
        case rel=>exact⟨k+1,by have:=HK.o;have:=HLT.o;omega,by go_num,HJ2.o,HR2.o,HT2.o,HU2.o,HX2.o,HY2.o⟩
        case measure=>have:=HK.o;have:=HLT.o;omega
     ·have HXV:Hid (Av a.nd (k:Int)=(some true)):=hid hX;have HYV:Hid (Av b.nd (k:Int)=(some false)):=hid hY;rw[hX] at lkx;rw[hY] at lky;dsimp only[Option.getD,Option.isSome] at lkx lky;clear hX hY;go_upto_region 15 with fail
      clear c1 lkx lky;have HBD:Hid (AR a.tr b.tr (Av a.nd (k:Int)) (Av b.nd (k:Int)) s1=true):=hid (by rw[HXV.o,HYV.o];unfold AR;cases AB a.tr s1<;>cases AB b.tr s1<;>rfl);have HPF:=hid (DX (L:=L) HD.o (HYP.o _ HBD.o));refine(wpIn_wide (n:=n)).1 ?_;obtain⟨fn,tmps,assign,body,hy,hRd⟩:=HY.o (D ::(a.tr.map (AB b.tr) ++ (Cm a b 0 L.po.l).take k)) true W4 HJ.o (HLE.o);gi_wp2;refine⟨fun _=>by omega,?_⟩;refine hRd.mono ?_;clear hRd hy;rintro e W9 (⟨rfl,hJ',hk'⟩ | ⟨rfl,hJx⟩);rotate_left
      ·gi_wp2;go_wp2_with fail;refine bodyPost_ret (results_none rfl _ _ _) rfl ?_;exact⟨⟨_,rfl⟩,.inr ⟨_,HPF.o,hJx⟩⟩
      have hr:=HR.o.kpC hk'.c;have ht:=HT.o.kpC hk'.c;have hu:=HU.o.kpC hk'.c;have hx:=HXM.o.kpA hk';have hy:=HYM.o.kpA hk';have hj:=HJN.o _ HBD.o _ hJ';have HR2:=hid hr;have HT2:=hid ht;have HU2:=hid hu;have HJ2:=hid hj;have HX2:=hid hx;have HY2:=hid hy;clear hr ht hu hj hx hy hk' hJ' HR HT HU HJ HXM HYM;gi_wp2;have e0:=E0.o;go_wp2_with fail;go_roundg (n2 - (k+1))
      case rel=>exact⟨k+1,by have:=HK.o;have:=HLT.o;omega,by go_num,HJ2.o,HR2.o,HT2.o,HU2.o,HX2.o,HY2.o⟩
      case measure=>have:=HK.o;have:=HLT.o;omega
     ·have HXV:Hid (Av a.nd (k:Int)=(some true)):=hid hX;have HYV:Hid (Av b.nd (k:Int)=(some true)):=hid hY;rw[hX] at lkx;rw[hY] at lky;dsimp only[Option.getD,Option.isSome] at lkx lky;clear hX hY;go_upto_region 15 with fail
      clear c1 lkx lky;have HBD:Hid (AR a.tr b.tr (Av a.nd (k:Int)) (Av b.nd (k:Int)) s1=false):=hid (by rw[HXV.o,HYV.o];unfold AR;cases AB a.tr s1<;>cases AB b.tr s1<;>rfl);have HPF:=hid (DX (L:=L) HD.o (HYP.o _ HBD.o));refine(wpIn_wide (n:=n)).1 ?_;obtain⟨fn,tmps,assign,body,hy,hRd⟩:=HY.o (D ::(a.tr.map (AB b.tr) ++ (Cm a b 0 L.po.l).take k)) false W4 HJ.o (HLE.o);gi_wp2;refine⟨fun _=>by omega,?_⟩;refine hRd.mono ?_;clear hRd hy;rintro e W9 (⟨rfl,hJ',hk'⟩ | ⟨rfl,hJx⟩);rotate_left
      ·gi_wp2;go_wp2_with fail;refine bodyPost_ret (results_none rfl _ _ _) rfl ?_;exact⟨⟨_,rfl⟩,.inr ⟨_,HPF.o,hJx⟩⟩
      have hr:=HR.o.kpC hk'.c;have ht:=HT.o.kpC hk'.c;have hu:=HU.o.kpC hk'.c;have hx:=HXM.o.kpA hk';have hy:=HYM.o.kpA hk';have hj:=HJN.o _ HBD.o _ hJ';have HR2:=hid hr;have HT2:=hid ht;have HU2:=hid hu;have HJ2:=hid hj;have HX2:=hid hx;have HY2:=hid hy;clear hr ht hu hj hx hy hk' hJ' HR HT HU HJ HXM HYM;gi_wp2;have e0:=E0.o;go_wp2_with fail;go_roundg (n2 - (k+1))
      case rel=>exact⟨k+1,by have:=HK.o;have:=HLT.o;omega,by go_num,HJ2.o,HR2.o,HT2.o,HU2.o,HX2.o,HY2.o⟩
      case measure=>have:=HK.o;have:=HLT.o;omega
    ·have hkm:k=n2:=(by omega);have d2:¬ (k:Int)<n2:=(by omega);have hj:=HJ.o;rw[Wo (by rw[H8,HN.o];omega)] at hj;have HJ2:Hid (J (Bj L a b) wr):=hid (by unfold Bj;rw[HD.o];exact hj);clear hj hk hlt hkm;go_wp2_with fail;go_end0;first
      | exact⟨⟨_,rfl⟩,.inl HJ2.o⟩
      | exact⟨⟨_,rfl⟩,.inl ⟨Bj L a b,rfl,HJ2.o⟩⟩
end Go.Proofs.YtpohoannggdbjaaGreat
