/- Layer 06: conflict.Of, the document's Of. -/
import Derived.Test.YtpohoannggdbjaaGreatMF
set_option maxRecDepth 100000
set_option maxHeartbeats 200000000
namespace Go.Proofs.YtpohoannggdbjaaGreat
open Lib (hid)
open Go.RowKit
def Ds(L:AL)(n:Int)(k:Nat):List Int:=((List.range k).filter (fun m:Nat=>C9 L n (m:Int))).map (fun m:Nat=>(m:Int))
def BO(L:AL)(n:Int):List Int:=Ds L n (min L.rt.l.length 64)
theorem Ol{L:AL}{n:Int}{k:Nat}(h:C9 L n (k:Int)=true):Ds L n (k+1)=Ds L n k ++ [(k:Int)]:=by
 unfold Ds;rw[List.range_succ,List.filter_append,List.map_append];simp[h]
theorem IY{L:AL}{n:Int}{k:Nat}(h:C9 L n (k:Int)=false):Ds L n (k+1)=Ds L n k:=by
 unfold Ds;rw[List.range_succ,List.filter_append,List.map_append];simp[h]
theorem Ok(L:AL)(n:Int)(k:Nat):(Ds L n k).length≤k:=by
 unfold Ds;rw[Ws];exact Wd (List.length_filter_le _ _) (by simp)
theorem FO{L:AL}{n:Int}(h:∀ m:Nat,C9 L n (m:Int)=false):∀ k,Ds L n k=[]:=by
 intro k
 induction k with
 | zero=>rfl
 | succ k ih=>rw[IY (h k),ih]
theorem N6{L:AL}{n:Int}{k:Nat}(h:C9 L n (k:Int)=true):(Ds L n (k+1)).flatMap AT=(Ds L n k).flatMap AT ++ [.int .i64 (k:Int)]∧(Ds L n (k+1)).length=(Ds L n k).length+1:=by
 rw[Ol h];exact⟨by rw[WA];rfl,by simp⟩
attribute [local irreducible] AB DT Cu De FT Cl Bt At Sl.v C7 BU AX AC C9 Ap Ab pw Ds
theorem TO(L:AL)(n:Int)(w:World)(hL:AO w L) :
 Calls Tryz.prog 31 #[.agg #[L.se.v,L.po.v,L.sg.v,L.rt.v],.int .i64 n] w fun e w'=>∃ a m c,e = .returned (.slice a m c)∧m=(BO L n).length∧B7 1 AT w' ⟨a,c,BO L n⟩∧Below w.heap.size w w'∧Cn 1 w.heap.size w' a m:=by
 obtain⟨B,hB⟩:=WY (AX L);have HMAY:Hid (∀ W,Below w.heap.size w W→Calls Tryz.prog 46 #[.agg #[L.se.v,L.po.v,L.sg.v,L.rt.v]] W fun e w'=>e = .returned (.bool B)∧Below W.heap.size W w'):=hid (fun W hW=>hB ▸ Mo L W (hL.below hW));have HCF:Hid (AX L=true→∀ x∈L.rt.l,∀ y∈L.rt.l,∀ W,Below w.heap.size w W→Calls Tryz.prog 52 #[.agg #[L.se.v,L.po.v,L.sg.v,L.rt.v],.agg #[.string x.nm,.int .i64 x.sg,x.pa.v,x.po.v,x.ov.v,x.fl.v],.agg #[.string y.nm,.int .i64 y.sg,y.pa.v,y.po.v,y.ov.v,y.fl.v]] W fun e w'=>e = .returned (.bool (AC L x y))∧Below W.heap.size W w'):=hid (fun hmay x hx y hy W hW=>J1 L x y W hmay (hL.below hW) hx hy);have HROW:=hid hL.rt.row;have HBB:=hid hB;clear hB;obtain⟨n1,hn1⟩:=WY L.se.l.length;obtain⟨n2,hn2⟩:=WY L.po.l.length;obtain⟨n3,hn3⟩:=WY L.sg.l.length;obtain⟨n4,hn4⟩:=WY L.rt.l.length;have HN4:=hid hn4;rw[Ak hn1,Ak hn2,Ak hn3,Ak hn4] at HMAY HCF ⊢;clear hn1 hn2 hn3 hn4 hL;obtain⟨gl,hgl⟩:=X0 w.heap.size;have HGL:=hid hgl;clear hgl;have hB0:=Ac w (.cells #[.slice L.se.a n1 L.se.c,.slice L.po.a n2 L.po.c,.slice L.sg.a n3 L.sg.c,.slice L.rt.a n4 L.rt.c] 27);have hQ0:=Al w (.cells #[.slice L.se.a n1 L.se.c,.slice L.po.a n2 L.po.c,.slice L.sg.a n3 L.sg.c,.slice L.rt.a n4 L.rt.c] 27) (VU _ _);rw[← HGL.o] at hQ0;have HB0:=hid hB0;have HQ0:=hid hQ0;have l3:=A4 hQ0 3 _ rfl;clear hB0 hQ0;by_cases hn0:n<0
 ·clear HMAY HCF HROW l3;go_enter Tryz.func31,Tryz.ntmps31;have HZ:Hid (BO L n=[]):=hid (FO (fun m=>Ps (fun h=>absurd h.1 (by omega))) _);go_wp2_with fail;go_ret;exact⟨none,0,0,rfl,by rw[HZ.o];rfl,by rw[HZ.o];exact CU,HB0.o,.inl rfl⟩
 obtain⟨j,rfl⟩:∃ j:Nat,n=j:=⟨n.toNat,by omega⟩;have d1:(0:Int)≤j:=by omega
 by_cases hn1:n4≤j
 ·have d2:¬ (j:Int)<n4:=(by omega);clear HMAY HCF HROW;go_enter Tryz.func31,Tryz.ntmps31;go_upto_region 1 with fail
  rw[← HGL.o];have HZ:Hid (BO L (j:Int)=[]):=hid (FO (fun m=>Ps (fun h=>absurd h.2.2.1 (by have:=HN4.o;omega))) _);go_wp2_with fail;go_ret;exact⟨none,0,0,rfl,by rw[HZ.o];rfl,by rw[HZ.o];exact CU,HB0.o,.inl rfl⟩
 have hlj:j<n4:=by omega
 have d2:(j:Int)<n4:=by omega
 cases B with
 | false=>
   clear HCF HROW;go_enter Tryz.func31,Tryz.ntmps31;go_upto_region 1 with fail
   rw[← HGL.o];obtain⟨w0,hw0⟩:=X0 (w.alloc (.cells #[.slice L.se.a n1 L.se.c,.slice L.po.a n2 L.po.c,.slice L.sg.a n3 L.sg.c,.slice L.rt.a n4 L.rt.c] 27));rw[← hw0] at HB0 HQ0 l3 ⊢;have q0:=A4 HQ0.o 0 _ rfl;have q1:=A4 HQ0.o 1 _ rfl;have q2:=A4 HQ0.o 2 _ rfl;clear hw0;go_wp2_with fail;refine(HMAY.o _ HB0.o).mono ?_;rintro e w1 ⟨rfl,hb1⟩;have HB1:=hid (A6 HB0.o hb1);clear hb1;have HZ:Hid (BO L (j:Int)=[]):=hid (FO (fun m=>TQ HBB.o) _);go_wp2_with fail;go_ret;exact⟨none,0,0,rfl,by rw[HZ.o];rfl,by rw[HZ.o];exact CU,HB1.o,.inl rfl⟩
 | true=>
   go_enter Tryz.func31,Tryz.ntmps31;go_upto_region 1 with fail
   rw[← HGL.o];obtain⟨w0,hw0⟩:=X0 (w.alloc (.cells #[.slice L.se.a n1 L.se.c,.slice L.po.a n2 L.po.c,.slice L.sg.a n3 L.sg.c,.slice L.rt.a n4 L.rt.c] 27));rw[← hw0] at HB0 HQ0 l3 ⊢;have q0:=A4 HQ0.o 0 _ rfl;have q1:=A4 HQ0.o 1 _ rfl;have q2:=A4 HQ0.o 2 _ rfl;clear hw0;go_wp2_with fail;refine(HMAY.o _ HB0.o).mono ?_;rintro e w1 ⟨rfl,hb1⟩;have HQ1:=hid (A5 hb1 HQ0.o);have HB1:=hid (A6 HB0.o hb1);clear hb1 l3 q0 q1 q2 HB0 HQ0;have l3:=A4 HQ1.o 3 _ rfl;rcases HROW.o with hnil | ⟨xb,off,hxb,hc0⟩
   ·have:=HN4.o;rw[hnil] at this;simp at this;omega
   have HCE:=hid hc0;have HM:=HBB;have HS:Hid (n4≤64):=hid (by have:=AE HM.o;have:=HN4.o;omega);have HJ:=hid hlj;obtain⟨x,hyx⟩:∃ y,L.rt.l[j]?=some y:=⟨_,Wb (by rw[HN4.o];exact hlj)⟩;obtain⟨p1,hp1⟩:=WY x.pa.l.length;obtain⟨p2,hp2⟩:=WY x.po.l.length;obtain⟨p3,hp3⟩:=WY x.ov.l.length;obtain⟨p4,hp4⟩:=WY x.fl.l.length;have HZX:Hid ((w.cell? ⟨xb,off+j*6,none⟩=some (.string x.nm))∧(w.cell? ⟨xb,off+j*6+1,none⟩=some (.int .i64 x.sg))∧(w.cell? ⟨xb,off+j*6+2,none⟩=some (.slice x.pa.a p1 x.pa.c))∧(w.cell? ⟨xb,off+j*6+3,none⟩=some (.slice x.po.a p2 x.po.c))∧(w.cell? ⟨xb,off+j*6+4,none⟩=some (.slice x.ov.a p3 x.ov.c))∧(w.cell? ⟨xb,off+j*6+5,none⟩=some (.slice x.fl.a p4 x.fl.c))):=by
    rw[← Ak hp1,← Ak hp2,← Ak hp3,← Ak hp4];exact hid ⟨hc0 j _ hyx 0 _ rfl,hc0 j _ hyx 1 _ rfl,hc0 j _ hyx 2 _ rfl,hc0 j _ hyx 3 _ rfl,hc0 j _ hyx 4 _ rfl,hc0 j _ hyx 5 _ rfl⟩
   have HYX:=hid hyx;rw[hxb] at HQ1 HCF l3 ⊢;have HCX:Hid (∀ y∈L.rt.l,∀ W,Below w.heap.size w W→Calls Tryz.prog 52 #[.agg #[.slice L.se.a n1 L.se.c,.slice L.po.a n2 L.po.c,.slice L.sg.a n3 L.sg.c,.slice (some ⟨xb,off,none⟩) n4 L.rt.c],.agg #[.string x.nm,.int .i64 x.sg,.slice x.pa.a p1 x.pa.c,.slice x.po.a p2 x.po.c,.slice x.ov.a p3 x.ov.c,.slice x.fl.a p4 x.fl.c],.agg #[.string y.nm,.int .i64 y.sg,y.pa.v,y.po.v,y.ov.v,y.fl.v]] W fun e w'=>e = .returned (.bool (AC L x y))∧Below W.heap.size W w'):=hid (fun y hy W hW=>by
    have:=HCF.o HM.o x (Wf HYX.o) y hy W hW;rw[Ak hp1,Ak hp2,Ak hp3,Ak hp4] at this;exact this)
   clear hyx hc0 HCF hp1 hp2 hp3 hp4 HMAY hlj hxb HROW hn0 hn1;go_upto_region 5 with fail
   clear l3;go_loopg [5,25] n4 (fun g v i wr=>∃ k:Nat,k+g=n4∧i = .int .i64 (k:Int)∧wr.ownsRow (gl+1) 3 1 v (Ds L (j:Int) k).length ((Ds L (j:Int) k).flatMap AT)∧wr.heap[gl]?=some (.cells #[.slice L.se.a n1 L.se.c,.slice L.po.a n2 L.po.c,.slice L.sg.a n3 L.sg.c,.slice (some ⟨xb,off,none⟩) n4 L.rt.c] 27)∧Below w.heap.size w wr)
   case atStart=>exact⟨0,by omega,rfl,by unfold Ds;exact Wz _ _ _ _,HQ1.o,HB1.o⟩
   case round=>
    obtain⟨k,hk,rfl,ht,hq,hbw⟩:=hrel;clear HQ1 HB1;have HO:=hid ht;have HQ:=hid hq;have HB1:=hid hbw;have HK:=hid hk;clear ht hq hbw hk;have l3:=A4 HQ.o 3 _ rfl;by_cases hlt:k<n4
    ·have d3:(0:Int)≤k:=(by omega);have d4:(k:Int)<n4:=(by omega);have e1:=Vv hlt HS.o;have HLT:=hid hlt;have hc:=fun i c hi j v hv=>VY HB1.o (HCE.o i c hi j v hv)
     obtain⟨y,hyy⟩:∃ y,L.rt.l[k]?=some y:=⟨_,Wb (by rw[HN4.o];exact hlt)⟩;have y0:=hc k _ hyy 0 _ rfl;have y1:=hc k _ hyy 1 _ rfl;have y2:=hc k _ hyy 2 _ rfl;have y3:=hc k _ hyy 3 _ rfl;have y4:=hc k _ hyy 4 _ rfl;have y5:=hc k _ hyy 5 _ rfl;rw[Wa] at y0;obtain⟨q1,hq1⟩:=WY y.pa.l.length;obtain⟨q2,hq2⟩:=WY y.po.l.length;obtain⟨q3,hq3⟩:=WY y.ov.l.length;obtain⟨q4,hq4⟩:=WY y.fl.l.length;rw[Ak hq1] at y2;rw[Ak hq2] at y3;rw[Ak hq3] at y4;rw[Ak hq4] at y5;have HZB:=hid (And.intro y0 (And.intro y1 (And.intro y2 (And.intro y3 (And.intro y4 y5)))));clear y0 y1 y2 y3 y4 y5;obtain⟨y0,y1,y2,y3,y4,y5⟩:=HZB.o;have HYY:=hid hyy;have hcall:=fun W (hW:Below wr.heap.size wr W)=>HCX.o y (Wf hyy) W (A6 HB1.o hW)
     obtain⟨D,hD⟩:=WY (AC L x y);have HD:=hid hD;rw[hD,Ak hq1,Ak hq2,Ak hq3,Ak hq4] at hcall;have HC0:=hid hcall;clear hc hlt hyy hcall hD hq1 hq2 hq3 hq4 l3;have l3:=A4 HQ.o 3 _ rfl;go_upto_region 7 with fail
     clear y0 y1 y2 y3 y4 y5 l3;have hbx:=Ac wr (.cells #[.string y.nm,.int .i64 y.sg,.slice y.pa.a q1 y.pa.c,.slice y.po.a q2 y.po.c,.slice y.ov.a q3 y.ov.c,.slice y.fl.a q4 y.fl.c] 52);have hqx:=Al wr (.cells #[.string y.nm,.int .i64 y.sg,.slice y.pa.a q1 y.pa.c,.slice y.po.a q2 y.po.c,.slice y.ov.a q3 y.ov.c,.slice y.fl.a q4 y.fl.c] 52) (VU _ _);obtain⟨w3,hw3⟩:=X0 (wr.alloc (.cells #[.string y.nm,.int .i64 y.sg,.slice y.pa.a q1 y.pa.c,.slice y.po.a q2 y.po.c,.slice y.ov.a q3 y.ov.c,.slice y.fl.a q4 y.fl.c] 52));rw[← hw3] at hbx hqx ⊢;obtain⟨gx,hgx⟩:=X0 wr.heap.size;rw[← hgx] at hqx ⊢;have HX3:=hid hqx;have HQ3:=hid (A5 hbx HQ.o);have HO3:=hid (BJ hbx HO.o);have HB3:=hid (A6 HB1.o hbx);have HZ3:=hid (And.intro (VY HB3.o HZX.o.1) (And.intro (VY HB3.o HZX.o.2.1) (And.intro (VY HB3.o HZX.o.2.2.1) (And.intro (VY HB3.o HZX.o.2.2.2.1) (And.intro (VY HB3.o HZX.o.2.2.2.2.1) (VY HB3.o HZX.o.2.2.2.2.2))))));have HC:Hid (∀ W,Below w3.heap.size w3 W→Calls Tryz.prog 52 #[.agg #[.slice L.se.a n1 L.se.c,.slice L.po.a n2 L.po.c,.slice L.sg.a n3 L.sg.c,.slice (some ⟨xb,off,none⟩) n4 L.rt.c],.agg #[.string x.nm,.int .i64 x.sg,.slice x.pa.a p1 x.pa.c,.slice x.po.a p2 x.po.c,.slice x.ov.a p3 x.ov.c,.slice x.fl.a p4 x.fl.c],.agg #[.string y.nm,.int .i64 y.sg,.slice y.pa.a q1 y.pa.c,.slice y.po.a q2 y.po.c,.slice y.ov.a q3 y.ov.c,.slice y.fl.a q4 y.fl.c]] W fun e w'=>e = .returned (.bool D)∧Below w3.heap.size w3 w'):=hid (fun W hW=>(HC0.o W (A6 hbx hW)).mono (fun e w9 h=>⟨h.1,A6 hW h.2⟩));clear hbx hqx hw3 hgx HQ HO HB1 HZB HC0;by_cases hkj:k=j
     ·have HPS:Hid (C9 L (j:Int) (k:Int)=false):=hid (Ps (fun h=>h.2.2.2.2 (by rw[hkj])));have hbn:((k:Int) !=(j:Int))=false:=(by rw[hkj];simp);have HKJ:=hid hkj;clear hkj;go_upto_region 7 with fail
      refine Ad (by kernel_rfl) ?_ ?_
      ·kernel_rfl
      repeat first
       | go_big_quiet_skip
       | (go_big_quiet_want;go_big_quiet_op;go_big_quiet_on)
       | (with_reducible apply wpQuiet_step
          intro K hK;go_simp;first
           | (refine hK _ ?_;clear hK K)
           | (apply Exists.intro
              refine⟨fun w' hw'=>?_,hK _ ?_⟩
              ·
               (first
                | (skip
                   go_simp;first | done | with_reducible exact rfl | with_reducible exact⟨rfl,rfl⟩))
              clear hK K))
      refine wpQuiet_nil ?_;intro w7 hw7;have HB7:=hid (A6 HB3.o hw7);have HQ7:=hid (A5 hw7 HQ3.o);have HO7:=hid (BJ hw7 HO3.o);clear hw7;clear HC HB3 HQ3 HO3 HZ3 HX3;go_wp2_with fail;go_roundg (n4 - (k+1))
      case rel=>exact⟨k+1,by have:=HK.o;omega,by go_num,by rw[IY HPS.o];exact HO7.o,HQ7.o,HB7.o⟩
      case measure=>have:=HK.o;omega
     ·have hbn:((k:Int) !=(j:Int))=true:=(by rw[WJ];omega);have HPS:Hid (C9 L (j:Int) (k:Int)=D):=hid ((Pr HM.o HYX.o HYY.o (fun e=>hkj e.symm)).trans HD.o);have HKJ:=hid hkj;clear hkj;go_upto_region 7 with fail
      refine Ad (by kernel_rfl) ?_ ?_
      ·kernel_rfl
      repeat first
       | go_big_quiet_skip
       | (go_big_quiet_want;go_big_quiet_op;go_big_quiet_on)
       | (with_reducible apply wpQuiet_step
          intro K hK;go_simp;first
           | (refine hK _ ?_;clear hK K)
           | (apply Exists.intro
              refine⟨fun w' hw'=>?_,hK _ ?_⟩
              ·
               (first
                | with_reducible exact HC.o _ hw'
                | (have g0:=A4 (A5 hw' HQ3.o) 0 _ rfl
                   have g1:=A4 (A5 hw' HQ3.o) 1 _ rfl;have g2:=A4 (A5 hw' HQ3.o) 2 _ rfl;have g3:=A4 (A5 hw' HQ3.o) 3 _ rfl;go_simp;first | done | with_reducible exact rfl | with_reducible exact⟨rfl,rfl⟩ | with_reducible exact HC.o _ hw')
                | (have h0:=A4 (A5 hw' HX3.o) 0 _ rfl
                   have h1:=A4 (A5 hw' HX3.o) 1 _ rfl;have h2:=A4 (A5 hw' HX3.o) 2 _ rfl;have h3:=A4 (A5 hw' HX3.o) 3 _ rfl;have h4:=A4 (A5 hw' HX3.o) 4 _ rfl;have h5:=A4 (A5 hw' HX3.o) 5 _ rfl;go_simp;first | done | with_reducible exact rfl | with_reducible exact⟨rfl,rfl⟩ | with_reducible exact HC.o _ hw')
                | (have f0:=VY hw' HZ3.o.1
                   have f1:=VY hw' HZ3.o.2.1;have f2:=VY hw' HZ3.o.2.2.1;have f3:=VY hw' HZ3.o.2.2.2.1;have f4:=VY hw' HZ3.o.2.2.2.2.1;have f5:=VY hw' HZ3.o.2.2.2.2.2;go_simp;first | done | with_reducible exact rfl | with_reducible exact⟨rfl,rfl⟩ | with_reducible exact HC.o _ hw'))
              clear hK K))
      refine wpQuiet_nil ?_;intro w7 hw7;have HB7:=hid (A6 HB3.o hw7);have HQ7:=hid (A5 hw7 HQ3.o);have HO7:=hid (BJ hw7 HO3.o);clear hw7;clear HC HB3 HQ3 HO3 HZ3 HX3;cases D with
      | false=>
        go_wp2_with fail;go_roundg (n4 - (k+1))
        case rel=>exact⟨k+1,by have:=HK.o;omega,by go_num,by rw[IY HPS.o];exact HO7.o,HQ7.o,HB7.o⟩
        case measure=>have:=HK.o;omega
      | true=>
        obtain⟨XS,hXS⟩:=WY ((Ds L (j:Int) k).flatMap AT);obtain⟨q,hq9⟩:=WY ((Ds L (j:Int) k).length);have hle:=Ok L (j:Int) k;have HTT:=hid (N6 HPS.o);rw[hXS,hq9] at HTT;rw[hXS,hq9] at HO7;rw[hq9] at hle;obtain⟨i0,hi,hz0,hz1,hz2⟩:=info_parts DU;have HOW:=hid (BJ (Ac w7 (.cells #[.int .i64 (k:Int)] 3)) HO7.o);have HBW:=hid (A6 HB7.o (Ac w7 (.cells #[.int .i64 (k:Int)] 3)));have HQW:=hid (A5 (Ac w7 (.cells #[.int .i64 (k:Int)] 3)) HQ7.o);have hsz:=Aj HQW.o;have hq1000:q<1000:=(by have:=HS.o;have:=HLT.o;omega);clear hXS hq9 hle;go_wp2_with (at_builtin;refine AK rfl _ _ 49 rfl (gl+1) 3 i0 (.int .i64 0) 1 8 Tryz.underlying49 hi hz0 hz1 hz2 rfl (by decide) _ q XS rfl HOW.o (some ⟨w7.heap.size,0,none⟩) 1 1 [.int .i64 (k:Int)] rfl rfl (Eg rfl (Al w7 _ (VU _ _))) (by unfold maxLen;omega) (by omega) hsz ?_;intro v4 W4 hown4 hg4);have hB4:Below w.heap.size w W4:=HBW.o.grown hg4 HBW.o.size (fun k hk=>by have:=(HOW.o.lt _ hk).1;have:=HGL.o;omega);have hQ4:=Fd hg4 HQW.o (fun hk=>by have:=(HOW.o.lt _ hk).1;omega);rw[← HTT.o.1,← HTT.o.2] at hown4;have HO4:=hid hown4;have HB4:=hid hB4;have HQ4:=hid hQ4;clear hown4 hB4 hQ4 hg4 HOW HBW HQW hsz hq1000;go_wp2_with fail;go_roundg (n4 - (k+1))
        case rel=>exact⟨k+1,by have:=HK.o;omega,by go_num,HO4.o,HQ4.o,HB4.o⟩
        case measure=>have:=HK.o;omega
    ·have hnk:n4=k:=(by have:=HK.o;omega);subst hnk;go_wp2_with fail;go_ret;obtain⟨sa,sc,hv,hs,hnw⟩:=EU (l:=Ds L (j:Int) n4) BD rfl HO.o;have HT:Hid (BO L (j:Int)=Ds L (j:Int) n4):=hid (by unfold BO;rw[HN4.o,Nat.min_eq_left HS.o]);subst hv;exact⟨sa,_,sc,rfl,by rw[HT.o],by rw[HT.o];exact hs,HB1.o,hnw.mono (by have:=HGL.o;omega)⟩
end Go.Proofs.YtpohoannggdbjaaGreat
