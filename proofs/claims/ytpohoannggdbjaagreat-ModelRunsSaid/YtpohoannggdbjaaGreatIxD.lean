/- Ours: CoO; IxC; MoC; IxD. -/
import Derived.Test.YtpohoannggdbjaaGreatIxA
import Derived.Test.YtpohoannggdbjaaGreatMoB
import Derived.Test.YtpohoannggdbjaaGreatCoF
namespace Go.Proofs.YtpohoannggdbjaaGreat
open Lib (hid)
open Go.RowKit
set_option maxRecDepth 100000
def D1(L:AM)(n:Int)(k:Nat):List Int:=((List.range k).filter (fun m:Nat=>BS L n (m:Int))).map (fun m:Nat=>(m:Int))
def BN(L:AM)(n:Int):List Int:=D1 L n (min L.rt.l.length 64)
theorem Mo{L:AM}{n:Int}{k:Nat}(h:BS L n (k:Int)=true):D1 L n (k+1)=D1 L n k ++ [(k:Int)]:=by
 unfold D1;rw[List.range_succ,List.filter_append,List.map_append];simp[h]
theorem I4{L:AM}{n:Int}{k:Nat}(h:BS L n (k:Int)=false):D1 L n (k+1)=D1 L n k:=by
 unfold D1;rw[List.range_succ,List.filter_append,List.map_append];simp[h]
theorem Mb(L:AM)(n:Int)(k:Nat):(D1 L n k).length≤k:=by
 unfold D1;rw[List.length_map];exact Nat.le_trans (List.length_filter_le _ _) (by simp)
theorem F9{L:AM}{n:Int}(h:∀ m:Nat,BS L n (m:Int)=false):∀ k,D1 L n k=[]:=by
 intro k
 induction k with
 | zero=>rfl
 | succ k ih=>rw[I4 (h k),ih]
theorem Lg{L:AM}{n:Int}{k:Nat}(h:BS L n (k:Int)=true):(D1 L n (k+1)).flatMap AO=(D1 L n k).flatMap AO ++ [.int .i64 (k:Int)]∧(D1 L n (k+1)).length=(D1 L n k).length+1:=by
 rw[Mo h];exact⟨by rw[List.flatMap_append];rfl,by simp⟩
attribute [local irreducible] Av Dq Cg CP F0 C6 Bs As Sl.v BR BH AQ Aw BS Aq Ab pw D1
set_option maxHeartbeats 8000000 in
theorem QO(L:AM)(n:Int)(w:World)(hL:B5 w L) :
 Calls Tryz.prog 31 #[.agg #[L.se.v,L.po.v,L.sg.v,L.rt.v],.int .i64 n] w fun e w'=>∃ a m c,e = .returned (.slice a m c)∧m=(BN L n).length∧B8 1 AO w' ⟨a,c,BN L n⟩∧Below w.heap.size w w'∧C8 1 w.heap.size w' a m:=by
 obtain⟨B,hB⟩:∃ B,AQ L=B:=⟨_,rfl⟩;have HMAY:Hid (∀ W,Below w.heap.size w W→Calls Tryz.prog 46 #[.agg #[L.se.v,L.po.v,L.sg.v,L.rt.v]] W fun e w'=>e = .returned (.bool B)∧Below W.heap.size W w'):=hid (fun W hW=>hB ▸ JU L W (hL.below hW));have HCF:Hid (AQ L=true→∀ x∈L.rt.l,∀ y∈L.rt.l,∀ W,Below w.heap.size w W→Calls Tryz.prog 52 #[.agg #[L.se.v,L.po.v,L.sg.v,L.rt.v],.agg #[.string x.nm,.int .i64 x.sg,x.pa.v,x.po.v,x.ov.v,x.fl.v],.agg #[.string y.nm,.int .i64 y.sg,y.pa.v,y.po.v,y.ov.v,y.fl.v]] W fun e w'=>e = .returned (.bool (Aw L x y))∧Below W.heap.size W w'):=hid (fun hmay x hx y hy W hW=>Hi L x y W hmay (hL.below hW) hx hy);have HROW:=hid hL.rt.row;have HBB:=hid hB;clear hB;obtain⟨n1,hn1⟩:∃ n,L.se.l.length=n:=⟨_,rfl⟩;obtain⟨n2,hn2⟩:∃ n,L.po.l.length=n:=⟨_,rfl⟩;obtain⟨n3,hn3⟩:∃ n,L.sg.l.length=n:=⟨_,rfl⟩;obtain⟨n4,hn4⟩:∃ n,L.rt.l.length=n:=⟨_,rfl⟩;have HN4:=hid hn4;rw[Ak hn1,Ak hn2,Ak hn3,Ak hn4] at HMAY HCF ⊢;clear hn1 hn2 hn3 hn4 hL;obtain⟨gl,hgl⟩:∃ g,g=w.heap.size:=⟨_,rfl⟩;have HGL:=hid hgl;clear hgl;have hB0:=Ac w (.cells #[.slice L.se.a n1 L.se.c,.slice L.po.a n2 L.po.c,.slice L.sg.a n3 L.sg.c,.slice L.rt.a n4 L.rt.c] 27);have hQ0:=Ao w (.cells #[.slice L.se.a n1 L.se.c,.slice L.po.a n2 L.po.c,.slice L.sg.a n3 L.sg.c,.slice L.rt.a n4 L.rt.c] 27) (Below.refl _ _);rw[← HGL.out] at hQ0;have HB0:=hid hB0;have HQ0:=hid hQ0;have l3:=A4 hQ0 3 _ rfl;clear hB0 hQ0;by_cases hn0:n<0
 ·clear HMAY HCF HROW l3;go_enter Tryz.func31,Tryz.ntmps31;have HZ:Hid (BN L n=[]):=hid (F9 (fun m=>MS (fun h=>absurd h.1 (by omega))) _);go_wp2_with fail;go_ret;exact⟨none,0,0,rfl,by rw[HZ.out];rfl,by rw[HZ.out];exact Eh,HB0.out,.inl rfl⟩
 obtain⟨j,rfl⟩:∃ j:Nat,n=j:=⟨n.toNat,by omega⟩;have d1:(0:Int)≤j:=by omega
 by_cases hn1:n4≤j
 ·have d2:¬ (j:Int)<n4:=by omega
  clear HMAY HCF HROW;go_enter Tryz.func31,Tryz.ntmps31;go_upto_region 1 with fail
  rw[← HGL.out];have HZ:Hid (BN L (j:Int)=[]):=hid (F9 (fun m=>MS (fun h=>absurd h.2.2.1 (by have:=HN4.out;omega))) _);go_wp2_with fail;go_ret;exact⟨none,0,0,rfl,by rw[HZ.out];rfl,by rw[HZ.out];exact Eh,HB0.out,.inl rfl⟩
 have hlj:j<n4:=by omega
 have d2:(j:Int)<n4:=by omega
 cases B with
 | false=>
   clear HCF HROW;go_enter Tryz.func31,Tryz.ntmps31;go_upto_region 1 with fail
   rw[← HGL.out];obtain⟨w0,hw0⟩:∃ W,W=w.alloc (.cells #[.slice L.se.a n1 L.se.c,.slice L.po.a n2 L.po.c,.slice L.sg.a n3 L.sg.c,.slice L.rt.a n4 L.rt.c] 27):=⟨_,rfl⟩;rw[← hw0] at HB0 HQ0 l3 ⊢;have q0:=A4 HQ0.out 0 _ rfl;have q1:=A4 HQ0.out 1 _ rfl;have q2:=A4 HQ0.out 2 _ rfl;clear hw0;go_wp2_with fail;refine(HMAY.out _ HB0.out).mono ?_;rintro e w1 ⟨rfl,hb1⟩;have HB1:=hid (A8 HB0.out hb1);clear hb1;have HZ:Hid (BN L (j:Int)=[]):=hid (F9 (fun m=>Rf HBB.out) _);go_wp2_with fail;go_ret;exact⟨none,0,0,rfl,by rw[HZ.out];rfl,by rw[HZ.out];exact Eh,HB1.out,.inl rfl⟩
 | true=>
   go_enter Tryz.func31,Tryz.ntmps31;go_upto_region 1 with fail
   rw[← HGL.out];obtain⟨w0,hw0⟩:∃ W,W=w.alloc (.cells #[.slice L.se.a n1 L.se.c,.slice L.po.a n2 L.po.c,.slice L.sg.a n3 L.sg.c,.slice L.rt.a n4 L.rt.c] 27):=⟨_,rfl⟩;rw[← hw0] at HB0 HQ0 l3 ⊢;have q0:=A4 HQ0.out 0 _ rfl;have q1:=A4 HQ0.out 1 _ rfl;have q2:=A4 HQ0.out 2 _ rfl;clear hw0;go_wp2_with fail;refine(HMAY.out _ HB0.out).mono ?_;rintro e w1 ⟨rfl,hb1⟩;have HQ1:=hid (A5 hb1 HQ0.out);have HB1:=hid (A8 HB0.out hb1);clear hb1 l3 q0 q1 q2 HB0 HQ0;have l3:=A4 HQ1.out 3 _ rfl;rcases HROW.out with hnil | ⟨xb,off,hxb,hc0⟩
   ·have:=HN4.out;rw[hnil] at this;simp at this;omega
   have HCE:=hid hc0;have HM:=HBB;have HS:Hid (n4≤64):=hid (by have:=Ay HM.out;have:=HN4.out;omega);have HJ:=hid hlj;obtain⟨x,hyx⟩:∃ y,L.rt.l[j]?=some y:=⟨_,List.getElem?_eq_getElem (by rw[HN4.out];exact hlj)⟩;obtain⟨p1,hp1⟩:∃ n,x.pa.l.length=n:=⟨_,rfl⟩;obtain⟨p2,hp2⟩:∃ n,x.po.l.length=n:=⟨_,rfl⟩;obtain⟨p3,hp3⟩:∃ n,x.ov.l.length=n:=⟨_,rfl⟩;obtain⟨p4,hp4⟩:∃ n,x.fl.l.length=n:=⟨_,rfl⟩;have HZX:Hid ((w.cell? ⟨xb,off+j*6,none⟩=some (.string x.nm))∧(w.cell? ⟨xb,off+j*6+1,none⟩=some (.int .i64 x.sg))∧(w.cell? ⟨xb,off+j*6+2,none⟩=some (.slice x.pa.a p1 x.pa.c))∧(w.cell? ⟨xb,off+j*6+3,none⟩=some (.slice x.po.a p2 x.po.c))∧(w.cell? ⟨xb,off+j*6+4,none⟩=some (.slice x.ov.a p3 x.ov.c))∧(w.cell? ⟨xb,off+j*6+5,none⟩=some (.slice x.fl.a p4 x.fl.c))):=by
    rw[← Ak hp1,← Ak hp2,← Ak hp3,← Ak hp4];exact hid ⟨hc0 j _ hyx 0 _ rfl,hc0 j _ hyx 1 _ rfl,hc0 j _ hyx 2 _ rfl,hc0 j _ hyx 3 _ rfl,hc0 j _ hyx 4 _ rfl,hc0 j _ hyx 5 _ rfl⟩
   have HYX:=hid hyx;rw[hxb] at HQ1 HCF l3 ⊢;have HCX:Hid (∀ y∈L.rt.l,∀ W,Below w.heap.size w W→Calls Tryz.prog 52 #[.agg #[.slice L.se.a n1 L.se.c,.slice L.po.a n2 L.po.c,.slice L.sg.a n3 L.sg.c,.slice (some ⟨xb,off,none⟩) n4 L.rt.c],.agg #[.string x.nm,.int .i64 x.sg,.slice x.pa.a p1 x.pa.c,.slice x.po.a p2 x.po.c,.slice x.ov.a p3 x.ov.c,.slice x.fl.a p4 x.fl.c],.agg #[.string y.nm,.int .i64 y.sg,y.pa.v,y.po.v,y.ov.v,y.fl.v]] W fun e w'=>e = .returned (.bool (Aw L x y))∧Below W.heap.size W w'):=hid (fun y hy W hW=>by
    have:=HCF.out HM.out x (List.mem_of_getElem? HYX.out) y hy W hW;rw[Ak hp1,Ak hp2,Ak hp3,Ak hp4] at this;exact this)
   clear hyx hc0 HCF hp1 hp2 hp3 hp4 HMAY hlj hxb HROW hn0 hn1;go_upto_region 5 with fail
   clear l3;go_loopg [5,25] n4 (fun g v i wr=>∃ k:Nat,k+g=n4∧i = .int .i64 (k:Int)∧wr.ownsRow (gl+1) 3 1 v (D1 L (j:Int) k).length ((D1 L (j:Int) k).flatMap AO)∧wr.heap[gl]?=some (.cells #[.slice L.se.a n1 L.se.c,.slice L.po.a n2 L.po.c,.slice L.sg.a n3 L.sg.c,.slice (some ⟨xb,off,none⟩) n4 L.rt.c] 27)∧Below w.heap.size w wr)
   case atStart=>exact⟨0,by omega,rfl,by unfold D1;exact World.ownsRow_nil _ _ _ _,HQ1.out,HB1.out⟩
   case round=>
    obtain⟨k,hk,rfl,ht,hq,hbw⟩:=hrel;clear HQ1 HB1;have HO:=hid ht;have HQ:=hid hq;have HB1:=hid hbw;have HK:=hid hk;clear ht hq hbw hk;have l3:=A4 HQ.out 3 _ rfl;by_cases hlt:k<n4
    ·have d3:(0:Int)≤k:=by omega
     have d4:(k:Int)<n4:=by omega
     have e1:=S0 hlt HS.out;have HLT:=hid hlt;have hc:=fun i c hi j v hv=>cell_later HB1.out (HCE.out i c hi j v hv)
     obtain⟨y,hyy⟩:∃ y,L.rt.l[k]?=some y:=⟨_,List.getElem?_eq_getElem (by rw[HN4.out];exact hlt)⟩;have y0:=hc k _ hyy 0 _ rfl;have y1:=hc k _ hyy 1 _ rfl;have y2:=hc k _ hyy 2 _ rfl;have y3:=hc k _ hyy 3 _ rfl;have y4:=hc k _ hyy 4 _ rfl;have y5:=hc k _ hyy 5 _ rfl;rw[Nat.add_zero] at y0;obtain⟨q1,hq1⟩:∃ n,y.pa.l.length=n:=⟨_,rfl⟩;obtain⟨q2,hq2⟩:∃ n,y.po.l.length=n:=⟨_,rfl⟩;obtain⟨q3,hq3⟩:∃ n,y.ov.l.length=n:=⟨_,rfl⟩;obtain⟨q4,hq4⟩:∃ n,y.fl.l.length=n:=⟨_,rfl⟩;rw[Ak hq1] at y2;rw[Ak hq2] at y3;rw[Ak hq3] at y4;rw[Ak hq4] at y5;have HZB:=hid (And.intro y0 (And.intro y1 (And.intro y2 (And.intro y3 (And.intro y4 y5)))));clear y0 y1 y2 y3 y4 y5;obtain⟨y0,y1,y2,y3,y4,y5⟩:=HZB.out;have HYY:=hid hyy;have hcall:=fun W (hW:Below wr.heap.size wr W)=>HCX.out y (List.mem_of_getElem? hyy) W (A8 HB1.out hW)
     obtain⟨D,hD⟩:∃ D,Aw L x y=D:=⟨_,rfl⟩;have HD:=hid hD;rw[hD,Ak hq1,Ak hq2,Ak hq3,Ak hq4] at hcall;have HC0:=hid hcall;clear hc hlt hyy hcall hD hq1 hq2 hq3 hq4 l3;have l3:=A4 HQ.out 3 _ rfl;go_upto_region 7 with fail
     clear y0 y1 y2 y3 y4 y5 l3;have hbx:=Ac wr (.cells #[.string y.nm,.int .i64 y.sg,.slice y.pa.a q1 y.pa.c,.slice y.po.a q2 y.po.c,.slice y.ov.a q3 y.ov.c,.slice y.fl.a q4 y.fl.c] 52);have hqx:=Ao wr (.cells #[.string y.nm,.int .i64 y.sg,.slice y.pa.a q1 y.pa.c,.slice y.po.a q2 y.po.c,.slice y.ov.a q3 y.ov.c,.slice y.fl.a q4 y.fl.c] 52) (Below.refl _ _);obtain⟨w3,hw3⟩:∃ W,W=wr.alloc (.cells #[.string y.nm,.int .i64 y.sg,.slice y.pa.a q1 y.pa.c,.slice y.po.a q2 y.po.c,.slice y.ov.a q3 y.ov.c,.slice y.fl.a q4 y.fl.c] 52):=⟨_,rfl⟩;rw[← hw3] at hbx hqx ⊢;obtain⟨gx,hgx⟩:∃ g,g=wr.heap.size:=⟨_,rfl⟩;rw[← hgx] at hqx ⊢;have HX3:=hid hqx;have HQ3:=hid (A5 hbx HQ.out);have HO3:=hid (Bu hbx HO.out);have HB3:=hid (A8 HB1.out hbx);have HZ3:=hid (And.intro (cell_later HB3.out HZX.out.1) (And.intro (cell_later HB3.out HZX.out.2.1) (And.intro (cell_later HB3.out HZX.out.2.2.1) (And.intro (cell_later HB3.out HZX.out.2.2.2.1) (And.intro (cell_later HB3.out HZX.out.2.2.2.2.1) (cell_later HB3.out HZX.out.2.2.2.2.2))))));have HC:Hid (∀ W,Below w3.heap.size w3 W→Calls Tryz.prog 52 #[.agg #[.slice L.se.a n1 L.se.c,.slice L.po.a n2 L.po.c,.slice L.sg.a n3 L.sg.c,.slice (some ⟨xb,off,none⟩) n4 L.rt.c],.agg #[.string x.nm,.int .i64 x.sg,.slice x.pa.a p1 x.pa.c,.slice x.po.a p2 x.po.c,.slice x.ov.a p3 x.ov.c,.slice x.fl.a p4 x.fl.c],.agg #[.string y.nm,.int .i64 y.sg,.slice y.pa.a q1 y.pa.c,.slice y.po.a q2 y.po.c,.slice y.ov.a q3 y.ov.c,.slice y.fl.a q4 y.fl.c]] W fun e w'=>e = .returned (.bool D)∧Below w3.heap.size w3 w'):=hid (fun W hW=>(HC0.out W (A8 hbx hW)).mono (fun e w9 h=>⟨h.1,A8 hW h.2⟩));clear hbx hqx hw3 hgx HQ HO HB1 HZB HC0;by_cases hkj:k=j
     ·have HPS:Hid (BS L (j:Int) (k:Int)=false):=hid (MS (fun h=>h.2.2.2.2 (by rw[hkj])));have hbn:((k:Int) !=(j:Int))=false:=by rw[hkj];simp
      have HKJ:=hid hkj;clear hkj;go_upto_region 7 with fail
      refine Ae (by kernel_rfl) ?_ ?_
      ·kernel_rfl
      repeat first
       | go_big_quiet_skip
       | (go_big_quiet_want;go_big_quiet_op;go_big_quiet_on)
       | (with_reducible apply wpQuiet_step
          intro K hK;go_simp;first
           | (refine hK _ ?_;clear hK K)
           | (apply Exists.intro
              refine⟨fun w' hw'=>?_,hK _ ?_⟩
              ·
               (first
                | (skip
                   go_simp;first | done | with_reducible exact rfl | with_reducible exact⟨rfl,rfl⟩))
              clear hK K))
      refine wpQuiet_nil ?_;intro w7 hw7;have HB7:=hid (A8 HB3.out hw7);have HQ7:=hid (A5 hw7 HQ3.out);have HO7:=hid (Bu hw7 HO3.out);clear hw7;clear HC HB3 HQ3 HO3 HZ3 HX3;go_wp2_with fail;go_roundg (n4 - (k+1))
      case rel=>exact⟨k+1,by have:=HK.out;omega,by go_num,by rw[I4 HPS.out];exact HO7.out,HQ7.out,HB7.out⟩
      case measure=>have:=HK.out;omega
     ·have hbn:((k:Int) !=(j:Int))=true:=by rw[bne_iff_ne];omega
      have HPS:Hid (BS L (j:Int) (k:Int)=D):=hid ((Mp HM.out HYX.out HYY.out (fun e=>hkj e.symm)).trans HD.out);have HKJ:=hid hkj;clear hkj;go_upto_region 7 with fail
      refine Ae (by kernel_rfl) ?_ ?_
      ·kernel_rfl
      repeat first
       | go_big_quiet_skip
       | (go_big_quiet_want;go_big_quiet_op;go_big_quiet_on)
       | (with_reducible apply wpQuiet_step
          intro K hK;go_simp;first
           | (refine hK _ ?_;clear hK K)
           | (apply Exists.intro
              refine⟨fun w' hw'=>?_,hK _ ?_⟩
              ·
               (first
                | with_reducible exact HC.out _ hw'
                | (have g0:=A4 (A5 hw' HQ3.out) 0 _ rfl
                   have g1:=A4 (A5 hw' HQ3.out) 1 _ rfl;have g2:=A4 (A5 hw' HQ3.out) 2 _ rfl;have g3:=A4 (A5 hw' HQ3.out) 3 _ rfl;go_simp;first | done | with_reducible exact rfl | with_reducible exact⟨rfl,rfl⟩ | with_reducible exact HC.out _ hw')
                | (have h0:=A4 (A5 hw' HX3.out) 0 _ rfl
                   have h1:=A4 (A5 hw' HX3.out) 1 _ rfl;have h2:=A4 (A5 hw' HX3.out) 2 _ rfl;have h3:=A4 (A5 hw' HX3.out) 3 _ rfl;have h4:=A4 (A5 hw' HX3.out) 4 _ rfl;have h5:=A4 (A5 hw' HX3.out) 5 _ rfl;go_simp;first | done | with_reducible exact rfl | with_reducible exact⟨rfl,rfl⟩ | with_reducible exact HC.out _ hw')
                | (have f0:=cell_later hw' HZ3.out.1
                   have f1:=cell_later hw' HZ3.out.2.1;have f2:=cell_later hw' HZ3.out.2.2.1;have f3:=cell_later hw' HZ3.out.2.2.2.1;have f4:=cell_later hw' HZ3.out.2.2.2.2.1;have f5:=cell_later hw' HZ3.out.2.2.2.2.2;go_simp;first | done | with_reducible exact rfl | with_reducible exact⟨rfl,rfl⟩ | with_reducible exact HC.out _ hw'))
              clear hK K))
      refine wpQuiet_nil ?_;intro w7 hw7;have HB7:=hid (A8 HB3.out hw7);have HQ7:=hid (A5 hw7 HQ3.out);have HO7:=hid (Bu hw7 HO3.out);clear hw7;clear HC HB3 HQ3 HO3 HZ3 HX3;cases D with
      | false=>
        go_wp2_with fail;go_roundg (n4 - (k+1))
        case rel=>exact⟨k+1,by have:=HK.out;omega,by go_num,by rw[I4 HPS.out];exact HO7.out,HQ7.out,HB7.out⟩
        case measure=>have:=HK.out;omega
      | true=>
        obtain⟨XS,hXS⟩:∃ X,(D1 L (j:Int) k).flatMap AO=X:=⟨_,rfl⟩;obtain⟨q,hq9⟩:∃ q,(D1 L (j:Int) k).length=q:=⟨_,rfl⟩;have hle:=Mb L (j:Int) k;have HTT:=hid (Lg HPS.out);rw[hXS,hq9] at HTT;rw[hXS,hq9] at HO7;rw[hq9] at hle;obtain⟨i0,hi,hz0,hz1,hz2⟩:=info_parts Dx;have HOW:=hid (Bu (Ac w7 (.cells #[.int .i64 (k:Int)] 3)) HO7.out);have HBW:=hid (A8 HB7.out (Ac w7 (.cells #[.int .i64 (k:Int)] 3)));have HQW:=hid (A5 (Ac w7 (.cells #[.int .i64 (k:Int)] 3)) HQ7.out);have hsz:=Af HQW.out;have hq1000:q<1000:=by have:=HS.out;have:=HLT.out;omega
        clear hXS hq9 hle;go_wp2_with (at_builtin;refine AC rfl _ _ 49 rfl (gl+1) 3 i0 (.int .i64 0) 1 8 Tryz.underlying49 hi hz0 hz1 hz2 rfl (by decide) _ q XS rfl HOW.out (some ⟨w7.heap.size,0,none⟩) 1 1 [.int .i64 (k:Int)] rfl rfl (DE rfl (Ao w7 _ (Below.refl _ _))) (by unfold maxLen;omega) (by omega) hsz ?_;intro v4 W4 hown4 hg4);have hB4:Below w.heap.size w W4:=HBW.out.grown hg4 HBW.out.size (fun k hk=>by have:=(HOW.out.lt _ hk).1;have:=HGL.out;omega);have hQ4:=Ep hg4 HQW.out (fun hk=>by have:=(HOW.out.lt _ hk).1;omega);rw[← HTT.out.1,← HTT.out.2] at hown4;have HO4:=hid hown4;have HB4:=hid hB4;have HQ4:=hid hQ4;clear hown4 hB4 hQ4 hg4 HOW HBW HQW hsz hq1000;go_wp2_with fail;go_roundg (n4 - (k+1))
        case rel=>exact⟨k+1,by have:=HK.out;omega,by go_num,HO4.out,HQ4.out,HB4.out⟩
        case measure=>have:=HK.out;omega
    ·have hnk:n4=k:=by have:=HK.out;omega
     subst hnk;go_wp2_with fail;go_ret;obtain⟨sa,sc,hv,hs,hnw⟩:=E8 (l:=D1 L (j:Int) n4) BZ rfl HO.out;have HT:Hid (BN L (j:Int)=D1 L (j:Int) n4):=hid (by unfold BN;rw[HN4.out,Nat.min_eq_left HS.out]);subst hv;exact⟨sa,_,sc,rfl,by rw[HT.out],by rw[HT.out];exact hs,HB1.out,hnw.mono (by have:=HGL.out;omega)⟩
end Go.Proofs.YtpohoannggdbjaaGreat
namespace Go.Proofs.YtpohoannggdbjaaGreat
open Lib (hid)
open Go.RowKit
set_option maxRecDepth 100000
structure Rw where
 fi:Int
 ah:Int
 tr:List Int
 nd:List (Int × Bool)
 cf:List Int
structure Tb where
 rw:List Rw
 li:List Int
structure RR(N P:Nat)(x:Rw):Prop where
 fi:0≤x.fi∧x.fi≤63
 ah:0≤x.ah∧x.ah≤63
 tr:∀ s∈x.tr,0≤s∧s≤63
 nd:∀ n∈x.nd,0≤n.1∧n.1<(P:Int)
 cf:∀ k∈x.cf,0≤k∧k<(N:Int)
structure Db(T:Tb):Prop where
 rn:T.rw.length≤64
 pn:T.li.length≤32
 rw:∀ x∈T.rw,RR T.rw.length T.li.length x
 li:∀ s∈T.li,0≤s∧s≤63
structure St.ok(s:St):Prop where
 lk:s.lk<18446744073709551616
 us:s.us<18446744073709551616
 ca:s.ca<18446744073709551616
 tm:∀ n,s.tm n≤255
 pt:s.pt<4294967296
def BU(f:Nat→Nat)(n v:Nat):Nat→Nat:=fun k=>if k=n then v else f k
theorem PY(f:Nat→Nat)(n v:Nat):BU f n v n=v:=if_pos rfl
theorem My(f:Nat→Nat){n k:Nat}(v:Nat)(h:k≠n):BU f n v k=f k:=if_neg h
structure CZ where
 oc:Nat
 no:Nat
 re:Nat
 cm:Value
structure CZ.ok(i:CZ):Prop where
 oc:i.oc<18446744073709551616
 no:i.no<4294967296
 re:i.re<4294967296
 cm:∃ a n c,i.cm = .slice a n c
def Sf(i:CZ):List Value:=[.int .u64 (i.oc:Int),.int .u32 (i.no:Int),.int .u32 (i.re:Int),i.cm]
def Bi(oc:Nat)(x:Rw):Bool:=!x.tr.any (fun k=>Aa oc k.toNat)
def Bf(T:Tb)(s:St)(oc:Nat)(n:Int × Bool):Bool:=(Aa s.pt n.1.toNat != n.2) && Aa oc (T.li.getD n.1.toNat 0).toNat
def B7(T:Tb)(s:St)(oc n:Nat)(x:Rw):Bool:=!Aa s.lk n && (Bi oc x && (!x.cf.any (fun k=>Aa s.lk k.toNat) && !x.nd.any (Bf T s oc)))
def Cr(l:List (Int × Bool))(p:Nat):Nat:=l.foldl (fun p n=>if n.2 then Ab p n.1.toNat else Ax p n.1.toNat) p
def BO(T:Tb)(s:St)(oc n:Nat)(x:Rw):St:=if B7 T s oc n x then { s with lk:=Ab s.lk n,pt:=Cr x.nd s.pt } else s
def AT(s:St)(n:Nat):Bool:=Aa s.lk n && (!Aa s.us n && !Aa s.ca n)
def Bk(s:St)(oc n:Nat)(x:Rw):St:=if AT s n then { s with ca:=Ab s.ca n,tm:=if Aa oc x.ah.toNat then BU s.tm n 20 else s.tm } else s
def Bw(s:St)(oc n:Nat)(x:Rw):St:=if AT s n then { s with ca:=Ab s.ca n,tm:=if Aa oc x.ah.toNat then BU s.tm n 20 else BU s.tm n 0 } else s
def BD(T:Tb)(s:St)(p:Nat):Nat→Bool
 | 0=>false
 | k+1=>BD T s p k || (Aa s.lk k && ((T.rw[k]?).map (fun x=>x.nd.any (fun n=>n.1 ==(p:Int)))).getD false)
def Bh(x n:Nat):Nat:=x ^^^ pw n
def Bg(T:Tb)(s:St)(oc p:Nat):Bool:=!Aa oc (T.li.getD p 0).toNat && !BD T s p T.rw.length
def BQ(T:Tb)(s:St)(oc p:Nat):St:=if Bg T s oc p then { s with pt:=Bh s.pt p } else s
def Bj(can:St→Nat→Nat→Rw→St)(T:Tb)(s:St)(oc:Nat)(c:Nat × Int):St:=
 if c.2<0 then s
 else if c.1=3 then (if c.2.toNat<T.li.length then BQ T s oc c.2.toNat else s)
 else match T.rw[c.2.toNat]? with
  | none=>s
  | some x=>if c.1=1 then BO T s oc c.2.toNat x else if c.1=2 then can s oc c.2.toNat x else s
def CN:=Bj Bk
def CI:=Bj Bw
def BI(s:St)(n:Nat):St:={ lk:=Ax s.lk n,us:=Ax s.us n,ca:=Ax s.ca n,tm:=BU s.tm n 0,pt:=s.pt }
def BC(s:St)(oc used n:Nat)(x:Rw):St:=
 if Aa used n then (if Bi oc x then BI s n else s)
 else if Aa oc x.fi.toNat then { s with us:=Ab s.us n }
 else if Aa s.ca n then (if 0<s.tm n then { s with tm:=BU s.tm n (s.tm n - 1) } else if Bi oc x then BI s n else s)
 else s
def BM(s:St)(oc a b n:Nat)(x:Rw):Bool:=AT s n && (Bi oc x && x.nd.all (fun m=>Aa (if m.2 then b else a) m.1.toNat))
def AD(k P:Nat)(s:St):St where
 lk:=s.lk &&& (pw k - 1)
 us:=s.us &&& (s.lk &&& (pw k - 1))
 ca:=s.ca &&& (s.lk &&& (pw k - 1))
 tm:=fun n=>if Aa (s.ca &&& (s.lk &&& (pw k - 1))) n then min (s.tm n) 20 else 0
 pt:=s.pt &&& (pw P - 1)
def AS(can:St→Nat→Nat→Rw→St)(T:Tb)(oc:Nat)(l:List (Nat × Int))(s:St):St:=l.foldl (fun s c=>Bj can T s oc c) s
def AR(T:Tb)(oc used:Nat)(s:St):Nat→St
 | 0=>s
 | k+1=>if Aa (AR T oc used s k).lk k then ((T.rw[k]?).map (BC (AR T oc used s k) oc used k)).getD (AR T oc used s k) else AR T oc used s k
def Bc(T:Tb)(s:St)(oc a b:Nat):Nat→Nat
 | 0=>0
 | k+1=>if ((T.rw[k]?).map (BM s oc a b k)).getD false then Ab (Bc T s oc a b k) k else Bc T s oc a b k
def BB(can:St→Nat→Nat→Rw→St)(T:Tb)(s:St)(oc:Nat)(l:List (Nat × Int)):St:=
 AR T oc (AD T.rw.length T.li.length s).us (AS can T oc (l.take 8) (AD T.rw.length T.li.length s)) T.rw.length
def DN:=BB Bk
def AW(n r:Nat):Nat:=n &&& (4294967295 - r)
def Bq(T:Tb)(t:St)(oc n r:Nat):Nat:=Bc T t oc (AW n r) (AW r n) T.rw.length
structure Ln where
 fi:Int
 ah:Int
 tk:Sl Int
 nd:Sl (Int × Bool)
 cf:Sl Int
def NF(x:Ln):List Value:=[.int .i64 x.fi,.int .i64 x.ah,x.tk.v,x.nd.v,x.cf.v]
def Ln.rw(x:Ln):Rw:=⟨x.fi,x.ah,x.tk.l,x.nd.l,x.cf.l⟩
structure Ii(X:Nat→Prop)(w:World)(x:Ln):Prop where
 tk:Fc 1 AO X w x.tk
 nd:Fc 2 Cz X w x.nd
 cf:Fc 1 AO X w x.cf
theorem Ii.step{X:Nat→Prop}{w w':World}{x:Ln}(h:Ii X w x)(k:WX X w w'):Ii X w' x:=⟨h.tk.step k,h.nd.step k,h.cf.step k⟩
theorem Ii.weak{X Y:Nat→Prop}{w:World}{x:Ln}(h:Ii X w x)(hy:∀ b,b<w.heap.size→Y b→X b):Ii Y w x:=⟨h.tk.weak hy,h.nd.weak hy,h.cf.weak hy⟩
structure Mc where
 ln:Sl Ln
 li:Sl Int
 se:Int
 pt:Nat
def Mc.tb(M:Mc):Tb:=⟨M.ln.l.map Ln.rw,M.li.l⟩
structure Cv(X:Nat→Prop)(w:World)(m:Nat)(M:Mc):Prop where
 blk:w.heap[m]?=some (.cells #[M.ln.v,M.li.v,.int .i64 M.se,.int .u32 (M.pt:Int)] 93)
 off:¬ X m
 ln:Fc 5 NF X w M.ln
 li:Fc 1 AO X w M.li
 lns:∀ x∈M.ln.l,Ii X w x
theorem Cv.step{X:Nat→Prop}{w w':World}{m:Nat}{M:Mc}(h:Cv X w m M)(k:WX X w w'):Cv X w' m M:=
 ⟨k.keep h.off h.blk,h.off,h.ln.step k,h.li.step k,fun x hx=>(h.lns x hx).step k⟩
theorem Cv.weak{X Y:Nat→Prop}{w:World}{m:Nat}{M:Mc}(h:Cv X w m M)(hy:∀ b,b<w.heap.size→Y b→X b):Cv Y w m M:=
 ⟨h.blk,fun e=>h.off (hy m (Af h.blk) e),h.ln.weak hy,h.li.weak hy,fun x hx=>(h.lns x hx).weak hy⟩
theorem Py{g:Nat}{w w':World}(h:Below g w w')(hs:w.heap.size≤w'.heap.size):WX (fun b=>g≤b) w w':=
 ⟨h.os,h.tape,h.output,hs,fun k _ hx=>h.block k (by omega)⟩
def C4(m:Nat)(s:St)(i:CZ)(u:Nat):List Value:=
 .pointer (some ⟨m,0,none⟩) :: .int .u64 (s.lk:Int) :: .int .u64 (s.us:Int) :: .int .u64 (s.ca:Int) ::(Cs s.tm ++ [.int .u32 (s.pt:Int),.int .u64 (i.oc:Int),.int .u32 (i.no:Int),.int .u32 (i.re:Int),i.cm,.int .u64 (u:Int)])
theorem Ej(m:Nat)(s:St)(i:CZ)(u:Nat):(C4 m s i u).toArray[0]?=some (.pointer (some ⟨m,0,none⟩)):=rfl
theorem JP(m:Nat)(s:St)(i:CZ)(u:Nat):(C4 m s i u).toArray[1]?=some (.int .u64 (s.lk:Int)):=rfl
theorem Hy(m:Nat)(s:St)(i:CZ)(u:Nat):(C4 m s i u).toArray[2]?=some (.int .u64 (s.us:Int)):=rfl
theorem Hz(m:Nat)(s:St)(i:CZ)(u:Nat):(C4 m s i u).toArray[3]?=some (.int .u64 (s.ca:Int)):=rfl
theorem J9(m:Nat)(s:St)(i:CZ)(u:Nat){n:Nat}(h:n<64):(C4 m s i u).toArray[4+n]?=some (.int .u8 (s.tm n:Int)):=by
 rw[List.getElem?_toArray];unfold C4;rw[show 4+n=n+1+1+1+1 by omega,List.getElem?_cons_succ,List.getElem?_cons_succ,List.getElem?_cons_succ,List.getElem?_cons_succ,List.getElem?_append_left (by rw[BK];exact h),DQ _ h]
theorem F3(m:Nat)(s:St)(i:CZ)(u:Nat)(k:Nat)(hk:k<6):(C4 m s i u).toArray[68+k]?=[Value.int .u32 (s.pt:Int),.int .u64 (i.oc:Int),.int .u32 (i.no:Int),.int .u32 (i.re:Int),i.cm,.int .u64 (u:Int)][k]?:=by
 rw[List.getElem?_toArray];unfold C4;rw[show 68+k=(64+k)+1+1+1+1 by omega,List.getElem?_cons_succ,List.getElem?_cons_succ,List.getElem?_cons_succ,List.getElem?_cons_succ,List.getElem?_append_right (by rw[BK];omega),BK,Nat.add_sub_cancel_left]
theorem Nq(f:Nat→Nat)(n v:Nat):(Cs f).set n (.int .u8 (v:Int))=Cs (BU f n v):=by
 apply List.ext_getElem?
 intro k;rw[List.getElem?_set];by_cases h:k<64
 ·by_cases e:n=k
  ·subst e;rw[if_pos rfl,if_pos (by rw[BK];exact h),DQ _ h,PY]
  ·rw[if_neg e,DQ _ h,DQ _ h,My _ _ (fun e'=>e e'.symm)]
 ·rw[List.getElem?_eq_none (by rw[BK];omega),List.getElem?_eq_none (by rw[BK];omega)];split
  ·rw[if_neg (by rw[BK];omega)]
  ·rfl
theorem Qq(m:Nat)(s:St)(i:CZ)(u x:Nat):(C4 m s i u).toArray.setIfInBounds 1 (.int .u64 (x:Int))=(C4 m { s with lk:=x } i u).toArray:=by rw[List.setIfInBounds_toArray];rfl
theorem QZ(m:Nat)(s:St)(i:CZ)(u x:Nat):(C4 m s i u).toArray.setIfInBounds 2 (.int .u64 (x:Int))=(C4 m { s with us:=x } i u).toArray:=by rw[List.setIfInBounds_toArray];rfl
theorem Q9(m:Nat)(s:St)(i:CZ)(u x:Nat):(C4 m s i u).toArray.setIfInBounds 3 (.int .u64 (x:Int))=(C4 m { s with ca:=x } i u).toArray:=by rw[List.setIfInBounds_toArray];rfl
theorem Kp(m:Nat)(s:St)(i:CZ)(u x:Nat){n:Nat}(h:n<64):(C4 m s i u).toArray.setIfInBounds (4+n) (.int .u8 (x:Int))=(C4 m { s with tm:=BU s.tm n x } i u).toArray:=by
 rw[List.setIfInBounds_toArray];unfold C4;rw[show 4+n=n+1+1+1+1 by omega,List.set_cons_succ,List.set_cons_succ,List.set_cons_succ,List.set_cons_succ,List.set_append,if_pos (by rw[BK];exact h),Nq]
theorem Nj(m:Nat)(s:St)(i:CZ)(u x:Nat):(C4 m s i u).toArray.setIfInBounds 68 (.int .u32 (x:Int))=(C4 m { s with pt:=x } i u).toArray:=by
 rw[List.setIfInBounds_toArray];unfold C4;rw[show 68=64+1+1+1+1 by omega,List.set_cons_succ,List.set_cons_succ,List.set_cons_succ,List.set_cons_succ,List.set_append,if_neg (by rw[BK];omega),BK];rfl
theorem RN(m:Nat)(s:St)(i:CZ)(u x:Nat):(C4 m s i u).toArray.setIfInBounds 73 (.int .u64 (x:Int))=(C4 m s i x).toArray:=by
 rw[List.setIfInBounds_toArray];unfold C4;rw[show 73=69+1+1+1+1 by omega,List.set_cons_succ,List.set_cons_succ,List.set_cons_succ,List.set_cons_succ,List.set_append,if_neg (by rw[BK];omega),BK];rfl
structure Cy(w:World)(g m:Nat)(M:Mc)(s:St)(i:CZ)(u:Nat):Prop where
 mach:Cv (fun b=>g≤b) w m M
 tb:Db M.tb
 blk:w.heap[g]?=some (.cells (C4 m s i u).toArray 102)
 sok:s.ok
 iok:i.ok
 uok:u<18446744073709551616
theorem Cy.below{w w':World}{g m:Nat}{M:Mc}{s:St}{i:CZ}{u:Nat}(h:Cy w g m M s i u)(hb:Below w.heap.size w w'):Cy w' g m M s i u:=
 ⟨h.mach.step (WX.of_below hb),h.tb,A5 hb h.blk,h.sok,h.iok,h.uok⟩
theorem Cy.next{w w':World}{g m:Nat}{M:Mc}{s s':St}{i:CZ}{u:Nat}(h:Cy w g m M s i u)(hb:Below g w w')(hs:w.heap.size≤w'.heap.size)(hg:w'.heap[g]?=some (.cells (C4 m s' i u).toArray 102))(ho:s'.ok):Cy w' g m M s' i u:=
 ⟨h.mach.step (Py hb hs),h.tb,hg,ho,h.iok,h.uok⟩
theorem GQ{M:Mc}{n:Nat}{x:Ln}(h:M.ln.l[n]?=some x):M.tb.rw[n]?=some x.rw:=by unfold Mc.tb;rw[List.getElem?_map,h];rfl
theorem BV(M:Mc):M.tb.rw.length=M.ln.l.length:=by unfold Mc.tb;rw[List.length_map]
theorem IP{M:Mc}(h:Db M.tb){n:Nat}{x:Ln}(hx:M.ln.l[n]?=some x):RR M.ln.l.length M.li.l.length x.rw:=by
 have:=h.rw x.rw (List.mem_of_getElem? (GQ hx));rw[BV] at this;exact this
end Go.Proofs.YtpohoannggdbjaaGreat
namespace Go.Proofs.YtpohoannggdbjaaGreat
open Lib (hid)
open Go.RowKit
set_option maxRecDepth 100000
def Iz:St:=⟨0,0,0,fun _=>0,0⟩
structure Iv where
 oc:Nat
 no:Nat
 re:Nat
 a:Option Addr
 len:Nat
 cap:Nat
 cl:List (Nat × Int)
structure Sh where
 st:Bool
 p:Nat
 q:Nat
def AE(T:Tb)(x:Iv)(s:St):St:=DN T s x.oc x.cl
def Dj(T:Tb)(x:Iv)(y:Sh)(s:St):Bool:=y.st || (Bq T (AE T x s) x.oc x.no x.re == y.p && (AE T x s).pt == y.q)
def CR(T:Tb)(x:Iv)(y:Sh)(s:St):List St:=(if y.st then [s] else []) ++ (if Dj T x y s then [AE T x s] else [])
def Cp(T:Tb)(x:Iv)(y:Sh)(K:List St):List St:=K.flatMap (CR T x y)
def Bz(T:Tb)(X:List Iv)(Y:List Sh):Nat→List St
 | 0=>[Iz]
 | i+1=>match X[i]?,Y[i]? with
   | some x,some y=>Cp T x y (Bz T X Y i)
   | _,_=>Bz T X Y i
def AV(K M:List St):Prop:=∀ v:Value,v∈K.map BG↔v∈M.map BG
theorem AV.refl(K:List St):AV K K:=fun _=>Iff.rfl
theorem AV.trans{A B C:List St}(h:AV A B)(k:AV B C):AV A C:=fun v=>(h v).trans (k v)
theorem AV.nil{K M:List St}(h:AV K M):K=[]↔M=[]:=by
 constructor
 ·rintro rfl;cases M with
  | nil=>rfl
  | cons m M=>exact absurd ((h (BG m)).2 (by simp)) (by simp)
 ·rintro rfl;cases K with
  | nil=>rfl
  | cons m M=>exact absurd ((h (BG m)).1 (by simp)) (by simp)
theorem AV.symm{A B:List St}(h:AV A B):AV B A:=fun v=>(h v).symm
theorem Io(K:List St)(s:St):AV (Bt K s) (K ++ [s]):=by
 unfold Bt;split
 ·rename_i h
  obtain⟨t,ht,he⟩:=List.any_eq_true.1 h;have hv:=Dc.1 he;intro v;rw[List.map_append,List.mem_append];constructor
  ·exact .inl
  ·rintro(h | h)
   ·exact h
   ·rw[List.map_cons,List.map_nil,List.mem_singleton] at h;rw[h,hv];exact List.mem_map.2 ⟨t,ht,rfl⟩
 ·exact AV.refl _
theorem Kf(K:List St)(s:St):(Bt K s).length≤K.length+1:=by
 unfold Bt;split
 ·omega
 ·rw[List.length_append];exact Nat.le_refl _
theorem IZ{A B C D:List St}(h:AV A B)(k:AV C D):AV (A ++ C) (B ++ D):=by
 intro v;rw[List.map_append,List.map_append,List.mem_append,List.mem_append,h v,k v]
theorem H7{A B:List St}(h:A.Perm B):AV A B:=fun _=>(h.map BG).mem_iff
theorem Mi{T:Tb}(hT:T.rw.length≤64){s t:St}(h:BG s=BG t)(oc:Nat)(l:List (Nat × Int)):DN T s oc l=DN T t oc l:=by
 have he:=Dc.2 h;unfold CT at he;simp only[Bool.and_eq_true,beq_iff_eq,List.all_eq_true,List.mem_range] at he;obtain⟨h1,h2,h3,h4,h5⟩:=he;have ht:AD T.rw.length T.li.length s=AD T.rw.length T.li.length t:=by
  unfold AD;rw[h1,h2,h3,h5]
  congr 1
  funext n
  by_cases hn:n<64
  ·rw[h4 n hn]
  ·have hb:Aa (t.ca &&& (t.lk &&& (pw T.rw.length - 1))) n=false:=by
    rw[AX,Nat.testBit_and,Nat.testBit_and,pw,Nat.testBit_two_pow_sub_one,decide_eq_false (by omega)];simp
   rw[hb];rfl
 show AR T oc (AD T.rw.length T.li.length s).us (AS Bk T oc (l.take 8) (AD T.rw.length T.li.length s)) T.rw.length=AR T oc (AD T.rw.length T.li.length t).us (AS Bk T oc (l.take 8) (AD T.rw.length T.li.length t)) T.rw.length;rw[ht]
theorem GC{T:Tb}(hT:T.rw.length≤64)(x:Iv)(y:Sh){s t:St}(h:BG s=BG t):(CR T x y s).map BG=(CR T x y t).map BG:=by
 have hn:=Mi hT h x.oc x.cl;unfold CR Dj AE;rw[hn,List.map_append,List.map_append]
 congr 1
 cases y.st with
 | false=>rfl
 | true=>
   show[BG s]=[BG t];rw[h]
theorem Ik{T:Tb}(x:Iv)(y:Sh)(K:List St)(v:Value):v∈(Cp T x y K).map BG↔∃ s∈K,v∈(CR T x y s).map BG:=by
 unfold Cp;rw[List.map_flatMap,List.mem_flatMap]
theorem ML{T:Tb}(hT:T.rw.length≤64)(x:Iv)(y:Sh){K M:List St}(h:AV K M):AV (Cp T x y K) (Cp T x y M):=by
 intro v;rw[Ik,Ik];constructor
 ·rintro⟨s,hs,hv⟩;obtain⟨t,ht,he⟩:=List.mem_map.1 ((h (BG s)).1 (List.mem_map.2 ⟨s,hs,rfl⟩));exact⟨t,ht,by rw[GC hT x y he];exact hv⟩
 ·rintro⟨s,hs,hv⟩;obtain⟨t,ht,he⟩:=List.mem_map.1 ((h (BG s)).2 (List.mem_map.2 ⟨s,hs,rfl⟩));exact⟨t,ht,by rw[GC hT x y he];exact hv⟩
theorem Ms{T:Tb}{x:Iv}{y:Sh}{D N:List St}(s:St)(h:AV N (Cp T x y D)):AV (if Dj T x y s then Bt (if y.st then Bt N s else N) (AE T x s) else (if y.st then Bt N s else N)) (Cp T x y (D ++ [s])):=by
 have e:Cp T x y (D ++ [s])=Cp T x y D ++ CR T x y s:=by
  unfold Cp;rw[List.flatMap_append];simp
 rw[e];unfold CR;have h1:AV (if y.st then Bt N s else N) (Cp T x y D ++ (if y.st then [s] else [])):=by
  cases y.st with
  | false=>simpa using h
  | true=>exact(Io N s).trans (IZ h (AV.refl _))
 rw[← List.append_assoc];cases Dj T x y s with
 | false=>simpa using h1
 | true=>exact(Io _ _).trans (IZ h1 (AV.refl _))
theorem M4{T:Tb}{x:Iv}{y:Sh}{N:List St}{k:Nat}(s:St)(h:N.length≤2*k):(if Dj T x y s then Bt (if y.st then Bt N s else N) (AE T x s) else (if y.st then Bt N s else N)).length≤2*(k+1):=by
 have h1:(if y.st then Bt N s else N).length≤2*k+1:=by
  cases y.st with
  | false=>show N.length≤_;omega
  | true=>have:=Kf N s;show(Bt N s).length≤_;omega
 split
 ·have:=Kf (if y.st then Bt N s else N) (AE T x s);omega
 ·omega
theorem Ji{T:Tb}{X:List Iv}{Y:List Sh}{i:Nat}{x:Iv}{y:Sh}(hx:X[i]?=some x)(hy:Y[i]?=some y):Bz T X Y (i+1)=Cp T x y (Bz T X Y i):=by
 show(match X[i]?,Y[i]? with
  | some x,some y=>Cp T x y (Bz T X Y i)
  | _,_=>Bz T X Y i)=_
 rw[hx,hy]
theorem NO(T:Tb)(x:Iv)(y:Sh):Cp T x y []=[]:=rfl
end Go.Proofs.YtpohoannggdbjaaGreat
namespace Go.Proofs.YtpohoannggdbjaaGreat
open Lib (hid)
open Go.RowKit
set_option maxRecDepth 100000
attribute [local irreducible] Sl.v Aa pw Ab Ax C4 Ai BG Cs Bi Bf B7 Cr BO AT Bk Bw BD Bh Bg BQ Bj BI BC BM AD AS AR Bc BB Bq CT Mc.tb BU AQ Aq AW
theorem PJ(m u:Nat)(s:St)(i:CZ):(C4 m s i u).toArray[69]?=some (.int .u64 (i.oc:Int)):=F3 m s i u 1 (by omega)
theorem RV(m u:Nat)(s:St)(i:CZ):(C4 m s i u).toArray[70]?=some (.int .u32 (i.no:Int)):=F3 m s i u 2 (by omega)
theorem S3(m u:Nat)(s:St)(i:CZ):(C4 m s i u).toArray[71]?=some (.int .u32 (i.re:Int)):=F3 m s i u 3 (by omega)
theorem RF(m u:Nat)(s:St)(i:CZ):(C4 m s i u).toArray[72]?=some i.cm:=F3 m s i u 4 (by omega)
theorem Pw(m u:Nat)(s:St)(i:CZ):(C4 m s i u).toArray[73]?=some (.int .u64 (u:Int)):=F3 m s i u 5 (by omega)
theorem Fj(m u:Nat)(s:St)(i:CZ):(C4 m s i u).toArray[68]?=some (.int .u32 (s.pt:Int)):=F3 m s i u 0 (by omega)
theorem D0(b:Bool)(g m u:Nat)(M:Mc)(s:St)(i:CZ)(w:World)(hC:Cy w g m M s i u)(n:Nat)(hn:n≤63)(hb:Aa s.lk n=b) :
 Calls Tryz.prog 34 #[.pointer (some ⟨g,0,none⟩),.int .i64 (n:Int)] w fun e w'=>e = .returned (.bool b)∧Below w.heap.size w w':=by
 have c1:=A4 hC.blk 1 _ (JP _ _ _ _);have HIN:Hid (∀ V,Calls Tryz.prog 53 #[.int .u64 (s.lk:Int),.int .i64 (n:Int)] V fun e w'=>e = .returned (.bool b)∧V=w'):=hid (fun V=>Dd b s.lk n V hn hC.sok.lk hb);clear hb hn hC;go_enter Tryz.func34,Tryz.ntmps34;go_wp2_with fail;refine(HIN.out _).mono ?_;rintro e w' ⟨rfl,rfl⟩;go_wp2_with fail;go_ret;exact⟨rfl,Below.refl _ _⟩
theorem DZ(b:Bool)(g m u:Nat)(M:Mc)(s:St)(i:CZ)(w:World)(hC:Cy w g m M s i u)(n:Int)(hn:0≤n∧n≤63)(hb:Aa i.oc n.toNat=b) :
 Calls Tryz.prog 58 #[.pointer (some ⟨g,0,none⟩),.int .i64 n] w fun e w'=>e = .returned (.bool (!b))∧Below w.heap.size w w':=by
 obtain⟨k,rfl⟩:∃ k:Nat,n=k:=⟨n.toNat,by omega⟩;have c1:=A4 hC.blk 69 _ (PJ _ _ _ _);have HIN:Hid (∀ V,Calls Tryz.prog 53 #[.int .u64 (i.oc:Int),.int .i64 (k:Int)] V fun e w'=>e = .returned (.bool b)∧V=w'):=hid (fun V=>Dd b i.oc k V (by omega) hC.iok.oc (by rw[Int.toNat_natCast] at hb;exact hb));clear hb hn hC;go_enter Tryz.func58,Tryz.ntmps58;go_wp2_with fail;refine(HIN.out _).mono ?_;rintro e w' ⟨rfl,rfl⟩;go_wp2_with fail;go_ret;exact⟨rfl,Below.refl _ _⟩
theorem On(g1:Nat)(g m u:Nat)(M:Mc)(s:St)(i:CZ)(w:World)(hC:Cy w g m M s i u)(hq:w.heap[g1]?=some (.cells #[.pointer (some ⟨g,0,none⟩)] 99))(n:Int)(hn:0≤n∧n≤63) :
 Calls Tryz.prog 96 #[.int .i64 n,.pointer (some ⟨g1,0,none⟩)] w fun e w'=>e = .returned (.bool (Aa i.oc n.toNat))∧Below w.heap.size w w':=by
 obtain⟨b,hb⟩:∃ b,Aa i.oc n.toNat=b:=⟨_,rfl⟩;have HK:=hid (DZ b g m u M s i w hC n hn hb);have c0:=A4 hq 0 _ rfl;rw[hb];clear hb hn hC hq;go_enter Tryz.func96,Tryz.ntmps96;go_wp2_with fail;refine HK.out.mono ?_;rintro e w' ⟨rfl,hb⟩;have HB:=hid hb;clear hb c0;go_wp2_with fail;go_ret;exact⟨rfl,HB.out⟩
theorem Ok(g1:Nat)(p:Int)(y:Int × Bool)(w:World)(hq:w.heap[g1]?=some (.cells #[.int .i64 p] 3)) :
 Calls Tryz.prog 95 #[.agg #[.int .i64 y.1,.bool y.2],.pointer (some ⟨g1,0,none⟩)] w fun e w'=>e = .returned (.bool (y.1 == p))∧Below w.heap.size w w':=by
 go_enter Tryz.func95,Tryz.ntmps95;go_upto_region 1 with fail
 have hbn:=Ac w (.cells #[.int .i64 y.1,.bool y.2] 71);have hqn:=Ao w (.cells #[.int .i64 y.1,.bool y.2] 71) (Below.refl _ _);obtain⟨V,hV⟩:∃ V,V=w.alloc (.cells #[.int .i64 y.1,.bool y.2] 71):=⟨_,rfl⟩;rw[← hV] at hbn hqn ⊢;obtain⟨g2,hg2⟩:∃ g,g=w.heap.size:=⟨_,rfl⟩;rw[← hg2] at hqn ⊢;have c0:=A4 hqn 0 _ rfl;have c1:=A4 (A5 hbn hq) 0 _ rfl;have HB:=hid hbn;clear hbn hqn hV hg2 hq;go_wp2_with fail;go_ret;exact⟨rfl,HB.out⟩
theorem Oh(g1 g2 a b:Nat)(ha:a<4294967296)(hb:b<4294967296)(y:Int × Bool)(hy:0≤y.1∧y.1≤63)(w:World)(h1:w.heap[g1]?=some (.cells #[.int .u32 (b:Int)] 29))(h2:w.heap[g2]?=some (.cells #[.int .u32 (a:Int)] 29)) :
 Calls Tryz.prog 61 #[.agg #[.int .i64 y.1,.bool y.2],.pointer (some ⟨g1,0,none⟩),.pointer (some ⟨g2,0,none⟩)] w fun e w'=>e = .returned (.bool (!Aa (if y.2 then b else a) y.1.toNat))∧Below w.heap.size w w':=by
 obtain⟨y1,y2⟩:=y;dsimp only at hy ⊢;obtain⟨k,rfl⟩:∃ k:Nat,y1=k:=⟨y1.toNat,by omega⟩;rw[Int.toNat_natCast];obtain⟨ra,hra⟩:∃ r,Aa a k=r:=⟨_,rfl⟩;obtain⟨rb,hrb⟩:∃ r,Aa b k=r:=⟨_,rfl⟩;have HA:Hid (∀ V,Calls Tryz.prog 53 #[.int .u64 (a:Int),.int .i64 (k:Int)] V fun e w'=>e = .returned (.bool ra)∧V=w'):=hid (fun V=>Dd ra a k V (by omega) (by omega) hra);have HB:Hid (∀ V,Calls Tryz.prog 53 #[.int .u64 (b:Int),.int .i64 (k:Int)] V fun e w'=>e = .returned (.bool rb)∧V=w'):=hid (fun V=>Dd rb b k V (by omega) (by omega) hrb);have ea:IntKind.u64.wrap (a:Int)=(a:Int):=by rw[IntKind.wrap_u64];omega
 have eb:IntKind.u64.wrap (b:Int)=(b:Int):=by rw[IntKind.wrap_u64];omega
 have hres:Aa (if y2=true then b else a) k=if y2 then rb else ra:=by cases y2<;>simp[hra,hrb]
 rw[hres];clear hres hra hrb ha hb hy;go_enter Tryz.func61,Tryz.ntmps61;go_upto_region 1 with fail
 have hbn:=Ac w (.cells #[.int .i64 (k:Int),.bool y2] 71);have hqn:=Ao w (.cells #[.int .i64 (k:Int),.bool y2] 71) (Below.refl _ _);obtain⟨V,hV⟩:∃ V,V=w.alloc (.cells #[.int .i64 (k:Int),.bool y2] 71):=⟨_,rfl⟩;rw[← hV] at hbn hqn ⊢;obtain⟨g3,hg3⟩:∃ g,g=w.heap.size:=⟨_,rfl⟩;rw[← hg3] at hqn ⊢;have c0:=A4 hqn 0 _ rfl;have c1:=A4 hqn 1 _ rfl;have d1:=A4 (A5 hbn h1) 0 _ rfl;have d2:=A4 (A5 hbn h2) 0 _ rfl;have HN:=hid hbn;clear hbn hqn hV hg3 h1 h2;cases y2 with
 | true=>
   go_wp2_with fail;refine(HB.out _).mono ?_;rintro e w' ⟨rfl,rfl⟩;go_wp2_with fail;go_ret;exact⟨rfl,HN.out⟩
 | false=>
   go_wp2_with fail;refine(HA.out _).mono ?_;rintro e w' ⟨rfl,rfl⟩;go_wp2_with fail;go_ret;exact⟨rfl,HN.out⟩
theorem Dl(s:St):(Ai s).toArray[0]?=some (.int .u64 (s.lk:Int)):=by unfold Ai;rfl
theorem EW(s:St):(Ai s).toArray[1]?=some (.int .u64 (s.us:Int)):=by unfold Ai;rfl
theorem Ds(s:St):(Ai s).toArray[2]?=some (.int .u64 (s.ca:Int)):=by unfold Ai;rfl
theorem E2(s:St):(Ai s).toArray[67]?=some (.int .u32 (s.pt:Int)):=by rw[List.getElem?_toArray];exact GL s
set_option maxHeartbeats 4000000 in
theorem Ia(b:Bool)(g m u:Nat)(M:Mc)(s:St)(i:CZ)(w:World)(hC:Cy w g m M s i u)(n:Nat)(x:Ln)(hx:M.ln.l[n]?=some x)(hb:Bi i.oc x.rw=b) :
 Calls Tryz.prog 57 #[.pointer (some ⟨g,0,none⟩),.int .i64 (n:Int)] w fun e w'=>e = .returned (.bool b)∧Below w.heap.size w w':=by
 obtain⟨N1,hN1⟩:∃ k,M.ln.l.length=k:=⟨_,rfl⟩;have cm0:=A4 hC.mach.blk 0 _ rfl;rw[Ak hN1] at cm0;have hlt1:n<N1:=by rw[← hN1];exact(List.getElem?_eq_some_iff.1 hx).1
 have hle1:N1≤64:=by have:=hC.tb.rn;rw[BV,hN1] at this;exact this
 have hok1:=IP hC.tb hx;obtain⟨LC,hLC⟩:∃ c,M.ln.c=c:=⟨_,rfl⟩;obtain⟨LA,hLA⟩:∃ a,M.ln.a=a:=⟨_,rfl⟩;have hlrow:=hC.mach.ln.at_.row;rw[hLA] at hlrow;rw[hLA,hLC] at cm0;rcases hlrow with hnil | ⟨lb,lo,hlb,hlc⟩
 ·rw[hnil] at hx;cases hx
 rw[hlb] at cm0;have z2:=hlc n x hx 2 _ rfl;have hxm:=hC.mach.lns x (List.mem_of_getElem? hx);obtain⟨b',hb'⟩:∃ b',x.tk.l.any (fun k=>Aa i.oc k.toNat)=b':=⟨_,rfl⟩;obtain rfl:b = !b':=by rw[← hb,← hb'];unfold Bi Ln.rw;rfl
 obtain⟨t1,ht1⟩:∃ k,x.tk.l.length=k:=⟨_,rfl⟩;have htm:=hxm.tk.at_.lenM;rw[ht1] at htm;rw[Ak ht1] at z2;have HK:Hid (∀(gb:Nat) (W:World),Below w.heap.size w W→W.heap[gb]?=some (.cells #[.pointer (some ⟨g,0,none⟩)] 99)→Calls Tryz.prog 94 #[.slice x.tk.a t1 x.tk.c,.func (.func 96) #[] #[.pointer (some ⟨gb,0,none⟩)]] W fun e w'=>e = .returned (.bool b')∧Below W.heap.size W w'):=
  hid (fun gb W hW hq=>KY b' gb (fun k=>Aa i.oc k.toNat) x.tk.a t1 x.tk.c x.tk.l W hb' ht1 htm (hxm.tk.at_.row.below hW) (fun V hV y hy=>On gb g m u M s i V ((hC.below hW).below hV) (A5 hV hq) y (hok1.tr y hy)))
 have HC:=hid hC;have hcg:=hC.blk;have d1:(0:Int)≤n:=by omega
 have d2:(n:Int)<N1:=by omega
 have HCM:=hid cm0;have HZ2:=hid z2;clear hb hC hok1 hlc hxm hx hb' ht1 htm hlb hLA hLC hN1 hle1 hlt1 cm0 z2;go_enter Tryz.func57,Tryz.ntmps57;go_upto_region 1 with fail
 have hbn:=Ac w (.cells #[.pointer (some ⟨g,0,none⟩)] 99);have hqn:=Ao w (.cells #[.pointer (some ⟨g,0,none⟩)] 99) (Below.refl _ _);obtain⟨V,hV⟩:∃ V,V=w.alloc (.cells #[.pointer (some ⟨g,0,none⟩)] 99):=⟨_,rfl⟩;rw[← hV] at hbn hqn ⊢;obtain⟨gb,hgb⟩:∃ g,g=w.heap.size:=⟨_,rfl⟩;rw[← hgb] at hqn ⊢;have HB0:=hid hbn;have HQ:=hid hqn;have l0:=A4 hqn 0 _ rfl;have l1:=A4 (A5 hbn hcg) 0 _ (Ej _ _ _ _);have l2:=cell_later hbn HCM.out;have l3:=cell_later hbn HZ2.out;clear hbn hqn hV hgb hcg;go_wp2_with fail;refine(HK.out _ _ HB0.out HQ.out).mono ?_;rintro e w1 ⟨rfl,hb⟩;have HB1:=hid (A8 HB0.out hb);clear hb l0 l1 l2 l3;go_wp2_with fail;go_ret;exact⟨rfl,HB1.out⟩
end Go.Proofs.YtpohoannggdbjaaGreat
