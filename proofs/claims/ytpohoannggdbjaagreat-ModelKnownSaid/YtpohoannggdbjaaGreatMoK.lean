/- Layer 28: ModelBegins. -/
import Derived.Test.YtpohoannggdbjaaGreatMoI
import Derived.Test.YtpohoannggdbjaaGreatMoJ
import Derived.Test.YtpohoannggdbjaaGreatMoN
set_option maxRecDepth 100000
set_option maxHeartbeats 200000000
namespace Go.Proofs.YtpohoannggdbjaaGreat
open Lib (hid)
open Go.RowKit
theorem KM{α:Type}{sz:Nat}{f:α→List Value}{w:World}{a:Option Addr}{l:List α}(h:As sz f w a l)(k:Nat):As sz f w a (l.take k):=by
 rcases h with rfl | ⟨b,off,h1,h2⟩
 ·exact .inl List.take_nil
 ·refine .inr ⟨b,off,h1,fun i c hi j v hv=>h2 i c ?_ j v hv⟩;rw[List.getElem?_take] at hi;split at hi
  ·exact hi
  ·cases hi
attribute [local irreducible] Sl.v Aa pw Ab Aw C8 Af BC CD Bi Bg B9 CB BQ AU Bp BB BG Bh Bd BP Bo BL BF BN AI AY AV Be Bw Bq C4 Mc.tb BZ AX Ap B5
attribute [local irreducible] Bs BV C6 BS Ay AN
attribute [local irreducible] AW CY Bt BO zS FL BH Df C3 I8 BX FN FM D8 Bu EK RO
theorem GU(L:AL)(ra:Option Addr)(n rc:Nat)(sa:Option Addr)(k sc:Nat)(X:List Iv)(Y:List Sh)(N:Int)(w:World)(hL:AO w L)(hX:B7 4 DV w ⟨ra,rc,X⟩)(hxn:X.length=n)(hxo:∀ x∈X,Ci w x)(hY:B7 3 Cx w ⟨sa,sc,Y⟩)(hyn:Y.length=k) :
 Calls Tryz.prog 8 #[.agg #[L.se.v,L.po.v,L.sg.v,L.rt.v],.slice ra n rc,.slice sa k sc,.int .i64 N] w fun e w'=>e = .returned (.bool true)∧Below w.heap.size w w':=by
 obtain⟨n1,hn1⟩:=WY L.se.l.length;obtain⟨n2,hn2⟩:=WY L.po.l.length;obtain⟨n3,hn3⟩:=WY L.sg.l.length;obtain⟨n4,hn4⟩:=WY L.rt.l.length;obtain⟨b1,hb1⟩:=WY (Df L X 10);have KF:Hid (∀ V,Below w.heap.size w V→Calls Tryz.prog 11 #[.agg #[L.se.v,L.po.v,L.sg.v,L.rt.v],.slice ra n rc,.int .i64 10] V fun e w'=>e = .returned (.bool b1)∧Below V.heap.size V w'):=hid (fun V hV=>J8 L ra n rc 10 X b1 V (hL.below hV) (hX.row.below hV) hxn (by omega) hb1);cases b1 with
 | false=>
   rw[Ak hn1,Ak hn2,Ak hn3,Ak hn4] at KF ⊢;clear hn1 hn2 hn3 hn4 hL hb1 hX hxn hxo hY hyn;go_enter Tryz.func8,Tryz.ntmps8;go_upto_region 1 with fail
   refine Ao (os:=[.cells #[.slice L.se.a n1 L.se.c,.slice L.po.a n2 L.po.c,.slice L.sg.a n3 L.sg.c,.slice L.rt.a n4 L.rt.c] 27]) (w0:=w) rfl ?_;intro W hat hbw;obtain⟨gl,hgl⟩:=X0 w.heap.size;have q0:=hat 0 _ rfl;rw[Wa,← hgl] at q0;rw[← hgl];have HQl:=hid q0;have HB0:=hid hbw;clear hat hbw q0 hgl;have l0:=A4 HQl.o 0 _ rfl;have l1:=A4 HQl.o 1 _ rfl;have l2:=A4 HQl.o 2 _ rfl;have l3:=A4 HQl.o 3 _ rfl;go_wp2_with fail;refine(KF.o _ HB0.o).mono ?_;rintro e w1 ⟨rfl,hb1⟩;have HB1:=hid (A6 HB0.o hb1);have HL1:=hid (A5 hb1 HQl.o);clear hb1 l0 l1 l2 l3;go_wp2_with fail;refine(BI _).mono ?_;rintro e wz ⟨rfl,hbz⟩;have HBE:=hid (A6 HB1.o hbz);clear hbz;go_wp2_with fail;go_ret;exact⟨rfl,HBE.o⟩
 | true=>
   by_cases hk:10<k
   ·have d:(10:Int)<(k:Int):=(by omega);rw[Ak hn1,Ak hn2,Ak hn3,Ak hn4] at KF ⊢;clear hn1 hn2 hn3 hn4 hL hb1 hX hxn hxo hY hyn hk;go_enter Tryz.func8,Tryz.ntmps8;go_upto_region 1 with fail
    refine Ao (os:=[.cells #[.slice L.se.a n1 L.se.c,.slice L.po.a n2 L.po.c,.slice L.sg.a n3 L.sg.c,.slice L.rt.a n4 L.rt.c] 27]) (w0:=w) rfl ?_;intro W hat hbw;obtain⟨gl,hgl⟩:=X0 w.heap.size;have q0:=hat 0 _ rfl;rw[Wa,← hgl] at q0;rw[← hgl];have HQl:=hid q0;have HB0:=hid hbw;clear hat hbw q0 hgl;have l0:=A4 HQl.o 0 _ rfl;have l1:=A4 HQl.o 1 _ rfl;have l2:=A4 HQl.o 2 _ rfl;have l3:=A4 HQl.o 3 _ rfl;go_wp2_with fail;refine(KF.o _ HB0.o).mono ?_;rintro e w1 ⟨rfl,hb1⟩;have HB1:=hid (A6 HB0.o hb1);have HL1:=hid (A5 hb1 HQl.o);clear hb1 l0 l1 l2 l3;go_wp2_with fail;refine(BI _).mono ?_;rintro e wz ⟨rfl,hbz⟩;have HBE:=hid (A6 HB1.o hbz);clear hbz;go_wp2_with fail;go_ret;exact⟨rfl,HBE.o⟩
   ·have d:¬ (10:Int)<(k:Int):=(by omega);have dk:decide (10<k)=false:=Wg hk;have hfew:=J9 hb1;have HN10:Hid (n≤10):=hid (by omega);have hxo2:∀ x∈X,Ci w x∧x.len≤100000:=fun x hx=>⟨hxo x hx,by have:=hfew.2 x hx;omega⟩
    obtain⟨c,hc⟩:=WY ((Ap L).1);obtain⟨b2,hb2⟩:=WY (BH L X Y);have KR:Hid (∀ V,Below w.heap.size w V→Calls Tryz.prog 7 #[.agg #[L.se.v,L.po.v,L.sg.v,L.rt.v],.slice ra n rc] V fun e w'=>∃ v1 v2,e = .returned (.tuple #[v1,v2,.int .i64 c])∧Below V.heap.size V w'):=hid (fun V hV=>by
     by_cases h0:c=0
     ·refine(JB L ra n rc X V (hL.below hV) (hX.row.below hV) hxn (fun x hx=>⟨(hxo2 x hx).1.below hV,(hxo2 x hx).2⟩) (by have:=HN10.o;omega) (hc.trans h0)).mono ?_;rintro e w' ⟨g1,g2,rfl,_,_,hb⟩;exact⟨_,_,by rw[h0],hb⟩
     ·refine(LF L ra n rc V (hL.below hV) c hc h0).mono ?_;rintro e w' ⟨rfl,hb⟩;exact⟨_,_,rfl,hb⟩)
    have KES:Hid (∀ V g,Below w.heap.size w V→As 3 Cx V (some ⟨g,0,none⟩) (List.replicate n EK)→Calls Tryz.prog 15 #[.agg #[L.se.v,L.po.v,L.sg.v,L.rt.v],.slice ra n rc,.slice (some ⟨g,0,none⟩) n n] V fun e w'=>e = .returned (.bool (decide (c=0)))∧Below V.heap.size V w'):=hid (fun V g hV hr=>CK L ra n rc _ n n X (List.replicate n EK) _ V (hL.below hV) (hX.row.below hV) hxn (fun x hx=>⟨(hxo2 x hx).1.below hV,(hxo2 x hx).2⟩) hr List.length_replicate (by have:=HN10.o;omega) (by rw[← hxn,Li,hc]));have KE:Hid (∀ V,Below w.heap.size w V→Calls Tryz.prog 15 #[.agg #[L.se.v,L.po.v,L.sg.v,L.rt.v],.slice ra n rc,.slice sa k sc] V fun e w'=>e = .returned (.bool b2)∧Below V.heap.size V w'):=hid (fun V hV=>CK L ra n rc sa k sc X Y b2 V (hL.below hV) (hX.row.below hV) hxn (fun x hx=>⟨(hxo2 x hx).1.below hV,(hxo2 x hx).2⟩) (hY.row.below hV) hyn (by have:=HN10.o;omega) hb2);have KET:Hid (b2=true→n=k∧∀ q,q≤n→∀ V rc' sc',Below w.heap.size w V→Calls Tryz.prog 15 #[.agg #[L.se.v,L.po.v,L.sg.v,L.rt.v],.slice ra q rc',.slice sa q sc'] V fun e w'=>e = .returned (.bool true)∧Below V.heap.size V w'):=hid (fun h=>by
     subst h;have h0:=(Ij hb2 (Wc _)).1;refine⟨by omega,fun q hq V rc' sc' hV=>?_⟩;refine CK L ra q rc' sa q sc' (X.take q) (Y.take q) true V (hL.below hV) (KM (hX.row.below hV) q) (by rw[Wu];omega) (fun x hx=>⟨(hxo2 x (List.mem_of_mem_take hx)).1.below hV,(hxo2 x (List.mem_of_mem_take hx)).2⟩) (KM (hY.row.below hV) q) (by rw[Wu];omega) (by have:=HN10.o;omega) (Ij hb2 (by omega)).2)
    have HXS:Hid (n≤rc∧rc≤maxLen∧(ra=none→rc=0)):=hid ⟨by have h:X.length≤rc:=hX.len;omega,hX.cap,hX.capNil⟩;have HYS:Hid (k≤sc∧sc≤maxLen∧(sa=none→sc=0)):=hid ⟨by have h:Y.length≤sc:=hY.len;omega,hY.cap,hY.capNil⟩;rw[Ak hn1,Ak hn2,Ak hn3,Ak hn4] at KF KR KES KE KET ⊢;clear hn1 hn2 hn3 hn4 hL hb1 hX hxn hxo hY hyn hk hfew hxo2 hc hb2;have hmk:=Mn n HN10.o;go_enter Tryz.func8,Tryz.ntmps8;go_upto_region 1 with fail
    refine Ao (os:=[.cells #[.slice L.se.a n1 L.se.c,.slice L.po.a n2 L.po.c,.slice L.sg.a n3 L.sg.c,.slice L.rt.a n4 L.rt.c] 27]) (w0:=w) rfl ?_;intro W hat hbw;obtain⟨gl,hgl⟩:=X0 w.heap.size;have q0:=hat 0 _ rfl;rw[Wa,← hgl] at q0;rw[← hgl];have HQl:=hid q0;have HB0:=hid hbw;clear hat hbw q0 hgl;have l0:=A4 HQl.o 0 _ rfl;have l1:=A4 HQl.o 1 _ rfl;have l2:=A4 HQl.o 2 _ rfl;have l3:=A4 HQl.o 3 _ rfl;go_wp2_with fail;refine(KF.o _ HB0.o).mono ?_;rintro e w1 ⟨rfl,hb1⟩;have HB1:=hid (A6 HB0.o hb1);have HL1:=hid (A5 hb1 HQl.o);clear hb1 l0 l1 l2 l3;have hlt1:=Aj HL1.o;go_upto_region 4 with fail
    clear d hmk;have hbn:=Ac w1 (.cells (Bu n 0).toArray 46);have hqn:=Al w1 (.cells (Bu n 0).toArray 46) (VU _ _);obtain⟨W2,hW2⟩:=X0 (w1.alloc (.cells (Bu n 0).toArray 46));obtain⟨gT,hgT⟩:=X0 w1.heap.size;rw[← hW2] at hbn hqn ⊢;rw[← hgT] at hqn ⊢;have HBT:=hid (A6 HB1.o hbn);have HB12:=hid hbn;have HGT:=hid hqn;have HGL:Hid (w1.heap.size≤gT):=hid (by omega);clear hbn hqn hW2 hgT hlt1;go_upto_region 5 with fail
    go_loopg [10] n (fun g v wr=>∃ i:Nat,i+g=n∧v = .int .i64 (i:Int)∧wr.heap[gT]?=some (.cells (Bu n i).toArray 46)∧Below w1.heap.size w1 wr)
    case atStart=>exact⟨0,by omega,rfl,HGT.o,HB12.o⟩
    case round=>
     obtain⟨i,hi,rfl,hgt,hbw⟩:=hrel;have HI:=hid hi;have HG:=hid hgt;have HB:=hid hbw;clear hi hgt hbw;by_cases hlt:i<n
     ·have d1:(0:Int)≤i:=(by omega);have d2:(i:Int)<n:=(by omega);have e1:=B8 hlt (Wd HN10.o (by decide));have HLT:=hid hlt;have c0:=A4 HG.o (i*3) _ (LK hlt);have f0:=Aq HG.o (i*3);have hlg:=Aj HG.o;have HS:Hid ((wr.setCell ⟨gT,i*3,none⟩ (.bool true)).heap[gT]?=some (.cells (Bu n (i+1)).toArray 46)∧Below w1.heap.size w1 (wr.setCell ⟨gT,i*3,none⟩ (.bool true))):=hid ⟨by rw[← NW hlt];exact AG HG.o _ _,Ai.below HB.o HGL.o HB.o.size ((Ai.refl gT wr).setCell rfl _)⟩;clear hlt;go_wp2_with fail;clear c0 f0 hlg;go_roundg (n - (i+1))
      case rel=>exact⟨i+1,AA HI.o HLT.o,by go_num,HS.o.1,HS.o.2⟩
      case measure=>exact Az HI.o HLT.o
     ·have d2:¬ ((i:Int)<(n:Int)):=(by omega);obtain rfl:i=n:=(by have:=HI.o;omega);clear hlt;have HBr:=hid (A6 HB1.o HB.o);have HLr:=hid (A5 HB.o HL1.o);have HRS:=hid (NV HG.o);have l0:=A4 HLr.o 0 _ rfl;have l1:=A4 HLr.o 1 _ rfl;have l2:=A4 HLr.o 2 _ rfl;have l3:=A4 HLr.o 3 _ rfl;go_wp2_with fail;refine(KR.o _ HBr.o).mono ?_;rintro e w3 ⟨v1,v2,rfl,hb3⟩;have HB3:=hid (A6 HBr.o hb3);have HL3:=hid (A5 hb3 HLr.o);have HRS3:=hid (HRS.o.below hb3);clear hb3 l0 l1 l2 l3 d2;have l0:=A4 HL3.o 0 _ rfl;have l1:=A4 HL3.o 1 _ rfl;have l2:=A4 HL3.o 2 _ rfl;have l3:=A4 HL3.o 3 _ rfl;go_wp2_with fail;refine(KES.o _ gT HB3.o HRS3.o).mono ?_;rintro e w4 ⟨rfl,hb4⟩;have HB4:=hid (A6 HB3.o hb4);have HL4:=hid (A5 hb4 HL3.o);clear hb4 l0 l1 l2 l3;obtain⟨bc,hbc⟩:=WY (c == 0);have hbd:decide (c=0)=bc:=by rw[← hbc];cases h:(c == 0)<;>simp_all
      rw[hbd];have hbn:(bc != bc)=false:=(by simp);clear hbd;have l0:=A4 HL4.o 0 _ rfl;have l1:=A4 HL4.o 1 _ rfl;have l2:=A4 HL4.o 2 _ rfl;have l3:=A4 HL4.o 3 _ rfl;go_wp2_with fail;refine(KE.o _ HB4.o).mono ?_;rintro e w5 ⟨rfl,hb5⟩;have HB5:=hid (A6 HB4.o hb5);have HL5:=hid (A5 hb5 HL4.o);clear hb5 l0 l1 l2 l3 hbc hbn;cases b2 with
      | false=>
        go_wp2_with fail;refine(BI _).mono ?_;rintro e wz ⟨rfl,hbz⟩;have HBE:=hid (A6 HB5.o hbz);clear hbz;go_wp2_with fail;go_ret;exact⟨rfl,HBE.o⟩
      | true=>
        have KT:=KET.o rfl;obtain rfl:=KT.1;obtain⟨q,hq1,hq2⟩:∃ q:Nat,N % ((i:Int)+1)=(q:Int)∧q≤i:=⟨(N % ((i:Int)+1)).toNat,by have:=Int.emod_nonneg N (show((i:Int)+1)≠0 by omega);omega,by have:=Int.emod_lt_of_pos N (show(0:Int)<(i:Int)+1 by omega);omega⟩;have KP:Hid (∀ V,Calls Tryz.prog 20 #[.int .i64 N,.int .i64 ((i:Int)+1)] V fun e w'=>e = .returned (.int .i64 (q:Int))∧V=w'):=hid (fun V=>by
         have h:=Pp N ((i:Int)+1) V (by omega) (by have:=HN10.o;omega);rw[hq1] at h;exact h)
        have KEQ:Hid (∀ rc' sc' w',Below w5.heap.size w5 w'→Calls Tryz.prog 15 #[.agg #[.slice L.se.a n1 L.se.c,.slice L.po.a n2 L.po.c,.slice L.sg.a n3 L.sg.c,.slice L.rt.a n4 L.rt.c],.slice ra q rc',.slice sa q sc'] w' fun e w''=>e = .returned (.bool true)∧Below w5.heap.size w5 w''):=hid (fun rc' sc' w' hw'=>(KT.2 q hq2 w' rc' sc' (A6 HB5.o hw')).mono (fun _ _ h=>⟨h.1,A6 hw' h.2⟩));have KWQ:Hid (∀ w',Below w5.heap.size w5 w'→Calls Tryz.prog 10 #[] w' fun e w''=>e = .returned (.bool true)∧Below w5.heap.size w5 w''):=hid (fun w' hw'=>(BI w').mono (fun _ _ h=>⟨h.1,A6 hw' h.2⟩));have HQ2:=hid hq2;have e1:=B8 (Nat.lt_succ_self i) (show i+1≤_ by have:=HN10.o;omega);clear KT hq1 hq2;go_wp2_with fail;refine(KP.o _).mono ?_;rintro e w6 ⟨rfl,rfl⟩;clear e1 KP KE KET KES KR KF;go_upto_region 14 with fail
        have dq:(0:Int)≤q:=(by omega);have dq1:(q:Int)≤rc:=(by have:=HQ2.o;have:=HXS.o.1;omega);have dq2:(q:Int)≤sc:=(by have:=HQ2.o;have:=HYS.o.1;omega);cases ra with
        | none=>
          have hr0:rc=0:=HXS.o.2.2 rfl;subst hr0;obtain rfl:i=0:=(by have:=HXS.o.1;omega);obtain rfl:q=0:=(by have:=HQ2.o;omega);cases sa with
          | none=>
            have hs0:sc=0:=HYS.o.2.2 rfl;subst hs0;refine Ad (by kernel_rfl) ?_ ?_
            ·kernel_rfl
            repeat first
             | go_big_quiet_skip
             | (go_big_quiet_want;go_big_quiet_op;go_big_quiet_on)
             | (with_reducible apply wpQuiet_step
                intro K hK;go_simp;first
                 | (refine hK _ ?_;clear hK K)
                 | (apply Exists.intro
                    refine⟨fun w' hw'=>?_,hK _ ?_⟩
                    ·
                     (first
                      | with_reducible exact KEQ.o _ _ _ hw'
                      | with_reducible exact KWQ.o _ hw'
                      | (have l0:=A4 (A5 hw' HL5.o) 0 _ rfl
                         have l1:=A4 (A5 hw' HL5.o) 1 _ rfl;have l2:=A4 (A5 hw' HL5.o) 2 _ rfl;have l3:=A4 (A5 hw' HL5.o) 3 _ rfl;go_simp;first | done | with_reducible exact rfl | with_reducible exact⟨rfl,rfl⟩))
                    clear hK K))
            refine wpQuiet_nil ?_;intro w7 hw7;have HB7:=hid (A6 HB5.o hw7);clear hw7;go_wp2_with fail;go_ret;exact⟨rfl,HB7.o⟩
          | some ad=>
            refine Ad (by kernel_rfl) ?_ ?_
            ·kernel_rfl
            repeat first
             | go_big_quiet_skip
             | (go_big_quiet_want;go_big_quiet_op;go_big_quiet_on)
             | (with_reducible apply wpQuiet_step
                intro K hK;go_simp;first
                 | (refine hK _ ?_;clear hK K)
                 | (apply Exists.intro
                    refine⟨fun w' hw'=>?_,hK _ ?_⟩
                    ·
                     (first
                      | with_reducible exact KEQ.o _ _ _ hw'
                      | with_reducible exact KWQ.o _ hw'
                      | (have l0:=A4 (A5 hw' HL5.o) 0 _ rfl
                         have l1:=A4 (A5 hw' HL5.o) 1 _ rfl;have l2:=A4 (A5 hw' HL5.o) 2 _ rfl;have l3:=A4 (A5 hw' HL5.o) 3 _ rfl;go_simp;first | done | with_reducible exact rfl | with_reducible exact⟨rfl,rfl⟩))
                    clear hK K))
            refine wpQuiet_nil ?_;intro w7 hw7;have HB7:=hid (A6 HB5.o hw7);clear hw7;go_wp2_with fail;go_ret;exact⟨rfl,HB7.o⟩
        | some ar=>
          cases sa with
          | none=>
            have hs0:sc=0:=HYS.o.2.2 rfl;subst hs0;obtain rfl:i=0:=(by have:=HYS.o.1;omega);obtain rfl:q=0:=(by have:=HQ2.o;omega);refine Ad (by kernel_rfl) ?_ ?_
            ·kernel_rfl
            repeat first
             | go_big_quiet_skip
             | (go_big_quiet_want;go_big_quiet_op;go_big_quiet_on)
             | (with_reducible apply wpQuiet_step
                intro K hK;go_simp;first
                 | (refine hK _ ?_;clear hK K)
                 | (apply Exists.intro
                    refine⟨fun w' hw'=>?_,hK _ ?_⟩
                    ·
                     (first
                      | with_reducible exact KEQ.o _ _ _ hw'
                      | with_reducible exact KWQ.o _ hw'
                      | (have l0:=A4 (A5 hw' HL5.o) 0 _ rfl
                         have l1:=A4 (A5 hw' HL5.o) 1 _ rfl;have l2:=A4 (A5 hw' HL5.o) 2 _ rfl;have l3:=A4 (A5 hw' HL5.o) 3 _ rfl;go_simp;first | done | with_reducible exact rfl | with_reducible exact⟨rfl,rfl⟩))
                    clear hK K))
            refine wpQuiet_nil ?_;intro w7 hw7;have HB7:=hid (A6 HB5.o hw7);clear hw7;go_wp2_with fail;go_ret;exact⟨rfl,HB7.o⟩
          | some ad=>
            refine Ad (by kernel_rfl) ?_ ?_
            ·kernel_rfl
            repeat first
             | go_big_quiet_skip
             | (go_big_quiet_want;go_big_quiet_op;go_big_quiet_on)
             | (with_reducible apply wpQuiet_step
                intro K hK;go_simp;first
                 | (refine hK _ ?_;clear hK K)
                 | (apply Exists.intro
                    refine⟨fun w' hw'=>?_,hK _ ?_⟩
                    ·
                     (first
                      | with_reducible exact KEQ.o _ _ _ hw'
                      | with_reducible exact KWQ.o _ hw'
                      | (have l0:=A4 (A5 hw' HL5.o) 0 _ rfl
                         have l1:=A4 (A5 hw' HL5.o) 1 _ rfl;have l2:=A4 (A5 hw' HL5.o) 2 _ rfl;have l3:=A4 (A5 hw' HL5.o) 3 _ rfl;go_simp;first | done | with_reducible exact rfl | with_reducible exact⟨rfl,rfl⟩))
                    clear hK K))
            refine wpQuiet_nil ?_;intro w7 hw7;have HB7:=hid (A6 HB5.o hw7);clear hw7;go_wp2_with fail;go_ret;exact⟨rfl,HB7.o⟩
end Go.Proofs.YtpohoannggdbjaaGreat
