/- Layer 10: the document's command: move. -/
import Derived.Test.YtpohoannggdbjaaGreatIxTc
set_option maxRecDepth 100000
set_option maxHeartbeats 200000000
namespace Go.Proofs.YtpohoannggdbjaaGreat
open Lib (hid)
open Go.RowKit
attribute [local irreducible] Sl.v Aa pw Ab Aw C8 Af BC CD Bi Bg B9 CB BQ AU Bp BB BG Bh Bd BP Bo BL BF BN AI AY AV Be Bw Bq C4 Mc.tb BZ AX Ap B5
attribute [local irreducible] AW CY Bt BO Rt.tr Rt.nd AC C9 At
attribute [local irreducible] E9
theorem Tm(L:AL)(s:St)(oc no re:Nat)(ia:Option Addr)(il ic:Nat)(kd:Nat)(nn:Int)(w:World)(hL:AO w L)(hc:(Ap L).1=0)(hs:s.ok)(ho:oc<18446744073709551616)(hkd:kd≤255)(h1 : -9223372036854775808≤nn)(h2:nn≤9223372036854775807)(hk:kd=3)(n:Nat)(pn:BA)(ps:Int)(hn:nn=(n:Int))(hx:L.po.l[n]?=some (pn,ps)) :
 Calls Tryz.prog 42 #[.agg #[L.se.v,L.po.v,L.sg.v,L.rt.v],.agg (Af s).toArray,.agg #[.int .u64 (oc:Int),.int .u32 (no:Int),.int .u32 (re:Int),.slice ia il ic],.agg #[.int .u8 (kd:Int),.int .i64 nn]] w fun e w'=>e = .returned (.agg (Af (D6 (AW L) s oc (kd,nn))).toArray)∧Below w.heap.size w w':=by
 have HMAY:Hid (AX L=true):=hid (B6 hc);have HS4:Hid (L.rt.l.length≤64):=hid (AE (B6 hc)).2.2.2;have HCK:=hid hc;have HS2:Hid (L.po.l.length≤32):=hid (AE (B6 hc)).2.1;have HS1:Hid (L.se.l.length≤64):=hid (AE (B6 hc)).1;have HBR:Hid (AJ L.po.l.length L.rt.l.length (kd,nn)=true):=hid (by
  have hl:=(We.1 hx).1;unfold AJ;exact Wk (by dsimp only;omega))
 have h31:n≤31:=by have h1:=(We.1 hx).1;have:=HS2.o;omega
 have HN31:=hid h31;have hps:0≤ps∧ps≤63:=by have h:=(KZ HMAY.o).1 _ (Wf hx);dsimp only at h;have:=HS1.o;omega
 obtain⟨q,rfl⟩:∃ q:Nat,ps=q:=⟨ps.toNat,by omega⟩;obtain⟨bq,hbq⟩:=WY (Aa oc q);obtain⟨bn,hbn⟩:=WY (BG (AW L) s n L.rt.l.length);have HEQ:Hid (D6 (AW L) s oc (kd,nn)=if (!bq && !bn) then { s with pt:=Bh s.pt n } else s):=hid (by
  rw[hn,hk,QE (We.1 hx).1,TI,RF,D5,hbn,SJ hx];dsimp only;rw[Int.toNat_natCast,hbq])
 have KCL:Hid (∀ V,Calls Tryz.prog 75 #[.agg #[.int .u64 (oc:Int),.int .u32 (no:Int),.int .u32 (re:Int),.slice ia il ic],.int .i64 (q:Int)] V fun e w'=>e = .returned (.bool (!bq))∧Below V.heap.size V w'):=hid (fun V=>DR bq oc no re ia il ic q V (by omega) ho hbq);have KNE0:Hid (∀ V,Below w.heap.size w V→Calls Tryz.prog 76 #[.agg #[L.se.v,L.po.v,L.sg.v,L.rt.v],.agg (Af s).toArray,.int .i64 (n:Int)] V fun e w'=>e = .returned (.bool bn)∧Below V.heap.size V w'):=hid (fun V hV=>Lh bn L s n V (hL.below hV) hc hs hbn);have HPO:Hid (As 2 O3 w L.po.a L.po.l):=hid hL.po.row;have HXR:=hid hx;have HKD:=hid hk;have HNN:=hid hn;clear h31 hps hbq hbn hx hk hn;have HSO:=hid hs;have HOC:=hid ho;obtain⟨n1,hn1⟩:=WY L.se.l.length;obtain⟨n2,hn2⟩:=WY L.po.l.length;obtain⟨n3,hn3⟩:=WY L.sg.l.length;obtain⟨n4,hn4⟩:=WY L.rt.l.length;have HLW:=hid hL;have HN1:=hid hn1;have HN2:=hid hn2;have HN3:=hid hn3;have HN4:=hid hn4;have KR:Hid (∀(V:World) (g:Nat),V.heap[g]?=some (.cells #[.int .u8 (kd:Int),.int .i64 nn] 31)→Calls Tryz.prog 73 #[.agg #[.slice L.se.a n1 L.se.c,.slice L.po.a n2 L.po.c,.slice L.sg.a n3 L.sg.c,.slice L.rt.a n4 L.rt.c],.agg #[.int .u64 0,.int .u32 0,.int .u32 0,.slice (some ⟨g,0,none⟩) 1 1]] V fun e w'=>e = .returned (.bool true)∧Below V.heap.size V w'):=hid (fun V g hg=>by
  have h:=Dl n1 n2 n3 n4 L.se.a L.po.a L.sg.a L.rt.a L.se.c L.po.c L.sg.c L.rt.c 0 0 0 (some ⟨g,0,none⟩) [(kd,nn)] 1 1 V rfl (by omega) (by rw[← hn1];have:=HS1.o;omega) (by rw[← hn2];have:=HS2.o;omega) (by rw[← hn4];have:=HS4.o;omega) (Et hg (by omega) h1 h2) (by omega) (by omega) (by omega);rw[Jd,show min n2 32=L.po.l.length by have:=HS2.o;omega,show min n4 64=L.rt.l.length by have:=HS4.o;omega,HBR.o] at h;exact h)
 rw[Ak hn1,Ak hn2,Ak hn3,Ak hn4] at KNE0;rw[hn4] at HS4;rw[Ak hn1,Ak hn2,Ak hn3,Ak hn4];have HROWL:Hid (As 6 Qj w L.rt.a L.rt.l):=hid hL.rt.row;clear hn1 hn2 hn3 hn4 hL hc hs ho hkd h1 h2;go_enter Tryz.func42,Tryz.ntmps42;go_upto_region 1 with fail
 rw[Bz];refine Ao (os:=[.cells #[.slice L.se.a n1 L.se.c,.slice L.po.a n2 L.po.c,.slice L.sg.a n3 L.sg.c,.slice L.rt.a n4 L.rt.c] 27,.cells (Af s).toArray 65,.cells #[.int .u64 (oc:Int),.int .u32 (no:Int),.int .u32 (re:Int),.slice ia il ic] 35,.cells #[.int .u8 (kd:Int),.int .i64 nn] 31,.cells (Af zS).toArray 65]) (w0:=w) rfl ?_;intro W hat hbw;obtain⟨gl,hgl⟩:=X0 w.heap.size;have q0:=hat 0 _ rfl;obtain⟨gs,hgs⟩:=X0 (gl+1);have q1:=hat 1 _ rfl;obtain⟨gi,hgi⟩:=X0 (gs+1);have q2:=hat 2 _ rfl;obtain⟨gc,hgc⟩:=X0 (gi+1);have q3:=hat 3 _ rfl;obtain⟨gr,hgr⟩:=X0 (gc+1);have q4:=hat 4 _ rfl;rw[Wa,← hgl] at q0;rw[← hgl,← hgs] at q1;rw[← hgl,show gl+2=gi by omega] at q2;rw[← hgl,show gl+3=gc by omega] at q3;rw[← hgl,show gl+4=gr by omega] at q4;rw[← hgl,← hgs,← hgi,← hgc,← hgr];have HQl:=hid q0;have HQs:=hid q1;have HQi:=hid q2;have HQc:=hid q3;have HQr:=hid q4;have HB0:=hid hbw;have HG:Hid (w.heap.size≤gs∧gr≠gs∧gl≠gs∧gi≠gs∧gc≠gs):=hid (by omega);have HGR:Hid (w.heap.size≤gr):=hid (by omega);clear hat hbw q0 q1 q2 q3 q4 hgl hgs hgi hgc hgr;have l0:=A4 HQl.o 0 _ rfl;have l1:=A4 HQl.o 1 _ rfl;have l2:=A4 HQl.o 2 _ rfl;have l3:=A4 HQl.o 3 _ rfl;have m0:=A4 HQc.o 0 _ rfl;have m1:=A4 HQc.o 1 _ rfl;go_wp2_with fail;have hbn:=Ac W (.cells #[.int .u8 (kd:Int),.int .i64 nn] 31);have hqn:=Al W (.cells #[.int .u8 (kd:Int),.int .i64 nn] 31) (VU _ _);refine(KR.o _ _ hqn).mono ?_;rintro e w1 ⟨rfl,hb1⟩;have HBW1:=hid (A6 hbn hb1);have HB1:=hid (A6 HB0.o HBW1.o);have HL1:=hid (A5 HBW1.o HQl.o);have HS1':=hid (A5 HBW1.o HQs.o);have HI1:=hid (A5 HBW1.o HQi.o);have HC1:=hid (A5 HBW1.o HQc.o);have HR1:=hid (A5 HBW1.o HQr.o);clear hbn hqn hb1 l0 l1 l2 l3 m0 m1 KR;obtain⟨PA,hPA⟩:=WY L.po.a;have hl3:=HL1.o;have hrow:=HPO.o;rw[hPA] at hl3 hrow KNE0 ⊢;rcases hrow with hnil | ⟨pb,po,hpb,hpc⟩
 ·have h9:=HXR.o;rw[hnil] at h9;cases h9
 subst hpb;have HL1:=hid hl3;have HP1:Hid (w.cell? ⟨pb,po+n*2+1,none⟩=some (.int .i64 (q:Int))):=hid (hpc n _ HXR.o 1 _ rfl);have d1:(0:Int)≤n:=by omega
 have d2:(n:Int)<n2:=by have h:=(We.1 HXR.o).1;have:=HN2.o;omega
 clear hPA hl3 hpc;have hn:=HNN.o;subst hn;have k1:((kd:Int) == 1)=false:=by have:=HKD.o;simp;omega
 have k2:((kd:Int) == 2)=false:=by have:=HKD.o;simp;omega
 have k3:((kd:Int) == 3)=true:=by have:=HKD.o;simp;omega
 have m0:=A4 HC1.o 0 _ rfl;have KCLW:Hid (∀ w',Below w1.heap.size w1 w'→Calls Tryz.prog 75 #[.agg #[.int .u64 (oc:Int),.int .u32 (no:Int),.int .u32 (re:Int),.slice ia il ic],.int .i64 (q:Int)] w' fun e w''=>e = .returned (.bool (!bq))∧Below w1.heap.size w1 w''):=hid (fun w' hw'=>(KCL.o w').mono (fun _ _ h=>⟨h.1,A6 hw' h.2⟩));have KNEW:Hid (∀ w',Below w1.heap.size w1 w'→Calls Tryz.prog 76 #[.agg #[.slice L.se.a n1 L.se.c,.slice (some ⟨pb,po,none⟩) n2 L.po.c,.slice L.sg.a n3 L.sg.c,.slice L.rt.a n4 L.rt.c],.agg (Af s).toArray,.int .i64 (n:Int)] w' fun e w''=>e = .returned (.bool bn)∧Below w1.heap.size w1 w''):=hid (fun w' hw'=>(KNE0.o w' (A6 HB1.o hw')).mono (fun _ _ h=>⟨h.1,A6 hw' h.2⟩));clear KCL KNE0;cases bq with
 | true=>
   go_upto_region 17 with fail
   refine Ad (by kernel_rfl) ?_ ?_
   ·kernel_rfl
   repeat first
    | go_big_quiet_skip
    | (go_big_quiet_want
       with_reducible refine Ae (o:=⟨some 139,_,_,_,_,_⟩) 65 _ rfl _ _ ?_ (fun w' hw'=>Au (A5 hw' HS1'.o)) ?_
       ·rfl
       simp only[Act.put,VW,VX,VV];go_big_quiet_on)
    | (go_big_quiet_want
       (first
         | ((with_reducible refine Ae (o:=⟨some 124,_,_,_,_,_⟩) 5 _ rfl (.pointer (some ⟨gc,0,none⟩)) (.int .u8 (kd:Int)) ?_ ?_ ?_);(· rfl);(· intro w' hw';have l:=A4 (A5 hw' HC1.o) 0 _ rfl;go_simp))
         | ((with_reducible refine Ae (o:=⟨some 127,_,_,_,_,_⟩) 35 _ rfl (.pointer (some ⟨gi,0,none⟩)) (.agg #[.int .u64 (oc:Int),.int .u32 (no:Int),.int .u32 (re:Int),.slice ia il ic]) ?_ ?_ ?_);(· rfl);(· intro w' hw';have l0:=A4 (A5 hw' HI1.o) 0 _ rfl;have l1:=A4 (A5 hw' HI1.o) 1 _ rfl;have l2:=A4 (A5 hw' HI1.o) 2 _ rfl;have l3:=A4 (A5 hw' HI1.o) 3 _ rfl;go_simp))
         | ((with_reducible refine Ae (o:=⟨some 129,_,_,_,_,_⟩) 23 _ rfl (.pointer (some ⟨gl,1,none⟩)) (.slice (some ⟨pb,po,none⟩) n2 L.po.c) ?_ ?_ ?_);(· rfl);(· intro w' hw';have l:=A4 (A5 hw' HL1.o) 1 _ rfl;go_simp))
         | ((with_reducible refine Ae (o:=⟨some 131,_,_,_,_,_⟩) 3 _ rfl (.pointer (some ⟨gc,1,none⟩)) (.int .i64 (n:Int)) ?_ ?_ ?_);(· rfl);(· intro w' hw';have l:=A4 (A5 hw' HC1.o) 1 _ rfl;go_simp))
         | ((with_reducible refine Ae (o:=⟨some 134,_,_,_,_,_⟩) 3 _ rfl (.pointer (some ⟨pb,po+n*2+1,none⟩)) (.int .i64 (q:Int)) ?_ ?_ ?_);(· rfl);(· intro w' hw';have p1:=VY (A6 HB1.o hw') HP1.o;go_simp))
         | ((with_reducible refine Ae (o:=⟨some 138,_,_,_,_,_⟩) 27 _ rfl (.pointer (some ⟨gl,0,none⟩)) (.agg #[.slice L.se.a n1 L.se.c,.slice (some ⟨pb,po,none⟩) n2 L.po.c,.slice L.sg.a n3 L.sg.c,.slice L.rt.a n4 L.rt.c]) ?_ ?_ ?_);(· rfl);(· intro w' hw';have l0:=A4 (A5 hw' HL1.o) 0 _ rfl;have l1:=A4 (A5 hw' HL1.o) 1 _ rfl;have l2:=A4 (A5 hw' HL1.o) 2 _ rfl;have l3:=A4 (A5 hw' HL1.o) 3 _ rfl;go_simp))
         | ((with_reducible refine Ae (o:=⟨some 141,_,_,_,_,_⟩) 3 _ rfl (.pointer (some ⟨gc,1,none⟩)) (.int .i64 (n:Int)) ?_ ?_ ?_);(· rfl);(· intro w' hw';have l:=A4 (A5 hw' HC1.o) 1 _ rfl;go_simp)))
       simp only[Act.put,VW,VX,VV];go_big_quiet_on)
    | (go_big_quiet_want;go_big_quiet_op;go_big_quiet_on)
    | (with_reducible apply wpQuiet_step
       intro K hK;go_simp;first
        | (refine hK _ ?_;clear hK K)
        | (apply Exists.intro
           refine⟨fun w' hw'=>?_,hK _ ?_⟩
           ·
            (first
             | with_reducible exact KCLW.o _ hw'
             | with_reducible exact KNEW.o _ hw'
             | (skip
                go_simp;first | done | with_reducible exact rfl | with_reducible exact⟨rfl,rfl⟩ | with_reducible exact KCLW.o _ hw' | with_reducible exact KNEW.o _ hw'))
           clear hK K))
   refine wpQuiet_nil ?_;intro w7 hw7;have HB7:=hid (A6 HB1.o hw7);have HRa:=hid (A5 hw7 HR1.o);have HLa:=hid (A5 hw7 HL1.o);have HIa:=hid (A5 hw7 HI1.o);have HCa:=hid (A5 hw7 HC1.o);have HSa:=hid (A5 hw7 HS1'.o);have HBa:=hid (A6 HB1.o hw7);clear hw7;go_upto_region 19 with fail
   have HLD:=hid (Au HSa.o);obtain⟨hst,hq9,ho9⟩:=AH (s':=s) HRa.o;have HST:=hid hst;have HQ9:=hid hq9;have HB9:Hid (Below w.heap.size w (w7.setCells gr 0 (Af s))):=hid (Ai.below HBa.o HGR.o HBa.o.size ho9);clear hst hq9 ho9;go_wp2_with (first
    | ((with_reducible refine Ah (op:=⟨some 152,_,_,_,_,_⟩) rfl 65 _ rfl _ _ ?_ HLD.o ?_);(· rfl))
    | ((with_reducible refine Ag (op:=⟨none,.store 65 _ _,_,_,_,_⟩) rfl 65 _ _ rfl _ _ ?_ ?_ _ HST.o ?_);(· rfl);(· rfl)))
   (try simp only[Exit.inBlock,Exit.then])
   refine bodyPost_ret (results_cell_row (g:=gr) rfl _ _ 65 (Af s).toArray (0,0) _ rfl HQ9.o Tryz.underlying65 rfl (by rw[Wn,AS];exact Bf)) rfl ?_;exact⟨by rw[HEQ.o];rfl,HB9.o⟩
 | false=>
   cases bn with
   | true=>
     go_upto_region 17 with fail
     refine Ad (by kernel_rfl) ?_ ?_
     ·kernel_rfl
     repeat first
      | go_big_quiet_skip
      | (go_big_quiet_want
         with_reducible refine Ae (o:=⟨some 139,_,_,_,_,_⟩) 65 _ rfl _ _ ?_ (fun w' hw'=>Au (A5 hw' HS1'.o)) ?_
         ·rfl
         simp only[Act.put,VW,VX,VV];go_big_quiet_on)
      | (go_big_quiet_want
         (first
           | ((with_reducible refine Ae (o:=⟨some 124,_,_,_,_,_⟩) 5 _ rfl (.pointer (some ⟨gc,0,none⟩)) (.int .u8 (kd:Int)) ?_ ?_ ?_);(· rfl);(· intro w' hw';have l:=A4 (A5 hw' HC1.o) 0 _ rfl;go_simp))
           | ((with_reducible refine Ae (o:=⟨some 127,_,_,_,_,_⟩) 35 _ rfl (.pointer (some ⟨gi,0,none⟩)) (.agg #[.int .u64 (oc:Int),.int .u32 (no:Int),.int .u32 (re:Int),.slice ia il ic]) ?_ ?_ ?_);(· rfl);(· intro w' hw';have l0:=A4 (A5 hw' HI1.o) 0 _ rfl;have l1:=A4 (A5 hw' HI1.o) 1 _ rfl;have l2:=A4 (A5 hw' HI1.o) 2 _ rfl;have l3:=A4 (A5 hw' HI1.o) 3 _ rfl;go_simp))
           | ((with_reducible refine Ae (o:=⟨some 129,_,_,_,_,_⟩) 23 _ rfl (.pointer (some ⟨gl,1,none⟩)) (.slice (some ⟨pb,po,none⟩) n2 L.po.c) ?_ ?_ ?_);(· rfl);(· intro w' hw';have l:=A4 (A5 hw' HL1.o) 1 _ rfl;go_simp))
           | ((with_reducible refine Ae (o:=⟨some 131,_,_,_,_,_⟩) 3 _ rfl (.pointer (some ⟨gc,1,none⟩)) (.int .i64 (n:Int)) ?_ ?_ ?_);(· rfl);(· intro w' hw';have l:=A4 (A5 hw' HC1.o) 1 _ rfl;go_simp))
           | ((with_reducible refine Ae (o:=⟨some 134,_,_,_,_,_⟩) 3 _ rfl (.pointer (some ⟨pb,po+n*2+1,none⟩)) (.int .i64 (q:Int)) ?_ ?_ ?_);(· rfl);(· intro w' hw';have p1:=VY (A6 HB1.o hw') HP1.o;go_simp))
           | ((with_reducible refine Ae (o:=⟨some 138,_,_,_,_,_⟩) 27 _ rfl (.pointer (some ⟨gl,0,none⟩)) (.agg #[.slice L.se.a n1 L.se.c,.slice (some ⟨pb,po,none⟩) n2 L.po.c,.slice L.sg.a n3 L.sg.c,.slice L.rt.a n4 L.rt.c]) ?_ ?_ ?_);(· rfl);(· intro w' hw';have l0:=A4 (A5 hw' HL1.o) 0 _ rfl;have l1:=A4 (A5 hw' HL1.o) 1 _ rfl;have l2:=A4 (A5 hw' HL1.o) 2 _ rfl;have l3:=A4 (A5 hw' HL1.o) 3 _ rfl;go_simp))
           | ((with_reducible refine Ae (o:=⟨some 141,_,_,_,_,_⟩) 3 _ rfl (.pointer (some ⟨gc,1,none⟩)) (.int .i64 (n:Int)) ?_ ?_ ?_);(· rfl);(· intro w' hw';have l:=A4 (A5 hw' HC1.o) 1 _ rfl;go_simp)))
         simp only[Act.put,VW,VX,VV];go_big_quiet_on)
      | (go_big_quiet_want;go_big_quiet_op;go_big_quiet_on)
      | (with_reducible apply wpQuiet_step
         intro K hK;go_simp;first
          | (refine hK _ ?_;clear hK K)
          | (apply Exists.intro
             refine⟨fun w' hw'=>?_,hK _ ?_⟩
             ·
              (first
               | with_reducible exact KCLW.o _ hw'
               | with_reducible exact KNEW.o _ hw'
               | (skip
                  go_simp;first | done | with_reducible exact rfl | with_reducible exact⟨rfl,rfl⟩ | with_reducible exact KCLW.o _ hw' | with_reducible exact KNEW.o _ hw'))
             clear hK K))
     refine wpQuiet_nil ?_;intro w7 hw7;have HB7:=hid (A6 HB1.o hw7);have HRa:=hid (A5 hw7 HR1.o);have HLa:=hid (A5 hw7 HL1.o);have HIa:=hid (A5 hw7 HI1.o);have HCa:=hid (A5 hw7 HC1.o);have HSa:=hid (A5 hw7 HS1'.o);have HBa:=hid (A6 HB1.o hw7);clear hw7;go_upto_region 19 with fail
     have HLD:=hid (Au HSa.o);obtain⟨hst,hq9,ho9⟩:=AH (s':=s) HRa.o;have HST:=hid hst;have HQ9:=hid hq9;have HB9:Hid (Below w.heap.size w (w7.setCells gr 0 (Af s))):=hid (Ai.below HBa.o HGR.o HBa.o.size ho9);clear hst hq9 ho9;go_wp2_with (first
      | ((with_reducible refine Ah (op:=⟨some 152,_,_,_,_,_⟩) rfl 65 _ rfl _ _ ?_ HLD.o ?_);(· rfl))
      | ((with_reducible refine Ag (op:=⟨none,.store 65 _ _,_,_,_,_⟩) rfl 65 _ _ rfl _ _ ?_ ?_ _ HST.o ?_);(· rfl);(· rfl)))
     (try simp only[Exit.inBlock,Exit.then])
     refine bodyPost_ret (results_cell_row (g:=gr) rfl _ _ 65 (Af s).toArray (0,0) _ rfl HQ9.o Tryz.underlying65 rfl (by rw[Wn,AS];exact Bf)) rfl ?_;exact⟨by rw[HEQ.o];rfl,HB9.o⟩
   | false=>
     go_upto_region 17 with fail
     refine Ad (by kernel_rfl) ?_ ?_
     ·kernel_rfl
     repeat first
      | go_big_quiet_skip
      | (go_big_quiet_want
         with_reducible refine Ae (o:=⟨some 139,_,_,_,_,_⟩) 65 _ rfl _ _ ?_ (fun w' hw'=>Au (A5 hw' HS1'.o)) ?_
         ·rfl
         simp only[Act.put,VW,VX,VV];go_big_quiet_on)
      | (go_big_quiet_want
         (first
           | ((with_reducible refine Ae (o:=⟨some 124,_,_,_,_,_⟩) 5 _ rfl (.pointer (some ⟨gc,0,none⟩)) (.int .u8 (kd:Int)) ?_ ?_ ?_);(· rfl);(· intro w' hw';have l:=A4 (A5 hw' HC1.o) 0 _ rfl;go_simp))
           | ((with_reducible refine Ae (o:=⟨some 127,_,_,_,_,_⟩) 35 _ rfl (.pointer (some ⟨gi,0,none⟩)) (.agg #[.int .u64 (oc:Int),.int .u32 (no:Int),.int .u32 (re:Int),.slice ia il ic]) ?_ ?_ ?_);(· rfl);(· intro w' hw';have l0:=A4 (A5 hw' HI1.o) 0 _ rfl;have l1:=A4 (A5 hw' HI1.o) 1 _ rfl;have l2:=A4 (A5 hw' HI1.o) 2 _ rfl;have l3:=A4 (A5 hw' HI1.o) 3 _ rfl;go_simp))
           | ((with_reducible refine Ae (o:=⟨some 129,_,_,_,_,_⟩) 23 _ rfl (.pointer (some ⟨gl,1,none⟩)) (.slice (some ⟨pb,po,none⟩) n2 L.po.c) ?_ ?_ ?_);(· rfl);(· intro w' hw';have l:=A4 (A5 hw' HL1.o) 1 _ rfl;go_simp))
           | ((with_reducible refine Ae (o:=⟨some 131,_,_,_,_,_⟩) 3 _ rfl (.pointer (some ⟨gc,1,none⟩)) (.int .i64 (n:Int)) ?_ ?_ ?_);(· rfl);(· intro w' hw';have l:=A4 (A5 hw' HC1.o) 1 _ rfl;go_simp))
           | ((with_reducible refine Ae (o:=⟨some 134,_,_,_,_,_⟩) 3 _ rfl (.pointer (some ⟨pb,po+n*2+1,none⟩)) (.int .i64 (q:Int)) ?_ ?_ ?_);(· rfl);(· intro w' hw';have p1:=VY (A6 HB1.o hw') HP1.o;go_simp))
           | ((with_reducible refine Ae (o:=⟨some 138,_,_,_,_,_⟩) 27 _ rfl (.pointer (some ⟨gl,0,none⟩)) (.agg #[.slice L.se.a n1 L.se.c,.slice (some ⟨pb,po,none⟩) n2 L.po.c,.slice L.sg.a n3 L.sg.c,.slice L.rt.a n4 L.rt.c]) ?_ ?_ ?_);(· rfl);(· intro w' hw';have l0:=A4 (A5 hw' HL1.o) 0 _ rfl;have l1:=A4 (A5 hw' HL1.o) 1 _ rfl;have l2:=A4 (A5 hw' HL1.o) 2 _ rfl;have l3:=A4 (A5 hw' HL1.o) 3 _ rfl;go_simp))
           | ((with_reducible refine Ae (o:=⟨some 141,_,_,_,_,_⟩) 3 _ rfl (.pointer (some ⟨gc,1,none⟩)) (.int .i64 (n:Int)) ?_ ?_ ?_);(· rfl);(· intro w' hw';have l:=A4 (A5 hw' HC1.o) 1 _ rfl;go_simp)))
         simp only[Act.put,VW,VX,VV];go_big_quiet_on)
      | (go_big_quiet_want;go_big_quiet_op;go_big_quiet_on)
      | (with_reducible apply wpQuiet_step
         intro K hK;go_simp;first
          | (refine hK _ ?_;clear hK K)
          | (apply Exists.intro
             refine⟨fun w' hw'=>?_,hK _ ?_⟩
             ·
              (first
               | with_reducible exact KCLW.o _ hw'
               | with_reducible exact KNEW.o _ hw'
               | (skip
                  go_simp;first | done | with_reducible exact rfl | with_reducible exact⟨rfl,rfl⟩ | with_reducible exact KCLW.o _ hw' | with_reducible exact KNEW.o _ hw'))
             clear hK K))
     refine wpQuiet_nil ?_;intro w7 hw7;have HB7:=hid (A6 HB1.o hw7);have HRa:=hid (A5 hw7 HR1.o);have HLa:=hid (A5 hw7 HL1.o);have HIa:=hid (A5 hw7 HI1.o);have HCa:=hid (A5 hw7 HC1.o);have HSa:=hid (A5 hw7 HS1'.o);have HBa:=hid (A6 HB1.o hw7);clear hw7;go_upto_region 18 with fail
     refine Am (by kernel_rfl) [7] 10 [0,1,2,3,4,5,6] [145,146,147,148,149,150,151] #[true,true,true,true,true,true,true,false] 1 [(fun v _=>v = .pointer (some ⟨gs,67,none⟩)),(fun v _=>v = .int .u32 (s.pt:Int)),(fun v _=>v = .pointer (some ⟨gc,1,none⟩)),(fun v _=>v = .int .i64 (n:Int)),(fun v _=>v = .int .u32 ((pw n:Nat):Int)),(fun v _=>v = .int .u32 ((Bh s.pt n:Nat):Int)),(fun v _=>v = .pointer (some ⟨gs,67,none⟩)),(fun _ _=>True)] (by kernel_rfl) (by kernel_rfl) (by kernel_rfl) (by kernel_rfl) (by kernel_rfl) rfl (by kernel_rfl) rfl ?_ ?_ ?_
     ·exact⟨A8 _,A8 _,A8 _,A8 _,A8 _,A8 _,A8 _,An,trivial⟩
     ·refine⟨?_,?_,?_,?_,?_,?_,?_,trivial⟩
      ·refine A7 (o:=⟨some 145,_,_,_,_,_⟩) rfl (fun r V hc hf hg hs hb hd=>?_);have x5:r (.tmp 5) = .pointer (some ⟨gs,0,none⟩):=hs 5 (by kernel_rfl);clear hs hd hg;go_simp;exact X1
      ·refine A7 (o:=⟨some 146,_,_,_,_,_⟩) rfl (fun r V hc hf hg hs hb hd=>?_);have h0:r (.tmp 145) = .pointer (some ⟨gs,67,none⟩):=hd 0 145 rfl (by kernel_rfl);clear hs hd hg;have l:=A4 (A5 hb HSa.o) 67 _ (EI _);go_simp;exact X1
      ·refine A7 (o:=⟨some 147,_,_,_,_,_⟩) rfl (fun r V hc hf hg hs hb hd=>?_);have x7:r (.tmp 7) = .pointer (some ⟨gc,0,none⟩):=hs 7 (by kernel_rfl);clear hs hd hg;go_simp;exact X1
      ·refine A7 (o:=⟨some 148,_,_,_,_,_⟩) rfl (fun r V hc hf hg hs hb hd=>?_);have h2:r (.tmp 147) = .pointer (some ⟨gc,1,none⟩):=hd 2 147 rfl (by kernel_rfl);clear hs hd hg;have l:=A4 (A5 hb HCa.o) 1 _ rfl;go_simp;exact X1
      ·refine A7 (o:=⟨some 149,_,_,_,_,_⟩) rfl (fun r V hc hf hg hs hb hd=>?_);have h3:r (.tmp 148) = .int .i64 (n:Int):=hd 3 148 rfl (by kernel_rfl);clear hs hd hg;have h31:=HN31.o;have h0:(0:Int)≤n:=(by omega);have h1:min n 32=n:=(by omega);have h2:¬ (32:Int)≤n:=(by omega);have hs1:=Ho h31;go_simp;exact⟨VU _ _,by simp⟩
      ·refine A7 (o:=⟨some 150,_,_,_,_,_⟩) rfl (fun r V hc hf hg hs hb hd=>?_);have h1:r (.tmp 146) = .int .u32 (s.pt:Int):=hd 1 146 rfl (by kernel_rfl);have h4:r (.tmp 149) = .int .u32 ((pw n:Nat):Int):=hd 4 149 rfl (by kernel_rfl);clear hs hd hg;have ho1:=Hw HN31.o HSO.o.pt;go_simp;exact X1
      ·refine A7 (o:=⟨some 151,_,_,_,_,_⟩) rfl (fun r V hc hf hg hs hb hd=>?_);have x5:r (.tmp 5) = .pointer (some ⟨gs,0,none⟩):=hs 5 (by kernel_rfl);clear hs hd hg;go_simp;exact X1
     ·intro a V hb hx;have h0:a.eval (.tmp 145) = .pointer (some ⟨gs,67,none⟩):=hx 0 145 rfl rfl;have h1:a.eval (.tmp 146) = .int .u32 (s.pt:Int):=hx 1 146 rfl rfl;have h2:a.eval (.tmp 147) = .pointer (some ⟨gc,1,none⟩):=hx 2 147 rfl rfl;have h3:a.eval (.tmp 148) = .int .i64 (n:Int):=hx 3 148 rfl rfl;have h4:a.eval (.tmp 149) = .int .u32 ((pw n:Nat):Int):=hx 4 149 rfl rfl;have h5:a.eval (.tmp 150) = .int .u32 ((Bh s.pt n:Nat):Int):=hx 5 150 rfl rfl;have h6:a.eval (.tmp 151) = .pointer (some ⟨gs,67,none⟩):=hx 6 151 rfl rfl;unfold AD;simp only[Wi,Wj,h0,h1,h2,h3,h4,h5,h6,Act.put,VW,VX,VV];clear h0 h1 h2 h3 h4 h5 h6 hx;have HSV:=hid (A5 hb HSa.o);have HRV:=hid (A5 hb HRa.o);have HLV:=hid (A5 hb HLa.o);have HIV:=hid (A5 hb HIa.o);have HCV:=hid (A5 hb HCa.o);have HBV:=hid (A6 HBa.o hb);clear hb HBa HSa HRa HLa HIa HCa;refine wpAny_ready (rs:=[7]) (by kernel_rfl) (by simp) (AllReady.cons (o:=⟨none,_,_,_,_,_⟩) rfl (fun K hK=>?_) AllReady.nil);have c0:=A4 HSV.o 67 _ (EI _);have f0:=Aq HSV.o 67;have hl:=Aj HSV.o;go_simp;clear c0 f0 hl;refine Bc ?_;intro V3 hV3;have ho:Ai gs V V3:=(by rw[hV3];exact(Ai.refl gs V).setCell rfl _);have HSb:Hid (V3.heap[gs]?=some (.cells (Af { s with pt:=Bh s.pt n }).toArray 65)):=hid (by rw[hV3];exact(AG HSV.o 67 _).trans (congrArg (fun C=>some (Obj.cells C 65)) (JJ _ _)));have HBb:Hid (Below w.heap.size w V3):=hid (Ai.below HBV.o HG.o.1 HBV.o.size ho);have HRb:=hid (Ai.keep ho HG.o.2.1 HRV.o);have HLb:=hid (Ai.keep ho HG.o.2.2.1 HLV.o);have HIb:=hid (Ai.keep ho HG.o.2.2.2.1 HIV.o);have HCb:=hid (Ai.keep ho HG.o.2.2.2.2 HCV.o);clear hV3 ho HSV HBV HRV HLV HIV HCV;refine hK _ _ ?_;clear hK K;refine wpAny_done (by kernel_rfl) ?_ _;go_upto_region 19 with fail
      have HLD:=hid (Au HSb.o);obtain⟨hst,hq9,ho9⟩:=AH (s':={ s with pt:=Bh s.pt n }) HRb.o;have HST:=hid hst;have HQ9:=hid hq9;have HB9:Hid (Below w.heap.size w (V3.setCells gr 0 (Af { s with pt:=Bh s.pt n }))):=hid (Ai.below HBb.o HGR.o HBb.o.size ho9);clear hst hq9 ho9;go_wp2_with (first
       | ((with_reducible refine Ah (op:=⟨some 152,_,_,_,_,_⟩) rfl 65 _ rfl _ _ ?_ HLD.o ?_);(· rfl))
       | ((with_reducible refine Ag (op:=⟨none,.store 65 _ _,_,_,_,_⟩) rfl 65 _ _ rfl _ _ ?_ ?_ _ HST.o ?_);(· rfl);(· rfl)))
      (try simp only[Exit.inBlock,Exit.then])
      refine bodyPost_ret (results_cell_row (g:=gr) rfl _ _ 65 (Af { s with pt:=Bh s.pt n }).toArray (0,0) _ rfl HQ9.o Tryz.underlying65 rfl (by rw[Wn,AS];exact Bf)) rfl ?_;exact⟨by rw[HEQ.o];rfl,HB9.o⟩
end Go.Proofs.YtpohoannggdbjaaGreat
