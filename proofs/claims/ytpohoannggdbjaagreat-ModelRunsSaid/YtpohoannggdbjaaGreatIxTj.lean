/- Ours: IxTi; IxTj. -/
import Derived.Test.YtpohoannggdbjaaGreatIxTg
import Derived.Test.YtpohoannggdbjaaGreatIxTh
namespace Go.Proofs.YtpohoannggdbjaaGreat
open Lib (hid)
open Go.RowKit
set_option maxRecDepth 100000
attribute [local irreducible] Sl.v Aa pw Ab Ax C4 Ai BG Cs Bi Bf B7 Cr BO AT Bk Bw BD Bh Bg BQ Bj BI BC BM AD AS AR Bc BB Bq CT Mc.tb BU AQ Aq AW
attribute [local irreducible] B6 CQ Bs BN Rt.tr Rt.nd Aw BS As
attribute [local irreducible] DB
set_option maxHeartbeats 16000000 in
theorem QX(L:AM)(s:St)(oc no re:Nat)(ia:Option Addr)(il ic:Nat)(kd:Nat)(nn:Int)(w:World)(hL:B5 w L)(hc:(Aq L).1=0)(hs:s.ok)(ho:oc<18446744073709551616)(hkd:kd≤255)(h1 : -9223372036854775808≤nn)(h2:nn≤9223372036854775807)(hk:kd=3)(n:Nat)(pn:BA)(ps:Int)(hn:nn=(n:Int))(hx:L.po.l[n]?=some (pn,ps)) :
 Calls Tryz.prog 42 #[.agg #[L.se.v,L.po.v,L.sg.v,L.rt.v],.agg (Ai s).toArray,.agg #[.int .u64 (oc:Int),.int .u32 (no:Int),.int .u32 (re:Int),.slice ia il ic],.agg #[.int .u8 (kd:Int),.int .i64 nn]] w fun e w'=>e = .returned (.agg (Ai (CI (B6 L) s oc (kd,nn))).toArray)∧Below w.heap.size w w':=by
 have HMAY:Hid (AQ L=true):=hid (AP hc);have HS4:Hid (L.rt.l.length≤64):=hid (Ay (AP hc)).2.2.2;have HCK:=hid hc;have HS2:Hid (L.po.l.length≤32):=hid (Ay (AP hc)).2.1;have HS1:Hid (L.se.l.length≤64):=hid (Ay (AP hc)).1;have HBR:Hid (AB L.po.l.length L.rt.l.length (kd,nn)=true):=hid (by
  have hl:=(List.getElem?_eq_some_iff.1 hx).1;unfold AB;exact decide_eq_true (by dsimp only;omega))
 have h31:n≤31:=by have h1:=(List.getElem?_eq_some_iff.1 hx).1;have:=HS2.out;omega
 have HN31:=hid h31;have hps:0≤ps∧ps≤63:=by have h:=(IF HMAY.out).1 _ (List.mem_of_getElem? hx);dsimp only at h;have:=HS1.out;omega
 obtain⟨q,rfl⟩:∃ q:Nat,ps=q:=⟨ps.toNat,by omega⟩;obtain⟨bq,hbq⟩:∃ b,Aa oc q=b:=⟨_,rfl⟩;obtain⟨bn,hbn⟩:∃ b,BD (B6 L) s n L.rt.l.length=b:=⟨_,rfl⟩;have HEQ:Hid (CI (B6 L) s oc (kd,nn)=if (!bq && !bn) then { s with pt:=Bh s.pt n } else s):=hid (by
  rw[hn,hk,Pu (List.getElem?_eq_some_iff.1 hx).1,Qf,NX,CE,hbn,PK hx];dsimp only;rw[Int.toNat_natCast,hbq])
 have KCL:Hid (∀ V,Calls Tryz.prog 75 #[.agg #[.int .u64 (oc:Int),.int .u32 (no:Int),.int .u32 (re:Int),.slice ia il ic],.int .i64 (q:Int)] V fun e w'=>e = .returned (.bool (!bq))∧Below V.heap.size V w'):=hid (fun V=>Du bq oc no re ia il ic q V (by omega) ho hbq);have KNE0:Hid (∀ V,Below w.heap.size w V→Calls Tryz.prog 76 #[.agg #[L.se.v,L.po.v,L.sg.v,L.rt.v],.agg (Ai s).toArray,.int .i64 (n:Int)] V fun e w'=>e = .returned (.bool bn)∧Below V.heap.size V w'):=hid (fun V hV=>JO bn L s n V (hL.below hV) hc hs hbn);have HPO:Hid (AF 2 LQ w L.po.a L.po.l):=hid hL.po.row;have HXR:=hid hx;have HKD:=hid hk;have HNN:=hid hn;clear h31 hps hbq hbn hx hk hn;have HSO:=hid hs;have HOC:=hid ho;obtain⟨n1,hn1⟩:∃ n,L.se.l.length=n:=⟨_,rfl⟩;obtain⟨n2,hn2⟩:∃ n,L.po.l.length=n:=⟨_,rfl⟩;obtain⟨n3,hn3⟩:∃ n,L.sg.l.length=n:=⟨_,rfl⟩;obtain⟨n4,hn4⟩:∃ n,L.rt.l.length=n:=⟨_,rfl⟩;have HLW:=hid hL;have HN1:=hid hn1;have HN2:=hid hn2;have HN3:=hid hn3;have HN4:=hid hn4;have KR:Hid (∀(V:World) (g:Nat),V.heap[g]?=some (.cells #[.int .u8 (kd:Int),.int .i64 nn] 31)→Calls Tryz.prog 73 #[.agg #[.slice L.se.a n1 L.se.c,.slice L.po.a n2 L.po.c,.slice L.sg.a n3 L.sg.c,.slice L.rt.a n4 L.rt.c],.agg #[.int .u64 0,.int .u32 0,.int .u32 0,.slice (some ⟨g,0,none⟩) 1 1]] V fun e w'=>e = .returned (.bool true)∧Below V.heap.size V w'):=hid (fun V g hg=>by
  have h:=CX n1 n2 n3 n4 L.se.a L.po.a L.sg.a L.rt.a L.se.c L.po.c L.sg.c L.rt.c 0 0 0 (some ⟨g,0,none⟩) [(kd,nn)] 1 1 V rfl (by omega) (by rw[← hn1];have:=HS1.out;omega) (by rw[← hn2];have:=HS2.out;omega) (by rw[← hn4];have:=HS4.out;omega) (F5 hg (by omega) h1 h2) (by omega) (by omega) (by omega);rw[Hp,show min n2 32=L.po.l.length by have:=HS2.out;omega,show min n4 64=L.rt.l.length by have:=HS4.out;omega,HBR.out] at h;exact h)
 rw[Ak hn1,Ak hn2,Ak hn3,Ak hn4] at KNE0;rw[hn4] at HS4;rw[Ak hn1,Ak hn2,Ak hn3,Ak hn4];have HROWL:Hid (AF 6 NE w L.rt.a L.rt.l):=hid hL.rt.row;clear hn1 hn2 hn3 hn4 hL hc hs ho hkd h1 h2;go_enter Tryz.func42,Tryz.ntmps42;go_upto_region 1 with fail
 rw[BF];refine Ap (os:=[.cells #[.slice L.se.a n1 L.se.c,.slice L.po.a n2 L.po.c,.slice L.sg.a n3 L.sg.c,.slice L.rt.a n4 L.rt.c] 27,.cells (Ai s).toArray 65,.cells #[.int .u64 (oc:Int),.int .u32 (no:Int),.int .u32 (re:Int),.slice ia il ic] 35,.cells #[.int .u8 (kd:Int),.int .i64 nn] 31,.cells (Ai zS).toArray 65]) (w0:=w) rfl ?_;intro W hat hbw;obtain⟨gl,hgl⟩:∃ g,g=w.heap.size:=⟨_,rfl⟩;have q0:=hat 0 _ rfl;obtain⟨gs,hgs⟩:∃ g,g=gl+1:=⟨_,rfl⟩;have q1:=hat 1 _ rfl;obtain⟨gi,hgi⟩:∃ g,g=gs+1:=⟨_,rfl⟩;have q2:=hat 2 _ rfl;obtain⟨gc,hgc⟩:∃ g,g=gi+1:=⟨_,rfl⟩;have q3:=hat 3 _ rfl;obtain⟨gr,hgr⟩:∃ g,g=gc+1:=⟨_,rfl⟩;have q4:=hat 4 _ rfl;rw[Nat.add_zero,← hgl] at q0;rw[← hgl,← hgs] at q1;rw[← hgl,show gl+2=gi by omega] at q2;rw[← hgl,show gl+3=gc by omega] at q3;rw[← hgl,show gl+4=gr by omega] at q4;rw[← hgl,← hgs,← hgi,← hgc,← hgr];have HQl:=hid q0;have HQs:=hid q1;have HQi:=hid q2;have HQc:=hid q3;have HQr:=hid q4;have HB0:=hid hbw;have HG:Hid (w.heap.size≤gs∧gr≠gs∧gl≠gs∧gi≠gs∧gc≠gs):=hid (by omega);have HGR:Hid (w.heap.size≤gr):=hid (by omega);clear hat hbw q0 q1 q2 q3 q4 hgl hgs hgi hgc hgr;have l0:=A4 HQl.out 0 _ rfl;have l1:=A4 HQl.out 1 _ rfl;have l2:=A4 HQl.out 2 _ rfl;have l3:=A4 HQl.out 3 _ rfl;have m0:=A4 HQc.out 0 _ rfl;have m1:=A4 HQc.out 1 _ rfl;go_wp2_with fail;have hbn:=Ac W (.cells #[.int .u8 (kd:Int),.int .i64 nn] 31);have hqn:=Ao W (.cells #[.int .u8 (kd:Int),.int .i64 nn] 31) (Below.refl _ _);refine(KR.out _ _ hqn).mono ?_;rintro e w1 ⟨rfl,hb1⟩;have HBW1:=hid (A8 hbn hb1);have HB1:=hid (A8 HB0.out HBW1.out);have HL1:=hid (A5 HBW1.out HQl.out);have HS1':=hid (A5 HBW1.out HQs.out);have HI1:=hid (A5 HBW1.out HQi.out);have HC1:=hid (A5 HBW1.out HQc.out);have HR1:=hid (A5 HBW1.out HQr.out);clear hbn hqn hb1 l0 l1 l2 l3 m0 m1 KR;obtain⟨PA,hPA⟩:∃ a,L.po.a=a:=⟨_,rfl⟩;have hl3:=HL1.out;have hrow:=HPO.out;rw[hPA] at hl3 hrow KNE0 ⊢;rcases hrow with hnil | ⟨pb,po,hpb,hpc⟩
 ·have h9:=HXR.out;rw[hnil] at h9;cases h9
 subst hpb;have HL1:=hid hl3;have HP1:Hid (w.cell? ⟨pb,po+n*2+1,none⟩=some (.int .i64 (q:Int))):=hid (hpc n _ HXR.out 1 _ rfl);have d1:(0:Int)≤n:=by omega
 have d2:(n:Int)<n2:=by have h:=(List.getElem?_eq_some_iff.1 HXR.out).1;have:=HN2.out;omega
 clear hPA hl3 hpc;have hn:=HNN.out;subst hn;have k1:((kd:Int) == 1)=false:=by have:=HKD.out;simp;omega
 have k2:((kd:Int) == 2)=false:=by have:=HKD.out;simp;omega
 have k3:((kd:Int) == 3)=true:=by have:=HKD.out;simp;omega
 have m0:=A4 HC1.out 0 _ rfl;have KCLW:Hid (∀ w',Below w1.heap.size w1 w'→Calls Tryz.prog 75 #[.agg #[.int .u64 (oc:Int),.int .u32 (no:Int),.int .u32 (re:Int),.slice ia il ic],.int .i64 (q:Int)] w' fun e w''=>e = .returned (.bool (!bq))∧Below w1.heap.size w1 w''):=hid (fun w' hw'=>(KCL.out w').mono (fun _ _ h=>⟨h.1,A8 hw' h.2⟩));have KNEW:Hid (∀ w',Below w1.heap.size w1 w'→Calls Tryz.prog 76 #[.agg #[.slice L.se.a n1 L.se.c,.slice (some ⟨pb,po,none⟩) n2 L.po.c,.slice L.sg.a n3 L.sg.c,.slice L.rt.a n4 L.rt.c],.agg (Ai s).toArray,.int .i64 (n:Int)] w' fun e w''=>e = .returned (.bool bn)∧Below w1.heap.size w1 w''):=hid (fun w' hw'=>(KNE0.out w' (A8 HB1.out hw')).mono (fun _ _ h=>⟨h.1,A8 hw' h.2⟩));clear KCL KNE0;cases bq with
 | true=>
   go_upto_region 17 with fail
   refine Ae (by kernel_rfl) ?_ ?_
   ·kernel_rfl
   repeat first
    | go_big_quiet_skip
    | (go_big_quiet_want
       with_reducible refine Ad (o:=⟨some 139,_,_,_,_,_⟩) 65 _ rfl _ _ ?_ (fun w' hw'=>Az (A5 hw' HS1'.out)) ?_
       ·rfl
       simp only[Act.put,List.setIfInBounds_toArray,List.set_cons_zero,List.set_cons_succ];go_big_quiet_on)
    | (go_big_quiet_want
       (first
         | ((with_reducible refine Ad (o:=⟨some 124,_,_,_,_,_⟩) 5 _ rfl (.pointer (some ⟨gc,0,none⟩)) (.int .u8 (kd:Int)) ?_ ?_ ?_);(· rfl);(· intro w' hw';have l:=A4 (A5 hw' HC1.out) 0 _ rfl;go_simp))
         | ((with_reducible refine Ad (o:=⟨some 127,_,_,_,_,_⟩) 35 _ rfl (.pointer (some ⟨gi,0,none⟩)) (.agg #[.int .u64 (oc:Int),.int .u32 (no:Int),.int .u32 (re:Int),.slice ia il ic]) ?_ ?_ ?_);(· rfl);(· intro w' hw';have l0:=A4 (A5 hw' HI1.out) 0 _ rfl;have l1:=A4 (A5 hw' HI1.out) 1 _ rfl;have l2:=A4 (A5 hw' HI1.out) 2 _ rfl;have l3:=A4 (A5 hw' HI1.out) 3 _ rfl;go_simp))
         | ((with_reducible refine Ad (o:=⟨some 129,_,_,_,_,_⟩) 23 _ rfl (.pointer (some ⟨gl,1,none⟩)) (.slice (some ⟨pb,po,none⟩) n2 L.po.c) ?_ ?_ ?_);(· rfl);(· intro w' hw';have l:=A4 (A5 hw' HL1.out) 1 _ rfl;go_simp))
         | ((with_reducible refine Ad (o:=⟨some 131,_,_,_,_,_⟩) 3 _ rfl (.pointer (some ⟨gc,1,none⟩)) (.int .i64 (n:Int)) ?_ ?_ ?_);(· rfl);(· intro w' hw';have l:=A4 (A5 hw' HC1.out) 1 _ rfl;go_simp))
         | ((with_reducible refine Ad (o:=⟨some 134,_,_,_,_,_⟩) 3 _ rfl (.pointer (some ⟨pb,po+n*2+1,none⟩)) (.int .i64 (q:Int)) ?_ ?_ ?_);(· rfl);(· intro w' hw';have p1:=cell_later (A8 HB1.out hw') HP1.out;go_simp))
         | ((with_reducible refine Ad (o:=⟨some 138,_,_,_,_,_⟩) 27 _ rfl (.pointer (some ⟨gl,0,none⟩)) (.agg #[.slice L.se.a n1 L.se.c,.slice (some ⟨pb,po,none⟩) n2 L.po.c,.slice L.sg.a n3 L.sg.c,.slice L.rt.a n4 L.rt.c]) ?_ ?_ ?_);(· rfl);(· intro w' hw';have l0:=A4 (A5 hw' HL1.out) 0 _ rfl;have l1:=A4 (A5 hw' HL1.out) 1 _ rfl;have l2:=A4 (A5 hw' HL1.out) 2 _ rfl;have l3:=A4 (A5 hw' HL1.out) 3 _ rfl;go_simp))
         | ((with_reducible refine Ad (o:=⟨some 141,_,_,_,_,_⟩) 3 _ rfl (.pointer (some ⟨gc,1,none⟩)) (.int .i64 (n:Int)) ?_ ?_ ?_);(· rfl);(· intro w' hw';have l:=A4 (A5 hw' HC1.out) 1 _ rfl;go_simp)))
       simp only[Act.put,List.setIfInBounds_toArray,List.set_cons_zero,List.set_cons_succ];go_big_quiet_on)
    | (go_big_quiet_want;go_big_quiet_op;go_big_quiet_on)
    | (with_reducible apply wpQuiet_step
       intro K hK;go_simp;first
        | (refine hK _ ?_;clear hK K)
        | (apply Exists.intro
           refine⟨fun w' hw'=>?_,hK _ ?_⟩
           ·
            (first
             | with_reducible exact KCLW.out _ hw'
             | with_reducible exact KNEW.out _ hw'
             | (skip
                go_simp;first | done | with_reducible exact rfl | with_reducible exact⟨rfl,rfl⟩ | with_reducible exact KCLW.out _ hw' | with_reducible exact KNEW.out _ hw'))
           clear hK K))
   refine wpQuiet_nil ?_;intro w7 hw7;have HB7:=hid (A8 HB1.out hw7);have HRa:=hid (A5 hw7 HR1.out);have HLa:=hid (A5 hw7 HL1.out);have HIa:=hid (A5 hw7 HI1.out);have HCa:=hid (A5 hw7 HC1.out);have HSa:=hid (A5 hw7 HS1'.out);have HBa:=hid (A8 HB1.out hw7);clear hw7;go_upto_region 19 with fail
   have HLD:=hid (Az HSa.out);obtain⟨hst,hq9,ho9⟩:=AN (s':=s) HRa.out;have HST:=hid hst;have HQ9:=hid hq9;have HB9:Hid (Below w.heap.size w (w7.setCells gr 0 (Ai s))):=hid (Ag.below HBa.out HGR.out HBa.out.size ho9);clear hst hq9 ho9;go_wp2_with (first
    | ((with_reducible refine Aj (op:=⟨some 152,_,_,_,_,_⟩) rfl 65 _ rfl _ _ ?_ HLD.out ?_);(· rfl))
    | ((with_reducible refine Am (op:=⟨none,.store 65 _ _,_,_,_,_⟩) rfl 65 _ _ rfl _ _ ?_ ?_ _ HST.out ?_);(· rfl);(· rfl)))
   (try simp only[Exit.inBlock,Exit.then])
   refine bodyPost_ret (results_cell_row (g:=gr) rfl _ _ 65 (Ai s).toArray (0,0) _ rfl HQ9.out Tryz.underlying65 rfl (by rw[List.size_toArray,AU];exact Bd)) rfl ?_;exact⟨by rw[HEQ.out];rfl,HB9.out⟩
 | false=>
   cases bn with
   | true=>
     go_upto_region 17 with fail
     refine Ae (by kernel_rfl) ?_ ?_
     ·kernel_rfl
     repeat first
      | go_big_quiet_skip
      | (go_big_quiet_want
         with_reducible refine Ad (o:=⟨some 139,_,_,_,_,_⟩) 65 _ rfl _ _ ?_ (fun w' hw'=>Az (A5 hw' HS1'.out)) ?_
         ·rfl
         simp only[Act.put,List.setIfInBounds_toArray,List.set_cons_zero,List.set_cons_succ];go_big_quiet_on)
      | (go_big_quiet_want
         (first
           | ((with_reducible refine Ad (o:=⟨some 124,_,_,_,_,_⟩) 5 _ rfl (.pointer (some ⟨gc,0,none⟩)) (.int .u8 (kd:Int)) ?_ ?_ ?_);(· rfl);(· intro w' hw';have l:=A4 (A5 hw' HC1.out) 0 _ rfl;go_simp))
           | ((with_reducible refine Ad (o:=⟨some 127,_,_,_,_,_⟩) 35 _ rfl (.pointer (some ⟨gi,0,none⟩)) (.agg #[.int .u64 (oc:Int),.int .u32 (no:Int),.int .u32 (re:Int),.slice ia il ic]) ?_ ?_ ?_);(· rfl);(· intro w' hw';have l0:=A4 (A5 hw' HI1.out) 0 _ rfl;have l1:=A4 (A5 hw' HI1.out) 1 _ rfl;have l2:=A4 (A5 hw' HI1.out) 2 _ rfl;have l3:=A4 (A5 hw' HI1.out) 3 _ rfl;go_simp))
           | ((with_reducible refine Ad (o:=⟨some 129,_,_,_,_,_⟩) 23 _ rfl (.pointer (some ⟨gl,1,none⟩)) (.slice (some ⟨pb,po,none⟩) n2 L.po.c) ?_ ?_ ?_);(· rfl);(· intro w' hw';have l:=A4 (A5 hw' HL1.out) 1 _ rfl;go_simp))
           | ((with_reducible refine Ad (o:=⟨some 131,_,_,_,_,_⟩) 3 _ rfl (.pointer (some ⟨gc,1,none⟩)) (.int .i64 (n:Int)) ?_ ?_ ?_);(· rfl);(· intro w' hw';have l:=A4 (A5 hw' HC1.out) 1 _ rfl;go_simp))
           | ((with_reducible refine Ad (o:=⟨some 134,_,_,_,_,_⟩) 3 _ rfl (.pointer (some ⟨pb,po+n*2+1,none⟩)) (.int .i64 (q:Int)) ?_ ?_ ?_);(· rfl);(· intro w' hw';have p1:=cell_later (A8 HB1.out hw') HP1.out;go_simp))
           | ((with_reducible refine Ad (o:=⟨some 138,_,_,_,_,_⟩) 27 _ rfl (.pointer (some ⟨gl,0,none⟩)) (.agg #[.slice L.se.a n1 L.se.c,.slice (some ⟨pb,po,none⟩) n2 L.po.c,.slice L.sg.a n3 L.sg.c,.slice L.rt.a n4 L.rt.c]) ?_ ?_ ?_);(· rfl);(· intro w' hw';have l0:=A4 (A5 hw' HL1.out) 0 _ rfl;have l1:=A4 (A5 hw' HL1.out) 1 _ rfl;have l2:=A4 (A5 hw' HL1.out) 2 _ rfl;have l3:=A4 (A5 hw' HL1.out) 3 _ rfl;go_simp))
           | ((with_reducible refine Ad (o:=⟨some 141,_,_,_,_,_⟩) 3 _ rfl (.pointer (some ⟨gc,1,none⟩)) (.int .i64 (n:Int)) ?_ ?_ ?_);(· rfl);(· intro w' hw';have l:=A4 (A5 hw' HC1.out) 1 _ rfl;go_simp)))
         simp only[Act.put,List.setIfInBounds_toArray,List.set_cons_zero,List.set_cons_succ];go_big_quiet_on)
      | (go_big_quiet_want;go_big_quiet_op;go_big_quiet_on)
      | (with_reducible apply wpQuiet_step
         intro K hK;go_simp;first
          | (refine hK _ ?_;clear hK K)
          | (apply Exists.intro
             refine⟨fun w' hw'=>?_,hK _ ?_⟩
             ·
              (first
               | with_reducible exact KCLW.out _ hw'
               | with_reducible exact KNEW.out _ hw'
               | (skip
                  go_simp;first | done | with_reducible exact rfl | with_reducible exact⟨rfl,rfl⟩ | with_reducible exact KCLW.out _ hw' | with_reducible exact KNEW.out _ hw'))
             clear hK K))
     refine wpQuiet_nil ?_;intro w7 hw7;have HB7:=hid (A8 HB1.out hw7);have HRa:=hid (A5 hw7 HR1.out);have HLa:=hid (A5 hw7 HL1.out);have HIa:=hid (A5 hw7 HI1.out);have HCa:=hid (A5 hw7 HC1.out);have HSa:=hid (A5 hw7 HS1'.out);have HBa:=hid (A8 HB1.out hw7);clear hw7;go_upto_region 19 with fail
     have HLD:=hid (Az HSa.out);obtain⟨hst,hq9,ho9⟩:=AN (s':=s) HRa.out;have HST:=hid hst;have HQ9:=hid hq9;have HB9:Hid (Below w.heap.size w (w7.setCells gr 0 (Ai s))):=hid (Ag.below HBa.out HGR.out HBa.out.size ho9);clear hst hq9 ho9;go_wp2_with (first
      | ((with_reducible refine Aj (op:=⟨some 152,_,_,_,_,_⟩) rfl 65 _ rfl _ _ ?_ HLD.out ?_);(· rfl))
      | ((with_reducible refine Am (op:=⟨none,.store 65 _ _,_,_,_,_⟩) rfl 65 _ _ rfl _ _ ?_ ?_ _ HST.out ?_);(· rfl);(· rfl)))
     (try simp only[Exit.inBlock,Exit.then])
     refine bodyPost_ret (results_cell_row (g:=gr) rfl _ _ 65 (Ai s).toArray (0,0) _ rfl HQ9.out Tryz.underlying65 rfl (by rw[List.size_toArray,AU];exact Bd)) rfl ?_;exact⟨by rw[HEQ.out];rfl,HB9.out⟩
   | false=>
     go_upto_region 17 with fail
     refine Ae (by kernel_rfl) ?_ ?_
     ·kernel_rfl
     repeat first
      | go_big_quiet_skip
      | (go_big_quiet_want
         with_reducible refine Ad (o:=⟨some 139,_,_,_,_,_⟩) 65 _ rfl _ _ ?_ (fun w' hw'=>Az (A5 hw' HS1'.out)) ?_
         ·rfl
         simp only[Act.put,List.setIfInBounds_toArray,List.set_cons_zero,List.set_cons_succ];go_big_quiet_on)
      | (go_big_quiet_want
         (first
           | ((with_reducible refine Ad (o:=⟨some 124,_,_,_,_,_⟩) 5 _ rfl (.pointer (some ⟨gc,0,none⟩)) (.int .u8 (kd:Int)) ?_ ?_ ?_);(· rfl);(· intro w' hw';have l:=A4 (A5 hw' HC1.out) 0 _ rfl;go_simp))
           | ((with_reducible refine Ad (o:=⟨some 127,_,_,_,_,_⟩) 35 _ rfl (.pointer (some ⟨gi,0,none⟩)) (.agg #[.int .u64 (oc:Int),.int .u32 (no:Int),.int .u32 (re:Int),.slice ia il ic]) ?_ ?_ ?_);(· rfl);(· intro w' hw';have l0:=A4 (A5 hw' HI1.out) 0 _ rfl;have l1:=A4 (A5 hw' HI1.out) 1 _ rfl;have l2:=A4 (A5 hw' HI1.out) 2 _ rfl;have l3:=A4 (A5 hw' HI1.out) 3 _ rfl;go_simp))
           | ((with_reducible refine Ad (o:=⟨some 129,_,_,_,_,_⟩) 23 _ rfl (.pointer (some ⟨gl,1,none⟩)) (.slice (some ⟨pb,po,none⟩) n2 L.po.c) ?_ ?_ ?_);(· rfl);(· intro w' hw';have l:=A4 (A5 hw' HL1.out) 1 _ rfl;go_simp))
           | ((with_reducible refine Ad (o:=⟨some 131,_,_,_,_,_⟩) 3 _ rfl (.pointer (some ⟨gc,1,none⟩)) (.int .i64 (n:Int)) ?_ ?_ ?_);(· rfl);(· intro w' hw';have l:=A4 (A5 hw' HC1.out) 1 _ rfl;go_simp))
           | ((with_reducible refine Ad (o:=⟨some 134,_,_,_,_,_⟩) 3 _ rfl (.pointer (some ⟨pb,po+n*2+1,none⟩)) (.int .i64 (q:Int)) ?_ ?_ ?_);(· rfl);(· intro w' hw';have p1:=cell_later (A8 HB1.out hw') HP1.out;go_simp))
           | ((with_reducible refine Ad (o:=⟨some 138,_,_,_,_,_⟩) 27 _ rfl (.pointer (some ⟨gl,0,none⟩)) (.agg #[.slice L.se.a n1 L.se.c,.slice (some ⟨pb,po,none⟩) n2 L.po.c,.slice L.sg.a n3 L.sg.c,.slice L.rt.a n4 L.rt.c]) ?_ ?_ ?_);(· rfl);(· intro w' hw';have l0:=A4 (A5 hw' HL1.out) 0 _ rfl;have l1:=A4 (A5 hw' HL1.out) 1 _ rfl;have l2:=A4 (A5 hw' HL1.out) 2 _ rfl;have l3:=A4 (A5 hw' HL1.out) 3 _ rfl;go_simp))
           | ((with_reducible refine Ad (o:=⟨some 141,_,_,_,_,_⟩) 3 _ rfl (.pointer (some ⟨gc,1,none⟩)) (.int .i64 (n:Int)) ?_ ?_ ?_);(· rfl);(· intro w' hw';have l:=A4 (A5 hw' HC1.out) 1 _ rfl;go_simp)))
         simp only[Act.put,List.setIfInBounds_toArray,List.set_cons_zero,List.set_cons_succ];go_big_quiet_on)
      | (go_big_quiet_want;go_big_quiet_op;go_big_quiet_on)
      | (with_reducible apply wpQuiet_step
         intro K hK;go_simp;first
          | (refine hK _ ?_;clear hK K)
          | (apply Exists.intro
             refine⟨fun w' hw'=>?_,hK _ ?_⟩
             ·
              (first
               | with_reducible exact KCLW.out _ hw'
               | with_reducible exact KNEW.out _ hw'
               | (skip
                  go_simp;first | done | with_reducible exact rfl | with_reducible exact⟨rfl,rfl⟩ | with_reducible exact KCLW.out _ hw' | with_reducible exact KNEW.out _ hw'))
             clear hK K))
     refine wpQuiet_nil ?_;intro w7 hw7;have HB7:=hid (A8 HB1.out hw7);have HRa:=hid (A5 hw7 HR1.out);have HLa:=hid (A5 hw7 HL1.out);have HIa:=hid (A5 hw7 HI1.out);have HCa:=hid (A5 hw7 HC1.out);have HSa:=hid (A5 hw7 HS1'.out);have HBa:=hid (A8 HB1.out hw7);clear hw7;go_upto_region 18 with fail
     refine Ah (by kernel_rfl) [7] 10 [0,1,2,3,4,5,6] [145,146,147,148,149,150,151] #[true,true,true,true,true,true,true,false] 1 [(fun v _=>v = .pointer (some ⟨gs,67,none⟩)),(fun v _=>v = .int .u32 (s.pt:Int)),(fun v _=>v = .pointer (some ⟨gc,1,none⟩)),(fun v _=>v = .int .i64 (n:Int)),(fun v _=>v = .int .u32 ((pw n:Nat):Int)),(fun v _=>v = .int .u32 ((Bh s.pt n:Nat):Int)),(fun v _=>v = .pointer (some ⟨gs,67,none⟩)),(fun _ _=>True)] (by kernel_rfl) (by kernel_rfl) (by kernel_rfl) (by kernel_rfl) (by kernel_rfl) rfl (by kernel_rfl) rfl ?_ ?_ ?_
     ·exact⟨A7 _,A7 _,A7 _,A7 _,A7 _,A7 _,A7 _,Al,trivial⟩
     ·refine⟨?_,?_,?_,?_,?_,?_,?_,trivial⟩
      ·refine A6 (o:=⟨some 145,_,_,_,_,_⟩) rfl (fun r V hc hf hg hs hb hd=>?_);have x5:r (.tmp 5) = .pointer (some ⟨gs,0,none⟩):=hs 5 (by kernel_rfl);clear hs hd hg;go_simp;exact⟨Below.refl _ _,rfl⟩
      ·refine A6 (o:=⟨some 146,_,_,_,_,_⟩) rfl (fun r V hc hf hg hs hb hd=>?_);have h0:r (.tmp 145) = .pointer (some ⟨gs,67,none⟩):=hd 0 145 rfl (by kernel_rfl);clear hs hd hg;have l:=A4 (A5 hb HSa.out) 67 _ (E2 _);go_simp;exact⟨Below.refl _ _,rfl⟩
      ·refine A6 (o:=⟨some 147,_,_,_,_,_⟩) rfl (fun r V hc hf hg hs hb hd=>?_);have x7:r (.tmp 7) = .pointer (some ⟨gc,0,none⟩):=hs 7 (by kernel_rfl);clear hs hd hg;go_simp;exact⟨Below.refl _ _,rfl⟩
      ·refine A6 (o:=⟨some 148,_,_,_,_,_⟩) rfl (fun r V hc hf hg hs hb hd=>?_);have h2:r (.tmp 147) = .pointer (some ⟨gc,1,none⟩):=hd 2 147 rfl (by kernel_rfl);clear hs hd hg;have l:=A4 (A5 hb HCa.out) 1 _ rfl;go_simp;exact⟨Below.refl _ _,rfl⟩
      ·refine A6 (o:=⟨some 149,_,_,_,_,_⟩) rfl (fun r V hc hf hg hs hb hd=>?_);have h3:r (.tmp 148) = .int .i64 (n:Int):=hd 3 148 rfl (by kernel_rfl);clear hs hd hg;have h31:=HN31.out;have h0:(0:Int)≤n:=by omega
       have h1:min n 32=n:=by omega
       have h2:¬ (32:Int)≤n:=by omega
       have hs1:=G8 h31;go_simp;exact⟨Below.refl _ _,by simp⟩
      ·refine A6 (o:=⟨some 150,_,_,_,_,_⟩) rfl (fun r V hc hf hg hs hb hd=>?_);have h1:r (.tmp 146) = .int .u32 (s.pt:Int):=hd 1 146 rfl (by kernel_rfl);have h4:r (.tmp 149) = .int .u32 ((pw n:Nat):Int):=hd 4 149 rfl (by kernel_rfl);clear hs hd hg;have ho1:=FS HN31.out HSO.out.pt;go_simp;exact⟨Below.refl _ _,rfl⟩
      ·refine A6 (o:=⟨some 151,_,_,_,_,_⟩) rfl (fun r V hc hf hg hs hb hd=>?_);have x5:r (.tmp 5) = .pointer (some ⟨gs,0,none⟩):=hs 5 (by kernel_rfl);clear hs hd hg;go_simp;exact⟨Below.refl _ _,rfl⟩
     ·intro a V hb hx;have h0:a.eval (.tmp 145) = .pointer (some ⟨gs,67,none⟩):=hx 0 145 rfl rfl;have h1:a.eval (.tmp 146) = .int .u32 (s.pt:Int):=hx 1 146 rfl rfl;have h2:a.eval (.tmp 147) = .pointer (some ⟨gc,1,none⟩):=hx 2 147 rfl rfl;have h3:a.eval (.tmp 148) = .int .i64 (n:Int):=hx 3 148 rfl rfl;have h4:a.eval (.tmp 149) = .int .u32 ((pw n:Nat):Int):=hx 4 149 rfl rfl;have h5:a.eval (.tmp 150) = .int .u32 ((Bh s.pt n:Nat):Int):=hx 5 150 rfl rfl;have h6:a.eval (.tmp 151) = .pointer (some ⟨gs,67,none⟩):=hx 6 151 rfl rfl;unfold AA;simp only[List.foldl_cons,List.foldl_nil,h0,h1,h2,h3,h4,h5,h6,Act.put,List.setIfInBounds_toArray,List.set_cons_zero,List.set_cons_succ];clear h0 h1 h2 h3 h4 h5 h6 hx;have HSV:=hid (A5 hb HSa.out);have HRV:=hid (A5 hb HRa.out);have HLV:=hid (A5 hb HLa.out);have HIV:=hid (A5 hb HIa.out);have HCV:=hid (A5 hb HCa.out);have HBV:=hid (A8 HBa.out hb);clear hb HBa HSa HRa HLa HIa HCa;refine wpAny_ready (rs:=[7]) (by kernel_rfl) (by simp) (AllReady.cons (o:=⟨none,_,_,_,_,_⟩) rfl (fun K hK=>?_) AllReady.nil);have c0:=A4 HSV.out 67 _ (E2 _);have f0:=An HSV.out 67;have hl:=Af HSV.out;go_simp;clear c0 f0 hl;refine AY ?_;intro V3 hV3;have ho:Ag gs V V3:=by rw[hV3];exact(Ag.refl gs V).setCell rfl _
      have HSb:Hid (V3.heap[gs]?=some (.cells (Ai { s with pt:=Bh s.pt n }).toArray 65)):=hid (by rw[hV3];exact(AH HSV.out 67 _).trans (congrArg (fun C=>some (Obj.cells C 65)) (If _ _)));have HBb:Hid (Below w.heap.size w V3):=hid (Ag.below HBV.out HG.out.1 HBV.out.size ho);have HRb:=hid (Ag.keep ho HG.out.2.1 HRV.out);have HLb:=hid (Ag.keep ho HG.out.2.2.1 HLV.out);have HIb:=hid (Ag.keep ho HG.out.2.2.2.1 HIV.out);have HCb:=hid (Ag.keep ho HG.out.2.2.2.2 HCV.out);clear hV3 ho HSV HBV HRV HLV HIV HCV;refine hK _ _ ?_;clear hK K;refine wpAny_done (by kernel_rfl) ?_ _;go_upto_region 19 with fail
      have HLD:=hid (Az HSb.out);obtain⟨hst,hq9,ho9⟩:=AN (s':={ s with pt:=Bh s.pt n }) HRb.out;have HST:=hid hst;have HQ9:=hid hq9;have HB9:Hid (Below w.heap.size w (V3.setCells gr 0 (Ai { s with pt:=Bh s.pt n }))):=hid (Ag.below HBb.out HGR.out HBb.out.size ho9);clear hst hq9 ho9;go_wp2_with (first
       | ((with_reducible refine Aj (op:=⟨some 152,_,_,_,_,_⟩) rfl 65 _ rfl _ _ ?_ HLD.out ?_);(· rfl))
       | ((with_reducible refine Am (op:=⟨none,.store 65 _ _,_,_,_,_⟩) rfl 65 _ _ rfl _ _ ?_ ?_ _ HST.out ?_);(· rfl);(· rfl)))
      (try simp only[Exit.inBlock,Exit.then])
      refine bodyPost_ret (results_cell_row (g:=gr) rfl _ _ 65 (Ai { s with pt:=Bh s.pt n }).toArray (0,0) _ rfl HQ9.out Tryz.underlying65 rfl (by rw[List.size_toArray,AU];exact Bd)) rfl ?_;exact⟨by rw[HEQ.out];rfl,HB9.out⟩
end Go.Proofs.YtpohoannggdbjaaGreat
namespace Go.Proofs.YtpohoannggdbjaaGreat
open Lib (hid)
open Go.RowKit
set_option maxRecDepth 100000
theorem Ix(L:AM)(s:St)(oc no re:Nat)(ia:Option Addr)(il ic:Nat)(kd:Nat)(nn:Int)(w:World)(hL:B5 w L)(hc:(Aq L).1=0)(hs:s.ok)(ho:oc<18446744073709551616)(hkd:kd≤255)(h1 : -9223372036854775808≤nn)(h2:nn≤9223372036854775807) :
 Calls Tryz.prog 42 #[.agg #[L.se.v,L.po.v,L.sg.v,L.rt.v],.agg (Ai s).toArray,.agg #[.int .u64 (oc:Int),.int .u32 (no:Int),.int .u32 (re:Int),.slice ia il ic],.agg #[.int .u8 (kd:Int),.int .i64 nn]] w fun e w'=>e = .returned (.agg (Ai (CI (B6 L) s oc (kd,nn))).toArray)∧Below w.heap.size w w':=by
 cases hr:AB L.po.l.length L.rt.l.length (kd,nn) with
 | false=>exact QL L s oc no re ia il ic kd nn w hL hc hs ho hkd h1 h2 hr
 | true=>
   unfold AB at hr;have hr:=of_decide_eq_true hr;dsimp only at hr;rcases hr with ⟨h | h,h0,h3⟩ | ⟨h,h0,h3⟩
   ·obtain⟨n,rfl⟩:∃ n:Nat,nn=n:=⟨nn.toNat,by omega⟩;have hlt:n<L.rt.l.length:=by omega
    exact Qu L s oc no re ia il ic kd n w hL hc hs ho hkd h1 h2 h n _ rfl (List.getElem?_eq_getElem hlt)
   ·obtain⟨n,rfl⟩:∃ n:Nat,nn=n:=⟨nn.toNat,by omega⟩;have hlt:n<L.rt.l.length:=by omega
    exact QY L s oc no re ia il ic kd n w hL hc hs ho hkd h1 h2 h n _ rfl (List.getElem?_eq_getElem hlt)
   ·obtain⟨n,rfl⟩:∃ n:Nat,nn=n:=⟨nn.toNat,by omega⟩;have hlt:n<L.po.l.length:=by omega
    exact QX L s oc no re ia il ic kd n w hL hc hs ho hkd h1 h2 h n _ _ rfl (List.getElem?_eq_getElem hlt)
end Go.Proofs.YtpohoannggdbjaaGreat
