/- Layer 10: the document's command: cancel. -/
import Derived.Test.YtpohoannggdbjaaGreatIxTc
set_option maxRecDepth 100000
set_option maxHeartbeats 200000000
namespace Go.Proofs.YtpohoannggdbjaaGreat
open Lib (hid)
open Go.RowKit
theorem Sp(f:Nat→Nat)(n a b:Nat):BZ (BZ f n a) n b=BZ f n b:=by
 funext k
 unfold BZ;by_cases e:k=n
 ·rw[if_pos e,if_pos e]
 ·rw[if_neg e,if_neg e,if_neg e]
attribute [local irreducible] Sl.v Aa pw Ab Aw C8 Af BC CD Bi Bg B9 CB BQ AU Bp BB BG Bh Bd BP Bo BL BF BN AI AY AV Be Bw Bq C4 Mc.tb BZ AX Ap B5
attribute [local irreducible] AW CY Bt BO Rt.tr Rt.nd AC C9 At
attribute [local irreducible] E9
theorem Tl(L:AL)(s:St)(oc no re:Nat)(ia:Option Addr)(il ic:Nat)(kd:Nat)(nn:Int)(w:World)(hL:AO w L)(hc:(Ap L).1=0)(hs:s.ok)(ho:oc<18446744073709551616)(hkd:kd≤255)(h1 : -9223372036854775808≤nn)(h2:nn≤9223372036854775807)(hk:kd=2)(n:Nat)(x:Rt)(hn:nn=(n:Int))(hx:L.rt.l[n]?=some x) :
 Calls Tryz.prog 42 #[.agg #[L.se.v,L.po.v,L.sg.v,L.rt.v],.agg (Af s).toArray,.agg #[.int .u64 (oc:Int),.int .u32 (no:Int),.int .u32 (re:Int),.slice ia il ic],.agg #[.int .u8 (kd:Int),.int .i64 nn]] w fun e w'=>e = .returned (.agg (Af (D6 (AW L) s oc (kd,nn))).toArray)∧Below w.heap.size w w':=by
 have HMAY:Hid (AX L=true):=hid (B6 hc);have HS4:Hid (L.rt.l.length≤64):=hid (AE (B6 hc)).2.2.2;have HCK:=hid hc;have HS2:Hid (L.po.l.length≤32):=hid (AE (B6 hc)).2.1;have HS1:Hid (L.se.l.length≤64):=hid (AE (B6 hc)).1;have HBR:Hid (AJ L.po.l.length L.rt.l.length (kd,nn)=true):=hid (by
  have hl:=(We.1 hx).1;unfold AJ;exact Wk (by dsimp only;omega))
 have h63:n≤63:=by have h1:=(We.1 hx).1;have:=HS4.o;omega
 have hxm:=Wf hx;have HN63:=hid h63;have HN64:Hid (n<64):=hid (by omega);have HXR:=hid hx;obtain⟨bm,hbm⟩:=WY (AU s n);obtain⟨sk,hsk⟩:∃ k:Nat,x.sg=k:=⟨x.sg.toNat,by have:=(Bv HMAY.o x hxm).s0;omega⟩;have hsl:sk<L.sg.l.length:=by have:=(Bv HMAY.o x hxm).s1;omega
 obtain⟨⟨gn,gsx⟩,hsp⟩:∃ p,L.sg.l[sk]?=some p:=⟨_,Wb hsl⟩;have hgs:0≤gsx∧gsx≤63:=by have h:=(KZ HMAY.o).2 _ (Wf hsp);dsimp only at h;have:=HS1.o;omega
 obtain⟨q,rfl⟩:∃ q:Nat,gsx=q:=⟨gsx.toNat,by omega⟩;obtain⟨bq,hbq⟩:=WY (Aa oc q);have HEQ:Hid (D6 (AW L) s oc (kd,nn)=if bm then { s with ca:=Ab s.ca n,tm:=if bq then BZ s.tm n 20 else BZ s.tm n 0 } else s):=hid (by
  rw[hn,hk,QD hx,T9,hbm,TX,hsk,EF hsp];dsimp only;rw[Int.toNat_natCast,hbq])
 have KHM:Hid (∀ V,Calls Tryz.prog 43 #[.int .u64 ((E9 s:Nat):Int),.int .i64 (n:Int)] V fun e w'=>e = .returned (.bool bm)∧Below V.heap.size V w'):=hid (fun V=>CP bm (E9 s:Nat) n V h63 (Pd hs) ((Mt hs h63).trans hbm));have KCL:Hid (∀ V,Calls Tryz.prog 75 #[.agg #[.int .u64 (oc:Int),.int .u32 (no:Int),.int .u32 (re:Int),.slice ia il ic],.int .i64 (q:Int)] V fun e w'=>e = .returned (.bool (!bq))∧Below V.heap.size V w'):=hid (fun V=>DR bq oc no re ia il ic q V (by omega) ho hbq);have HA1:=hid (SK hs);have HA2:=hid (SL hs);have HSK:=hid hsk;have HSP:=hid hsp;have HSGR:Hid (As 2 O3 w L.sg.a L.sg.l):=hid hL.sg.row;have HSKL:Hid (sk<L.sg.l.length):=hid hsl;have HKD:=hid hk;have HNN:=hid hn;clear hbm hsk hsl hsp hgs hbq h63 hxm hx hk hn;have HSO:=hid hs;have HOC:=hid ho;obtain⟨n1,hn1⟩:=WY L.se.l.length;obtain⟨n2,hn2⟩:=WY L.po.l.length;obtain⟨n3,hn3⟩:=WY L.sg.l.length;obtain⟨n4,hn4⟩:=WY L.rt.l.length;have HLW:=hid hL;have HN1:=hid hn1;have HN2:=hid hn2;have HN3:=hid hn3;have HN4:=hid hn4;have KR:Hid (∀(V:World) (g:Nat),V.heap[g]?=some (.cells #[.int .u8 (kd:Int),.int .i64 nn] 31)→Calls Tryz.prog 73 #[.agg #[.slice L.se.a n1 L.se.c,.slice L.po.a n2 L.po.c,.slice L.sg.a n3 L.sg.c,.slice L.rt.a n4 L.rt.c],.agg #[.int .u64 0,.int .u32 0,.int .u32 0,.slice (some ⟨g,0,none⟩) 1 1]] V fun e w'=>e = .returned (.bool true)∧Below V.heap.size V w'):=hid (fun V g hg=>by
  have h:=Dl n1 n2 n3 n4 L.se.a L.po.a L.sg.a L.rt.a L.se.c L.po.c L.sg.c L.rt.c 0 0 0 (some ⟨g,0,none⟩) [(kd,nn)] 1 1 V rfl (by omega) (by rw[← hn1];have:=HS1.o;omega) (by rw[← hn2];have:=HS2.o;omega) (by rw[← hn4];have:=HS4.o;omega) (Et hg (by omega) h1 h2) (by omega) (by omega) (by omega);rw[Jd,show min n2 32=L.po.l.length by have:=HS2.o;omega,show min n4 64=L.rt.l.length by have:=HS4.o;omega,HBR.o] at h;exact h)
 rw[hn4] at HS4;rw[Ak hn1,Ak hn2,Ak hn3,Ak hn4];have HROWL:Hid (As 6 Qj w L.rt.a L.rt.l):=hid hL.rt.row;clear hn1 hn2 hn3 hn4 hL hc hs ho hkd h1 h2;go_enter Tryz.func42,Tryz.ntmps42;go_upto_region 1 with fail
 rw[Bz];refine Ao (os:=[.cells #[.slice L.se.a n1 L.se.c,.slice L.po.a n2 L.po.c,.slice L.sg.a n3 L.sg.c,.slice L.rt.a n4 L.rt.c] 27,.cells (Af s).toArray 65,.cells #[.int .u64 (oc:Int),.int .u32 (no:Int),.int .u32 (re:Int),.slice ia il ic] 35,.cells #[.int .u8 (kd:Int),.int .i64 nn] 31,.cells (Af zS).toArray 65]) (w0:=w) rfl ?_;intro W hat hbw;obtain⟨gl,hgl⟩:=X0 w.heap.size;have q0:=hat 0 _ rfl;obtain⟨gs,hgs⟩:=X0 (gl+1);have q1:=hat 1 _ rfl;obtain⟨gi,hgi⟩:=X0 (gs+1);have q2:=hat 2 _ rfl;obtain⟨gc,hgc⟩:=X0 (gi+1);have q3:=hat 3 _ rfl;obtain⟨gr,hgr⟩:=X0 (gc+1);have q4:=hat 4 _ rfl;rw[Wa,← hgl] at q0;rw[← hgl,← hgs] at q1;rw[← hgl,show gl+2=gi by omega] at q2;rw[← hgl,show gl+3=gc by omega] at q3;rw[← hgl,show gl+4=gr by omega] at q4;rw[← hgl,← hgs,← hgi,← hgc,← hgr];have HQl:=hid q0;have HQs:=hid q1;have HQi:=hid q2;have HQc:=hid q3;have HQr:=hid q4;have HB0:=hid hbw;have HG:Hid (w.heap.size≤gs∧gr≠gs∧gl≠gs∧gi≠gs∧gc≠gs):=hid (by omega);have HGR:Hid (w.heap.size≤gr):=hid (by omega);clear hat hbw q0 q1 q2 q3 q4 hgl hgs hgi hgc hgr;have l0:=A4 HQl.o 0 _ rfl;have l1:=A4 HQl.o 1 _ rfl;have l2:=A4 HQl.o 2 _ rfl;have l3:=A4 HQl.o 3 _ rfl;have m0:=A4 HQc.o 0 _ rfl;have m1:=A4 HQc.o 1 _ rfl;go_wp2_with fail;have hbn:=Ac W (.cells #[.int .u8 (kd:Int),.int .i64 nn] 31);have hqn:=Al W (.cells #[.int .u8 (kd:Int),.int .i64 nn] 31) (VU _ _);refine(KR.o _ _ hqn).mono ?_;rintro e w1 ⟨rfl,hb1⟩;have HBW1:=hid (A6 hbn hb1);have HB1:=hid (A6 HB0.o HBW1.o);have HL1:=hid (A5 HBW1.o HQl.o);have HS1':=hid (A5 HBW1.o HQs.o);have HI1:=hid (A5 HBW1.o HQi.o);have HC1:=hid (A5 HBW1.o HQc.o);have HR1:=hid (A5 HBW1.o HQr.o);clear hbn hqn hb1 l0 l1 l2 l3 m0 m1 KR;obtain⟨X,hX⟩:=WY L.rt.a;have hl1:=HL1.o;rw[hX] at hl1 ⊢;have hrow:=HROWL.o;rw[hX] at hrow;rcases hrow with hnil | ⟨xb,off,hxb,hc0⟩
 ·have hx9:=HXR.o;rw[hnil] at hx9;cases hx9
 subst hxb;have HL1:=hid hl1;have HROW:=hid hc0;have hc:=hc0;have hyx:=HXR.o;have z0:=hc n _ hyx 0 _ rfl;have z1:=hc n _ hyx 1 _ rfl;have z2:=hc n _ hyx 2 _ rfl;have z3:=hc n _ hyx 3 _ rfl;have z4:=hc n _ hyx 4 _ rfl;have z5:=hc n _ hyx 5 _ rfl;rw[Wa] at z0;obtain⟨p1,hp1⟩:=WY x.pa.l.length;obtain⟨p2,hp2⟩:=WY x.po.l.length;obtain⟨p3,hp3⟩:=WY x.ov.l.length;obtain⟨p4,hp4⟩:=WY x.fl.l.length;rw[Ak hp1] at z2;rw[Ak hp2] at z3;rw[Ak hp3] at z4;rw[Ak hp4] at z5;have HZX:=hid (And.intro z0 (And.intro z1 (And.intro z2 (And.intro z3 (And.intro z4 z5)))));clear z0 z1 z2 z3 z4 z5;clear hX hl1 hc hc0 hyx;have hn:=HNN.o;subst hn;have k1:((kd:Int) == 1)=false:=by have:=HKD.o;simp;omega
 have k2:((kd:Int) == 2)=true:=by have:=HKD.o;simp;omega
 have k3:((kd:Int) == 3)=false:=by have:=HKD.o;simp;omega
 have m0:=A4 HC1.o 0 _ rfl;have m1:=A4 HC1.o 1 _ rfl;have s0:=A4 HS1'.o 0 _ (DM s);have s1:=A4 HS1'.o 1 _ (FE s);have s2:=A4 HS1'.o 2 _ (E1 s);have a1:=HA1.o;have a2:=HA2.o;go_wp2_with fail;refine(KHM.o _).mono ?_;rintro e w2 ⟨rfl,hb2⟩;clear m0 m1 s0 s1 s2 a1 a2 KHM;have HS2':=hid (A5 hb2 HS1'.o);have HR2:=hid (A5 hb2 HR1.o);have HL2:=hid (A5 hb2 HL1.o);have HI2:=hid (A5 hb2 HI1.o);have HC2:=hid (A5 hb2 HC1.o);have HB2:=hid (A6 HB1.o hb2);clear hb2 HS1' HR1 HL1 HI1 HC1 HB1 HBW1;cases bm with
 | false=>
   have HS1:=HS2';have HR1:=HR2;have HC1:=HC2;have HB1:=HB2;go_upto_region 17 with fail
   refine Ad (by kernel_rfl) ?_ ?_
   ·kernel_rfl
   repeat first
    | go_big_quiet_skip
    | (go_big_quiet_want
       (first
         | ((with_reducible refine Ae (o:=⟨some 124,_,_,_,_,_⟩) 5 _ rfl (.pointer (some ⟨gc,0,none⟩)) (.int .u8 (kd:Int)) ?_ ?_ ?_);(· rfl);(· intro w' hw';have l:=A4 (A5 hw' HC1.o) 0 _ rfl;go_simp)))
       simp only[Act.put,VW,VX,VV];go_big_quiet_on)
    | (go_big_quiet_want;go_big_quiet_op;go_big_quiet_on)
    | (with_reducible apply wpQuiet_step
       intro K hK;go_simp;first
        | (refine hK _ ?_;clear hK K)
        | (apply Exists.intro
           refine⟨fun w' hw'=>?_,hK _ ?_⟩
           ·
            (first
             | (skip
                go_simp;first | done | with_reducible exact rfl | with_reducible exact⟨rfl,rfl⟩))
           clear hK K))
   refine wpQuiet_nil ?_;intro w7 hw7;have HB7:=hid (A6 HB1.o hw7);have HSx:=hid (A5 hw7 HS1.o);have HRx:=hid (A5 hw7 HR1.o);have HBx:=hid (A6 HB1.o hw7);clear hw7;go_upto_region 19 with fail
   have HLD:=hid (Au HSx.o);obtain⟨hst,hq9,ho9⟩:=AH (s':=s) HRx.o;have HST:=hid hst;have HQ9:=hid hq9;have HB9:Hid (Below w.heap.size w (w7.setCells gr 0 (Af s))):=hid (Ai.below HBx.o HGR.o HBx.o.size ho9);clear hst hq9 ho9;go_wp2_with (first
    | ((with_reducible refine Ah (op:=⟨some 152,_,_,_,_,_⟩) rfl 65 _ rfl _ _ ?_ HLD.o ?_);(· rfl))
    | ((with_reducible refine Ag (op:=⟨none,.store 65 _ _,_,_,_,_⟩) rfl 65 _ _ rfl _ _ ?_ ?_ _ HST.o ?_);(· rfl);(· rfl)))
   (try simp only[Exit.inBlock,Exit.then])
   refine bodyPost_ret (results_cell_row (g:=gr) rfl _ _ 65 (Af s).toArray (0,0) _ rfl HQ9.o Tryz.underlying65 rfl (by rw[Wn,AS];exact Bf)) rfl ?_;exact⟨by rw[HEQ.o];rfl,HB9.o⟩
 | true=>
   have HS1:=HS2';have HR1:=HR2;have HL1:=HL2;have HI1:=HI2;have HC1:=HC2;have HB1:=HB2;clear HS2' HR2 HL2 HI2 HC2 HB2;go_upto_region 13 with fail
   refine Am (by kernel_rfl) [7] 10 [0,1,2,3,4,5,6] [92,93,94,95,96,97,98] #[true,true,true,true,true,true,true,false] 1 [(fun v _=>v = .pointer (some ⟨gs,2,none⟩)),(fun v _=>v = .int .u64 (s.ca:Int)),(fun v _=>v = .pointer (some ⟨gc,1,none⟩)),(fun v _=>v = .int .i64 (n:Int)),(fun v _=>v = .int .u64 (pw n:Int)),(fun v _=>v = .int .u64 ((Ab s.ca n:Nat):Int)),(fun v _=>v = .pointer (some ⟨gs,2,none⟩)),(fun _ _=>True)] (by kernel_rfl) (by kernel_rfl) (by kernel_rfl) (by kernel_rfl) (by kernel_rfl) rfl (by kernel_rfl) rfl ?_ ?_ ?_
   ·exact⟨A8 _,A8 _,A8 _,A8 _,A8 _,A8 _,A8 _,An,trivial⟩
   ·refine⟨?_,?_,?_,?_,?_,?_,?_,trivial⟩
    ·refine A7 (o:=⟨some 92,_,_,_,_,_⟩) rfl (fun r V hc hf hg hs hb hd=>?_);have x5:r (.tmp 5) = .pointer (some ⟨gs,0,none⟩):=hs 5 (by kernel_rfl);clear hs hd hg;go_simp;exact X1
    ·refine A7 (o:=⟨some 93,_,_,_,_,_⟩) rfl (fun r V hc hf hg hs hb hd=>?_);have h0:r (.tmp 92) = .pointer (some ⟨gs,2,none⟩):=hd 0 92 rfl (by kernel_rfl);clear hs hd hg;have l:=A4 (A5 hb HS1.o) 2 _ (E1 _);go_simp;exact X1
    ·refine A7 (o:=⟨some 94,_,_,_,_,_⟩) rfl (fun r V hc hf hg hs hb hd=>?_);have x7:r (.tmp 7) = .pointer (some ⟨gc,0,none⟩):=hs 7 (by kernel_rfl);clear hs hd hg;go_simp;exact X1
    ·refine A7 (o:=⟨some 95,_,_,_,_,_⟩) rfl (fun r V hc hf hg hs hb hd=>?_);have h2:r (.tmp 94) = .pointer (some ⟨gc,1,none⟩):=hd 2 94 rfl (by kernel_rfl);clear hs hd hg;have l:=A4 (A5 hb HC1.o) 1 _ rfl;go_simp;exact X1
    ·refine A7 (o:=⟨some 96,_,_,_,_,_⟩) rfl (fun r V hc hf hg hs hb hd=>?_);have h3:r (.tmp 95) = .int .i64 (n:Int):=hd 3 95 rfl (by kernel_rfl);clear hs hd hg;have h63:=HN63.o;have h0:(0:Int)≤n:=(by omega);have h1:min n 64=n:=(by omega);have h2:¬ (64:Int)≤n:=(by omega);have hs1:=Br n h63;go_simp;exact⟨VU _ _,by simp⟩
    ·refine A7 (o:=⟨some 97,_,_,_,_,_⟩) rfl (fun r V hc hf hg hs hb hd=>?_);have h1:r (.tmp 93) = .int .u64 (s.ca:Int):=hd 1 93 rfl (by kernel_rfl);have h4:r (.tmp 96) = .int .u64 (pw n:Int):=hd 4 96 rfl (by kernel_rfl);clear hs hd hg;have ho1:=Cw s.ca n HN63.o HSO.o.ca;go_simp;exact X1
    ·refine A7 (o:=⟨some 98,_,_,_,_,_⟩) rfl (fun r V hc hf hg hs hb hd=>?_);have x5:r (.tmp 5) = .pointer (some ⟨gs,0,none⟩):=hs 5 (by kernel_rfl);clear hs hd hg;go_simp;exact X1
   ·intro a V hb hx;have h0:a.eval (.tmp 92) = .pointer (some ⟨gs,2,none⟩):=hx 0 92 rfl rfl;have h1:a.eval (.tmp 93) = .int .u64 (s.ca:Int):=hx 1 93 rfl rfl;have h2:a.eval (.tmp 94) = .pointer (some ⟨gc,1,none⟩):=hx 2 94 rfl rfl;have h3:a.eval (.tmp 95) = .int .i64 (n:Int):=hx 3 95 rfl rfl;have h4:a.eval (.tmp 96) = .int .u64 (pw n:Int):=hx 4 96 rfl rfl;have h5:a.eval (.tmp 97) = .int .u64 ((Ab s.ca n:Nat):Int):=hx 5 97 rfl rfl;have h6:a.eval (.tmp 98) = .pointer (some ⟨gs,2,none⟩):=hx 6 98 rfl rfl;unfold AD;simp only[Wi,Wj,h0,h1,h2,h3,h4,h5,h6,Act.put,VW,VX,VV];clear h0 h1 h2 h3 h4 h5 h6 hx;have HSV:=hid (A5 hb HS1.o);have HRV:=hid (A5 hb HR1.o);have HLV:=hid (A5 hb HL1.o);have HIV:=hid (A5 hb HI1.o);have HCV:=hid (A5 hb HC1.o);have HBV:=hid (A6 HB1.o hb);clear hb HB1 HS1 HR1 HL1 HI1 HC1;refine wpAny_ready (rs:=[7]) (by kernel_rfl) (by simp) (AllReady.cons (o:=⟨none,_,_,_,_,_⟩) rfl (fun K hK=>?_) AllReady.nil);have c0:=A4 HSV.o 2 _ (E1 _);have f0:=Aq HSV.o 2;have hl:=Aj HSV.o;go_simp;clear c0 f0 hl;refine Bc ?_;intro V3 hV3;have ho:Ai gs V V3:=(by rw[hV3];exact(Ai.refl gs V).setCell rfl _);have HSb:Hid (V3.heap[gs]?=some (.cells (Af { s with ca:=Ab s.ca n }).toArray 65)):=hid (by rw[hV3];exact(AG HSV.o 2 _).trans (congrArg (fun C=>some (Obj.cells C 65)) (KY _ _)));have HBb:Hid (Below w.heap.size w V3):=hid (Ai.below HBV.o HG.o.1 HBV.o.size ho);have HRb:=hid (Ai.keep ho HG.o.2.1 HRV.o);have HLb:=hid (Ai.keep ho HG.o.2.2.1 HLV.o);have HIb:=hid (Ai.keep ho HG.o.2.2.2.1 HIV.o);have HCb:=hid (Ai.keep ho HG.o.2.2.2.2 HCV.o);clear hV3 ho HSV HBV HRV HLV HIV HCV;refine hK _ _ ?_;clear hK K;refine wpAny_done (by kernel_rfl) ?_ _;have d3:(0:Int)≤n:=(by omega);have d4:(n:Int)<64:=(by have:=HN64.o;omega);have c0:=A4 HSb.o (3+n) _ (Ei _ HN64.o);have f0:=Aq HSb.o (3+n);have hl:=Aj HSb.o;have m1:=A4 HCb.o 1 _ rfl;go_upto_region 15 with fail
    clear c0 f0 hl m1 d3 d4;have HBV:=HBb;have HSV:=HSb;have HRV:=HRb;have HLV:=HLb;have HIV:=HIb;have HCV:=HCb;refine BR ?_;intro V4 hV4;have ho:Ai gs V3 V4:=(by rw[hV4];exact(Ai.refl gs V3).setCell rfl _);have HSc:Hid (V4.heap[gs]?=some (.cells (Af { s with ca:=Ab s.ca n,tm:=BZ s.tm n 0 }).toArray 65)):=hid (by rw[hV4];exact(AG HSV.o (3+n) _).trans (congrArg (fun C=>some (Obj.cells C 65)) (Ff _ 0 HN64.o)));have HBc:Hid (Below w.heap.size w V4):=hid (Ai.below HBV.o HG.o.1 HBV.o.size ho);have HRc:=hid (Ai.keep ho HG.o.2.1 HRV.o);have HLc:=hid (Ai.keep ho HG.o.2.2.1 HLV.o);have HIc:=hid (Ai.keep ho HG.o.2.2.2.1 HIV.o);have HCc:=hid (Ai.keep ho HG.o.2.2.2.2 HCV.o);clear hV4 ho HSV HBV HRV HLV HIV HCV;obtain⟨SA,hSA⟩:=WY L.sg.a;have hl3:=HLc.o;have hrow:=HSGR.o;rw[hSA] at hl3 hrow ⊢;rcases hrow with hnil | ⟨sb,so,hsb,hsc⟩
    ·have h9:=HSP.o;rw[hnil] at h9;cases h9
    subst hsb;have HLc:=hid hl3;have HS1C:Hid (w.cell? ⟨sb,so+sk*2+1,none⟩=some (.int .i64 (q:Int))):=hid (hsc sk _ HSP.o 1 _ rfl);have sk0:(0:Int)≤sk:=(by omega);have sk1:(sk:Int)<n3:=(by have:=HSKL.o;have:=HN3.o;omega);have d1:(0:Int)≤n:=(by omega);have d2:(n:Int)<n4:=(by have h:=(We.1 HXR.o).1;have:=HN4.o;omega);clear hSA hl3 hsc;have KCLW:Hid (∀ w',Below V4.heap.size V4 w'→Calls Tryz.prog 75 #[.agg #[.int .u64 (oc:Int),.int .u32 (no:Int),.int .u32 (re:Int),.slice ia il ic],.int .i64 (q:Int)] w' fun e w''=>e = .returned (.bool (!bq))∧Below V4.heap.size V4 w''):=hid (fun w' hw'=>(KCL.o w').mono (fun _ _ h=>⟨h.1,A6 hw' h.2⟩));refine Ad (by kernel_rfl) ?_ ?_
    ·kernel_rfl
    repeat first
     | go_big_quiet_skip
     | (go_big_quiet_want
        (first
          | ((with_reducible refine Ae (o:=⟨some 103,_,_,_,_,_⟩) 35 _ rfl (.pointer (some ⟨gi,0,none⟩)) (.agg #[.int .u64 (oc:Int),.int .u32 (no:Int),.int .u32 (re:Int),.slice ia il ic]) ?_ ?_ ?_);(· rfl);(· intro w' hw';have l0:=A4 (A5 hw' HIc.o) 0 _ rfl;have l1:=A4 (A5 hw' HIc.o) 1 _ rfl;have l2:=A4 (A5 hw' HIc.o) 2 _ rfl;have l3:=A4 (A5 hw' HIc.o) 3 _ rfl;go_simp))
          | ((with_reducible refine Ae (o:=⟨some 105,_,_,_,_,_⟩) 24 _ rfl (.pointer (some ⟨gl,2,none⟩)) (.slice (some ⟨sb,so,none⟩) n3 L.sg.c) ?_ ?_ ?_);(· rfl);(· intro w' hw';have l:=A4 (A5 hw' HLc.o) 2 _ rfl;go_simp))
          | ((with_reducible refine Ae (o:=⟨some 107,_,_,_,_,_⟩) 25 _ rfl (.pointer (some ⟨gl,3,none⟩)) (.slice (some ⟨xb,off,none⟩) n4 L.rt.c) ?_ ?_ ?_);(· rfl);(· intro w' hw';have l:=A4 (A5 hw' HLc.o) 3 _ rfl;go_simp))
          | ((with_reducible refine Ae (o:=⟨some 109,_,_,_,_,_⟩) 3 _ rfl (.pointer (some ⟨gc,1,none⟩)) (.int .i64 (n:Int)) ?_ ?_ ?_);(· rfl);(· intro w' hw';have l:=A4 (A5 hw' HCc.o) 1 _ rfl;go_simp))
          | ((with_reducible refine Ae (o:=⟨some 112,_,_,_,_,_⟩) 3 _ rfl (.pointer (some ⟨xb,off+n*6+1,none⟩)) (.int .i64 (sk:Int)) ?_ ?_ ?_);(· rfl);(· intro w' hw';have z1:=VY (A6 HBc.o hw') HZX.o.2.1;rw[HSK.o] at z1;go_simp))
          | ((with_reducible refine Ae (o:=⟨some 115,_,_,_,_,_⟩) 3 _ rfl (.pointer (some ⟨sb,so+sk*2+1,none⟩)) (.int .i64 (q:Int)) ?_ ?_ ?_);(· rfl);(· intro w' hw';have y1:=VY (A6 HBc.o hw') HS1C.o;go_simp)))
        simp only[Act.put,VW,VX,VV];go_big_quiet_on)
     | (go_big_quiet_want;go_big_quiet_op;go_big_quiet_on)
     | (with_reducible apply wpQuiet_step
        intro K hK;go_simp;first
         | (refine hK _ ?_;clear hK K)
         | (apply Exists.intro
            refine⟨fun w' hw'=>?_,hK _ ?_⟩
            ·
             (first
              | with_reducible exact KCLW.o _ hw'
              | (skip
                 go_simp;first | done | with_reducible exact rfl | with_reducible exact⟨rfl,rfl⟩ | with_reducible exact KCLW.o _ hw'))
            clear hK K))
    refine wpQuiet_nil ?_;intro w7 hw7;have HB7:=hid (A6 HBc.o hw7);have HSd:=hid (A5 hw7 HSc.o);have HRd:=hid (A5 hw7 HRc.o);have HLd:=hid (A5 hw7 HLc.o);have HId:=hid (A5 hw7 HIc.o);have HCd:=hid (A5 hw7 HCc.o);have HBd:=hid (A6 HBc.o hw7);clear hw7;cases bq with
    | false=>
      go_upto_region 19 with fail
      have HLD:=hid (Au HSd.o);obtain⟨hst,hq9,ho9⟩:=AH (s':={ s with ca:=Ab s.ca n,tm:=BZ s.tm n 0 }) HRd.o;have HST:=hid hst;have HQ9:=hid hq9;have HB9:Hid (Below w.heap.size w (w7.setCells gr 0 (Af { s with ca:=Ab s.ca n,tm:=BZ s.tm n 0 }))):=hid (Ai.below HBd.o HGR.o HBd.o.size ho9);clear hst hq9 ho9;go_wp2_with (first
       | ((with_reducible refine Ah (op:=⟨some 152,_,_,_,_,_⟩) rfl 65 _ rfl _ _ ?_ HLD.o ?_);(· rfl))
       | ((with_reducible refine Ag (op:=⟨none,.store 65 _ _,_,_,_,_⟩) rfl 65 _ _ rfl _ _ ?_ ?_ _ HST.o ?_);(· rfl);(· rfl)))
      (try simp only[Exit.inBlock,Exit.then])
      refine bodyPost_ret (results_cell_row (g:=gr) rfl _ _ 65 (Af { s with ca:=Ab s.ca n,tm:=BZ s.tm n 0 }).toArray (0,0) _ rfl HQ9.o Tryz.underlying65 rfl (by rw[Wn,AS];exact Bf)) rfl ?_;exact⟨by rw[HEQ.o];rfl,HB9.o⟩
    | true=>
      have d3:(0:Int)≤n:=(by omega);have d4:(n:Int)<64:=(by have:=HN64.o;omega);have c0:=A4 HSd.o (3+n) _ (Ei _ HN64.o);have f0:=Aq HSd.o (3+n);have hl:=Aj HSd.o;have m1:=A4 HCd.o 1 _ rfl;go_upto_region 19 with fail
      clear c0 f0 hl m1 d3 d4;have HBV:=HBd;have HSV:=HSd;have HRV:=HRd;have HLV:=HLd;have HIV:=HId;have HCV:=HCd;refine BR ?_;intro V5 hV5;have ho:Ai gs w7 V5:=(by rw[hV5];exact(Ai.refl gs w7).setCell rfl _);have HSe:Hid (V5.heap[gs]?=some (.cells (Af { s with ca:=Ab s.ca n,tm:=BZ (BZ s.tm n 0) n 20 }).toArray 65)):=hid (by rw[hV5];exact(AG HSV.o (3+n) _).trans (congrArg (fun C=>some (Obj.cells C 65)) (Ff _ 20 HN64.o)));have HBe:Hid (Below w.heap.size w V5):=hid (Ai.below HBV.o HG.o.1 HBV.o.size ho);have HRe:=hid (Ai.keep ho HG.o.2.1 HRV.o);have HLe:=hid (Ai.keep ho HG.o.2.2.1 HLV.o);have HIe:=hid (Ai.keep ho HG.o.2.2.2.1 HIV.o);have HCe:=hid (Ai.keep ho HG.o.2.2.2.2 HCV.o);clear hV5 ho HSV HBV HRV HLV HIV HCV;have HLD:=hid (Au HSe.o);obtain⟨hst,hq9,ho9⟩:=AH (s':={ s with ca:=Ab s.ca n,tm:=BZ (BZ s.tm n 0) n 20 }) HRe.o;have HST:=hid hst;have HQ9:=hid hq9;have HB9:Hid (Below w.heap.size w (V5.setCells gr 0 (Af { s with ca:=Ab s.ca n,tm:=BZ (BZ s.tm n 0) n 20 }))):=hid (Ai.below HBe.o HGR.o HBe.o.size ho9);clear hst hq9 ho9;go_wp2_with (first
       | ((with_reducible refine Ah (op:=⟨some 152,_,_,_,_,_⟩) rfl 65 _ rfl _ _ ?_ HLD.o ?_);(· rfl))
       | ((with_reducible refine Ag (op:=⟨none,.store 65 _ _,_,_,_,_⟩) rfl 65 _ _ rfl _ _ ?_ ?_ _ HST.o ?_);(· rfl);(· rfl)))
      (try simp only[Exit.inBlock,Exit.then])
      refine bodyPost_ret (results_cell_row (g:=gr) rfl _ _ 65 (Af { s with ca:=Ab s.ca n,tm:=BZ (BZ s.tm n 0) n 20 }).toArray (0,0) _ rfl HQ9.o Tryz.underlying65 rfl (by rw[Wn,AS];exact Bf)) rfl ?_;exact⟨by rw[HEQ.o,Sp];rfl,HB9.o⟩
end Go.Proofs.YtpohoannggdbjaaGreat
