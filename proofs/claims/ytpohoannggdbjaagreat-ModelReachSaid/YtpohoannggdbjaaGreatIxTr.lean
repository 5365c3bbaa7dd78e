/- Layer 10: the document's route. -/
import Derived.Test.YtpohoannggdbjaaGreatIxT
set_option maxRecDepth 100000
set_option maxHeartbeats 200000000
namespace Go.Proofs.YtpohoannggdbjaaGreat
open Lib (hid)
open Go.RowKit
attribute [local irreducible] Sl.v Aa pw Ab Aw C8 Af BC CD Bi Bg B9 CB BQ AU Bp BB BG Bh Bd BP Bo BL BF BN AI AY AV Be Bw Bq C4 Mc.tb BZ AX Ap B5
attribute [local irreducible] AW CY Bt BO Rt.tr Rt.nd AC C9 At
attribute [local irreducible] E9
theorem Ni(L:AL)(s:St)(oc no re:Nat)(ia:Option Addr)(il ic:Nat)(n u:Nat)(x:Rt)(w:World)(hL:AO w L)(hc:(Ap L).1=0)(hs:s.ok)(ho:oc<18446744073709551616)(hu:u<18446744073709551616)(hx:L.rt.l[n]?=some x) :
 Calls Tryz.prog 44 #[.agg #[L.se.v,L.po.v,L.sg.v,L.rt.v],.agg (Af s).toArray,.agg #[.int .u64 (oc:Int),.int .u32 (no:Int),.int .u32 (re:Int),.slice ia il ic],.int .i64 (n:Int),.int .u64 (u:Int)] w fun e w'=>e = .returned (.agg (Af (BF s oc u n (CY L n x))).toArray)∧Below w.heap.size w w':=by
 have HMAY:Hid (AX L=true):=hid (B6 hc);have HS4:Hid (L.rt.l.length≤64):=hid (AE (B6 hc)).2.2.2;have HCK:=hid hc;have h63:n≤63:=by have h1:=(We.1 hx).1;have:=HS4.o;omega
 have hxm:=Wf hx;have hf:=U9 (Hs HCK.o x hxm);obtain⟨q0,qs,hpa⟩:∃ a l,x.pa.l=a :: l:=by
  cases h:x.pa.l with
  | nil=>exact absurd h hf
  | cons a l=>exact⟨a,l,rfl⟩
 have hq0:0≤q0∧q0≤63:=by
  have h:=NY HMAY.o x hxm q0 (by unfold Rt.tr;rw[hpa];exact List.mem_append_left _ WM);have:=(AE HMAY.o).1;omega
 obtain⟨q,rfl⟩:∃ q:Nat,q0=q:=⟨q0.toNat,by omega⟩;have HFI:Hid ((CY L n x).fi=(q:Int)):=hid (by rw[TZ,hpa];rfl);obtain⟨bu,hbu⟩:=WY (Aa u n);obtain⟨bf,hbf⟩:=WY (Bi oc (CY L n x));obtain⟨bi,hbi⟩:=WY (Aa oc q);obtain⟨bc,hbc⟩:=WY (Aa s.ca n);have KHU:Hid (∀ V,Calls Tryz.prog 43 #[.int .u64 (u:Int),.int .i64 (n:Int)] V fun e w'=>e = .returned (.bool bu)∧Below V.heap.size V w'):=hid (fun V=>CP bu u n V h63 hu hbu);have KHC:Hid (∀ V,Calls Tryz.prog 43 #[.int .u64 (s.ca:Int),.int .i64 (n:Int)] V fun e w'=>e = .returned (.bool bc)∧Below V.heap.size V w'):=hid (fun V=>CP bc s.ca n V h63 hs.ca hbc);have HU:=hid hbu;have HFR:=hid hbf;have HF1:Hid (Aa oc (CY L n x).fi.toNat=bi):=hid (by rw[HFI.o,Int.toNat_natCast];exact hbi);have HCA:=hid hbc;have HN63:=hid h63;have HN64:Hid (n<64):=hid (by omega);have HSO:=hid hs;have HOC:=hid ho;obtain⟨n1,hn1⟩:=WY L.se.l.length;obtain⟨n2,hn2⟩:=WY L.po.l.length;obtain⟨n3,hn3⟩:=WY L.sg.l.length;obtain⟨n4,hn4⟩:=WY L.rt.l.length;have HLW:=hid hL;have HN1:=hid hn1;have HN2:=hid hn2;have HN3:=hid hn3;have HN4:=hid hn4;have HNLT:Hid (n<n4):=hid (by rw[← hn4];exact(We.1 hx).1);rw[Ak hn1,Ak hn2,Ak hn3,Ak hn4];have HXR:=hid hx;have hxa:=hL.rn x hxm;clear hn1 hn2 hn3 hn4 hL hc hs ho hu hbu hbc hf h63;obtain⟨p1,hp1⟩:=WY x.pa.l.length;obtain⟨p2,hp2⟩:=WY x.po.l.length;obtain⟨p3,hp3⟩:=WY x.ov.l.length;obtain⟨p4,hp4⟩:=WY x.fl.l.length;have HPL:Hid (0<p1):=hid (by rw[← hp1,hpa];simp);go_enter Tryz.func44,Tryz.ntmps44;go_upto_region 1 with fail
 rw[Bz];refine Ao (os:=[.cells #[.slice L.se.a n1 L.se.c,.slice L.po.a n2 L.po.c,.slice L.sg.a n3 L.sg.c,.slice L.rt.a n4 L.rt.c] 27,.cells (Af s).toArray 65,.cells #[.int .u64 (oc:Int),.int .u32 (no:Int),.int .u32 (re:Int),.slice ia il ic] 35,.cells (Af zS).toArray 65]) (w0:=w) rfl ?_;intro W hat hbw;obtain⟨gl,hgl⟩:=X0 w.heap.size;have q0:=hat 0 _ rfl;obtain⟨gs,hgs⟩:=X0 (gl+1);have q1:=hat 1 _ rfl;obtain⟨gi,hgi⟩:=X0 (gs+1);have q2:=hat 2 _ rfl;obtain⟨gr,hgr⟩:=X0 (gi+1);have q3:=hat 3 _ rfl;rw[Wa,← hgl] at q0;rw[← hgl,← hgs] at q1;rw[← hgl,show gl+2=gi by omega] at q2;rw[← hgl,show gl+3=gr by omega] at q3;rw[← hgl,← hgs,← hgi,← hgr];have HQl:=hid q0;have HQs:=hid q1;have HQi:=hid q2;have HQr:=hid q3;have HB0:=hid hbw;have HG:Hid (w.heap.size≤gs∧gr≠gs):=hid (by omega);have HGR:Hid (w.heap.size≤gr):=hid (by omega);clear hat hbw q0 q1 q2 q3 hgl hgs hgi hgr;have HBX:=HB0;have KFR:Hid (∀ V,Below W.heap.size W V→Calls Tryz.prog 78 #[.agg #[.string x.nm,.int .i64 x.sg,.slice x.pa.a p1 x.pa.c,.slice x.po.a p2 x.po.c,.slice x.ov.a p3 x.ov.c,.slice x.fl.a p4 x.fl.c],.agg #[.int .u64 (oc:Int),.int .u32 (no:Int),.int .u32 (re:Int),.slice ia il ic]] V fun e w'=>e = .returned (.bool bf)∧Below V.heap.size V w'):=hid (fun V hV=>by
  have ok:=Bv HMAY.o x hxm;have h:=GG (!bf) oc no re ia il ic x V ((HLW.o.rn x hxm).below (A6 HBX.o hV)) (by have:=ok.pa;have:=ok.ov;omega) (fun k hk=>by have h:=NY HMAY.o x hxm k hk;have:=(AE HMAY.o).1;omega) HOC.o (by rw[Jb] at hbf;rw[← hbf,Bool.not_not]);rw[Ak hp1,Ak hp2,Ak hp3,Ak hp4,Bool.not_not] at h;exact h)
 rcases HLW.o.rt.row with hnil | ⟨xb,off,hxb,hc0⟩
 ·rw[hnil] at hx;cases hx
 have hc:=fun i c hi j v hv=>VY HB0.o (hc0 i c hi j v hv)
 have hyx:=hx;have z0:=hc n _ hyx 0 _ rfl;have z1:=hc n _ hyx 1 _ rfl;have z2:=hc n _ hyx 2 _ rfl;have z3:=hc n _ hyx 3 _ rfl;have z4:=hc n _ hyx 4 _ rfl;have z5:=hc n _ hyx 5 _ rfl;rw[Wa] at z0;rw[Ak hp1] at z2;rw[Ak hp2] at z3;rw[Ak hp3] at z4;rw[Ak hp4] at z5;have KCL0:Hid (∀ V,Calls Tryz.prog 75 #[.agg #[.int .u64 (oc:Int),.int .u32 (no:Int),.int .u32 (re:Int),.slice ia il ic],.int .i64 (q:Int)] V fun e w''=>e = .returned (.bool (!bi))∧Below V.heap.size V w''):=hid (fun V=>DR bi oc no re ia il ic q V (by omega) HOC.o hbi);obtain⟨PA,hPA⟩:=WY x.pa.a;have hr1:=hxa.pa.row;rw[hPA,hpa] at hr1;rw[hPA] at z2 KFR;rcases hr1 with hnil | ⟨pb,po,hpb,hpc⟩
 ·cases hnil
 subst hpb;have HP0:Hid (W.cell? ⟨pb,po,none⟩=some (.int .i64 (q:Int))):=hid (by have:=VY HB0.o (hpc 0 (q:Int) rfl 0 _ rfl);simpa using this);have hl:=A4 HQl.o 3 _ rfl;rw[hxb] at hl;have d1:(0:Int)≤n:=by omega
 have d2:(n:Int)<n4:=by have:=HNLT.o;omega
 clear hx hyx hxa hc hc0 hxb hpc hPA hpa hq0 hbf hbi hp1 hp2 hp3 hp4 hxm;go_upto_region 2 with fail
 have hbn:=Ac W (.cells #[.string x.nm,.int .i64 x.sg,.slice (some ⟨pb,po,none⟩) p1 x.pa.c,.slice x.po.a p2 x.po.c,.slice x.ov.a p3 x.ov.c,.slice x.fl.a p4 x.fl.c] 52);have hqn:=Al W (.cells #[.string x.nm,.int .i64 x.sg,.slice (some ⟨pb,po,none⟩) p1 x.pa.c,.slice x.po.a p2 x.po.c,.slice x.ov.a p3 x.ov.c,.slice x.fl.a p4 x.fl.c] 52) (VU _ _);obtain⟨V,hV⟩:=X0 (W.alloc (.cells #[.string x.nm,.int .i64 x.sg,.slice (some ⟨pb,po,none⟩) p1 x.pa.c,.slice x.po.a p2 x.po.c,.slice x.ov.a p3 x.ov.c,.slice x.fl.a p4 x.fl.c] 52));rw[← hV] at hbn hqn ⊢;obtain⟨gx,hgx⟩:=X0 W.heap.size;rw[← hgx] at hqn ⊢;have HBV:=hid (A6 HB0.o hbn);have HBW:=hid hbn;have HQX:=hid hqn;have HS1:=hid (A5 hbn HQs.o);have HI1:=hid (A5 hbn HQi.o);have HR1:=hid (A5 hbn HQr.o);clear hbn hqn hV hgx z0 z1 z2 z3 z4 z5 hl d1 d2;go_wp2_with fail;refine(KHU.o _).mono ?_;rintro e w1 ⟨rfl,hb1⟩;have HB1:=hid (A6 HBV.o hb1);have HBW1:=hid (A6 HBW.o hb1);have HQX1:=hid (A5 hb1 HQX.o);have HS2:=hid (A5 hb1 HS1.o);have HI2:=hid (A5 hb1 HI1.o);have HR2:=hid (A5 hb1 HR1.o);clear hb1 HQX HS1 HI1 HR1 KHU;cases bu with
 | true=>
   have l0:=A4 HQX1.o 0 _ rfl;have l1:=A4 HQX1.o 1 _ rfl;have l2:=A4 HQX1.o 2 _ rfl;have l3:=A4 HQX1.o 3 _ rfl;have l4:=A4 HQX1.o 4 _ rfl;have l5:=A4 HQX1.o 5 _ rfl;have m0:=A4 HI2.o 0 _ rfl;have m1:=A4 HI2.o 1 _ rfl;have m2:=A4 HI2.o 2 _ rfl;have m3:=A4 HI2.o 3 _ rfl;go_wp2_with fail;refine(KFR.o _ HBW1.o).mono ?_;rintro e w2 ⟨rfl,hb2⟩;have HB2:=hid (A6 HB1.o hb2);have HS3:=hid (A5 hb2 HS2.o);have HR3:=hid (A5 hb2 HR2.o);clear hb2 l0 l1 l2 l3 l4 l5 m0 m1 m2 m3;cases bf with
   | true=>
     go_upto_region 4 with fail
     have HLD:=hid (Au HS3.o);go_wp2_with (first
      | ((with_reducible refine Ah (op:=⟨some 24,_,_,_,_,_⟩) rfl 65 _ rfl _ _ ?_ HLD.o ?_);(· rfl)))
     refine(Ma s n _ HN63.o HSO.o).mono ?_;rintro e wz ⟨rfl,hbz⟩;have HRZ:=hid (A5 hbz HR3.o);have HBZ:=hid (A6 HB2.o hbz);clear hbz;obtain⟨hst,hq9,ho9⟩:=AH (s':=BL s n) HRZ.o;have HST:=hid hst;have HQ9:=hid hq9;have HB9:Hid (Below w.heap.size w (wz.setCells gr 0 (Af (BL s n)))):=hid (Ai.below HBZ.o HGR.o HBZ.o.size ho9);clear hst hq9 ho9;go_wp2_with (first
      | ((with_reducible refine Ag (op:=⟨none,.store 65 _ _,_,_,_,_⟩) rfl 65 _ _ rfl _ _ ?_ ?_ _ HST.o ?_);(· rfl);(· rfl)))
     (try simp only[Exit.inBlock,Exit.then])
     refine bodyPost_ret (results_cell_row (g:=gr) rfl _ _ 65 (Af (BL s n)).toArray (0,0) _ rfl HQ9.o Tryz.underlying65 rfl (by rw[Wn,AS];exact Bf)) rfl ?_;rw[ME HU.o,HFR.o,if_pos rfl];exact⟨rfl,HB9.o⟩
   | false=>
     go_upto_region 11 with fail
     have HLD:=hid (Au HS3.o);obtain⟨hst,hq9,ho9⟩:=AH (s':=s) HR3.o;have HST:=hid hst;have HQ9:=hid hq9;have HB9:Hid (Below w.heap.size w (w2.setCells gr 0 (Af s))):=hid (Ai.below HB2.o HGR.o HB2.o.size ho9);clear hst hq9 ho9;go_wp2_with (first
      | ((with_reducible refine Ah (op:=⟨some 73,_,_,_,_,_⟩) rfl 65 _ rfl _ _ ?_ HLD.o ?_);(· rfl))
      | ((with_reducible refine Ag (op:=⟨none,.store 65 _ _,_,_,_,_⟩) rfl 65 _ _ rfl _ _ ?_ ?_ _ HST.o ?_);(· rfl);(· rfl)))
     (try simp only[Exit.inBlock,Exit.then])
     refine bodyPost_ret (results_cell_row (g:=gr) rfl _ _ 65 (Af s).toArray (0,0) _ rfl HQ9.o Tryz.underlying65 rfl (by rw[Wn,AS];exact Bf)) rfl ?_;exact⟨by rw[ME HU.o,HFR.o];rfl,HB9.o⟩
 | false=>
   have KCL:Hid (∀ w',Below w1.heap.size w1 w'→Calls Tryz.prog 75 #[.agg #[.int .u64 (oc:Int),.int .u32 (no:Int),.int .u32 (re:Int),.slice ia il ic],.int .i64 (q:Int)] w' fun e w''=>e = .returned (.bool (!bi))∧Below w1.heap.size w1 w''):=hid (fun w' hw'=>(KCL0.o w').mono (fun _ _ h=>⟨h.1,A6 hw' h.2⟩));go_upto_region 5 with fail
   refine Ad (by kernel_rfl) ?_ ?_
   ·kernel_rfl
   repeat first
    | go_big_quiet_skip
    | (go_big_quiet_want;go_big_quiet_op;go_big_quiet_on)
    | (with_reducible apply wpQuiet_step
       intro K hK;go_simp;first
        | (refine hK _ ?_;clear hK K)
        | (apply Exists.intro
           refine⟨fun w' hw'=>?_,hK _ ?_⟩
           ·
            (first
             | with_reducible exact KCL.o _ hw'
             | (have g0:=A4 (A5 hw' HI2.o) 0 _ rfl
                have g1:=A4 (A5 hw' HI2.o) 1 _ rfl;have g2:=A4 (A5 hw' HI2.o) 2 _ rfl;have g3:=A4 (A5 hw' HI2.o) 3 _ rfl;go_simp;first | done | with_reducible exact rfl | with_reducible exact⟨rfl,rfl⟩ | with_reducible exact KCL.o _ hw')
             | (have g0:=A4 (A5 hw' HQX1.o) 0 _ rfl
                have g1:=A4 (A5 hw' HQX1.o) 1 _ rfl;have g2:=A4 (A5 hw' HQX1.o) 2 _ rfl;have g3:=A4 (A5 hw' HQX1.o) 3 _ rfl;have g4:=A4 (A5 hw' HQX1.o) 4 _ rfl;have g5:=A4 (A5 hw' HQX1.o) 5 _ rfl;go_simp;first | done | with_reducible exact rfl | with_reducible exact⟨rfl,rfl⟩ | with_reducible exact KCL.o _ hw')
             | (have t0:=VY (A6 HBW1.o hw') HP0.o
                go_simp;first | done | with_reducible exact rfl | with_reducible exact⟨rfl,rfl⟩ | with_reducible exact KCL.o _ hw')
             | (have hpl:=HPL.o
                go_simp;first | done | with_reducible exact rfl | with_reducible exact⟨rfl,rfl⟩ | with_reducible exact KCL.o _ hw'))
           clear hK K))
   refine wpQuiet_nil ?_;intro w7 hw7;have HB7:=hid (A6 HB1.o hw7);have HS4:=hid (A5 hw7 HS2.o);have HR4:=hid (A5 hw7 HR2.o);have HI4:=hid (A5 hw7 HI2.o);have HQ4:=hid (A5 hw7 HQX1.o);have HBW7:=hid (A6 HBW1.o hw7);clear hw7;clear KCL KCL0 HS2 HR2 HI2 HQX1;cases bi with
   | true=>
     have HS5:=HS4;have HB5:=HB7;have HR5:=HR4;go_upto_region 6 with fail
     refine Am (by kernel_rfl) [6] 9 [0,1,2,3,4,5] [35,36,37,38,39,40] #[true,true,true,true,true,true,false] 1 [(fun v _=>v = .pointer (some ⟨gs,1,none⟩)),(fun v _=>v = .int .u64 (s.us:Int)),(fun v _=>v = .int .i64 (n:Int)),(fun v _=>v = .int .u64 (pw n:Int)),(fun v _=>v = .int .u64 ((Ab s.us n:Nat):Int)),(fun v _=>v = .pointer (some ⟨gs,1,none⟩)),(fun _ _=>True)] (by kernel_rfl) (by kernel_rfl) (by kernel_rfl) (by kernel_rfl) (by kernel_rfl) rfl (by kernel_rfl) rfl ?_ ?_ ?_
     ·exact⟨A8 _,A8 _,A8 _,A8 _,A8 _,A8 _,An,trivial⟩
     ·refine⟨?_,?_,?_,?_,?_,?_,trivial⟩
      ·refine A7 (o:=⟨some 35,_,_,_,_,_⟩) rfl (fun r V hc hf hg hs hb hd=>?_);have x6:r (.tmp 6) = .pointer (some ⟨gs,0,none⟩):=hs 6 (by kernel_rfl);clear hs hd hg;go_simp;exact X1
      ·refine A7 (o:=⟨some 36,_,_,_,_,_⟩) rfl (fun r V hc hf hg hs hb hd=>?_);have h0:r (.tmp 35) = .pointer (some ⟨gs,1,none⟩):=hd 0 35 rfl (by kernel_rfl);clear hs hd hg;have l:=A4 (A5 hb HS5.o) 1 _ (FE _);go_simp;exact X1
      ·refine A7 (o:=⟨some 37,_,_,_,_,_⟩) rfl (fun r V hc hf hg hs hb hd=>?_);have x3:r (.tmp 3) = .int .i64 (n:Int):=hs 3 (by kernel_rfl);clear hs hd hg;go_simp;exact X1
      ·refine A7 (o:=⟨some 38,_,_,_,_,_⟩) rfl (fun r V hc hf hg hs hb hd=>?_);have h2:r (.tmp 37) = .int .i64 (n:Int):=hd 2 37 rfl (by kernel_rfl);clear hs hd hg;have h63:=HN63.o;have h0:(0:Int)≤n:=(by omega);have h1:min n 64=n:=(by omega);have h2:¬ (64:Int)≤n:=(by omega);have hs1:=Br n h63;go_simp;exact⟨VU _ _,by simp⟩
      ·refine A7 (o:=⟨some 39,_,_,_,_,_⟩) rfl (fun r V hc hf hg hs hb hd=>?_);have h1:r (.tmp 36) = .int .u64 (s.us:Int):=hd 1 36 rfl (by kernel_rfl);have h3:r (.tmp 38) = .int .u64 (pw n:Int):=hd 3 38 rfl (by kernel_rfl);clear hs hd hg;have ho1:=Cw s.us n HN63.o HSO.o.us;go_simp;exact X1
      ·refine A7 (o:=⟨some 40,_,_,_,_,_⟩) rfl (fun r V hc hf hg hs hb hd=>?_);have x6:r (.tmp 6) = .pointer (some ⟨gs,0,none⟩):=hs 6 (by kernel_rfl);clear hs hd hg;go_simp;exact X1
     ·intro a V hb hx;have h0:a.eval (.tmp 35) = .pointer (some ⟨gs,1,none⟩):=hx 0 35 rfl rfl;have h1:a.eval (.tmp 36) = .int .u64 (s.us:Int):=hx 1 36 rfl rfl;have h2:a.eval (.tmp 37) = .int .i64 (n:Int):=hx 2 37 rfl rfl;have h3:a.eval (.tmp 38) = .int .u64 (pw n:Int):=hx 3 38 rfl rfl;have h4:a.eval (.tmp 39) = .int .u64 ((Ab s.us n:Nat):Int):=hx 4 39 rfl rfl;have h5:a.eval (.tmp 40) = .pointer (some ⟨gs,1,none⟩):=hx 5 40 rfl rfl;unfold AD;simp only[Wi,Wj,h0,h1,h2,h3,h4,h5,Act.put,VW,VX,VV];clear h0 h1 h2 h3 h4 h5 hx;have HSV:=hid (A5 hb HS5.o);have HBV:=hid (A6 HB5.o hb);have HRV:=hid (A5 hb HR5.o);clear hb HS5 HB5 HR5;refine wpAny_ready (rs:=[6]) (by kernel_rfl) (by simp) (AllReady.cons (o:=⟨none,_,_,_,_,_⟩) rfl (fun K hK=>?_) AllReady.nil);have c0:=A4 HSV.o 1 _ (FE _);have f0:=Aq HSV.o 1;have hl:=Aj HSV.o;go_simp;clear c0 f0 hl;refine Bc ?_;intro VZ hVZ;have ho:Ai gs V VZ:=(by rw[hVZ];exact(Ai.refl gs V).setCell rfl _);have HSz:Hid (VZ.heap[gs]?=some (.cells (Af { s with us:=Ab s.us n }).toArray 65)):=hid (by rw[hVZ];exact(AG HSV.o 1 _).trans (congrArg (fun C=>some (Obj.cells C 65)) (MR _ _)));have HBz:Hid (Below w.heap.size w VZ):=hid (Ai.below HBV.o HG.o.1 HBV.o.size ho);have HRz:=hid (Ai.keep ho HG.o.2 HRV.o);clear hVZ ho HSV HBV HRV;refine hK _ _ ?_;clear hK K;refine wpAny_done (by kernel_rfl) ?_ _;obtain⟨W8,hW8⟩:∃ W',W'=VZ:=⟨_,rfl⟩;rw[← hW8] at HSz HBz HRz ⊢;clear hW8;have HLD:=hid (Au HSz.o);obtain⟨hst,hq9,ho9⟩:=AH (s':={ s with us:=Ab s.us n }) HRz.o;have HST:=hid hst;have HQ9:=hid hq9;have HB9:Hid (Below w.heap.size w (W8.setCells gr 0 (Af { s with us:=Ab s.us n }))):=hid (Ai.below HBz.o HGR.o HBz.o.size ho9);clear hst hq9 ho9;go_wp2_with (first
       | ((with_reducible refine Ah (op:=⟨some 73,_,_,_,_,_⟩) rfl 65 _ rfl _ _ ?_ HLD.o ?_);(· rfl))
       | ((with_reducible refine Ag (op:=⟨none,.store 65 _ _,_,_,_,_⟩) rfl 65 _ _ rfl _ _ ?_ ?_ _ HST.o ?_);(· rfl);(· rfl)))
      (try simp only[Exit.inBlock,Exit.then])
      refine bodyPost_ret (results_cell_row (g:=gr) rfl _ _ 65 (Af { s with us:=Ab s.us n }).toArray (0,0) _ rfl HQ9.o Tryz.underlying65 rfl (by rw[Wn,AS];exact Bf)) rfl ?_;exact⟨by rw[SS HU.o HF1.o],HB9.o⟩
   | false=>
     have s2:=A4 HS4.o 2 _ (E1 s);have KHC2:=KHC;go_wp2_with fail;refine(KHC.o _).mono ?_;rintro e w2 ⟨rfl,hb2⟩;have HB2:=hid (A6 HB7.o hb2);have HBW2:=hid (A6 HBW7.o hb2);have HS6:=hid (A5 hb2 HS4.o);have HR6:=hid (A5 hb2 HR4.o);have HI6:=hid (A5 hb2 HI4.o);have HQ6:=hid (A5 hb2 HQ4.o);clear hb2 s2 HS4 HR4 HI4 HQ4 KHC;cases bc with
     | false=>
       have s2:=A4 HS6.o 2 _ (E1 s);go_wp2_with fail;refine(KHC2.o _).mono ?_;rintro e w3 ⟨rfl,hb3⟩;have HB3:=hid (A6 HB2.o hb3);have HS7:=hid (A5 hb3 HS6.o);have HR7:=hid (A5 hb3 HR6.o);clear hb3 s2;go_upto_region 11 with fail
       have HLD:=hid (Au HS7.o);obtain⟨hst,hq9,ho9⟩:=AH (s':=s) HR7.o;have HST:=hid hst;have HQ9:=hid hq9;have HB9:Hid (Below w.heap.size w (w3.setCells gr 0 (Af s))):=hid (Ai.below HB3.o HGR.o HB3.o.size ho9);clear hst hq9 ho9;go_wp2_with (first
        | ((with_reducible refine Ah (op:=⟨some 73,_,_,_,_,_⟩) rfl 65 _ rfl _ _ ?_ HLD.o ?_);(· rfl))
        | ((with_reducible refine Ag (op:=⟨none,.store 65 _ _,_,_,_,_⟩) rfl 65 _ _ rfl _ _ ?_ ?_ _ HST.o ?_);(· rfl);(· rfl)))
       (try simp only[Exit.inBlock,Exit.then])
       refine bodyPost_ret (results_cell_row (g:=gr) rfl _ _ 65 (Af s).toArray (0,0) _ rfl HQ9.o Tryz.underlying65 rfl (by rw[Wn,AS];exact Bf)) rfl ?_;exact⟨by rw[ST HU.o HF1.o HCA.o],HB9.o⟩
     | true=>
       obtain⟨t,ht⟩:=WY (s.tm n);have q4:=A4 HS6.o (3+n) _ (Ei _ HN64.o);rw[ht] at q4;have d1:(0:Int)≤n:=(by omega);have d3:(n:Int)<64:=(by have:=HN64.o;omega);have htb:t≤255:=(by rw[← ht];exact HSO.o.tm n);by_cases h0:0<t
       ·have d5:(0:Int)<(t:Int):=(by omega);have hsub:IntKind.u8.wrap ((t:Int) - 1)=((t - 1:Nat):Int):=(by rw[IntKind.wrap_u8];omega);have HEQ:Hid (BF s oc u n (CY L n x)={ s with tm:=BZ s.tm n (t - 1) }):=hid (by rw[SU HU.o HF1.o HCA.o (by rw[ht];exact h0),ht]);have HT4:=hid ht;have hs4:=HS6.o;have f3:=Aq hs4 (3+n);have hl:=Aj hs4;clear ht h0 htb;go_upto_region 11 with fail
        clear q4 f3 hl d1 d3 d5 hsub;refine BR ?_;intro WZ hWZ;have ho:Ai gs w2 WZ:=(by rw[hWZ];exact(Ai.refl gs w2).setCell rfl _);have HS9:Hid (WZ.heap[gs]?=some (.cells (Af { s with tm:=BZ s.tm n (t - 1) }).toArray 65)):=hid (by rw[hWZ];exact(AG hs4 (3+n) _).trans (congrArg (fun C=>some (Obj.cells C 65)) (Ff _ _ HN64.o)));have HBE:Hid (Below w.heap.size w WZ):=hid (Ai.below HB2.o HG.o.1 HB2.o.size ho);have HR9:=hid (Ai.keep ho HG.o.2 HR6.o);clear hWZ ho hs4;have HLD:=hid (Au HS9.o);obtain⟨hst,hq9,ho9⟩:=AH (s':={ s with tm:=BZ s.tm n (t - 1) }) HR9.o;have HST:=hid hst;have HQ9:=hid hq9;have HB9:Hid (Below w.heap.size w (WZ.setCells gr 0 (Af { s with tm:=BZ s.tm n (t - 1) }))):=hid (Ai.below HBE.o HGR.o HBE.o.size ho9);clear hst hq9 ho9;go_wp2_with (first
         | ((with_reducible refine Ah (op:=⟨some 73,_,_,_,_,_⟩) rfl 65 _ rfl _ _ ?_ HLD.o ?_);(· rfl))
         | ((with_reducible refine Ag (op:=⟨none,.store 65 _ _,_,_,_,_⟩) rfl 65 _ _ rfl _ _ ?_ ?_ _ HST.o ?_);(· rfl);(· rfl)))
        (try simp only[Exit.inBlock,Exit.then])
        refine bodyPost_ret (results_cell_row (g:=gr) rfl _ _ 65 (Af { s with tm:=BZ s.tm n (t - 1) }).toArray (0,0) _ rfl HQ9.o Tryz.underlying65 rfl (by rw[Wn,AS];exact Bf)) rfl ?_;exact⟨by rw[HEQ.o],HB9.o⟩
       ·have d5:¬ (0:Int)<(t:Int):=(by omega);have HT0:Hid (¬ 0<s.tm n):=hid (by rw[ht];exact h0);clear ht h0 htb;have s2:=A4 HS6.o 2 _ (E1 s);go_wp2_with fail;refine(KHC2.o _).mono ?_;rintro e w3 ⟨rfl,hb3⟩;have HB3:=hid (A6 HB2.o hb3);have HBW3:=hid (A6 HBW2.o hb3);have HS7:=hid (A5 hb3 HS6.o);have HR7:=hid (A5 hb3 HR6.o);have HI7:=hid (A5 hb3 HI6.o);have HQ7:=hid (A5 hb3 HQ6.o);clear hb3 s2 q4 d1 d3 d5;have l0:=A4 HQ7.o 0 _ rfl;have l1:=A4 HQ7.o 1 _ rfl;have l2:=A4 HQ7.o 2 _ rfl;have l3:=A4 HQ7.o 3 _ rfl;have l4:=A4 HQ7.o 4 _ rfl;have l5:=A4 HQ7.o 5 _ rfl;have m0:=A4 HI7.o 0 _ rfl;have m1:=A4 HI7.o 1 _ rfl;have m2:=A4 HI7.o 2 _ rfl;have m3:=A4 HI7.o 3 _ rfl;go_wp2_with fail;refine(KFR.o _ HBW3.o).mono ?_;rintro e w4 ⟨rfl,hb4⟩;have HB8:=hid (A6 HB3.o hb4);have HS8:=hid (A5 hb4 HS7.o);have HR8:=hid (A5 hb4 HR7.o);clear hb4 l0 l1 l2 l3 l4 l5 m0 m1 m2 m3;cases bf with
        | true=>
          go_upto_region 10 with fail
          have HLD:=hid (Au HS8.o);go_wp2_with (first
           | ((with_reducible refine Ah (op:=⟨some 70,_,_,_,_,_⟩) rfl 65 _ rfl _ _ ?_ HLD.o ?_);(· rfl)))
          refine(Ma s n _ HN63.o HSO.o).mono ?_;rintro e wz ⟨rfl,hbz⟩;have HRZ:=hid (A5 hbz HR8.o);have HBZ:=hid (A6 HB8.o hbz);clear hbz;obtain⟨hst,hq9,ho9⟩:=AH (s':=BL s n) HRZ.o;have HST:=hid hst;have HQ9:=hid hq9;have HB9:Hid (Below w.heap.size w (wz.setCells gr 0 (Af (BL s n)))):=hid (Ai.below HBZ.o HGR.o HBZ.o.size ho9);clear hst hq9 ho9;go_wp2_with (first
           | ((with_reducible refine Ag (op:=⟨none,.store 65 _ _,_,_,_,_⟩) rfl 65 _ _ rfl _ _ ?_ ?_ _ HST.o ?_);(· rfl);(· rfl)))
          (try simp only[Exit.inBlock,Exit.then])
          refine bodyPost_ret (results_cell_row (g:=gr) rfl _ _ 65 (Af (BL s n)).toArray (0,0) _ rfl HQ9.o Tryz.underlying65 rfl (by rw[Wn,AS];exact Bf)) rfl ?_;rw[MF HU.o HF1.o HCA.o HT0.o,HFR.o,if_pos rfl];exact⟨rfl,HB9.o⟩
        | false=>
          go_upto_region 11 with fail
          have HLD:=hid (Au HS8.o);obtain⟨hst,hq9,ho9⟩:=AH (s':=s) HR8.o;have HST:=hid hst;have HQ9:=hid hq9;have HB9:Hid (Below w.heap.size w (w4.setCells gr 0 (Af s))):=hid (Ai.below HB8.o HGR.o HB8.o.size ho9);clear hst hq9 ho9;go_wp2_with (first
           | ((with_reducible refine Ah (op:=⟨some 73,_,_,_,_,_⟩) rfl 65 _ rfl _ _ ?_ HLD.o ?_);(· rfl))
           | ((with_reducible refine Ag (op:=⟨none,.store 65 _ _,_,_,_,_⟩) rfl 65 _ _ rfl _ _ ?_ ?_ _ HST.o ?_);(· rfl);(· rfl)))
          (try simp only[Exit.inBlock,Exit.then])
          refine bodyPost_ret (results_cell_row (g:=gr) rfl _ _ 65 (Af s).toArray (0,0) _ rfl HQ9.o Tryz.underlying65 rfl (by rw[Wn,AS];exact Bf)) rfl ?_;exact⟨by rw[MF HU.o HF1.o HCA.o HT0.o,HFR.o];rfl,HB9.o⟩
end Go.Proofs.YtpohoannggdbjaaGreat
