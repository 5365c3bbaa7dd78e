/- Layer 10: the document's route. -/
import Derived.Test.YtpohoannggdbjaaGreatIxT
namespace Go.Proofs.YtpohoannggdbjaaGreat
open Lib (hid)
open Go.RowKit
set_option maxRecDepth 100000
attribute [local irreducible] Sl.v Aa pw Ab Ax C4 Ai BG Cs Bi Bf B7 Cr BO AT Bk Bw BD Bh Bg BQ Bj BI BC BM AD AS AR Bc BB Bq CT Mc.tb BU AQ Aq AW
attribute [local irreducible] B6 CQ Bs BN Rt.tr Rt.nd Aw BS As
attribute [local irreducible] DB
set_option maxHeartbeats 16000000 in
theorem L6(L:AM)(s:St)(oc no re:Nat)(ia:Option Addr)(il ic:Nat)(n u:Nat)(x:Rt)(w:World)(hL:B5 w L)(hc:(Aq L).1=0)(hs:s.ok)(ho:oc<18446744073709551616)(hu:u<18446744073709551616)(hx:L.rt.l[n]?=some x) :
 Calls Tryz.prog 44 #[.agg #[L.se.v,L.po.v,L.sg.v,L.rt.v],.agg (Ai s).toArray,.agg #[.int .u64 (oc:Int),.int .u32 (no:Int),.int .u32 (re:Int),.slice ia il ic],.int .i64 (n:Int),.int .u64 (u:Int)] w fun e w'=>e = .returned (.agg (Ai (BC s oc u n (CQ L n x))).toArray)∧Below w.heap.size w w':=by
 have HMAY:Hid (AQ L=true):=hid (AP hc);have HS4:Hid (L.rt.l.length≤64):=hid (Ay (AP hc)).2.2.2;have HCK:=hid hc;have h63:n≤63:=by have h1:=(List.getElem?_eq_some_iff.1 hx).1;have:=HS4.out;omega
 have hxm:=List.mem_of_getElem? hx;have hf:=R0 (FG HCK.out x hxm);obtain⟨q0,qs,hpa⟩:∃ a l,x.pa.l=a :: l:=by
  cases h:x.pa.l with
  | nil=>exact absurd h hf
  | cons a l=>exact⟨a,l,rfl⟩
 have hq0:0≤q0∧q0≤63:=by
  have h:=Lc HMAY.out x hxm q0 (by unfold Rt.tr;rw[hpa];exact List.mem_append_left _ List.mem_cons_self);have:=(Ay HMAY.out).1;omega
 obtain⟨q,rfl⟩:∃ q:Nat,q0=q:=⟨q0.toNat,by omega⟩;have HFI:Hid ((CQ L n x).fi=(q:Int)):=hid (by rw[Qt,hpa];rfl);obtain⟨bu,hbu⟩:∃ b,Aa u n=b:=⟨_,rfl⟩;obtain⟨bf,hbf⟩:∃ b,Bi oc (CQ L n x)=b:=⟨_,rfl⟩;obtain⟨bi,hbi⟩:∃ b,Aa oc q=b:=⟨_,rfl⟩;obtain⟨bc,hbc⟩:∃ b,Aa s.ca n=b:=⟨_,rfl⟩;have KHU:Hid (∀ V,Calls Tryz.prog 43 #[.int .u64 (u:Int),.int .i64 (n:Int)] V fun e w'=>e = .returned (.bool bu)∧Below V.heap.size V w'):=hid (fun V=>Ct bu u n V h63 hu hbu);have KHC:Hid (∀ V,Calls Tryz.prog 43 #[.int .u64 (s.ca:Int),.int .i64 (n:Int)] V fun e w'=>e = .returned (.bool bc)∧Below V.heap.size V w'):=hid (fun V=>Ct bc s.ca n V h63 hs.ca hbc);have HU:=hid hbu;have HFR:=hid hbf;have HF1:Hid (Aa oc (CQ L n x).fi.toNat=bi):=hid (by rw[HFI.out,Int.toNat_natCast];exact hbi);have HCA:=hid hbc;have HN63:=hid h63;have HN64:Hid (n<64):=hid (by omega);have HSO:=hid hs;have HOC:=hid ho;obtain⟨n1,hn1⟩:∃ n,L.se.l.length=n:=⟨_,rfl⟩;obtain⟨n2,hn2⟩:∃ n,L.po.l.length=n:=⟨_,rfl⟩;obtain⟨n3,hn3⟩:∃ n,L.sg.l.length=n:=⟨_,rfl⟩;obtain⟨n4,hn4⟩:∃ n,L.rt.l.length=n:=⟨_,rfl⟩;have HLW:=hid hL;have HN1:=hid hn1;have HN2:=hid hn2;have HN3:=hid hn3;have HN4:=hid hn4;have HNLT:Hid (n<n4):=hid (by rw[← hn4];exact(List.getElem?_eq_some_iff.1 hx).1);rw[Ak hn1,Ak hn2,Ak hn3,Ak hn4];have HXR:=hid hx;have hxa:=hL.rn x hxm;clear hn1 hn2 hn3 hn4 hL hc hs ho hu hbu hbc hf h63;obtain⟨p1,hp1⟩:∃ n,x.pa.l.length=n:=⟨_,rfl⟩;obtain⟨p2,hp2⟩:∃ n,x.po.l.length=n:=⟨_,rfl⟩;obtain⟨p3,hp3⟩:∃ n,x.ov.l.length=n:=⟨_,rfl⟩;obtain⟨p4,hp4⟩:∃ n,x.fl.l.length=n:=⟨_,rfl⟩;have HPL:Hid (0<p1):=hid (by rw[← hp1,hpa];simp);go_enter Tryz.func44,Tryz.ntmps44;go_upto_region 1 with fail
 rw[BF];refine Ap (os:=[.cells #[.slice L.se.a n1 L.se.c,.slice L.po.a n2 L.po.c,.slice L.sg.a n3 L.sg.c,.slice L.rt.a n4 L.rt.c] 27,.cells (Ai s).toArray 65,.cells #[.int .u64 (oc:Int),.int .u32 (no:Int),.int .u32 (re:Int),.slice ia il ic] 35,.cells (Ai zS).toArray 65]) (w0:=w) rfl ?_;intro W hat hbw;obtain⟨gl,hgl⟩:∃ g,g=w.heap.size:=⟨_,rfl⟩;have q0:=hat 0 _ rfl;obtain⟨gs,hgs⟩:∃ g,g=gl+1:=⟨_,rfl⟩;have q1:=hat 1 _ rfl;obtain⟨gi,hgi⟩:∃ g,g=gs+1:=⟨_,rfl⟩;have q2:=hat 2 _ rfl;obtain⟨gr,hgr⟩:∃ g,g=gi+1:=⟨_,rfl⟩;have q3:=hat 3 _ rfl;rw[Nat.add_zero,← hgl] at q0;rw[← hgl,← hgs] at q1;rw[← hgl,show gl+2=gi by omega] at q2;rw[← hgl,show gl+3=gr by omega] at q3;rw[← hgl,← hgs,← hgi,← hgr];have HQl:=hid q0;have HQs:=hid q1;have HQi:=hid q2;have HQr:=hid q3;have HB0:=hid hbw;have HG:Hid (w.heap.size≤gs∧gr≠gs):=hid (by omega);have HGR:Hid (w.heap.size≤gr):=hid (by omega);clear hat hbw q0 q1 q2 q3 hgl hgs hgi hgr;have HBX:=HB0;have KFR:Hid (∀ V,Below W.heap.size W V→Calls Tryz.prog 78 #[.agg #[.string x.nm,.int .i64 x.sg,.slice x.pa.a p1 x.pa.c,.slice x.po.a p2 x.po.c,.slice x.ov.a p3 x.ov.c,.slice x.fl.a p4 x.fl.c],.agg #[.int .u64 (oc:Int),.int .u32 (no:Int),.int .u32 (re:Int),.slice ia il ic]] V fun e w'=>e = .returned (.bool bf)∧Below V.heap.size V w'):=hid (fun V hV=>by
  have ok:=Bn HMAY.out x hxm;have h:=FP (!bf) oc no re ia il ic x V ((HLW.out.rn x hxm).below (A8 HBX.out hV)) (by have:=ok.pa;have:=ok.ov;omega) (fun k hk=>by have h:=Lc HMAY.out x hxm k hk;have:=(Ay HMAY.out).1;omega) HOC.out (by rw[Ho] at hbf;rw[← hbf,Bool.not_not]);rw[Ak hp1,Ak hp2,Ak hp3,Ak hp4,Bool.not_not] at h;exact h)
 rcases HLW.out.rt.row with hnil | ⟨xb,off,hxb,hc0⟩
 ·rw[hnil] at hx;cases hx
 have hc:=fun i c hi j v hv=>cell_later HB0.out (hc0 i c hi j v hv)
 have hyx:=hx;have z0:=hc n _ hyx 0 _ rfl;have z1:=hc n _ hyx 1 _ rfl;have z2:=hc n _ hyx 2 _ rfl;have z3:=hc n _ hyx 3 _ rfl;have z4:=hc n _ hyx 4 _ rfl;have z5:=hc n _ hyx 5 _ rfl;rw[Nat.add_zero] at z0;rw[Ak hp1] at z2;rw[Ak hp2] at z3;rw[Ak hp3] at z4;rw[Ak hp4] at z5;have KCL0:Hid (∀ V,Calls Tryz.prog 75 #[.agg #[.int .u64 (oc:Int),.int .u32 (no:Int),.int .u32 (re:Int),.slice ia il ic],.int .i64 (q:Int)] V fun e w''=>e = .returned (.bool (!bi))∧Below V.heap.size V w''):=hid (fun V=>Du bi oc no re ia il ic q V (by omega) HOC.out hbi);obtain⟨PA,hPA⟩:∃ a,x.pa.a=a:=⟨_,rfl⟩;have hr1:=hxa.pa.row;rw[hPA,hpa] at hr1;rw[hPA] at z2 KFR;rcases hr1 with hnil | ⟨pb,po,hpb,hpc⟩
 ·cases hnil
 subst hpb;have HP0:Hid (W.cell? ⟨pb,po,none⟩=some (.int .i64 (q:Int))):=hid (by have:=cell_later HB0.out (hpc 0 (q:Int) rfl 0 _ rfl);simpa using this);have hl:=A4 HQl.out 3 _ rfl;rw[hxb] at hl;have d1:(0:Int)≤n:=by omega
 have d2:(n:Int)<n4:=by have:=HNLT.out;omega
 clear hx hyx hxa hc hc0 hxb hpc hPA hpa hq0 hbf hbi hp1 hp2 hp3 hp4 hxm;go_upto_region 2 with fail
 have hbn:=Ac W (.cells #[.string x.nm,.int .i64 x.sg,.slice (some ⟨pb,po,none⟩) p1 x.pa.c,.slice x.po.a p2 x.po.c,.slice x.ov.a p3 x.ov.c,.slice x.fl.a p4 x.fl.c] 52);have hqn:=Ao W (.cells #[.string x.nm,.int .i64 x.sg,.slice (some ⟨pb,po,none⟩) p1 x.pa.c,.slice x.po.a p2 x.po.c,.slice x.ov.a p3 x.ov.c,.slice x.fl.a p4 x.fl.c] 52) (Below.refl _ _);obtain⟨V,hV⟩:∃ V,V=W.alloc (.cells #[.string x.nm,.int .i64 x.sg,.slice (some ⟨pb,po,none⟩) p1 x.pa.c,.slice x.po.a p2 x.po.c,.slice x.ov.a p3 x.ov.c,.slice x.fl.a p4 x.fl.c] 52):=⟨_,rfl⟩;rw[← hV] at hbn hqn ⊢;obtain⟨gx,hgx⟩:∃ g,g=W.heap.size:=⟨_,rfl⟩;rw[← hgx] at hqn ⊢;have HBV:=hid (A8 HB0.out hbn);have HBW:=hid hbn;have HQX:=hid hqn;have HS1:=hid (A5 hbn HQs.out);have HI1:=hid (A5 hbn HQi.out);have HR1:=hid (A5 hbn HQr.out);clear hbn hqn hV hgx z0 z1 z2 z3 z4 z5 hl d1 d2;go_wp2_with fail;refine(KHU.out _).mono ?_;rintro e w1 ⟨rfl,hb1⟩;have HB1:=hid (A8 HBV.out hb1);have HBW1:=hid (A8 HBW.out hb1);have HQX1:=hid (A5 hb1 HQX.out);have HS2:=hid (A5 hb1 HS1.out);have HI2:=hid (A5 hb1 HI1.out);have HR2:=hid (A5 hb1 HR1.out);clear hb1 HQX HS1 HI1 HR1 KHU;cases bu with
 | true=>
   have l0:=A4 HQX1.out 0 _ rfl;have l1:=A4 HQX1.out 1 _ rfl;have l2:=A4 HQX1.out 2 _ rfl;have l3:=A4 HQX1.out 3 _ rfl;have l4:=A4 HQX1.out 4 _ rfl;have l5:=A4 HQX1.out 5 _ rfl;have m0:=A4 HI2.out 0 _ rfl;have m1:=A4 HI2.out 1 _ rfl;have m2:=A4 HI2.out 2 _ rfl;have m3:=A4 HI2.out 3 _ rfl;go_wp2_with fail;refine(KFR.out _ HBW1.out).mono ?_;rintro e w2 ⟨rfl,hb2⟩;have HB2:=hid (A8 HB1.out hb2);have HS3:=hid (A5 hb2 HS2.out);have HR3:=hid (A5 hb2 HR2.out);clear hb2 l0 l1 l2 l3 l4 l5 m0 m1 m2 m3;cases bf with
   | true=>
     go_upto_region 4 with fail
     have HLD:=hid (Az HS3.out);go_wp2_with (first
      | ((with_reducible refine Aj (op:=⟨some 24,_,_,_,_,_⟩) rfl 65 _ rfl _ _ ?_ HLD.out ?_);(· rfl)))
     refine(Ko s n _ HN63.out HSO.out).mono ?_;rintro e wz ⟨rfl,hbz⟩;have HRZ:=hid (A5 hbz HR3.out);have HBZ:=hid (A8 HB2.out hbz);clear hbz;obtain⟨hst,hq9,ho9⟩:=AN (s':=BI s n) HRZ.out;have HST:=hid hst;have HQ9:=hid hq9;have HB9:Hid (Below w.heap.size w (wz.setCells gr 0 (Ai (BI s n)))):=hid (Ag.below HBZ.out HGR.out HBZ.out.size ho9);clear hst hq9 ho9;go_wp2_with (first
      | ((with_reducible refine Am (op:=⟨none,.store 65 _ _,_,_,_,_⟩) rfl 65 _ _ rfl _ _ ?_ ?_ _ HST.out ?_);(· rfl);(· rfl)))
     (try simp only[Exit.inBlock,Exit.then])
     refine bodyPost_ret (results_cell_row (g:=gr) rfl _ _ 65 (Ai (BI s n)).toArray (0,0) _ rfl HQ9.out Tryz.underlying65 rfl (by rw[List.size_toArray,AU];exact Bd)) rfl ?_;rw[Ki HU.out,HFR.out,if_pos rfl];exact⟨rfl,HB9.out⟩
   | false=>
     go_upto_region 11 with fail
     have HLD:=hid (Az HS3.out);obtain⟨hst,hq9,ho9⟩:=AN (s':=s) HR3.out;have HST:=hid hst;have HQ9:=hid hq9;have HB9:Hid (Below w.heap.size w (w2.setCells gr 0 (Ai s))):=hid (Ag.below HB2.out HGR.out HB2.out.size ho9);clear hst hq9 ho9;go_wp2_with (first
      | ((with_reducible refine Aj (op:=⟨some 73,_,_,_,_,_⟩) rfl 65 _ rfl _ _ ?_ HLD.out ?_);(· rfl))
      | ((with_reducible refine Am (op:=⟨none,.store 65 _ _,_,_,_,_⟩) rfl 65 _ _ rfl _ _ ?_ ?_ _ HST.out ?_);(· rfl);(· rfl)))
     (try simp only[Exit.inBlock,Exit.then])
     refine bodyPost_ret (results_cell_row (g:=gr) rfl _ _ 65 (Ai s).toArray (0,0) _ rfl HQ9.out Tryz.underlying65 rfl (by rw[List.size_toArray,AU];exact Bd)) rfl ?_;exact⟨by rw[Ki HU.out,HFR.out];rfl,HB9.out⟩
 | false=>
   have KCL:Hid (∀ w',Below w1.heap.size w1 w'→Calls Tryz.prog 75 #[.agg #[.int .u64 (oc:Int),.int .u32 (no:Int),.int .u32 (re:Int),.slice ia il ic],.int .i64 (q:Int)] w' fun e w''=>e = .returned (.bool (!bi))∧Below w1.heap.size w1 w''):=hid (fun w' hw'=>(KCL0.out w').mono (fun _ _ h=>⟨h.1,A8 hw' h.2⟩));go_upto_region 5 with fail
   refine Ae (by kernel_rfl) ?_ ?_
   ·kernel_rfl
   repeat first
    | go_big_quiet_skip
    | (go_big_quiet_want;go_big_quiet_op;go_big_quiet_on)
    | (with_reducible apply wpQuiet_step
       intro K hK;go_simp;first
        | (refine hK _ ?_;clear hK K)
        | (apply Exists.intro
           refine⟨fun w' hw'=>?_,hK _ ?_⟩
           ·
            (first
             | with_reducible exact KCL.out _ hw'
             | (have g0:=A4 (A5 hw' HI2.out) 0 _ rfl
                have g1:=A4 (A5 hw' HI2.out) 1 _ rfl;have g2:=A4 (A5 hw' HI2.out) 2 _ rfl;have g3:=A4 (A5 hw' HI2.out) 3 _ rfl;go_simp;first | done | with_reducible exact rfl | with_reducible exact⟨rfl,rfl⟩ | with_reducible exact KCL.out _ hw')
             | (have g0:=A4 (A5 hw' HQX1.out) 0 _ rfl
                have g1:=A4 (A5 hw' HQX1.out) 1 _ rfl;have g2:=A4 (A5 hw' HQX1.out) 2 _ rfl;have g3:=A4 (A5 hw' HQX1.out) 3 _ rfl;have g4:=A4 (A5 hw' HQX1.out) 4 _ rfl;have g5:=A4 (A5 hw' HQX1.out) 5 _ rfl;go_simp;first | done | with_reducible exact rfl | with_reducible exact⟨rfl,rfl⟩ | with_reducible exact KCL.out _ hw')
             | (have t0:=cell_later (A8 HBW1.out hw') HP0.out
                go_simp;first | done | with_reducible exact rfl | with_reducible exact⟨rfl,rfl⟩ | with_reducible exact KCL.out _ hw')
             | (have hpl:=HPL.out
                go_simp;first | done | with_reducible exact rfl | with_reducible exact⟨rfl,rfl⟩ | with_reducible exact KCL.out _ hw'))
           clear hK K))
   refine wpQuiet_nil ?_;intro w7 hw7;have HB7:=hid (A8 HB1.out hw7);have HS4:=hid (A5 hw7 HS2.out);have HR4:=hid (A5 hw7 HR2.out);have HI4:=hid (A5 hw7 HI2.out);have HQ4:=hid (A5 hw7 HQX1.out);have HBW7:=hid (A8 HBW1.out hw7);clear hw7;clear KCL KCL0 HS2 HR2 HI2 HQX1;cases bi with
   | true=>
     have HS5:=HS4;have HB5:=HB7;have HR5:=HR4;go_upto_region 6 with fail
     refine Ah (by kernel_rfl) [6] 9 [0,1,2,3,4,5] [35,36,37,38,39,40] #[true,true,true,true,true,true,false] 1 [(fun v _=>v = .pointer (some ⟨gs,1,none⟩)),(fun v _=>v = .int .u64 (s.us:Int)),(fun v _=>v = .int .i64 (n:Int)),(fun v _=>v = .int .u64 (pw n:Int)),(fun v _=>v = .int .u64 ((Ab s.us n:Nat):Int)),(fun v _=>v = .pointer (some ⟨gs,1,none⟩)),(fun _ _=>True)] (by kernel_rfl) (by kernel_rfl) (by kernel_rfl) (by kernel_rfl) (by kernel_rfl) rfl (by kernel_rfl) rfl ?_ ?_ ?_
     ·exact⟨A7 _,A7 _,A7 _,A7 _,A7 _,A7 _,Al,trivial⟩
     ·refine⟨?_,?_,?_,?_,?_,?_,trivial⟩
      ·refine A6 (o:=⟨some 35,_,_,_,_,_⟩) rfl (fun r V hc hf hg hs hb hd=>?_);have x6:r (.tmp 6) = .pointer (some ⟨gs,0,none⟩):=hs 6 (by kernel_rfl);clear hs hd hg;go_simp;exact⟨Below.refl _ _,rfl⟩
      ·refine A6 (o:=⟨some 36,_,_,_,_,_⟩) rfl (fun r V hc hf hg hs hb hd=>?_);have h0:r (.tmp 35) = .pointer (some ⟨gs,1,none⟩):=hd 0 35 rfl (by kernel_rfl);clear hs hd hg;have l:=A4 (A5 hb HS5.out) 1 _ (EW _);go_simp;exact⟨Below.refl _ _,rfl⟩
      ·refine A6 (o:=⟨some 37,_,_,_,_,_⟩) rfl (fun r V hc hf hg hs hb hd=>?_);have x3:r (.tmp 3) = .int .i64 (n:Int):=hs 3 (by kernel_rfl);clear hs hd hg;go_simp;exact⟨Below.refl _ _,rfl⟩
      ·refine A6 (o:=⟨some 38,_,_,_,_,_⟩) rfl (fun r V hc hf hg hs hb hd=>?_);have h2:r (.tmp 37) = .int .i64 (n:Int):=hd 2 37 rfl (by kernel_rfl);clear hs hd hg;have h63:=HN63.out;have h0:(0:Int)≤n:=by omega
       have h1:min n 64=n:=by omega
       have h2:¬ (64:Int)≤n:=by omega
       have hs1:=Be n h63;go_simp;exact⟨Below.refl _ _,by simp⟩
      ·refine A6 (o:=⟨some 39,_,_,_,_,_⟩) rfl (fun r V hc hf hg hs hb hd=>?_);have h1:r (.tmp 36) = .int .u64 (s.us:Int):=hd 1 36 rfl (by kernel_rfl);have h3:r (.tmp 38) = .int .u64 (pw n:Int):=hd 3 38 rfl (by kernel_rfl);clear hs hd hg;have ho1:=Ce s.us n HN63.out HSO.out.us;go_simp;exact⟨Below.refl _ _,rfl⟩
      ·refine A6 (o:=⟨some 40,_,_,_,_,_⟩) rfl (fun r V hc hf hg hs hb hd=>?_);have x6:r (.tmp 6) = .pointer (some ⟨gs,0,none⟩):=hs 6 (by kernel_rfl);clear hs hd hg;go_simp;exact⟨Below.refl _ _,rfl⟩
     ·intro a V hb hx;have h0:a.eval (.tmp 35) = .pointer (some ⟨gs,1,none⟩):=hx 0 35 rfl rfl;have h1:a.eval (.tmp 36) = .int .u64 (s.us:Int):=hx 1 36 rfl rfl;have h2:a.eval (.tmp 37) = .int .i64 (n:Int):=hx 2 37 rfl rfl;have h3:a.eval (.tmp 38) = .int .u64 (pw n:Int):=hx 3 38 rfl rfl;have h4:a.eval (.tmp 39) = .int .u64 ((Ab s.us n:Nat):Int):=hx 4 39 rfl rfl;have h5:a.eval (.tmp 40) = .pointer (some ⟨gs,1,none⟩):=hx 5 40 rfl rfl;unfold AA;simp only[List.foldl_cons,List.foldl_nil,h0,h1,h2,h3,h4,h5,Act.put,List.setIfInBounds_toArray,List.set_cons_zero,List.set_cons_succ];clear h0 h1 h2 h3 h4 h5 hx;have HSV:=hid (A5 hb HS5.out);have HBV:=hid (A8 HB5.out hb);have HRV:=hid (A5 hb HR5.out);clear hb HS5 HB5 HR5;refine wpAny_ready (rs:=[6]) (by kernel_rfl) (by simp) (AllReady.cons (o:=⟨none,_,_,_,_,_⟩) rfl (fun K hK=>?_) AllReady.nil);have c0:=A4 HSV.out 1 _ (EW _);have f0:=An HSV.out 1;have hl:=Af HSV.out;go_simp;clear c0 f0 hl;refine AY ?_;intro VZ hVZ;have ho:Ag gs V VZ:=by rw[hVZ];exact(Ag.refl gs V).setCell rfl _
      have HSz:Hid (VZ.heap[gs]?=some (.cells (Ai { s with us:=Ab s.us n }).toArray 65)):=hid (by rw[hVZ];exact(AH HSV.out 1 _).trans (congrArg (fun C=>some (Obj.cells C 65)) (Kh _ _)));have HBz:Hid (Below w.heap.size w VZ):=hid (Ag.below HBV.out HG.out.1 HBV.out.size ho);have HRz:=hid (Ag.keep ho HG.out.2 HRV.out);clear hVZ ho HSV HBV HRV;refine hK _ _ ?_;clear hK K;refine wpAny_done (by kernel_rfl) ?_ _;obtain⟨W8,hW8⟩:∃ W',W'=VZ:=⟨_,rfl⟩;rw[← hW8] at HSz HBz HRz ⊢;clear hW8;have HLD:=hid (Az HSz.out);obtain⟨hst,hq9,ho9⟩:=AN (s':={ s with us:=Ab s.us n }) HRz.out;have HST:=hid hst;have HQ9:=hid hq9;have HB9:Hid (Below w.heap.size w (W8.setCells gr 0 (Ai { s with us:=Ab s.us n }))):=hid (Ag.below HBz.out HGR.out HBz.out.size ho9);clear hst hq9 ho9;go_wp2_with (first
       | ((with_reducible refine Aj (op:=⟨some 73,_,_,_,_,_⟩) rfl 65 _ rfl _ _ ?_ HLD.out ?_);(· rfl))
       | ((with_reducible refine Am (op:=⟨none,.store 65 _ _,_,_,_,_⟩) rfl 65 _ _ rfl _ _ ?_ ?_ _ HST.out ?_);(· rfl);(· rfl)))
      (try simp only[Exit.inBlock,Exit.then])
      refine bodyPost_ret (results_cell_row (g:=gr) rfl _ _ 65 (Ai { s with us:=Ab s.us n }).toArray (0,0) _ rfl HQ9.out Tryz.underlying65 rfl (by rw[List.size_toArray,AU];exact Bd)) rfl ?_;exact⟨by rw[PD HU.out HF1.out],HB9.out⟩
   | false=>
     have s2:=A4 HS4.out 2 _ (Ds s);have KHC2:=KHC;go_wp2_with fail;refine(KHC.out _).mono ?_;rintro e w2 ⟨rfl,hb2⟩;have HB2:=hid (A8 HB7.out hb2);have HBW2:=hid (A8 HBW7.out hb2);have HS6:=hid (A5 hb2 HS4.out);have HR6:=hid (A5 hb2 HR4.out);have HI6:=hid (A5 hb2 HI4.out);have HQ6:=hid (A5 hb2 HQ4.out);clear hb2 s2 HS4 HR4 HI4 HQ4 KHC;cases bc with
     | false=>
       have s2:=A4 HS6.out 2 _ (Ds s);go_wp2_with fail;refine(KHC2.out _).mono ?_;rintro e w3 ⟨rfl,hb3⟩;have HB3:=hid (A8 HB2.out hb3);have HS7:=hid (A5 hb3 HS6.out);have HR7:=hid (A5 hb3 HR6.out);clear hb3 s2;go_upto_region 11 with fail
       have HLD:=hid (Az HS7.out);obtain⟨hst,hq9,ho9⟩:=AN (s':=s) HR7.out;have HST:=hid hst;have HQ9:=hid hq9;have HB9:Hid (Below w.heap.size w (w3.setCells gr 0 (Ai s))):=hid (Ag.below HB3.out HGR.out HB3.out.size ho9);clear hst hq9 ho9;go_wp2_with (first
        | ((with_reducible refine Aj (op:=⟨some 73,_,_,_,_,_⟩) rfl 65 _ rfl _ _ ?_ HLD.out ?_);(· rfl))
        | ((with_reducible refine Am (op:=⟨none,.store 65 _ _,_,_,_,_⟩) rfl 65 _ _ rfl _ _ ?_ ?_ _ HST.out ?_);(· rfl);(· rfl)))
       (try simp only[Exit.inBlock,Exit.then])
       refine bodyPost_ret (results_cell_row (g:=gr) rfl _ _ 65 (Ai s).toArray (0,0) _ rfl HQ9.out Tryz.underlying65 rfl (by rw[List.size_toArray,AU];exact Bd)) rfl ?_;exact⟨by rw[PQ HU.out HF1.out HCA.out],HB9.out⟩
     | true=>
       obtain⟨t,ht⟩:∃ t,s.tm n=t:=⟨_,rfl⟩;have q4:=A4 HS6.out (3+n) _ (DC _ HN64.out);rw[ht] at q4;have d1:(0:Int)≤n:=by omega
       have d3:(n:Int)<64:=by have:=HN64.out;omega
       have htb:t≤255:=by rw[← ht];exact HSO.out.tm n
       by_cases h0:0<t
       ·have d5:(0:Int)<(t:Int):=by omega
        have hsub:IntKind.u8.wrap ((t:Int) - 1)=((t - 1:Nat):Int):=by rw[IntKind.wrap_u8];omega
        have HEQ:Hid (BC s oc u n (CQ L n x)={ s with tm:=BU s.tm n (t - 1) }):=hid (by rw[PI HU.out HF1.out HCA.out (by rw[ht];exact h0),ht]);have HT4:=hid ht;have hs4:=HS6.out;have f3:=An hs4 (3+n);have hl:=Af hs4;clear ht h0 htb;go_upto_region 11 with fail
        clear q4 f3 hl d1 d3 d5 hsub;refine BP ?_;intro WZ hWZ;have ho:Ag gs w2 WZ:=by rw[hWZ];exact(Ag.refl gs w2).setCell rfl _
        have HS9:Hid (WZ.heap[gs]?=some (.cells (Ai { s with tm:=BU s.tm n (t - 1) }).toArray 65)):=hid (by rw[hWZ];exact(AH hs4 (3+n) _).trans (congrArg (fun C=>some (Obj.cells C 65)) (Es _ _ HN64.out)));have HBE:Hid (Below w.heap.size w WZ):=hid (Ag.below HB2.out HG.out.1 HB2.out.size ho);have HR9:=hid (Ag.keep ho HG.out.2 HR6.out);clear hWZ ho hs4;have HLD:=hid (Az HS9.out);obtain⟨hst,hq9,ho9⟩:=AN (s':={ s with tm:=BU s.tm n (t - 1) }) HR9.out;have HST:=hid hst;have HQ9:=hid hq9;have HB9:Hid (Below w.heap.size w (WZ.setCells gr 0 (Ai { s with tm:=BU s.tm n (t - 1) }))):=hid (Ag.below HBE.out HGR.out HBE.out.size ho9);clear hst hq9 ho9;go_wp2_with (first
         | ((with_reducible refine Aj (op:=⟨some 73,_,_,_,_,_⟩) rfl 65 _ rfl _ _ ?_ HLD.out ?_);(· rfl))
         | ((with_reducible refine Am (op:=⟨none,.store 65 _ _,_,_,_,_⟩) rfl 65 _ _ rfl _ _ ?_ ?_ _ HST.out ?_);(· rfl);(· rfl)))
        (try simp only[Exit.inBlock,Exit.then])
        refine bodyPost_ret (results_cell_row (g:=gr) rfl _ _ 65 (Ai { s with tm:=BU s.tm n (t - 1) }).toArray (0,0) _ rfl HQ9.out Tryz.underlying65 rfl (by rw[List.size_toArray,AU];exact Bd)) rfl ?_;exact⟨by rw[HEQ.out],HB9.out⟩
       ·have d5:¬ (0:Int)<(t:Int):=by omega
        have HT0:Hid (¬ 0<s.tm n):=hid (by rw[ht];exact h0);clear ht h0 htb;have s2:=A4 HS6.out 2 _ (Ds s);go_wp2_with fail;refine(KHC2.out _).mono ?_;rintro e w3 ⟨rfl,hb3⟩;have HB3:=hid (A8 HB2.out hb3);have HBW3:=hid (A8 HBW2.out hb3);have HS7:=hid (A5 hb3 HS6.out);have HR7:=hid (A5 hb3 HR6.out);have HI7:=hid (A5 hb3 HI6.out);have HQ7:=hid (A5 hb3 HQ6.out);clear hb3 s2 q4 d1 d3 d5;have l0:=A4 HQ7.out 0 _ rfl;have l1:=A4 HQ7.out 1 _ rfl;have l2:=A4 HQ7.out 2 _ rfl;have l3:=A4 HQ7.out 3 _ rfl;have l4:=A4 HQ7.out 4 _ rfl;have l5:=A4 HQ7.out 5 _ rfl;have m0:=A4 HI7.out 0 _ rfl;have m1:=A4 HI7.out 1 _ rfl;have m2:=A4 HI7.out 2 _ rfl;have m3:=A4 HI7.out 3 _ rfl;go_wp2_with fail;refine(KFR.out _ HBW3.out).mono ?_;rintro e w4 ⟨rfl,hb4⟩;have HB8:=hid (A8 HB3.out hb4);have HS8:=hid (A5 hb4 HS7.out);have HR8:=hid (A5 hb4 HR7.out);clear hb4 l0 l1 l2 l3 l4 l5 m0 m1 m2 m3;cases bf with
        | true=>
          go_upto_region 10 with fail
          have HLD:=hid (Az HS8.out);go_wp2_with (first
           | ((with_reducible refine Aj (op:=⟨some 70,_,_,_,_,_⟩) rfl 65 _ rfl _ _ ?_ HLD.out ?_);(· rfl)))
          refine(Ko s n _ HN63.out HSO.out).mono ?_;rintro e wz ⟨rfl,hbz⟩;have HRZ:=hid (A5 hbz HR8.out);have HBZ:=hid (A8 HB8.out hbz);clear hbz;obtain⟨hst,hq9,ho9⟩:=AN (s':=BI s n) HRZ.out;have HST:=hid hst;have HQ9:=hid hq9;have HB9:Hid (Below w.heap.size w (wz.setCells gr 0 (Ai (BI s n)))):=hid (Ag.below HBZ.out HGR.out HBZ.out.size ho9);clear hst hq9 ho9;go_wp2_with (first
           | ((with_reducible refine Am (op:=⟨none,.store 65 _ _,_,_,_,_⟩) rfl 65 _ _ rfl _ _ ?_ ?_ _ HST.out ?_);(· rfl);(· rfl)))
          (try simp only[Exit.inBlock,Exit.then])
          refine bodyPost_ret (results_cell_row (g:=gr) rfl _ _ 65 (Ai (BI s n)).toArray (0,0) _ rfl HQ9.out Tryz.underlying65 rfl (by rw[List.size_toArray,AU];exact Bd)) rfl ?_;rw[KQ HU.out HF1.out HCA.out HT0.out,HFR.out,if_pos rfl];exact⟨rfl,HB9.out⟩
        | false=>
          go_upto_region 11 with fail
          have HLD:=hid (Az HS8.out);obtain⟨hst,hq9,ho9⟩:=AN (s':=s) HR8.out;have HST:=hid hst;have HQ9:=hid hq9;have HB9:Hid (Below w.heap.size w (w4.setCells gr 0 (Ai s))):=hid (Ag.below HB8.out HGR.out HB8.out.size ho9);clear hst hq9 ho9;go_wp2_with (first
           | ((with_reducible refine Aj (op:=⟨some 73,_,_,_,_,_⟩) rfl 65 _ rfl _ _ ?_ HLD.out ?_);(· rfl))
           | ((with_reducible refine Am (op:=⟨none,.store 65 _ _,_,_,_,_⟩) rfl 65 _ _ rfl _ _ ?_ ?_ _ HST.out ?_);(· rfl);(· rfl)))
          (try simp only[Exit.inBlock,Exit.then])
          refine bodyPost_ret (results_cell_row (g:=gr) rfl _ _ 65 (Ai s).toArray (0,0) _ rfl HQ9.out Tryz.underlying65 rfl (by rw[List.size_toArray,AU];exact Bd)) rfl ?_;exact⟨by rw[KQ HU.out HF1.out HCA.out HT0.out,HFR.out];rfl,HB9.out⟩
end Go.Proofs.YtpohoannggdbjaaGreat
