/- Layer 10: the document's set. -/
import Derived.Test.YtpohoannggdbjaaGreatIxTa
namespace Go.Proofs.YtpohoannggdbjaaGreat
open Lib (hid)
open Go.RowKit
set_option maxRecDepth 100000
attribute [local irreducible] Sl.v Aa pw Ab Ax C4 Ai BG Cs Bi Bf B7 Cr BO AT Bk Bw BD Bh Bg BQ Bj BI BC BM AD AS AR Bc BB Bq CT Mc.tb BU AQ Aq AW
attribute [local irreducible] B6 CQ Bs BN Rt.tr Rt.nd Aw BS As
attribute [local irreducible] DB
attribute [local irreducible] PM
set_option maxHeartbeats 16000000 in
theorem Oz(L:AM)(s:St)(oc no re:Nat)(ia:Option Addr)(il ic:Nat)(n:Nat)(x:Rt)(w:World)(hL:B5 w L)(hc:(Aq L).1=0)(hs:s.ok)(ho:oc<18446744073709551616)(hx:L.rt.l[n]?=some x) :
 Calls Tryz.prog 74 #[.agg #[L.se.v,L.po.v,L.sg.v,L.rt.v],.agg (Ai s).toArray,.agg #[.int .u64 (oc:Int),.int .u32 (no:Int),.int .u32 (re:Int),.slice ia il ic],.int .i64 (n:Int)] w fun e w'=>e = .returned (.bool (B7 (B6 L) s oc n (CQ L n x)))∧Below w.heap.size w w':=by
 have HMAY:Hid (AQ L=true):=hid (AP hc);have HS4:Hid (L.rt.l.length≤64):=hid (Ay (AP hc)).2.2.2;have HCK:=hid hc;have h63:n≤63:=by have h1:=(List.getElem?_eq_some_iff.1 hx).1;have:=HS4.out;omega
 have hxm:=List.mem_of_getElem? hx;have HXR:=hid hx;obtain⟨bl,hbl⟩:∃ b,Aa s.lk n=b:=⟨_,rfl⟩;obtain⟨bf,hbf⟩:∃ b,Bi oc (CQ L n x)=b:=⟨_,rfl⟩;obtain⟨bc,hbc⟩:∃ b,(BN L (n:Int)).any (fun k=>Aa s.lk k.toNat)=b:=⟨_,rfl⟩;obtain⟨bd,hbd⟩:∃ b,x.nd.any (Bf (B6 L) s oc)=b:=⟨_,rfl⟩;have HRES:Hid (B7 (B6 L) s oc n (CQ L n x)=(!bl && (bf && (!bc && !bd)))):=hid (by rw[Kq,hbl,hbf,Qv,hbc,Gf,hbd]);have HZD:=hid hbd;have HCF:Hid (bl=false→(List.range L.rt.l.length).any (PM L x s)=bc):=hid (fun h=>(OO HMAY.out hx (hbl.trans h)).trans hbc);have KHN:Hid (∀ V,Calls Tryz.prog 43 #[.int .u64 (s.lk:Int),.int .i64 (n:Int)] V fun e w'=>e = .returned (.bool bl)∧Below V.heap.size V w'):=hid (fun V=>Ct bl s.lk n V h63 hs.lk hbl);have KCF:Hid (∀ y∈L.rt.l,∀ V,Below w.heap.size w V→Calls Tryz.prog 100 #[.agg #[L.se.v,L.po.v,L.sg.v,L.rt.v],.agg #[.string x.nm,.int .i64 x.sg,x.pa.v,x.po.v,x.ov.v,x.fl.v],.agg #[.string y.nm,.int .i64 y.sg,y.pa.v,y.po.v,y.ov.v,y.fl.v]] V fun e w'=>e = .returned (.bool (Aw L x y))∧Below V.heap.size V w'):=hid (fun y hy V hV=>(Gp L x y V (AP hc) (hL.below hV) hxm hy).mono (fun _ _ h=>⟨h.1,h.2⟩));have HSO:=hid hs;have HOC:=hid ho;obtain⟨n1,hn1⟩:∃ n,L.se.l.length=n:=⟨_,rfl⟩;obtain⟨n2,hn2⟩:∃ n,L.po.l.length=n:=⟨_,rfl⟩;obtain⟨n3,hn3⟩:∃ n,L.sg.l.length=n:=⟨_,rfl⟩;obtain⟨n4,hn4⟩:∃ n,L.rt.l.length=n:=⟨_,rfl⟩;have HLW:=hid hL;have HN1:=hid hn1;have HN2:=hid hn2;have HN3:=hid hn3;have HN4:=hid hn4;have HNLT:Hid (n<n4):=hid (by rw[← hn4];exact(List.getElem?_eq_some_iff.1 hx).1);rw[hn4] at HS4 HCF;rw[Ak hn1,Ak hn2,Ak hn3,Ak hn4] at KCF ⊢;clear hn1 hn2 hn3 hn4 hL hc hs ho h63 hbl hbc hbd;go_enter Tryz.func74,Tryz.ntmps74;go_upto_region 1 with fail
 refine Ap (os:=[.cells #[.slice L.se.a n1 L.se.c,.slice L.po.a n2 L.po.c,.slice L.sg.a n3 L.sg.c,.slice L.rt.a n4 L.rt.c] 27,.cells (Ai s).toArray 65,.cells #[.int .u64 (oc:Int),.int .u32 (no:Int),.int .u32 (re:Int),.slice ia il ic] 35]) (w0:=w) rfl ?_;intro W hat hbw;obtain⟨gl,hgl⟩:∃ g,g=w.heap.size:=⟨_,rfl⟩;have q0:=hat 0 _ rfl;obtain⟨gs,hgs⟩:∃ g,g=gl+1:=⟨_,rfl⟩;have q1:=hat 1 _ rfl;obtain⟨gi,hgi⟩:∃ g,g=gs+1:=⟨_,rfl⟩;have q2:=hat 2 _ rfl;rw[Nat.add_zero,← hgl] at q0;rw[← hgl,← hgs] at q1;rw[← hgl,show gl+2=gi by omega] at q2;rw[← hgl,← hgs,← hgi];have HQl:=hid q0;have HQs:=hid q1;have HQi:=hid q2;have HB0:=hid hbw;clear hat hbw q0 q1 q2 hgl hgs hgi;have HBX:=HB0;rcases HLW.out.rt.row with hnil | ⟨xb,off,hxb,hc0⟩
 ·rw[hnil] at hx;cases hx
 have hc:=fun i c hi j v hv=>cell_later (HB0.out) (hc0 i c hi j v hv)
 have hyx:=hx;have z0:=hc n _ hyx 0 _ rfl;have z1:=hc n _ hyx 1 _ rfl;have z2:=hc n _ hyx 2 _ rfl;have z3:=hc n _ hyx 3 _ rfl;have z4:=hc n _ hyx 4 _ rfl;have z5:=hc n _ hyx 5 _ rfl;rw[Nat.add_zero] at z0;obtain⟨p1,hp1⟩:∃ n,x.pa.l.length=n:=⟨_,rfl⟩;obtain⟨p2,hp2⟩:∃ n,x.po.l.length=n:=⟨_,rfl⟩;obtain⟨p3,hp3⟩:∃ n,x.ov.l.length=n:=⟨_,rfl⟩;obtain⟨p4,hp4⟩:∃ n,x.fl.l.length=n:=⟨_,rfl⟩;rw[Ak hp1] at z2;rw[Ak hp2] at z3;rw[Ak hp3] at z4;rw[Ak hp4] at z5;have HZX:=hid (And.intro z0 (And.intro z1 (And.intro z2 (And.intro z3 (And.intro z4 z5)))));clear z0 z1 z2 z3 z4 z5;have KFR:Hid (∀ V,Below W.heap.size W V→Calls Tryz.prog 78 #[.agg #[.string x.nm,.int .i64 x.sg,.slice x.pa.a p1 x.pa.c,.slice x.po.a p2 x.po.c,.slice x.ov.a p3 x.ov.c,.slice x.fl.a p4 x.fl.c],.agg #[.int .u64 (oc:Int),.int .u32 (no:Int),.int .u32 (re:Int),.slice ia il ic]] V fun e w'=>e = .returned (.bool bf)∧Below V.heap.size V w'):=hid (fun V hV=>by
  have ok:=Bn HMAY.out x hxm;have h:=FP (!bf) oc no re ia il ic x V ((HLW.out.rn x hxm).below (A8 HBX.out hV)) (by have:=ok.pa;have:=ok.ov;omega) (fun k hk=>by have h:=Lc HMAY.out x hxm k hk;have:=(Ay HMAY.out).1;omega) HOC.out (by rw[Ho] at hbf;rw[← hbf,Bool.not_not]);rw[Ak hp1,Ak hp2,Ak hp3,Ak hp4,Bool.not_not] at h;exact h)
 have KND:Hid (∀ V,Below W.heap.size W V→Calls Tryz.prog 70 #[.agg #[.string x.nm,.int .i64 x.sg,x.pa.v,x.po.v,x.ov.v,x.fl.v]] V fun e w'=>∃ a n c,e = .returned (.slice a n c)∧n=x.nd.length∧B8 2 Cz w' ⟨a,c,x.nd⟩∧Below V.heap.size V w'):=hid (fun V hV=>by
  have ok:=Bn HMAY.out x hxm;have h:=Dr x V ((HLW.out.rn x hxm).below (A8 (HB0.out) hV)) (by have:=ok.po;have:=ok.fl;omega);unfold Rt.nd;rw[List.length_append];exact h)
 have HNL:Hid (x.nd.length≤100000):=hid (by have ok:=Bn HMAY.out x hxm;have:=ok.po;have:=ok.fl;unfold Rt.nd;rw[List.length_append];omega);have HNB:Hid (∀ n∈x.nd,0≤n.1∧n.1≤31):=hid (fun n hn=>by have h:=Lv HMAY.out x hxm n hn;have:=(Ay HMAY.out).2.1;omega);rw[Ak hp1,Ak hp2,Ak hp3,Ak hp4] at KND;rw[Ak hp1,Ak hp2,Ak hp3,Ak hp4] at KCF;obtain⟨X,hX⟩:∃ a,L.rt.a=a:=⟨_,rfl⟩;have hql:=HQl.out;rw[hX] at hxb hql KCF ⊢;subst hxb;have HQl:=hid hql;have HROW:=hid hc0;have hql:=A4 HQl.out 3 _ rfl;obtain⟨z0,z1,z2,z3,z4,z5⟩:=HZX.out;have d1:(0:Int)≤n:=by omega
 have d2:(n:Int)<n4:=by have:=HNLT.out;omega
 clear hx hyx hc hc0 hbf hp1 hp2 hp3 hp4 hxm hX;go_upto_region 2 with fail
 have hbn:=Ac W (.cells #[.string x.nm,.int .i64 x.sg,.slice x.pa.a p1 x.pa.c,.slice x.po.a p2 x.po.c,.slice x.ov.a p3 x.ov.c,.slice x.fl.a p4 x.fl.c] 52);have hqn:=Ao W (.cells #[.string x.nm,.int .i64 x.sg,.slice x.pa.a p1 x.pa.c,.slice x.po.a p2 x.po.c,.slice x.ov.a p3 x.ov.c,.slice x.fl.a p4 x.fl.c] 52) (Below.refl _ _);obtain⟨V,hV⟩:∃ V,V=W.alloc (.cells #[.string x.nm,.int .i64 x.sg,.slice x.pa.a p1 x.pa.c,.slice x.po.a p2 x.po.c,.slice x.ov.a p3 x.ov.c,.slice x.fl.a p4 x.fl.c] 52):=⟨_,rfl⟩;rw[← hV] at hbn hqn ⊢;obtain⟨g9,hg9⟩:∃ g,g=W.heap.size:=⟨_,rfl⟩;rw[← hg9] at hqn ⊢;have HBV:=hid (A8 HB0.out hbn);have HBWV:=hid hbn;have HQ9:=hid hqn;have s0:=A4 (A5 hbn HQs.out) 0 _ (Dl s);clear hbn hqn hV hg9 hql z0 z1 z2 z3 z4 z5 d1 d2;go_wp2_with fail;refine(KHN.out _).mono ?_;rintro e w1 ⟨rfl,hb1⟩;have HB1:=hid (A8 HBV.out hb1);have HBW1:=hid (A8 HBWV.out hb1);have HX1:=hid (A5 hb1 HQ9.out);clear hb1 s0 HQ9 KHN;cases bl with
 | true=>
   go_wp2_with fail;go_ret;exact⟨by rw[HRES.out];rfl,HB1.out⟩
 | false=>
   have l0:=A4 HX1.out 0 _ rfl;have l1:=A4 HX1.out 1 _ rfl;have l2:=A4 HX1.out 2 _ rfl;have l3:=A4 HX1.out 3 _ rfl;have l4:=A4 HX1.out 4 _ rfl;have l5:=A4 HX1.out 5 _ rfl;have m0:=A4 (A5 HBW1.out HQi.out) 0 _ rfl;have m1:=A4 (A5 HBW1.out HQi.out) 1 _ rfl;have m2:=A4 (A5 HBW1.out HQi.out) 2 _ rfl;have m3:=A4 (A5 HBW1.out HQi.out) 3 _ rfl;go_wp2_with fail;refine(KFR.out _ HBW1.out).mono ?_;rintro e w2 ⟨rfl,hb2⟩;have HB2:=hid (A8 HB1.out hb2);have HBW2:=hid (A8 HBW1.out hb2);have HX2:=hid (A5 hb2 HX1.out);clear hb2 l0 l1 l2 l3 l4 l5 m0 m1 m2 m3 HX1;cases bf with
   | false=>
     go_wp2_with fail;go_ret;exact⟨by rw[HRES.out];rfl,HB2.out⟩
   | true=>
     go_upto_region 5 with fail
     go_loopg [10] n4 (fun g v wr=>∃ i:Nat,i+g=n4∧v = .int .i64 (i:Int)∧(List.range i).any (PM L x s)=false∧Below w2.heap.size w2 wr)
     case atStart=>exact⟨0,by omega,rfl,NJ,Below.refl _ _⟩
     case round=>
      obtain⟨i,hi,rfl,ho,hbw⟩:=hrel;have HI:=hid hi;have HF:=hid ho;have HB:=hid hbw;have HBWR:=hid (A8 HBW2.out hbw);have HLR:=hid (A5 HBWR.out HQl.out);have HSR:=hid (A5 HBWR.out HQs.out);have HXR9:=hid (A5 hbw HX2.out);have l3:=A4 HLR.out 3 _ rfl;clear hi ho hbw;by_cases hlt:i<n4
      ·have d1:(0:Int)≤i:=by omega
       have d2:(i:Int)<n4:=by omega
       have e1:=Bp hlt (Nat.le_trans HS4.out (by decide));have HLT:=hid hlt;have hc:=fun i c hi j v hv=>cell_later (A8 HB0.out HBWR.out) (HROW.out i c hi j v hv)
       obtain⟨y,hyy⟩:∃ y,L.rt.l[i]?=some y:=⟨_,List.getElem?_eq_getElem (by rw[HN4.out];exact hlt)⟩;have z0:=hc i _ hyy 0 _ rfl;have z1:=hc i _ hyy 1 _ rfl;have z2:=hc i _ hyy 2 _ rfl;have z3:=hc i _ hyy 3 _ rfl;have z4:=hc i _ hyy 4 _ rfl;have z5:=hc i _ hyy 5 _ rfl;rw[Nat.add_zero] at z0;obtain⟨q1,hq1⟩:∃ n,y.pa.l.length=n:=⟨_,rfl⟩;obtain⟨q2,hq2⟩:∃ n,y.po.l.length=n:=⟨_,rfl⟩;obtain⟨q3,hq3⟩:∃ n,y.ov.l.length=n:=⟨_,rfl⟩;obtain⟨q4,hq4⟩:∃ n,y.fl.l.length=n:=⟨_,rfl⟩;rw[Ak hq1] at z2;rw[Ak hq2] at z3;rw[Ak hq3] at z4;rw[Ak hq4] at z5;have HZY:=hid (And.intro z0 (And.intro z1 (And.intro z2 (And.intro z3 (And.intro z4 z5)))));clear z0 z1 z2 z3 z4 z5;have hym:=List.mem_of_getElem? hyy;have HYY:=hid hyy;obtain⟨b1,hb1⟩:∃ b,Aa s.lk i=b:=⟨_,rfl⟩;obtain⟨b2,hb2⟩:∃ b,Aw L x y=b:=⟨_,rfl⟩;have HCD:Hid (PM L x s i=(b1 && b2)):=hid (by rw[JC hyy,hb1,hb2]);have KHS:Hid (∀ V,Calls Tryz.prog 43 #[.int .u64 (s.lk:Int),.int .i64 (i:Int)] V fun e w'=>e = .returned (.bool b1)∧Below V.heap.size V w'):=hid (fun V=>Ct b1 s.lk i V (by have:=HLT.out;have:=HS4.out;omega) HSO.out.lk hb1);have KHSW:Hid (∀ w',Below wr.heap.size wr w'→Calls Tryz.prog 43 #[.int .u64 (s.lk:Int),.int .i64 (i:Int)] w' fun e w''=>e = .returned (.bool b1)∧Below wr.heap.size wr w''):=hid (fun w' hw'=>(KHS.out w').mono (fun _ _ h=>⟨h.1,A8 hw' h.2⟩));have KC1:=hid (KCF.out y hym);rw[Ak hq1,Ak hq2,Ak hq3,Ak hq4,hb2] at KC1;have KCFW:Hid (∀ w',Below wr.heap.size wr w'→Calls Tryz.prog 100 #[.agg #[.slice L.se.a n1 L.se.c,.slice L.po.a n2 L.po.c,.slice L.sg.a n3 L.sg.c,.slice (some ⟨xb,off,none⟩) n4 L.rt.c],.agg #[.string x.nm,.int .i64 x.sg,.slice x.pa.a p1 x.pa.c,.slice x.po.a p2 x.po.c,.slice x.ov.a p3 x.ov.c,.slice x.fl.a p4 x.fl.c],.agg #[.string y.nm,.int .i64 y.sg,.slice y.pa.a q1 y.pa.c,.slice y.po.a q2 y.po.c,.slice y.ov.a q3 y.ov.c,.slice y.fl.a q4 y.fl.c]] w' fun e w''=>e = .returned (.bool b2)∧Below wr.heap.size wr w''):=hid (fun w' hw'=>(KC1.out w' (A8 HB0.out (A8 HBWR.out hw'))).mono (fun _ _ h=>⟨h.1,A8 hw' h.2⟩));clear hc hyy hym hq1 hq2 hq3 hq4 hlt hb1 hb2 KC1 KHS;have HGO:Hid ((b1 && b2)=false→(List.range (i+1)).any (PM L x s)=false):=hid (fun h=>S5 HF.out (HCD.out.trans h));cases b1 with
       | false=>
         go_upto_region 7 with fail
         refine Ae (by kernel_rfl) ?_ ?_
         ·kernel_rfl
         repeat first
          | go_big_quiet_skip
          | (go_big_quiet_want;go_big_quiet_op;go_big_quiet_on)
          | (with_reducible apply wpQuiet_step
             intro K hK;go_simp;first
              | (refine hK _ ?_;clear hK K)
              | (apply Exists.intro
                 refine⟨fun w' hw'=>?_,hK _ ?_⟩
                 ·
                  (first
                   | with_reducible exact KHSW.out _ hw'
                   | with_reducible exact KCFW.out _ hw'
                   | (have s0:=A4 (A5 hw' HSR.out) 0 _ (Dl s)
                      go_simp;first | done | with_reducible exact rfl | with_reducible exact⟨rfl,rfl⟩ | with_reducible exact KHSW.out _ hw' | with_reducible exact KCFW.out _ hw')
                   | (have g0:=A4 (A5 hw' HLR.out) 0 _ rfl
                      have g1:=A4 (A5 hw' HLR.out) 1 _ rfl;have g2:=A4 (A5 hw' HLR.out) 2 _ rfl;have g3:=A4 (A5 hw' HLR.out) 3 _ rfl;go_simp;first | done | with_reducible exact rfl | with_reducible exact⟨rfl,rfl⟩ | with_reducible exact KHSW.out _ hw' | with_reducible exact KCFW.out _ hw')
                   | (have g0:=A4 (A5 hw' HXR9.out) 0 _ rfl
                      have g1:=A4 (A5 hw' HXR9.out) 1 _ rfl;have g2:=A4 (A5 hw' HXR9.out) 2 _ rfl;have g3:=A4 (A5 hw' HXR9.out) 3 _ rfl;have g4:=A4 (A5 hw' HXR9.out) 4 _ rfl;have g5:=A4 (A5 hw' HXR9.out) 5 _ rfl;go_simp;first | done | with_reducible exact rfl | with_reducible exact⟨rfl,rfl⟩ | with_reducible exact KHSW.out _ hw' | with_reducible exact KCFW.out _ hw')
                   | (have z0:=cell_later hw' HZY.out.1
                      have z1:=cell_later hw' HZY.out.2.1;have z2:=cell_later hw' HZY.out.2.2.1;have z3:=cell_later hw' HZY.out.2.2.2.1;have z4:=cell_later hw' HZY.out.2.2.2.2.1;have z5:=cell_later hw' HZY.out.2.2.2.2.2;go_simp;first | done | with_reducible exact rfl | with_reducible exact⟨rfl,rfl⟩ | with_reducible exact KHSW.out _ hw' | with_reducible exact KCFW.out _ hw'))
                 clear hK K))
         refine wpQuiet_nil ?_;intro w7 hw7;have HB7:=hid (A8 HB.out hw7);clear hw7;go_wp2_with fail;go_roundg (n4 - (i+1))
         case rel=>exact⟨i+1,AK HI.out HLT.out,by go_num,HGO.out rfl,HB7.out⟩
         case measure=>exact AL HI.out HLT.out
       | true=>
         cases b2 with
         | false=>
           go_upto_region 7 with fail
           refine Ae (by kernel_rfl) ?_ ?_
           ·kernel_rfl
           repeat first
            | go_big_quiet_skip
            | (go_big_quiet_want;go_big_quiet_op;go_big_quiet_on)
            | (with_reducible apply wpQuiet_step
               intro K hK;go_simp;first
                | (refine hK _ ?_;clear hK K)
                | (apply Exists.intro
                   refine⟨fun w' hw'=>?_,hK _ ?_⟩
                   ·
                    (first
                     | with_reducible exact KHSW.out _ hw'
                     | with_reducible exact KCFW.out _ hw'
                     | (have s0:=A4 (A5 hw' HSR.out) 0 _ (Dl s)
                        go_simp;first | done | with_reducible exact rfl | with_reducible exact⟨rfl,rfl⟩ | with_reducible exact KHSW.out _ hw' | with_reducible exact KCFW.out _ hw')
                     | (have g0:=A4 (A5 hw' HLR.out) 0 _ rfl
                        have g1:=A4 (A5 hw' HLR.out) 1 _ rfl;have g2:=A4 (A5 hw' HLR.out) 2 _ rfl;have g3:=A4 (A5 hw' HLR.out) 3 _ rfl;go_simp;first | done | with_reducible exact rfl | with_reducible exact⟨rfl,rfl⟩ | with_reducible exact KHSW.out _ hw' | with_reducible exact KCFW.out _ hw')
                     | (have g0:=A4 (A5 hw' HXR9.out) 0 _ rfl
                        have g1:=A4 (A5 hw' HXR9.out) 1 _ rfl;have g2:=A4 (A5 hw' HXR9.out) 2 _ rfl;have g3:=A4 (A5 hw' HXR9.out) 3 _ rfl;have g4:=A4 (A5 hw' HXR9.out) 4 _ rfl;have g5:=A4 (A5 hw' HXR9.out) 5 _ rfl;go_simp;first | done | with_reducible exact rfl | with_reducible exact⟨rfl,rfl⟩ | with_reducible exact KHSW.out _ hw' | with_reducible exact KCFW.out _ hw')
                     | (have z0:=cell_later hw' HZY.out.1
                        have z1:=cell_later hw' HZY.out.2.1;have z2:=cell_later hw' HZY.out.2.2.1;have z3:=cell_later hw' HZY.out.2.2.2.1;have z4:=cell_later hw' HZY.out.2.2.2.2.1;have z5:=cell_later hw' HZY.out.2.2.2.2.2;go_simp;first | done | with_reducible exact rfl | with_reducible exact⟨rfl,rfl⟩ | with_reducible exact KHSW.out _ hw' | with_reducible exact KCFW.out _ hw'))
                   clear hK K))
           refine wpQuiet_nil ?_;intro w7 hw7;have HB7:=hid (A8 HB.out hw7);clear hw7;go_wp2_with fail;go_roundg (n4 - (i+1))
           case rel=>exact⟨i+1,AK HI.out HLT.out,by go_num,HGO.out rfl,HB7.out⟩
           case measure=>exact AL HI.out HLT.out
         | true=>
           go_upto_region 7 with fail
           refine Ae (by kernel_rfl) ?_ ?_
           ·kernel_rfl
           repeat first
            | go_big_quiet_skip
            | (go_big_quiet_want;go_big_quiet_op;go_big_quiet_on)
            | (with_reducible apply wpQuiet_step
               intro K hK;go_simp;first
                | (refine hK _ ?_;clear hK K)
                | (apply Exists.intro
                   refine⟨fun w' hw'=>?_,hK _ ?_⟩
                   ·
                    (first
                     | with_reducible exact KHSW.out _ hw'
                     | with_reducible exact KCFW.out _ hw'
                     | (have s0:=A4 (A5 hw' HSR.out) 0 _ (Dl s)
                        go_simp;first | done | with_reducible exact rfl | with_reducible exact⟨rfl,rfl⟩ | with_reducible exact KHSW.out _ hw' | with_reducible exact KCFW.out _ hw')
                     | (have g0:=A4 (A5 hw' HLR.out) 0 _ rfl
                        have g1:=A4 (A5 hw' HLR.out) 1 _ rfl;have g2:=A4 (A5 hw' HLR.out) 2 _ rfl;have g3:=A4 (A5 hw' HLR.out) 3 _ rfl;go_simp;first | done | with_reducible exact rfl | with_reducible exact⟨rfl,rfl⟩ | with_reducible exact KHSW.out _ hw' | with_reducible exact KCFW.out _ hw')
                     | (have g0:=A4 (A5 hw' HXR9.out) 0 _ rfl
                        have g1:=A4 (A5 hw' HXR9.out) 1 _ rfl;have g2:=A4 (A5 hw' HXR9.out) 2 _ rfl;have g3:=A4 (A5 hw' HXR9.out) 3 _ rfl;have g4:=A4 (A5 hw' HXR9.out) 4 _ rfl;have g5:=A4 (A5 hw' HXR9.out) 5 _ rfl;go_simp;first | done | with_reducible exact rfl | with_reducible exact⟨rfl,rfl⟩ | with_reducible exact KHSW.out _ hw' | with_reducible exact KCFW.out _ hw')
                     | (have z0:=cell_later hw' HZY.out.1
                        have z1:=cell_later hw' HZY.out.2.1;have z2:=cell_later hw' HZY.out.2.2.1;have z3:=cell_later hw' HZY.out.2.2.2.1;have z4:=cell_later hw' HZY.out.2.2.2.2.1;have z5:=cell_later hw' HZY.out.2.2.2.2.2;go_simp;first | done | with_reducible exact rfl | with_reducible exact⟨rfl,rfl⟩ | with_reducible exact KHSW.out _ hw' | with_reducible exact KCFW.out _ hw'))
                   clear hK K))
           refine wpQuiet_nil ?_;intro w7 hw7;have HB7:=hid (A8 HB.out hw7);clear hw7;have HTT:Hid (bc=true):=hid ((HCF.out (by first | rfl | trivial)).symm.trans (QC HLT.out HCD.out));go_wp2_with fail;go_ret;exact⟨by rw[HRES.out,HTT.out];rfl,A8 HB2.out HB7.out⟩
      ·have d2:¬ ((i:Int)<n4):=by omega
       have HBC:Hid (bc=false):=hid (by rw[← HCF.out (by first | rfl | trivial),show n4=i by have:=HI.out;omega];exact HF.out);have HBE:=hid (A8 HB2.out HB.out);obtain⟨wq,hwq⟩:∃ W',W'=wr:=⟨_,rfl⟩;rw[← hwq] at HB HBWR HLR HSR HXR9 HBE l3 ⊢;clear hlt hwq;have y0:=A4 HXR9.out 0 _ rfl;have y1:=A4 HXR9.out 1 _ rfl;have y2:=A4 HXR9.out 2 _ rfl;have y3:=A4 HXR9.out 3 _ rfl;have y4:=A4 HXR9.out 4 _ rfl;have y5:=A4 HXR9.out 5 _ rfl;go_wp2_with fail;refine(KND.out _ HBWR.out).mono ?_;rintro e wn ⟨ta,tn,tc,rfl,htn,hT,hb1⟩;have HT:=hid hT.row;have HTN:=hid htn;have htm:tn≤100000:=by rw[htn];exact HNL.out
       have HTM:=hid htm;have HBN:=hid (A8 HBE.out hb1);have HBWN:=hid (A8 HBWR.out hb1);clear y0 y1 y2 y3 y4 y5 l3 d2 htn hT hb1 htm;go_upto_region 11 with fail
       go_loopg [12] tn (fun g v wq=>∃ k:Nat,k+g=tn∧v = .int .i64 (k:Int)∧(x.nd.take k).any (Bf (B6 L) s oc)=false∧Below wn.heap.size wn wq)
       case atStart=>exact⟨0,by omega,rfl,Id,Below.refl _ _⟩
       case round=>
        obtain⟨k,hk,rfl,ho,hbw⟩:=hrel;have HK:=hid hk;have HF2:=hid ho;have HBQ:=hid hbw;have HBWQ:=hid (A8 HBWN.out hbw);have HLR:=hid (A5 HBWQ.out HQl.out);have HSR:=hid (A5 HBWQ.out HQs.out);have HIR:=hid (A5 HBWQ.out HQi.out);clear hk ho hbw;by_cases hlk:k<tn
        ·skip
         have d3:(0:Int)≤k:=by omega
         have d4:(k:Int)<tn:=by omega
         have e2:=Bp hlk (Nat.le_trans HTM.out (by decide));have HLK:=hid hlk;obtain⟨⟨sj,B⟩,hs⟩:∃ s,x.nd[k]?=some s:=⟨_,List.getElem?_eq_getElem (by have:=HTN.out;omega)⟩;have HJP:Hid (0≤sj∧sj<(L.po.l.length:Int)):=hid (Lv HMAY.out x (List.mem_of_getElem? HXR.out) _ (List.mem_of_getElem? hs));have hsb:=HNB.out _ (List.mem_of_getElem? hs);dsimp only at hsb;obtain⟨j,rfl⟩:∃ j:Nat,sj=j:=⟨sj.toNat,by omega⟩;have HJ31:Hid (j≤31):=hid (by omega);obtain⟨A,hA⟩:∃ x,ta=x:=⟨_,rfl⟩;have HAA:=hid hA;have hrow:=HT.out;rw[hA] at hrow ⊢;rcases hrow with hnil | ⟨tb,toff,htb,ht0⟩
         ·have:=HTN.out;rw[hnil] at this;simp at this;omega
         subst htb;have t0:=cell_later HBQ.out (ht0 k _ hs 0 (.int .i64 (j:Int)) rfl);have t1:=cell_later HBQ.out (ht0 k _ hs 1 (.bool B) rfl);rw[Nat.add_zero] at t0;have HSK:=hid hs;have HT0:=hid t0;have HT1:=hid t1;clear t0 t1 ht0 hs hsb hlk hA;obtain⟨⟨pn,ps⟩,hpt⟩:∃ p,L.po.l[j]?=some p:=⟨_,List.getElem?_eq_getElem (by have:=HJP.out;omega)⟩;have hps:0≤ps∧ps≤63:=by have h:=(IF HMAY.out).1 _ (List.mem_of_getElem? hpt);have h2:=(Ay HMAY.out).1;dsimp only at h;omega
         obtain⟨q,rfl⟩:∃ q:Nat,ps=q:=⟨ps.toNat,by omega⟩;obtain⟨PX,hPX⟩:∃ a,L.po.a=a:=⟨_,rfl⟩;have hrow:=HLW.out.po.row;have hlr:=HLR.out;rw[hPX] at hrow hlr ⊢;have HPX:=hid hPX;rcases hrow with hnil | ⟨ob,of_,hob,hoc⟩
         ·rw[hnil] at hpt;cases hpt
         subst hob;have HLR:=hid hlr;have HP1:Hid (wr.cell? ⟨ob,of_+j*2+1,none⟩=some (.int .i64 (q:Int))):=hid (cell_later (A8 HB0.out HBWQ.out) (hoc j _ hpt 1 _ rfl));have j3:(0:Int)≤j:=by omega
         have j4:(j:Int)<n2:=by have:=HJP.out;have:=HN2.out;omega
         obtain⟨D,hD⟩:∃ D,Aa s.pt j=D:=⟨_,rfl⟩;obtain⟨C,hC⟩:∃ D,Aa oc q=D:=⟨_,rfl⟩;obtain⟨E,hE⟩:∃ E,(D != B)=E:=⟨_,rfl⟩;have HND:Hid (Bf (B6 L) s oc ((j:Int),B)=(E && C)):=hid (by rw[OZ];dsimp only;rw[Int.toNat_natCast,hD,hE,PK hpt];dsimp only;rw[Int.toNat_natCast,hC]);have KRVW:Hid (∀ w',Below wr.heap.size wr w'→Calls Tryz.prog 101 #[.agg (Ai s).toArray,.int .i64 (j:Int)] w' fun e w''=>e = .returned (.bool D)∧Below wr.heap.size wr w''):=hid (fun w' hw'=>(NV D s j w' HJ31.out HSO.out hD).mono (fun _ _ h=>⟨h.1,A8 hw' h.2⟩));have KCLW:Hid (∀ w',Below wr.heap.size wr w'→Calls Tryz.prog 75 #[.agg #[.int .u64 (oc:Int),.int .u32 (no:Int),.int .u32 (re:Int),.slice ia il ic],.int .i64 (q:Int)] w' fun e w''=>e = .returned (.bool (!C))∧Below wr.heap.size wr w''):=hid (fun w' hw'=>(Du C oc no re ia il ic q w' (by omega) HOC.out hC).mono (fun _ _ h=>⟨h.1,A8 hw' h.2⟩));clear hpt hps hPX hoc hlr hD hC;subst hE;cases D with
         | false=>
           cases B with
           | false=>
             go_upto_region 13 with fail
             refine Ae (by kernel_rfl) ?_ ?_
             ·kernel_rfl
             repeat first
              | go_big_quiet_skip
              | (go_big_quiet_want
                 with_reducible refine Ad (o:=⟨some 57,_,_,_,_,_⟩) 65 _ rfl _ _ ?_ (fun w' hw'=>Az (A5 hw' HSR.out)) ?_
                 ·rfl
                 simp only[Act.put,List.setIfInBounds_toArray,List.set_cons_zero,List.set_cons_succ];go_big_quiet_on)
              | (go_big_quiet_want;go_big_quiet_op;go_big_quiet_on)
              | (with_reducible apply wpQuiet_step
                 intro K hK;go_simp;first
                  | (refine hK _ ?_;clear hK K)
                  | (apply Exists.intro
                     refine⟨fun w' hw'=>?_,hK _ ?_⟩
                     ·
                      (first
                       | with_reducible exact KRVW.out _ hw'
                       | with_reducible exact KCLW.out _ hw'
                       | (have t0:=cell_later hw' HT0.out
                          go_simp;first | done | with_reducible exact rfl | with_reducible exact⟨rfl,rfl⟩ | with_reducible exact KRVW.out _ hw' | with_reducible exact KCLW.out _ hw')
                       | (have t1:=cell_later hw' HT1.out
                          go_simp;first | done | with_reducible exact rfl | with_reducible exact⟨rfl,rfl⟩ | with_reducible exact KRVW.out _ hw' | with_reducible exact KCLW.out _ hw')
                       | (have g0:=A4 (A5 hw' HIR.out) 0 _ rfl
                          have g1:=A4 (A5 hw' HIR.out) 1 _ rfl;have g2:=A4 (A5 hw' HIR.out) 2 _ rfl;have g3:=A4 (A5 hw' HIR.out) 3 _ rfl;go_simp;first | done | with_reducible exact rfl | with_reducible exact⟨rfl,rfl⟩ | with_reducible exact KRVW.out _ hw' | with_reducible exact KCLW.out _ hw')
                       | (have g0:=A4 (A5 hw' HLR.out) 0 _ rfl
                          have g1:=A4 (A5 hw' HLR.out) 1 _ rfl;have g2:=A4 (A5 hw' HLR.out) 2 _ rfl;have g3:=A4 (A5 hw' HLR.out) 3 _ rfl;go_simp;first | done | with_reducible exact rfl | with_reducible exact⟨rfl,rfl⟩ | with_reducible exact KRVW.out _ hw' | with_reducible exact KCLW.out _ hw')
                       | (have p1:=cell_later hw' HP1.out
                          go_simp;first | done | with_reducible exact rfl | with_reducible exact⟨rfl,rfl⟩ | with_reducible exact KRVW.out _ hw' | with_reducible exact KCLW.out _ hw'))
                     clear hK K))
             refine wpQuiet_nil ?_;intro w7 hw7;have HB7:=hid (A8 HBQ.out hw7);clear hw7;have HN:Hid ((x.nd.take (k+1)).any (Bf (B6 L) s oc)=false):=hid (Fe HSK.out HF2.out HND.out);go_wp2_with fail;rw[← HAA.out,← HPX.out];go_roundg (tn - (k+1))
             case rel=>exact⟨k+1,AK HK.out HLK.out,by go_num,HN.out,HB7.out⟩
             case measure=>exact AL HK.out HLK.out
           | true=>
             cases C with
             | false=>
               go_upto_region 13 with fail
               refine Ae (by kernel_rfl) ?_ ?_
               ·kernel_rfl
               repeat first
                | go_big_quiet_skip
                | (go_big_quiet_want
                   with_reducible refine Ad (o:=⟨some 57,_,_,_,_,_⟩) 65 _ rfl _ _ ?_ (fun w' hw'=>Az (A5 hw' HSR.out)) ?_
                   ·rfl
                   simp only[Act.put,List.setIfInBounds_toArray,List.set_cons_zero,List.set_cons_succ];go_big_quiet_on)
                | (go_big_quiet_want;go_big_quiet_op;go_big_quiet_on)
                | (with_reducible apply wpQuiet_step
                   intro K hK;go_simp;first
                    | (refine hK _ ?_;clear hK K)
                    | (apply Exists.intro
                       refine⟨fun w' hw'=>?_,hK _ ?_⟩
                       ·
                        (first
                         | with_reducible exact KRVW.out _ hw'
                         | with_reducible exact KCLW.out _ hw'
                         | (have t0:=cell_later hw' HT0.out
                            go_simp;first | done | with_reducible exact rfl | with_reducible exact⟨rfl,rfl⟩ | with_reducible exact KRVW.out _ hw' | with_reducible exact KCLW.out _ hw')
                         | (have t1:=cell_later hw' HT1.out
                            go_simp;first | done | with_reducible exact rfl | with_reducible exact⟨rfl,rfl⟩ | with_reducible exact KRVW.out _ hw' | with_reducible exact KCLW.out _ hw')
                         | (have g0:=A4 (A5 hw' HIR.out) 0 _ rfl
                            have g1:=A4 (A5 hw' HIR.out) 1 _ rfl;have g2:=A4 (A5 hw' HIR.out) 2 _ rfl;have g3:=A4 (A5 hw' HIR.out) 3 _ rfl;go_simp;first | done | with_reducible exact rfl | with_reducible exact⟨rfl,rfl⟩ | with_reducible exact KRVW.out _ hw' | with_reducible exact KCLW.out _ hw')
                         | (have g0:=A4 (A5 hw' HLR.out) 0 _ rfl
                            have g1:=A4 (A5 hw' HLR.out) 1 _ rfl;have g2:=A4 (A5 hw' HLR.out) 2 _ rfl;have g3:=A4 (A5 hw' HLR.out) 3 _ rfl;go_simp;first | done | with_reducible exact rfl | with_reducible exact⟨rfl,rfl⟩ | with_reducible exact KRVW.out _ hw' | with_reducible exact KCLW.out _ hw')
                         | (have p1:=cell_later hw' HP1.out
                            go_simp;first | done | with_reducible exact rfl | with_reducible exact⟨rfl,rfl⟩ | with_reducible exact KRVW.out _ hw' | with_reducible exact KCLW.out _ hw'))
                       clear hK K))
               refine wpQuiet_nil ?_;intro w7 hw7;have HB7:=hid (A8 HBQ.out hw7);clear hw7;have HN:Hid ((x.nd.take (k+1)).any (Bf (B6 L) s oc)=false):=hid (Fe HSK.out HF2.out HND.out);go_wp2_with fail;rw[← HAA.out,← HPX.out];go_roundg (tn - (k+1))
               case rel=>exact⟨k+1,AK HK.out HLK.out,by go_num,HN.out,HB7.out⟩
               case measure=>exact AL HK.out HLK.out
             | true=>
               go_upto_region 13 with fail
               refine Ae (by kernel_rfl) ?_ ?_
               ·kernel_rfl
               repeat first
                | go_big_quiet_skip
                | (go_big_quiet_want
                   with_reducible refine Ad (o:=⟨some 57,_,_,_,_,_⟩) 65 _ rfl _ _ ?_ (fun w' hw'=>Az (A5 hw' HSR.out)) ?_
                   ·rfl
                   simp only[Act.put,List.setIfInBounds_toArray,List.set_cons_zero,List.set_cons_succ];go_big_quiet_on)
                | (go_big_quiet_want;go_big_quiet_op;go_big_quiet_on)
                | (with_reducible apply wpQuiet_step
                   intro K hK;go_simp;first
                    | (refine hK _ ?_;clear hK K)
                    | (apply Exists.intro
                       refine⟨fun w' hw'=>?_,hK _ ?_⟩
                       ·
                        (first
                         | with_reducible exact KRVW.out _ hw'
                         | with_reducible exact KCLW.out _ hw'
                         | (have t0:=cell_later hw' HT0.out
                            go_simp;first | done | with_reducible exact rfl | with_reducible exact⟨rfl,rfl⟩ | with_reducible exact KRVW.out _ hw' | with_reducible exact KCLW.out _ hw')
                         | (have t1:=cell_later hw' HT1.out
                            go_simp;first | done | with_reducible exact rfl | with_reducible exact⟨rfl,rfl⟩ | with_reducible exact KRVW.out _ hw' | with_reducible exact KCLW.out _ hw')
                         | (have g0:=A4 (A5 hw' HIR.out) 0 _ rfl
                            have g1:=A4 (A5 hw' HIR.out) 1 _ rfl;have g2:=A4 (A5 hw' HIR.out) 2 _ rfl;have g3:=A4 (A5 hw' HIR.out) 3 _ rfl;go_simp;first | done | with_reducible exact rfl | with_reducible exact⟨rfl,rfl⟩ | with_reducible exact KRVW.out _ hw' | with_reducible exact KCLW.out _ hw')
                         | (have g0:=A4 (A5 hw' HLR.out) 0 _ rfl
                            have g1:=A4 (A5 hw' HLR.out) 1 _ rfl;have g2:=A4 (A5 hw' HLR.out) 2 _ rfl;have g3:=A4 (A5 hw' HLR.out) 3 _ rfl;go_simp;first | done | with_reducible exact rfl | with_reducible exact⟨rfl,rfl⟩ | with_reducible exact KRVW.out _ hw' | with_reducible exact KCLW.out _ hw')
                         | (have p1:=cell_later hw' HP1.out
                            go_simp;first | done | with_reducible exact rfl | with_reducible exact⟨rfl,rfl⟩ | with_reducible exact KRVW.out _ hw' | with_reducible exact KCLW.out _ hw'))
                       clear hK K))
               refine wpQuiet_nil ?_;intro w7 hw7;have HB7:=hid (A8 HBQ.out hw7);clear hw7;have HTT:Hid (bd=true):=hid (HZD.out.symm.trans (F7 HSK.out HND.out));go_wp2_with fail;go_ret;exact⟨by rw[HRES.out,HBC.out,HTT.out];rfl,A8 HBN.out HB7.out⟩
         | true=>
           cases B with
           | false=>
             cases C with
             | false=>
               go_upto_region 13 with fail
               refine Ae (by kernel_rfl) ?_ ?_
               ·kernel_rfl
               repeat first
                | go_big_quiet_skip
                | (go_big_quiet_want
                   with_reducible refine Ad (o:=⟨some 57,_,_,_,_,_⟩) 65 _ rfl _ _ ?_ (fun w' hw'=>Az (A5 hw' HSR.out)) ?_
                   ·rfl
                   simp only[Act.put,List.setIfInBounds_toArray,List.set_cons_zero,List.set_cons_succ];go_big_quiet_on)
                | (go_big_quiet_want;go_big_quiet_op;go_big_quiet_on)
                | (with_reducible apply wpQuiet_step
                   intro K hK;go_simp;first
                    | (refine hK _ ?_;clear hK K)
                    | (apply Exists.intro
                       refine⟨fun w' hw'=>?_,hK _ ?_⟩
                       ·
                        (first
                         | with_reducible exact KRVW.out _ hw'
                         | with_reducible exact KCLW.out _ hw'
                         | (have t0:=cell_later hw' HT0.out
                            go_simp;first | done | with_reducible exact rfl | with_reducible exact⟨rfl,rfl⟩ | with_reducible exact KRVW.out _ hw' | with_reducible exact KCLW.out _ hw')
                         | (have t1:=cell_later hw' HT1.out
                            go_simp;first | done | with_reducible exact rfl | with_reducible exact⟨rfl,rfl⟩ | with_reducible exact KRVW.out _ hw' | with_reducible exact KCLW.out _ hw')
                         | (have g0:=A4 (A5 hw' HIR.out) 0 _ rfl
                            have g1:=A4 (A5 hw' HIR.out) 1 _ rfl;have g2:=A4 (A5 hw' HIR.out) 2 _ rfl;have g3:=A4 (A5 hw' HIR.out) 3 _ rfl;go_simp;first | done | with_reducible exact rfl | with_reducible exact⟨rfl,rfl⟩ | with_reducible exact KRVW.out _ hw' | with_reducible exact KCLW.out _ hw')
                         | (have g0:=A4 (A5 hw' HLR.out) 0 _ rfl
                            have g1:=A4 (A5 hw' HLR.out) 1 _ rfl;have g2:=A4 (A5 hw' HLR.out) 2 _ rfl;have g3:=A4 (A5 hw' HLR.out) 3 _ rfl;go_simp;first | done | with_reducible exact rfl | with_reducible exact⟨rfl,rfl⟩ | with_reducible exact KRVW.out _ hw' | with_reducible exact KCLW.out _ hw')
                         | (have p1:=cell_later hw' HP1.out
                            go_simp;first | done | with_reducible exact rfl | with_reducible exact⟨rfl,rfl⟩ | with_reducible exact KRVW.out _ hw' | with_reducible exact KCLW.out _ hw'))
                       clear hK K))
               refine wpQuiet_nil ?_;intro w7 hw7;have HB7:=hid (A8 HBQ.out hw7);clear hw7;have HN:Hid ((x.nd.take (k+1)).any (Bf (B6 L) s oc)=false):=hid (Fe HSK.out HF2.out HND.out);go_wp2_with fail;rw[← HAA.out,← HPX.out];go_roundg (tn - (k+1))
               case rel=>exact⟨k+1,AK HK.out HLK.out,by go_num,HN.out,HB7.out⟩
               case measure=>exact AL HK.out HLK.out
             | true=>
               go_upto_region 13 with fail
               refine Ae (by kernel_rfl) ?_ ?_
               ·kernel_rfl
               repeat first
                | go_big_quiet_skip
                | (go_big_quiet_want
                   with_reducible refine Ad (o:=⟨some 57,_,_,_,_,_⟩) 65 _ rfl _ _ ?_ (fun w' hw'=>Az (A5 hw' HSR.out)) ?_
                   ·rfl
                   simp only[Act.put,List.setIfInBounds_toArray,List.set_cons_zero,List.set_cons_succ];go_big_quiet_on)
                | (go_big_quiet_want;go_big_quiet_op;go_big_quiet_on)
                | (with_reducible apply wpQuiet_step
                   intro K hK;go_simp;first
                    | (refine hK _ ?_;clear hK K)
                    | (apply Exists.intro
                       refine⟨fun w' hw'=>?_,hK _ ?_⟩
                       ·
                        (first
                         | with_reducible exact KRVW.out _ hw'
                         | with_reducible exact KCLW.out _ hw'
                         | (have t0:=cell_later hw' HT0.out
                            go_simp;first | done | with_reducible exact rfl | with_reducible exact⟨rfl,rfl⟩ | with_reducible exact KRVW.out _ hw' | with_reducible exact KCLW.out _ hw')
                         | (have t1:=cell_later hw' HT1.out
                            go_simp;first | done | with_reducible exact rfl | with_reducible exact⟨rfl,rfl⟩ | with_reducible exact KRVW.out _ hw' | with_reducible exact KCLW.out _ hw')
                         | (have g0:=A4 (A5 hw' HIR.out) 0 _ rfl
                            have g1:=A4 (A5 hw' HIR.out) 1 _ rfl;have g2:=A4 (A5 hw' HIR.out) 2 _ rfl;have g3:=A4 (A5 hw' HIR.out) 3 _ rfl;go_simp;first | done | with_reducible exact rfl | with_reducible exact⟨rfl,rfl⟩ | with_reducible exact KRVW.out _ hw' | with_reducible exact KCLW.out _ hw')
                         | (have g0:=A4 (A5 hw' HLR.out) 0 _ rfl
                            have g1:=A4 (A5 hw' HLR.out) 1 _ rfl;have g2:=A4 (A5 hw' HLR.out) 2 _ rfl;have g3:=A4 (A5 hw' HLR.out) 3 _ rfl;go_simp;first | done | with_reducible exact rfl | with_reducible exact⟨rfl,rfl⟩ | with_reducible exact KRVW.out _ hw' | with_reducible exact KCLW.out _ hw')
                         | (have p1:=cell_later hw' HP1.out
                            go_simp;first | done | with_reducible exact rfl | with_reducible exact⟨rfl,rfl⟩ | with_reducible exact KRVW.out _ hw' | with_reducible exact KCLW.out _ hw'))
                       clear hK K))
               refine wpQuiet_nil ?_;intro w7 hw7;have HB7:=hid (A8 HBQ.out hw7);clear hw7;have HTT:Hid (bd=true):=hid (HZD.out.symm.trans (F7 HSK.out HND.out));go_wp2_with fail;go_ret;exact⟨by rw[HRES.out,HBC.out,HTT.out];rfl,A8 HBN.out HB7.out⟩
           | true=>
             go_upto_region 13 with fail
             refine Ae (by kernel_rfl) ?_ ?_
             ·kernel_rfl
             repeat first
              | go_big_quiet_skip
              | (go_big_quiet_want
                 with_reducible refine Ad (o:=⟨some 57,_,_,_,_,_⟩) 65 _ rfl _ _ ?_ (fun w' hw'=>Az (A5 hw' HSR.out)) ?_
                 ·rfl
                 simp only[Act.put,List.setIfInBounds_toArray,List.set_cons_zero,List.set_cons_succ];go_big_quiet_on)
              | (go_big_quiet_want;go_big_quiet_op;go_big_quiet_on)
              | (with_reducible apply wpQuiet_step
                 intro K hK;go_simp;first
                  | (refine hK _ ?_;clear hK K)
                  | (apply Exists.intro
                     refine⟨fun w' hw'=>?_,hK _ ?_⟩
                     ·
                      (first
                       | with_reducible exact KRVW.out _ hw'
                       | with_reducible exact KCLW.out _ hw'
                       | (have t0:=cell_later hw' HT0.out
                          go_simp;first | done | with_reducible exact rfl | with_reducible exact⟨rfl,rfl⟩ | with_reducible exact KRVW.out _ hw' | with_reducible exact KCLW.out _ hw')
                       | (have t1:=cell_later hw' HT1.out
                          go_simp;first | done | with_reducible exact rfl | with_reducible exact⟨rfl,rfl⟩ | with_reducible exact KRVW.out _ hw' | with_reducible exact KCLW.out _ hw')
                       | (have g0:=A4 (A5 hw' HIR.out) 0 _ rfl
                          have g1:=A4 (A5 hw' HIR.out) 1 _ rfl;have g2:=A4 (A5 hw' HIR.out) 2 _ rfl;have g3:=A4 (A5 hw' HIR.out) 3 _ rfl;go_simp;first | done | with_reducible exact rfl | with_reducible exact⟨rfl,rfl⟩ | with_reducible exact KRVW.out _ hw' | with_reducible exact KCLW.out _ hw')
                       | (have g0:=A4 (A5 hw' HLR.out) 0 _ rfl
                          have g1:=A4 (A5 hw' HLR.out) 1 _ rfl;have g2:=A4 (A5 hw' HLR.out) 2 _ rfl;have g3:=A4 (A5 hw' HLR.out) 3 _ rfl;go_simp;first | done | with_reducible exact rfl | with_reducible exact⟨rfl,rfl⟩ | with_reducible exact KRVW.out _ hw' | with_reducible exact KCLW.out _ hw')
                       | (have p1:=cell_later hw' HP1.out
                          go_simp;first | done | with_reducible exact rfl | with_reducible exact⟨rfl,rfl⟩ | with_reducible exact KRVW.out _ hw' | with_reducible exact KCLW.out _ hw'))
                     clear hK K))
             refine wpQuiet_nil ?_;intro w7 hw7;have HB7:=hid (A8 HBQ.out hw7);clear hw7;have HN:Hid ((x.nd.take (k+1)).any (Bf (B6 L) s oc)=false):=hid (Fe HSK.out HF2.out HND.out);go_wp2_with fail;rw[← HAA.out,← HPX.out];go_roundg (tn - (k+1))
             case rel=>exact⟨k+1,AK HK.out HLK.out,by go_num,HN.out,HB7.out⟩
             case measure=>exact AL HK.out HLK.out
        ·have d4:¬ ((k:Int)<tn):=by omega
         have HTT:Hid (bd=false):=hid (HZD.out.symm.trans (JN HF2.out (by have:=HTN.out;have:=HK.out;omega)));go_wp2_with fail;go_ret;exact⟨by rw[HRES.out,HBC.out,HTT.out];rfl,A8 HBN.out HBQ.out⟩
end Go.Proofs.YtpohoannggdbjaaGreat
