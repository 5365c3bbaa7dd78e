/- Layer 10: the document's set. -/
import Derived.Test.YtpohoannggdbjaaGreatIxTa
set_option maxRecDepth 100000
set_option maxHeartbeats 200000000
namespace Go.Proofs.YtpohoannggdbjaaGreat
open Lib (hid)
open Go.RowKit
attribute [local irreducible] Sl.v Aa pw Ab Aw C8 Af BC CD Bi Bg B9 CB BQ AU Bp BB BG Bh Bd BP Bo BL BF BN AI AY AV Be Bw Bq C4 Mc.tb BZ AX Ap B5
attribute [local irreducible] AW CY Bt BO Rt.tr Rt.nd AC C9 At
attribute [local irreducible] E9
attribute [local irreducible] SD
theorem QR(L:AL)(s:St)(oc no re:Nat)(ia:Option Addr)(il ic:Nat)(n:Nat)(x:Rt)(w:World)(hL:AO w L)(hc:(Ap L).1=0)(hs:s.ok)(ho:oc<18446744073709551616)(hx:L.rt.l[n]?=some x) :
 Calls Tryz.prog 74 #[.agg #[L.se.v,L.po.v,L.sg.v,L.rt.v],.agg (Af s).toArray,.agg #[.int .u64 (oc:Int),.int .u32 (no:Int),.int .u32 (re:Int),.slice ia il ic],.int .i64 (n:Int)] w fun e w'=>e = .returned (.bool (B9 (AW L) s oc n (CY L n x)))∧Below w.heap.size w w':=by
 have HMAY:Hid (AX L=true):=hid (B6 hc);have HS4:Hid (L.rt.l.length≤64):=hid (AE (B6 hc)).2.2.2;have HCK:=hid hc;have h63:n≤63:=by have h1:=(We.1 hx).1;have:=HS4.o;omega
 have hxm:=Wf hx;have HXR:=hid hx;obtain⟨bl,hbl⟩:=WY (Aa s.lk n);obtain⟨bf,hbf⟩:=WY (Bi oc (CY L n x));obtain⟨bc,hbc⟩:=WY ((BO L (n:Int)).any (fun k=>Aa s.lk k.toNat));obtain⟨bd,hbd⟩:=WY (x.nd.any (Bg (AW L) s oc));have HRES:Hid (B9 (AW L) s oc n (CY L n x)=(!bl && (bf && (!bc && !bd)))):=hid (by rw[Mq,hbl,hbf,TY,hbc,Hm,hbd]);have HZD:=hid hbd;have HCF:Hid (bl=false→(List.range L.rt.l.length).any (SD L x s)=bc):=hid (fun h=>(Qw HMAY.o hx (hbl.trans h)).trans hbc);have KHN:Hid (∀ V,Calls Tryz.prog 43 #[.int .u64 (s.lk:Int),.int .i64 (n:Int)] V fun e w'=>e = .returned (.bool bl)∧Below V.heap.size V w'):=hid (fun V=>CP bl s.lk n V h63 hs.lk hbl);have KCF:Hid (∀ y∈L.rt.l,∀ V,Below w.heap.size w V→Calls Tryz.prog 100 #[.agg #[L.se.v,L.po.v,L.sg.v,L.rt.v],.agg #[.string x.nm,.int .i64 x.sg,x.pa.v,x.po.v,x.ov.v,x.fl.v],.agg #[.string y.nm,.int .i64 y.sg,y.pa.v,y.po.v,y.ov.v,y.fl.v]] V fun e w'=>e = .returned (.bool (AC L x y))∧Below V.heap.size V w'):=hid (fun y hy V hV=>(I5 L x y V (B6 hc) (hL.below hV) hxm hy).mono (fun _ _ h=>⟨h.1,h.2⟩));have HSO:=hid hs;have HOC:=hid ho;obtain⟨n1,hn1⟩:=WY L.se.l.length;obtain⟨n2,hn2⟩:=WY L.po.l.length;obtain⟨n3,hn3⟩:=WY L.sg.l.length;obtain⟨n4,hn4⟩:=WY L.rt.l.length;have HLW:=hid hL;have HN1:=hid hn1;have HN2:=hid hn2;have HN3:=hid hn3;have HN4:=hid hn4;have HNLT:Hid (n<n4):=hid (by rw[← hn4];exact(We.1 hx).1);rw[hn4] at HS4 HCF;rw[Ak hn1,Ak hn2,Ak hn3,Ak hn4] at KCF ⊢;clear hn1 hn2 hn3 hn4 hL hc hs ho h63 hbl hbc hbd;go_enter Tryz.func74,Tryz.ntmps74;go_upto_region 1 with fail
 refine Ao (os:=[.cells #[.slice L.se.a n1 L.se.c,.slice L.po.a n2 L.po.c,.slice L.sg.a n3 L.sg.c,.slice L.rt.a n4 L.rt.c] 27,.cells (Af s).toArray 65,.cells #[.int .u64 (oc:Int),.int .u32 (no:Int),.int .u32 (re:Int),.slice ia il ic] 35]) (w0:=w) rfl ?_;intro W hat hbw;obtain⟨gl,hgl⟩:=X0 w.heap.size;have q0:=hat 0 _ rfl;obtain⟨gs,hgs⟩:=X0 (gl+1);have q1:=hat 1 _ rfl;obtain⟨gi,hgi⟩:=X0 (gs+1);have q2:=hat 2 _ rfl;rw[Wa,← hgl] at q0;rw[← hgl,← hgs] at q1;rw[← hgl,show gl+2=gi by omega] at q2;rw[← hgl,← hgs,← hgi];have HQl:=hid q0;have HQs:=hid q1;have HQi:=hid q2;have HB0:=hid hbw;clear hat hbw q0 q1 q2 hgl hgs hgi;have HBX:=HB0;rcases HLW.o.rt.row with hnil | ⟨xb,off,hxb,hc0⟩
 ·rw[hnil] at hx;cases hx
 have hc:=fun i c hi j v hv=>VY (HB0.o) (hc0 i c hi j v hv)
 have hyx:=hx;have z0:=hc n _ hyx 0 _ rfl;have z1:=hc n _ hyx 1 _ rfl;have z2:=hc n _ hyx 2 _ rfl;have z3:=hc n _ hyx 3 _ rfl;have z4:=hc n _ hyx 4 _ rfl;have z5:=hc n _ hyx 5 _ rfl;rw[Wa] at z0;obtain⟨p1,hp1⟩:=WY x.pa.l.length;obtain⟨p2,hp2⟩:=WY x.po.l.length;obtain⟨p3,hp3⟩:=WY x.ov.l.length;obtain⟨p4,hp4⟩:=WY x.fl.l.length;rw[Ak hp1] at z2;rw[Ak hp2] at z3;rw[Ak hp3] at z4;rw[Ak hp4] at z5;have HZX:=hid (And.intro z0 (And.intro z1 (And.intro z2 (And.intro z3 (And.intro z4 z5)))));clear z0 z1 z2 z3 z4 z5;have KFR:Hid (∀ V,Below W.heap.size W V→Calls Tryz.prog 78 #[.agg #[.string x.nm,.int .i64 x.sg,.slice x.pa.a p1 x.pa.c,.slice x.po.a p2 x.po.c,.slice x.ov.a p3 x.ov.c,.slice x.fl.a p4 x.fl.c],.agg #[.int .u64 (oc:Int),.int .u32 (no:Int),.int .u32 (re:Int),.slice ia il ic]] V fun e w'=>e = .returned (.bool bf)∧Below V.heap.size V w'):=hid (fun V hV=>by
  have ok:=Bv HMAY.o x hxm;have h:=GG (!bf) oc no re ia il ic x V ((HLW.o.rn x hxm).below (A6 HBX.o hV)) (by have:=ok.pa;have:=ok.ov;omega) (fun k hk=>by have h:=NY HMAY.o x hxm k hk;have:=(AE HMAY.o).1;omega) HOC.o (by rw[Jb] at hbf;rw[← hbf,Bool.not_not]);rw[Ak hp1,Ak hp2,Ak hp3,Ak hp4,Bool.not_not] at h;exact h)
 have KND:Hid (∀ V,Below W.heap.size W V→Calls Tryz.prog 70 #[.agg #[.string x.nm,.int .i64 x.sg,x.pa.v,x.po.v,x.ov.v,x.fl.v]] V fun e w'=>∃ a n c,e = .returned (.slice a n c)∧n=x.nd.length∧B7 2 CX w' ⟨a,c,x.nd⟩∧Below V.heap.size V w'):=hid (fun V hV=>by
  have ok:=Bv HMAY.o x hxm;have h:=DY x V ((HLW.o.rn x hxm).below (A6 (HB0.o) hV)) (by have:=ok.po;have:=ok.fl;omega);unfold Rt.nd;rw[Wh];exact h)
 have HNL:Hid (x.nd.length≤100000):=hid (by have ok:=Bv HMAY.o x hxm;have:=ok.po;have:=ok.fl;unfold Rt.nd;rw[Wh];omega);have HNB:Hid (∀ n∈x.nd,0≤n.1∧n.1≤31):=hid (fun n hn=>by have h:=NX HMAY.o x hxm n hn;have:=(AE HMAY.o).2.1;omega);rw[Ak hp1,Ak hp2,Ak hp3,Ak hp4] at KND;rw[Ak hp1,Ak hp2,Ak hp3,Ak hp4] at KCF;obtain⟨X,hX⟩:=WY L.rt.a;have hql:=HQl.o;rw[hX] at hxb hql KCF ⊢;subst hxb;have HQl:=hid hql;have HROW:=hid hc0;have hql:=A4 HQl.o 3 _ rfl;obtain⟨z0,z1,z2,z3,z4,z5⟩:=HZX.o;have d1:(0:Int)≤n:=by omega
 have d2:(n:Int)<n4:=by have:=HNLT.o;omega
 clear hx hyx hc hc0 hbf hp1 hp2 hp3 hp4 hxm hX;go_upto_region 2 with fail
 have hbn:=Ac W (.cells #[.string x.nm,.int .i64 x.sg,.slice x.pa.a p1 x.pa.c,.slice x.po.a p2 x.po.c,.slice x.ov.a p3 x.ov.c,.slice x.fl.a p4 x.fl.c] 52);have hqn:=Al W (.cells #[.string x.nm,.int .i64 x.sg,.slice x.pa.a p1 x.pa.c,.slice x.po.a p2 x.po.c,.slice x.ov.a p3 x.ov.c,.slice x.fl.a p4 x.fl.c] 52) (VU _ _);obtain⟨V,hV⟩:=X0 (W.alloc (.cells #[.string x.nm,.int .i64 x.sg,.slice x.pa.a p1 x.pa.c,.slice x.po.a p2 x.po.c,.slice x.ov.a p3 x.ov.c,.slice x.fl.a p4 x.fl.c] 52));rw[← hV] at hbn hqn ⊢;obtain⟨g9,hg9⟩:=X0 W.heap.size;rw[← hg9] at hqn ⊢;have HBV:=hid (A6 HB0.o hbn);have HBWV:=hid hbn;have HQ9:=hid hqn;have s0:=A4 (A5 hbn HQs.o) 0 _ (DM s);clear hbn hqn hV hg9 hql z0 z1 z2 z3 z4 z5 d1 d2;go_wp2_with fail;refine(KHN.o _).mono ?_;rintro e w1 ⟨rfl,hb1⟩;have HB1:=hid (A6 HBV.o hb1);have HBW1:=hid (A6 HBWV.o hb1);have HX1:=hid (A5 hb1 HQ9.o);clear hb1 s0 HQ9 KHN;cases bl with
 | true=>
   go_wp2_with fail;go_ret;exact⟨by rw[HRES.o];rfl,HB1.o⟩
 | false=>
   have l0:=A4 HX1.o 0 _ rfl;have l1:=A4 HX1.o 1 _ rfl;have l2:=A4 HX1.o 2 _ rfl;have l3:=A4 HX1.o 3 _ rfl;have l4:=A4 HX1.o 4 _ rfl;have l5:=A4 HX1.o 5 _ rfl;have m0:=A4 (A5 HBW1.o HQi.o) 0 _ rfl;have m1:=A4 (A5 HBW1.o HQi.o) 1 _ rfl;have m2:=A4 (A5 HBW1.o HQi.o) 2 _ rfl;have m3:=A4 (A5 HBW1.o HQi.o) 3 _ rfl;go_wp2_with fail;refine(KFR.o _ HBW1.o).mono ?_;rintro e w2 ⟨rfl,hb2⟩;have HB2:=hid (A6 HB1.o hb2);have HBW2:=hid (A6 HBW1.o hb2);have HX2:=hid (A5 hb2 HX1.o);clear hb2 l0 l1 l2 l3 l4 l5 m0 m1 m2 m3 HX1;cases bf with
   | false=>
     go_wp2_with fail;go_ret;exact⟨by rw[HRES.o];rfl,HB2.o⟩
   | true=>
     go_upto_region 5 with fail
     go_loopg [10] n4 (fun g v wr=>∃ i:Nat,i+g=n4∧v = .int .i64 (i:Int)∧(List.range i).any (SD L x s)=false∧Below w2.heap.size w2 wr)
     case atStart=>exact⟨0,by omega,rfl,RX,VU _ _⟩
     case round=>
      obtain⟨i,hi,rfl,ho,hbw⟩:=hrel;have HI:=hid hi;have HF:=hid ho;have HB:=hid hbw;have HBWR:=hid (A6 HBW2.o hbw);have HLR:=hid (A5 HBWR.o HQl.o);have HSR:=hid (A5 HBWR.o HQs.o);have HXR9:=hid (A5 hbw HX2.o);have l3:=A4 HLR.o 3 _ rfl;clear hi ho hbw;by_cases hlt:i<n4
      ·have d1:(0:Int)≤i:=(by omega);have d2:(i:Int)<n4:=(by omega);have e1:=B8 hlt (Wd HS4.o (by decide));have HLT:=hid hlt;have hc:=fun i c hi j v hv=>VY (A6 HB0.o HBWR.o) (HROW.o i c hi j v hv)
       obtain⟨y,hyy⟩:∃ y,L.rt.l[i]?=some y:=⟨_,Wb (by rw[HN4.o];exact hlt)⟩;have z0:=hc i _ hyy 0 _ rfl;have z1:=hc i _ hyy 1 _ rfl;have z2:=hc i _ hyy 2 _ rfl;have z3:=hc i _ hyy 3 _ rfl;have z4:=hc i _ hyy 4 _ rfl;have z5:=hc i _ hyy 5 _ rfl;rw[Wa] at z0;obtain⟨q1,hq1⟩:=WY y.pa.l.length;obtain⟨q2,hq2⟩:=WY y.po.l.length;obtain⟨q3,hq3⟩:=WY y.ov.l.length;obtain⟨q4,hq4⟩:=WY y.fl.l.length;rw[Ak hq1] at z2;rw[Ak hq2] at z3;rw[Ak hq3] at z4;rw[Ak hq4] at z5;have HZY:=hid (And.intro z0 (And.intro z1 (And.intro z2 (And.intro z3 (And.intro z4 z5)))));clear z0 z1 z2 z3 z4 z5;have hym:=Wf hyy;have HYY:=hid hyy;obtain⟨b1,hb1⟩:=WY (Aa s.lk i);obtain⟨b2,hb2⟩:=WY (AC L x y);have HCD:Hid (SD L x s i=(b1 && b2)):=hid (by rw[L8 hyy,hb1,hb2]);have KHS:Hid (∀ V,Calls Tryz.prog 43 #[.int .u64 (s.lk:Int),.int .i64 (i:Int)] V fun e w'=>e = .returned (.bool b1)∧Below V.heap.size V w'):=hid (fun V=>CP b1 s.lk i V (by have:=HLT.o;have:=HS4.o;omega) HSO.o.lk hb1);have KHSW:Hid (∀ w',Below wr.heap.size wr w'→Calls Tryz.prog 43 #[.int .u64 (s.lk:Int),.int .i64 (i:Int)] w' fun e w''=>e = .returned (.bool b1)∧Below wr.heap.size wr w''):=hid (fun w' hw'=>(KHS.o w').mono (fun _ _ h=>⟨h.1,A6 hw' h.2⟩));have KC1:=hid (KCF.o y hym);rw[Ak hq1,Ak hq2,Ak hq3,Ak hq4,hb2] at KC1;have KCFW:Hid (∀ w',Below wr.heap.size wr w'→Calls Tryz.prog 100 #[.agg #[.slice L.se.a n1 L.se.c,.slice L.po.a n2 L.po.c,.slice L.sg.a n3 L.sg.c,.slice (some ⟨xb,off,none⟩) n4 L.rt.c],.agg #[.string x.nm,.int .i64 x.sg,.slice x.pa.a p1 x.pa.c,.slice x.po.a p2 x.po.c,.slice x.ov.a p3 x.ov.c,.slice x.fl.a p4 x.fl.c],.agg #[.string y.nm,.int .i64 y.sg,.slice y.pa.a q1 y.pa.c,.slice y.po.a q2 y.po.c,.slice y.ov.a q3 y.ov.c,.slice y.fl.a q4 y.fl.c]] w' fun e w''=>e = .returned (.bool b2)∧Below wr.heap.size wr w''):=hid (fun w' hw'=>(KC1.o w' (A6 HB0.o (A6 HBWR.o hw'))).mono (fun _ _ h=>⟨h.1,A6 hw' h.2⟩));clear hc hyy hym hq1 hq2 hq3 hq4 hlt hb1 hb2 KC1 KHS;have HGO:Hid ((b1 && b2)=false→(List.range (i+1)).any (SD L x s)=false):=hid (fun h=>UV HF.o (HCD.o.trans h));cases b1 with
       | false=>
         go_upto_region 7 with fail
         refine Ad (by kernel_rfl) ?_ ?_
         ·kernel_rfl
         repeat first
          | go_big_quiet_skip
          | (go_big_quiet_want;go_big_quiet_op;go_big_quiet_on)
          | (with_reducible apply wpQuiet_step
             intro K hK;go_simp;first
              | (refine hK _ ?_;clear hK K)
              | (apply Exists.intro
                 refine⟨fun w' hw'=>?_,hK _ ?_⟩
                 ·
                  (first
                   | with_reducible exact KHSW.o _ hw'
                   | with_reducible exact KCFW.o _ hw'
                   | (have s0:=A4 (A5 hw' HSR.o) 0 _ (DM s)
                      go_simp;first | done | with_reducible exact rfl | with_reducible exact⟨rfl,rfl⟩ | with_reducible exact KHSW.o _ hw' | with_reducible exact KCFW.o _ hw')
                   | (have g0:=A4 (A5 hw' HLR.o) 0 _ rfl
                      have g1:=A4 (A5 hw' HLR.o) 1 _ rfl;have g2:=A4 (A5 hw' HLR.o) 2 _ rfl;have g3:=A4 (A5 hw' HLR.o) 3 _ rfl;go_simp;first | done | with_reducible exact rfl | with_reducible exact⟨rfl,rfl⟩ | with_reducible exact KHSW.o _ hw' | with_reducible exact KCFW.o _ hw')
                   | (have g0:=A4 (A5 hw' HXR9.o) 0 _ rfl
                      have g1:=A4 (A5 hw' HXR9.o) 1 _ rfl;have g2:=A4 (A5 hw' HXR9.o) 2 _ rfl;have g3:=A4 (A5 hw' HXR9.o) 3 _ rfl;have g4:=A4 (A5 hw' HXR9.o) 4 _ rfl;have g5:=A4 (A5 hw' HXR9.o) 5 _ rfl;go_simp;first | done | with_reducible exact rfl | with_reducible exact⟨rfl,rfl⟩ | with_reducible exact KHSW.o _ hw' | with_reducible exact KCFW.o _ hw')
                   | (have z0:=VY hw' HZY.o.1
                      have z1:=VY hw' HZY.o.2.1;have z2:=VY hw' HZY.o.2.2.1;have z3:=VY hw' HZY.o.2.2.2.1;have z4:=VY hw' HZY.o.2.2.2.2.1;have z5:=VY hw' HZY.o.2.2.2.2.2;go_simp;first | done | with_reducible exact rfl | with_reducible exact⟨rfl,rfl⟩ | with_reducible exact KHSW.o _ hw' | with_reducible exact KCFW.o _ hw'))
                 clear hK K))
         refine wpQuiet_nil ?_;intro w7 hw7;have HB7:=hid (A6 HB.o hw7);clear hw7;go_wp2_with fail;go_roundg (n4 - (i+1))
         case rel=>exact⟨i+1,AA HI.o HLT.o,by go_num,HGO.o rfl,HB7.o⟩
         case measure=>exact Az HI.o HLT.o
       | true=>
         cases b2 with
         | false=>
           go_upto_region 7 with fail
           refine Ad (by kernel_rfl) ?_ ?_
           ·kernel_rfl
           repeat first
            | go_big_quiet_skip
            | (go_big_quiet_want;go_big_quiet_op;go_big_quiet_on)
            | (with_reducible apply wpQuiet_step
               intro K hK;go_simp;first
                | (refine hK _ ?_;clear hK K)
                | (apply Exists.intro
                   refine⟨fun w' hw'=>?_,hK _ ?_⟩
                   ·
                    (first
                     | with_reducible exact KHSW.o _ hw'
                     | with_reducible exact KCFW.o _ hw'
                     | (have s0:=A4 (A5 hw' HSR.o) 0 _ (DM s)
                        go_simp;first | done | with_reducible exact rfl | with_reducible exact⟨rfl,rfl⟩ | with_reducible exact KHSW.o _ hw' | with_reducible exact KCFW.o _ hw')
                     | (have g0:=A4 (A5 hw' HLR.o) 0 _ rfl
                        have g1:=A4 (A5 hw' HLR.o) 1 _ rfl;have g2:=A4 (A5 hw' HLR.o) 2 _ rfl;have g3:=A4 (A5 hw' HLR.o) 3 _ rfl;go_simp;first | done | with_reducible exact rfl | with_reducible exact⟨rfl,rfl⟩ | with_reducible exact KHSW.o _ hw' | with_reducible exact KCFW.o _ hw')
                     | (have g0:=A4 (A5 hw' HXR9.o) 0 _ rfl
                        have g1:=A4 (A5 hw' HXR9.o) 1 _ rfl;have g2:=A4 (A5 hw' HXR9.o) 2 _ rfl;have g3:=A4 (A5 hw' HXR9.o) 3 _ rfl;have g4:=A4 (A5 hw' HXR9.o) 4 _ rfl;have g5:=A4 (A5 hw' HXR9.o) 5 _ rfl;go_simp;first | done | with_reducible exact rfl | with_reducible exact⟨rfl,rfl⟩ | with_reducible exact KHSW.o _ hw' | with_reducible exact KCFW.o _ hw')
                     | (have z0:=VY hw' HZY.o.1
                        have z1:=VY hw' HZY.o.2.1;have z2:=VY hw' HZY.o.2.2.1;have z3:=VY hw' HZY.o.2.2.2.1;have z4:=VY hw' HZY.o.2.2.2.2.1;have z5:=VY hw' HZY.o.2.2.2.2.2;go_simp;first | done | with_reducible exact rfl | with_reducible exact⟨rfl,rfl⟩ | with_reducible exact KHSW.o _ hw' | with_reducible exact KCFW.o _ hw'))
                   clear hK K))
           refine wpQuiet_nil ?_;intro w7 hw7;have HB7:=hid (A6 HB.o hw7);clear hw7;go_wp2_with fail;go_roundg (n4 - (i+1))
           case rel=>exact⟨i+1,AA HI.o HLT.o,by go_num,HGO.o rfl,HB7.o⟩
           case measure=>exact Az HI.o HLT.o
         | true=>
           go_upto_region 7 with fail
           refine Ad (by kernel_rfl) ?_ ?_
           ·kernel_rfl
           repeat first
            | go_big_quiet_skip
            | (go_big_quiet_want;go_big_quiet_op;go_big_quiet_on)
            | (with_reducible apply wpQuiet_step
               intro K hK;go_simp;first
                | (refine hK _ ?_;clear hK K)
                | (apply Exists.intro
                   refine⟨fun w' hw'=>?_,hK _ ?_⟩
                   ·
                    (first
                     | with_reducible exact KHSW.o _ hw'
                     | with_reducible exact KCFW.o _ hw'
                     | (have s0:=A4 (A5 hw' HSR.o) 0 _ (DM s)
                        go_simp;first | done | with_reducible exact rfl | with_reducible exact⟨rfl,rfl⟩ | with_reducible exact KHSW.o _ hw' | with_reducible exact KCFW.o _ hw')
                     | (have g0:=A4 (A5 hw' HLR.o) 0 _ rfl
                        have g1:=A4 (A5 hw' HLR.o) 1 _ rfl;have g2:=A4 (A5 hw' HLR.o) 2 _ rfl;have g3:=A4 (A5 hw' HLR.o) 3 _ rfl;go_simp;first | done | with_reducible exact rfl | with_reducible exact⟨rfl,rfl⟩ | with_reducible exact KHSW.o _ hw' | with_reducible exact KCFW.o _ hw')
                     | (have g0:=A4 (A5 hw' HXR9.o) 0 _ rfl
                        have g1:=A4 (A5 hw' HXR9.o) 1 _ rfl;have g2:=A4 (A5 hw' HXR9.o) 2 _ rfl;have g3:=A4 (A5 hw' HXR9.o) 3 _ rfl;have g4:=A4 (A5 hw' HXR9.o) 4 _ rfl;have g5:=A4 (A5 hw' HXR9.o) 5 _ rfl;go_simp;first | done | with_reducible exact rfl | with_reducible exact⟨rfl,rfl⟩ | with_reducible exact KHSW.o _ hw' | with_reducible exact KCFW.o _ hw')
                     | (have z0:=VY hw' HZY.o.1
                        have z1:=VY hw' HZY.o.2.1;have z2:=VY hw' HZY.o.2.2.1;have z3:=VY hw' HZY.o.2.2.2.1;have z4:=VY hw' HZY.o.2.2.2.2.1;have z5:=VY hw' HZY.o.2.2.2.2.2;go_simp;first | done | with_reducible exact rfl | with_reducible exact⟨rfl,rfl⟩ | with_reducible exact KHSW.o _ hw' | with_reducible exact KCFW.o _ hw'))
                   clear hK K))
           refine wpQuiet_nil ?_;intro w7 hw7;have HB7:=hid (A6 HB.o hw7);clear hw7;have HTT:Hid (bc=true):=hid ((HCF.o (by first | rfl | trivial)).symm.trans (TU HLT.o HCD.o));go_wp2_with fail;go_ret;exact⟨by rw[HRES.o,HTT.o];rfl,A6 HB2.o HB7.o⟩
      ·have d2:¬ ((i:Int)<n4):=(by omega);have HBC:Hid (bc=false):=hid (by rw[← HCF.o (by first | rfl | trivial),show n4=i by have:=HI.o;omega];exact HF.o);have HBE:=hid (A6 HB2.o HB.o);obtain⟨wq,hwq⟩:∃ W',W'=wr:=⟨_,rfl⟩;rw[← hwq] at HB HBWR HLR HSR HXR9 HBE l3 ⊢;clear hlt hwq;have y0:=A4 HXR9.o 0 _ rfl;have y1:=A4 HXR9.o 1 _ rfl;have y2:=A4 HXR9.o 2 _ rfl;have y3:=A4 HXR9.o 3 _ rfl;have y4:=A4 HXR9.o 4 _ rfl;have y5:=A4 HXR9.o 5 _ rfl;go_wp2_with fail;refine(KND.o _ HBWR.o).mono ?_;rintro e wn ⟨ta,tn,tc,rfl,htn,hT,hb1⟩;have HT:=hid hT.row;have HTN:=hid htn;have htm:tn≤100000:=(by rw[htn];exact HNL.o);have HTM:=hid htm;have HBN:=hid (A6 HBE.o hb1);have HBWN:=hid (A6 HBWR.o hb1);clear y0 y1 y2 y3 y4 y5 l3 d2 htn hT hb1 htm;go_upto_region 11 with fail
       go_loopg [12] tn (fun g v wq=>∃ k:Nat,k+g=tn∧v = .int .i64 (k:Int)∧(x.nd.take k).any (Bg (AW L) s oc)=false∧Below wn.heap.size wn wq)
       case atStart=>exact⟨0,by omega,rfl,JK,VU _ _⟩
       case round=>
        obtain⟨k,hk,rfl,ho,hbw⟩:=hrel;have HK:=hid hk;have HF2:=hid ho;have HBQ:=hid hbw;have HBWQ:=hid (A6 HBWN.o hbw);have HLR:=hid (A5 HBWQ.o HQl.o);have HSR:=hid (A5 HBWQ.o HQs.o);have HIR:=hid (A5 HBWQ.o HQi.o);clear hk ho hbw;by_cases hlk:k<tn
        ·skip
         have d3:(0:Int)≤k:=(by omega);have d4:(k:Int)<tn:=(by omega);have e2:=B8 hlk (Wd HTM.o (by decide));have HLK:=hid hlk;obtain⟨⟨sj,B⟩,hs⟩:∃ s,x.nd[k]?=some s:=⟨_,Wb (by have:=HTN.o;omega)⟩;have HJP:Hid (0≤sj∧sj<(L.po.l.length:Int)):=hid (NX HMAY.o x (Wf HXR.o) _ (Wf hs));have hsb:=HNB.o _ (Wf hs);dsimp only at hsb;obtain⟨j,rfl⟩:∃ j:Nat,sj=j:=⟨sj.toNat,by omega⟩;have HJ31:Hid (j≤31):=hid (by omega);obtain⟨A,hA⟩:=WY ta;have HAA:=hid hA;have hrow:=HT.o;rw[hA] at hrow ⊢;rcases hrow with hnil | ⟨tb,toff,htb,ht0⟩
         ·have:=HTN.o;rw[hnil] at this;simp at this;omega
         subst htb;have t0:=VY HBQ.o (ht0 k _ hs 0 (.int .i64 (j:Int)) rfl);have t1:=VY HBQ.o (ht0 k _ hs 1 (.bool B) rfl);rw[Wa] at t0;have HSK:=hid hs;have HT0:=hid t0;have HT1:=hid t1;clear t0 t1 ht0 hs hsb hlk hA;obtain⟨⟨pn,ps⟩,hpt⟩:∃ p,L.po.l[j]?=some p:=⟨_,Wb (by have:=HJP.o;omega)⟩;have hps:0≤ps∧ps≤63:=(by have h:=(KZ HMAY.o).1 _ (Wf hpt);have h2:=(AE HMAY.o).1;dsimp only at h;omega);obtain⟨q,rfl⟩:∃ q:Nat,ps=q:=⟨ps.toNat,by omega⟩;obtain⟨PX,hPX⟩:=WY L.po.a;have hrow:=HLW.o.po.row;have hlr:=HLR.o;rw[hPX] at hrow hlr ⊢;have HPX:=hid hPX;rcases hrow with hnil | ⟨ob,of_,hob,hoc⟩
         ·rw[hnil] at hpt;cases hpt
         subst hob;have HLR:=hid hlr;have HP1:Hid (wr.cell? ⟨ob,of_+j*2+1,none⟩=some (.int .i64 (q:Int))):=hid (VY (A6 HB0.o HBWQ.o) (hoc j _ hpt 1 _ rfl));have j3:(0:Int)≤j:=(by omega);have j4:(j:Int)<n2:=(by have:=HJP.o;have:=HN2.o;omega);obtain⟨D,hD⟩:=WY (Aa s.pt j);obtain⟨C,hC⟩:=WY (Aa oc q);obtain⟨E,hE⟩:=WY (D != B);have HND:Hid (Bg (AW L) s oc ((j:Int),B)=(E && C)):=hid (by rw[RJ];dsimp only;rw[Int.toNat_natCast,hD,hE,SJ hpt];dsimp only;rw[Int.toNat_natCast,hC]);have KRVW:Hid (∀ w',Below wr.heap.size wr w'→Calls Tryz.prog 101 #[.agg (Af s).toArray,.int .i64 (j:Int)] w' fun e w''=>e = .returned (.bool D)∧Below wr.heap.size wr w''):=hid (fun w' hw'=>(QQ D s j w' HJ31.o HSO.o hD).mono (fun _ _ h=>⟨h.1,A6 hw' h.2⟩));have KCLW:Hid (∀ w',Below wr.heap.size wr w'→Calls Tryz.prog 75 #[.agg #[.int .u64 (oc:Int),.int .u32 (no:Int),.int .u32 (re:Int),.slice ia il ic],.int .i64 (q:Int)] w' fun e w''=>e = .returned (.bool (!C))∧Below wr.heap.size wr w''):=hid (fun w' hw'=>(DR C oc no re ia il ic q w' (by omega) HOC.o hC).mono (fun _ _ h=>⟨h.1,A6 hw' h.2⟩));clear hpt hps hPX hoc hlr hD hC;subst hE;cases D with
         | false=>
           cases B with
           | false=>
             go_upto_region 13 with fail
             refine Ad (by kernel_rfl) ?_ ?_
             ·kernel_rfl
             repeat first
              | go_big_quiet_skip
              | (go_big_quiet_want
                 with_reducible refine Ae (o:=⟨some 57,_,_,_,_,_⟩) 65 _ rfl _ _ ?_ (fun w' hw'=>Au (A5 hw' HSR.o)) ?_
                 ·rfl
                 simp only[Act.put,VW,VX,VV];go_big_quiet_on)
              | (go_big_quiet_want;go_big_quiet_op;go_big_quiet_on)
              | (with_reducible apply wpQuiet_step
                 intro K hK;go_simp;first
                  | (refine hK _ ?_;clear hK K)
                  | (apply Exists.intro
                     refine⟨fun w' hw'=>?_,hK _ ?_⟩
                     ·
                      (first
                       | with_reducible exact KRVW.o _ hw'
                       | with_reducible exact KCLW.o _ hw'
                       | (have t0:=VY hw' HT0.o
                          go_simp;first | done | with_reducible exact rfl | with_reducible exact⟨rfl,rfl⟩ | with_reducible exact KRVW.o _ hw' | with_reducible exact KCLW.o _ hw')
                       | (have t1:=VY hw' HT1.o
                          go_simp;first | done | with_reducible exact rfl | with_reducible exact⟨rfl,rfl⟩ | with_reducible exact KRVW.o _ hw' | with_reducible exact KCLW.o _ hw')
                       | (have g0:=A4 (A5 hw' HIR.o) 0 _ rfl
                          have g1:=A4 (A5 hw' HIR.o) 1 _ rfl;have g2:=A4 (A5 hw' HIR.o) 2 _ rfl;have g3:=A4 (A5 hw' HIR.o) 3 _ rfl;go_simp;first | done | with_reducible exact rfl | with_reducible exact⟨rfl,rfl⟩ | with_reducible exact KRVW.o _ hw' | with_reducible exact KCLW.o _ hw')
                       | (have g0:=A4 (A5 hw' HLR.o) 0 _ rfl
                          have g1:=A4 (A5 hw' HLR.o) 1 _ rfl;have g2:=A4 (A5 hw' HLR.o) 2 _ rfl;have g3:=A4 (A5 hw' HLR.o) 3 _ rfl;go_simp;first | done | with_reducible exact rfl | with_reducible exact⟨rfl,rfl⟩ | with_reducible exact KRVW.o _ hw' | with_reducible exact KCLW.o _ hw')
                       | (have p1:=VY hw' HP1.o
                          go_simp;first | done | with_reducible exact rfl | with_reducible exact⟨rfl,rfl⟩ | with_reducible exact KRVW.o _ hw' | with_reducible exact KCLW.o _ hw'))
                     clear hK K))
             refine wpQuiet_nil ?_;intro w7 hw7;have HB7:=hid (A6 HBQ.o hw7);clear hw7;have HN:Hid ((x.nd.take (k+1)).any (Bg (AW L) s oc)=false):=hid (Gj HSK.o HF2.o HND.o);go_wp2_with fail;rw[← HAA.o,← HPX.o];go_roundg (tn - (k+1))
             case rel=>exact⟨k+1,AA HK.o HLK.o,by go_num,HN.o,HB7.o⟩
             case measure=>exact Az HK.o HLK.o
           | true=>
             cases C with
             | false=>
               go_upto_region 13 with fail
               refine Ad (by kernel_rfl) ?_ ?_
               ·kernel_rfl
               repeat first
                | go_big_quiet_skip
                | (go_big_quiet_want
                   with_reducible refine Ae (o:=⟨some 57,_,_,_,_,_⟩) 65 _ rfl _ _ ?_ (fun w' hw'=>Au (A5 hw' HSR.o)) ?_
                   ·rfl
                   simp only[Act.put,VW,VX,VV];go_big_quiet_on)
                | (go_big_quiet_want;go_big_quiet_op;go_big_quiet_on)
                | (with_reducible apply wpQuiet_step
                   intro K hK;go_simp;first
                    | (refine hK _ ?_;clear hK K)
                    | (apply Exists.intro
                       refine⟨fun w' hw'=>?_,hK _ ?_⟩
                       ·
                        (first
                         | with_reducible exact KRVW.o _ hw'
                         | with_reducible exact KCLW.o _ hw'
                         | (have t0:=VY hw' HT0.o
                            go_simp;first | done | with_reducible exact rfl | with_reducible exact⟨rfl,rfl⟩ | with_reducible exact KRVW.o _ hw' | with_reducible exact KCLW.o _ hw')
                         | (have t1:=VY hw' HT1.o
                            go_simp;first | done | with_reducible exact rfl | with_reducible exact⟨rfl,rfl⟩ | with_reducible exact KRVW.o _ hw' | with_reducible exact KCLW.o _ hw')
                         | (have g0:=A4 (A5 hw' HIR.o) 0 _ rfl
                            have g1:=A4 (A5 hw' HIR.o) 1 _ rfl;have g2:=A4 (A5 hw' HIR.o) 2 _ rfl;have g3:=A4 (A5 hw' HIR.o) 3 _ rfl;go_simp;first | done | with_reducible exact rfl | with_reducible exact⟨rfl,rfl⟩ | with_reducible exact KRVW.o _ hw' | with_reducible exact KCLW.o _ hw')
                         | (have g0:=A4 (A5 hw' HLR.o) 0 _ rfl
                            have g1:=A4 (A5 hw' HLR.o) 1 _ rfl;have g2:=A4 (A5 hw' HLR.o) 2 _ rfl;have g3:=A4 (A5 hw' HLR.o) 3 _ rfl;go_simp;first | done | with_reducible exact rfl | with_reducible exact⟨rfl,rfl⟩ | with_reducible exact KRVW.o _ hw' | with_reducible exact KCLW.o _ hw')
                         | (have p1:=VY hw' HP1.o
                            go_simp;first | done | with_reducible exact rfl | with_reducible exact⟨rfl,rfl⟩ | with_reducible exact KRVW.o _ hw' | with_reducible exact KCLW.o _ hw'))
                       clear hK K))
               refine wpQuiet_nil ?_;intro w7 hw7;have HB7:=hid (A6 HBQ.o hw7);clear hw7;have HN:Hid ((x.nd.take (k+1)).any (Bg (AW L) s oc)=false):=hid (Gj HSK.o HF2.o HND.o);go_wp2_with fail;rw[← HAA.o,← HPX.o];go_roundg (tn - (k+1))
               case rel=>exact⟨k+1,AA HK.o HLK.o,by go_num,HN.o,HB7.o⟩
               case measure=>exact Az HK.o HLK.o
             | true=>
               go_upto_region 13 with fail
               refine Ad (by kernel_rfl) ?_ ?_
               ·kernel_rfl
               repeat first
                | go_big_quiet_skip
                | (go_big_quiet_want
                   with_reducible refine Ae (o:=⟨some 57,_,_,_,_,_⟩) 65 _ rfl _ _ ?_ (fun w' hw'=>Au (A5 hw' HSR.o)) ?_
                   ·rfl
                   simp only[Act.put,VW,VX,VV];go_big_quiet_on)
                | (go_big_quiet_want;go_big_quiet_op;go_big_quiet_on)
                | (with_reducible apply wpQuiet_step
                   intro K hK;go_simp;first
                    | (refine hK _ ?_;clear hK K)
                    | (apply Exists.intro
                       refine⟨fun w' hw'=>?_,hK _ ?_⟩
                       ·
                        (first
                         | with_reducible exact KRVW.o _ hw'
                         | with_reducible exact KCLW.o _ hw'
                         | (have t0:=VY hw' HT0.o
                            go_simp;first | done | with_reducible exact rfl | with_reducible exact⟨rfl,rfl⟩ | with_reducible exact KRVW.o _ hw' | with_reducible exact KCLW.o _ hw')
                         | (have t1:=VY hw' HT1.o
                            go_simp;first | done | with_reducible exact rfl | with_reducible exact⟨rfl,rfl⟩ | with_reducible exact KRVW.o _ hw' | with_reducible exact KCLW.o _ hw')
                         | (have g0:=A4 (A5 hw' HIR.o) 0 _ rfl
                            have g1:=A4 (A5 hw' HIR.o) 1 _ rfl;have g2:=A4 (A5 hw' HIR.o) 2 _ rfl;have g3:=A4 (A5 hw' HIR.o) 3 _ rfl;go_simp;first | done | with_reducible exact rfl | with_reducible exact⟨rfl,rfl⟩ | with_reducible exact KRVW.o _ hw' | with_reducible exact KCLW.o _ hw')
                         | (have g0:=A4 (A5 hw' HLR.o) 0 _ rfl
                            have g1:=A4 (A5 hw' HLR.o) 1 _ rfl;have g2:=A4 (A5 hw' HLR.o) 2 _ rfl;have g3:=A4 (A5 hw' HLR.o) 3 _ rfl;go_simp;first | done | with_reducible exact rfl | with_reducible exact⟨rfl,rfl⟩ | with_reducible exact KRVW.o _ hw' | with_reducible exact KCLW.o _ hw')
                         | (have p1:=VY hw' HP1.o
                            go_simp;first | done | with_reducible exact rfl | with_reducible exact⟨rfl,rfl⟩ | with_reducible exact KRVW.o _ hw' | with_reducible exact KCLW.o _ hw'))
                       clear hK K))
               refine wpQuiet_nil ?_;intro w7 hw7;have HB7:=hid (A6 HBQ.o hw7);clear hw7;have HTT:Hid (bd=true):=hid (HZD.o.symm.trans (G5 HSK.o HND.o));go_wp2_with fail;go_ret;exact⟨by rw[HRES.o,HBC.o,HTT.o];rfl,A6 HBN.o HB7.o⟩
         | true=>
           cases B with
           | false=>
             cases C with
             | false=>
               go_upto_region 13 with fail
               refine Ad (by kernel_rfl) ?_ ?_
               ·kernel_rfl
               repeat first
                | go_big_quiet_skip
                | (go_big_quiet_want
                   with_reducible refine Ae (o:=⟨some 57,_,_,_,_,_⟩) 65 _ rfl _ _ ?_ (fun w' hw'=>Au (A5 hw' HSR.o)) ?_
                   ·rfl
                   simp only[Act.put,VW,VX,VV];go_big_quiet_on)
                | (go_big_quiet_want;go_big_quiet_op;go_big_quiet_on)
                | (with_reducible apply wpQuiet_step
                   intro K hK;go_simp;first
                    | (refine hK _ ?_;clear hK K)
                    | (apply Exists.intro
                       refine⟨fun w' hw'=>?_,hK _ ?_⟩
                       ·
                        (first
                         | with_reducible exact KRVW.o _ hw'
                         | with_reducible exact KCLW.o _ hw'
                         | (have t0:=VY hw' HT0.o
                            go_simp;first | done | with_reducible exact rfl | with_reducible exact⟨rfl,rfl⟩ | with_reducible exact KRVW.o _ hw' | with_reducible exact KCLW.o _ hw')
                         | (have t1:=VY hw' HT1.o
                            go_simp;first | done | with_reducible exact rfl | with_reducible exact⟨rfl,rfl⟩ | with_reducible exact KRVW.o _ hw' | with_reducible exact KCLW.o _ hw')
                         | (have g0:=A4 (A5 hw' HIR.o) 0 _ rfl
                            have g1:=A4 (A5 hw' HIR.o) 1 _ rfl;have g2:=A4 (A5 hw' HIR.o) 2 _ rfl;have g3:=A4 (A5 hw' HIR.o) 3 _ rfl;go_simp;first | done | with_reducible exact rfl | with_reducible exact⟨rfl,rfl⟩ | with_reducible exact KRVW.o _ hw' | with_reducible exact KCLW.o _ hw')
                         | (have g0:=A4 (A5 hw' HLR.o) 0 _ rfl
                            have g1:=A4 (A5 hw' HLR.o) 1 _ rfl;have g2:=A4 (A5 hw' HLR.o) 2 _ rfl;have g3:=A4 (A5 hw' HLR.o) 3 _ rfl;go_simp;first | done | with_reducible exact rfl | with_reducible exact⟨rfl,rfl⟩ | with_reducible exact KRVW.o _ hw' | with_reducible exact KCLW.o _ hw')
                         | (have p1:=VY hw' HP1.o
                            go_simp;first | done | with_reducible exact rfl | with_reducible exact⟨rfl,rfl⟩ | with_reducible exact KRVW.o _ hw' | with_reducible exact KCLW.o _ hw'))
                       clear hK K))
               refine wpQuiet_nil ?_;intro w7 hw7;have HB7:=hid (A6 HBQ.o hw7);clear hw7;have HN:Hid ((x.nd.take (k+1)).any (Bg (AW L) s oc)=false):=hid (Gj HSK.o HF2.o HND.o);go_wp2_with fail;rw[← HAA.o,← HPX.o];go_roundg (tn - (k+1))
               case rel=>exact⟨k+1,AA HK.o HLK.o,by go_num,HN.o,HB7.o⟩
               case measure=>exact Az HK.o HLK.o
             | true=>
               go_upto_region 13 with fail
               refine Ad (by kernel_rfl) ?_ ?_
               ·kernel_rfl
               repeat first
                | go_big_quiet_skip
                | (go_big_quiet_want
                   with_reducible refine Ae (o:=⟨some 57,_,_,_,_,_⟩) 65 _ rfl _ _ ?_ (fun w' hw'=>Au (A5 hw' HSR.o)) ?_
                   ·rfl
                   simp only[Act.put,VW,VX,VV];go_big_quiet_on)
                | (go_big_quiet_want;go_big_quiet_op;go_big_quiet_on)
                | (with_reducible apply wpQuiet_step
                   intro K hK;go_simp;first
                    | (refine hK _ ?_;clear hK K)
                    | (apply Exists.intro
                       refine⟨fun w' hw'=>?_,hK _ ?_⟩
                       ·
                        (first
                         | with_reducible exact KRVW.o _ hw'
                         | with_reducible exact KCLW.o _ hw'
                         | (have t0:=VY hw' HT0.o
                            go_simp;first | done | with_reducible exact rfl | with_reducible exact⟨rfl,rfl⟩ | with_reducible exact KRVW.o _ hw' | with_reducible exact KCLW.o _ hw')
                         | (have t1:=VY hw' HT1.o
                            go_simp;first | done | with_reducible exact rfl | with_reducible exact⟨rfl,rfl⟩ | with_reducible exact KRVW.o _ hw' | with_reducible exact KCLW.o _ hw')
                         | (have g0:=A4 (A5 hw' HIR.o) 0 _ rfl
                            have g1:=A4 (A5 hw' HIR.o) 1 _ rfl;have g2:=A4 (A5 hw' HIR.o) 2 _ rfl;have g3:=A4 (A5 hw' HIR.o) 3 _ rfl;go_simp;first | done | with_reducible exact rfl | with_reducible exact⟨rfl,rfl⟩ | with_reducible exact KRVW.o _ hw' | with_reducible exact KCLW.o _ hw')
                         | (have g0:=A4 (A5 hw' HLR.o) 0 _ rfl
                            have g1:=A4 (A5 hw' HLR.o) 1 _ rfl;have g2:=A4 (A5 hw' HLR.o) 2 _ rfl;have g3:=A4 (A5 hw' HLR.o) 3 _ rfl;go_simp;first | done | with_reducible exact rfl | with_reducible exact⟨rfl,rfl⟩ | with_reducible exact KRVW.o _ hw' | with_reducible exact KCLW.o _ hw')
                         | (have p1:=VY hw' HP1.o
                            go_simp;first | done | with_reducible exact rfl | with_reducible exact⟨rfl,rfl⟩ | with_reducible exact KRVW.o _ hw' | with_reducible exact KCLW.o _ hw'))
                       clear hK K))
               refine wpQuiet_nil ?_;intro w7 hw7;have HB7:=hid (A6 HBQ.o hw7);clear hw7;have HTT:Hid (bd=true):=hid (HZD.o.symm.trans (G5 HSK.o HND.o));go_wp2_with fail;go_ret;exact⟨by rw[HRES.o,HBC.o,HTT.o];rfl,A6 HBN.o HB7.o⟩
           | true=>
             go_upto_region 13 with fail
             refine Ad (by kernel_rfl) ?_ ?_
             ·kernel_rfl
             repeat first
              | go_big_quiet_skip
              | (go_big_quiet_want
                 with_reducible refine Ae (o:=⟨some 57,_,_,_,_,_⟩) 65 _ rfl _ _ ?_ (fun w' hw'=>Au (A5 hw' HSR.o)) ?_
                 ·rfl
                 simp only[Act.put,VW,VX,VV];go_big_quiet_on)
              | (go_big_quiet_want;go_big_quiet_op;go_big_quiet_on)
              | (with_reducible apply wpQuiet_step
                 intro K hK;go_simp;first
                  | (refine hK _ ?_;clear hK K)
                  | (apply Exists.intro
                     refine⟨fun w' hw'=>?_,hK _ ?_⟩
                     ·
                      (first
                       | with_reducible exact KRVW.o _ hw'
                       | with_reducible exact KCLW.o _ hw'
                       | (have t0:=VY hw' HT0.o
                          go_simp;first | done | with_reducible exact rfl | with_reducible exact⟨rfl,rfl⟩ | with_reducible exact KRVW.o _ hw' | with_reducible exact KCLW.o _ hw')
                       | (have t1:=VY hw' HT1.o
                          go_simp;first | done | with_reducible exact rfl | with_reducible exact⟨rfl,rfl⟩ | with_reducible exact KRVW.o _ hw' | with_reducible exact KCLW.o _ hw')
                       | (have g0:=A4 (A5 hw' HIR.o) 0 _ rfl
                          have g1:=A4 (A5 hw' HIR.o) 1 _ rfl;have g2:=A4 (A5 hw' HIR.o) 2 _ rfl;have g3:=A4 (A5 hw' HIR.o) 3 _ rfl;go_simp;first | done | with_reducible exact rfl | with_reducible exact⟨rfl,rfl⟩ | with_reducible exact KRVW.o _ hw' | with_reducible exact KCLW.o _ hw')
                       | (have g0:=A4 (A5 hw' HLR.o) 0 _ rfl
                          have g1:=A4 (A5 hw' HLR.o) 1 _ rfl;have g2:=A4 (A5 hw' HLR.o) 2 _ rfl;have g3:=A4 (A5 hw' HLR.o) 3 _ rfl;go_simp;first | done | with_reducible exact rfl | with_reducible exact⟨rfl,rfl⟩ | with_reducible exact KRVW.o _ hw' | with_reducible exact KCLW.o _ hw')
                       | (have p1:=VY hw' HP1.o
                          go_simp;first | done | with_reducible exact rfl | with_reducible exact⟨rfl,rfl⟩ | with_reducible exact KRVW.o _ hw' | with_reducible exact KCLW.o _ hw'))
                     clear hK K))
             refine wpQuiet_nil ?_;intro w7 hw7;have HB7:=hid (A6 HBQ.o hw7);clear hw7;have HN:Hid ((x.nd.take (k+1)).any (Bg (AW L) s oc)=false):=hid (Gj HSK.o HF2.o HND.o);go_wp2_with fail;rw[← HAA.o,← HPX.o];go_roundg (tn - (k+1))
             case rel=>exact⟨k+1,AA HK.o HLK.o,by go_num,HN.o,HB7.o⟩
             case measure=>exact Az HK.o HLK.o
        ·have d4:¬ ((k:Int)<tn):=(by omega);have HTT:Hid (bd=false):=hid (HZD.o.symm.trans (LL HF2.o (by have:=HTN.o;have:=HK.o;omega)));go_wp2_with fail;go_ret;exact⟨by rw[HRES.o,HBC.o,HTT.o];rfl,A6 HBN.o HBQ.o⟩
end Go.Proofs.YtpohoannggdbjaaGreat
