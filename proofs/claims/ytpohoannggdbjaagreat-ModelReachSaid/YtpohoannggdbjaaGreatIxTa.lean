/- Ours: IxTp; IxTa. -/
import Derived.Test.YtpohoannggdbjaaGreatIxT
set_option maxRecDepth 100000
set_option maxHeartbeats 200000000
namespace Go.Proofs.YtpohoannggdbjaaGreat
open Lib (hid)
open Go.RowKit
section
theorem GQ(s n:Nat)(hs:s<4294967296):(bits .and .u32 ((s:Int) / 2 ^ n) 1 == 0) = !Aa s n:=by
 have h1:s / pw n<4294967296:=Wr (Nat.div_le_self _ _) hs;rw[Hp,show(1:Int)=((1:Nat):Int) from rfl,u32_and_nat _ 1 h1 (by omega),Nat.and_one_is_mod];unfold Aa;rw[Ww];simp;omega
attribute [local irreducible] Sl.v Aa pw Ab Aw C8 Af BC CD Bi Bg B9 CB BQ AU Bp BB BG Bh Bd BP Bo BL BF BN AI AY AV Be Bw Bq C4 Mc.tb BZ AX Ap B5
attribute [local irreducible] AW CY Bt BO Rt.tr Rt.nd AC C9 At
attribute [local irreducible] E9
theorem K6(L:AL)(s:St)(oc no re:Nat)(ia:Option Addr)(il ic:Nat)(n:Nat)(x:Rt)(w:World)(hL:AO w L)(hc:(Ap L).1=0)(hs:s.ok)(ho:oc<18446744073709551616)(hno:no<4294967296)(hre:re<4294967296)(hx:L.rt.l[n]?=some x) :
 Calls Tryz.prog 45 #[.agg #[L.se.v,L.po.v,L.sg.v,L.rt.v],.agg (Af s).toArray,.agg #[.int .u64 (oc:Int),.int .u32 (no:Int),.int .u32 (re:Int),.slice ia il ic],.int .i64 (n:Int)] w fun e w'=>e = .returned (.bool (BN s oc (B5 no re) (B5 re no) n (CY L n x)))∧Below w.heap.size w w':=by
 have HMAY:Hid (AX L=true):=hid (B6 hc);have HS4:Hid (L.rt.l.length≤64):=hid (AE (B6 hc)).2.2.2;have HCK:=hid hc;have h63:n≤63:=by have h1:=(We.1 hx).1;have:=HS4.o;omega
 have hxm:=Wf hx;obtain⟨bm,hbm⟩:=WY (AU s n);obtain⟨bf,hbf⟩:=WY (Bi oc (CY L n x));obtain⟨sa,hsa⟩:=WY (B5 no re);obtain⟨sb,hsb⟩:=WY (B5 re no);have HSA:Hid (sa<4294967296):=hid (hsa ▸ F0 hno);have HSB:Hid (sb<4294967296):=hid (hsb ▸ F0 hre);obtain⟨bn,hbn⟩:=WY (x.nd.any (fun m:Int × Bool=>!(Aa (if m.2 then sb else sa) m.1.toNat)));have HZN:=hid hbn;have HRES:Hid (BN s oc (B5 no re) (B5 re no) n (CY L n x)=(bm && (bf && !bn))):=hid (by rw[hsa,hsb,Pq,hbf,Hm,hbn,← Jg,hbm]);have KSD:Hid (∀ V,Calls Tryz.prog 80 #[.agg #[.int .u64 (oc:Int),.int .u32 (no:Int),.int .u32 (re:Int),.slice ia il ic]] V fun e w'=>e = .returned (.tuple #[.int .u32 (sa:Int),.int .u32 (sb:Int)])∧Below V.heap.size V w'):=hid (fun V=>by
  have h:=Jy oc no re ia il ic V;rw[EZ hno hre,EZ hre hno,hsa,hsb] at h;exact h)
 have KHS:Hid (∀ V,Calls Tryz.prog 43 #[.int .u64 ((E9 s:Nat):Int),.int .i64 (n:Int)] V fun e w'=>e = .returned (.bool bm)∧Below V.heap.size V w'):=hid (fun V=>CP bm (E9 s:Nat) n V h63 (Pd hs) ((Mt hs h63).trans hbm));have HA1:=hid (SK hs);have HA2:=hid (SL hs);have HOC:=hid ho;obtain⟨n1,hn1⟩:=WY L.se.l.length;obtain⟨n2,hn2⟩:=WY L.po.l.length;obtain⟨n3,hn3⟩:=WY L.sg.l.length;obtain⟨n4,hn4⟩:=WY L.rt.l.length;have HLW:=hid hL;have HN1:=hid hn1;have HN2:=hid hn2;have HN3:=hid hn3;have HN4:=hid hn4;have HNLT:Hid (n<n4):=hid (by rw[← hn4];exact(We.1 hx).1);rw[Ak hn1,Ak hn2,Ak hn3,Ak hn4];clear hn1 hn2 hn3 hn4 hL hc hs ho hno hre hsa hsb hbn h63 hbm;go_enter Tryz.func45,Tryz.ntmps45;go_upto_region 1 with fail
 refine Ao (os:=[.cells #[.slice L.se.a n1 L.se.c,.slice L.po.a n2 L.po.c,.slice L.sg.a n3 L.sg.c,.slice L.rt.a n4 L.rt.c] 27,.cells (Af s).toArray 65,.cells #[.int .u64 (oc:Int),.int .u32 (no:Int),.int .u32 (re:Int),.slice ia il ic] 35]) (w0:=w) rfl ?_;intro W hat hbw;obtain⟨gl,hgl⟩:=X0 w.heap.size;have q0:=hat 0 _ rfl;obtain⟨gs,hgs⟩:=X0 (gl+1);have q1:=hat 1 _ rfl;obtain⟨gi,hgi⟩:=X0 (gs+1);have q2:=hat 2 _ rfl;rw[Wa,← hgl] at q0;rw[← hgl,← hgs] at q1;rw[← hgl,show gl+2=gi by omega] at q2;rw[← hgl,← hgs,← hgi];have HQl:=hid q0;have HQs:=hid q1;have HQi:=hid q2;have HB0:=hid hbw;clear hat hbw q0 q1 q2 hgl hgs hgi;have HBX:=HB0;rcases HLW.o.rt.row with hnil | ⟨xb,off,hxb,hc0⟩
 ·rw[hnil] at hx;cases hx
 have hc:=fun i c hi j v hv=>VY (HB0.o) (hc0 i c hi j v hv)
 have hyx:=hx;have z0:=hc n _ hyx 0 _ rfl;have z1:=hc n _ hyx 1 _ rfl;have z2:=hc n _ hyx 2 _ rfl;have z3:=hc n _ hyx 3 _ rfl;have z4:=hc n _ hyx 4 _ rfl;have z5:=hc n _ hyx 5 _ rfl;rw[Wa] at z0;obtain⟨p1,hp1⟩:=WY x.pa.l.length;obtain⟨p2,hp2⟩:=WY x.po.l.length;obtain⟨p3,hp3⟩:=WY x.ov.l.length;obtain⟨p4,hp4⟩:=WY x.fl.l.length;rw[Ak hp1] at z2;rw[Ak hp2] at z3;rw[Ak hp3] at z4;rw[Ak hp4] at z5;have HZX:=hid (And.intro z0 (And.intro z1 (And.intro z2 (And.intro z3 (And.intro z4 z5)))));clear z0 z1 z2 z3 z4 z5;have KFR:Hid (∀ V,Below W.heap.size W V→Calls Tryz.prog 78 #[.agg #[.string x.nm,.int .i64 x.sg,.slice x.pa.a p1 x.pa.c,.slice x.po.a p2 x.po.c,.slice x.ov.a p3 x.ov.c,.slice x.fl.a p4 x.fl.c],.agg #[.int .u64 (oc:Int),.int .u32 (no:Int),.int .u32 (re:Int),.slice ia il ic]] V fun e w'=>e = .returned (.bool bf)∧Below V.heap.size V w'):=hid (fun V hV=>by
  have ok:=Bv HMAY.o x hxm;have h:=GG (!bf) oc no re ia il ic x V ((HLW.o.rn x hxm).below (A6 HBX.o hV)) (by have:=ok.pa;have:=ok.ov;omega) (fun k hk=>by have h:=NY HMAY.o x hxm k hk;have:=(AE HMAY.o).1;omega) HOC.o (by rw[Jb] at hbf;rw[← hbf,Bool.not_not]);rw[Ak hp1,Ak hp2,Ak hp3,Ak hp4,Bool.not_not] at h;exact h)
 have KND:Hid (∀ V,Below W.heap.size W V→Calls Tryz.prog 70 #[.agg #[.string x.nm,.int .i64 x.sg,x.pa.v,x.po.v,x.ov.v,x.fl.v]] V fun e w'=>∃ a n c,e = .returned (.slice a n c)∧n=x.nd.length∧B7 2 CX w' ⟨a,c,x.nd⟩∧Below V.heap.size V w'):=hid (fun V hV=>by
  have ok:=Bv HMAY.o x hxm;have h:=DY x V ((HLW.o.rn x hxm).below (A6 (HB0.o) hV)) (by have:=ok.po;have:=ok.fl;omega);unfold Rt.nd;rw[Wh];exact h)
 have HNL:Hid (x.nd.length≤100000):=hid (by have ok:=Bv HMAY.o x hxm;have:=ok.po;have:=ok.fl;unfold Rt.nd;rw[Wh];omega);have HNB:Hid (∀ n∈x.nd,0≤n.1∧n.1≤31):=hid (fun n hn=>by have h:=NX HMAY.o x hxm n hn;have:=(AE HMAY.o).2.1;omega);rw[Ak hp1,Ak hp2,Ak hp3,Ak hp4] at KND;obtain⟨X,hX⟩:=WY L.rt.a;have hql:=HQl.o;rw[hX] at hxb hql ⊢;subst hxb;have HQl:=hid hql;have HD1:Hid ((0:Int)≤n):=hid (by omega);have HD2:Hid ((n:Int)<n4):=hid (by have:=HNLT.o;omega);clear hx hyx hc hc0 hX hql hbf hp1 hp2 hp3 hp4 hxm;have KHSW:Hid (∀ w',Below W.heap.size W w'→Calls Tryz.prog 43 #[.int .u64 (E9 s:Int),.int .i64 (n:Int)] w' fun e w''=>e = .returned (.bool bm)∧Below W.heap.size W w''):=hid (fun w' hw'=>(KHS.o w').mono (fun _ _ h=>⟨h.1,A6 hw' h.2⟩));have KFRW:Hid (∀ w',Below W.heap.size W w'→Calls Tryz.prog 78 #[.agg #[.string x.nm,.int .i64 x.sg,.slice x.pa.a p1 x.pa.c,.slice x.po.a p2 x.po.c,.slice x.ov.a p3 x.ov.c,.slice x.fl.a p4 x.fl.c],.agg #[.int .u64 (oc:Int),.int .u32 (no:Int),.int .u32 (re:Int),.slice ia il ic]] w' fun e w''=>e = .returned (.bool bf)∧Below W.heap.size W w''):=hid (fun w' hw'=>(KFR.o w' (hw')).mono (fun _ _ h=>⟨h.1,A6 hw' h.2⟩));have d1:=HD1.o;have d2:=HD2.o;cases bm with
 | false=>
   refine Ad (by kernel_rfl) ?_ ?_
   ·kernel_rfl
   repeat first
    | go_big_quiet_skip
    | (go_big_quiet_want;go_big_quiet_op;go_big_quiet_on)
    | (with_reducible apply wpQuiet_step
       intro K hK;go_simp;first
        | (refine hK _ ?_;clear hK K)
        | (apply Exists.intro
           refine⟨fun w' hw'=>?_,hK _ ?_⟩
           ·
            (first
             | with_reducible exact KHSW.o _ hw'
             | with_reducible exact KFRW.o _ hw'
             | (have s0:=A4 (A5 hw' HQs.o) 0 _ (DM s)
                have s1:=A4 (A5 hw' HQs.o) 1 _ (FE s);have s2:=A4 (A5 hw' HQs.o) 2 _ (E1 s);have a1:=HA1.o;have a2:=HA2.o;go_simp;first | done | with_reducible exact rfl | with_reducible exact⟨rfl,rfl⟩ | with_reducible exact KHSW.o _ hw' | with_reducible exact KFRW.o _ hw')
             | (have g0:=A4 (A5 hw' HQl.o) 0 _ rfl
                have g1:=A4 (A5 hw' HQl.o) 1 _ rfl;have g2:=A4 (A5 hw' HQl.o) 2 _ rfl;have g3:=A4 (A5 hw' HQl.o) 3 _ rfl;go_simp;first | done | with_reducible exact rfl | with_reducible exact⟨rfl,rfl⟩ | with_reducible exact KHSW.o _ hw' | with_reducible exact KFRW.o _ hw')
             | (have z0:=VY hw' HZX.o.1
                have z1:=VY hw' HZX.o.2.1;have z2:=VY hw' HZX.o.2.2.1;have z3:=VY hw' HZX.o.2.2.2.1;have z4:=VY hw' HZX.o.2.2.2.2.1;have z5:=VY hw' HZX.o.2.2.2.2.2;go_simp;first | done | with_reducible exact rfl | with_reducible exact⟨rfl,rfl⟩ | with_reducible exact KHSW.o _ hw' | with_reducible exact KFRW.o _ hw')
             | (have g0:=A4 (A5 hw' HQi.o) 0 _ rfl
                have g1:=A4 (A5 hw' HQi.o) 1 _ rfl;have g2:=A4 (A5 hw' HQi.o) 2 _ rfl;have g3:=A4 (A5 hw' HQi.o) 3 _ rfl;go_simp;first | done | with_reducible exact rfl | with_reducible exact⟨rfl,rfl⟩ | with_reducible exact KHSW.o _ hw' | with_reducible exact KFRW.o _ hw')
             | (have d1:=HD1.o
                have d2:=HD2.o;go_simp;first | done | with_reducible exact rfl | with_reducible exact⟨rfl,rfl⟩ | with_reducible exact KHSW.o _ hw' | with_reducible exact KFRW.o _ hw'))
           clear hK K))
   refine wpQuiet_nil ?_;intro w7 hw7;have HB7:=hid (A6 HB0.o hw7);clear hw7;go_wp2_with fail;go_ret;exact⟨by rw[HRES.o];rfl,HB7.o⟩
 | true=>
   cases bf with
   | false=>
     refine Ad (by kernel_rfl) ?_ ?_
     ·kernel_rfl
     repeat first
      | go_big_quiet_skip
      | (go_big_quiet_want;go_big_quiet_op;go_big_quiet_on)
      | (with_reducible apply wpQuiet_step
         intro K hK;go_simp;first
          | (refine hK _ ?_;clear hK K)
          | (apply Exists.intro
             refine⟨fun w' hw'=>?_,hK _ ?_⟩
             ·
              (first
               | with_reducible exact KHSW.o _ hw'
               | with_reducible exact KFRW.o _ hw'
               | (have s0:=A4 (A5 hw' HQs.o) 0 _ (DM s)
                  have s1:=A4 (A5 hw' HQs.o) 1 _ (FE s);have s2:=A4 (A5 hw' HQs.o) 2 _ (E1 s);have a1:=HA1.o;have a2:=HA2.o;go_simp;first | done | with_reducible exact rfl | with_reducible exact⟨rfl,rfl⟩ | with_reducible exact KHSW.o _ hw' | with_reducible exact KFRW.o _ hw')
               | (have g0:=A4 (A5 hw' HQl.o) 0 _ rfl
                  have g1:=A4 (A5 hw' HQl.o) 1 _ rfl;have g2:=A4 (A5 hw' HQl.o) 2 _ rfl;have g3:=A4 (A5 hw' HQl.o) 3 _ rfl;go_simp;first | done | with_reducible exact rfl | with_reducible exact⟨rfl,rfl⟩ | with_reducible exact KHSW.o _ hw' | with_reducible exact KFRW.o _ hw')
               | (have z0:=VY hw' HZX.o.1
                  have z1:=VY hw' HZX.o.2.1;have z2:=VY hw' HZX.o.2.2.1;have z3:=VY hw' HZX.o.2.2.2.1;have z4:=VY hw' HZX.o.2.2.2.2.1;have z5:=VY hw' HZX.o.2.2.2.2.2;go_simp;first | done | with_reducible exact rfl | with_reducible exact⟨rfl,rfl⟩ | with_reducible exact KHSW.o _ hw' | with_reducible exact KFRW.o _ hw')
               | (have g0:=A4 (A5 hw' HQi.o) 0 _ rfl
                  have g1:=A4 (A5 hw' HQi.o) 1 _ rfl;have g2:=A4 (A5 hw' HQi.o) 2 _ rfl;have g3:=A4 (A5 hw' HQi.o) 3 _ rfl;go_simp;first | done | with_reducible exact rfl | with_reducible exact⟨rfl,rfl⟩ | with_reducible exact KHSW.o _ hw' | with_reducible exact KFRW.o _ hw')
               | (have d1:=HD1.o
                  have d2:=HD2.o;go_simp;first | done | with_reducible exact rfl | with_reducible exact⟨rfl,rfl⟩ | with_reducible exact KHSW.o _ hw' | with_reducible exact KFRW.o _ hw'))
             clear hK K))
     refine wpQuiet_nil ?_;intro w7 hw7;have HB7:=hid (A6 HB0.o hw7);clear hw7;go_wp2_with fail;go_ret;exact⟨by rw[HRES.o];rfl,HB7.o⟩
   | true=>
     refine Ad (by kernel_rfl) ?_ ?_
     ·kernel_rfl
     repeat first
      | go_big_quiet_skip
      | (go_big_quiet_want;go_big_quiet_op;go_big_quiet_on)
      | (with_reducible apply wpQuiet_step
         intro K hK;go_simp;first
          | (refine hK _ ?_;clear hK K)
          | (apply Exists.intro
             refine⟨fun w' hw'=>?_,hK _ ?_⟩
             ·
              (first
               | with_reducible exact KHSW.o _ hw'
               | with_reducible exact KFRW.o _ hw'
               | (have s0:=A4 (A5 hw' HQs.o) 0 _ (DM s)
                  have s1:=A4 (A5 hw' HQs.o) 1 _ (FE s);have s2:=A4 (A5 hw' HQs.o) 2 _ (E1 s);have a1:=HA1.o;have a2:=HA2.o;go_simp;first | done | with_reducible exact rfl | with_reducible exact⟨rfl,rfl⟩ | with_reducible exact KHSW.o _ hw' | with_reducible exact KFRW.o _ hw')
               | (have g0:=A4 (A5 hw' HQl.o) 0 _ rfl
                  have g1:=A4 (A5 hw' HQl.o) 1 _ rfl;have g2:=A4 (A5 hw' HQl.o) 2 _ rfl;have g3:=A4 (A5 hw' HQl.o) 3 _ rfl;go_simp;first | done | with_reducible exact rfl | with_reducible exact⟨rfl,rfl⟩ | with_reducible exact KHSW.o _ hw' | with_reducible exact KFRW.o _ hw')
               | (have z0:=VY hw' HZX.o.1
                  have z1:=VY hw' HZX.o.2.1;have z2:=VY hw' HZX.o.2.2.1;have z3:=VY hw' HZX.o.2.2.2.1;have z4:=VY hw' HZX.o.2.2.2.2.1;have z5:=VY hw' HZX.o.2.2.2.2.2;go_simp;first | done | with_reducible exact rfl | with_reducible exact⟨rfl,rfl⟩ | with_reducible exact KHSW.o _ hw' | with_reducible exact KFRW.o _ hw')
               | (have g0:=A4 (A5 hw' HQi.o) 0 _ rfl
                  have g1:=A4 (A5 hw' HQi.o) 1 _ rfl;have g2:=A4 (A5 hw' HQi.o) 2 _ rfl;have g3:=A4 (A5 hw' HQi.o) 3 _ rfl;go_simp;first | done | with_reducible exact rfl | with_reducible exact⟨rfl,rfl⟩ | with_reducible exact KHSW.o _ hw' | with_reducible exact KFRW.o _ hw')
               | (have d1:=HD1.o
                  have d2:=HD2.o;go_simp;first | done | with_reducible exact rfl | with_reducible exact⟨rfl,rfl⟩ | with_reducible exact KHSW.o _ hw' | with_reducible exact KFRW.o _ hw'))
             clear hK K))
     refine wpQuiet_nil ?_;intro w7 hw7;have HB7:=hid (A6 HB0.o hw7);have HBW7:=hid hw7;clear hw7;have m0:=A4 (A5 HBW7.o HQi.o) 0 _ rfl;have m1:=A4 (A5 HBW7.o HQi.o) 1 _ rfl;have m2:=A4 (A5 HBW7.o HQi.o) 2 _ rfl;have m3:=A4 (A5 HBW7.o HQi.o) 3 _ rfl;go_wp2_with fail;refine(KSD.o _).mono ?_;rintro e w2 ⟨rfl,hb2⟩;have HB2:=hid (A6 HB7.o hb2);have HBW2:=hid (A6 HBW7.o hb2);have l0:=A4 (A5 HBW2.o HQl.o) 0 _ rfl;have l1:=A4 (A5 HBW2.o HQl.o) 1 _ rfl;have l2:=A4 (A5 HBW2.o HQl.o) 2 _ rfl;have l3:=A4 (A5 HBW2.o HQl.o) 3 _ rfl;have z0:=VY HBW2.o HZX.o.1;have z1:=VY HBW2.o HZX.o.2.1;have z2:=VY HBW2.o HZX.o.2.2.1;have z3:=VY HBW2.o HZX.o.2.2.2.1;have z4:=VY HBW2.o HZX.o.2.2.2.2.1;have z5:=VY HBW2.o HZX.o.2.2.2.2.2;clear m0 m1 m2 m3 hb2;go_wp2_with fail;refine(KND.o _ HBW2.o).mono ?_;rintro e wn ⟨ta,tn,tc,rfl,htn,hT,hb1⟩;have HT:=hid hT.row;have HTN:=hid htn;have htm:tn≤100000:=(by rw[htn];exact HNL.o);have HTM:=hid htm;have HBN:=hid (A6 HB2.o hb1);clear l0 l1 l2 l3 z0 z1 z2 z3 z4 z5 d1 d2 htn hT hb1 htm;go_upto_region 6 with fail
     go_loopg [12] tn (fun g v wq=>∃ k:Nat,k+g=tn∧v = .int .i64 (k:Int)∧(x.nd.take k).any (fun m:Int × Bool=>!(Aa (if m.2 then sb else sa) m.1.toNat))=false∧Below wn.heap.size wn wq)
     case atStart=>exact⟨0,by omega,rfl,JK,VU _ _⟩
     case round=>
      obtain⟨k,hk,rfl,ho,hbw⟩:=hrel;have HK:=hid hk;have HF2:=hid ho;have HBQ:=hid hbw;clear hk ho hbw;by_cases hlk:k<tn
      ·skip
       have d3:(0:Int)≤k:=(by omega);have d4:(k:Int)<tn:=(by omega);have e2:=B8 hlk (Wd HTM.o (by decide));have HLK:=hid hlk;obtain⟨⟨sj,B⟩,hs⟩:∃ s,x.nd[k]?=some s:=⟨_,Wb (by have:=HTN.o;omega)⟩;have hsb:=HNB.o _ (Wf hs);dsimp only at hsb;obtain⟨j,rfl⟩:∃ j:Nat,sj=j:=⟨sj.toNat,by omega⟩;have HJ31:Hid (j≤31):=hid (by omega);obtain⟨A,hA⟩:=WY ta;have HAA:=hid hA;have hrow:=HT.o;rw[hA] at hrow ⊢;rcases hrow with hnil | ⟨tb,toff,htb,ht0⟩
       ·have:=HTN.o;rw[hnil] at this;simp at this;omega
       subst htb;have t0:=VY HBQ.o (ht0 k _ hs 0 (.int .i64 (j:Int)) rfl);have t1:=VY HBQ.o (ht0 k _ hs 1 (.bool B) rfl);rw[Wa] at t0;have HSK:=hid hs;clear ht0 hs hsb hlk hA;have j0:(0:Int)≤j:=(by omega);have j1:min j 32=j:=(by have:=HJ31.o;omega);have j2:¬ (32:Int)≤j:=(by have:=HJ31.o;omega);cases B with
       | false=>
         obtain⟨E,hE⟩:=WY ((!(Aa sa j)));have f:=(GQ sa j HSA.o).trans hE;have HE:Hid ((fun m:Int × Bool=>!(Aa (if m.2 then sb else sa) m.1.toNat)) ((j:Int),false)=E):=hid (by show(!(Aa sa ((j:Int).toNat)))=E;rw[Int.toNat_natCast];exact hE);clear hE;cases E with
         | true=>
           have HTT:Hid (bn=true):=hid (HZN.o.symm.trans (G5 HSK.o HE.o));go_wp2_with fail;go_ret;exact⟨by rw[HRES.o,HTT.o];rfl,A6 HBN.o HBQ.o⟩
         | false=>
           have HN:Hid ((x.nd.take (k+1)).any (fun m:Int × Bool=>!(Aa (if m.2 then sb else sa) m.1.toNat))=false):=hid (Gj HSK.o HF2.o HE.o);go_wp2_with fail;rw[← HAA.o];go_roundg (tn - (k+1))
           case rel=>exact⟨k+1,AA HK.o HLK.o,by go_num,HN.o,HBQ.o⟩
           case measure=>exact Az HK.o HLK.o
       | true=>
         obtain⟨E,hE⟩:=WY ((!(Aa sb j)));have f:=(GQ sb j HSB.o).trans hE;have HE:Hid ((fun m:Int × Bool=>!(Aa (if m.2 then sb else sa) m.1.toNat)) ((j:Int),true)=E):=hid (by show(!(Aa sb ((j:Int).toNat)))=E;rw[Int.toNat_natCast];exact hE);clear hE;cases E with
         | true=>
           have HTT:Hid (bn=true):=hid (HZN.o.symm.trans (G5 HSK.o HE.o));go_wp2_with fail;go_ret;exact⟨by rw[HRES.o,HTT.o];rfl,A6 HBN.o HBQ.o⟩
         | false=>
           have HN:Hid ((x.nd.take (k+1)).any (fun m:Int × Bool=>!(Aa (if m.2 then sb else sa) m.1.toNat))=false):=hid (Gj HSK.o HF2.o HE.o);go_wp2_with fail;rw[← HAA.o];go_roundg (tn - (k+1))
           case rel=>exact⟨k+1,AA HK.o HLK.o,by go_num,HN.o,HBQ.o⟩
           case measure=>exact Az HK.o HLK.o
      ·have d4:¬ ((k:Int)<tn):=(by omega);have HTT:Hid (bn=false):=hid (HZN.o.symm.trans (LL HF2.o (by have:=HTN.o;have:=HK.o;omega)));go_wp2_with fail;go_ret;exact⟨by rw[HRES.o,HTT.o];rfl,A6 HBN.o HBQ.o⟩
end
section
def SD(L:AL)(x:Rt)(s:St)(k:Nat):Bool:=Aa s.lk k && ((L.rt.l[k]?).map (AC L x)).getD false
theorem L8{L:AL}{x y:Rt}{s:St}{k:Nat}(h:L.rt.l[k]?=some y):SD L x s k=(Aa s.lk k && AC L x y):=by unfold SD;rw[h];rfl
theorem UV{f:Nat→Bool}{k:Nat}(h:(List.range k).any f=false)(h2:f k=false):(List.range (k+1)).any f=false:=by rw[List.range_succ,List.any_append,h];simp[h2]
theorem TU{f:Nat→Bool}{n k:Nat}(hk:k<n)(h:f k=true):(List.range n).any f=true:=WF.2 ⟨k,List.mem_range.2 hk,h⟩
theorem RX{f:Nat→Bool}:(List.range 0).any f=false:=rfl
theorem Qw{L:AL}{x:Rt}{s:St}{n:Nat}(hm:AX L=true)(hx:L.rt.l[n]?=some x)(hl:Aa s.lk n=false):(List.range L.rt.l.length).any (SD L x s)=(BO L (n:Int)).any (fun k=>Aa s.lk k.toNat):=by
 have h4:=(AE hm).2.2.2;rw[Ww,WF,WF];constructor
 ·rintro⟨k,hk,h⟩;have hk:=List.mem_range.1 hk;have hy:=Wb hk;rw[L8 hy,Wl] at h;have hne:n≠k:=fun e=>by rw[e,h.1] at hl;cases hl
  refine⟨(k:Int),IZ.2 ⟨k,rfl,by omega,?_⟩,by rw[Int.toNat_natCast];exact h.1⟩;rw[Pr hm hx hy hne];exact h.2
 ·rintro⟨k,hk,h⟩;obtain⟨m,rfl,hm1,hp⟩:=IZ.1 hk;rw[Int.toNat_natCast] at h;have hne:n≠m:=fun e=>by rw[e,h] at hl;cases hl
  have hlt:m<L.rt.l.length:=(by omega);have hy:=Wb hlt;rw[Pr hm hx hy hne] at hp;exact⟨m,List.mem_range.2 hlt,by rw[L8 hy,h,hp];rfl⟩
theorem RJ(T:Tb)(s:St)(oc:Nat)(n:Int × Bool):Bg T s oc n=((Aa s.pt n.1.toNat != n.2) && Aa oc (T.li.getD n.1.toNat 0).toNat):=rfl
theorem TY(L:AL)(i:Nat)(x:Rt):(CY L i x).cf=BO L (i:Int):=rfl
theorem SJ{L:AL}{j:Nat}{p:BA × Int}(h:L.po.l[j]?=some p):(AW L).li.getD j 0=p.2:=by rw[List.getD_eq_getElem?_getD,PQ h];rfl
end
end Go.Proofs.YtpohoannggdbjaaGreat
