/- Ours: IxTp; IxTa. -/
import Derived.Test.YtpohoannggdbjaaGreatIxT
namespace Go.Proofs.YtpohoannggdbjaaGreat
open Lib (hid)
open Go.RowKit
set_option maxRecDepth 100000
theorem Gc(s n:Nat)(hs:s<4294967296):(bits .and .u32 ((s:Int) / 2 ^ n) 1 == 0) = !Aa s n:=by
 have h1:s / pw n<4294967296:=Nat.lt_of_le_of_lt (Nat.div_le_self _ _) hs;rw[JI,show(1:Int)=((1:Nat):Int) from rfl,u32_and_nat _ 1 h1 (by omega),Nat.and_one_is_mod];unfold Aa;rw[Bool.eq_iff_iff];simp;omega
attribute [local irreducible] Sl.v Aa pw Ab Ax C4 Ai BG Cs Bi Bf B7 Cr BO AT Bk Bw BD Bh Bg BQ Bj BI BC BM AD AS AR Bc BB Bq CT Mc.tb BU AQ Aq AW
attribute [local irreducible] B6 CQ Bs BN Rt.tr Rt.nd Aw BS As
attribute [local irreducible] DB
set_option maxHeartbeats 16000000 in
theorem IQ(L:AM)(s:St)(oc no re:Nat)(ia:Option Addr)(il ic:Nat)(n:Nat)(x:Rt)(w:World)(hL:B5 w L)(hc:(Aq L).1=0)(hs:s.ok)(ho:oc<18446744073709551616)(hno:no<4294967296)(hre:re<4294967296)(hx:L.rt.l[n]?=some x) :
 Calls Tryz.prog 45 #[.agg #[L.se.v,L.po.v,L.sg.v,L.rt.v],.agg (Ai s).toArray,.agg #[.int .u64 (oc:Int),.int .u32 (no:Int),.int .u32 (re:Int),.slice ia il ic],.int .i64 (n:Int)] w fun e w'=>e = .returned (.bool (BM s oc (AW no re) (AW re no) n (CQ L n x)))∧Below w.heap.size w w':=by
 have HMAY:Hid (AQ L=true):=hid (AP hc);have HS4:Hid (L.rt.l.length≤64):=hid (Ay (AP hc)).2.2.2;have HCK:=hid hc;have h63:n≤63:=by have h1:=(List.getElem?_eq_some_iff.1 hx).1;have:=HS4.out;omega
 have hxm:=List.mem_of_getElem? hx;obtain⟨bm,hbm⟩:∃ b,AT s n=b:=⟨_,rfl⟩;obtain⟨bf,hbf⟩:∃ b,Bi oc (CQ L n x)=b:=⟨_,rfl⟩;obtain⟨sa,hsa⟩:∃ a,AW no re=a:=⟨_,rfl⟩;obtain⟨sb,hsb⟩:∃ a,AW re no=a:=⟨_,rfl⟩;have HSA:Hid (sa<4294967296):=hid (hsa ▸ Ee hno);have HSB:Hid (sb<4294967296):=hid (hsb ▸ Ee hre);obtain⟨bn,hbn⟩:∃ b,x.nd.any (fun m:Int × Bool=>!(Aa (if m.2 then sb else sa) m.1.toNat))=b:=⟨_,rfl⟩;have HZN:=hid hbn;have HRES:Hid (BM s oc (AW no re) (AW re no) n (CQ L n x)=(bm && (bf && !bn))):=hid (by rw[hsa,hsb,Mu,hbf,Gf,hbn,← Hv,hbm]);have KSD:Hid (∀ V,Calls Tryz.prog 80 #[.agg #[.int .u64 (oc:Int),.int .u32 (no:Int),.int .u32 (re:Int),.slice ia il ic]] V fun e w'=>e = .returned (.tuple #[.int .u32 (sa:Int),.int .u32 (sb:Int)])∧Below V.heap.size V w'):=hid (fun V=>by
  have h:=He oc no re ia il ic V;rw[E9 hno hre,E9 hre hno,hsa,hsb] at h;exact h)
 have KHS:Hid (∀ V,Calls Tryz.prog 43 #[.int .u64 ((DB s:Nat):Int),.int .i64 (n:Int)] V fun e w'=>e = .returned (.bool bm)∧Below V.heap.size V w'):=hid (fun V=>Ct bm (DB s:Nat) n V h63 (Nf hs) ((JX hs h63).trans hbm));have HA1:=hid (Pz hs);have HA2:=hid (PC hs);have HOC:=hid ho;obtain⟨n1,hn1⟩:∃ n,L.se.l.length=n:=⟨_,rfl⟩;obtain⟨n2,hn2⟩:∃ n,L.po.l.length=n:=⟨_,rfl⟩;obtain⟨n3,hn3⟩:∃ n,L.sg.l.length=n:=⟨_,rfl⟩;obtain⟨n4,hn4⟩:∃ n,L.rt.l.length=n:=⟨_,rfl⟩;have HLW:=hid hL;have HN1:=hid hn1;have HN2:=hid hn2;have HN3:=hid hn3;have HN4:=hid hn4;have HNLT:Hid (n<n4):=hid (by rw[← hn4];exact(List.getElem?_eq_some_iff.1 hx).1);rw[Ak hn1,Ak hn2,Ak hn3,Ak hn4];clear hn1 hn2 hn3 hn4 hL hc hs ho hno hre hsa hsb hbn h63 hbm;go_enter Tryz.func45,Tryz.ntmps45;go_upto_region 1 with fail
 refine Ap (os:=[.cells #[.slice L.se.a n1 L.se.c,.slice L.po.a n2 L.po.c,.slice L.sg.a n3 L.sg.c,.slice L.rt.a n4 L.rt.c] 27,.cells (Ai s).toArray 65,.cells #[.int .u64 (oc:Int),.int .u32 (no:Int),.int .u32 (re:Int),.slice ia il ic] 35]) (w0:=w) rfl ?_;intro W hat hbw;obtain⟨gl,hgl⟩:∃ g,g=w.heap.size:=⟨_,rfl⟩;have q0:=hat 0 _ rfl;obtain⟨gs,hgs⟩:∃ g,g=gl+1:=⟨_,rfl⟩;have q1:=hat 1 _ rfl;obtain⟨gi,hgi⟩:∃ g,g=gs+1:=⟨_,rfl⟩;have q2:=hat 2 _ rfl;rw[Nat.add_zero,← hgl] at q0;rw[← hgl,← hgs] at q1;rw[← hgl,show gl+2=gi by omega] at q2;rw[← hgl,← hgs,← hgi];have HQl:=hid q0;have HQs:=hid q1;have HQi:=hid q2;have HB0:=hid hbw;clear hat hbw q0 q1 q2 hgl hgs hgi;have HBX:=HB0;rcases HLW.out.rt.row with hnil | ⟨xb,off,hxb,hc0⟩
 ·rw[hnil] at hx;cases hx
 have hc:=fun i c hi j v hv=>cell_later (HB0.out) (hc0 i c hi j v hv)
 have hyx:=hx;have z0:=hc n _ hyx 0 _ rfl;have z1:=hc n _ hyx 1 _ rfl;have z2:=hc n _ hyx 2 _ rfl;have z3:=hc n _ hyx 3 _ rfl;have z4:=hc n _ hyx 4 _ rfl;have z5:=hc n _ hyx 5 _ rfl;rw[Nat.add_zero] at z0;obtain⟨p1,hp1⟩:∃ n,x.pa.l.length=n:=⟨_,rfl⟩;obtain⟨p2,hp2⟩:∃ n,x.po.l.length=n:=⟨_,rfl⟩;obtain⟨p3,hp3⟩:∃ n,x.ov.l.length=n:=⟨_,rfl⟩;obtain⟨p4,hp4⟩:∃ n,x.fl.l.length=n:=⟨_,rfl⟩;rw[Ak hp1] at z2;rw[Ak hp2] at z3;rw[Ak hp3] at z4;rw[Ak hp4] at z5;have HZX:=hid (And.intro z0 (And.intro z1 (And.intro z2 (And.intro z3 (And.intro z4 z5)))));clear z0 z1 z2 z3 z4 z5;have KFR:Hid (∀ V,Below W.heap.size W V→Calls Tryz.prog 78 #[.agg #[.string x.nm,.int .i64 x.sg,.slice x.pa.a p1 x.pa.c,.slice x.po.a p2 x.po.c,.slice x.ov.a p3 x.ov.c,.slice x.fl.a p4 x.fl.c],.agg #[.int .u64 (oc:Int),.int .u32 (no:Int),.int .u32 (re:Int),.slice ia il ic]] V fun e w'=>e = .returned (.bool bf)∧Below V.heap.size V w'):=hid (fun V hV=>by
  have ok:=Bn HMAY.out x hxm;have h:=FP (!bf) oc no re ia il ic x V ((HLW.out.rn x hxm).below (A8 HBX.out hV)) (by have:=ok.pa;have:=ok.ov;omega) (fun k hk=>by have h:=Lc HMAY.out x hxm k hk;have:=(Ay HMAY.out).1;omega) HOC.out (by rw[Ho] at hbf;rw[← hbf,Bool.not_not]);rw[Ak hp1,Ak hp2,Ak hp3,Ak hp4,Bool.not_not] at h;exact h)
 have KND:Hid (∀ V,Below W.heap.size W V→Calls Tryz.prog 70 #[.agg #[.string x.nm,.int .i64 x.sg,x.pa.v,x.po.v,x.ov.v,x.fl.v]] V fun e w'=>∃ a n c,e = .returned (.slice a n c)∧n=x.nd.length∧B8 2 Cz w' ⟨a,c,x.nd⟩∧Below V.heap.size V w'):=hid (fun V hV=>by
  have ok:=Bn HMAY.out x hxm;have h:=Dr x V ((HLW.out.rn x hxm).below (A8 (HB0.out) hV)) (by have:=ok.po;have:=ok.fl;omega);unfold Rt.nd;rw[List.length_append];exact h)
 have HNL:Hid (x.nd.length≤100000):=hid (by have ok:=Bn HMAY.out x hxm;have:=ok.po;have:=ok.fl;unfold Rt.nd;rw[List.length_append];omega);have HNB:Hid (∀ n∈x.nd,0≤n.1∧n.1≤31):=hid (fun n hn=>by have h:=Lv HMAY.out x hxm n hn;have:=(Ay HMAY.out).2.1;omega);rw[Ak hp1,Ak hp2,Ak hp3,Ak hp4] at KND;obtain⟨X,hX⟩:∃ a,L.rt.a=a:=⟨_,rfl⟩;have hql:=HQl.out;rw[hX] at hxb hql ⊢;subst hxb;have HQl:=hid hql;have HD1:Hid ((0:Int)≤n):=hid (by omega);have HD2:Hid ((n:Int)<n4):=hid (by have:=HNLT.out;omega);clear hx hyx hc hc0 hX hql hbf hp1 hp2 hp3 hp4 hxm;have KHSW:Hid (∀ w',Below W.heap.size W w'→Calls Tryz.prog 43 #[.int .u64 (DB s:Int),.int .i64 (n:Int)] w' fun e w''=>e = .returned (.bool bm)∧Below W.heap.size W w''):=hid (fun w' hw'=>(KHS.out w').mono (fun _ _ h=>⟨h.1,A8 hw' h.2⟩));have KFRW:Hid (∀ w',Below W.heap.size W w'→Calls Tryz.prog 78 #[.agg #[.string x.nm,.int .i64 x.sg,.slice x.pa.a p1 x.pa.c,.slice x.po.a p2 x.po.c,.slice x.ov.a p3 x.ov.c,.slice x.fl.a p4 x.fl.c],.agg #[.int .u64 (oc:Int),.int .u32 (no:Int),.int .u32 (re:Int),.slice ia il ic]] w' fun e w''=>e = .returned (.bool bf)∧Below W.heap.size W w''):=hid (fun w' hw'=>(KFR.out w' (hw')).mono (fun _ _ h=>⟨h.1,A8 hw' h.2⟩));have d1:=HD1.out;have d2:=HD2.out;cases bm with
 | false=>
   refine Ae (by kernel_rfl) ?_ ?_
   ·kernel_rfl
   repeat first
    | go_big_quiet_skip
    | (go_big_quiet_want;go_big_quiet_op;go_big_quiet_on)
    | (with_reducible apply wpQuiet_step
       intro K hK;go_simp;first
        | (refine hK _ ?_;clear hK K)
        | (apply Exists.intro
           refine⟨fun w' hw'=>?_,hK _ ?_⟩
           ·
            (first
             | with_reducible exact KHSW.out _ hw'
             | with_reducible exact KFRW.out _ hw'
             | (have s0:=A4 (A5 hw' HQs.out) 0 _ (Dl s)
                have s1:=A4 (A5 hw' HQs.out) 1 _ (EW s);have s2:=A4 (A5 hw' HQs.out) 2 _ (Ds s);have a1:=HA1.out;have a2:=HA2.out;go_simp;first | done | with_reducible exact rfl | with_reducible exact⟨rfl,rfl⟩ | with_reducible exact KHSW.out _ hw' | with_reducible exact KFRW.out _ hw')
             | (have g0:=A4 (A5 hw' HQl.out) 0 _ rfl
                have g1:=A4 (A5 hw' HQl.out) 1 _ rfl;have g2:=A4 (A5 hw' HQl.out) 2 _ rfl;have g3:=A4 (A5 hw' HQl.out) 3 _ rfl;go_simp;first | done | with_reducible exact rfl | with_reducible exact⟨rfl,rfl⟩ | with_reducible exact KHSW.out _ hw' | with_reducible exact KFRW.out _ hw')
             | (have z0:=cell_later hw' HZX.out.1
                have z1:=cell_later hw' HZX.out.2.1;have z2:=cell_later hw' HZX.out.2.2.1;have z3:=cell_later hw' HZX.out.2.2.2.1;have z4:=cell_later hw' HZX.out.2.2.2.2.1;have z5:=cell_later hw' HZX.out.2.2.2.2.2;go_simp;first | done | with_reducible exact rfl | with_reducible exact⟨rfl,rfl⟩ | with_reducible exact KHSW.out _ hw' | with_reducible exact KFRW.out _ hw')
             | (have g0:=A4 (A5 hw' HQi.out) 0 _ rfl
                have g1:=A4 (A5 hw' HQi.out) 1 _ rfl;have g2:=A4 (A5 hw' HQi.out) 2 _ rfl;have g3:=A4 (A5 hw' HQi.out) 3 _ rfl;go_simp;first | done | with_reducible exact rfl | with_reducible exact⟨rfl,rfl⟩ | with_reducible exact KHSW.out _ hw' | with_reducible exact KFRW.out _ hw')
             | (have d1:=HD1.out
                have d2:=HD2.out;go_simp;first | done | with_reducible exact rfl | with_reducible exact⟨rfl,rfl⟩ | with_reducible exact KHSW.out _ hw' | with_reducible exact KFRW.out _ hw'))
           clear hK K))
   refine wpQuiet_nil ?_;intro w7 hw7;have HB7:=hid (A8 HB0.out hw7);clear hw7;go_wp2_with fail;go_ret;exact⟨by rw[HRES.out];rfl,HB7.out⟩
 | true=>
   cases bf with
   | false=>
     refine Ae (by kernel_rfl) ?_ ?_
     ·kernel_rfl
     repeat first
      | go_big_quiet_skip
      | (go_big_quiet_want;go_big_quiet_op;go_big_quiet_on)
      | (with_reducible apply wpQuiet_step
         intro K hK;go_simp;first
          | (refine hK _ ?_;clear hK K)
          | (apply Exists.intro
             refine⟨fun w' hw'=>?_,hK _ ?_⟩
             ·
              (first
               | with_reducible exact KHSW.out _ hw'
               | with_reducible exact KFRW.out _ hw'
               | (have s0:=A4 (A5 hw' HQs.out) 0 _ (Dl s)
                  have s1:=A4 (A5 hw' HQs.out) 1 _ (EW s);have s2:=A4 (A5 hw' HQs.out) 2 _ (Ds s);have a1:=HA1.out;have a2:=HA2.out;go_simp;first | done | with_reducible exact rfl | with_reducible exact⟨rfl,rfl⟩ | with_reducible exact KHSW.out _ hw' | with_reducible exact KFRW.out _ hw')
               | (have g0:=A4 (A5 hw' HQl.out) 0 _ rfl
                  have g1:=A4 (A5 hw' HQl.out) 1 _ rfl;have g2:=A4 (A5 hw' HQl.out) 2 _ rfl;have g3:=A4 (A5 hw' HQl.out) 3 _ rfl;go_simp;first | done | with_reducible exact rfl | with_reducible exact⟨rfl,rfl⟩ | with_reducible exact KHSW.out _ hw' | with_reducible exact KFRW.out _ hw')
               | (have z0:=cell_later hw' HZX.out.1
                  have z1:=cell_later hw' HZX.out.2.1;have z2:=cell_later hw' HZX.out.2.2.1;have z3:=cell_later hw' HZX.out.2.2.2.1;have z4:=cell_later hw' HZX.out.2.2.2.2.1;have z5:=cell_later hw' HZX.out.2.2.2.2.2;go_simp;first | done | with_reducible exact rfl | with_reducible exact⟨rfl,rfl⟩ | with_reducible exact KHSW.out _ hw' | with_reducible exact KFRW.out _ hw')
               | (have g0:=A4 (A5 hw' HQi.out) 0 _ rfl
                  have g1:=A4 (A5 hw' HQi.out) 1 _ rfl;have g2:=A4 (A5 hw' HQi.out) 2 _ rfl;have g3:=A4 (A5 hw' HQi.out) 3 _ rfl;go_simp;first | done | with_reducible exact rfl | with_reducible exact⟨rfl,rfl⟩ | with_reducible exact KHSW.out _ hw' | with_reducible exact KFRW.out _ hw')
               | (have d1:=HD1.out
                  have d2:=HD2.out;go_simp;first | done | with_reducible exact rfl | with_reducible exact⟨rfl,rfl⟩ | with_reducible exact KHSW.out _ hw' | with_reducible exact KFRW.out _ hw'))
             clear hK K))
     refine wpQuiet_nil ?_;intro w7 hw7;have HB7:=hid (A8 HB0.out hw7);clear hw7;go_wp2_with fail;go_ret;exact⟨by rw[HRES.out];rfl,HB7.out⟩
   | true=>
     refine Ae (by kernel_rfl) ?_ ?_
     ·kernel_rfl
     repeat first
      | go_big_quiet_skip
      | (go_big_quiet_want;go_big_quiet_op;go_big_quiet_on)
      | (with_reducible apply wpQuiet_step
         intro K hK;go_simp;first
          | (refine hK _ ?_;clear hK K)
          | (apply Exists.intro
             refine⟨fun w' hw'=>?_,hK _ ?_⟩
             ·
              (first
               | with_reducible exact KHSW.out _ hw'
               | with_reducible exact KFRW.out _ hw'
               | (have s0:=A4 (A5 hw' HQs.out) 0 _ (Dl s)
                  have s1:=A4 (A5 hw' HQs.out) 1 _ (EW s);have s2:=A4 (A5 hw' HQs.out) 2 _ (Ds s);have a1:=HA1.out;have a2:=HA2.out;go_simp;first | done | with_reducible exact rfl | with_reducible exact⟨rfl,rfl⟩ | with_reducible exact KHSW.out _ hw' | with_reducible exact KFRW.out _ hw')
               | (have g0:=A4 (A5 hw' HQl.out) 0 _ rfl
                  have g1:=A4 (A5 hw' HQl.out) 1 _ rfl;have g2:=A4 (A5 hw' HQl.out) 2 _ rfl;have g3:=A4 (A5 hw' HQl.out) 3 _ rfl;go_simp;first | done | with_reducible exact rfl | with_reducible exact⟨rfl,rfl⟩ | with_reducible exact KHSW.out _ hw' | with_reducible exact KFRW.out _ hw')
               | (have z0:=cell_later hw' HZX.out.1
                  have z1:=cell_later hw' HZX.out.2.1;have z2:=cell_later hw' HZX.out.2.2.1;have z3:=cell_later hw' HZX.out.2.2.2.1;have z4:=cell_later hw' HZX.out.2.2.2.2.1;have z5:=cell_later hw' HZX.out.2.2.2.2.2;go_simp;first | done | with_reducible exact rfl | with_reducible exact⟨rfl,rfl⟩ | with_reducible exact KHSW.out _ hw' | with_reducible exact KFRW.out _ hw')
               | (have g0:=A4 (A5 hw' HQi.out) 0 _ rfl
                  have g1:=A4 (A5 hw' HQi.out) 1 _ rfl;have g2:=A4 (A5 hw' HQi.out) 2 _ rfl;have g3:=A4 (A5 hw' HQi.out) 3 _ rfl;go_simp;first | done | with_reducible exact rfl | with_reducible exact⟨rfl,rfl⟩ | with_reducible exact KHSW.out _ hw' | with_reducible exact KFRW.out _ hw')
               | (have d1:=HD1.out
                  have d2:=HD2.out;go_simp;first | done | with_reducible exact rfl | with_reducible exact⟨rfl,rfl⟩ | with_reducible exact KHSW.out _ hw' | with_reducible exact KFRW.out _ hw'))
             clear hK K))
     refine wpQuiet_nil ?_;intro w7 hw7;have HB7:=hid (A8 HB0.out hw7);have HBW7:=hid hw7;clear hw7;have m0:=A4 (A5 HBW7.out HQi.out) 0 _ rfl;have m1:=A4 (A5 HBW7.out HQi.out) 1 _ rfl;have m2:=A4 (A5 HBW7.out HQi.out) 2 _ rfl;have m3:=A4 (A5 HBW7.out HQi.out) 3 _ rfl;go_wp2_with fail;refine(KSD.out _).mono ?_;rintro e w2 ⟨rfl,hb2⟩;have HB2:=hid (A8 HB7.out hb2);have HBW2:=hid (A8 HBW7.out hb2);have l0:=A4 (A5 HBW2.out HQl.out) 0 _ rfl;have l1:=A4 (A5 HBW2.out HQl.out) 1 _ rfl;have l2:=A4 (A5 HBW2.out HQl.out) 2 _ rfl;have l3:=A4 (A5 HBW2.out HQl.out) 3 _ rfl;have z0:=cell_later HBW2.out HZX.out.1;have z1:=cell_later HBW2.out HZX.out.2.1;have z2:=cell_later HBW2.out HZX.out.2.2.1;have z3:=cell_later HBW2.out HZX.out.2.2.2.1;have z4:=cell_later HBW2.out HZX.out.2.2.2.2.1;have z5:=cell_later HBW2.out HZX.out.2.2.2.2.2;clear m0 m1 m2 m3 hb2;go_wp2_with fail;refine(KND.out _ HBW2.out).mono ?_;rintro e wn ⟨ta,tn,tc,rfl,htn,hT,hb1⟩;have HT:=hid hT.row;have HTN:=hid htn;have htm:tn≤100000:=by rw[htn];exact HNL.out
     have HTM:=hid htm;have HBN:=hid (A8 HB2.out hb1);clear l0 l1 l2 l3 z0 z1 z2 z3 z4 z5 d1 d2 htn hT hb1 htm;go_upto_region 6 with fail
     go_loopg [12] tn (fun g v wq=>∃ k:Nat,k+g=tn∧v = .int .i64 (k:Int)∧(x.nd.take k).any (fun m:Int × Bool=>!(Aa (if m.2 then sb else sa) m.1.toNat))=false∧Below wn.heap.size wn wq)
     case atStart=>exact⟨0,by omega,rfl,Id,Below.refl _ _⟩
     case round=>
      obtain⟨k,hk,rfl,ho,hbw⟩:=hrel;have HK:=hid hk;have HF2:=hid ho;have HBQ:=hid hbw;clear hk ho hbw;by_cases hlk:k<tn
      ·skip
       have d3:(0:Int)≤k:=by omega
       have d4:(k:Int)<tn:=by omega
       have e2:=Bp hlk (Nat.le_trans HTM.out (by decide));have HLK:=hid hlk;obtain⟨⟨sj,B⟩,hs⟩:∃ s,x.nd[k]?=some s:=⟨_,List.getElem?_eq_getElem (by have:=HTN.out;omega)⟩;have hsb:=HNB.out _ (List.mem_of_getElem? hs);dsimp only at hsb;obtain⟨j,rfl⟩:∃ j:Nat,sj=j:=⟨sj.toNat,by omega⟩;have HJ31:Hid (j≤31):=hid (by omega);obtain⟨A,hA⟩:∃ x,ta=x:=⟨_,rfl⟩;have HAA:=hid hA;have hrow:=HT.out;rw[hA] at hrow ⊢;rcases hrow with hnil | ⟨tb,toff,htb,ht0⟩
       ·have:=HTN.out;rw[hnil] at this;simp at this;omega
       subst htb;have t0:=cell_later HBQ.out (ht0 k _ hs 0 (.int .i64 (j:Int)) rfl);have t1:=cell_later HBQ.out (ht0 k _ hs 1 (.bool B) rfl);rw[Nat.add_zero] at t0;have HSK:=hid hs;clear ht0 hs hsb hlk hA;have j0:(0:Int)≤j:=by omega
       have j1:min j 32=j:=by have:=HJ31.out;omega
       have j2:¬ (32:Int)≤j:=by have:=HJ31.out;omega
       cases B with
       | false=>
         obtain⟨E,hE⟩:∃ E,(!(Aa sa j))=E:=⟨_,rfl⟩;have f:=(Gc sa j HSA.out).trans hE;have HE:Hid ((fun m:Int × Bool=>!(Aa (if m.2 then sb else sa) m.1.toNat)) ((j:Int),false)=E):=hid (by show(!(Aa sa ((j:Int).toNat)))=E;rw[Int.toNat_natCast];exact hE);clear hE;cases E with
         | true=>
           have HTT:Hid (bn=true):=hid (HZN.out.symm.trans (F7 HSK.out HE.out));go_wp2_with fail;go_ret;exact⟨by rw[HRES.out,HTT.out];rfl,A8 HBN.out HBQ.out⟩
         | false=>
           have HN:Hid ((x.nd.take (k+1)).any (fun m:Int × Bool=>!(Aa (if m.2 then sb else sa) m.1.toNat))=false):=hid (Fe HSK.out HF2.out HE.out);go_wp2_with fail;rw[← HAA.out];go_roundg (tn - (k+1))
           case rel=>exact⟨k+1,AK HK.out HLK.out,by go_num,HN.out,HBQ.out⟩
           case measure=>exact AL HK.out HLK.out
       | true=>
         obtain⟨E,hE⟩:∃ E,(!(Aa sb j))=E:=⟨_,rfl⟩;have f:=(Gc sb j HSB.out).trans hE;have HE:Hid ((fun m:Int × Bool=>!(Aa (if m.2 then sb else sa) m.1.toNat)) ((j:Int),true)=E):=hid (by show(!(Aa sb ((j:Int).toNat)))=E;rw[Int.toNat_natCast];exact hE);clear hE;cases E with
         | true=>
           have HTT:Hid (bn=true):=hid (HZN.out.symm.trans (F7 HSK.out HE.out));go_wp2_with fail;go_ret;exact⟨by rw[HRES.out,HTT.out];rfl,A8 HBN.out HBQ.out⟩
         | false=>
           have HN:Hid ((x.nd.take (k+1)).any (fun m:Int × Bool=>!(Aa (if m.2 then sb else sa) m.1.toNat))=false):=hid (Fe HSK.out HF2.out HE.out);go_wp2_with fail;rw[← HAA.out];go_roundg (tn - (k+1))
           case rel=>exact⟨k+1,AK HK.out HLK.out,by go_num,HN.out,HBQ.out⟩
           case measure=>exact AL HK.out HLK.out
      ·have d4:¬ ((k:Int)<tn):=by omega
       have HTT:Hid (bn=false):=hid (HZN.out.symm.trans (JN HF2.out (by have:=HTN.out;have:=HK.out;omega)));go_wp2_with fail;go_ret;exact⟨by rw[HRES.out,HTT.out];rfl,A8 HBN.out HBQ.out⟩
end Go.Proofs.YtpohoannggdbjaaGreat
namespace Go.Proofs.YtpohoannggdbjaaGreat
open Lib (hid)
open Go.RowKit
set_option maxRecDepth 100000
def PM(L:AM)(x:Rt)(s:St)(k:Nat):Bool:=Aa s.lk k && ((L.rt.l[k]?).map (Aw L x)).getD false
theorem JC{L:AM}{x y:Rt}{s:St}{k:Nat}(h:L.rt.l[k]?=some y):PM L x s k=(Aa s.lk k && Aw L x y):=by unfold PM;rw[h];rfl
theorem S5{f:Nat→Bool}{k:Nat}(h:(List.range k).any f=false)(h2:f k=false):(List.range (k+1)).any f=false:=by rw[List.range_succ,List.any_append,h];simp[h2]
theorem QC{f:Nat→Bool}{n k:Nat}(hk:k<n)(h:f k=true):(List.range n).any f=true:=List.any_eq_true.2 ⟨k,List.mem_range.2 hk,h⟩
theorem NJ{f:Nat→Bool}:(List.range 0).any f=false:=rfl
theorem OO{L:AM}{x:Rt}{s:St}{n:Nat}(hm:AQ L=true)(hx:L.rt.l[n]?=some x)(hl:Aa s.lk n=false):(List.range L.rt.l.length).any (PM L x s)=(BN L (n:Int)).any (fun k=>Aa s.lk k.toNat):=by
 have h4:=(Ay hm).2.2.2;rw[Bool.eq_iff_iff,List.any_eq_true,List.any_eq_true];constructor
 ·rintro⟨k,hk,h⟩;have hk:=List.mem_range.1 hk;have hy:=List.getElem?_eq_getElem hk;rw[JC hy,Bool.and_eq_true] at h;have hne:n≠k:=fun e=>by rw[e,h.1] at hl;cases hl
  refine⟨(k:Int),Ih.2 ⟨k,rfl,by omega,?_⟩,by rw[Int.toNat_natCast];exact h.1⟩;rw[Mp hm hx hy hne];exact h.2
 ·rintro⟨k,hk,h⟩;obtain⟨m,rfl,hm1,hp⟩:=Ih.1 hk;rw[Int.toNat_natCast] at h;have hne:n≠m:=fun e=>by rw[e,h] at hl;cases hl
  have hlt:m<L.rt.l.length:=by omega
  have hy:=List.getElem?_eq_getElem hlt;rw[Mp hm hx hy hne] at hp;exact⟨m,List.mem_range.2 hlt,by rw[JC hy,h,hp];rfl⟩
theorem OZ(T:Tb)(s:St)(oc:Nat)(n:Int × Bool):Bf T s oc n=((Aa s.pt n.1.toNat != n.2) && Aa oc (T.li.getD n.1.toNat 0).toNat):=rfl
theorem Qv(L:AM)(i:Nat)(x:Rt):(CQ L i x).cf=BN L (i:Int):=rfl
theorem PK{L:AM}{j:Nat}{p:BA × Int}(h:L.po.l[j]?=some p):(B6 L).li.getD j 0=p.2:=by rw[List.getD_eq_getElem?_getD,LV h];rfl
end Go.Proofs.YtpohoannggdbjaaGreat
