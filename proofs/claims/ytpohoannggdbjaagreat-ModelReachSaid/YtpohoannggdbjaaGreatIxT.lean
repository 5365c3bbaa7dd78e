/- Layer 10: the document's needed, route, proceed. -/
import Derived.Test.YtpohoannggdbjaaGreatIxS
set_option maxRecDepth 100000
set_option maxHeartbeats 200000000
namespace Go.Proofs.YtpohoannggdbjaaGreat
open Lib (hid)
open Go.RowKit
theorem Hm(L:AL)(i:Nat)(x:Rt):(CY L i x).nd=x.nd:=rfl
theorem TZ(L:AL)(i:Nat)(x:Rt):(CY L i x).fi=x.pa.l.headD 0:=rfl
theorem Jb(oc:Nat)(L:AL)(i:Nat)(x:Rt):Bi oc (CY L i x) = !x.tr.any (fun k=>Aa oc k.toNat):=rfl
def E9(s:St):Nat:=(s.lk &&& (18446744073709551615 - s.us)) &&& (18446744073709551615 - s.ca)
theorem SK{s:St}(h:s.ok):bits .andNot .u64 (s.lk:Int) (s.us:Int)=((s.lk &&& (18446744073709551615 - s.us):Nat):Int):=u64_andNot_nat _ _ h.lk h.us
theorem SL{s:St}(h:s.ok):bits .andNot .u64 ((s.lk &&& (18446744073709551615 - s.us):Nat):Int) (s.ca:Int)=((E9 s:Nat):Int):=u64_andNot_nat _ _ (Wr Nat.and_le_left h.lk) h.ca
theorem Pd{s:St}(h:s.ok):E9 s<18446744073709551616:=Wr Nat.and_le_left (Wr Nat.and_le_left h.lk)
theorem Jo{x i:Nat}(hx:x<18446744073709551616)(hi:i<64):(18446744073709551615 - x).testBit i = !x.testBit i:=by
 have h:=Nat.testBit_two_pow_sub_succ (n:=64) (x:=x) hx i;rw[show(2 ^ 64 - (x+1):Nat)=18446744073709551615 - x by omega] at h;rw[h];simp[hi]
theorem Mt{s:St}(h:s.ok){n:Nat}(hn:n≤63):Aa (E9 s) n=AU s n:=by
 unfold E9 AU;rw[AZ,AZ,AZ,AZ,Nat.testBit_and,Nat.testBit_and,Jo h.us (by omega),Jo h.ca (by omega),Bool.and_assoc]
attribute [local irreducible] Sl.v Aa pw Ab Aw C8 Af BC CD Bi Bg B9 CB BQ AU Bp BB BG Bh Bd BP Bo BL BF BN AI AY AV Be Bw Bq C4 Mc.tb BZ AX Ap B5
attribute [local irreducible] AW CY Bt BO Rt.tr Rt.nd AC C9 At
attribute [local irreducible] E9
theorem Lh(b:Bool)(L:AL)(s:St)(p:Nat)(w:World)(hL:AO w L)(hc:(Ap L).1=0)(hs:s.ok)(hb:BG (AW L) s p L.rt.l.length=b) :
 Calls Tryz.prog 76 #[.agg #[L.se.v,L.po.v,L.sg.v,L.rt.v],.agg (Af s).toArray,.int .i64 (p:Int)] w fun e w'=>e = .returned (.bool b)∧Below w.heap.size w w':=by
 have HMAY:Hid (AX L=true):=hid (B6 hc);have HS4:Hid (L.rt.l.length≤64):=hid (AE (B6 hc)).2.2.2;have HCK:=hid hc;obtain⟨n1,hn1⟩:=WY L.se.l.length;obtain⟨n2,hn2⟩:=WY L.po.l.length;obtain⟨n3,hn3⟩:=WY L.sg.l.length;obtain⟨n4,hn4⟩:=WY L.rt.l.length;have HLW:=hid hL;have HN1:=hid hn1;have HN2:=hid hn2;have HN3:=hid hn3;have HN4:=hid hn4;have HSO:=hid hs;have HZ:=hid hb;rw[hn4] at HS4 HZ;rw[Ak hn1,Ak hn2,Ak hn3,Ak hn4];clear hn1 hn2 hn3 hn4 hL hc hs hb;go_enter Tryz.func76,Tryz.ntmps76;go_upto_region 1 with fail
 refine Ao (os:=[.cells #[.slice L.se.a n1 L.se.c,.slice L.po.a n2 L.po.c,.slice L.sg.a n3 L.sg.c,.slice L.rt.a n4 L.rt.c] 27,.cells (Af s).toArray 65]) (w0:=w) rfl ?_;intro W hat hbw;obtain⟨gl,hgl⟩:=X0 w.heap.size;have q0:=hat 0 _ rfl;obtain⟨gs,hgs⟩:=X0 (gl+1);have q1:=hat 1 _ rfl;rw[Wa,← hgl] at q0;rw[← hgl,← hgs] at q1;rw[← hgl,← hgs];have HQl:=hid q0;have HQs:=hid q1;have HB0:=hid hbw;clear hat hbw q0 q1 hgl hgs;go_upto_region 2 with fail
 go_loopg [7] n4 (fun g v wr=>∃ i:Nat,i+g=n4∧v = .int .i64 (i:Int)∧BG (AW L) s p i=false∧Below W.heap.size W wr)
 case atStart=>exact⟨0,by omega,rfl,Kn _ _ _,VU _ _⟩
 case round=>
  obtain⟨i,hi,rfl,ho,hbw⟩:=hrel;have HI:=hid hi;have HF:=hid ho;have HB:=hid hbw;have l3:=A4 (A5 hbw HQl.o) 3 _ rfl;clear hi ho hbw;by_cases hlt:i<n4
  ·have d1:(0:Int)≤i:=(by omega);have d2:(i:Int)<n4:=(by omega);have e1:=B8 hlt (Wd HS4.o (by decide));have HLT:=hid hlt;rcases HLW.o.rt.row with hnil | ⟨xb,off,hxb,hc0⟩
   ·have:=HN4.o;rw[hnil] at this;simp at this;omega
   have hc:=fun i c hi j v hv=>VY (A6 HB0.o HB.o) (hc0 i c hi j v hv)
   obtain⟨x,hyx⟩:∃ y,L.rt.l[i]?=some y:=⟨_,Wb (by rw[HN4.o];exact hlt)⟩;have z0:=hc i _ hyx 0 _ rfl;have z1:=hc i _ hyx 1 _ rfl;have z2:=hc i _ hyx 2 _ rfl;have z3:=hc i _ hyx 3 _ rfl;have z4:=hc i _ hyx 4 _ rfl;have z5:=hc i _ hyx 5 _ rfl;rw[Wa] at z0;obtain⟨p1,hp1⟩:=WY x.pa.l.length;obtain⟨p2,hp2⟩:=WY x.po.l.length;obtain⟨p3,hp3⟩:=WY x.ov.l.length;obtain⟨p4,hp4⟩:=WY x.fl.l.length;rw[Ak hp1] at z2;rw[Ak hp2] at z3;rw[Ak hp3] at z4;rw[Ak hp4] at z5;have HZX:=hid (And.intro z0 (And.intro z1 (And.intro z2 (And.intro z3 (And.intro z4 z5)))));clear z0 z1 z2 z3 z4 z5;obtain⟨X,hX⟩:=WY L.rt.a;have HXX:=hid hX;rw[hX] at hxb l3 ⊢;subst hxb;have hxm:=Wf hyx;have HYX:=hid hyx;have KND:Hid (∀ V,Below wr.heap.size wr V→Calls Tryz.prog 70 #[.agg #[.string x.nm,.int .i64 x.sg,x.pa.v,x.po.v,x.ov.v,x.fl.v]] V fun e w'=>∃ a n c,e = .returned (.slice a n c)∧n=x.nd.length∧B7 2 CX w' ⟨a,c,x.nd⟩∧Below V.heap.size V w'):=hid (fun V hV=>by
    have ok:=Bv HMAY.o x hxm;have h:=DY x V ((HLW.o.rn x hxm).below (A6 (A6 HB0.o HB.o) hV)) (by have:=ok.po;have:=ok.fl;omega);unfold Rt.nd;rw[Wh];exact h)
   have HNL:Hid (x.nd.length≤100000):=hid (by have ok:=Bv HMAY.o x hxm;have:=ok.po;have:=ok.fl;unfold Rt.nd;rw[Wh];omega);have HNB:Hid (∀ n∈x.nd,0≤n.1∧n.1≤31):=hid (fun n hn=>by have h:=NX HMAY.o x hxm n hn;have:=(AE HMAY.o).2.1;omega);rw[Ak hp1,Ak hp2,Ak hp3,Ak hp4] at KND;obtain⟨z0,z1,z2,z3,z4,z5⟩:=HZX.o;clear hc hc0 hyx hxm hp1 hp2 hp3 hp4 hX hlt;obtain⟨bl,hbl⟩:=WY (Aa s.lk i);have KHS:Hid (∀ V,Calls Tryz.prog 43 #[.int .u64 (s.lk:Int),.int .i64 (i:Int)] V fun e w'=>e = .returned (.bool bl)∧Below V.heap.size V w'):=hid (fun V=>CP bl s.lk i V (by have:=HLT.o;have:=HS4.o;omega) HSO.o.lk hbl);have HBL:=hid hbl;clear hbl;go_wp2_with fail;refine(KND.o _ (VU _ _)).mono ?_;rintro e wn ⟨ta,tn,tc,rfl,htn,hT,hb1⟩;have HT:=hid hT.row;have HTN:=hid htn;have htm:tn≤100000:=(by rw[htn];exact HNL.o);have HTM:=hid htm;have HBN:=hid (A6 HB.o hb1);clear z0 z1 z2 z3 z4 z5 l3 htn hT hb1 htm;go_upto_region 6 with fail
   go_loopg [9] tn (fun g v wq=>∃ k:Nat,k+g=tn∧v = .int .i64 (k:Int)∧(bl && (x.nd.take k).any (fun n=>n.1 ==(p:Int)))=false∧Below wn.heap.size wn wq)
   case atStart=>exact⟨0,by omega,rfl,by rw[List.take_zero];cases bl<;>rfl,VU _ _⟩
   case round=>
    obtain⟨k,hk,rfl,ho,hbw⟩:=hrel;have HK:=hid hk;have HF2:=hid ho;have HBQ:=hid hbw;clear hk ho hbw;by_cases hlk:k<tn
    ·skip
     have d3:(0:Int)≤k:=(by omega);have d4:(k:Int)<tn:=(by omega);have e2:=B8 hlk (Wd HTM.o (by decide));have HLK:=hid hlk;obtain⟨⟨sj,B⟩,hs⟩:∃ s,x.nd[k]?=some s:=⟨_,Wb (by have:=HTN.o;omega)⟩;have hsb:=HNB.o _ (Wf hs);dsimp only at hsb;obtain⟨j,rfl⟩:∃ j:Nat,sj=j:=⟨sj.toNat,by omega⟩;have HJ31:Hid (j≤31):=hid (by omega);obtain⟨A,hA⟩:=WY ta;have HAA:=hid hA;have hrow:=HT.o;rw[hA] at hrow ⊢;rcases hrow with hnil | ⟨tb,toff,htb,ht0⟩
     ·have:=HTN.o;rw[hnil] at this;simp at this;omega
     subst htb;have t0:=VY HBQ.o (ht0 k _ hs 0 (.int .i64 (j:Int)) rfl);have t1:=VY HBQ.o (ht0 k _ hs 1 (.bool B) rfl);rw[Wa] at t0;have HSK:=hid hs;clear ht0 hs hsb hlk hA;have s0:=A4 (A5 (A6 HBN.o HBQ.o) HQs.o) 0 _ (DM s);go_wp2_with fail;refine(KHS.o _).mono ?_;rintro e w9 ⟨rfl,hb9⟩;have HB9:=hid (A6 HBQ.o hb9);have t0':=VY hb9 t0;clear t0 t1 s0 hb9;cases bl with
     | false=>
       go_wp2_with fail;rw[← HAA.o];go_roundg (tn - (k+1))
       case rel=>exact⟨k+1,AA HK.o HLK.o,by go_num,rfl,HB9.o⟩
       case measure=>exact Az HK.o HLK.o
     | true=>
       obtain⟨D,hD⟩:=WY (((j:Int) ==(p:Int)));have HD:Hid ((fun n:Int × Bool=>n.1 ==(p:Int)) ((j:Int),B)=D):=hid hD;have HF3:Hid ((x.nd.take k).any (fun n=>n.1 ==(p:Int))=false):=hid (by have:=HF2.o;rw[WL] at this;exact this);cases D with
       | true=>
         have HTT:Hid (b=true):=hid (HZ.o.symm.trans (Km (k:=i+1) (by rw[GV (DN HYX.o),HBL.o,Hm,G5 HSK.o HD.o];simp) n4 HLT.o));go_wp2_with fail;go_ret;exact⟨by rw[HTT.o];rfl,A6 HB0.o (A6 HBN.o HB9.o)⟩
       | false=>
         have HN:Hid ((true && (x.nd.take (k+1)).any (fun n=>n.1 ==(p:Int)))=false):=hid (by rw[WL];exact Gj HSK.o HF3.o HD.o);go_wp2_with fail;rw[← HAA.o];go_roundg (tn - (k+1))
         case rel=>exact⟨k+1,AA HK.o HLK.o,by go_num,HN.o,HB9.o⟩
         case measure=>exact Az HK.o HLK.o
    ·have d4:¬ ((k:Int)<tn):=(by omega);have HN:Hid (BG (AW L) s p (i+1)=false):=hid (by
      have h:=HF2.o;rw[Wo (by have:=HTN.o;omega)] at h;rw[GV (DN HYX.o),HF.o,HBL.o,Hm,h];rfl)
     go_wp2_with fail;rw[← HXX.o];go_roundg (n4 - (i+1))
     case rel=>exact⟨i+1,AA HI.o HLT.o,by go_num,HN.o,A6 HBN.o HBQ.o⟩
     case measure=>exact Az HI.o HLT.o
  ·have d2:¬ ((i:Int)<n4):=(by omega);have HTT:Hid (b=false):=hid (by have h:=HZ.o;rw[show n4=i by have:=HI.o;omega,HF.o] at h;exact h.symm);go_wp2_with fail;go_ret;exact⟨by rw[HTT.o];rfl,A6 HB0.o HB.o⟩
end Go.Proofs.YtpohoannggdbjaaGreat
