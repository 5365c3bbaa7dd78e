/- Layer 10: the document's small functions. -/
import Derived.Test.YtpohoannggdbjaaGreatIxLa
import Derived.Test.YtpohoannggdbjaaGreatIxM
import Derived.Test.YtpohoannggdbjaaGreatMA
import Derived.Test.YtpohoannggdbjaaGreatRef07
import Derived.Test.YtpohoannggdbjaaGreatCoC
set_option maxRecDepth 100000
set_option maxHeartbeats 200000000
namespace Go.Proofs.YtpohoannggdbjaaGreat
open Lib (hid)
open Go.RowKit
theorem Gj{α:Type}{f:α→Bool}{l:List α}{k:Nat}{x:α}(hx:l[k]?=some x)(h:(l.take k).any f=false)(h2:f x=false):(l.take (k+1)).any f=false:=by
 rw[Wp,hx,List.any_append,h];simp[h2]
theorem G5{α:Type}{f:α→Bool}{l:List α}{k:Nat}{x:α}(hx:l[k]?=some x)(h2:f x=true):l.any f=true:=WF.2 ⟨x,Wf hx,h2⟩
theorem LL{α:Type}{f:α→Bool}{l:List α}{k:Nat}(h:(l.take k).any f=false)(hk:l.length≤k):l.any f=false:=by rw[Wo hk] at h;exact h
theorem JK{α:Type}{f:α→Bool}{l:List α}:(l.take 0).any f=false:=by rw[List.take_zero];rfl
theorem OK(s n:Nat)(hs:s<4294967296):(bits .and .u32 ((s:Int) / 2 ^ n) 1 == 1)=Aa s n:=by
 have h1:s / pw n<4294967296:=Wr (Nat.div_le_self _ _) hs;rw[Hp,show(1:Int)=((1:Nat):Int) from rfl,u32_and_nat _ 1 h1 (by omega),Nat.and_one_is_mod];unfold Aa;rw[Ww];simp;omega
theorem EN{P:Program}{ops:Array Oper}{rest:List Oper}{op:Oper}{a:Act}{w:World}{Q:Exit→Act→World→Prop}(hw:Region.wanted op (yielded ops a.tmps)=true)(ty:TypeId)(x:Operand)(ho:op.op = .load ty x)(vx v:Value)(hx:a.eval x=vx)
 (hr:(Instr.loadAt ty vx).run P w = .ok v w) (h:wpList P ops Q rest (a.put op.dst v) w):wpList P ops Q (op :: rest) a w:=
 wpList_step fun K hK=>by
  rw[if_pos hw];unfold Oper.wp execOp;simp only[ho,hx,Sem.run_bind,hr,Result.andThen_ok,Sem.run_pure];exact hK _ _ h
theorem Et{V:World}{g kd:Nat}{nn:Int}{t:TypeId}{fr:Nat × Nat}(h:V.heap[g]?=some (.cells #[.int .u8 (kd:Int),.int .i64 nn] t fr))(hk:kd<256)(h1 : -9223372036854775808≤nn)(h2:nn≤9223372036854775807):CZ V (some ⟨g,0,none⟩) [(kd,nn)]:=by
 refine⟨fun c hc=>?_,.inr ⟨g,0,rfl,fun i c hi=>?_⟩⟩
 ·rw[Wy.1 hc];exact⟨hk,h1,h2⟩
 ·cases i with
  | zero=>injection hi with hi;subst hi;exact⟨A4 h 0 _ rfl,A4 h 1 _ rfl⟩
  | succ i=>cases hi
theorem CP(b:Bool)(x n:Nat)(w:World)(hn:n≤63)(hx:x<18446744073709551616)(hb:Aa x n=b) :
 Calls Tryz.prog 43 #[.int .u64 (x:Int),.int .i64 (n:Int)] w fun e w'=>e = .returned (.bool b)∧Below w.heap.size w w':=
 hb ▸ (Me x n w hn hx).mono (fun _ _ h=>⟨h.1,h.2 ▸ VU _ _⟩)
attribute [local irreducible] Sl.v Aa pw Ab Aw C8 Af BC CD Bi Bg B9 CB BQ AU Bp BB BG Bh Bd BP Bo BL BF BN AI AY AV Be Bw Bq C4 Mc.tb BZ AX Ap B5
attribute [local irreducible] AW CY Bt BO Rt.tr Rt.nd AC C9 At
theorem DR(b:Bool)(oc no re:Nat)(ia:Option Addr)(il ic:Nat)(k:Nat)(w:World)(hk:k≤63)(ho:oc<18446744073709551616)(hb:Aa oc k=b) :
 Calls Tryz.prog 75 #[.agg #[.int .u64 (oc:Int),.int .u32 (no:Int),.int .u32 (re:Int),.slice ia il ic],.int .i64 (k:Int)] w fun e w'=>e = .returned (.bool (!b))∧Below w.heap.size w w':=by
 have HH:Hid (∀ V,Calls Tryz.prog 43 #[.int .u64 (oc:Int),.int .i64 (k:Int)] V fun e w'=>e = .returned (.bool b)∧Below V.heap.size V w'):=hid (fun V=>CP b oc k V hk ho hb);clear hk ho hb;go_enter Tryz.func75,Tryz.ntmps75;go_upto_region 1 with fail
 refine Ao (os:=[.cells #[.int .u64 (oc:Int),.int .u32 (no:Int),.int .u32 (re:Int),.slice ia il ic] 35]) (w0:=w) rfl ?_;intro W hat hbw;obtain⟨gi,hgi⟩:=X0 w.heap.size;have q0:=hat 0 _ rfl;rw[Wa,← hgi] at q0;rw[← hgi];have HQi:=hid q0;have HB0:=hid hbw;clear hat hbw q0 hgi;have l0:=A4 HQi.o 0 _ rfl;have l1:=A4 HQi.o 1 _ rfl;have l2:=A4 HQi.o 2 _ rfl;have l3:=A4 HQi.o 3 _ rfl;go_wp2_with fail;refine(HH.o _).mono ?_;rintro e w1 ⟨rfl,hb1⟩;go_wp2_with fail;go_ret;exact⟨by cases b<;>rfl,A6 HB0.o hb1⟩
theorem GG(b:Bool)(oc no re:Nat)(ia:Option Addr)(il ic:Nat)(x:Rt)(w:World)(hx:CM w x)(h1:x.pa.l.length+x.ov.l.length≤100000)(hs:∀ s∈x.tr,0≤s∧s≤63)(ho:oc<18446744073709551616)(hb:x.tr.any (fun k=>Aa oc k.toNat)=b) :
 Calls Tryz.prog 78 #[.agg #[.string x.nm,.int .i64 x.sg,x.pa.v,x.po.v,x.ov.v,x.fl.v],.agg #[.int .u64 (oc:Int),.int .u32 (no:Int),.int .u32 (re:Int),.slice ia il ic]] w fun e w'=>e = .returned (.bool (!b))∧Below w.heap.size w w':=by
 have HTR:Hid (∀ W,Below w.heap.size w W→Calls Tryz.prog 68 #[.agg #[.string x.nm,.int .i64 x.sg,x.pa.v,x.po.v,x.ov.v,x.fl.v]] W fun e w'=>∃ a n c,e = .returned (.slice a n c)∧n=x.tr.length∧B7 1 AT w' ⟨a,c,x.tr⟩∧Below W.heap.size W w'):=hid (fun W hW=>by
  have h:=EY x W (hx.below hW) h1;unfold Rt.tr;rw[Wh];exact h)
 obtain⟨p1,hp1⟩:=WY x.pa.l.length;obtain⟨p2,hp2⟩:=WY x.po.l.length;obtain⟨p3,hp3⟩:=WY x.ov.l.length;obtain⟨p4,hp4⟩:=WY x.fl.l.length;rw[Ak hp1,Ak hp2,Ak hp3,Ak hp4] at HTR ⊢;have HTL:Hid (x.tr.length≤100000):=hid (by unfold Rt.tr;rw[Wh];exact h1);have HO:=hid ho;have HZ:=hid hb;have HSX:=hid hs;clear hx h1 hs ho hb hp1 hp2 hp3 hp4;go_enter Tryz.func78,Tryz.ntmps78;go_upto_region 1 with fail
 refine Ao (os:=[.cells #[.string x.nm,.int .i64 x.sg,.slice x.pa.a p1 x.pa.c,.slice x.po.a p2 x.po.c,.slice x.ov.a p3 x.ov.c,.slice x.fl.a p4 x.fl.c] 52,.cells #[.int .u64 (oc:Int),.int .u32 (no:Int),.int .u32 (re:Int),.slice ia il ic] 35]) (w0:=w) rfl ?_;intro W hat hbw;obtain⟨gr,hgr⟩:=X0 w.heap.size;have q0:=hat 0 _ rfl;obtain⟨gi,hgi⟩:=X0 (gr+1);have q1:=hat 1 _ rfl;rw[Wa,← hgr] at q0;rw[← hgr,← hgi] at q1;rw[← hgr,← hgi];have HQr:=hid q0;have HQi:=hid q1;have HB0:=hid hbw;clear hat hbw q0 q1 hgr hgi;have l0:=A4 HQr.o 0 _ rfl;have l1:=A4 HQr.o 1 _ rfl;have l2:=A4 HQr.o 2 _ rfl;have l3:=A4 HQr.o 3 _ rfl;have l4:=A4 HQr.o 4 _ rfl;have l5:=A4 HQr.o 5 _ rfl;go_wp2_with fail;refine(HTR.o _ HB0.o).mono ?_;rintro e w1 ⟨ta,tn,tc,rfl,htn,hT,hb1⟩;have HT:=hid hT.row;have HTN:=hid htn;have HB1:=hid (A6 HB0.o hb1);have HQ1:=hid (A5 hb1 HQi.o);have htm:tn≤100000:=by rw[htn];exact HTL.o
 have HTM:=hid htm;clear l0 l1 l2 l3 l4 l5 htn hT hb1 htm;go_upto_region 3 with fail
 go_loopg [6] tn (fun g v wq=>∃ k:Nat,k+g=tn∧v = .int .i64 (k:Int)∧(x.tr.take k).any (fun s=>Aa oc s.toNat)=false∧Below w1.heap.size w1 wq)
 case atStart=>exact⟨0,by omega,rfl,JK,VU _ _⟩
 case round=>
  obtain⟨k,hk,rfl,ho,hbw⟩:=hrel;have HK:=hid hk;have HF2:=hid ho;have HBQ:=hid hbw;clear hk ho hbw;by_cases hlk:k<tn
  ·have d3:(0:Int)≤k:=(by omega);have d4:(k:Int)<tn:=(by omega);have e2:=B8 hlk (Wd HTM.o (by decide));have HLK:=hid hlk;obtain⟨s,hs⟩:∃ s,x.tr[k]?=some s:=⟨_,Wb (by have:=HTN.o;omega)⟩;have hsb:=HSX.o s (Wf hs);obtain⟨j,rfl⟩:∃ j:Nat,s=j:=⟨s.toNat,by omega⟩;obtain⟨A,hA⟩:=WY ta;have HAA:=hid hA;have hrow:=HT.o;rw[hA] at hrow ⊢;rcases hrow with hnil | ⟨tb,toff,htb,ht0⟩
   ·have:=HTN.o;rw[hnil] at this;simp at this;omega
   subst htb;have t0:=VY HBQ.o (ht0 k _ hs 0 _ rfl);rw[Wa,Nat.mul_one] at t0;have HT0:=hid t0;obtain⟨D,hD⟩:=WY (Aa oc j);have HD:Hid ((fun s:Int=>Aa oc s.toNat) (j:Int)=D):=hid (by show Aa oc ((j:Int).toNat)=D;rw[Int.toNat_natCast];exact hD);have HSK:=hid hs;have KHS:Hid (∀ w',Below wr.heap.size wr w'→Calls Tryz.prog 75 #[.agg #[.int .u64 (oc:Int),.int .u32 (no:Int),.int .u32 (re:Int),.slice ia il ic],.int .i64 (j:Int)] w' fun e w''=>e = .returned (.bool (!D))∧Below wr.heap.size wr w''):=hid (fun w' hw'=>(DR D oc no re ia il ic j w' (by omega) HO.o hD).mono (fun _ _ h=>⟨h.1,A6 hw' h.2⟩));have HQR:=hid (A5 HBQ.o HQ1.o);clear t0 ht0 hs hD hsb hlk hA;go_upto_region 5 with fail
   refine Ad (by kernel_rfl) ?_ ?_
   ·kernel_rfl
   repeat first
    | go_big_quiet_skip
    | (go_big_quiet_want;go_big_quiet_op;go_big_quiet_on)
    | (with_reducible apply wpQuiet_step
       intro K hK;go_simp;first
        | (refine hK _ ?_;clear hK K)
        | (apply Exists.intro
           refine⟨fun w' hw'=>?_,hK _ ?_⟩
           ·
            (first
             | with_reducible exact KHS.o _ hw'
             | (have g0:=A4 (A5 hw' HQR.o) 0 _ rfl
                have g1:=A4 (A5 hw' HQR.o) 1 _ rfl;have g2:=A4 (A5 hw' HQR.o) 2 _ rfl;have g3:=A4 (A5 hw' HQR.o) 3 _ rfl;go_simp;first | done | with_reducible exact rfl | with_reducible exact⟨rfl,rfl⟩ | with_reducible exact KHS.o _ hw')
             | (have t0:=VY hw' HT0.o
                go_simp;first | done | with_reducible exact rfl | with_reducible exact⟨rfl,rfl⟩ | with_reducible exact KHS.o _ hw'))
           clear hK K))
   refine wpQuiet_nil ?_;intro w7 hw7;have HB7:=hid (A6 HBQ.o hw7);clear hw7;cases D with
   | true=>
     have HTT:Hid (b=true):=hid (HZ.o.symm.trans (G5 HSK.o HD.o));go_wp2_with fail;go_ret;exact⟨by rw[HTT.o];rfl,A6 HB1.o HB7.o⟩
   | false=>
     have HN:Hid ((x.tr.take (k+1)).any (fun s=>Aa oc s.toNat)=false):=hid (Gj HSK.o HF2.o HD.o);go_wp2_with fail;rw[← HAA.o];go_roundg (tn - (k+1))
     case rel=>exact⟨k+1,AA HK.o HLK.o,by go_num,HN.o,HB7.o⟩
     case measure=>exact Az HK.o HLK.o
  ·have d4:¬ ((k:Int)<tn):=(by omega);have HTT:Hid (b=false):=hid (HZ.o.symm.trans (LL HF2.o (by have:=HTN.o;have:=HK.o;omega)));go_wp2_with fail;go_ret;exact⟨by rw[HTT.o];rfl,A6 HB1.o HBQ.o⟩
theorem QQ(b:Bool)(s:St)(p:Nat)(w:World)(hp:p≤31)(hs:s.ok)(hb:Aa s.pt p=b) :
 Calls Tryz.prog 101 #[.agg (Af s).toArray,.int .i64 (p:Int)] w fun e w'=>e = .returned (.bool b)∧Below w.heap.size w w':=by
 have f:=(OK s.pt p hs.pt).trans hb;have j0:(0:Int)≤p:=by omega
 have j1:min p 32=p:=by omega
 have j2:¬ (32:Int)≤p:=by omega
 clear hp hs hb;go_enter Tryz.func101,Tryz.ntmps101;go_upto_region 1 with fail
 refine Ao (os:=[.cells (Af s).toArray 65]) (w0:=w) rfl ?_;intro W hat hbw;obtain⟨gs,hgs⟩:=X0 w.heap.size;have q0:=hat 0 _ rfl;rw[Wa,← hgs] at q0;rw[← hgs];have HQs:=hid q0;have HB0:=hid hbw;clear hat hbw q0 hgs;have l67:=A4 HQs.o 67 _ (by rw[WG];exact IG s);go_wp2_with fail;go_ret;exact⟨by first | rfl | (rw[f]) | (simp only[f]),HB0.o⟩
theorem Ma(s:St)(n:Nat)(w:World)(hn:n≤63)(hs:s.ok) :
 Calls Tryz.prog 79 #[.agg (Af s).toArray,.int .i64 (n:Int)] w fun e w'=>e = .returned (.agg (Af (BL s n)).toArray)∧Below w.heap.size w w':=by
 have HN63:=hid hn;have HN64:Hid (n<64):=hid (by omega);have HSO:=hid hs;clear hn hs;go_enter Tryz.func79,Tryz.ntmps79;go_upto_region 1 with fail
 rw[Bz];refine Ao (os:=[.cells (Af s).toArray 65,.cells (Af zS).toArray 65]) (w0:=w) rfl ?_;intro W hat hbw;obtain⟨gs,hgs⟩:=X0 w.heap.size;have q0:=hat 0 _ rfl;obtain⟨gr,hgr⟩:=X0 (gs+1);have q1:=hat 1 _ rfl;rw[Wa,← hgs] at q0;rw[← hgs,← hgr] at q1;rw[← hgs,← hgr];have HQs:=hid q0;have HQr:=hid q1;have HB0:=hid hbw;have HG:Hid (w.heap.size≤gs∧gr≠gs):=hid (by omega);have HGR:Hid (w.heap.size≤gr):=hid (by omega);have HRz:=hid q1;clear hat hbw q0 q1 hgs hgr;refine Am (by kernel_rfl) [6] 9 [0,1,2,3,4,5] [5,6,7,8,9,10] #[true,true,true,true,true,true,false] 1 [(fun v _=>v = .pointer (some ⟨gs,0,none⟩)),(fun v _=>v = .int .u64 (s.lk:Int)),(fun v _=>v = .int .i64 (n:Int)),(fun v _=>v = .int .u64 (pw n:Int)),(fun v _=>v = .int .u64 ((Aw s.lk n:Nat):Int)),(fun v _=>v = .pointer (some ⟨gs,0,none⟩)),(fun _ _=>True)] (by kernel_rfl) (by kernel_rfl) (by kernel_rfl) (by kernel_rfl) (by kernel_rfl) rfl (by kernel_rfl) rfl ?_ ?_ ?_
 ·exact⟨A8 _,A8 _,A8 _,A8 _,A8 _,A8 _,An,trivial⟩
 ·refine⟨?_,?_,?_,?_,?_,?_,trivial⟩
  ·refine A7 (o:=⟨some 5,_,_,_,_,_⟩) rfl (fun r V hc hf hg hs hb hd=>?_);have x2:r (.tmp 2) = .pointer (some ⟨gs,0,none⟩):=hs 2 (by kernel_rfl);clear hs hd hg;go_simp;exact X1
  ·refine A7 (o:=⟨some 6,_,_,_,_,_⟩) rfl (fun r V hc hf hg hs hb hd=>?_);have h0:r (.tmp 5) = .pointer (some ⟨gs,0,none⟩):=hd 0 5 rfl (by kernel_rfl);clear hs hd hg;have l:=A4 (A5 hb HQs.o) 0 _ (DM _);go_simp;exact X1
  ·refine A7 (o:=⟨some 7,_,_,_,_,_⟩) rfl (fun r V hc hf hg hs hb hd=>?_);have x1:r (.tmp 1) = .int .i64 (n:Int):=hs 1 (by kernel_rfl);clear hs hd hg;go_simp;exact X1
  ·refine A7 (o:=⟨some 8,_,_,_,_,_⟩) rfl (fun r V hc hf hg hs hb hd=>?_);have h2:r (.tmp 7) = .int .i64 (n:Int):=hd 2 7 rfl (by kernel_rfl);clear hs hd hg;have h63:=HN63.o;have h0:(0:Int)≤n:=(by omega);have h1:min n 64=n:=(by omega);have h2:¬ (64:Int)≤n:=(by omega);have hs1:=Br n h63;go_simp;exact⟨VU _ _,by simp⟩
  ·refine A7 (o:=⟨some 9,_,_,_,_,_⟩) rfl (fun r V hc hf hg hs hb hd=>?_);have h1:r (.tmp 6) = .int .u64 (s.lk:Int):=hd 1 6 rfl (by kernel_rfl);have h3:r (.tmp 8) = .int .u64 (pw n:Int):=hd 3 8 rfl (by kernel_rfl);clear hs hd hg;have ho1:=Dn s.lk n HN63.o HSO.o.lk;go_simp;exact X1
  ·refine A7 (o:=⟨some 10,_,_,_,_,_⟩) rfl (fun r V hc hf hg hs hb hd=>?_);have x2:r (.tmp 2) = .pointer (some ⟨gs,0,none⟩):=hs 2 (by kernel_rfl);clear hs hd hg;go_simp;exact X1
 ·intro a V hb hx;have h0:a.eval (.tmp 5) = .pointer (some ⟨gs,0,none⟩):=hx 0 5 rfl rfl;have h1:a.eval (.tmp 6) = .int .u64 (s.lk:Int):=hx 1 6 rfl rfl;have h2:a.eval (.tmp 7) = .int .i64 (n:Int):=hx 2 7 rfl rfl;have h3:a.eval (.tmp 8) = .int .u64 (pw n:Int):=hx 3 8 rfl rfl;have h4:a.eval (.tmp 9) = .int .u64 ((Aw s.lk n:Nat):Int):=hx 4 9 rfl rfl;have h5:a.eval (.tmp 10) = .pointer (some ⟨gs,0,none⟩):=hx 5 10 rfl rfl;unfold AD;simp only[Wi,Wj,h0,h1,h2,h3,h4,h5,Act.put,VW,VX,VV];clear h0 h1 h2 h3 h4 h5 hx;have HSV:=hid (A5 hb HQs.o);have HBV:=hid (A6 HB0.o hb);have HRV:=hid (A5 hb HRz.o);clear hb HQs HB0 HRz;refine wpAny_ready (rs:=[6]) (by kernel_rfl) (by simp) (AllReady.cons (o:=⟨none,_,_,_,_,_⟩) rfl (fun K hK=>?_) AllReady.nil);have c0:=A4 HSV.o 0 _ (DM _);have f0:=Aq HSV.o 0;have hl:=Aj HSV.o;go_simp;clear c0 f0 hl;refine Bc ?_;intro VZ hVZ;have ho:Ai gs V VZ:=(by rw[hVZ];exact(Ai.refl gs V).setCell rfl _);have HSa:Hid (VZ.heap[gs]?=some (.cells (Af { s with lk:=Aw s.lk n }).toArray 65)):=hid (by rw[hVZ];exact(AG HSV.o 0 _).trans (congrArg (fun C=>some (Obj.cells C 65)) (PN _ _)));have HBa:Hid (Below w.heap.size w VZ):=hid (Ai.below HBV.o HG.o.1 HBV.o.size ho);have HRa:=hid (Ai.keep ho HG.o.2 HRV.o);clear hVZ ho HSV HBV HRV;refine hK _ _ ?_;clear hK K;refine wpAny_done (by kernel_rfl) ?_ _;go_upto_region 2 with fail
  obtain⟨W4,hW4⟩:∃ W',W'=VZ:=⟨_,rfl⟩;rw[← hW4] at HSa HBa HRa ⊢;clear hW4;refine Am (by kernel_rfl) [6] 9 [0,1,2,3,4,5] [11,12,13,14,15,16] #[true,true,true,true,true,true,false] 1 [(fun v _=>v = .pointer (some ⟨gs,1,none⟩)),(fun v _=>v = .int .u64 (s.us:Int)),(fun v _=>v = .int .i64 (n:Int)),(fun v _=>v = .int .u64 (pw n:Int)),(fun v _=>v = .int .u64 ((Aw s.us n:Nat):Int)),(fun v _=>v = .pointer (some ⟨gs,1,none⟩)),(fun _ _=>True)] (by kernel_rfl) (by kernel_rfl) (by kernel_rfl) (by kernel_rfl) (by kernel_rfl) rfl (by kernel_rfl) rfl ?_ ?_ ?_
  ·exact⟨A8 _,A8 _,A8 _,A8 _,A8 _,A8 _,An,trivial⟩
  ·refine⟨?_,?_,?_,?_,?_,?_,trivial⟩
   ·refine A7 (o:=⟨some 11,_,_,_,_,_⟩) rfl (fun r V hc hf hg hs hb hd=>?_);have x2:r (.tmp 2) = .pointer (some ⟨gs,0,none⟩):=hs 2 (by kernel_rfl);clear hs hd hg;go_simp;exact X1
   ·refine A7 (o:=⟨some 12,_,_,_,_,_⟩) rfl (fun r V hc hf hg hs hb hd=>?_);have h0:r (.tmp 11) = .pointer (some ⟨gs,1,none⟩):=hd 0 11 rfl (by kernel_rfl);clear hs hd hg;have l:=A4 (A5 hb HSa.o) 1 _ (FE _);go_simp;exact X1
   ·refine A7 (o:=⟨some 13,_,_,_,_,_⟩) rfl (fun r V hc hf hg hs hb hd=>?_);have x1:r (.tmp 1) = .int .i64 (n:Int):=hs 1 (by kernel_rfl);clear hs hd hg;go_simp;exact X1
   ·refine A7 (o:=⟨some 14,_,_,_,_,_⟩) rfl (fun r V hc hf hg hs hb hd=>?_);have h2:r (.tmp 13) = .int .i64 (n:Int):=hd 2 13 rfl (by kernel_rfl);clear hs hd hg;have h63:=HN63.o;have h0:(0:Int)≤n:=(by omega);have h1:min n 64=n:=(by omega);have h2:¬ (64:Int)≤n:=(by omega);have hs1:=Br n h63;go_simp;exact⟨VU _ _,by simp⟩
   ·refine A7 (o:=⟨some 15,_,_,_,_,_⟩) rfl (fun r V hc hf hg hs hb hd=>?_);have h1:r (.tmp 12) = .int .u64 (s.us:Int):=hd 1 12 rfl (by kernel_rfl);have h3:r (.tmp 14) = .int .u64 (pw n:Int):=hd 3 14 rfl (by kernel_rfl);clear hs hd hg;have ho1:=Dn s.us n HN63.o HSO.o.us;go_simp;exact X1
   ·refine A7 (o:=⟨some 16,_,_,_,_,_⟩) rfl (fun r V hc hf hg hs hb hd=>?_);have x2:r (.tmp 2) = .pointer (some ⟨gs,0,none⟩):=hs 2 (by kernel_rfl);clear hs hd hg;go_simp;exact X1
  ·intro a V hb hx;have h0:a.eval (.tmp 11) = .pointer (some ⟨gs,1,none⟩):=hx 0 11 rfl rfl;have h1:a.eval (.tmp 12) = .int .u64 (s.us:Int):=hx 1 12 rfl rfl;have h2:a.eval (.tmp 13) = .int .i64 (n:Int):=hx 2 13 rfl rfl;have h3:a.eval (.tmp 14) = .int .u64 (pw n:Int):=hx 3 14 rfl rfl;have h4:a.eval (.tmp 15) = .int .u64 ((Aw s.us n:Nat):Int):=hx 4 15 rfl rfl;have h5:a.eval (.tmp 16) = .pointer (some ⟨gs,1,none⟩):=hx 5 16 rfl rfl;unfold AD;simp only[Wi,Wj,h0,h1,h2,h3,h4,h5,Act.put,VW,VX,VV];clear h0 h1 h2 h3 h4 h5 hx;have HSV:=hid (A5 hb HSa.o);have HBV:=hid (A6 HBa.o hb);have HRV:=hid (A5 hb HRa.o);clear hb HSa HBa HRa;refine wpAny_ready (rs:=[6]) (by kernel_rfl) (by simp) (AllReady.cons (o:=⟨none,_,_,_,_,_⟩) rfl (fun K hK=>?_) AllReady.nil);have c0:=A4 HSV.o 1 _ (FE _);have f0:=Aq HSV.o 1;have hl:=Aj HSV.o;go_simp;clear c0 f0 hl;refine Bc ?_;intro VZ hVZ;have ho:Ai gs V VZ:=(by rw[hVZ];exact(Ai.refl gs V).setCell rfl _);have HSb:Hid (VZ.heap[gs]?=some (.cells (Af { s with lk:=Aw s.lk n,us:=Aw s.us n }).toArray 65)):=hid (by rw[hVZ];exact(AG HSV.o 1 _).trans (congrArg (fun C=>some (Obj.cells C 65)) (MR _ _)));have HBb:Hid (Below w.heap.size w VZ):=hid (Ai.below HBV.o HG.o.1 HBV.o.size ho);have HRb:=hid (Ai.keep ho HG.o.2 HRV.o);clear hVZ ho HSV HBV HRV;refine hK _ _ ?_;clear hK K;refine wpAny_done (by kernel_rfl) ?_ _;go_upto_region 3 with fail
   obtain⟨W5,hW5⟩:∃ W',W'=VZ:=⟨_,rfl⟩;rw[← hW5] at HSb HBb HRb ⊢;clear hW5;refine Am (by kernel_rfl) [6] 9 [0,1,2,3,4,5] [17,18,19,20,21,22] #[true,true,true,true,true,true,false] 1 [(fun v _=>v = .pointer (some ⟨gs,2,none⟩)),(fun v _=>v = .int .u64 (s.ca:Int)),(fun v _=>v = .int .i64 (n:Int)),(fun v _=>v = .int .u64 (pw n:Int)),(fun v _=>v = .int .u64 ((Aw s.ca n:Nat):Int)),(fun v _=>v = .pointer (some ⟨gs,2,none⟩)),(fun _ _=>True)] (by kernel_rfl) (by kernel_rfl) (by kernel_rfl) (by kernel_rfl) (by kernel_rfl) rfl (by kernel_rfl) rfl ?_ ?_ ?_
   ·exact⟨A8 _,A8 _,A8 _,A8 _,A8 _,A8 _,An,trivial⟩
   ·refine⟨?_,?_,?_,?_,?_,?_,trivial⟩
    ·refine A7 (o:=⟨some 17,_,_,_,_,_⟩) rfl (fun r V hc hf hg hs hb hd=>?_);have x2:r (.tmp 2) = .pointer (some ⟨gs,0,none⟩):=hs 2 (by kernel_rfl);clear hs hd hg;go_simp;exact X1
    ·refine A7 (o:=⟨some 18,_,_,_,_,_⟩) rfl (fun r V hc hf hg hs hb hd=>?_);have h0:r (.tmp 17) = .pointer (some ⟨gs,2,none⟩):=hd 0 17 rfl (by kernel_rfl);clear hs hd hg;have l:=A4 (A5 hb HSb.o) 2 _ (E1 _);go_simp;exact X1
    ·refine A7 (o:=⟨some 19,_,_,_,_,_⟩) rfl (fun r V hc hf hg hs hb hd=>?_);have x1:r (.tmp 1) = .int .i64 (n:Int):=hs 1 (by kernel_rfl);clear hs hd hg;go_simp;exact X1
    ·refine A7 (o:=⟨some 20,_,_,_,_,_⟩) rfl (fun r V hc hf hg hs hb hd=>?_);have h2:r (.tmp 19) = .int .i64 (n:Int):=hd 2 19 rfl (by kernel_rfl);clear hs hd hg;have h63:=HN63.o;have h0:(0:Int)≤n:=(by omega);have h1:min n 64=n:=(by omega);have h2:¬ (64:Int)≤n:=(by omega);have hs1:=Br n h63;go_simp;exact⟨VU _ _,by simp⟩
    ·refine A7 (o:=⟨some 21,_,_,_,_,_⟩) rfl (fun r V hc hf hg hs hb hd=>?_);have h1:r (.tmp 18) = .int .u64 (s.ca:Int):=hd 1 18 rfl (by kernel_rfl);have h3:r (.tmp 20) = .int .u64 (pw n:Int):=hd 3 20 rfl (by kernel_rfl);clear hs hd hg;have ho1:=Dn s.ca n HN63.o HSO.o.ca;go_simp;exact X1
    ·refine A7 (o:=⟨some 22,_,_,_,_,_⟩) rfl (fun r V hc hf hg hs hb hd=>?_);have x2:r (.tmp 2) = .pointer (some ⟨gs,0,none⟩):=hs 2 (by kernel_rfl);clear hs hd hg;go_simp;exact X1
   ·intro a V hb hx;have h0:a.eval (.tmp 17) = .pointer (some ⟨gs,2,none⟩):=hx 0 17 rfl rfl;have h1:a.eval (.tmp 18) = .int .u64 (s.ca:Int):=hx 1 18 rfl rfl;have h2:a.eval (.tmp 19) = .int .i64 (n:Int):=hx 2 19 rfl rfl;have h3:a.eval (.tmp 20) = .int .u64 (pw n:Int):=hx 3 20 rfl rfl;have h4:a.eval (.tmp 21) = .int .u64 ((Aw s.ca n:Nat):Int):=hx 4 21 rfl rfl;have h5:a.eval (.tmp 22) = .pointer (some ⟨gs,2,none⟩):=hx 5 22 rfl rfl;unfold AD;simp only[Wi,Wj,h0,h1,h2,h3,h4,h5,Act.put,VW,VX,VV];clear h0 h1 h2 h3 h4 h5 hx;have HSV:=hid (A5 hb HSb.o);have HBV:=hid (A6 HBb.o hb);have HRV:=hid (A5 hb HRb.o);clear hb HSb HBb HRb;refine wpAny_ready (rs:=[6]) (by kernel_rfl) (by simp) (AllReady.cons (o:=⟨none,_,_,_,_,_⟩) rfl (fun K hK=>?_) AllReady.nil);have c0:=A4 HSV.o 2 _ (E1 _);have f0:=Aq HSV.o 2;have hl:=Aj HSV.o;go_simp;clear c0 f0 hl;refine Bc ?_;intro VZ hVZ;have ho:Ai gs V VZ:=(by rw[hVZ];exact(Ai.refl gs V).setCell rfl _);have HSc:Hid (VZ.heap[gs]?=some (.cells (Af { s with lk:=Aw s.lk n,us:=Aw s.us n,ca:=Aw s.ca n }).toArray 65)):=hid (by rw[hVZ];exact(AG HSV.o 2 _).trans (congrArg (fun C=>some (Obj.cells C 65)) (KY _ _)));have HBc:Hid (Below w.heap.size w VZ):=hid (Ai.below HBV.o HG.o.1 HBV.o.size ho);have HRc:=hid (Ai.keep ho HG.o.2 HRV.o);clear hVZ ho HSV HBV HRV;refine hK _ _ ?_;clear hK K;refine wpAny_done (by kernel_rfl) ?_ _;obtain⟨V3,hV3⟩:∃ W',W'=VZ:=⟨_,rfl⟩;rw[← hV3] at HSc HBc HRc ⊢;clear hV3;have hs4:=HSc.o;have l3:=A4 hs4 (3+n) _ (Ei _ HN64.o);have f3:=Aq hs4 (3+n);have hl:=Aj hs4;have d2:(0:Int)≤n:=(by omega);have d3:(n:Int)<64:=(by have:=HN64.o;omega);go_upto_region 5 with fail
    clear l3 f3 hl d2 d3;refine BR ?_;intro WZ hWZ;have ho:Ai gs V3 WZ:=(by rw[hWZ];exact(Ai.refl gs V3).setCell rfl _);have HS9:Hid (WZ.heap[gs]?=some (.cells (Af (BL s n)).toArray 65)):=hid (by rw[hWZ];exact(AG hs4 (3+n) _).trans (congrArg (fun C=>some (Obj.cells C 65)) ((Ff _ 0 HN64.o).trans (by rw[Lw]))));have HBE:Hid (Below w.heap.size w WZ):=hid (Ai.below HBc.o HG.o.1 HBc.o.size ho);have HR9:=hid (Ai.keep ho HG.o.2 HRc.o);clear hWZ ho hs4;have HLD:=hid (Au HS9.o);obtain⟨hst,hq9,ho9⟩:=AH (s':=(BL s n)) HR9.o;have HST:=hid hst;have HQ9:=hid hq9;have HB9:Hid (Below w.heap.size w (WZ.setCells gr 0 (Af (BL s n)))):=hid (Ai.below HBE.o HGR.o HBE.o.size ho9);clear hst hq9 ho9;go_wp2_with (first
     | ((with_reducible refine Ah (op:=⟨some 26,_,_,_,_,_⟩) rfl 65 _ rfl _ _ ?_ HLD.o ?_);(· rfl))
     | ((with_reducible refine Ag (op:=⟨none,.store 65 _ _,_,_,_,_⟩) rfl 65 _ _ rfl _ _ ?_ ?_ _ HST.o ?_);(· rfl);(· rfl)))
    (try simp only[Exit.inBlock,Exit.then])
    refine bodyPost_ret (results_cell_row (g:=gr) rfl _ _ 65 (Af (BL s n)).toArray (0,0) _ rfl HQ9.o Tryz.underlying65 rfl (by rw[Wn,AS];exact Bf)) rfl ?_;exact⟨rfl,HB9.o⟩
end Go.Proofs.YtpohoannggdbjaaGreat
