/- Ours: IxS; IxT. -/
import Derived.Test.YtpohoannggdbjaaGreatIxQ
import Derived.Test.YtpohoannggdbjaaGreatIxM
import Derived.Test.YtpohoannggdbjaaGreatMA
import Derived.Test.YtpohoannggdbjaaGreatRef07
import Derived.Test.YtpohoannggdbjaaGreatCoC
namespace Go.Proofs.YtpohoannggdbjaaGreat
open Lib (hid)
open Go.RowKit
set_option maxRecDepth 100000
theorem Fe{α:Type}{f:α→Bool}{l:List α}{k:Nat}{x:α}(hx:l[k]?=some x)(h:(l.take k).any f=false)(h2:f x=false):(l.take (k+1)).any f=false:=by
 rw[List.take_add_one,hx,List.any_append,h];simp[h2]
theorem F7{α:Type}{f:α→Bool}{l:List α}{k:Nat}{x:α}(hx:l[k]?=some x)(h2:f x=true):l.any f=true:=List.any_eq_true.2 ⟨x,List.mem_of_getElem? hx,h2⟩
theorem JN{α:Type}{f:α→Bool}{l:List α}{k:Nat}(h:(l.take k).any f=false)(hk:l.length≤k):l.any f=false:=by rw[List.take_of_length_le hk] at h;exact h
theorem Id{α:Type}{f:α→Bool}{l:List α}:(l.take 0).any f=false:=by rw[List.take_zero];rfl
theorem MO(s n:Nat)(hs:s<4294967296):(bits .and .u32 ((s:Int) / 2 ^ n) 1 == 1)=Aa s n:=by
 have h1:s / pw n<4294967296:=Nat.lt_of_le_of_lt (Nat.div_le_self _ _) hs;rw[JI,show(1:Int)=((1:Nat):Int) from rfl,u32_and_nat _ 1 h1 (by omega),Nat.and_one_is_mod];unfold Aa;rw[Bool.eq_iff_iff];simp;omega
theorem FF{P:Program}{ops:Array Oper}{rest:List Oper}{op:Oper}{a:Act}{w:World}{Q:Exit→Act→World→Prop}(hw:Region.wanted op (yielded ops a.tmps)=true)(ty:TypeId)(x:Operand)(ho:op.op = .load ty x)(vx v:Value)(hx:a.eval x=vx)
 (hr:(Instr.loadAt ty vx).run P w = .ok v w) (h:wpList P ops Q rest (a.put op.dst v) w):wpList P ops Q (op :: rest) a w:=
 wpList_step fun K hK=>by
  rw[if_pos hw];unfold Oper.wp execOp;simp only[ho,hx,Sem.run_bind,hr,Result.andThen_ok,Sem.run_pure];exact hK _ _ h
theorem F5{V:World}{g kd:Nat}{nn:Int}{t:TypeId}{fr:Nat × Nat}(h:V.heap[g]?=some (.cells #[.int .u8 (kd:Int),.int .i64 nn] t fr))(hk:kd<256)(h1 : -9223372036854775808≤nn)(h2:nn≤9223372036854775807):CB V (some ⟨g,0,none⟩) [(kd,nn)]:=by
 refine⟨fun c hc=>?_,.inr ⟨g,0,rfl,fun i c hi=>?_⟩⟩
 ·rw[List.mem_singleton.1 hc];exact⟨hk,h1,h2⟩
 ·cases i with
  | zero=>injection hi with hi;subst hi;exact⟨A4 h 0 _ rfl,A4 h 1 _ rfl⟩
  | succ i=>cases hi
theorem Ct(b:Bool)(x n:Nat)(w:World)(hn:n≤63)(hx:x<18446744073709551616)(hb:Aa x n=b) :
 Calls Tryz.prog 43 #[.int .u64 (x:Int),.int .i64 (n:Int)] w fun e w'=>e = .returned (.bool b)∧Below w.heap.size w w':=
 hb ▸ (Kk x n w hn hx).mono (fun _ _ h=>⟨h.1,h.2 ▸ Below.refl _ _⟩)
attribute [local irreducible] Sl.v Aa pw Ab Ax C4 Ai BG Cs Bi Bf B7 Cr BO AT Bk Bw BD Bh Bg BQ Bj BI BC BM AD AS AR Bc BB Bq CT Mc.tb BU AQ Aq AW
attribute [local irreducible] B6 CQ Bs BN Rt.tr Rt.nd Aw BS As
set_option maxHeartbeats 4000000 in
theorem Du(b:Bool)(oc no re:Nat)(ia:Option Addr)(il ic:Nat)(k:Nat)(w:World)(hk:k≤63)(ho:oc<18446744073709551616)(hb:Aa oc k=b) :
 Calls Tryz.prog 75 #[.agg #[.int .u64 (oc:Int),.int .u32 (no:Int),.int .u32 (re:Int),.slice ia il ic],.int .i64 (k:Int)] w fun e w'=>e = .returned (.bool (!b))∧Below w.heap.size w w':=by
 have HH:Hid (∀ V,Calls Tryz.prog 43 #[.int .u64 (oc:Int),.int .i64 (k:Int)] V fun e w'=>e = .returned (.bool b)∧Below V.heap.size V w'):=hid (fun V=>Ct b oc k V hk ho hb);clear hk ho hb;go_enter Tryz.func75,Tryz.ntmps75;go_upto_region 1 with fail
 refine Ap (os:=[.cells #[.int .u64 (oc:Int),.int .u32 (no:Int),.int .u32 (re:Int),.slice ia il ic] 35]) (w0:=w) rfl ?_;intro W hat hbw;obtain⟨gi,hgi⟩:∃ g,g=w.heap.size:=⟨_,rfl⟩;have q0:=hat 0 _ rfl;rw[Nat.add_zero,← hgi] at q0;rw[← hgi];have HQi:=hid q0;have HB0:=hid hbw;clear hat hbw q0 hgi;have l0:=A4 HQi.out 0 _ rfl;have l1:=A4 HQi.out 1 _ rfl;have l2:=A4 HQi.out 2 _ rfl;have l3:=A4 HQi.out 3 _ rfl;go_wp2_with fail;refine(HH.out _).mono ?_;rintro e w1 ⟨rfl,hb1⟩;go_wp2_with fail;go_ret;exact⟨by cases b<;>rfl,A8 HB0.out hb1⟩
set_option maxHeartbeats 8000000 in
theorem FP(b:Bool)(oc no re:Nat)(ia:Option Addr)(il ic:Nat)(x:Rt)(w:World)(hx:Cq w x)(h1:x.pa.l.length+x.ov.l.length≤100000)(hs:∀ s∈x.tr,0≤s∧s≤63)(ho:oc<18446744073709551616)(hb:x.tr.any (fun k=>Aa oc k.toNat)=b) :
 Calls Tryz.prog 78 #[.agg #[.string x.nm,.int .i64 x.sg,x.pa.v,x.po.v,x.ov.v,x.fl.v],.agg #[.int .u64 (oc:Int),.int .u32 (no:Int),.int .u32 (re:Int),.slice ia il ic]] w fun e w'=>e = .returned (.bool (!b))∧Below w.heap.size w w':=by
 have HTR:Hid (∀ W,Below w.heap.size w W→Calls Tryz.prog 68 #[.agg #[.string x.nm,.int .i64 x.sg,x.pa.v,x.po.v,x.ov.v,x.fl.v]] W fun e w'=>∃ a n c,e = .returned (.slice a n c)∧n=x.tr.length∧B8 1 AO w' ⟨a,c,x.tr⟩∧Below W.heap.size W w'):=hid (fun W hW=>by
  have h:=Ei x W (hx.below hW) h1;unfold Rt.tr;rw[List.length_append];exact h)
 obtain⟨p1,hp1⟩:∃ k,x.pa.l.length=k:=⟨_,rfl⟩;obtain⟨p2,hp2⟩:∃ k,x.po.l.length=k:=⟨_,rfl⟩;obtain⟨p3,hp3⟩:∃ k,x.ov.l.length=k:=⟨_,rfl⟩;obtain⟨p4,hp4⟩:∃ k,x.fl.l.length=k:=⟨_,rfl⟩;rw[Ak hp1,Ak hp2,Ak hp3,Ak hp4] at HTR ⊢;have HTL:Hid (x.tr.length≤100000):=hid (by unfold Rt.tr;rw[List.length_append];exact h1);have HO:=hid ho;have HZ:=hid hb;have HSX:=hid hs;clear hx h1 hs ho hb hp1 hp2 hp3 hp4;go_enter Tryz.func78,Tryz.ntmps78;go_upto_region 1 with fail
 refine Ap (os:=[.cells #[.string x.nm,.int .i64 x.sg,.slice x.pa.a p1 x.pa.c,.slice x.po.a p2 x.po.c,.slice x.ov.a p3 x.ov.c,.slice x.fl.a p4 x.fl.c] 52,.cells #[.int .u64 (oc:Int),.int .u32 (no:Int),.int .u32 (re:Int),.slice ia il ic] 35]) (w0:=w) rfl ?_;intro W hat hbw;obtain⟨gr,hgr⟩:∃ g,g=w.heap.size:=⟨_,rfl⟩;have q0:=hat 0 _ rfl;obtain⟨gi,hgi⟩:∃ g,g=gr+1:=⟨_,rfl⟩;have q1:=hat 1 _ rfl;rw[Nat.add_zero,← hgr] at q0;rw[← hgr,← hgi] at q1;rw[← hgr,← hgi];have HQr:=hid q0;have HQi:=hid q1;have HB0:=hid hbw;clear hat hbw q0 q1 hgr hgi;have l0:=A4 HQr.out 0 _ rfl;have l1:=A4 HQr.out 1 _ rfl;have l2:=A4 HQr.out 2 _ rfl;have l3:=A4 HQr.out 3 _ rfl;have l4:=A4 HQr.out 4 _ rfl;have l5:=A4 HQr.out 5 _ rfl;go_wp2_with fail;refine(HTR.out _ HB0.out).mono ?_;rintro e w1 ⟨ta,tn,tc,rfl,htn,hT,hb1⟩;have HT:=hid hT.row;have HTN:=hid htn;have HB1:=hid (A8 HB0.out hb1);have HQ1:=hid (A5 hb1 HQi.out);have htm:tn≤100000:=by rw[htn];exact HTL.out
 have HTM:=hid htm;clear l0 l1 l2 l3 l4 l5 htn hT hb1 htm;go_upto_region 3 with fail
 go_loopg [6] tn (fun g v wq=>∃ k:Nat,k+g=tn∧v = .int .i64 (k:Int)∧(x.tr.take k).any (fun s=>Aa oc s.toNat)=false∧Below w1.heap.size w1 wq)
 case atStart=>exact⟨0,by omega,rfl,Id,Below.refl _ _⟩
 case round=>
  obtain⟨k,hk,rfl,ho,hbw⟩:=hrel;have HK:=hid hk;have HF2:=hid ho;have HBQ:=hid hbw;clear hk ho hbw;by_cases hlk:k<tn
  ·have d3:(0:Int)≤k:=by omega
   have d4:(k:Int)<tn:=by omega
   have e2:=Bp hlk (Nat.le_trans HTM.out (by decide));have HLK:=hid hlk;obtain⟨s,hs⟩:∃ s,x.tr[k]?=some s:=⟨_,List.getElem?_eq_getElem (by have:=HTN.out;omega)⟩;have hsb:=HSX.out s (List.mem_of_getElem? hs);obtain⟨j,rfl⟩:∃ j:Nat,s=j:=⟨s.toNat,by omega⟩;obtain⟨A,hA⟩:∃ x,ta=x:=⟨_,rfl⟩;have HAA:=hid hA;have hrow:=HT.out;rw[hA] at hrow ⊢;rcases hrow with hnil | ⟨tb,toff,htb,ht0⟩
   ·have:=HTN.out;rw[hnil] at this;simp at this;omega
   subst htb;have t0:=cell_later HBQ.out (ht0 k _ hs 0 _ rfl);rw[Nat.add_zero,Nat.mul_one] at t0;have HT0:=hid t0;obtain⟨D,hD⟩:∃ D,Aa oc j=D:=⟨_,rfl⟩;have HD:Hid ((fun s:Int=>Aa oc s.toNat) (j:Int)=D):=hid (by show Aa oc ((j:Int).toNat)=D;rw[Int.toNat_natCast];exact hD);have HSK:=hid hs;have KHS:Hid (∀ w',Below wr.heap.size wr w'→Calls Tryz.prog 75 #[.agg #[.int .u64 (oc:Int),.int .u32 (no:Int),.int .u32 (re:Int),.slice ia il ic],.int .i64 (j:Int)] w' fun e w''=>e = .returned (.bool (!D))∧Below wr.heap.size wr w''):=hid (fun w' hw'=>(Du D oc no re ia il ic j w' (by omega) HO.out hD).mono (fun _ _ h=>⟨h.1,A8 hw' h.2⟩));have HQR:=hid (A5 HBQ.out HQ1.out);clear t0 ht0 hs hD hsb hlk hA;go_upto_region 5 with fail
   refine Ae (by kernel_rfl) ?_ ?_
   ·kernel_rfl
   repeat first
    | go_big_quiet_skip
    | (go_big_quiet_want;go_big_quiet_op;go_big_quiet_on)
    | (with_reducible apply wpQuiet_step
       intro K hK;go_simp;first
        | (refine hK _ ?_;clear hK K)
        | (apply Exists.intro
           refine⟨fun w' hw'=>?_,hK _ ?_⟩
           ·
            (first
             | with_reducible exact KHS.out _ hw'
             | (have g0:=A4 (A5 hw' HQR.out) 0 _ rfl
                have g1:=A4 (A5 hw' HQR.out) 1 _ rfl;have g2:=A4 (A5 hw' HQR.out) 2 _ rfl;have g3:=A4 (A5 hw' HQR.out) 3 _ rfl;go_simp;first | done | with_reducible exact rfl | with_reducible exact⟨rfl,rfl⟩ | with_reducible exact KHS.out _ hw')
             | (have t0:=cell_later hw' HT0.out
                go_simp;first | done | with_reducible exact rfl | with_reducible exact⟨rfl,rfl⟩ | with_reducible exact KHS.out _ hw'))
           clear hK K))
   refine wpQuiet_nil ?_;intro w7 hw7;have HB7:=hid (A8 HBQ.out hw7);clear hw7;cases D with
   | true=>
     have HTT:Hid (b=true):=hid (HZ.out.symm.trans (F7 HSK.out HD.out));go_wp2_with fail;go_ret;exact⟨by rw[HTT.out];rfl,A8 HB1.out HB7.out⟩
   | false=>
     have HN:Hid ((x.tr.take (k+1)).any (fun s=>Aa oc s.toNat)=false):=hid (Fe HSK.out HF2.out HD.out);go_wp2_with fail;rw[← HAA.out];go_roundg (tn - (k+1))
     case rel=>exact⟨k+1,AK HK.out HLK.out,by go_num,HN.out,HB7.out⟩
     case measure=>exact AL HK.out HLK.out
  ·have d4:¬ ((k:Int)<tn):=by omega
   have HTT:Hid (b=false):=hid (HZ.out.symm.trans (JN HF2.out (by have:=HTN.out;have:=HK.out;omega)));go_wp2_with fail;go_ret;exact⟨by rw[HTT.out];rfl,A8 HB1.out HBQ.out⟩
set_option maxHeartbeats 4000000 in
theorem NV(b:Bool)(s:St)(p:Nat)(w:World)(hp:p≤31)(hs:s.ok)(hb:Aa s.pt p=b) :
 Calls Tryz.prog 101 #[.agg (Ai s).toArray,.int .i64 (p:Int)] w fun e w'=>e = .returned (.bool b)∧Below w.heap.size w w':=by
 have f:=(MO s.pt p hs.pt).trans hb;have j0:(0:Int)≤p:=by omega
 have j1:min p 32=p:=by omega
 have j2:¬ (32:Int)≤p:=by omega
 clear hp hs hb;go_enter Tryz.func101,Tryz.ntmps101;go_upto_region 1 with fail
 refine Ap (os:=[.cells (Ai s).toArray 65]) (w0:=w) rfl ?_;intro W hat hbw;obtain⟨gs,hgs⟩:∃ g,g=w.heap.size:=⟨_,rfl⟩;have q0:=hat 0 _ rfl;rw[Nat.add_zero,← hgs] at q0;rw[← hgs];have HQs:=hid q0;have HB0:=hid hbw;clear hat hbw q0 hgs;have l67:=A4 HQs.out 67 _ (by rw[List.getElem?_toArray];exact GL s);go_wp2_with fail;go_ret;exact⟨by first | rfl | (rw[f]) | (simp only[f]),HB0.out⟩
set_option maxHeartbeats 8000000 in
theorem Ko(s:St)(n:Nat)(w:World)(hn:n≤63)(hs:s.ok) :
 Calls Tryz.prog 79 #[.agg (Ai s).toArray,.int .i64 (n:Int)] w fun e w'=>e = .returned (.agg (Ai (BI s n)).toArray)∧Below w.heap.size w w':=by
 have HN63:=hid hn;have HN64:Hid (n<64):=hid (by omega);have HSO:=hid hs;clear hn hs;go_enter Tryz.func79,Tryz.ntmps79;go_upto_region 1 with fail
 rw[BF];refine Ap (os:=[.cells (Ai s).toArray 65,.cells (Ai zS).toArray 65]) (w0:=w) rfl ?_;intro W hat hbw;obtain⟨gs,hgs⟩:∃ g,g=w.heap.size:=⟨_,rfl⟩;have q0:=hat 0 _ rfl;obtain⟨gr,hgr⟩:∃ g,g=gs+1:=⟨_,rfl⟩;have q1:=hat 1 _ rfl;rw[Nat.add_zero,← hgs] at q0;rw[← hgs,← hgr] at q1;rw[← hgs,← hgr];have HQs:=hid q0;have HQr:=hid q1;have HB0:=hid hbw;have HG:Hid (w.heap.size≤gs∧gr≠gs):=hid (by omega);have HGR:Hid (w.heap.size≤gr):=hid (by omega);have HRz:=hid q1;clear hat hbw q0 q1 hgs hgr;refine Ah (by kernel_rfl) [6] 9 [0,1,2,3,4,5] [5,6,7,8,9,10] #[true,true,true,true,true,true,false] 1 [(fun v _=>v = .pointer (some ⟨gs,0,none⟩)),(fun v _=>v = .int .u64 (s.lk:Int)),(fun v _=>v = .int .i64 (n:Int)),(fun v _=>v = .int .u64 (pw n:Int)),(fun v _=>v = .int .u64 ((Ax s.lk n:Nat):Int)),(fun v _=>v = .pointer (some ⟨gs,0,none⟩)),(fun _ _=>True)] (by kernel_rfl) (by kernel_rfl) (by kernel_rfl) (by kernel_rfl) (by kernel_rfl) rfl (by kernel_rfl) rfl ?_ ?_ ?_
 ·exact⟨A7 _,A7 _,A7 _,A7 _,A7 _,A7 _,Al,trivial⟩
 ·refine⟨?_,?_,?_,?_,?_,?_,trivial⟩
  ·refine A6 (o:=⟨some 5,_,_,_,_,_⟩) rfl (fun r V hc hf hg hs hb hd=>?_);have x2:r (.tmp 2) = .pointer (some ⟨gs,0,none⟩):=hs 2 (by kernel_rfl);clear hs hd hg;go_simp;exact⟨Below.refl _ _,rfl⟩
  ·refine A6 (o:=⟨some 6,_,_,_,_,_⟩) rfl (fun r V hc hf hg hs hb hd=>?_);have h0:r (.tmp 5) = .pointer (some ⟨gs,0,none⟩):=hd 0 5 rfl (by kernel_rfl);clear hs hd hg;have l:=A4 (A5 hb HQs.out) 0 _ (Dl _);go_simp;exact⟨Below.refl _ _,rfl⟩
  ·refine A6 (o:=⟨some 7,_,_,_,_,_⟩) rfl (fun r V hc hf hg hs hb hd=>?_);have x1:r (.tmp 1) = .int .i64 (n:Int):=hs 1 (by kernel_rfl);clear hs hd hg;go_simp;exact⟨Below.refl _ _,rfl⟩
  ·refine A6 (o:=⟨some 8,_,_,_,_,_⟩) rfl (fun r V hc hf hg hs hb hd=>?_);have h2:r (.tmp 7) = .int .i64 (n:Int):=hd 2 7 rfl (by kernel_rfl);clear hs hd hg;have h63:=HN63.out;have h0:(0:Int)≤n:=by omega
   have h1:min n 64=n:=by omega
   have h2:¬ (64:Int)≤n:=by omega
   have hs1:=Be n h63;go_simp;exact⟨Below.refl _ _,by simp⟩
  ·refine A6 (o:=⟨some 9,_,_,_,_,_⟩) rfl (fun r V hc hf hg hs hb hd=>?_);have h1:r (.tmp 6) = .int .u64 (s.lk:Int):=hd 1 6 rfl (by kernel_rfl);have h3:r (.tmp 8) = .int .u64 (pw n:Int):=hd 3 8 rfl (by kernel_rfl);clear hs hd hg;have ho1:=CW s.lk n HN63.out HSO.out.lk;go_simp;exact⟨Below.refl _ _,rfl⟩
  ·refine A6 (o:=⟨some 10,_,_,_,_,_⟩) rfl (fun r V hc hf hg hs hb hd=>?_);have x2:r (.tmp 2) = .pointer (some ⟨gs,0,none⟩):=hs 2 (by kernel_rfl);clear hs hd hg;go_simp;exact⟨Below.refl _ _,rfl⟩
 ·intro a V hb hx;have h0:a.eval (.tmp 5) = .pointer (some ⟨gs,0,none⟩):=hx 0 5 rfl rfl;have h1:a.eval (.tmp 6) = .int .u64 (s.lk:Int):=hx 1 6 rfl rfl;have h2:a.eval (.tmp 7) = .int .i64 (n:Int):=hx 2 7 rfl rfl;have h3:a.eval (.tmp 8) = .int .u64 (pw n:Int):=hx 3 8 rfl rfl;have h4:a.eval (.tmp 9) = .int .u64 ((Ax s.lk n:Nat):Int):=hx 4 9 rfl rfl;have h5:a.eval (.tmp 10) = .pointer (some ⟨gs,0,none⟩):=hx 5 10 rfl rfl;unfold AA;simp only[List.foldl_cons,List.foldl_nil,h0,h1,h2,h3,h4,h5,Act.put,List.setIfInBounds_toArray,List.set_cons_zero,List.set_cons_succ];clear h0 h1 h2 h3 h4 h5 hx;have HSV:=hid (A5 hb HQs.out);have HBV:=hid (A8 HB0.out hb);have HRV:=hid (A5 hb HRz.out);clear hb HQs HB0 HRz;refine wpAny_ready (rs:=[6]) (by kernel_rfl) (by simp) (AllReady.cons (o:=⟨none,_,_,_,_,_⟩) rfl (fun K hK=>?_) AllReady.nil);have c0:=A4 HSV.out 0 _ (Dl _);have f0:=An HSV.out 0;have hl:=Af HSV.out;go_simp;clear c0 f0 hl;refine AY ?_;intro VZ hVZ;have ho:Ag gs V VZ:=by rw[hVZ];exact(Ag.refl gs V).setCell rfl _
  have HSa:Hid (VZ.heap[gs]?=some (.cells (Ai { s with lk:=Ax s.lk n }).toArray 65)):=hid (by rw[hVZ];exact(AH HSV.out 0 _).trans (congrArg (fun C=>some (Obj.cells C 65)) (Nk _ _)));have HBa:Hid (Below w.heap.size w VZ):=hid (Ag.below HBV.out HG.out.1 HBV.out.size ho);have HRa:=hid (Ag.keep ho HG.out.2 HRV.out);clear hVZ ho HSV HBV HRV;refine hK _ _ ?_;clear hK K;refine wpAny_done (by kernel_rfl) ?_ _;go_upto_region 2 with fail
  obtain⟨W4,hW4⟩:∃ W',W'=VZ:=⟨_,rfl⟩;rw[← hW4] at HSa HBa HRa ⊢;clear hW4;refine Ah (by kernel_rfl) [6] 9 [0,1,2,3,4,5] [11,12,13,14,15,16] #[true,true,true,true,true,true,false] 1 [(fun v _=>v = .pointer (some ⟨gs,1,none⟩)),(fun v _=>v = .int .u64 (s.us:Int)),(fun v _=>v = .int .i64 (n:Int)),(fun v _=>v = .int .u64 (pw n:Int)),(fun v _=>v = .int .u64 ((Ax s.us n:Nat):Int)),(fun v _=>v = .pointer (some ⟨gs,1,none⟩)),(fun _ _=>True)] (by kernel_rfl) (by kernel_rfl) (by kernel_rfl) (by kernel_rfl) (by kernel_rfl) rfl (by kernel_rfl) rfl ?_ ?_ ?_
  ·exact⟨A7 _,A7 _,A7 _,A7 _,A7 _,A7 _,Al,trivial⟩
  ·refine⟨?_,?_,?_,?_,?_,?_,trivial⟩
   ·refine A6 (o:=⟨some 11,_,_,_,_,_⟩) rfl (fun r V hc hf hg hs hb hd=>?_);have x2:r (.tmp 2) = .pointer (some ⟨gs,0,none⟩):=hs 2 (by kernel_rfl);clear hs hd hg;go_simp;exact⟨Below.refl _ _,rfl⟩
   ·refine A6 (o:=⟨some 12,_,_,_,_,_⟩) rfl (fun r V hc hf hg hs hb hd=>?_);have h0:r (.tmp 11) = .pointer (some ⟨gs,1,none⟩):=hd 0 11 rfl (by kernel_rfl);clear hs hd hg;have l:=A4 (A5 hb HSa.out) 1 _ (EW _);go_simp;exact⟨Below.refl _ _,rfl⟩
   ·refine A6 (o:=⟨some 13,_,_,_,_,_⟩) rfl (fun r V hc hf hg hs hb hd=>?_);have x1:r (.tmp 1) = .int .i64 (n:Int):=hs 1 (by kernel_rfl);clear hs hd hg;go_simp;exact⟨Below.refl _ _,rfl⟩
   ·refine A6 (o:=⟨some 14,_,_,_,_,_⟩) rfl (fun r V hc hf hg hs hb hd=>?_);have h2:r (.tmp 13) = .int .i64 (n:Int):=hd 2 13 rfl (by kernel_rfl);clear hs hd hg;have h63:=HN63.out;have h0:(0:Int)≤n:=by omega
    have h1:min n 64=n:=by omega
    have h2:¬ (64:Int)≤n:=by omega
    have hs1:=Be n h63;go_simp;exact⟨Below.refl _ _,by simp⟩
   ·refine A6 (o:=⟨some 15,_,_,_,_,_⟩) rfl (fun r V hc hf hg hs hb hd=>?_);have h1:r (.tmp 12) = .int .u64 (s.us:Int):=hd 1 12 rfl (by kernel_rfl);have h3:r (.tmp 14) = .int .u64 (pw n:Int):=hd 3 14 rfl (by kernel_rfl);clear hs hd hg;have ho1:=CW s.us n HN63.out HSO.out.us;go_simp;exact⟨Below.refl _ _,rfl⟩
   ·refine A6 (o:=⟨some 16,_,_,_,_,_⟩) rfl (fun r V hc hf hg hs hb hd=>?_);have x2:r (.tmp 2) = .pointer (some ⟨gs,0,none⟩):=hs 2 (by kernel_rfl);clear hs hd hg;go_simp;exact⟨Below.refl _ _,rfl⟩
  ·intro a V hb hx;have h0:a.eval (.tmp 11) = .pointer (some ⟨gs,1,none⟩):=hx 0 11 rfl rfl;have h1:a.eval (.tmp 12) = .int .u64 (s.us:Int):=hx 1 12 rfl rfl;have h2:a.eval (.tmp 13) = .int .i64 (n:Int):=hx 2 13 rfl rfl;have h3:a.eval (.tmp 14) = .int .u64 (pw n:Int):=hx 3 14 rfl rfl;have h4:a.eval (.tmp 15) = .int .u64 ((Ax s.us n:Nat):Int):=hx 4 15 rfl rfl;have h5:a.eval (.tmp 16) = .pointer (some ⟨gs,1,none⟩):=hx 5 16 rfl rfl;unfold AA;simp only[List.foldl_cons,List.foldl_nil,h0,h1,h2,h3,h4,h5,Act.put,List.setIfInBounds_toArray,List.set_cons_zero,List.set_cons_succ];clear h0 h1 h2 h3 h4 h5 hx;have HSV:=hid (A5 hb HSa.out);have HBV:=hid (A8 HBa.out hb);have HRV:=hid (A5 hb HRa.out);clear hb HSa HBa HRa;refine wpAny_ready (rs:=[6]) (by kernel_rfl) (by simp) (AllReady.cons (o:=⟨none,_,_,_,_,_⟩) rfl (fun K hK=>?_) AllReady.nil);have c0:=A4 HSV.out 1 _ (EW _);have f0:=An HSV.out 1;have hl:=Af HSV.out;go_simp;clear c0 f0 hl;refine AY ?_;intro VZ hVZ;have ho:Ag gs V VZ:=by rw[hVZ];exact(Ag.refl gs V).setCell rfl _
   have HSb:Hid (VZ.heap[gs]?=some (.cells (Ai { s with lk:=Ax s.lk n,us:=Ax s.us n }).toArray 65)):=hid (by rw[hVZ];exact(AH HSV.out 1 _).trans (congrArg (fun C=>some (Obj.cells C 65)) (Kh _ _)));have HBb:Hid (Below w.heap.size w VZ):=hid (Ag.below HBV.out HG.out.1 HBV.out.size ho);have HRb:=hid (Ag.keep ho HG.out.2 HRV.out);clear hVZ ho HSV HBV HRV;refine hK _ _ ?_;clear hK K;refine wpAny_done (by kernel_rfl) ?_ _;go_upto_region 3 with fail
   obtain⟨W5,hW5⟩:∃ W',W'=VZ:=⟨_,rfl⟩;rw[← hW5] at HSb HBb HRb ⊢;clear hW5;refine Ah (by kernel_rfl) [6] 9 [0,1,2,3,4,5] [17,18,19,20,21,22] #[true,true,true,true,true,true,false] 1 [(fun v _=>v = .pointer (some ⟨gs,2,none⟩)),(fun v _=>v = .int .u64 (s.ca:Int)),(fun v _=>v = .int .i64 (n:Int)),(fun v _=>v = .int .u64 (pw n:Int)),(fun v _=>v = .int .u64 ((Ax s.ca n:Nat):Int)),(fun v _=>v = .pointer (some ⟨gs,2,none⟩)),(fun _ _=>True)] (by kernel_rfl) (by kernel_rfl) (by kernel_rfl) (by kernel_rfl) (by kernel_rfl) rfl (by kernel_rfl) rfl ?_ ?_ ?_
   ·exact⟨A7 _,A7 _,A7 _,A7 _,A7 _,A7 _,Al,trivial⟩
   ·refine⟨?_,?_,?_,?_,?_,?_,trivial⟩
    ·refine A6 (o:=⟨some 17,_,_,_,_,_⟩) rfl (fun r V hc hf hg hs hb hd=>?_);have x2:r (.tmp 2) = .pointer (some ⟨gs,0,none⟩):=hs 2 (by kernel_rfl);clear hs hd hg;go_simp;exact⟨Below.refl _ _,rfl⟩
    ·refine A6 (o:=⟨some 18,_,_,_,_,_⟩) rfl (fun r V hc hf hg hs hb hd=>?_);have h0:r (.tmp 17) = .pointer (some ⟨gs,2,none⟩):=hd 0 17 rfl (by kernel_rfl);clear hs hd hg;have l:=A4 (A5 hb HSb.out) 2 _ (Ds _);go_simp;exact⟨Below.refl _ _,rfl⟩
    ·refine A6 (o:=⟨some 19,_,_,_,_,_⟩) rfl (fun r V hc hf hg hs hb hd=>?_);have x1:r (.tmp 1) = .int .i64 (n:Int):=hs 1 (by kernel_rfl);clear hs hd hg;go_simp;exact⟨Below.refl _ _,rfl⟩
    ·refine A6 (o:=⟨some 20,_,_,_,_,_⟩) rfl (fun r V hc hf hg hs hb hd=>?_);have h2:r (.tmp 19) = .int .i64 (n:Int):=hd 2 19 rfl (by kernel_rfl);clear hs hd hg;have h63:=HN63.out;have h0:(0:Int)≤n:=by omega
     have h1:min n 64=n:=by omega
     have h2:¬ (64:Int)≤n:=by omega
     have hs1:=Be n h63;go_simp;exact⟨Below.refl _ _,by simp⟩
    ·refine A6 (o:=⟨some 21,_,_,_,_,_⟩) rfl (fun r V hc hf hg hs hb hd=>?_);have h1:r (.tmp 18) = .int .u64 (s.ca:Int):=hd 1 18 rfl (by kernel_rfl);have h3:r (.tmp 20) = .int .u64 (pw n:Int):=hd 3 20 rfl (by kernel_rfl);clear hs hd hg;have ho1:=CW s.ca n HN63.out HSO.out.ca;go_simp;exact⟨Below.refl _ _,rfl⟩
    ·refine A6 (o:=⟨some 22,_,_,_,_,_⟩) rfl (fun r V hc hf hg hs hb hd=>?_);have x2:r (.tmp 2) = .pointer (some ⟨gs,0,none⟩):=hs 2 (by kernel_rfl);clear hs hd hg;go_simp;exact⟨Below.refl _ _,rfl⟩
   ·intro a V hb hx;have h0:a.eval (.tmp 17) = .pointer (some ⟨gs,2,none⟩):=hx 0 17 rfl rfl;have h1:a.eval (.tmp 18) = .int .u64 (s.ca:Int):=hx 1 18 rfl rfl;have h2:a.eval (.tmp 19) = .int .i64 (n:Int):=hx 2 19 rfl rfl;have h3:a.eval (.tmp 20) = .int .u64 (pw n:Int):=hx 3 20 rfl rfl;have h4:a.eval (.tmp 21) = .int .u64 ((Ax s.ca n:Nat):Int):=hx 4 21 rfl rfl;have h5:a.eval (.tmp 22) = .pointer (some ⟨gs,2,none⟩):=hx 5 22 rfl rfl;unfold AA;simp only[List.foldl_cons,List.foldl_nil,h0,h1,h2,h3,h4,h5,Act.put,List.setIfInBounds_toArray,List.set_cons_zero,List.set_cons_succ];clear h0 h1 h2 h3 h4 h5 hx;have HSV:=hid (A5 hb HSb.out);have HBV:=hid (A8 HBb.out hb);have HRV:=hid (A5 hb HRb.out);clear hb HSb HBb HRb;refine wpAny_ready (rs:=[6]) (by kernel_rfl) (by simp) (AllReady.cons (o:=⟨none,_,_,_,_,_⟩) rfl (fun K hK=>?_) AllReady.nil);have c0:=A4 HSV.out 2 _ (Ds _);have f0:=An HSV.out 2;have hl:=Af HSV.out;go_simp;clear c0 f0 hl;refine AY ?_;intro VZ hVZ;have ho:Ag gs V VZ:=by rw[hVZ];exact(Ag.refl gs V).setCell rfl _
    have HSc:Hid (VZ.heap[gs]?=some (.cells (Ai { s with lk:=Ax s.lk n,us:=Ax s.us n,ca:=Ax s.ca n }).toArray 65)):=hid (by rw[hVZ];exact(AH HSV.out 2 _).trans (congrArg (fun C=>some (Obj.cells C 65)) (Iy _ _)));have HBc:Hid (Below w.heap.size w VZ):=hid (Ag.below HBV.out HG.out.1 HBV.out.size ho);have HRc:=hid (Ag.keep ho HG.out.2 HRV.out);clear hVZ ho HSV HBV HRV;refine hK _ _ ?_;clear hK K;refine wpAny_done (by kernel_rfl) ?_ _;obtain⟨V3,hV3⟩:∃ W',W'=VZ:=⟨_,rfl⟩;rw[← hV3] at HSc HBc HRc ⊢;clear hV3;have hs4:=HSc.out;have l3:=A4 hs4 (3+n) _ (DC _ HN64.out);have f3:=An hs4 (3+n);have hl:=Af hs4;have d2:(0:Int)≤n:=by omega
    have d3:(n:Int)<64:=by have:=HN64.out;omega
    go_upto_region 5 with fail
    clear l3 f3 hl d2 d3;refine BP ?_;intro WZ hWZ;have ho:Ag gs V3 WZ:=by rw[hWZ];exact(Ag.refl gs V3).setCell rfl _
    have HS9:Hid (WZ.heap[gs]?=some (.cells (Ai (BI s n)).toArray 65)):=hid (by rw[hWZ];exact(AH hs4 (3+n) _).trans (congrArg (fun C=>some (Obj.cells C 65)) ((Es _ 0 HN64.out).trans (by rw[JJ]))));have HBE:Hid (Below w.heap.size w WZ):=hid (Ag.below HBc.out HG.out.1 HBc.out.size ho);have HR9:=hid (Ag.keep ho HG.out.2 HRc.out);clear hWZ ho hs4;have HLD:=hid (Az HS9.out);obtain⟨hst,hq9,ho9⟩:=AN (s':=(BI s n)) HR9.out;have HST:=hid hst;have HQ9:=hid hq9;have HB9:Hid (Below w.heap.size w (WZ.setCells gr 0 (Ai (BI s n)))):=hid (Ag.below HBE.out HGR.out HBE.out.size ho9);clear hst hq9 ho9;go_wp2_with (first
     | ((with_reducible refine Aj (op:=⟨some 26,_,_,_,_,_⟩) rfl 65 _ rfl _ _ ?_ HLD.out ?_);(· rfl))
     | ((with_reducible refine Am (op:=⟨none,.store 65 _ _,_,_,_,_⟩) rfl 65 _ _ rfl _ _ ?_ ?_ _ HST.out ?_);(· rfl);(· rfl)))
    (try simp only[Exit.inBlock,Exit.then])
    refine bodyPost_ret (results_cell_row (g:=gr) rfl _ _ 65 (Ai (BI s n)).toArray (0,0) _ rfl HQ9.out Tryz.underlying65 rfl (by rw[List.size_toArray,AU];exact Bd)) rfl ?_;exact⟨rfl,HB9.out⟩
end Go.Proofs.YtpohoannggdbjaaGreat
namespace Go.Proofs.YtpohoannggdbjaaGreat
open Lib (hid)
open Go.RowKit
set_option maxRecDepth 100000
theorem Gf(L:AM)(i:Nat)(x:Rt):(CQ L i x).nd=x.nd:=rfl
theorem Qt(L:AM)(i:Nat)(x:Rt):(CQ L i x).fi=x.pa.l.headD 0:=rfl
theorem Ho(oc:Nat)(L:AM)(i:Nat)(x:Rt):Bi oc (CQ L i x) = !x.tr.any (fun k=>Aa oc k.toNat):=rfl
def DB(s:St):Nat:=(s.lk &&& (18446744073709551615 - s.us)) &&& (18446744073709551615 - s.ca)
theorem Pz{s:St}(h:s.ok):bits .andNot .u64 (s.lk:Int) (s.us:Int)=((s.lk &&& (18446744073709551615 - s.us):Nat):Int):=u64_andNot_nat _ _ h.lk h.us
theorem PC{s:St}(h:s.ok):bits .andNot .u64 ((s.lk &&& (18446744073709551615 - s.us):Nat):Int) (s.ca:Int)=((DB s:Nat):Int):=u64_andNot_nat _ _ (Nat.lt_of_le_of_lt Nat.and_le_left h.lk) h.ca
theorem Nf{s:St}(h:s.ok):DB s<18446744073709551616:=Nat.lt_of_le_of_lt Nat.and_le_left (Nat.lt_of_le_of_lt Nat.and_le_left h.lk)
theorem Hm{x i:Nat}(hx:x<18446744073709551616)(hi:i<64):(18446744073709551615 - x).testBit i = !x.testBit i:=by
 have h:=Nat.testBit_two_pow_sub_succ (n:=64) (x:=x) hx i;rw[show(2 ^ 64 - (x+1):Nat)=18446744073709551615 - x by omega] at h;rw[h];simp[hi]
theorem JX{s:St}(h:s.ok){n:Nat}(hn:n≤63):Aa (DB s) n=AT s n:=by
 unfold DB AT;rw[AX,AX,AX,AX,Nat.testBit_and,Nat.testBit_and,Hm h.us (by omega),Hm h.ca (by omega),Bool.and_assoc]
attribute [local irreducible] Sl.v Aa pw Ab Ax C4 Ai BG Cs Bi Bf B7 Cr BO AT Bk Bw BD Bh Bg BQ Bj BI BC BM AD AS AR Bc BB Bq CT Mc.tb BU AQ Aq AW
attribute [local irreducible] B6 CQ Bs BN Rt.tr Rt.nd Aw BS As
attribute [local irreducible] DB
set_option maxHeartbeats 8000000 in
theorem JO(b:Bool)(L:AM)(s:St)(p:Nat)(w:World)(hL:B5 w L)(hc:(Aq L).1=0)(hs:s.ok)(hb:BD (B6 L) s p L.rt.l.length=b) :
 Calls Tryz.prog 76 #[.agg #[L.se.v,L.po.v,L.sg.v,L.rt.v],.agg (Ai s).toArray,.int .i64 (p:Int)] w fun e w'=>e = .returned (.bool b)∧Below w.heap.size w w':=by
 have HMAY:Hid (AQ L=true):=hid (AP hc);have HS4:Hid (L.rt.l.length≤64):=hid (Ay (AP hc)).2.2.2;have HCK:=hid hc;obtain⟨n1,hn1⟩:∃ n,L.se.l.length=n:=⟨_,rfl⟩;obtain⟨n2,hn2⟩:∃ n,L.po.l.length=n:=⟨_,rfl⟩;obtain⟨n3,hn3⟩:∃ n,L.sg.l.length=n:=⟨_,rfl⟩;obtain⟨n4,hn4⟩:∃ n,L.rt.l.length=n:=⟨_,rfl⟩;have HLW:=hid hL;have HN1:=hid hn1;have HN2:=hid hn2;have HN3:=hid hn3;have HN4:=hid hn4;have HSO:=hid hs;have HZ:=hid hb;rw[hn4] at HS4 HZ;rw[Ak hn1,Ak hn2,Ak hn3,Ak hn4];clear hn1 hn2 hn3 hn4 hL hc hs hb;go_enter Tryz.func76,Tryz.ntmps76;go_upto_region 1 with fail
 refine Ap (os:=[.cells #[.slice L.se.a n1 L.se.c,.slice L.po.a n2 L.po.c,.slice L.sg.a n3 L.sg.c,.slice L.rt.a n4 L.rt.c] 27,.cells (Ai s).toArray 65]) (w0:=w) rfl ?_;intro W hat hbw;obtain⟨gl,hgl⟩:∃ g,g=w.heap.size:=⟨_,rfl⟩;have q0:=hat 0 _ rfl;obtain⟨gs,hgs⟩:∃ g,g=gl+1:=⟨_,rfl⟩;have q1:=hat 1 _ rfl;rw[Nat.add_zero,← hgl] at q0;rw[← hgl,← hgs] at q1;rw[← hgl,← hgs];have HQl:=hid q0;have HQs:=hid q1;have HB0:=hid hbw;clear hat hbw q0 q1 hgl hgs;go_upto_region 2 with fail
 go_loopg [7] n4 (fun g v wr=>∃ i:Nat,i+g=n4∧v = .int .i64 (i:Int)∧BD (B6 L) s p i=false∧Below W.heap.size W wr)
 case atStart=>exact⟨0,by omega,rfl,J3 _ _ _,Below.refl _ _⟩
 case round=>
  obtain⟨i,hi,rfl,ho,hbw⟩:=hrel;have HI:=hid hi;have HF:=hid ho;have HB:=hid hbw;have l3:=A4 (A5 hbw HQl.out) 3 _ rfl;clear hi ho hbw;by_cases hlt:i<n4
  ·have d1:(0:Int)≤i:=by omega
   have d2:(i:Int)<n4:=by omega
   have e1:=Bp hlt (Nat.le_trans HS4.out (by decide));have HLT:=hid hlt;rcases HLW.out.rt.row with hnil | ⟨xb,off,hxb,hc0⟩
   ·have:=HN4.out;rw[hnil] at this;simp at this;omega
   have hc:=fun i c hi j v hv=>cell_later (A8 HB0.out HB.out) (hc0 i c hi j v hv)
   obtain⟨x,hyx⟩:∃ y,L.rt.l[i]?=some y:=⟨_,List.getElem?_eq_getElem (by rw[HN4.out];exact hlt)⟩;have z0:=hc i _ hyx 0 _ rfl;have z1:=hc i _ hyx 1 _ rfl;have z2:=hc i _ hyx 2 _ rfl;have z3:=hc i _ hyx 3 _ rfl;have z4:=hc i _ hyx 4 _ rfl;have z5:=hc i _ hyx 5 _ rfl;rw[Nat.add_zero] at z0;obtain⟨p1,hp1⟩:∃ n,x.pa.l.length=n:=⟨_,rfl⟩;obtain⟨p2,hp2⟩:∃ n,x.po.l.length=n:=⟨_,rfl⟩;obtain⟨p3,hp3⟩:∃ n,x.ov.l.length=n:=⟨_,rfl⟩;obtain⟨p4,hp4⟩:∃ n,x.fl.l.length=n:=⟨_,rfl⟩;rw[Ak hp1] at z2;rw[Ak hp2] at z3;rw[Ak hp3] at z4;rw[Ak hp4] at z5;have HZX:=hid (And.intro z0 (And.intro z1 (And.intro z2 (And.intro z3 (And.intro z4 z5)))));clear z0 z1 z2 z3 z4 z5;obtain⟨X,hX⟩:∃ x,L.rt.a=x:=⟨_,rfl⟩;have HXX:=hid hX;rw[hX] at hxb l3 ⊢;subst hxb;have hxm:=List.mem_of_getElem? hyx;have HYX:=hid hyx;have KND:Hid (∀ V,Below wr.heap.size wr V→Calls Tryz.prog 70 #[.agg #[.string x.nm,.int .i64 x.sg,x.pa.v,x.po.v,x.ov.v,x.fl.v]] V fun e w'=>∃ a n c,e = .returned (.slice a n c)∧n=x.nd.length∧B8 2 Cz w' ⟨a,c,x.nd⟩∧Below V.heap.size V w'):=hid (fun V hV=>by
    have ok:=Bn HMAY.out x hxm;have h:=Dr x V ((HLW.out.rn x hxm).below (A8 (A8 HB0.out HB.out) hV)) (by have:=ok.po;have:=ok.fl;omega);unfold Rt.nd;rw[List.length_append];exact h)
   have HNL:Hid (x.nd.length≤100000):=hid (by have ok:=Bn HMAY.out x hxm;have:=ok.po;have:=ok.fl;unfold Rt.nd;rw[List.length_append];omega);have HNB:Hid (∀ n∈x.nd,0≤n.1∧n.1≤31):=hid (fun n hn=>by have h:=Lv HMAY.out x hxm n hn;have:=(Ay HMAY.out).2.1;omega);rw[Ak hp1,Ak hp2,Ak hp3,Ak hp4] at KND;obtain⟨z0,z1,z2,z3,z4,z5⟩:=HZX.out;clear hc hc0 hyx hxm hp1 hp2 hp3 hp4 hX hlt;obtain⟨bl,hbl⟩:∃ b,Aa s.lk i=b:=⟨_,rfl⟩;have KHS:Hid (∀ V,Calls Tryz.prog 43 #[.int .u64 (s.lk:Int),.int .i64 (i:Int)] V fun e w'=>e = .returned (.bool bl)∧Below V.heap.size V w'):=hid (fun V=>Ct bl s.lk i V (by have:=HLT.out;have:=HS4.out;omega) HSO.out.lk hbl);have HBL:=hid hbl;clear hbl;go_wp2_with fail;refine(KND.out _ (Below.refl _ _)).mono ?_;rintro e wn ⟨ta,tn,tc,rfl,htn,hT,hb1⟩;have HT:=hid hT.row;have HTN:=hid htn;have htm:tn≤100000:=by rw[htn];exact HNL.out
   have HTM:=hid htm;have HBN:=hid (A8 HB.out hb1);clear z0 z1 z2 z3 z4 z5 l3 htn hT hb1 htm;go_upto_region 6 with fail
   go_loopg [9] tn (fun g v wq=>∃ k:Nat,k+g=tn∧v = .int .i64 (k:Int)∧(bl && (x.nd.take k).any (fun n=>n.1 ==(p:Int)))=false∧Below wn.heap.size wn wq)
   case atStart=>exact⟨0,by omega,rfl,by rw[List.take_zero];cases bl<;>rfl,Below.refl _ _⟩
   case round=>
    obtain⟨k,hk,rfl,ho,hbw⟩:=hrel;have HK:=hid hk;have HF2:=hid ho;have HBQ:=hid hbw;clear hk ho hbw;by_cases hlk:k<tn
    ·skip
     have d3:(0:Int)≤k:=by omega
     have d4:(k:Int)<tn:=by omega
     have e2:=Bp hlk (Nat.le_trans HTM.out (by decide));have HLK:=hid hlk;obtain⟨⟨sj,B⟩,hs⟩:∃ s,x.nd[k]?=some s:=⟨_,List.getElem?_eq_getElem (by have:=HTN.out;omega)⟩;have hsb:=HNB.out _ (List.mem_of_getElem? hs);dsimp only at hsb;obtain⟨j,rfl⟩:∃ j:Nat,sj=j:=⟨sj.toNat,by omega⟩;have HJ31:Hid (j≤31):=hid (by omega);obtain⟨A,hA⟩:∃ x,ta=x:=⟨_,rfl⟩;have HAA:=hid hA;have hrow:=HT.out;rw[hA] at hrow ⊢;rcases hrow with hnil | ⟨tb,toff,htb,ht0⟩
     ·have:=HTN.out;rw[hnil] at this;simp at this;omega
     subst htb;have t0:=cell_later HBQ.out (ht0 k _ hs 0 (.int .i64 (j:Int)) rfl);have t1:=cell_later HBQ.out (ht0 k _ hs 1 (.bool B) rfl);rw[Nat.add_zero] at t0;have HSK:=hid hs;clear ht0 hs hsb hlk hA;have s0:=A4 (A5 (A8 HBN.out HBQ.out) HQs.out) 0 _ (Dl s);go_wp2_with fail;refine(KHS.out _).mono ?_;rintro e w9 ⟨rfl,hb9⟩;have HB9:=hid (A8 HBQ.out hb9);have t0':=cell_later hb9 t0;clear t0 t1 s0 hb9;cases bl with
     | false=>
       go_wp2_with fail;rw[← HAA.out];go_roundg (tn - (k+1))
       case rel=>exact⟨k+1,AK HK.out HLK.out,by go_num,rfl,HB9.out⟩
       case measure=>exact AL HK.out HLK.out
     | true=>
       obtain⟨D,hD⟩:∃ D,((j:Int) ==(p:Int))=D:=⟨_,rfl⟩;have HD:Hid ((fun n:Int × Bool=>n.1 ==(p:Int)) ((j:Int),B)=D):=hid hD;have HF3:Hid ((x.nd.take k).any (fun n=>n.1 ==(p:Int))=false):=hid (by have:=HF2.out;rw[Bool.true_and] at this;exact this);cases D with
       | true=>
         have HTT:Hid (b=true):=hid (HZ.out.symm.trans (II (k:=i+1) (by rw[FA (Dn HYX.out),HBL.out,Gf,F7 HSK.out HD.out];simp) n4 HLT.out));go_wp2_with fail;go_ret;exact⟨by rw[HTT.out];rfl,A8 HB0.out (A8 HBN.out HB9.out)⟩
       | false=>
         have HN:Hid ((true && (x.nd.take (k+1)).any (fun n=>n.1 ==(p:Int)))=false):=hid (by rw[Bool.true_and];exact Fe HSK.out HF3.out HD.out);go_wp2_with fail;rw[← HAA.out];go_roundg (tn - (k+1))
         case rel=>exact⟨k+1,AK HK.out HLK.out,by go_num,HN.out,HB9.out⟩
         case measure=>exact AL HK.out HLK.out
    ·have d4:¬ ((k:Int)<tn):=by omega
     have HN:Hid (BD (B6 L) s p (i+1)=false):=hid (by
      have h:=HF2.out;rw[List.take_of_length_le (by have:=HTN.out;omega)] at h;rw[FA (Dn HYX.out),HF.out,HBL.out,Gf,h];rfl)
     go_wp2_with fail;rw[← HXX.out];go_roundg (n4 - (i+1))
     case rel=>exact⟨i+1,AK HI.out HLT.out,by go_num,HN.out,A8 HBN.out HBQ.out⟩
     case measure=>exact AL HI.out HLT.out
  ·have d2:¬ ((i:Int)<n4):=by omega
   have HTT:Hid (b=false):=hid (by have h:=HZ.out;rw[show n4=i by have:=HI.out;omega,HF.out] at h;exact h.symm);go_wp2_with fail;go_ret;exact⟨by rw[HTT.out];rfl,A8 HB0.out HB.out⟩
end Go.Proofs.YtpohoannggdbjaaGreat
