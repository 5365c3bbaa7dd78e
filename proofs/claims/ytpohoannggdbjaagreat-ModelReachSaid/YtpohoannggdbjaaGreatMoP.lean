/- Layer 28: the document's 'in'; what was shown. -/
import Derived.Test.YtpohoannggdbjaaGreatMoM
import Derived.Test.YtpohoannggdbjaaGreatMoN
set_option maxRecDepth 100000
set_option maxHeartbeats 200000000
namespace Go.Proofs.YtpohoannggdbjaaGreat
open Lib (hid)
open Go.RowKit
theorem E8{w:World}{b off:Nat}{l:List St}{i:Nat}{s:St}(h:∀ i c,l[i]?=some c→∀ j v,(Af c)[j]?=some v→w.cell? ⟨b,off+i*68+j,none⟩=some v)(hi:l[i]?=some s):(Instr.loadAt 65 (.pointer (some ⟨b,off+i*68,none⟩))).run Tryz.prog w = .ok (.agg (Af s).toArray) w:=
 run_loadAt_mid w b (off+i*68) 65 (Af s) _ (fun j v hv=>h i s hi j v hv) Tryz.underlying65 rfl (by rw[AS];exact Bf)
theorem EX{w w':World}{b off:Nat}{l:List St}(h:∀ i c,l[i]?=some c→∀ j v,(Af c)[j]?=some v→w.cell? ⟨b,off+i*68+j,none⟩=some v)(hb:Below w.heap.size w w'):∀ i c,l[i]?=some c→∀ j v,(Af c)[j]?=some v→w'.cell? ⟨b,off+i*68+j,none⟩=some v:=fun i c hi j v hv=>VY hb (h i c hi j v hv)
theorem J6(s t:St)(w:World):(binOp .eql 65 (.agg (Af s).toArray) (.agg (Af t).toArray)).run Tryz.prog w = .ok (.bool (C4 s t)) w:=To s t w
theorem F7{α:Type}{l:List α}{f:α→Bool}{k:Nat}{x:α}(h:l[k]?=some x):(l.take (k+1)).any f=((l.take k).any f || f x):=by
 rw[Wp,h,List.any_append];show _=((l.take k).any f || f x)
 congr 1
 show(f x || false)=f x;rw[Bool.or_false]
theorem L5{α:Type}{l:List α}{f:α→Bool}{k:Nat}{x:α}(h:l[k]?=some x)(hf:f x=true):l.any f=true:=WF.2 ⟨x,Wf h,hf⟩
theorem Nv:(Tryz.prog.info? 89).map (fun i=>(i.zero,i.size,i.bytes))=some (some (.agg #[.bool false,.int .u64 0,.int .u32 0]),3,24):=by kernel_rfl
theorem JH{w:World}{g:Nat}{y:Sh}{t:TypeId}{fr:Nat × Nat}(h:w.heap[g]?=some (.cells #[.bool y.st,.int .u64 (y.p:Int),.int .u32 (y.q:Int)] t fr)):C1 w (some ⟨g,0,none⟩) 1 (Cx y):=F1 h rfl (by intro u hu;unfold Cx at hu;simp at hu;rcases hu with rfl | rfl | rfl<;>rfl)
theorem Nm{α:Type}{f:α→List Value}{l:List α}{i:Nat}{x:α}(h:l[i]?=some x):(l.take (i+1)).flatMap f=(l.take i).flatMap f ++ f x:=by
 rw[Wp,h,WA];show _ ++ (f x ++ [])=_;rw[Wt]
attribute [local irreducible] Sl.v Aa pw Ab Aw C8 Af BC CD Bi Bg B9 CB BQ AU Bp BB BG Bh Bd BP Bo BL BF BN AI AY AV Be Bw Bq C4 Mc.tb BZ AX Ap B5
attribute [local irreducible] Bs BV C6 BS Ay AN
attribute [local irreducible] AW CY Bt BO zS FL BX FN FM D8
theorem RY(b:Bool)(a:Option Addr)(n c:Nat)(K:List St)(s:St)(w:World)(hK:As 68 Af w a K)(hn:K.length=n)(h4:n≤100000)(hb:K.any (fun t=>C4 t s)=b) :
 Calls Tryz.prog 26 #[.slice a n c,.agg (Af s).toArray] w fun e w'=>e = .returned (.bool b)∧Below w.heap.size w w':=by
 have HKR:=hid hK;have HKN:=hid hn;have HN4:=hid h4;have HBB:=hid hb;clear hK hn h4 hb;go_enter Tryz.func26,Tryz.ntmps26;go_upto_region 1 with fail
 refine Ao (os:=[.cells (Af s).toArray 65]) (w0:=w) rfl ?_;intro W hat hbw;obtain⟨gs,hgs⟩:=X0 w.heap.size;have q0:=hat 0 _ rfl;rw[Wa,← hgs] at q0;rw[← hgs];have HQs:=hid q0;have HB0:=hid hbw;clear hat hbw q0 hgs;go_upto_region 2 with fail
 go_loopg [5] n (fun g v wr=>∃ i:Nat,i+g=n∧v = .int .i64 (i:Int)∧(K.take i).any (fun t=>C4 t s)=false∧Below W.heap.size W wr)
 case atStart=>exact⟨0,by omega,rfl,rfl,VU _ _⟩
 case round=>
  obtain⟨i,hi,rfl,han,hbw⟩:=hrel;have HI:=hid hi;have HAN:=hid han;have HB:=hid hbw;have HBr:=hid (A6 HB0.o hbw);clear hi han hbw;by_cases hlt:i<n
  ·skip
   have d1:(0:Int)≤i:=(by omega);have d2:(i:Int)<n:=(by omega);have e1:=B8 hlt (Wd HN4.o (by decide));have HLT:=hid hlt;obtain⟨t,hti⟩:∃ t,K[i]?=some t:=⟨_,Wb (by rw[HKN.o];exact hlt)⟩;have HTI:=hid hti;rcases HKR.o with hnil | ⟨rb,ro,hra,hc⟩
   ·rw[hnil] at hti;cases hti
   subst hra;have HRC:=hid hc;obtain⟨bt,hbt⟩:=WY (C4 t s);have heq:=fun w=>(J6 t s w).trans (by rw[hbt])
   have HBT:=hid hbt;clear hlt hti hc hbt;go_upto_region 4 with fail
   refine Ad (by kernel_rfl) ?_ ?_
   ·kernel_rfl
   repeat first
    | go_big_quiet_skip
    | (go_big_quiet_want
       with_reducible refine Ae (o:=⟨some 15,_,_,_,_,_⟩) 65 _ rfl _ _ ?_ (fun w' hw'=>E8 (EX HRC.o (A6 HB0.o (A6 HB.o hw'))) HTI.o) ?_
       ·rfl
       simp only[Act.put,VW,VX,VV];go_big_quiet_on)
    | (go_big_quiet_want
       with_reducible refine Ae (o:=⟨some 16,_,_,_,_,_⟩) 65 _ rfl _ _ ?_ (fun w' hw'=>Au (A5 (A6 HB.o hw') HQs.o)) ?_
       ·rfl
       simp only[Act.put,VW,VX,VV];go_big_quiet_on)
    | (go_big_quiet_want;go_big_quiet_op;go_big_quiet_on)
    | (with_reducible apply wpQuiet_step
       intro K hK;go_simp;first
        | (refine hK _ ?_;clear hK K)
        | (apply Exists.intro
           refine⟨fun w' hw'=>?_,hK _ ?_⟩
           ·
            (first
             | (skip
                go_simp;first | done | with_reducible exact rfl | with_reducible exact⟨rfl,rfl⟩))
           clear hK K))
   refine wpQuiet_nil ?_;intro w7 hw7;have HB7:=hid (A6 HBr.o hw7);have HBW7:=hid (A6 HB.o hw7);clear hw7;clear heq d1 d2;cases bt with
   | true=>
     have hbb:true=b:=(by rw[← HBB.o];exact(L5 HTI.o HBT.o).symm);subst hbb;go_wp2_with fail;go_ret;exact⟨rfl,HB7.o⟩
   | false=>
     go_wp2_with fail;go_roundg (n - (i+1))
     case rel=>exact⟨i+1,AA HI.o HLT.o,by go_num,by rw[F7 HTI.o,HAN.o,HBT.o];rfl,HBW7.o⟩
     case measure=>exact Az HI.o HLT.o
  ·have d2:¬ ((i:Int)<(n:Int)):=(by omega);have hbb:false=b:=by
    have hin:i=n:=(by have:=HI.o;omega);have h:=HAN.o;rw[hin,← HKN.o,List.take_length,HBB.o] at h;exact h.symm
   subst hbb;clear hlt;go_wp2_with fail;go_ret;exact⟨rfl,HBr.o⟩
theorem RZ(sa:Option Addr)(n sc:Nat)(Y:List Sh)(w:World)(hY:As 3 Cx w sa Y)(hyn:Y.length=n)(h4:n≤1000) :
 Calls Tryz.prog 14 #[.slice sa n sc] w fun e w'=>∃ v,e = .returned v∧w'.ownsRow w.heap.size 89 3 v n (Y.flatMap Cx)∧Below w.heap.size w w':=by
 have HYR:=hid hY;have HYN:=hid hyn;have HN4:=hid h4;obtain⟨i0,hi,hz0,hz1,hz2⟩:=info_parts Nv;have HIF:=hid (And.intro hi (And.intro hz0 (And.intro hz1 hz2)));clear hY hyn h4 hi hz0 hz1 hz2;go_enter Tryz.func14,Tryz.ntmps14;go_upto_region 3 with fail
 go_loopg [3,4] n (fun g sv v wr=>∃ i:Nat,i+g=n∧v = .int .i64 (i:Int)∧wr.ownsRow w.heap.size 89 3 sv i ((Y.take i).flatMap Cx)∧Below w.heap.size w wr)
 case atStart=>exact⟨0,by omega,rfl,Wz _ _ _ _,VU _ _⟩
 case round=>
  obtain⟨i,hi,rfl,hown,hbw⟩:=hrel;obtain⟨sv,rfl⟩:=X0 u3;have HI:=hid hi;have HOWN:=hid hown;have HB:=hid hbw;clear hi hown hbw;by_cases hlt:i<n
  ·skip
   have d1:(0:Int)≤i:=(by omega);have d2:(i:Int)<n:=(by omega);have e1:=B8 hlt (Wd HN4.o (by decide));have HLT:=hid hlt;have HD:=hid (And.intro d1 d2);obtain⟨y,hyi⟩:∃ y,Y[i]?=some y:=⟨_,Wb (by rw[HYN.o];exact hlt)⟩;have HYI:=hid hyi;rcases HYR.o with hnil | ⟨sb,so,hsa,hc⟩
   ·rw[hnil] at hyi;cases hyi
   subst hsa;have z0:=VY HB.o (hc i _ hyi 0 _ rfl);have z1:=VY HB.o (hc i _ hyi 1 _ rfl);have z2:=VY HB.o (hc i _ hyi 2 _ rfl);rw[Wa] at z0;have HZY:=hid (And.intro z0 (And.intro z1 z2));clear hlt hyi hc z0 z1 z2;go_upto_region 5 with fail
   clear d1 d2;refine Am (by kernel_rfl) [13,14] 17 [0,1,2,3,4,5,6,7,8,9,10,11,12] [11,12,13,14,15,16,17,18,19,20,21,22,23] #[true,true,true,true,true,true,true,true,true,true,true,true,true,false,false] 2 [(fun v _=>v=sv),(fun v _=>v = .slice (some ⟨sb,so,none⟩) n sc),(fun v _=>v = .int .i64 (i:Int)),(fun v _=>v = .pointer (some ⟨sb,so+i*3,none⟩)),(fun v _=>v = .pointer (some ⟨sb,so+i*3,none⟩)),(fun v _=>v = .bool y.st),(fun v _=>v = .slice (some ⟨sb,so,none⟩) n sc),(fun v _=>v = .int .i64 (i:Int)),(fun v _=>v = .pointer (some ⟨sb,so+i*3,none⟩)),(fun v _=>v = .pointer (some ⟨sb,so+i*3+1,none⟩)),(fun v _=>v = .agg #[.int .u64 (y.p:Int),.int .u32 (y.q:Int)]),(fun v _=>v = .agg #[.bool y.st,.int .u64 (y.p:Int),.int .u32 (y.q:Int)]),(fun v V=>∃ g,v = .slice (some ⟨g,0,none⟩) 1 1∧V.heap[g]?=some (.cells #[.bool y.st,.int .u64 (y.p:Int),.int .u32 (y.q:Int)] 89)),(fun _ _=>True),(fun _ _=>True)] (by kernel_rfl) (by kernel_rfl) (by kernel_rfl) (by kernel_rfl) (by kernel_rfl) rfl (by kernel_rfl) rfl ?_ ?_ ?_
   ·exact⟨A8 _,A8 _,A8 _,A8 _,A8 _,A8 _,A8 _,A8 _,A8 _,A8 _,A8 _,A8 _,(fun v W W2 h hb=>by obtain⟨g,h1,h2⟩:=h;exact⟨g,h1,A5 hb h2⟩),An,An,trivial⟩
   ·refine⟨?_,?_,?_,?_,?_,?_,?_,?_,?_,?_,?_,?_,?_,trivial⟩
    ·refine A7 (o:=⟨some 11,_,_,_,_,_⟩) rfl (fun r V hc hf hg hs hb hd=>?_);have x3:r (.tmp 3)=sv:=hs 3 (by kernel_rfl);clear hs hd hg;go_simp;exact X1
    ·refine A7 (o:=⟨some 12,_,_,_,_,_⟩) rfl (fun r V hc hf hg hs hb hd=>?_);have x0:r (.tmp 0) = .slice (some ⟨sb,so,none⟩) n sc:=hs 0 (by kernel_rfl);clear hs hd hg;go_simp;exact X1
    ·refine A7 (o:=⟨some 13,_,_,_,_,_⟩) rfl (fun r V hc hf hg hs hb hd=>?_);have x4:r (.tmp 4) = .int .i64 (i:Int):=hs 4 (by kernel_rfl);clear hs hd hg;go_simp;exact X1
    ·refine A7 (o:=⟨some 14,_,_,_,_,_⟩) rfl (fun r V hc hf hg hs hb hd=>?_);have h1:r (.tmp 12) = .slice (some ⟨sb,so,none⟩) n sc:=hd 1 12 rfl (by kernel_rfl);have h2:r (.tmp 13) = .int .i64 (i:Int):=hd 2 13 rfl (by kernel_rfl);clear hs hd hg;have e1:=HD.o.1;have e2:=HD.o.2;go_simp;exact X1
    ·refine A7 (o:=⟨some 15,_,_,_,_,_⟩) rfl (fun r V hc hf hg hs hb hd=>?_);have h3:r (.tmp 14) = .pointer (some ⟨sb,so+i*3,none⟩):=hd 3 14 rfl (by kernel_rfl);clear hs hd hg;go_simp;exact X1
    ·refine A7 (o:=⟨some 16,_,_,_,_,_⟩) rfl (fun r V hc hf hg hs hb hd=>?_);have h4:r (.tmp 15) = .pointer (some ⟨sb,so+i*3,none⟩):=hd 4 15 rfl (by kernel_rfl);clear hs hd hg;have z0:=VY hb HZY.o.1;go_simp;exact X1
    ·refine A7 (o:=⟨some 17,_,_,_,_,_⟩) rfl (fun r V hc hf hg hs hb hd=>?_);have x0:r (.tmp 0) = .slice (some ⟨sb,so,none⟩) n sc:=hs 0 (by kernel_rfl);clear hs hd hg;go_simp;exact X1
    ·refine A7 (o:=⟨some 18,_,_,_,_,_⟩) rfl (fun r V hc hf hg hs hb hd=>?_);have x4:r (.tmp 4) = .int .i64 (i:Int):=hs 4 (by kernel_rfl);clear hs hd hg;go_simp;exact X1
    ·refine A7 (o:=⟨some 19,_,_,_,_,_⟩) rfl (fun r V hc hf hg hs hb hd=>?_);have h6:r (.tmp 17) = .slice (some ⟨sb,so,none⟩) n sc:=hd 6 17 rfl (by kernel_rfl);have h7:r (.tmp 18) = .int .i64 (i:Int):=hd 7 18 rfl (by kernel_rfl);clear hs hd hg;have e1:=HD.o.1;have e2:=HD.o.2;go_simp;exact X1
    ·refine A7 (o:=⟨some 20,_,_,_,_,_⟩) rfl (fun r V hc hf hg hs hb hd=>?_);have h8:r (.tmp 19) = .pointer (some ⟨sb,so+i*3,none⟩):=hd 8 19 rfl (by kernel_rfl);clear hs hd hg;go_simp;exact X1
    ·refine A7 (o:=⟨some 21,_,_,_,_,_⟩) rfl (fun r V hc hf hg hs hb hd=>?_);have h9:r (.tmp 20) = .pointer (some ⟨sb,so+i*3+1,none⟩):=hd 9 20 rfl (by kernel_rfl);clear hs hd hg;have z1:=VY hb HZY.o.2.1;have z2:=VY hb HZY.o.2.2;go_simp;exact X1
    ·refine A7 (o:=⟨some 22,_,_,_,_,_⟩) rfl (fun r V hc hf hg hs hb hd=>?_);have h5:r (.tmp 16) = .bool y.st:=hd 5 16 rfl (by kernel_rfl);have h10:r (.tmp 21) = .agg #[.int .u64 (y.p:Int),.int .u32 (y.q:Int)]:=hd 10 21 rfl (by kernel_rfl);clear hs hd hg;go_simp;exact X1
    ·refine A7 (o:=⟨some 23,_,_,_,_,_⟩) rfl (fun r V hc hf hg hs hb hd=>?_);have h11:r (.tmp 22) = .agg #[.bool y.st,.int .u64 (y.p:Int),.int .u32 (y.q:Int)]:=hd 11 22 rfl (by kernel_rfl);clear hs hd hg;go_simp;exact⟨Ac V _,⟨_,rfl,Al V _ (VU _ _)⟩⟩
   ·intro a V hb hx;have h0:a.eval (.tmp 11)=sv:=hx 0 11 rfl rfl;have h1:a.eval (.tmp 12) = .slice (some ⟨sb,so,none⟩) n sc:=hx 1 12 rfl rfl;have h2:a.eval (.tmp 13) = .int .i64 (i:Int):=hx 2 13 rfl rfl;have h3:a.eval (.tmp 14) = .pointer (some ⟨sb,so+i*3,none⟩):=hx 3 14 rfl rfl;have h4:a.eval (.tmp 15) = .pointer (some ⟨sb,so+i*3,none⟩):=hx 4 15 rfl rfl;have h5:a.eval (.tmp 16) = .bool y.st:=hx 5 16 rfl rfl;have h6:a.eval (.tmp 17) = .slice (some ⟨sb,so,none⟩) n sc:=hx 6 17 rfl rfl;have h7:a.eval (.tmp 18) = .int .i64 (i:Int):=hx 7 18 rfl rfl;have h8:a.eval (.tmp 19) = .pointer (some ⟨sb,so+i*3,none⟩):=hx 8 19 rfl rfl;have h9:a.eval (.tmp 20) = .pointer (some ⟨sb,so+i*3+1,none⟩):=hx 9 20 rfl rfl;have h10:a.eval (.tmp 21) = .agg #[.int .u64 (y.p:Int),.int .u32 (y.q:Int)]:=hx 10 21 rfl rfl;have h11:a.eval (.tmp 22) = .agg #[.bool y.st,.int .u64 (y.p:Int),.int .u32 (y.q:Int)]:=hx 11 22 rfl rfl;have h12:(fun v V=>∃ g,v = .slice (some ⟨g,0,none⟩) 1 1∧V.heap[g]?=some (.cells #[.bool y.st,.int .u64 (y.p:Int),.int .u32 (y.q:Int)] 89)) (a.eval (.tmp 23)) V:=hx 12 23 rfl rfl;obtain⟨v23,e23⟩:=WY (a.eval (.tmp 23));rw[e23] at h12;unfold AD;simp only[Wi,Wj,h0,h1,h2,h3,h4,h5,h6,h7,h8,h9,h10,h11,e23,Act.put,VW,VX,VV];clear h0 h1 h2 h3 h4 h5 h6 h7 h8 h9 h10 h11 e23 hx;obtain⟨gq,kq,hq⟩:=h12;subst kq;have HSRC:=hid (JH hq);have HBV:=hid hb;have HOW:=hid (WX.own (X:=fun _=>False) (WX.of_below hb) HOWN.o (fun _ _ h=>h));have HLV:Hid (w.heap.size≤V.heap.size):=hid (Wd HB.o.size hb.size);clear hb hq;refine wpAny_ready (rs:=[13]) (by kernel_rfl) (by simp) (AllReady.cons (o:=⟨some 24,_,_,_,_,_⟩) rfl (fun K hK=>?_) AllReady.nil);refine Cr (.tmp 11) (.tmp 23) 61 rfl w.heap.size 89 i0 (.agg #[.bool false,.int .u64 0,.int .u32 0]) 3 24 Tryz.underlying61 HIF.o.1 HIF.o.2.1 HIF.o.2.2.1 HIF.o.2.2.2 rfl (by decide) sv i ((Y.take i).flatMap Cx) rfl HOW.o (some ⟨gq,0,none⟩) 1 1 (Cx y) rfl rfl HSRC.o (by have:=HN4.o;have:=HLT.o;unfold maxLen;omega) (by have:=HN4.o;have:=HLT.o;omega) HLV.o ?_;intro v5 W5 hown5 hg5 hnew;rw[← Nm HYI.o] at hown5;have HO5:=hid hown5;have HB5:Hid (Below w.heap.size w W5):=hid (Below.grown (A6 HB.o HBV.o) hg5 HLV.o (fun b hb=>(HOW.o.lt b hb).1));clear hown5 hg5 hnew;refine hK _ _ ?_;clear hK K;simp only[Act.put,VW,VX,VV];refine wpAny_ready (rs:=[14]) (by kernel_rfl) (by simp) (AllReady.cons (o:=⟨some 3,_,_,_,_,_⟩) rfl (fun K hK=>?_) AllReady.nil);go_simp;refine hK _ _ ?_;clear hK K;refine wpAny_done (by kernel_rfl) ?_ _;go_wp2_with fail;go_roundg (n - (i+1))
    case rel=>exact⟨i+1,AA HI.o HLT.o,by go_num,HO5.o,HB5.o⟩
    case measure=>exact Az HI.o HLT.o
  ·have d2:¬ ((i:Int)<(n:Int)):=(by omega);have hin:i=n:=(by have:=HI.o;omega);have HF:Hid (wr.ownsRow w.heap.size 89 3 sv n (Y.flatMap Cx)):=hid (by
    have h:=HOWN.o;rw[hin,← HYN.o,List.take_length,HYN.o] at h;exact h)
   clear hlt hin;go_wp2_with fail;go_ret;exact⟨_,rfl,HF.o,HB.o⟩
end Go.Proofs.YtpohoannggdbjaaGreat
