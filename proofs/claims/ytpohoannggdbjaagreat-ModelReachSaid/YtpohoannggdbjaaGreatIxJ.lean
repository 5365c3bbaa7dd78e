/- Layer 10: Tidy. -/
import Derived.Test.YtpohoannggdbjaaGreatIxI
import Derived.Deep.WholeRow
import Derived.Deep.MidRow
import Derived.StillTailTactics
set_option maxRecDepth 100000
set_option maxHeartbeats 200000000
namespace Go.Proofs.YtpohoannggdbjaaGreat
open Lib (hid)
open Go.RowKit
theorem Ah{P:Program}{ops:Array Oper}{rest:List Oper}{op:Oper}{a:Act}{w:World}{Q:Exit→Act→World→Prop}(hgd:op.guard=none)(ty:TypeId)(x:Operand)(ho:op.op = .load ty x)(vx v:Value)(hx:a.eval x=vx)
 (hr:(Instr.loadAt ty vx).run P w = .ok v w) (h:wpList P ops Q rest (a.put op.dst v) w):wpList P ops Q (op :: rest) a w:=
 wpList_plain hgd fun K hK=>by
  unfold Oper.wp execOp;simp only[ho,hx,Sem.run_bind,hr,Result.andThen_ok,Sem.run_pure];exact hK _ _ h
theorem Ag{P:Program}{ops:Array Oper}{rest:List Oper}{op:Oper}{a:Act}{w:World}{Q:Exit→Act→World→Prop}(hgd:op.guard=none)(ty:TypeId)(x y:Operand)(ho:op.op = .store ty x y)(vx vy:Value)(hx:a.eval x=vx)(hy:a.eval y=vy)
 (w':World) (hr:(Instr.storeAt ty vx vy).run P w = .ok () w') (h:wpList P ops Q rest (a.put op.dst undef) w'):wpList P ops Q (op :: rest) a w:=
 wpList_plain hgd fun K hK=>by
  unfold Oper.wp execOp;simp only[ho,hx,hy,Sem.run_bind,hr,Result.andThen_ok,Sem.run_pure];exact hK _ _ h
def zS:St:=⟨0,0,0,fun _=>0,0⟩
theorem Bf:(Tryz.prog.info? 65).map (·.size)=some 68:=by kernel_rfl
theorem JI(s:St):∀ u∈Af s,u.oneCell'=true:=by
 intro u h;unfold Af CD at h;simp at h;rcases h with rfl | rfl | rfl | ⟨k,_,rfl⟩ | rfl<;>rfl
theorem Pv{w:World}{b:Nat}{s:St}{t:TypeId}{fr:Nat × Nat}(h:w.heap[b]?=some (.cells (Af s).toArray t fr)):w.rangeAt b 0 (Af s):=fun j v hv=>by
 rw[Wq];exact A4 h j v (by rw[WG];exact hv)
theorem PZ{w:World}{b:Nat}{s:St}{t:TypeId}(h:w.heap[b]?=some (.cells (Af s).toArray t)):w.there b 0 68:=fun j hj=>by
 rw[Wq];refine⟨?_,Aq h j⟩;rw[A4 h j _ (by rw[WG];exact Wb (by rw[AS];exact hj))];rfl
theorem Au{w:World}{b:Nat}{s:St}{t:TypeId}{fr:Nat × Nat}(h:w.heap[b]?=some (.cells (Af s).toArray t fr)):(Instr.loadAt 65 (.pointer (some ⟨b,0,none⟩))).run Tryz.prog w = .ok (.agg (Af s).toArray) w:=
 run_loadAt_mid w b 0 65 (Af s) _ (Pv h) Tryz.underlying65 rfl (by rw[AS];exact Bf)
theorem MJ{w:World}{b:Nat}{t:TypeId}{fr:Nat × Nat}:∀(vs pre old:List Value),old.length=vs.length→w.heap[b]?=some (.cells (pre ++ old).toArray t fr)→(w.setCells b pre.length vs).heap[b]?=some (.cells (pre ++ vs).toArray t fr)
 | [],pre,old,hl,h=>by
   have:old=[]:=List.length_eq_zero_iff.1 hl;subst this;exact h
 | v :: vs,pre,[],hl,h=>by cases hl
 | v :: vs,pre,o :: old,hl,h=>by
   show((w.setCell ⟨b,pre.length,none⟩ v).setCells b (pre.length+1) vs).heap[b]?=_;have h1:=AG h pre.length v;rw[VW] at h1;have h2:(pre ++ o :: old).set pre.length v=(pre ++ [v]) ++ old:=by
    rw[List.set_append,if_neg (by omega),Nat.sub_self,Wx];rfl
   rw[h2] at h1;have h3:=MJ (w:=w.setCell ⟨b,pre.length,none⟩ v) vs (pre ++ [v]) old (by simpa using hl) h1;rw[Wh] at h3;rw[Wx] at h3;exact h3
theorem AH{w:World}{b:Nat}{s s':St}{t:TypeId}(h:w.heap[b]?=some (.cells (Af s).toArray t)) :
 (Instr.storeAt 65 (.pointer (some ⟨b,0,none⟩)) (.agg (Af s').toArray)).run Tryz.prog w = .ok () (w.setCells b 0 (Af s'))∧(w.setCells b 0 (Af s')).heap[b]?=some (.cells (Af s').toArray t)∧Ai b w (w.setCells b 0 (Af s')):=by
 have hz:(Af s').toArray.size=68:=by rw[Wn,AS]
 refine⟨run_storeAt_mid w b 0 65 (Af s').toArray (by rw[hz];exact PZ h) (by rw[hz];exact Bf) (all_oneCell_toArray (JI s')),?_,?_⟩
 ·have:=MJ (w:=w) (b:=b) (t:=t) (Af s') [] (Af s) (by rw[AS,AS]) h;exact this
 ·have:∀(vs:List Value) (o:Nat) (w:World),Ai b w (w.setCells b o vs):=by
   intro vs
   induction vs with
   | nil=>intro o w;exact Ai.refl b w
   | cons v vs ih=>intro o w;exact((Ai.refl b w).setCell (p:=⟨b,o,none⟩) rfl v).trans (ih _ _)
  exact this _ _ _
theorem PN(s:St)(x:Nat):(Af s).toArray.setIfInBounds 0 (.int .u64 (x:Int))=(Af { s with lk:=x }).toArray:=by rw[VW];rfl
theorem MR(s:St)(x:Nat):(Af s).toArray.setIfInBounds 1 (.int .u64 (x:Int))=(Af { s with us:=x }).toArray:=by rw[VW];rfl
theorem KY(s:St)(x:Nat):(Af s).toArray.setIfInBounds 2 (.int .u64 (x:Int))=(Af { s with ca:=x }).toArray:=by rw[VW];rfl
theorem Ei(s:St){n:Nat}(h:n<64):(Af s).toArray[3+n]?=some (.int .u8 (s.tm n:Int)):=by rw[WG];exact PO s h
theorem Ff(s:St)(x:Nat){n:Nat}(h:n<64):(Af s).toArray.setIfInBounds (3+n) (.int .u8 (x:Int))=(Af { s with tm:=BZ s.tm n x }).toArray:=by
 rw[VW];unfold Af;rw[show 3+n=n+1+1+1 by omega,VV,VV,VV,List.set_append,if_pos (by rw[BY];exact h),Q0]
theorem JJ(s:St)(x:Nat):(Af s).toArray.setIfInBounds 67 (.int .u32 (x:Int))=(Af { s with pt:=x }).toArray:=by
 rw[VW];unfold Af;rw[show 67=64+1+1+1 by omega,VV,VV,VV,List.set_append,if_neg (by rw[BY];omega),BY];rfl
theorem Bz:Tryz.zeroCells65=(Af zS).toArray:=by kernel_rfl
theorem Fq(x k i:Nat):(x &&& (pw k - 1)).testBit i=(x.testBit i && decide (i<k)):=by rw[Nat.testBit_and,pw,Nat.testBit_two_pow_sub_one]
theorem TF{x k:Nat}(h:Aa x k=false):x &&& (pw (k+1) - 1)=x &&& (pw k - 1):=by
 refine Nat.eq_of_testBit_eq fun i=>?_
 rw[Fq,Fq];rw[AZ] at h;by_cases e:i=k
 ·subst e;rw[h];simp
 ·simp[show(i<k+1)=(i<k) from propext ⟨fun _=>by omega,fun _=>by omega⟩]
theorem Ri{x k:Nat}(h:Aa x k=true):x &&& (pw (k+1) - 1)=Ab (x &&& (pw k - 1)) k:=by
 refine Nat.eq_of_testBit_eq fun i=>?_
 rw[Fq,By,Nat.testBit_or,Fq,pw,Nat.testBit_two_pow];rw[AZ] at h;by_cases e:i=k
 ·subst e;rw[h];simp
 ·simp[show(i<k+1)=(i<k) from propext ⟨fun _=>by omega,fun _=>by omega⟩,show¬ k=i from fun h=>e h.symm]
theorem JS{y x k:Nat}(h:Aa y k=true):y &&& Ab x k=Ab (y &&& x) k:=by
 refine Nat.eq_of_testBit_eq fun i=>?_
 rw[By,By,Nat.testBit_and,Nat.testBit_or,Nat.testBit_or,Nat.testBit_and,pw,Nat.testBit_two_pow];rw[AZ] at h;by_cases e:k=i
 ·subst e;rw[h];simp
 ·simp[e]
theorem JT{y x k:Nat}(h:Aa y k=false):y &&& Ab x k=y &&& x:=by
 refine Nat.eq_of_testBit_eq fun i=>?_
 rw[By,Nat.testBit_and,Nat.testBit_or,Nat.testBit_and,pw,Nat.testBit_two_pow];rw[AZ] at h;by_cases e:k=i
 ·subst e;rw[h];simp
 ·simp[e]
theorem Kd(x k i:Nat):Aa (Ab x k) i=(Aa x i || decide (k=i)):=by
 rw[AZ,AZ,By,Nat.testBit_or,pw,Nat.testBit_two_pow]
theorem NZ(P:Nat)(s:St):AI 0 P s={ zS with pt:=s.pt &&& (pw P - 1) }:=by
 have e:s.lk &&& (pw 0 - 1)=0:=by rw[Jv];exact Nat.and_zero _
 have hz:∀ i,Aa 0 i=false:=fun i=>by rw[AZ];exact Nat.zero_testBit i
 unfold AI;simp only[e,Nat.and_zero,hz];rfl
theorem So{k:Nat}(P:Nat){s:St}(h:Aa s.lk k=false):AI (k+1) P s=AI k P s:=by
 unfold AI;rw[TF h]
theorem FG{k:Nat}(P:Nat){s:St}(h:Aa s.lk k=true):AI (k+1) P s={ AI k P s with lk:=Ab (AI k P s).lk k,us:=if Aa s.us k then Ab (AI k P s).us k else (AI k P s).us,ca:=if Aa s.ca k then Ab (AI k P s).ca k else (AI k P s).ca,tm:=if Aa s.ca k then BZ (AI k P s).tm k (min (s.tm k) 20) else (AI k P s).tm }:=by
 unfold AI;rw[Ri h];have e1:s.us &&& Ab (s.lk &&& (pw k - 1)) k=if Aa s.us k then Ab (s.us &&& (s.lk &&& (pw k - 1))) k else s.us &&& (s.lk &&& (pw k - 1)):=by
  cases hu:Aa s.us k with
  | false=>rw[JT hu];rfl
  | true=>rw[JS hu];rfl
 have e2:s.ca &&& Ab (s.lk &&& (pw k - 1)) k=if Aa s.ca k then Ab (s.ca &&& (s.lk &&& (pw k - 1))) k else s.ca &&& (s.lk &&& (pw k - 1)):=by
  cases hu:Aa s.ca k with
  | false=>rw[JT hu];rfl
  | true=>rw[JS hu];rfl
 rw[e1,e2]
 congr 1
 cases hc:Aa s.ca k with
 | false=>rfl
 | true=>
   simp only[if_true]
   funext n
   unfold BZ;rw[Kd];by_cases e:n=k
   ·subst e;simp
   ·simp[e,show¬ k=n from fun h=>e h.symm]
theorem Gw(k P:Nat){s:St}(h:s.ok):(AI k P s).ok:=
 ⟨Wr Nat.and_le_left h.lk,Wr Nat.and_le_left h.us,Wr Nat.and_le_left h.ca,fun n=>by
  show(if _ then min (s.tm n) 20 else 0)≤255;split
  ·exact Wd (Nat.min_le_right _ _) (by omega)
  ·omega,Wr Nat.and_le_left h.pt⟩
attribute [local irreducible] Sl.v Aa pw Ab Aw C8 Af BC CD Bi Bg B9 CB BQ AU Bp BB BG Bh Bd BP Bo BL BF BN AI AY AV Be Bw Bq C4 Mc.tb BZ AX Ap B5
theorem Sn(X:Nat→Prop)(m:Nat)(M:Mc)(s:St)(N1 P:Nat)(w:World)(hM:CN X w m M)(hN:M.ln.l.length=N1)(hle:N1≤64)(hp:M.pt=pw P - 1)(hp2:P≤32)(hs:s.ok) :
 Calls Tryz.prog 32 #[.pointer (some ⟨m,0,none⟩),.agg (Af s).toArray] w fun e w'=>e = .returned (.agg (Af (AI N1 P s)).toArray)∧Below w.heap.size w w':=by
 have HMP:Hid (M.pt<4294967296):=hid (by
  rw[hp];have h1:=Nat.pow_le_pow_right (n:=2) (by omega) hp2;have h2:=Du P;rw[Pu];omega)
 have HAND:Hid (bits .and .u32 (s.pt:Int) (M.pt:Int)=((s.pt &&& M.pt:Nat):Int)):=hid (u32_and_nat s.pt M.pt hs.pt HMP.o);have HSO:=hid hs;have HPT:=hid hp;have HN1:=hid hN;have HLE:=hid hle;have HM:=hid hM;clear hM hN hle hp hs hp2;go_enter Tryz.func32,Tryz.ntmps32;go_upto_region 4 with fail
 rw[Bz];refine Ao (os:=[.cells (Af s).toArray 65,.cells (Af zS).toArray 65,.cells (Af zS).toArray 65]) (w0:=w) rfl ?_;intro W hat hbw;obtain⟨g3,hg3⟩:=X0 w.heap.size;obtain⟨g4,hg4⟩:=X0 (g3+1);obtain⟨g5,hg5⟩:=X0 (g4+1);have q0:=hat 0 _ rfl;have q1:=hat 1 _ rfl;have q2:=hat 2 _ rfl;rw[Wa,← hg3] at q0;rw[← hg3,← hg4] at q1;rw[← hg3,show g3+2=g5 by omega] at q2;rw[← hg3,← hg4,← hg5];have HQ3:=hid q0;have HQ4:=hid q1;have HQ5:=hid q2;have HBW:=hid hbw;have HG:Hid (g3≠g5∧g4≠g5∧w.heap.size≤g5∧w.heap.size≤g4):=hid (by omega);clear hat q0 q1 q2 hg3 hg4 hg5;have HM3:Hid (W.cell? ⟨m,3,none⟩=some (.int .u32 (M.pt:Int))):=hid (A4 (A5 hbw HM.o.blk) 3 _ rfl);have HMB:=hid (A5 hbw HM.o.blk);have HG5:Hid (m≠g5∧True):=hid ⟨by have h1:=Aj HM.o.blk;have h2:=HG.o.2.2.1;omega,trivial⟩;clear hbw;refine Am (by kernel_rfl) [8] 11 [0,1,2,3,4,5,6,7] [10,11,12,13,14,15,16,17] #[true,true,true,true,true,true,true,true,false] 1 [(fun v _=>v = .pointer (some ⟨g3,67,none⟩)),(fun v _=>v = .int .u32 (s.pt:Int)),(fun v _=>v = .pointer (some ⟨m,0,none⟩)),(fun v _=>v = .pointer (some ⟨m,0,none⟩)),(fun v _=>v = .pointer (some ⟨m,3,none⟩)),(fun v _=>v = .int .u32 (M.pt:Int)),(fun v _=>v = .int .u32 ((s.pt &&& M.pt:Nat):Int)),(fun v _=>v = .pointer (some ⟨g5,67,none⟩)),(fun _ _=>True)] (by kernel_rfl) (by kernel_rfl) (by kernel_rfl) (by kernel_rfl) (by kernel_rfl) rfl (by kernel_rfl) rfl ?_ ?_ ?_
 ·exact⟨A8 _,A8 _,A8 _,A8 _,A8 _,A8 _,A8 _,A8 _,An,trivial⟩
 ·refine⟨?_,?_,?_,?_,?_,?_,?_,?_,trivial⟩
  ·refine A7 (o:=⟨some 10,_,_,_,_,_⟩) rfl (fun r V hc hf hg hs hb hd=>?_);have x3:r (.tmp 3) = .pointer (some ⟨g3,0,none⟩):=hs 3 (by kernel_rfl);clear hs hd hg;go_simp;exact X1
  ·refine A7 (o:=⟨some 11,_,_,_,_,_⟩) rfl (fun r V hc hf hg hs hb hd=>?_);have h0:r (.tmp 10) = .pointer (some ⟨g3,67,none⟩):=hd 0 10 rfl (by kernel_rfl);clear hs hd hg;have l:=A4 (A5 hb HQ3.o) 67 _ (EI s);go_simp;exact X1
  ·refine A7 (o:=⟨some 12,_,_,_,_,_⟩) rfl (fun r V hc hf hg hs hb hd=>?_);have x0:r (.tmp 0) = .pointer (some ⟨m,0,none⟩):=hs 0 (by kernel_rfl);clear hs hd hg;go_simp;exact X1
  ·refine A7 (o:=⟨some 13,_,_,_,_,_⟩) rfl (fun r V hc hf hg hs hb hd=>?_);have h2:r (.tmp 12) = .pointer (some ⟨m,0,none⟩):=hd 2 12 rfl (by kernel_rfl);clear hs hd hg;go_simp;exact X1
  ·refine A7 (o:=⟨some 14,_,_,_,_,_⟩) rfl (fun r V hc hf hg hs hb hd=>?_);have h3:r (.tmp 13) = .pointer (some ⟨m,0,none⟩):=hd 3 13 rfl (by kernel_rfl);clear hs hd hg;go_simp;exact X1
  ·refine A7 (o:=⟨some 15,_,_,_,_,_⟩) rfl (fun r V hc hf hg hs hb hd=>?_);have h4:r (.tmp 14) = .pointer (some ⟨m,3,none⟩):=hd 4 14 rfl (by kernel_rfl);clear hs hd hg;have l:=VY hb HM3.o;go_simp;exact X1
  ·refine A7 (o:=⟨some 16,_,_,_,_,_⟩) rfl (fun r V hc hf hg hs hb hd=>?_);have h1:r (.tmp 11) = .int .u32 (s.pt:Int):=hd 1 11 rfl (by kernel_rfl);have h5:r (.tmp 15) = .int .u32 (M.pt:Int):=hd 5 15 rfl (by kernel_rfl);clear hs hd hg;have ho1:=HAND.o;go_simp;exact X1
  ·refine A7 (o:=⟨some 17,_,_,_,_,_⟩) rfl (fun r V hc hf hg hs hb hd=>?_);have x5:r (.tmp 5) = .pointer (some ⟨g5,0,none⟩):=hs 5 (by kernel_rfl);clear hs hd hg;go_simp;exact X1
 ·intro a V hb hx;have h0:a.eval (.tmp 10) = .pointer (some ⟨g3,67,none⟩):=hx 0 10 rfl rfl;have h1:a.eval (.tmp 11) = .int .u32 (s.pt:Int):=hx 1 11 rfl rfl;have h2:a.eval (.tmp 12) = .pointer (some ⟨m,0,none⟩):=hx 2 12 rfl rfl;have h3:a.eval (.tmp 13) = .pointer (some ⟨m,0,none⟩):=hx 3 13 rfl rfl;have h4:a.eval (.tmp 14) = .pointer (some ⟨m,3,none⟩):=hx 4 14 rfl rfl;have h5:a.eval (.tmp 15) = .int .u32 (M.pt:Int):=hx 5 15 rfl rfl;have h6:a.eval (.tmp 16) = .int .u32 ((s.pt &&& M.pt:Nat):Int):=hx 6 16 rfl rfl;have h7:a.eval (.tmp 17) = .pointer (some ⟨g5,67,none⟩):=hx 7 17 rfl rfl;unfold AD;simp only[Wi,Wj,h0,h1,h2,h3,h4,h5,h6,h7,Act.put,VW,VX,VV];clear h0 h1 h2 h3 h4 h5 h6 h7 hx;have HXW:=hid (WX.refl (fun b=>b=g5) W);have HOV:=hid (A5 hb HQ5.o);have HXV:=hid (HXW.o.trans (WX.of_below hb));clear hb HQ5 HXW;refine wpAny_ready (rs:=[8]) (by kernel_rfl) (by simp) (AllReady.cons (o:=⟨none,_,_,_,_,_⟩) rfl (fun K hK=>?_) AllReady.nil);have c0:=A4 HOV.o 67 _ (EI _);have f0:=Aq HOV.o 67;have hl:=Aj HOV.o;go_simp;clear c0 f0 hl;refine Bc ?_;intro Vz hVz;have ho:Ai g5 V Vz:=(by rw[hVz];exact(Ai.refl g5 V).setCell rfl _);have HOz:Hid (Vz.heap[g5]?=some (.cells (Af ({ zS with pt:=s.pt &&& M.pt }:St)).toArray 65)):=hid (by rw[hVz];exact(AG HOV.o 67 _).trans (congrArg (fun C=>some (Obj.cells C 65)) (JJ _ _)));have HXz:=hid (HXV.o.trans (WX.of_only (X:=fun b=>b=g5) ho rfl));clear hVz ho HOV HXV;refine hK _ _ ?_;clear hK K;refine wpAny_done (by kernel_rfl) ?_ _;have HO0:Hid (Vz.heap[g5]?=some (.cells (Af (AI 0 P s)).toArray 65)):=hid (by rw[NZ,← HPT.o];exact HOz.o);have c0:=A4 (HXz.o.keep HG5.o.1 HMB.o) 0 _ rfl;rw[Ak HN1.o] at c0;go_upto_region 6 with fail
  clear c0 HOz;go_loopg [23] N1 (fun g v wr=>∃ k:Nat,k+g=N1∧v = .int .i64 (k:Int)∧wr.heap[g5]?=some (.cells (Af (AI k P s)).toArray 65)∧WX (fun b=>b=g5) W wr)
  case atStart=>exact⟨0,by omega,rfl,HO0.o,HXz.o⟩
  case round=>
   obtain⟨k,hk,rfl,hoq,hxq⟩:=hrel;have HK:=hid hk;have HXR:=hid hxq;have HOQ:=hid hoq;clear hk hxq hoq HO0 HXz;by_cases hlt:k<N1
   ·have d1:(0:Int)≤k:=(by omega);have d2:(k:Int)<N1:=(by omega);have e1:=B8 hlt (Wd HLE.o (by decide));have HLT:=hid hlt;have HK63:Hid (k≤63):=hid (by have:=HLE.o;omega);have HN63:=HK63;have HK64:Hid (k<64):=hid (by have:=HLE.o;omega);obtain⟨t,ht⟩:=WY (AI k P s);have HTO:Hid t.ok:=hid (ht ▸ Gw k P HSO.o);have HOR:Hid (wr.heap[g5]?=some (.cells (Af t).toArray 65)):=hid (ht ▸ HOQ.o);have HT:=hid ht;obtain⟨bl,hbl⟩:=WY (Aa s.lk k);obtain⟨bu,hbu⟩:=WY (Aa s.us k);obtain⟨bc,hbc⟩:=WY (Aa s.ca k);obtain⟨tk,htk⟩:=WY (s.tm k);have HIL:Hid (∀ V,Calls Tryz.prog 53 #[.int .u64 (s.lk:Int),.int .i64 (k:Int)] V fun e w'=>e = .returned (.bool bl)∧V=w'):=hid (fun V=>DE bl s.lk k V HK63.o HSO.o.lk hbl);have HIU:Hid (∀ V,Calls Tryz.prog 53 #[.int .u64 (s.us:Int),.int .i64 (k:Int)] V fun e w'=>e = .returned (.bool bu)∧V=w'):=hid (fun V=>DE bu s.us k V HK63.o HSO.o.us hbu);have HIC:Hid (∀ V,Calls Tryz.prog 53 #[.int .u64 (s.ca:Int),.int .i64 (k:Int)] V fun e w'=>e = .returned (.bool bc)∧V=w'):=hid (fun V=>DE bc s.ca k V HK63.o HSO.o.ca hbc);have HBL:=hid hbl;have HBU:=hid hbu;have HBC:=hid hbc;have HTMK:=hid htk;have HTK:Hid ((Af s).toArray[3+k]?=some (.int .u8 (tk:Int))):=hid (by rw[Ei s HK64.o,htk]);have y0:=A4 (HXR.o.keep HG.o.1 HQ3.o) 0 _ (DM s);clear hlt ht hbl hbu hbc htk HOQ;go_wp2_with fail;refine(HIL.o _).mono ?_;rintro e w' ⟨rfl,rfl⟩;clear y0;cases bl with
    | false=>
      go_wp2_with fail;go_roundg (N1 - (k+1))
      case rel=>exact⟨k+1,AA HK.o HLT.o,by go_num,by rw[So _ HBL.o,HT.o];exact HOR.o,HXR.o⟩
      case measure=>exact Az HK.o HLT.o
    | true=>
      go_upto_region 9 with fail
      refine Am (by kernel_rfl) [6] 9 [0,1,2,3,4,5] [31,32,33,34,35,36] #[true,true,true,true,true,true,false] 1 [(fun v _=>v = .pointer (some ⟨g5,0,none⟩)),(fun v _=>v = .int .u64 (t.lk:Int)),(fun v _=>v = .int .i64 (k:Int)),(fun v _=>v = .int .u64 (pw k:Int)),(fun v _=>v = .int .u64 ((Ab t.lk k:Nat):Int)),(fun v _=>v = .pointer (some ⟨g5,0,none⟩)),(fun _ _=>True)] (by kernel_rfl) (by kernel_rfl) (by kernel_rfl) (by kernel_rfl) (by kernel_rfl) rfl (by kernel_rfl) rfl ?_ ?_ ?_
      ·exact⟨A8 _,A8 _,A8 _,A8 _,A8 _,A8 _,An,trivial⟩
      ·refine⟨?_,?_,?_,?_,?_,?_,trivial⟩
       ·refine A7 (o:=⟨some 31,_,_,_,_,_⟩) rfl (fun r V hc hf hg hs hb hd=>?_);have x5:r (.tmp 5) = .pointer (some ⟨g5,0,none⟩):=hs 5 (by kernel_rfl);clear hs hd hg;go_simp;exact X1
       ·refine A7 (o:=⟨some 32,_,_,_,_,_⟩) rfl (fun r V hc hf hg hs hb hd=>?_);have h0:r (.tmp 31) = .pointer (some ⟨g5,0,none⟩):=hd 0 31 rfl (by kernel_rfl);clear hs hd hg;have l:=A4 (A5 hb HOR.o) 0 _ (DM _);go_simp;exact X1
       ·refine A7 (o:=⟨some 33,_,_,_,_,_⟩) rfl (fun r V hc hf hg hs hb hd=>?_);have x6:r (.tmp 6) = .int .i64 (k:Int):=hs 6 (by kernel_rfl);clear hs hd hg;go_simp;exact X1
       ·refine A7 (o:=⟨some 34,_,_,_,_,_⟩) rfl (fun r V hc hf hg hs hb hd=>?_);have h2:r (.tmp 33) = .int .i64 (k:Int):=hd 2 33 rfl (by kernel_rfl);clear hs hd hg;have h63:=HN63.o;have h0:(0:Int)≤k:=(by omega);have h1:min k 64=k:=(by omega);have h2:¬ (64:Int)≤k:=(by omega);have hs1:=Br k h63;go_simp;exact⟨VU _ _,by simp⟩
       ·refine A7 (o:=⟨some 35,_,_,_,_,_⟩) rfl (fun r V hc hf hg hs hb hd=>?_);have h1:r (.tmp 32) = .int .u64 (t.lk:Int):=hd 1 32 rfl (by kernel_rfl);have h3:r (.tmp 34) = .int .u64 (pw k:Int):=hd 3 34 rfl (by kernel_rfl);clear hs hd hg;have ho1:=Cw t.lk k HK63.o HTO.o.lk;go_simp;exact X1
       ·refine A7 (o:=⟨some 36,_,_,_,_,_⟩) rfl (fun r V hc hf hg hs hb hd=>?_);have x5:r (.tmp 5) = .pointer (some ⟨g5,0,none⟩):=hs 5 (by kernel_rfl);clear hs hd hg;go_simp;exact X1
      ·intro a V hb hx;have h0:a.eval (.tmp 31) = .pointer (some ⟨g5,0,none⟩):=hx 0 31 rfl rfl;have h1:a.eval (.tmp 32) = .int .u64 (t.lk:Int):=hx 1 32 rfl rfl;have h2:a.eval (.tmp 33) = .int .i64 (k:Int):=hx 2 33 rfl rfl;have h3:a.eval (.tmp 34) = .int .u64 (pw k:Int):=hx 3 34 rfl rfl;have h4:a.eval (.tmp 35) = .int .u64 ((Ab t.lk k:Nat):Int):=hx 4 35 rfl rfl;have h5:a.eval (.tmp 36) = .pointer (some ⟨g5,0,none⟩):=hx 5 36 rfl rfl;unfold AD;simp only[Wi,Wj,h0,h1,h2,h3,h4,h5,Act.put,VW,VX,VV];clear h0 h1 h2 h3 h4 h5 hx;have HOV:=hid (A5 hb HOR.o);have HXV:=hid (HXR.o.trans (WX.of_below hb));clear hb HOR HXR;refine wpAny_ready (rs:=[6]) (by kernel_rfl) (by simp) (AllReady.cons (o:=⟨none,_,_,_,_,_⟩) rfl (fun K hK=>?_) AllReady.nil);have c0:=A4 HOV.o 0 _ (DM _);have f0:=Aq HOV.o 0;have hl:=Aj HOV.o;go_simp;clear c0 f0 hl;refine Bc ?_;intro Va hVa;have ho:Ai g5 V Va:=(by rw[hVa];exact(Ai.refl g5 V).setCell rfl _);have HOa:Hid (Va.heap[g5]?=some (.cells (Af ({ t with lk:=Ab t.lk k }:St)).toArray 65)):=hid (by rw[hVa];exact(AG HOV.o 0 _).trans (congrArg (fun C=>some (Obj.cells C 65)) (PN _ _)));have HXa:=hid (HXV.o.trans (WX.of_only (X:=fun b=>b=g5) ho rfl));clear hVa ho HOV HXV;refine hK _ _ ?_;clear hK K;refine wpAny_done (by kernel_rfl) ?_ _;have y1:=A4 (HXa.o.keep HG.o.1 HQ3.o) 1 _ (FE s);go_wp2_with fail;refine(HIU.o _).mono ?_;rintro e w' ⟨rfl,rfl⟩;clear y1;cases bu with
       | false=>
         have y2:=A4 (HXa.o.keep HG.o.1 HQ3.o) 2 _ (E1 s);go_wp2_with fail;refine(HIC.o _).mono ?_;rintro e w' ⟨rfl,rfl⟩;clear y2;cases bc with
         | false=>
           go_wp2_with fail;go_roundg (N1 - (k+1))
           case rel=>exact⟨k+1,AA HK.o HLT.o,by go_num,by rw[FG _ HBL.o,HT.o,HBU.o,HBC.o];exact HOa.o,HXa.o⟩
           case measure=>exact Az HK.o HLT.o
         | true=>
           go_upto_region 13 with fail
           refine Am (by kernel_rfl) [6] 9 [0,1,2,3,4,5] [51,52,53,54,55,56] #[true,true,true,true,true,true,false] 1 [(fun v _=>v = .pointer (some ⟨g5,2,none⟩)),(fun v _=>v = .int .u64 (t.ca:Int)),(fun v _=>v = .int .i64 (k:Int)),(fun v _=>v = .int .u64 (pw k:Int)),(fun v _=>v = .int .u64 ((Ab t.ca k:Nat):Int)),(fun v _=>v = .pointer (some ⟨g5,2,none⟩)),(fun _ _=>True)] (by kernel_rfl) (by kernel_rfl) (by kernel_rfl) (by kernel_rfl) (by kernel_rfl) rfl (by kernel_rfl) rfl ?_ ?_ ?_
           ·exact⟨A8 _,A8 _,A8 _,A8 _,A8 _,A8 _,An,trivial⟩
           ·refine⟨?_,?_,?_,?_,?_,?_,trivial⟩
            ·refine A7 (o:=⟨some 51,_,_,_,_,_⟩) rfl (fun r V hc hf hg hs hb hd=>?_);have x5:r (.tmp 5) = .pointer (some ⟨g5,0,none⟩):=hs 5 (by kernel_rfl);clear hs hd hg;go_simp;exact X1
            ·refine A7 (o:=⟨some 52,_,_,_,_,_⟩) rfl (fun r V hc hf hg hs hb hd=>?_);have h0:r (.tmp 51) = .pointer (some ⟨g5,2,none⟩):=hd 0 51 rfl (by kernel_rfl);clear hs hd hg;have l:=A4 (A5 hb HOa.o) 2 _ (E1 _);go_simp;exact X1
            ·refine A7 (o:=⟨some 53,_,_,_,_,_⟩) rfl (fun r V hc hf hg hs hb hd=>?_);have x6:r (.tmp 6) = .int .i64 (k:Int):=hs 6 (by kernel_rfl);clear hs hd hg;go_simp;exact X1
            ·refine A7 (o:=⟨some 54,_,_,_,_,_⟩) rfl (fun r V hc hf hg hs hb hd=>?_);have h2:r (.tmp 53) = .int .i64 (k:Int):=hd 2 53 rfl (by kernel_rfl);clear hs hd hg;have h63:=HN63.o;have h0:(0:Int)≤k:=(by omega);have h1:min k 64=k:=(by omega);have h2:¬ (64:Int)≤k:=(by omega);have hs1:=Br k h63;go_simp;exact⟨VU _ _,by simp⟩
            ·refine A7 (o:=⟨some 55,_,_,_,_,_⟩) rfl (fun r V hc hf hg hs hb hd=>?_);have h1:r (.tmp 52) = .int .u64 (t.ca:Int):=hd 1 52 rfl (by kernel_rfl);have h3:r (.tmp 54) = .int .u64 (pw k:Int):=hd 3 54 rfl (by kernel_rfl);clear hs hd hg;have ho1:=Cw t.ca k HK63.o HTO.o.ca;go_simp;exact X1
            ·refine A7 (o:=⟨some 56,_,_,_,_,_⟩) rfl (fun r V hc hf hg hs hb hd=>?_);have x5:r (.tmp 5) = .pointer (some ⟨g5,0,none⟩):=hs 5 (by kernel_rfl);clear hs hd hg;go_simp;exact X1
           ·intro a V hb hx;have h0:a.eval (.tmp 51) = .pointer (some ⟨g5,2,none⟩):=hx 0 51 rfl rfl;have h1:a.eval (.tmp 52) = .int .u64 (t.ca:Int):=hx 1 52 rfl rfl;have h2:a.eval (.tmp 53) = .int .i64 (k:Int):=hx 2 53 rfl rfl;have h3:a.eval (.tmp 54) = .int .u64 (pw k:Int):=hx 3 54 rfl rfl;have h4:a.eval (.tmp 55) = .int .u64 ((Ab t.ca k:Nat):Int):=hx 4 55 rfl rfl;have h5:a.eval (.tmp 56) = .pointer (some ⟨g5,2,none⟩):=hx 5 56 rfl rfl;unfold AD;simp only[Wi,Wj,h0,h1,h2,h3,h4,h5,Act.put,VW,VX,VV];clear h0 h1 h2 h3 h4 h5 hx;have HOV:=hid (A5 hb HOa.o);have HXV:=hid (HXa.o.trans (WX.of_below hb));clear hb HOa HXa;refine wpAny_ready (rs:=[6]) (by kernel_rfl) (by simp) (AllReady.cons (o:=⟨none,_,_,_,_,_⟩) rfl (fun K hK=>?_) AllReady.nil);have c0:=A4 HOV.o 2 _ (E1 _);have f0:=Aq HOV.o 2;have hl:=Aj HOV.o;go_simp;clear c0 f0 hl;refine Bc ?_;intro Vc hVc;have ho:Ai g5 V Vc:=(by rw[hVc];exact(Ai.refl g5 V).setCell rfl _);have HOc:Hid (Vc.heap[g5]?=some (.cells (Af ({ t with lk:=Ab t.lk k,ca:=Ab t.ca k }:St)).toArray 65)):=hid (by rw[hVc];exact(AG HOV.o 2 _).trans (congrArg (fun C=>some (Obj.cells C 65)) (KY _ _)));have HXc:=hid (HXV.o.trans (WX.of_only (X:=fun b=>b=g5) ho rfl));clear hVc ho HOV HXV;refine hK _ _ ?_;clear hK K;refine wpAny_done (by kernel_rfl) ?_ _;have y3:=A4 (HXc.o.keep HG.o.1 HQ3.o) (3+k) _ (HTK.o);have c3:=A4 HOc.o (3+k) _ (Ei _ HK64.o);have f3:=Aq HOc.o (3+k);have hl3:=Aj HOc.o;have d5:(0:Int)≤k:=(by omega);have d6:(k:Int)<64:=(by have:=HK64.o;omega);go_upto_region 15 with fail
            refine BR ?_;intro WZ hWZ;clear y3 c3 f3 hl3 d5 d6;have e20:((min tk 20:Nat):Int)=min (tk:Int) 20:=(by omega);rw[← e20] at hWZ;have ho:Ai g5 Vc WZ:=(by rw[hWZ];exact(Ai.refl g5 Vc).setCell rfl _);have HOE:Hid (WZ.heap[g5]?=some (.cells (Af ({ t with lk:=Ab t.lk k,ca:=Ab t.ca k,tm:=BZ t.tm k (min tk 20) }:St)).toArray 65)):=hid (by rw[hWZ];exact(AG HOc.o (3+k) _).trans (congrArg (fun C=>some (Obj.cells C 65)) (Ff _ (min tk 20) HK64.o)));have HXE:=hid (HXc.o.trans (WX.of_only (X:=fun b=>b=g5) ho rfl));clear hWZ ho HOc HXc e20;go_wp2_with fail;go_roundg (N1 - (k+1))
            case rel=>exact⟨k+1,AA HK.o HLT.o,by go_num,by rw[FG _ HBL.o,HT.o,HBU.o,HBC.o,HTMK.o];exact HOE.o,HXE.o⟩
            case measure=>exact Az HK.o HLT.o
       | true=>
         go_upto_region 11 with fail
         refine Am (by kernel_rfl) [6] 9 [0,1,2,3,4,5] [41,42,43,44,45,46] #[true,true,true,true,true,true,false] 1 [(fun v _=>v = .pointer (some ⟨g5,1,none⟩)),(fun v _=>v = .int .u64 (t.us:Int)),(fun v _=>v = .int .i64 (k:Int)),(fun v _=>v = .int .u64 (pw k:Int)),(fun v _=>v = .int .u64 ((Ab t.us k:Nat):Int)),(fun v _=>v = .pointer (some ⟨g5,1,none⟩)),(fun _ _=>True)] (by kernel_rfl) (by kernel_rfl) (by kernel_rfl) (by kernel_rfl) (by kernel_rfl) rfl (by kernel_rfl) rfl ?_ ?_ ?_
         ·exact⟨A8 _,A8 _,A8 _,A8 _,A8 _,A8 _,An,trivial⟩
         ·refine⟨?_,?_,?_,?_,?_,?_,trivial⟩
          ·refine A7 (o:=⟨some 41,_,_,_,_,_⟩) rfl (fun r V hc hf hg hs hb hd=>?_);have x5:r (.tmp 5) = .pointer (some ⟨g5,0,none⟩):=hs 5 (by kernel_rfl);clear hs hd hg;go_simp;exact X1
          ·refine A7 (o:=⟨some 42,_,_,_,_,_⟩) rfl (fun r V hc hf hg hs hb hd=>?_);have h0:r (.tmp 41) = .pointer (some ⟨g5,1,none⟩):=hd 0 41 rfl (by kernel_rfl);clear hs hd hg;have l:=A4 (A5 hb HOa.o) 1 _ (FE _);go_simp;exact X1
          ·refine A7 (o:=⟨some 43,_,_,_,_,_⟩) rfl (fun r V hc hf hg hs hb hd=>?_);have x6:r (.tmp 6) = .int .i64 (k:Int):=hs 6 (by kernel_rfl);clear hs hd hg;go_simp;exact X1
          ·refine A7 (o:=⟨some 44,_,_,_,_,_⟩) rfl (fun r V hc hf hg hs hb hd=>?_);have h2:r (.tmp 43) = .int .i64 (k:Int):=hd 2 43 rfl (by kernel_rfl);clear hs hd hg;have h63:=HN63.o;have h0:(0:Int)≤k:=(by omega);have h1:min k 64=k:=(by omega);have h2:¬ (64:Int)≤k:=(by omega);have hs1:=Br k h63;go_simp;exact⟨VU _ _,by simp⟩
          ·refine A7 (o:=⟨some 45,_,_,_,_,_⟩) rfl (fun r V hc hf hg hs hb hd=>?_);have h1:r (.tmp 42) = .int .u64 (t.us:Int):=hd 1 42 rfl (by kernel_rfl);have h3:r (.tmp 44) = .int .u64 (pw k:Int):=hd 3 44 rfl (by kernel_rfl);clear hs hd hg;have ho1:=Cw t.us k HK63.o HTO.o.us;go_simp;exact X1
          ·refine A7 (o:=⟨some 46,_,_,_,_,_⟩) rfl (fun r V hc hf hg hs hb hd=>?_);have x5:r (.tmp 5) = .pointer (some ⟨g5,0,none⟩):=hs 5 (by kernel_rfl);clear hs hd hg;go_simp;exact X1
         ·intro a V hb hx;have h0:a.eval (.tmp 41) = .pointer (some ⟨g5,1,none⟩):=hx 0 41 rfl rfl;have h1:a.eval (.tmp 42) = .int .u64 (t.us:Int):=hx 1 42 rfl rfl;have h2:a.eval (.tmp 43) = .int .i64 (k:Int):=hx 2 43 rfl rfl;have h3:a.eval (.tmp 44) = .int .u64 (pw k:Int):=hx 3 44 rfl rfl;have h4:a.eval (.tmp 45) = .int .u64 ((Ab t.us k:Nat):Int):=hx 4 45 rfl rfl;have h5:a.eval (.tmp 46) = .pointer (some ⟨g5,1,none⟩):=hx 5 46 rfl rfl;unfold AD;simp only[Wi,Wj,h0,h1,h2,h3,h4,h5,Act.put,VW,VX,VV];clear h0 h1 h2 h3 h4 h5 hx;have HOV:=hid (A5 hb HOa.o);have HXV:=hid (HXa.o.trans (WX.of_below hb));clear hb HOa HXa;refine wpAny_ready (rs:=[6]) (by kernel_rfl) (by simp) (AllReady.cons (o:=⟨none,_,_,_,_,_⟩) rfl (fun K hK=>?_) AllReady.nil);have c0:=A4 HOV.o 1 _ (FE _);have f0:=Aq HOV.o 1;have hl:=Aj HOV.o;go_simp;clear c0 f0 hl;refine Bc ?_;intro Vb hVb;have ho:Ai g5 V Vb:=(by rw[hVb];exact(Ai.refl g5 V).setCell rfl _);have HOb:Hid (Vb.heap[g5]?=some (.cells (Af ({ t with lk:=Ab t.lk k,us:=Ab t.us k }:St)).toArray 65)):=hid (by rw[hVb];exact(AG HOV.o 1 _).trans (congrArg (fun C=>some (Obj.cells C 65)) (MR _ _)));have HXb:=hid (HXV.o.trans (WX.of_only (X:=fun b=>b=g5) ho rfl));clear hVb ho HOV HXV;refine hK _ _ ?_;clear hK K;refine wpAny_done (by kernel_rfl) ?_ _;have y2:=A4 (HXb.o.keep HG.o.1 HQ3.o) 2 _ (E1 s);go_wp2_with fail;refine(HIC.o _).mono ?_;rintro e w' ⟨rfl,rfl⟩;clear y2;cases bc with
          | false=>
            go_wp2_with fail;go_roundg (N1 - (k+1))
            case rel=>exact⟨k+1,AA HK.o HLT.o,by go_num,by rw[FG _ HBL.o,HT.o,HBU.o,HBC.o];exact HOb.o,HXb.o⟩
            case measure=>exact Az HK.o HLT.o
          | true=>
            go_upto_region 13 with fail
            refine Am (by kernel_rfl) [6] 9 [0,1,2,3,4,5] [51,52,53,54,55,56] #[true,true,true,true,true,true,false] 1 [(fun v _=>v = .pointer (some ⟨g5,2,none⟩)),(fun v _=>v = .int .u64 (t.ca:Int)),(fun v _=>v = .int .i64 (k:Int)),(fun v _=>v = .int .u64 (pw k:Int)),(fun v _=>v = .int .u64 ((Ab t.ca k:Nat):Int)),(fun v _=>v = .pointer (some ⟨g5,2,none⟩)),(fun _ _=>True)] (by kernel_rfl) (by kernel_rfl) (by kernel_rfl) (by kernel_rfl) (by kernel_rfl) rfl (by kernel_rfl) rfl ?_ ?_ ?_
            ·exact⟨A8 _,A8 _,A8 _,A8 _,A8 _,A8 _,An,trivial⟩
            ·refine⟨?_,?_,?_,?_,?_,?_,trivial⟩
             ·refine A7 (o:=⟨some 51,_,_,_,_,_⟩) rfl (fun r V hc hf hg hs hb hd=>?_);have x5:r (.tmp 5) = .pointer (some ⟨g5,0,none⟩):=hs 5 (by kernel_rfl);clear hs hd hg;go_simp;exact X1
             ·refine A7 (o:=⟨some 52,_,_,_,_,_⟩) rfl (fun r V hc hf hg hs hb hd=>?_);have h0:r (.tmp 51) = .pointer (some ⟨g5,2,none⟩):=hd 0 51 rfl (by kernel_rfl);clear hs hd hg;have l:=A4 (A5 hb HOb.o) 2 _ (E1 _);go_simp;exact X1
             ·refine A7 (o:=⟨some 53,_,_,_,_,_⟩) rfl (fun r V hc hf hg hs hb hd=>?_);have x6:r (.tmp 6) = .int .i64 (k:Int):=hs 6 (by kernel_rfl);clear hs hd hg;go_simp;exact X1
             ·refine A7 (o:=⟨some 54,_,_,_,_,_⟩) rfl (fun r V hc hf hg hs hb hd=>?_);have h2:r (.tmp 53) = .int .i64 (k:Int):=hd 2 53 rfl (by kernel_rfl);clear hs hd hg;have h63:=HN63.o;have h0:(0:Int)≤k:=(by omega);have h1:min k 64=k:=(by omega);have h2:¬ (64:Int)≤k:=(by omega);have hs1:=Br k h63;go_simp;exact⟨VU _ _,by simp⟩
             ·refine A7 (o:=⟨some 55,_,_,_,_,_⟩) rfl (fun r V hc hf hg hs hb hd=>?_);have h1:r (.tmp 52) = .int .u64 (t.ca:Int):=hd 1 52 rfl (by kernel_rfl);have h3:r (.tmp 54) = .int .u64 (pw k:Int):=hd 3 54 rfl (by kernel_rfl);clear hs hd hg;have ho1:=Cw t.ca k HK63.o HTO.o.ca;go_simp;exact X1
             ·refine A7 (o:=⟨some 56,_,_,_,_,_⟩) rfl (fun r V hc hf hg hs hb hd=>?_);have x5:r (.tmp 5) = .pointer (some ⟨g5,0,none⟩):=hs 5 (by kernel_rfl);clear hs hd hg;go_simp;exact X1
            ·intro a V hb hx;have h0:a.eval (.tmp 51) = .pointer (some ⟨g5,2,none⟩):=hx 0 51 rfl rfl;have h1:a.eval (.tmp 52) = .int .u64 (t.ca:Int):=hx 1 52 rfl rfl;have h2:a.eval (.tmp 53) = .int .i64 (k:Int):=hx 2 53 rfl rfl;have h3:a.eval (.tmp 54) = .int .u64 (pw k:Int):=hx 3 54 rfl rfl;have h4:a.eval (.tmp 55) = .int .u64 ((Ab t.ca k:Nat):Int):=hx 4 55 rfl rfl;have h5:a.eval (.tmp 56) = .pointer (some ⟨g5,2,none⟩):=hx 5 56 rfl rfl;unfold AD;simp only[Wi,Wj,h0,h1,h2,h3,h4,h5,Act.put,VW,VX,VV];clear h0 h1 h2 h3 h4 h5 hx;have HOV:=hid (A5 hb HOb.o);have HXV:=hid (HXb.o.trans (WX.of_below hb));clear hb HOb HXb;refine wpAny_ready (rs:=[6]) (by kernel_rfl) (by simp) (AllReady.cons (o:=⟨none,_,_,_,_,_⟩) rfl (fun K hK=>?_) AllReady.nil);have c0:=A4 HOV.o 2 _ (E1 _);have f0:=Aq HOV.o 2;have hl:=Aj HOV.o;go_simp;clear c0 f0 hl;refine Bc ?_;intro Vc hVc;have ho:Ai g5 V Vc:=(by rw[hVc];exact(Ai.refl g5 V).setCell rfl _);have HOc:Hid (Vc.heap[g5]?=some (.cells (Af ({ t with lk:=Ab t.lk k,us:=Ab t.us k,ca:=Ab t.ca k }:St)).toArray 65)):=hid (by rw[hVc];exact(AG HOV.o 2 _).trans (congrArg (fun C=>some (Obj.cells C 65)) (KY _ _)));have HXc:=hid (HXV.o.trans (WX.of_only (X:=fun b=>b=g5) ho rfl));clear hVc ho HOV HXV;refine hK _ _ ?_;clear hK K;refine wpAny_done (by kernel_rfl) ?_ _;have y3:=A4 (HXc.o.keep HG.o.1 HQ3.o) (3+k) _ (HTK.o);have c3:=A4 HOc.o (3+k) _ (Ei _ HK64.o);have f3:=Aq HOc.o (3+k);have hl3:=Aj HOc.o;have d5:(0:Int)≤k:=(by omega);have d6:(k:Int)<64:=(by have:=HK64.o;omega);go_upto_region 15 with fail
             refine BR ?_;intro WZ hWZ;clear y3 c3 f3 hl3 d5 d6;have e20:((min tk 20:Nat):Int)=min (tk:Int) 20:=(by omega);rw[← e20] at hWZ;have ho:Ai g5 Vc WZ:=(by rw[hWZ];exact(Ai.refl g5 Vc).setCell rfl _);have HOE:Hid (WZ.heap[g5]?=some (.cells (Af ({ t with lk:=Ab t.lk k,us:=Ab t.us k,ca:=Ab t.ca k,tm:=BZ t.tm k (min tk 20) }:St)).toArray 65)):=hid (by rw[hWZ];exact(AG HOc.o (3+k) _).trans (congrArg (fun C=>some (Obj.cells C 65)) (Ff _ (min tk 20) HK64.o)));have HXE:=hid (HXc.o.trans (WX.of_only (X:=fun b=>b=g5) ho rfl));clear hWZ ho HOc HXc e20;go_wp2_with fail;go_roundg (N1 - (k+1))
             case rel=>exact⟨k+1,AA HK.o HLT.o,by go_num,by rw[FG _ HBL.o,HT.o,HBU.o,HBC.o,HTMK.o];exact HOE.o,HXE.o⟩
             case measure=>exact Az HK.o HLT.o
   ·have d2:¬ (k:Int)<N1:=(by omega);have hkn:k=N1:=(by have:=HK.o;omega);have HOF:Hid (wr.heap[g5]?=some (.cells (Af (AI N1 P s)).toArray 65)):=hid (hkn ▸ HOQ.o);have HR4:=hid (HXR.o.keep HG.o.2.1 HQ4.o);have HBE:Hid (Below w.heap.size w wr):=hid (HXR.o.below HBW.o (fun b h=>by rw[h];exact HG.o.2.2.1));clear hlt hkn;have HLD:=hid (Au HOF.o);obtain⟨hst,hq9,ho9⟩:=AH (s':=(AI N1 P s)) HR4.o;have HST:=hid hst;have HQ9:=hid hq9;have HB9:Hid (Below w.heap.size w (wr.setCells g4 0 (Af (AI N1 P s)))):=hid (Ai.below HBE.o HG.o.2.2.2 HBE.o.size ho9);clear hst hq9 ho9;go_wp2_with (first
     | (refine Ah (op:=⟨some 66,_,_,_,_,_⟩) rfl 65 _ rfl _ _ rfl HLD.o ?_)
     | (refine Ag (op:=⟨none,.store 65 _ _,_,_,_,_⟩) rfl 65 _ _ rfl _ _ rfl rfl _ HST.o ?_))
    (try simp only[Exit.inBlock,Exit.then])
    refine bodyPost_ret (results_cell_row (g:=g4) rfl _ _ 65 (Af (AI N1 P s)).toArray (0,0) _ rfl HQ9.o Tryz.underlying65 rfl (by rw[Wn,AS];exact Bf)) rfl ?_;exact⟨rfl,HB9.o⟩
end Go.Proofs.YtpohoannggdbjaaGreat
