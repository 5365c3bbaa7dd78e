/- Ours: MoD; MoE. -/
import Derived.Test.YtpohoannggdbjaaGreatMoC
import Derived.Test.YtpohoannggdbjaaGreatIxL
import Derived.RangeFuncNested
import Derived.RangeFuncBound
import Derived.RangeFuncCalls
import Derived.RangeFuncLeaves
import Derived.RangeFuncBox
import Derived.Shelf.Abstract
import Derived.Shelf.RegionOpen
import Derived.WalkKit
import Derived.OwnWalkIn
import Derived.TacticsInMore
import Derived.LoopNIn
import Derived.LoopIn
import Derived.Maps.AppendAt
import Derived.Maps.RangeWalk
set_option maxRecDepth 100000
set_option maxHeartbeats 200000000
namespace Go.Proofs.YtpohoannggdbjaaGreat
open Lib (hid)
open Go.RowKit
section
theorem NJ:Tryz.prog.stoodInHeld 44=false:=by kernel_rfl
theorem Lp : (Tryz.prog.fieldsOf 44).toList.map (fun f => (f.name, f.type, f.offset)) = [("Proceed", 33, 0), ("Points", 29, 1)] := by kernel_rfl
theorem FW(k1 k2 n1 n2:Int)(w:World):(Op.equalIn 10000 44 (.agg #[.int .u64 k1,.int .u32 n1]) (.agg #[.int .u64 k2,.int .u32 n2])).run Tryz.prog w = .ok (k1 == k2 && n1 == n2) w:=by
 rw[run_equalIn_agg w 9999 44 _ _ (by kernel_rfl) NJ];have h:=Lp;obtain⟨f,L1,hL,hf,h1⟩:=List.map_eq_cons_iff.1 h;obtain⟨g,L2,hL1,hg,h2⟩:=List.map_eq_cons_iff.1 h1;obtain rfl:=List.map_eq_nil_iff.1 h2;simp only[Prod.mk.injEq] at hf hg;obtain⟨a1,a2,a3⟩:=hf;obtain⟨b1,b2,b3⟩:=hg;rw[hL,hL1];cases hk:k1 == k2<;>cases hn:n1 == n2
 all_goals simp[Op.eqFields,a1,a2,a3,b1,b2,b3,part,go_sem,hk,hn]
theorem QT(k1 k2 n1 n2:Int)(w:World):(binOp .eql 44 (.agg #[.int .u64 k1,.int .u32 n1]) (.agg #[.int .u64 k2,.int .u32 n2])).run Tryz.prog w = .ok (.bool (k1 == k2 && n1 == n2)) w:=by
 rw[run_eql_struct,FW];rfl
def Cx(y:Sh):List Value:=[.bool y.st,.int .u64 (y.p:Int),.int .u32 (y.q:Int)]
attribute [local irreducible] Sl.v Aa pw Ab Aw C8 Af BC CD Bi Bg B9 CB BQ AU Bp BB BG Bh Bd BP Bo BL BF BN AI AY AV Be Bw Bq C4 Mc.tb BZ AX Ap B5
attribute [local irreducible] Bs BV C6 BS Ay AN
theorem JQ(bm bi bs bc bn r m:Nat)(x:Iv)(s NS:St)(OP PT:Nat)(sa:Option Addr)(k sc i:Nat)(Y:List Sh)(y:Sh)(N:List St)(w:World)(hm:w.heap[bm]?=some (.cells #[.pointer (some ⟨m,0,none⟩)] 72))(hi:w.heap[bi]?=some (.cells #[.int .u64 (x.oc:Int),.int .u32 (x.no:Int),.int .u32 (x.re:Int),.slice x.a x.len x.cap] 35))(hs:w.heap[bs]?=some (.cells #[.slice sa k sc] 42))(hc:w.heap[bc]?=some (.cells #[.int .i64 (i:Int)] 3))(hn:w.heap[bn]?=some (.cells #[.map (some r)] 78))(hN:CH w r N)(hY:As 3 Cx w sa Y)(hk:Y.length=k)(hy:Y[i]?=some y)
 (hst:∀ V,Below w.heap.size w V→Calls Tryz.prog 19 #[.pointer (some ⟨m,0,none⟩),.agg (Af s).toArray,.agg #[.int .u64 (x.oc:Int),.int .u32 (x.no:Int),.int .u32 (x.re:Int),.slice x.a x.len x.cap]] V fun e w'=>e = .returned (.tuple #[.agg (Af NS).toArray,.agg #[.int .u64 (OP:Int),.int .u32 (PT:Int)]])∧Below V.heap.size V w') :
 Calls Tryz.prog 21 #[.agg (Af s).toArray,.pointer (some ⟨bm,0,none⟩),.pointer (some ⟨bi,0,none⟩),.pointer (some ⟨bs,0,none⟩),.pointer (some ⟨bc,0,none⟩),.pointer (some ⟨bn,0,none⟩)] w fun e w'=>(∃ v,e = .returned v)∧CH w' r (if y.st || (OP == y.p && PT == y.q) then Bs N NS else N)∧Ai r w w':=by
 have hik:i<k:=by rw[← hk];exact(We.1 hy).1
 have d1:(0:Int)≤i:=by omega
 have d2:(i:Int)<k:=by omega
 rcases hY with hnil | ⟨sb,so,hsa,hcl⟩
 ·rw[hnil] at hy;cases hy
 subst hsa;have z0:=hcl i _ hy 0 _ rfl;have z1:=hcl i _ hy 1 _ rfl;have z2:=hcl i _ hy 2 _ rfl;rw[Wa] at z0;have HZ:=hid (And.intro z0 (And.intro z1 z2));have HN:=hid hn;have HI:=hid hi;have HS:=hid hs;have HC:=hid hc;have HM:=hid hm;have HMS:=hid hN;have KST:=hid hst;have HD:=hid (And.intro d1 d2);obtain⟨b,hb⟩:=WY (((OP:Int) ==(y.p:Int) && (PT:Int) ==(y.q:Int)));have HEQ:Hid (∀ w,(binOp .eql 44 (.agg #[.int .u64 (OP:Int),.int .u32 (PT:Int)]) (.agg #[.int .u64 (y.p:Int),.int .u32 (y.q:Int)])).run Tryz.prog w = .ok (.bool b) w):=hid (fun w=>by rw[QT,hb]);have HBB:Hid ((OP == y.p && PT == y.q)=b):=hid (by
  rw[← hb,Ww];simp only[Wl,WH];omega)
 obtain⟨t,ht⟩:=WY y.st;rw[ht] at HZ ⊢;rw[HBB.o];obtain⟨R,hR⟩:=WY (if t || b then Bs N NS else N);rw[hR];have HR:=hid hR;clear hR ht;clear hik d1 d2 hcl hy z0 z1 z2 hn hi hs hc hm hN hst hb hk;go_enter Tryz.func21,Tryz.ntmps21;go_upto_region 1 with fail
 refine Ao (os:=[.cells (Af s).toArray 65]) (w0:=w) rfl ?_;intro W hat hbw;have q0:=hat 0 _ rfl;rw[Wa] at q0;obtain⟨g6,hg6⟩:=X0 w.heap.size;rw[← hg6] at q0 ⊢;have HQ6:=hid q0;have HB0:=hid hbw;have HLD:=hid (Au q0);have l1:=A4 (A5 hbw HM.o) 0 _ rfl;have i0:=A4 (A5 hbw HI.o) 0 _ rfl;have i1:=A4 (A5 hbw HI.o) 1 _ rfl;have i2:=A4 (A5 hbw HI.o) 2 _ rfl;have i3:=A4 (A5 hbw HI.o) 3 _ rfl;clear hat hbw q0 hg6;go_wp2_with ((with_reducible refine Ah (op:=⟨some 11,_,_,_,_,_⟩) rfl 65 _ rfl _ _ ?_ HLD.o ?_);(· rfl));refine(KST.o _ HB0.o).mono ?_;rintro e w1 ⟨rfl,hb1⟩;have HB1:=hid (A6 HB0.o hb1);clear hb1 l1 i0 i1 i2 i3 HLD HQ6 KST;have ha:=DP [.cells (Af zS).toArray 65,.cells #[.int .u64 0,.int .u32 0] 44] w1;have hal:=Cs [.cells (Af zS).toArray 65,.cells #[.int .u64 0,.int .u32 0] 44] w1;have q7:=ha 0 _ rfl;have q8:=ha 1 _ rfl;rw[Wa] at q7;obtain⟨hst,hq9,ho9⟩:=AH (s':=NS) q7;have HST:=hid hst;have HTT:=hid hq9;have HV1:Hid (Below w1.heap.size w1 ((List.foldl World.alloc w1 [.cells (Af zS).toArray 65,.cells #[.int .u64 0,.int .u32 0] 44]).setCells w1.heap.size 0 (Af NS))):=hid (Ai.below hal (Wc _) hal.size ho9);have HX:=hid (Ai.keep ho9 (by omega) q8);obtain⟨VA,hVA⟩:∃ V',V'=(List.foldl World.alloc w1 [.cells (Af zS).toArray 65,.cells #[.int .u64 0,.int .u32 0] 44]).setCells w1.heap.size 0 (Af NS):=⟨_,rfl⟩;rw[← hVA] at HST HTT HV1 HX;simp only[Wi,Wj] at HST;obtain⟨g7,hg7⟩:=X0 w1.heap.size;have HG7:Hid (w1.heap.size≤g7):=hid (by omega);clear ha hal q7 q8 hst hq9 ho9 hVA;have x0:=A4 HX.o 0 _ rfl;have x1:=A4 HX.o 1 _ rfl;have f0:=Aq HX.o 0;have f1:=Aq HX.o 1;have hl:=Aj HX.o;go_upto_region 2 with (first
  | rw[Bz]
  | ((with_reducible refine Ag (op:=⟨none,.store 65 _ _,_,_,_,_⟩) rfl 65 _ _ rfl _ _ ?_ ?_ _ HST.o ?_);(· rfl);(· rfl)))
 (try simp only[Act.put,VW,VX,VV])
 rw[← hg7] at HTT HX ⊢;clear HST x0 x1 f0 f1 hl hg7;obtain⟨VB,hVB⟩:=X0 ((VA.setCell ⟨g7+1,0,none⟩ (.int .u64 (OP:Int))).setCell ⟨g7+1,1,none⟩ (.int .u32 (PT:Int)));rw[← hVB];have ho:Ai (g7+1) VA VB:=by rw[hVB];exact((Ai.refl (g7+1) VA).setCell rfl _).setCell rfl _
 have HOB:Hid (VB.heap[g7+1]?=some (.cells #[.int .u64 (OP:Int),.int .u32 (PT:Int)] 44)):=hid (by rw[hVB];exact AG (AG HX.o 0 _) 1 _);have HTB:=hid (Ai.keep ho (by omega) HTT.o);have HVB:Hid (Below w1.heap.size w1 VB):=hid (Ai.below HV1.o (by have:=HG7.o;omega) HV1.o.size ho);have HBV:=hid (A6 HB1.o HVB.o);have HMV:=hid (HMS.o.below HBV.o);have HNV:=hid (A5 HBV.o HN.o);have HSV:=hid (A5 HBV.o HS.o);have HCV:=hid (A5 HBV.o HC.o);have HZV:=hid (And.intro (VY HBV.o HZ.o.1) (And.intro (VY HBV.o HZ.o.2.1) (VY HBV.o HZ.o.2.2)));have d1:=HD.o.1;have d2:=HD.o.2;clear ho hVB HX HTT HV1 HVB HN HS HC HZ HMS HB1 HB0;cases t with
 | true=>
   have s0:=A4 HSV.o 0 _ rfl;have c0:=A4 HCV.o 0 _ rfl;have z0:=HZV.o.1;go_quiet (fail);obtain⟨w7,h7⟩:=X0 (VB.drewN nq);have hw7:Below VB.heap.size VB w7:=(by rw[h7];exact below_drewN (VU _ _) nq);rw[← h7];have HM7:=hid (HMV.o.below hw7);have HT7:=hid (A5 hw7 HTB.o);have HN7:=hid (A5 hw7 HNV.o);have HB7:=hid (A6 HBV.o hw7);clear h7 hw7 s0 c0 z0 d1 d2;obtain⟨w9,hup,hms9,ho9⟩:=Ef NS HM7.o;unfold BC at hup;have HF:Hid (CH w9 r (Bs N NS)∧Ai r w w9):=hid ⟨hms9,(Ai.of_below HB7.o).trans ho9⟩;have HLD:=hid (Au HT7.o);have e5:=A4 HN7.o 0 _ rfl;clear hms9 ho9;go_wp2_with ((with_reducible refine Ah (op:=⟨some 31,_,_,_,_,_⟩) rfl 65 _ rfl _ _ ?_ HLD.o ?_);(· rfl));go_end0;exact⟨⟨_,rfl⟩,by rw[← HR.o];exact HF.o⟩
 | false=>
   have heq:=HEQ.o;have KNO:=hid (fun(w':World) (_:Below VB.heap.size VB w')=>trivial);cases b with
   | true=>
     go_upto_region 2 with fail
     refine Ad (by kernel_rfl) ?_ ?_
     ·kernel_rfl
     repeat first
      | go_big_quiet_skip
      | (go_big_quiet_want;go_big_quiet_op;go_big_quiet_on)
      | (with_reducible apply wpQuiet_step
         intro K hK;go_simp;first
          | (refine hK _ ?_;clear hK K)
          | (apply Exists.intro
             refine⟨fun w' hw'=>?_,hK _ ?_⟩
             ·
              (first
               | with_reducible exact KNO.o _ hw'
               | (have s0:=A4 (A5 hw' HSV.o) 0 _ rfl
                  go_simp;first | done | with_reducible exact rfl | with_reducible exact⟨rfl,rfl⟩ | with_reducible exact KNO.o _ hw')
               | (have c0:=A4 (A5 hw' HCV.o) 0 _ rfl
                  go_simp;first | done | with_reducible exact rfl | with_reducible exact⟨rfl,rfl⟩ | with_reducible exact KNO.o _ hw')
               | (have o0:=A4 (A5 hw' HOB.o) 0 _ rfl
                  have o1:=A4 (A5 hw' HOB.o) 1 _ rfl;go_simp;first | done | with_reducible exact rfl | with_reducible exact⟨rfl,rfl⟩ | with_reducible exact KNO.o _ hw')
               | (have z0:=VY hw' HZV.o.1
                  have z1:=VY hw' HZV.o.2.1;have z2:=VY hw' HZV.o.2.2;go_simp;first | done | with_reducible exact rfl | with_reducible exact⟨rfl,rfl⟩ | with_reducible exact KNO.o _ hw'))
             clear hK K))
     refine wpQuiet_nil ?_;intro w7 hw7;have HM7:=hid (HMV.o.below hw7);have HT7:=hid (A5 hw7 HTB.o);have HN7:=hid (A5 hw7 HNV.o);have HB7:=hid (A6 HBV.o hw7);clear hw7;clear heq d1 d2;obtain⟨w9,hup,hms9,ho9⟩:=Ef NS HM7.o;unfold BC at hup;have HF:Hid (CH w9 r (Bs N NS)∧Ai r w w9):=hid ⟨hms9,(Ai.of_below HB7.o).trans ho9⟩;have HLD:=hid (Au HT7.o);have e5:=A4 HN7.o 0 _ rfl;clear hms9 ho9;go_wp2_with ((with_reducible refine Ah (op:=⟨some 31,_,_,_,_,_⟩) rfl 65 _ rfl _ _ ?_ HLD.o ?_);(· rfl));go_end0;exact⟨⟨_,rfl⟩,by rw[← HR.o];exact HF.o⟩
   | false=>
     go_upto_region 2 with fail
     refine Ad (by kernel_rfl) ?_ ?_
     ·kernel_rfl
     repeat first
      | go_big_quiet_skip
      | (go_big_quiet_want;go_big_quiet_op;go_big_quiet_on)
      | (with_reducible apply wpQuiet_step
         intro K hK;go_simp;first
          | (refine hK _ ?_;clear hK K)
          | (apply Exists.intro
             refine⟨fun w' hw'=>?_,hK _ ?_⟩
             ·
              (first
               | with_reducible exact KNO.o _ hw'
               | (have s0:=A4 (A5 hw' HSV.o) 0 _ rfl
                  go_simp;first | done | with_reducible exact rfl | with_reducible exact⟨rfl,rfl⟩ | with_reducible exact KNO.o _ hw')
               | (have c0:=A4 (A5 hw' HCV.o) 0 _ rfl
                  go_simp;first | done | with_reducible exact rfl | with_reducible exact⟨rfl,rfl⟩ | with_reducible exact KNO.o _ hw')
               | (have o0:=A4 (A5 hw' HOB.o) 0 _ rfl
                  have o1:=A4 (A5 hw' HOB.o) 1 _ rfl;go_simp;first | done | with_reducible exact rfl | with_reducible exact⟨rfl,rfl⟩ | with_reducible exact KNO.o _ hw')
               | (have z0:=VY hw' HZV.o.1
                  have z1:=VY hw' HZV.o.2.1;have z2:=VY hw' HZV.o.2.2;go_simp;first | done | with_reducible exact rfl | with_reducible exact⟨rfl,rfl⟩ | with_reducible exact KNO.o _ hw'))
             clear hK K))
     refine wpQuiet_nil ?_;intro w7 hw7;have HM7:=hid (HMV.o.below hw7);have HT7:=hid (A5 hw7 HTB.o);have HN7:=hid (A5 hw7 HNV.o);have HB7:=hid (A6 HBV.o hw7);clear hw7;clear heq d1 d2;go_wp2_with fail;go_end0;exact⟨⟨_,rfl⟩,by rw[← HR.o];exact HM7.o,Ai.of_below HB7.o⟩
end
section
open Go.RowKit Go.Shelf
attribute [local go_sem] Oper.semAt_some
theorem E2{F:Fence}{n:Nat}{P:Program}{ops:Array Oper}{rest:List Oper}{op:Oper}{a:Act}{w:World}{Q:Exit→Act→World→Prop}(hgd:op.guard=none)(ty:TypeId)(x:Operand)(ho:op.op = .load ty x)(vx v:Value)(hx:a.eval x=vx)
 (hr:(Instr.loadAt ty vx).run P w = .ok v w) (h:wpListIn F n P ops Q rest (a.put op.dst v) w):wpListIn F n P ops Q (op :: rest) a w:=
 wpListIn_plain hgd fun K hK=>by
  unfold Oper.wpIn;refine⟨?_,?_⟩
  ·simp[Oper.about,ho]
  ·rw[Oper.semAt_plain F _ _ (by rw[ho];intro c hc';cases hc')];unfold execOp;simp only[ho,hx,Sem.run_bind,hr,Result.andThen_ok,Sem.run_pure];exact hK _ _ h
theorem DJ{F:Fence}{n:Nat}{P:Program}{ops:Array Oper}{rest:List Oper}{op:Oper}{a:Act}{w:World}{Q:Exit→Act→World→Prop}(hgd:op.guard=none)(ty:TypeId)(x y:Operand)(ho:op.op = .store ty x y)(vx vy:Value)(hx:a.eval x=vx)(hy:a.eval y=vy)
 (w':World) (hr:(Instr.storeAt ty vx vy).run P w = .ok () w') (h:wpListIn F n P ops Q rest (a.put op.dst undef) w'):wpListIn F n P ops Q (op :: rest) a w:=
 wpListIn_plain hgd fun K hK=>by
  unfold Oper.wpIn;refine⟨?_,?_⟩
  ·simp[Oper.about,ho]
  ·rw[Oper.semAt_plain F _ _ (by rw[ho];intro c hc';cases hc')];unfold execOp;simp only[ho,hx,hy,Sem.run_bind,hr,Result.andThen_ok,Sem.run_pure];exact hK _ _ h
theorem Mh{w:World}{it m:Nat}{K L:List St}(h:Fh w it m K L):w.rangeLeft m it=L.length:=by
 obtain⟨es,clock,since,seen,c0,a1,a2,a3,a4,a5,a6,a7,a8⟩:=h;unfold World.rangeLeft;rw[a2,a1];have:=congrArg List.length a8;simpa using this
theorem Fh.walks{w w':World}{it m:Nat}{K L:List St}(h:Fh w it m K L)(k:KeepsWalks w w'):Fh w' it m K L:=by
 obtain⟨es,clock,since,seen,c0,a1,a2,a3⟩:=h;exact⟨es,clock,since,seen,c0,k.same _ _ a1 rfl,k.same _ _ a2 rfl,a3⟩
theorem Lo{it:Nat}{w w':World}(h:Ai it w w'):w.grownBy w' (some it):=⟨h.os,h.tape,h.output,h.size,fun k hk hne=>h.block k hk (fun e=>hne (by rw[e]))⟩
theorem Fk{w w':World}(h:Below w.heap.size w w'):w.grownBy w' none:=⟨h.os,h.tape,h.output,h.size,fun k hk _=>h.block k hk⟩
theorem G9{w w':World}(h:Below w.heap.size w w'):KeepsWalks w w':=⟨h.size,fun _ _ hk _=>A5 h hk⟩
theorem IV(W:World)(s:St):(Instr.storeAt 65 (.pointer (some ⟨W.heap.size,0,none⟩)) (.agg (Af s).toArray)).run Tryz.prog (W.alloc (.cells (Af zS).toArray 65)) = .ok () ((W.alloc (.cells (Af zS).toArray 65)).setCells W.heap.size 0 (Af s))∧((W.alloc (.cells (Af zS).toArray 65)).setCells W.heap.size 0 (Af s)).heap[W.heap.size]?=some (.cells (Af s).toArray 65)∧Below W.heap.size W ((W.alloc (.cells (Af zS).toArray 65)).setCells W.heap.size 0 (Af s)):=by
 have hb:=Ac W (.cells (Af zS).toArray 65);obtain⟨h1,h2,h3⟩:=AH (s':=s) (Al W (.cells (Af zS).toArray 65) (VU _ _));exact⟨h1,h2,Ai.below hb (Wc _) hb.size h3⟩
attribute [local irreducible] Sl.v Aa pw Ab Aw Af CD El Bq Bs BV C6 BS Ay AN
theorem Ll(n:Nat)(hn:2≤n)(Bm r:Nat)(K:List St)(w:World)(hB:w.heap[Bm]?=some (.cells #[.map (some r)] 78))(hms:CH w r K) :
 SeqStopsK Fence.wide n Tryz.prog 38 #[.pointer (some ⟨Bm,0,none⟩)] (fun s:St => #[.agg (Af s).toArray]) KeepsWalks (fun ys=>ys.Perm K) (fun _=>True) K.length w:=fun lp J Jx W hW hA _ hY h0=>by
 have c0:=A4 (A5 hW hB) 0 _ rfl;obtain⟨o,hrg,hit⟩:=FB (hms.below hW);have HA:=hid hA;have hJ0:J [] (W.alloc o):=hA [] W _ none h0 (World.grownBy_alloc W o none) (fun r e=>by cases e);have hbw:=Ac W o;obtain⟨it,hite⟩:=X0 W.heap.size;obtain⟨W1,hW1⟩:=X0 (W.alloc o);have HIT:Hid (W.heap.size≤it):=hid (by omega);rw[← hite] at hit hrg;rw[← hW1] at hit hrg hJ0 hbw;have HBW:=hid hbw;clear hite hW1 hA hbw hB hms hW;refine callsIn_of_wp Tryz.func38 rfl trivial ?_ rfl;simp only[Tryz.ntmps38,Wn,WK,WQ,Nat.reduceAdd,Nat.reduceSub,Array.replicate_succ,Array.replicate_zero,List.push_toArray,List.append_toArray,WC,List.cons_append];gi_wp2
 (try go_frame)
 clear hrg c0;gi_loopw [3] (fun _ wr=>∃(D L:List St),K.Perm (D ++ L)∧Fh wr it r K L∧J D wr) (fun _ wr=>wr.rangeLeft r it)
 case atStart=>exact⟨[],K,List.Perm.refl _,hit,hJ0⟩
 case round=>
  obtain⟨D,L,hP,hI,hJ⟩:=hrel;have HL:=hid (Mh hI);rcases Gg 0 hI with ⟨hL,hrun⟩ | ⟨s,L',w2,hPL,hrun,hI2,hO,hsz,hen⟩
  ·subst hL;rw[Wt] at hP;have HP:=hid hP.symm;clear hP hI;gi_wp2;go_end0;exact⟨⟨_,rfl⟩,.inl ⟨_,HP.o,hJ⟩⟩
  ·unfold BC at hrun hen;have hJ2:J D w2:=HA.o D wr w2 (some it) hJ (Lo hO) (fun r' e=>by
    cases e;obtain⟨es,clock,since,seen,c0,a1,_⟩:=hI;exact⟨HIT.o,_,a1,rfl⟩)
   obtain⟨hst,hq,hbb⟩:=IV w2 s;have hJ4:=HA.o D w2 _ none hJ2 (Fk hbb) (fun r' e=>by cases e);have hI4:=hI2.walks (G9 hbb);obtain⟨w4,hw4⟩:=X0 ((w2.alloc (.cells (Af zS).toArray 65)).setCells w2.heap.size 0 (Af s));rw[← hw4] at hst hq hJ4 hI4;have HST:=hid hst;have HLD:=hid (Au hq);have HP2:Hid (K.Perm ((D ++ [s]) ++ L')):=hid (by
    rw[Wx];exact hP.trans (hPL.append_left D))
   have HLT:Hid (L'.length<L.length):=hid (by rw[hPL.length_eq];exact Nat.lt_succ_self _);have hlen:D.length<K.length:=(by rw[hP.length_eq,Wh,hPL.length_eq,WK];omega);obtain⟨fn,tmps,assign,body,hy,hR⟩:=hY D s w4 hJ4 hlen;clear hst hq hbb hw4 hP hPL hlen hJ hJ2 hI hI2 hO hsz;gi_wp2_with (first
    | rw[Bz]
    | ((with_reducible refine DJ (op:=⟨none,.store 65 _ _,_,_,_,_⟩) rfl 65 _ _ rfl _ _ ?_ ?_ _ HST.o ?_);(· rfl);(· rfl))
    | ((with_reducible refine E2 (op:=⟨some 11,_,_,_,_,_⟩) rfl 65 _ rfl _ _ ?_ HLD.o ?_);(· rfl)))
   refine⟨fun _=>by omega,?_⟩;refine hR.mono ?_;rintro e W' (⟨rfl,hJ',hk'⟩ | ⟨rfl,hJx⟩)
   ·have hI5:=hI4.walks hk';gi_wp2;go_roundw
    case rel=>exact⟨D ++ [s],L',HP2.o,hI5,hJ'⟩
    case measure=>rw[Mh hI5,HL.o];exact HLT.o
   ·gi_wp2;refine bodyPost_ret (results_none rfl _ _ _) rfl ?_;exact⟨⟨_,rfl⟩,.inr ⟨_,trivial,hJx⟩⟩
end
end Go.Proofs.YtpohoannggdbjaaGreat
