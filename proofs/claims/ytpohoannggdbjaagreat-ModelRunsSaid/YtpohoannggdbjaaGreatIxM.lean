/- Ours: MoD; MoE; MoF; IxM. -/
import Derived.Test.YtpohoannggdbjaaGreatIxD
import Derived.Test.YtpohoannggdbjaaGreatIxL
import Derived.RangeFuncNested
import Derived.RangeFuncBound
import Derived.RangeFuncCalls
import Derived.RangeFuncLeaves
import Derived.RangeFuncBox
import Derived.Shelf.Abstract
import Derived.Shelf.RegionOpen
import Derived.WalkKit
import Derived.OwnWalkIn
import Derived.TacticsInMore
import Derived.LoopNIn
import Derived.LoopIn
import Derived.Maps.AppendAt
import Derived.Maps.RangeWalk
import Derived.Great.BuildSlice
import Derived.Test.YtpohoannggdbjaaGreatMC
import Derived.Test.YtpohoannggdbjaaGreatCoF
namespace Go.Proofs.YtpohoannggdbjaaGreat
open Lib (hid)
open Go.RowKit
set_option maxRecDepth 100000
theorem LF:Tryz.prog.stoodInHeld 44=false:=by kernel_rfl
theorem JK : (Tryz.prog.fieldsOf 44).toList.map (fun f => (f.name, f.type, f.offset)) = [("Proceed", 33, 0), ("Points", 29, 1)] := by kernel_rfl
theorem GT(k1 k2 n1 n2:Int)(w:World):(Op.equalIn 10000 44 (.agg #[.int .u64 k1,.int .u32 n1]) (.agg #[.int .u64 k2,.int .u32 n2])).run Tryz.prog w = .ok (k1 == k2 && n1 == n2) w:=by
 rw[run_equalIn_agg w 9999 44 _ _ (by kernel_rfl) LF];have h:=JK;obtain⟨f,L1,hL,hf,h1⟩:=List.map_eq_cons_iff.1 h;obtain⟨g,L2,hL1,hg,h2⟩:=List.map_eq_cons_iff.1 h1;obtain rfl:=List.map_eq_nil_iff.1 h2;simp only[Prod.mk.injEq] at hf hg;obtain⟨a1,a2,a3⟩:=hf;obtain⟨b1,b2,b3⟩:=hg;rw[hL,hL1];cases hk:k1 == k2<;>cases hn:n1 == n2
 all_goals simp[Op.eqFields,a1,a2,a3,b1,b2,b3,part,go_sem,hk,hn]
theorem NY(k1 k2 n1 n2:Int)(w:World):(binOp .eql 44 (.agg #[.int .u64 k1,.int .u32 n1]) (.agg #[.int .u64 k2,.int .u32 n2])).run Tryz.prog w = .ok (.bool (k1 == k2 && n1 == n2)) w:=by
 rw[run_eql_struct,GT];rfl
def QW(y:Sh):List Value:=[.bool y.st,.int .u64 (y.p:Int),.int .u32 (y.q:Int)]
attribute [local irreducible] Sl.v Aa pw Ab Ax C4 Ai BG Cs Bi Bf B7 Cr BO AT Bk Bw BD Bh Bg BQ Bj BI BC BM AD AS AR Bc BB Bq CT Mc.tb BU AQ Aq AW
attribute [local irreducible] Bt Cp CR Dj AE Bz
set_option maxHeartbeats 8000000 in
theorem J2(bm bi bs bc bn r m:Nat)(x:Iv)(s NS:St)(OP PT:Nat)(sa:Option Addr)(k sc i:Nat)(Y:List Sh)(y:Sh)(N:List St)(w:World)(hm:w.heap[bm]?=some (.cells #[.pointer (some ⟨m,0,none⟩)] 72))(hi:w.heap[bi]?=some (.cells #[.int .u64 (x.oc:Int),.int .u32 (x.no:Int),.int .u32 (x.re:Int),.slice x.a x.len x.cap] 35))(hs:w.heap[bs]?=some (.cells #[.slice sa k sc] 42))(hc:w.heap[bc]?=some (.cells #[.int .i64 (i:Int)] 3))(hn:w.heap[bn]?=some (.cells #[.map (some r)] 78))(hN:Cm w r N)(hY:AF 3 QW w sa Y)(hk:Y.length=k)(hy:Y[i]?=some y)
 (hst:∀ V,Below w.heap.size w V→Calls Tryz.prog 19 #[.pointer (some ⟨m,0,none⟩),.agg (Ai s).toArray,.agg #[.int .u64 (x.oc:Int),.int .u32 (x.no:Int),.int .u32 (x.re:Int),.slice x.a x.len x.cap]] V fun e w'=>e = .returned (.tuple #[.agg (Ai NS).toArray,.agg #[.int .u64 (OP:Int),.int .u32 (PT:Int)]])∧Below V.heap.size V w') :
 Calls Tryz.prog 21 #[.agg (Ai s).toArray,.pointer (some ⟨bm,0,none⟩),.pointer (some ⟨bi,0,none⟩),.pointer (some ⟨bs,0,none⟩),.pointer (some ⟨bc,0,none⟩),.pointer (some ⟨bn,0,none⟩)] w fun e w'=>(∃ v,e = .returned v)∧Cm w' r (if y.st || (OP == y.p && PT == y.q) then Bt N NS else N)∧Ag r w w':=by
 have hik:i<k:=by rw[← hk];exact(List.getElem?_eq_some_iff.1 hy).1
 have d1:(0:Int)≤i:=by omega
 have d2:(i:Int)<k:=by omega
 rcases hY with hnil | ⟨sb,so,hsa,hcl⟩
 ·rw[hnil] at hy;cases hy
 subst hsa;have z0:=hcl i _ hy 0 _ rfl;have z1:=hcl i _ hy 1 _ rfl;have z2:=hcl i _ hy 2 _ rfl;rw[Nat.add_zero] at z0;have HZ:=hid (And.intro z0 (And.intro z1 z2));have HN:=hid hn;have HI:=hid hi;have HS:=hid hs;have HC:=hid hc;have HM:=hid hm;have HMS:=hid hN;have KST:=hid hst;have HD:=hid (And.intro d1 d2);obtain⟨b,hb⟩:∃ b,((OP:Int) ==(y.p:Int) && (PT:Int) ==(y.q:Int))=b:=⟨_,rfl⟩;have HEQ:Hid (∀ w,(binOp .eql 44 (.agg #[.int .u64 (OP:Int),.int .u32 (PT:Int)]) (.agg #[.int .u64 (y.p:Int),.int .u32 (y.q:Int)])).run Tryz.prog w = .ok (.bool b) w):=hid (fun w=>by rw[NY,hb]);have HBB:Hid ((OP == y.p && PT == y.q)=b):=hid (by
  rw[← hb,Bool.eq_iff_iff];simp only[Bool.and_eq_true,beq_iff_eq];omega)
 obtain⟨t,ht⟩:∃ t,y.st=t:=⟨_,rfl⟩;rw[ht] at HZ ⊢;rw[HBB.out];obtain⟨R,hR⟩:∃ R,(if t || b then Bt N NS else N)=R:=⟨_,rfl⟩;rw[hR];have HR:=hid hR;clear hR ht;clear hik d1 d2 hcl hy z0 z1 z2 hn hi hs hc hm hN hst hb hk;go_enter Tryz.func21,Tryz.ntmps21;go_upto_region 1 with fail
 refine Ap (os:=[.cells (Ai s).toArray 65]) (w0:=w) rfl ?_;intro W hat hbw;have q0:=hat 0 _ rfl;rw[Nat.add_zero] at q0;obtain⟨g6,hg6⟩:∃ g,g=w.heap.size:=⟨_,rfl⟩;rw[← hg6] at q0 ⊢;have HQ6:=hid q0;have HB0:=hid hbw;have HLD:=hid (Az q0);have l1:=A4 (A5 hbw HM.out) 0 _ rfl;have i0:=A4 (A5 hbw HI.out) 0 _ rfl;have i1:=A4 (A5 hbw HI.out) 1 _ rfl;have i2:=A4 (A5 hbw HI.out) 2 _ rfl;have i3:=A4 (A5 hbw HI.out) 3 _ rfl;clear hat hbw q0 hg6;go_wp2_with ((with_reducible refine Aj (op:=⟨some 11,_,_,_,_,_⟩) rfl 65 _ rfl _ _ ?_ HLD.out ?_);(· rfl));refine(KST.out _ HB0.out).mono ?_;rintro e w1 ⟨rfl,hb1⟩;have HB1:=hid (A8 HB0.out hb1);clear hb1 l1 i0 i1 i2 i3 HLD HQ6 KST;have ha:=Dy [.cells (Ai zS).toArray 65,.cells #[.int .u64 0,.int .u32 0] 44] w1;have hal:=Cd [.cells (Ai zS).toArray 65,.cells #[.int .u64 0,.int .u32 0] 44] w1;have q7:=ha 0 _ rfl;have q8:=ha 1 _ rfl;rw[Nat.add_zero] at q7;obtain⟨hst,hq9,ho9⟩:=AN (s':=NS) q7;have HST:=hid hst;have HTT:=hid hq9;have HV1:Hid (Below w1.heap.size w1 ((List.foldl World.alloc w1 [.cells (Ai zS).toArray 65,.cells #[.int .u64 0,.int .u32 0] 44]).setCells w1.heap.size 0 (Ai NS))):=hid (Ag.below hal (Nat.le_refl _) hal.size ho9);have HX:=hid (Ag.keep ho9 (by omega) q8);obtain⟨VA,hVA⟩:∃ V',V'=(List.foldl World.alloc w1 [.cells (Ai zS).toArray 65,.cells #[.int .u64 0,.int .u32 0] 44]).setCells w1.heap.size 0 (Ai NS):=⟨_,rfl⟩;rw[← hVA] at HST HTT HV1 HX;simp only[List.foldl_cons,List.foldl_nil] at HST;obtain⟨g7,hg7⟩:∃ g,g=w1.heap.size:=⟨_,rfl⟩;have HG7:Hid (w1.heap.size≤g7):=hid (by omega);clear ha hal q7 q8 hst hq9 ho9 hVA;have x0:=A4 HX.out 0 _ rfl;have x1:=A4 HX.out 1 _ rfl;have f0:=An HX.out 0;have f1:=An HX.out 1;have hl:=Af HX.out;go_upto_region 2 with (first
  | rw[BF]
  | ((with_reducible refine Am (op:=⟨none,.store 65 _ _,_,_,_,_⟩) rfl 65 _ _ rfl _ _ ?_ ?_ _ HST.out ?_);(· rfl);(· rfl)))
 (try simp only[Act.put,List.setIfInBounds_toArray,List.set_cons_zero,List.set_cons_succ])
 rw[← hg7] at HTT HX ⊢;clear HST x0 x1 f0 f1 hl hg7;obtain⟨VB,hVB⟩:∃ V,V=(VA.setCell ⟨g7+1,0,none⟩ (.int .u64 (OP:Int))).setCell ⟨g7+1,1,none⟩ (.int .u32 (PT:Int)):=⟨_,rfl⟩;rw[← hVB];have ho:Ag (g7+1) VA VB:=by rw[hVB];exact((Ag.refl (g7+1) VA).setCell rfl _).setCell rfl _
 have HOB:Hid (VB.heap[g7+1]?=some (.cells #[.int .u64 (OP:Int),.int .u32 (PT:Int)] 44)):=hid (by rw[hVB];exact AH (AH HX.out 0 _) 1 _);have HTB:=hid (Ag.keep ho (by omega) HTT.out);have HVB:Hid (Below w1.heap.size w1 VB):=hid (Ag.below HV1.out (by have:=HG7.out;omega) HV1.out.size ho);have HBV:=hid (A8 HB1.out HVB.out);have HMV:=hid (HMS.out.below HBV.out);have HNV:=hid (A5 HBV.out HN.out);have HSV:=hid (A5 HBV.out HS.out);have HCV:=hid (A5 HBV.out HC.out);have HZV:=hid (And.intro (cell_later HBV.out HZ.out.1) (And.intro (cell_later HBV.out HZ.out.2.1) (cell_later HBV.out HZ.out.2.2)));have d1:=HD.out.1;have d2:=HD.out.2;clear ho hVB HX HTT HV1 HVB HN HS HC HZ HMS HB1 HB0;cases t with
 | true=>
   have s0:=A4 HSV.out 0 _ rfl;have c0:=A4 HCV.out 0 _ rfl;have z0:=HZV.out.1;go_quiet (fail);obtain⟨w7,h7⟩:∃ V,V=VB.drewN nq:=⟨_,rfl⟩;have hw7:Below VB.heap.size VB w7:=by rw[h7];exact below_drewN (Below.refl _ _) nq
   rw[← h7];have HM7:=hid (HMV.out.below hw7);have HT7:=hid (A5 hw7 HTB.out);have HN7:=hid (A5 hw7 HNV.out);have HB7:=hid (A8 HBV.out hw7);clear h7 hw7 s0 c0 z0 d1 d2;obtain⟨w9,hup,hms9,ho9⟩:=DI NS HM7.out;unfold BG at hup;have HF:Hid (Cm w9 r (Bt N NS)∧Ag r w w9):=hid ⟨hms9,(Ag.of_below HB7.out).trans ho9⟩;have HLD:=hid (Az HT7.out);have e5:=A4 HN7.out 0 _ rfl;clear hms9 ho9;go_wp2_with ((with_reducible refine Aj (op:=⟨some 31,_,_,_,_,_⟩) rfl 65 _ rfl _ _ ?_ HLD.out ?_);(· rfl));go_end0;exact⟨⟨_,rfl⟩,by rw[← HR.out];exact HF.out⟩
 | false=>
   have heq:=HEQ.out;have KNO:=hid (fun(w':World) (_:Below VB.heap.size VB w')=>trivial);cases b with
   | true=>
     go_upto_region 2 with fail
     refine Ae (by kernel_rfl) ?_ ?_
     ·kernel_rfl
     repeat first
      | go_big_quiet_skip
      | (go_big_quiet_want;go_big_quiet_op;go_big_quiet_on)
      | (with_reducible apply wpQuiet_step
         intro K hK;go_simp;first
          | (refine hK _ ?_;clear hK K)
          | (apply Exists.intro
             refine⟨fun w' hw'=>?_,hK _ ?_⟩
             ·
              (first
               | with_reducible exact KNO.out _ hw'
               | (have s0:=A4 (A5 hw' HSV.out) 0 _ rfl
                  go_simp;first | done | with_reducible exact rfl | with_reducible exact⟨rfl,rfl⟩ | with_reducible exact KNO.out _ hw')
               | (have c0:=A4 (A5 hw' HCV.out) 0 _ rfl
                  go_simp;first | done | with_reducible exact rfl | with_reducible exact⟨rfl,rfl⟩ | with_reducible exact KNO.out _ hw')
               | (have o0:=A4 (A5 hw' HOB.out) 0 _ rfl
                  have o1:=A4 (A5 hw' HOB.out) 1 _ rfl;go_simp;first | done | with_reducible exact rfl | with_reducible exact⟨rfl,rfl⟩ | with_reducible exact KNO.out _ hw')
               | (have z0:=cell_later hw' HZV.out.1
                  have z1:=cell_later hw' HZV.out.2.1;have z2:=cell_later hw' HZV.out.2.2;go_simp;first | done | with_reducible exact rfl | with_reducible exact⟨rfl,rfl⟩ | with_reducible exact KNO.out _ hw'))
             clear hK K))
     refine wpQuiet_nil ?_;intro w7 hw7;have HM7:=hid (HMV.out.below hw7);have HT7:=hid (A5 hw7 HTB.out);have HN7:=hid (A5 hw7 HNV.out);have HB7:=hid (A8 HBV.out hw7);clear hw7;clear heq d1 d2;obtain⟨w9,hup,hms9,ho9⟩:=DI NS HM7.out;unfold BG at hup;have HF:Hid (Cm w9 r (Bt N NS)∧Ag r w w9):=hid ⟨hms9,(Ag.of_below HB7.out).trans ho9⟩;have HLD:=hid (Az HT7.out);have e5:=A4 HN7.out 0 _ rfl;clear hms9 ho9;go_wp2_with ((with_reducible refine Aj (op:=⟨some 31,_,_,_,_,_⟩) rfl 65 _ rfl _ _ ?_ HLD.out ?_);(· rfl));go_end0;exact⟨⟨_,rfl⟩,by rw[← HR.out];exact HF.out⟩
   | false=>
     go_upto_region 2 with fail
     refine Ae (by kernel_rfl) ?_ ?_
     ·kernel_rfl
     repeat first
      | go_big_quiet_skip
      | (go_big_quiet_want;go_big_quiet_op;go_big_quiet_on)
      | (with_reducible apply wpQuiet_step
         intro K hK;go_simp;first
          | (refine hK _ ?_;clear hK K)
          | (apply Exists.intro
             refine⟨fun w' hw'=>?_,hK _ ?_⟩
             ·
              (first
               | with_reducible exact KNO.out _ hw'
               | (have s0:=A4 (A5 hw' HSV.out) 0 _ rfl
                  go_simp;first | done | with_reducible exact rfl | with_reducible exact⟨rfl,rfl⟩ | with_reducible exact KNO.out _ hw')
               | (have c0:=A4 (A5 hw' HCV.out) 0 _ rfl
                  go_simp;first | done | with_reducible exact rfl | with_reducible exact⟨rfl,rfl⟩ | with_reducible exact KNO.out _ hw')
               | (have o0:=A4 (A5 hw' HOB.out) 0 _ rfl
                  have o1:=A4 (A5 hw' HOB.out) 1 _ rfl;go_simp;first | done | with_reducible exact rfl | with_reducible exact⟨rfl,rfl⟩ | with_reducible exact KNO.out _ hw')
               | (have z0:=cell_later hw' HZV.out.1
                  have z1:=cell_later hw' HZV.out.2.1;have z2:=cell_later hw' HZV.out.2.2;go_simp;first | done | with_reducible exact rfl | with_reducible exact⟨rfl,rfl⟩ | with_reducible exact KNO.out _ hw'))
             clear hK K))
     refine wpQuiet_nil ?_;intro w7 hw7;have HM7:=hid (HMV.out.below hw7);have HT7:=hid (A5 hw7 HTB.out);have HN7:=hid (A5 hw7 HNV.out);have HB7:=hid (A8 HBV.out hw7);clear hw7;clear heq d1 d2;go_wp2_with fail;go_end0;exact⟨⟨_,rfl⟩,by rw[← HR.out];exact HM7.out,Ag.of_below HB7.out⟩
end Go.Proofs.YtpohoannggdbjaaGreat
namespace Go.Proofs.YtpohoannggdbjaaGreat
open Lib (hid)
open Go.RowKit Go.Shelf
set_option maxRecDepth 100000
attribute [local go_sem] Oper.semAt_some
theorem Dw{F:Fence}{n:Nat}{P:Program}{ops:Array Oper}{rest:List Oper}{op:Oper}{a:Act}{w:World}{Q:Exit→Act→World→Prop}(hgd:op.guard=none)(ty:TypeId)(x:Operand)(ho:op.op = .load ty x)(vx v:Value)(hx:a.eval x=vx)
 (hr:(Instr.loadAt ty vx).run P w = .ok v w) (h:wpListIn F n P ops Q rest (a.put op.dst v) w):wpListIn F n P ops Q (op :: rest) a w:=
 wpListIn_plain hgd fun K hK=>by
  unfold Oper.wpIn;refine⟨?_,?_⟩
  ·simp[Oper.about,ho]
  ·rw[Oper.semAt_plain F _ _ (by rw[ho];intro c hc';cases hc')];unfold execOp;simp only[ho,hx,Sem.run_bind,hr,Result.andThen_ok,Sem.run_pure];exact hK _ _ h
theorem Df{F:Fence}{n:Nat}{P:Program}{ops:Array Oper}{rest:List Oper}{op:Oper}{a:Act}{w:World}{Q:Exit→Act→World→Prop}(hgd:op.guard=none)(ty:TypeId)(x y:Operand)(ho:op.op = .store ty x y)(vx vy:Value)(hx:a.eval x=vx)(hy:a.eval y=vy)
 (w':World) (hr:(Instr.storeAt ty vx vy).run P w = .ok () w') (h:wpListIn F n P ops Q rest (a.put op.dst undef) w'):wpListIn F n P ops Q (op :: rest) a w:=
 wpListIn_plain hgd fun K hK=>by
  unfold Oper.wpIn;refine⟨?_,?_⟩
  ·simp[Oper.about,ho]
  ·rw[Oper.semAt_plain F _ _ (by rw[ho];intro c hc';cases hc')];unfold execOp;simp only[ho,hx,hy,Sem.run_bind,hr,Result.andThen_ok,Sem.run_pure];exact hK _ _ h
theorem KG{w:World}{it m:Nat}{K L:List St}(h:Ey w it m K L):w.rangeLeft m it=L.length:=by
 obtain⟨es,clock,since,seen,c0,a1,a2,a3,a4,a5,a6,a7,a8⟩:=h;unfold World.rangeLeft;rw[a2,a1];have:=congrArg List.length a8;simpa using this
theorem Ey.walks{w w':World}{it m:Nat}{K L:List St}(h:Ey w it m K L)(k:KeepsWalks w w'):Ey w' it m K L:=by
 obtain⟨es,clock,since,seen,c0,a1,a2,a3⟩:=h;exact⟨es,clock,since,seen,c0,k.same _ _ a1 rfl,k.same _ _ a2 rfl,a3⟩
theorem JD{it:Nat}{w w':World}(h:Ag it w w'):w.grownBy w' (some it):=⟨h.os,h.tape,h.output,h.size,fun k hk hne=>h.block k hk (fun e=>hne (by rw[e]))⟩
theorem EV{w w':World}(h:Below w.heap.size w w'):w.grownBy w' none:=⟨h.os,h.tape,h.output,h.size,fun k hk _=>h.block k hk⟩
theorem Fb{w w':World}(h:Below w.heap.size w w'):KeepsWalks w w':=⟨h.size,fun _ _ hk _=>A5 h hk⟩
theorem Jq(W:World)(s:St):(Instr.storeAt 65 (.pointer (some ⟨W.heap.size,0,none⟩)) (.agg (Ai s).toArray)).run Tryz.prog (W.alloc (.cells (Ai zS).toArray 65)) = .ok () ((W.alloc (.cells (Ai zS).toArray 65)).setCells W.heap.size 0 (Ai s))∧((W.alloc (.cells (Ai zS).toArray 65)).setCells W.heap.size 0 (Ai s)).heap[W.heap.size]?=some (.cells (Ai s).toArray 65)∧Below W.heap.size W ((W.alloc (.cells (Ai zS).toArray 65)).setCells W.heap.size 0 (Ai s)):=by
 have hb:=Ac W (.cells (Ai zS).toArray 65);obtain⟨h1,h2,h3⟩:=AN (s':=s) (Ao W (.cells (Ai zS).toArray 65) (Below.refl _ _));exact⟨h1,h2,Ag.below hb (Nat.le_refl _) hb.size h3⟩
attribute [local irreducible] Sl.v Aa pw Ab Ax Ai Cs DN Bq Bt Cp CR Dj AE Bz
set_option maxHeartbeats 2000000 in
theorem Js(n:Nat)(hn:2≤n)(Bm r:Nat)(K:List St)(w:World)(hB:w.heap[Bm]?=some (.cells #[.map (some r)] 78))(hms:Cm w r K) :
 SeqStopsK Fence.wide n Tryz.prog 38 #[.pointer (some ⟨Bm,0,none⟩)] (fun s:St => #[.agg (Ai s).toArray]) KeepsWalks (fun ys=>ys.Perm K) (fun _=>True) K.length w:=fun lp J Jx W hW hA _ hY h0=>by
 have c0:=A4 (A5 hW hB) 0 _ rfl;obtain⟨o,hrg,hit⟩:=EN (hms.below hW);have HA:=hid hA;have hJ0:J [] (W.alloc o):=hA [] W _ none h0 (World.grownBy_alloc W o none) (fun r e=>by cases e);have hbw:=Ac W o;obtain⟨it,hite⟩:∃ g,g=W.heap.size:=⟨_,rfl⟩;obtain⟨W1,hW1⟩:∃ V,V=W.alloc o:=⟨_,rfl⟩;have HIT:Hid (W.heap.size≤it):=hid (by omega);rw[← hite] at hit hrg;rw[← hW1] at hit hrg hJ0 hbw;have HBW:=hid hbw;clear hite hW1 hA hbw hB hms hW;refine callsIn_of_wp Tryz.func38 rfl trivial ?_ rfl;simp only[Tryz.ntmps38,List.size_toArray,List.length_cons,List.length_nil,Nat.reduceAdd,Nat.reduceSub,Array.replicate_succ,Array.replicate_zero,List.push_toArray,List.append_toArray,List.nil_append,List.cons_append];gi_wp2
 (try go_frame)
 clear hrg c0;gi_loopw [3] (fun _ wr=>∃(D L:List St),K.Perm (D ++ L)∧Ey wr it r K L∧J D wr) (fun _ wr=>wr.rangeLeft r it)
 case atStart=>exact⟨[],K,List.Perm.refl _,hit,hJ0⟩
 case round=>
  obtain⟨D,L,hP,hI,hJ⟩:=hrel;have HL:=hid (KG hI);rcases Fk 0 hI with ⟨hL,hrun⟩ | ⟨s,L',w2,hPL,hrun,hI2,hO,hsz,hen⟩
  ·subst hL;rw[List.append_nil] at hP;have HP:=hid hP.symm;clear hP hI;gi_wp2;go_end0;exact⟨⟨_,rfl⟩,.inl ⟨_,HP.out,hJ⟩⟩
  ·unfold BG at hrun hen;have hJ2:J D w2:=HA.out D wr w2 (some it) hJ (JD hO) (fun r' e=>by
    cases e;obtain⟨es,clock,since,seen,c0,a1,_⟩:=hI;exact⟨HIT.out,_,a1,rfl⟩)
   obtain⟨hst,hq,hbb⟩:=Jq w2 s;have hJ4:=HA.out D w2 _ none hJ2 (EV hbb) (fun r' e=>by cases e);have hI4:=hI2.walks (Fb hbb);obtain⟨w4,hw4⟩:∃ V,V=(w2.alloc (.cells (Ai zS).toArray 65)).setCells w2.heap.size 0 (Ai s):=⟨_,rfl⟩;rw[← hw4] at hst hq hJ4 hI4;have HST:=hid hst;have HLD:=hid (Az hq);have HP2:Hid (K.Perm ((D ++ [s]) ++ L')):=hid (by
    rw[List.append_assoc];exact hP.trans (hPL.append_left D))
   have HLT:Hid (L'.length<L.length):=hid (by rw[hPL.length_eq];exact Nat.lt_succ_self _);have hlen:D.length<K.length:=by rw[hP.length_eq,List.length_append,hPL.length_eq,List.length_cons];omega
   obtain⟨fn,tmps,assign,body,hy,hR⟩:=hY D s w4 hJ4 hlen;clear hst hq hbb hw4 hP hPL hlen hJ hJ2 hI hI2 hO hsz;gi_wp2_with (first
    | rw[BF]
    | ((with_reducible refine Df (op:=⟨none,.store 65 _ _,_,_,_,_⟩) rfl 65 _ _ rfl _ _ ?_ ?_ _ HST.out ?_);(· rfl);(· rfl))
    | ((with_reducible refine Dw (op:=⟨some 11,_,_,_,_,_⟩) rfl 65 _ rfl _ _ ?_ HLD.out ?_);(· rfl)))
   refine⟨fun _=>by omega,?_⟩;refine hR.mono ?_;rintro e W' (⟨rfl,hJ',hk'⟩ | ⟨rfl,hJx⟩)
   ·have hI5:=hI4.walks hk';gi_wp2;go_roundw
    case rel=>exact⟨D ++ [s],L',HP2.out,hI5,hJ'⟩
    case measure=>rw[KG hI5,HL.out];exact HLT.out
   ·gi_wp2;refine bodyPost_ret (results_none rfl _ _ _) rfl ?_;exact⟨⟨_,rfl⟩,.inr ⟨_,trivial,hJx⟩⟩
end Go.Proofs.YtpohoannggdbjaaGreat
namespace Go.Proofs.YtpohoannggdbjaaGreat
open Lib (hid)
open Go.RowKit Go.Shelf
set_option maxRecDepth 100000
attribute [local go_sem] Oper.semAt_some
theorem LU(l:List Value):∀(k:Nat) (c:Array Value),k+l.length≤c.size→∀ j,((l.zipIdx k).foldl (fun(cs:Array Value) (x:Value × Nat)=>cs.setIfInBounds (0+x.2) x.1) c)[j]?=if k≤j∧j<k+l.length then l[j - k]? else c[j]?:=by
 induction l with
 | nil=>intro k c hk j;simp only[List.zipIdx_nil,List.foldl_nil,List.length_nil];rw[if_neg (by omega)]
 | cons x l ih=>
   intro k c hk j;simp only[List.length_cons] at hk;simp only[List.zipIdx_cons,List.foldl_cons,List.length_cons];rw[ih (k+1) _ (by rw[Array.size_setIfInBounds];omega) j];by_cases h1:k+1≤j∧j<k+1+l.length
   ·rw[if_pos h1,if_pos (by omega),show j - k=(j - (k+1))+1 by omega,List.getElem?_cons_succ]
   ·rw[if_neg h1,Array.getElem?_setIfInBounds];by_cases h2:k=j
    ·subst h2;rw[if_pos (by omega),if_pos (by omega),if_pos (by omega)];simp
    ·rw[if_neg (by omega),if_neg (by omega)]
theorem M6(l:List Value)(c:Array Value)(h1:l.length=68)(h2:c.size=68):Instr.fill (fun i=>some (i*68,68)) c [(0,.agg l.toArray)]=some l.toArray:=by
 have hc:(Value.agg l.toArray).cells=l.toArray:=rfl;have hf:(l.toArray.zipIdx.foldl (fun(cs:Array Value) (x:Value × Nat)=>cs.setIfInBounds (0+x.2) x.1) c)=l.toArray:=by
  apply Array.ext_getElem?
  intro j;have:=LU l 0 c (by omega) j;have e:l.toArray.zipIdx.foldl (fun(cs:Array Value) (x:Value × Nat)=>cs.setIfInBounds (0+x.2) x.1) c=(l.zipIdx 0).foldl (fun(cs:Array Value) (x:Value × Nat)=>cs.setIfInBounds (0+x.2) x.1) c:=by
   rw[← Array.foldl_toList];simp
  rw[e,this];by_cases hj:j<l.length
  ·rw[if_pos (by omega)];simp
  ·rw[if_neg (by omega),Array.getElem?_eq_none (by omega),Array.getElem?_eq_none (by rw[List.size_toArray];omega)]
 unfold Instr.fill;simp only[hc,Nat.zero_mul];rw[if_neg (by simp[h1,h2])];unfold Instr.fill;exact congrArg some hf
theorem EU:(Tryz.prog.info? 65).map (fun i=>(i.zero,i.size,i.bytes))=some (some (.agg (Ai zS).toArray),68,96):=by kernel_rfl
theorem EF(s:St)(w:World):(Instr.buildSlice 37 1 #[(0,.agg (Ai s).toArray)]).run Tryz.prog w = .ok (.slice (some ⟨w.heap.size,0,none⟩) 1 1) (w.alloc (.cells (Ai s).toArray 65)):=by
 obtain⟨i,hi,hz0,hz1,hz2⟩:=info_parts EU;refine run_buildSlice w 37 65 1 _ _ i _ Tryz.underlying37 hi hz0 (by rw[hz1];decide) (by rw[hz1];decide) ?_;rw[hz1];exact M6 (Ai s) _ (AU s) (by simp)
theorem Lb(w:World)(l:List Value)(t:TypeId):∀(j:Nat) u,l[j]?=some u→(w.alloc (.cells l.toArray t)).cell? ((⟨w.heap.size,0,none⟩:Addr).add j)=some u:=by
 intro j u hj;have h:=A4 (Ao w (.cells l.toArray t) (Below.refl _ _)) (0+j) u (by rw[Nat.zero_add,List.getElem?_toArray];exact hj);rw[Nat.zero_add] at h;have e:(⟨w.heap.size,0,none⟩:Addr).add j=⟨w.heap.size,j,none⟩:=by
  unfold Addr.add;by_cases hj0:j=0
  ·subst hj0;rfl
  ·simp[hj0]
 rw[e];exact h
theorem ED{F:Fence}{n:Nat}{P:Program}{ops:Array Oper}{rest:List Oper}{op:Oper}{a:Act}{w:World}{Q:Exit→Act→World→Prop}(hgd:op.guard=none)(t:TypeId)(x:Operand)(ho:op.op = .buildSlice t 1 #[(0,x)])(vx v:Value)(hx:a.eval x=vx)(w':World)
 (hr:(Instr.buildSlice t 1 #[(0,vx)]).run P w = .ok v w') (h:wpListIn F n P ops Q rest (a.put op.dst v) w'):wpListIn F n P ops Q (op :: rest) a w:=
 wpListIn_plain hgd fun K hK=>by
  unfold Oper.wpIn;refine⟨?_,?_⟩
  ·simp[Oper.about,ho]
  ·rw[Oper.semAt_plain F _ _ (by rw[ho];intro c hc';cases hc')];unfold execOp;simp only[ho,hx,List.map_toArray,List.map_cons,List.map_nil,Sem.run_bind,hr,Result.andThen_ok,Sem.run_pure];exact hK _ _ h
attribute [local irreducible] Sl.v Aa pw Ab Ax Ai Cs DN Bq Bt Cp CR Dj AE Bz
set_option maxHeartbeats 4000000 in
theorem LM(n:Nat)(hn:4≤n)(Bm r:Nat)(K:List St)(w:World)(hK:K.length≤100000)(hB:w.heap[Bm]?=some (.cells #[.map (some r)] 78))(hms:Cm w r K) :
 CallsIn Fence.wide n Tryz.prog 37 #[.slice none 0 0,.func (.func 38) #[] #[.pointer (some ⟨Bm,0,none⟩)]] w fun e W'=>
  ∃(v:Value) (ss:List St),e = .returned v∧ss.Perm K∧W'.ownsRow w.heap.size 65 68 v ss.length (ss.flatMap Ai)∧Below w.heap.size w W':=by
 have h1:1≤n:=by omega
 obtain⟨i0,hi,hz0,hz1,hz2⟩:=info_parts EU;have HK:=hid hK;refine callsIn_of_wp_marks Tryz.func37 rfl trivial ?_ rfl;simp only[Tryz.ntmps37,List.size_toArray,List.length_cons,List.length_nil,Nat.reduceAdd,Nat.reduceSub,Array.replicate_succ,Array.replicate_zero,List.push_toArray,List.append_toArray,List.nil_append,List.cons_append];gi_wp2;have bO:=Boxed.new w 37 (.slice none 0 0);have hB0:Below w.heap.size w (w.alloc (.cells #[.slice none 0 0] 37)):=(Below.refl _ w).alloc (Nat.le_refl _) _;refine wpIn_rangeFunc_ownH rfl h1 (gf:=38) (lb := #[.pointer (some ⟨Bm,0,none⟩)]) rfl trivial (enters_of Tryz.func38 (by kernel_rfl) rfl)
  (Js (n - 1) (by omega) Bm r K _ (A5 hB0 hB) (hms.below hB0)) walksK_t (fun W l o o' hl ho hc hw=>walksK_b (w:=w) W l o o' (by simp at hl;omega) ho hc hw) (Below.refl _ _) (fun _=>rfl)
  (fun(pre:List St) W=>(∃ v,Boxed W w.heap.size 37 v∧W.ownsRow w.heap.size 65 68 v pre.length (pre.flatMap Ai)∧True)∧Below w.heap.size w W)
  (fun _ _ _=>False)
  (OwnFrom.and (Own.from (holdsRow_own w.heap.size w.heap.size 37 65 68 (fun pre:List St=>pre.length) (fun pre:List St=>pre.flatMap Ai) (fun(_:List St) (_:Value)=>True)) _) (ownFrom_below (Nat.le_refl _) (by simp)))
  (fun _ _ _ _ _ hs _ _=>hs)
  ⟨⟨_,bO,World.ownsRow_nil _ _ _ _,trivial⟩,hB0⟩
  (fun x a' W=>∃ g,a'={ tmps := #[.slice none 0 0,.func (.func 38) #[] #[.pointer (some ⟨Bm,0,none⟩)],.pointer (some ⟨w.heap.size,0,none⟩),undef,.slice none 0 0,.pointer (some ⟨g,0,none⟩),.func (.func 38) #[] #[.pointer (some ⟨Bm,0,none⟩)],.agg (Ai x).toArray,undef,undef,undef,undef,undef],defers:=[] }∧W.heap[g]?=some (.cells (Ai x).toArray 65))
  ?hAx ?assign ?body ?done ?stop
 case hAx=>
  rintro x a' s W W' row ⟨g,ha,hg⟩ hgr hr;refine⟨g,ha,(hgr.block g (Af hg) (fun e=>?_)).trans hg⟩;obtain⟨_,o,ho,hc⟩:=hr g e.symm;rw[hg] at ho;injection ho with ho
  rw[← ho] at hc;cases hc
 case assign=>
  rintro l pre x W KK ⟨⟨v,hv,hrow,_⟩,hB⟩ hKK;obtain⟨hst,hq,hbb⟩:=Jq W x;have HST:=hid hst;have hfin:=hKK _ _ ((show KeepsOthers W _ from⟨hbb.size,fun j o hj _=>A5 hbb hj⟩).from _) (Fb hbb) ⟨⟨v,A5 hbb hv,hrow.kept (EV hbb) (by cases hv2:v.ownBlock<;>simp),trivial⟩,hB.trans (hbb.mono hB.size)⟩ ⟨W.heap.size,rfl,hq⟩;have HF:=hid hfin;clear hst hfin hq hbb hKK hv hrow hB;gi_wp2_with (first
   | rw[BF]
   | ((with_reducible refine Df (op:=⟨none,.store 65 _ _,_,_,_,_⟩) rfl 65 _ _ rfl _ _ ?_ ?_ _ HST.out ?_);(· rfl);(· rfl)))
  exact HF.out
 case body=>
  rintro l pre x a' W hl hrec ⟨⟨v,hv,hrow,_⟩,hB⟩ ⟨g,rfl,hg⟩ hlt;have hc:=hv.cell;have HLD:=hid (Az hg);have HBU:=hid (EF x W);gi_wp2_with (first
   | ((with_reducible refine Dw (op:=⟨some 9,_,_,_,_,_⟩) rfl 65 _ rfl _ _ ?_ HLD.out ?_);(· rfl))
   | ((with_reducible refine ED (op:=⟨some 10,_,_,_,_,_⟩) rfl 37 _ rfl _ _ ?_ _ HBU.out ?_);(· rfl))
   | (gi_at_builtin;refine wpListIn_append_own _ rfl _ _ 37 rfl w.heap.size 65 i0 (.agg (Ai zS).toArray) 68 96 Tryz.underlying37 hi hz0 hz1 hz2 (by rw[Value.cells,List.size_toArray,AU]) (by decide) _ _ _ rfl (hrow.alloc _) ⟨W.heap.size,0,none⟩ 1 1 (Ai x) rfl (AU x) (Lb _ _ _) (Hw x) (by have:=HK.out;unfold maxLen;omega) (by have:=HK.out;omega) (by have:=hB.size;simp;omega) ?_;intro v' w1 hown' hgrow _;obtain⟨g',cap',rfl⟩:=ownsRow_succ hown';obtain⟨hv1,hv2,hr2,hk2,hb2⟩:=hv.appended (by decide) hrow hB.size (Nat.le_refl _) hown' hgrow;have hc1:=hv1.cell;have hf1:=hv1.frozen))
  refine⟨hk2.from _,hk2.walks,⟨_,hv2,?_⟩,hB.trans hb2⟩;rw[List.flatMap_append,List.flatMap_cons,List.flatMap_nil,List.append_nil,show(pre ++ [x]).length=pre.length+1 by rw[List.length_append];rfl];first
   | exact hr2
   | exact⟨hr2,trivial⟩
 case done=>
  rintro D ys W hD hys ⟨⟨v,hv,hrow,_⟩,hB⟩ hK;have hc:=hv.cell;gi_wp2;refine⟨by simp,.inl ⟨_,_,rfl,run_takeDeferred hK,?_⟩⟩;exact⟨_,results_tmp rfl _ _ _,v,ys,rfl,hys,ownsRow_putObj hrow _ hK rfl,hB.trans (belowK_b (w:=w) (Nat.le_refl _) W D _ _ (by simp at hD;omega) hK rfl rfl)⟩
 case stop=>
  rintro D c pre W _ _ h _;exact h.elim
theorem Jz(n:Nat)(hn:5≤n)(Bm r:Nat)(K:List St)(w:World)(hK:K.length≤100000)(hB:w.heap[Bm]?=some (.cells #[.map (some r)] 78))(hms:Cm w r K) :
 CallsIn Fence.wide n Tryz.prog 22 #[.func (.func 38) #[] #[.pointer (some ⟨Bm,0,none⟩)]] w fun e W'=>
  ∃(v:Value) (ss:List St),e = .returned v∧ss.Perm K∧W'.ownsRow w.heap.size 65 68 v ss.length (ss.flatMap Ai)∧Below w.heap.size w W':=by
 have h1:1≤n:=by omega
 refine callsIn_of_wp Tryz.func22 rfl trivial ?_ rfl;simp only[Tryz.ntmps22,List.size_toArray,List.length_cons,List.length_nil,Nat.reduceAdd,Nat.reduceSub,Array.replicate_succ,Array.replicate_zero,List.push_toArray,List.append_toArray,List.nil_append,List.cons_append];gi_wp2;refine⟨trivial,?_⟩;refine(LM (n - 1) (by omega) Bm r K _ hK hB hms).mono ?_;rintro e w' ⟨v,ss,rfl,hss,hrow,hb⟩;gi_wp2;go_ret;exact⟨v,ss,rfl,hss,hrow,hb⟩
theorem IE(Bm r:Nat)(K:List St)(w:World)(hK:K.length≤100000)(hB:w.heap[Bm]?=some (.cells #[.map (some r)] 78))(hms:Cm w r K) :
 Calls Tryz.prog 22 #[.func (.func 38) #[] #[.pointer (some ⟨Bm,0,none⟩)]] w fun e W'=>∃(v:Value) (ss:List St),e = .returned v∧ss.Perm K∧W'.ownsRow w.heap.size 65 68 v ss.length (ss.flatMap Ai)∧Below w.heap.size w W':=
 callsIn_wide.1 (Jz 5 (by omega) Bm r K w hK hB hms)
theorem Mq(r:Nat)(w:World):Calls Tryz.prog 23 #[.map (some r)] w fun e w'=>e = .returned (.func (.func 38) #[] #[.pointer (some ⟨w.heap.size,0,none⟩)])∧w'=w.alloc (.cells #[.map (some r)] 78):=by
 go_enter Tryz.func23,Tryz.ntmps23;go_wp2_with fail;go_ret;exact⟨rfl,rfl⟩
end Go.Proofs.YtpohoannggdbjaaGreat
namespace Go.Proofs.YtpohoannggdbjaaGreat
open Lib (hid)
open Go.RowKit
set_option maxRecDepth 100000
def CQ(L:AM)(i:Nat)(r:Rt):Rw:=⟨r.pa.l.headD 0,Bs L r.sg,r.tr,r.nd,BN L (i:Int)⟩
def B6(L:AM):Tb:=⟨L.rt.l.mapIdx (CQ L),L.po.l.map (fun p=>p.2)⟩
theorem CE(L:AM):(B6 L).rw.length=L.rt.l.length:=by simp[B6]
theorem Do(L:AM):(B6 L).li.length=L.po.l.length:=by simp[B6]
theorem Dn{L:AM}{i:Nat}{r:Rt}(h:L.rt.l[i]?=some r):(B6 L).rw[i]?=some (CQ L i r):=by
 unfold B6;show(L.rt.l.mapIdx (CQ L))[i]?=_;rw[List.getElem?_mapIdx,h];rfl
theorem Md{L:AM}{i:Nat}{r:Rt}(h:L.rt.l[i]?=some r):(B6 L).rw.take (i+1)=(B6 L).rw.take i ++ [CQ L i r]:=by rw[List.take_add_one,Dn h];rfl
theorem LV{L:AM}{k:Nat}{p:BA × Int}(h:L.po.l[k]?=some p):(B6 L).li[k]?=some p.2:=by
 unfold B6;show(L.po.l.map (fun p=>p.2))[k]?=_;rw[List.getElem?_map,h];rfl
theorem Ph{L:AM}{k:Nat}{p:BA × Int}(h:L.po.l[k]?=some p):(B6 L).li.take (k+1)=(B6 L).li.take k ++ [p.2]:=by rw[List.take_add_one,LV h];rfl
theorem FG{L:AM}(h:(Aq L).1=0):∀ r∈L.rt.l,As L r=true:=by
 refine LY.1 ?_;by_cases hb:0≤DR L
 ·rw[Jo (AP h) rfl hb] at h;cases h
 ·omega
theorem R0{L:AM}{r:Rt}(h:As L r=true):r.pa.l≠[]:=by
 intro he;rw[R5 (by rw[he];rfl)] at h;cases h
theorem IF{L:AM}(h:AQ L=true):(∀ p∈L.po.l,0≤p.2∧p.2<(L.se.l.length:Int))∧(∀ p∈L.sg.l,0≤p.2∧p.2<(L.se.l.length:Int)):=by
 unfold AQ Bv at h;simp only[Bool.and_eq_true] at h;obtain⟨_,⟨⟨_,_,h1⟩,_,h2⟩,_⟩:=h;exact⟨fun p hp=>Cl h1 p.2 (List.mem_map.2 ⟨p,hp,rfl⟩),fun p hp=>Cl h2 p.2 (List.mem_map.2 ⟨p,hp,rfl⟩)⟩
theorem Lv{L:AM}(h:AQ L=true):∀ r∈L.rt.l,∀ n∈r.nd,0≤n.1∧n.1<(L.po.l.length:Int):=by
 intro r hr n hn;have o:=Bn h r hr;unfold Rt.nd at hn;rcases List.mem_append.1 hn with hn | hn
 ·exact Cl o.qb n.1 (List.mem_map.2 ⟨n,hn,rfl⟩)
 ·exact Cl o.fb n.1 (List.mem_map.2 ⟨n,hn,rfl⟩)
theorem Lc{L:AM}(h:AQ L=true):∀ r∈L.rt.l,∀ n∈r.tr,0≤n∧n<(L.se.l.length:Int):=by
 intro r hr n hn;have o:=Bn h r hr;unfold Rt.tr at hn;rcases List.mem_append.1 hn with hn | hn
 ·exact Cl o.pb n hn
 ·exact Cl o.ob n hn
theorem Sb{L:AM}(h:AQ L=true):∀ r∈L.rt.l,0≤Bs L r.sg∧Bs L r.sg<(L.se.l.length:Int):=by
 intro r hr;have o:=Bn h r hr;obtain⟨k,hk⟩:∃ k:Nat,r.sg=k:=⟨r.sg.toNat,by have:=o.s0;omega⟩;have hl:k<L.sg.l.length:=by have:=o.s1;omega
 rw[hk,DU (List.getElem?_eq_getElem hl)];exact(IF h).2 _ (List.getElem_mem hl)
theorem Ih{L:AM}{n k:Int}:k∈BN L n↔∃ m:Nat,k=m∧m<min L.rt.l.length 64∧BS L n (m:Int)=true:=by
 unfold BN D1;simp only[List.mem_map,List.mem_filter,List.mem_range];exact⟨fun⟨m,⟨h1,h2⟩,h3⟩=>⟨m,h3.symm,h1,h2⟩,fun⟨m,h3,h1,h2⟩=>⟨m,⟨h1,h2⟩,h3.symm⟩⟩
theorem Qe{L:AM}{x:Rw}(hx:x∈(B6 L).rw):∃(i:Nat) (r:Rt),L.rt.l[i]?=some r∧x=CQ L i r:=by
 obtain⟨i,hi,rfl⟩:=List.getElem_of_mem hx;have hl:i<L.rt.l.length:=by rw[CE] at hi;exact hi
 refine⟨i,_,List.getElem?_eq_getElem hl,?_⟩;have:=Dn (L:=L) (List.getElem?_eq_getElem hl);rw[List.getElem?_eq_getElem hi] at this;exact Option.some.inj this
theorem Hx{L:AM}(h:(Aq L).1=0):Db (B6 L):=by
 have hm:=AP h;obtain⟨z1,z2,z3,z4⟩:=Ay hm;refine⟨by rw[CE];exact z4,by rw[Do];exact z2,fun x hx=>?_,fun s hs=>?_⟩
 ·obtain⟨i,r,hr,rfl⟩:=Qe hx;have hmem:=List.mem_of_getElem? hr;have hf:=R0 (FG h r hmem);refine⟨?_,?_,fun s hs=>?_,fun n hn=>?_,fun k hk=>?_⟩
  ·have:=Lc hm r hmem (r.pa.l.headD 0) (by
    unfold Rt.tr;refine List.mem_append_left _ ?_;cases hp:r.pa.l with
    | nil=>exact absurd hp hf
    | cons a l=>exact List.mem_cons_self)
   show 0≤r.pa.l.headD 0∧r.pa.l.headD 0≤63;omega
  ·have:=Sb hm r hmem;show 0≤Bs L r.sg∧Bs L r.sg≤63;omega
  ·have:=Lc hm r hmem s hs;omega
  ·rw[Do];exact Lv hm r hmem n hn
  ·rw[CE];obtain⟨m,rfl,h1,_⟩:=Ih.1 hk;omega
 ·unfold B6 at hs;obtain⟨p,hp,rfl⟩:=List.mem_map.1 hs;have:=(IF hm).1 p hp;omega
end Go.Proofs.YtpohoannggdbjaaGreat
