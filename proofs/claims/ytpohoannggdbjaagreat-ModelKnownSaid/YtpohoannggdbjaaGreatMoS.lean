/- Layer 28: ModelRuns. -/
import Derived.Test.YtpohoannggdbjaaGreatMoP
import Derived.Test.YtpohoannggdbjaaGreatMoJ
import Derived.Test.YtpohoannggdbjaaGreatMoN
import Derived.Test.YtpohoannggdbjaaGreatMC
set_option maxRecDepth 100000
set_option maxHeartbeats 200000000
namespace Go.Proofs.YtpohoannggdbjaaGreat
open Lib (hid)
open Go.RowKit
theorem Ey{w:World}{b o:Nat}{s:St}(h:∀ j v,(Af s)[j]?=some v→w.cell? ⟨b,o+j,none⟩=some v):(Instr.loadAt 65 (.pointer (some ⟨b,o,none⟩))).run Tryz.prog w = .ok (.agg (Af s).toArray) w:=run_loadAt_mid w b o 65 (Af s) _ (fun j v hv=>h j v hv) Tryz.underlying65 rfl (by rw[AS];exact Bf)
theorem Kp(s:St)(w:World):(binOp .neq 65 (.agg (Af s).toArray) (.agg (Af s).toArray)).run Tryz.prog w = .ok (.bool false) w:=by
 have h:=TM s s w;rw[Ck.2 (rfl:BC s=BC s)] at h;exact h
theorem Gc(k n:Int)(w:World):(binOp .neq 44 (.agg #[.int .u64 k,.int .u32 n]) (.agg #[.int .u64 k,.int .u32 n])).run Tryz.prog w = .ok (.bool false) w:=by
 rw[run_neq_struct,FW];simp
theorem Lj{L:AL}{X:List Iv}{top:Nat}(h:Df L X top=true):C3 300 L≤300:=by
 unfold Df at h;rw[Wl,decide_eq_true_eq] at h;exact h.1
theorem CQ{n i:Nat}(h:i<n):(List.range n)[i]?=some i:=List.getElem?_range h
theorem Ch{n i:Nat}(h:i<n):¬ List.range n=[]:=fun e=>by rw[List.range_eq_nil] at e;omega
def Ib(L:AL)(X:List Iv)(N:Nat)(w:World)(e:Ending)(r:Int):Prop:=∃ sa ca oa cb,e = .returned (.tuple #[.slice sa N ca,.slice oa N cb,.int .i64 r])∧As 68 (fun j=>Af (BX (AW L) X (j+1))) w sa (List.range N)∧As 2 (D8 (AW L) X) w oa (List.range N)
theorem D4{α:Type}{sz:Nat}{f:α→List Value}{w:World}{a:Option Addr}:As sz f w a []:=.inl rfl
theorem ID(L:AL)(ra:Option Addr)(n rc:Nat)(X:List Iv)(w:World)(hL:AO w L)(hX:As 4 DV w ra X)(hxn:X.length=n)(hxo:n≤400→∀ x∈X,Ci w x∧x.len≤100000):∃(N:Nat) (r:Int),N≤400∧N≤n∧(∀ V,Below w.heap.size w V→Calls Tryz.prog 7 #[.agg #[L.se.v,L.po.v,L.sg.v,L.rt.v],.slice ra n rc] V fun e w'=>Ib L X N w' e r∧Below V.heap.size V w')∧(∀ V,Below w.heap.size w V→Calls Tryz.prog 17 #[.agg #[L.se.v,L.po.v,L.sg.v,L.rt.v],.slice ra n rc] V fun e w'=>Ib L X N w' e r∧Below V.heap.size V w'):=by
 obtain⟨c,hc⟩:=WY ((Ap L).1);by_cases h0:c=0
 ·subst h0;by_cases h4:n≤400
  ·refine⟨n,0,h4,Wc _,fun V hV=>?_,fun V hV=>?_⟩
   ·refine(JB L ra n rc X V (hL.below hV) (hX.below hV) hxn (fun x hx=>⟨(hxo h4 x hx).1.below hV,(hxo h4 x hx).2⟩) h4 hc).mono ?_;rintro e w' ⟨gS,gO,rfl,h1,h2,hb⟩;exact⟨⟨_,_,_,_,rfl,CR (fun j=>AS _) h1 rfl,CR (EA _ _) h2 rfl⟩,hb⟩
   ·refine(S3 L ra n rc X V (hL.below hV) (hX.below hV) hxn (fun x hx=>⟨(hxo h4 x hx).1.below hV,(hxo h4 x hx).2⟩) h4 _ hc rfl).mono ?_;rintro e w' ⟨va,vb,rfl,h1,h2,hb⟩;obtain⟨sa,ca,rfl,hs⟩:=CJ (f:=(fun j=>Af (BX (AW L) X (j+1)))) (fun j=>AS _) List.length_range h1;obtain⟨oa,co,rfl,ho⟩:=CJ (f:=(D8 (AW L) X)) (EA _ _) List.length_range h2;exact⟨⟨_,_,_,_,rfl,hs.row,ho.row⟩,hb⟩
  ·refine⟨0,3,by omega,by omega,fun V hV=>?_,fun V hV=>?_⟩
   ·refine(S6 L ra n rc V (hL.below hV) hc (by omega)).mono ?_;rintro e w' ⟨rfl,hb⟩;exact⟨⟨_,_,_,_,rfl,D4,D4⟩,hb⟩
   ·refine(PF L ra n rc V (hL.below hV) _ hc rfl (by omega)).mono ?_;rintro e w' ⟨rfl,hb⟩;exact⟨⟨_,_,_,_,rfl,D4,D4⟩,hb⟩
 ·refine⟨0,c,by omega,by omega,fun V hV=>?_,fun V hV=>?_⟩
  ·refine(LF L ra n rc V (hL.below hV) c hc h0).mono ?_;rintro e w' ⟨rfl,hb⟩;exact⟨⟨_,_,_,_,rfl,D4,D4⟩,hb⟩
  ·refine(S4 L ra n rc V (hL.below hV) c _ hc rfl h0).mono ?_;rintro e w' ⟨rfl,hb⟩;exact⟨⟨_,_,_,_,rfl,D4,D4⟩,hb⟩
attribute [local irreducible] Sl.v Aa pw Ab Aw C8 Af BC CD Bi Bg B9 CB BQ AU Bp BB BG Bh Bd BP Bo BL BF BN AI AY AV Be Bw Bq C4 Mc.tb BZ AX Ap B5
attribute [local irreducible] Bs BV C6 BS Ay AN
attribute [local irreducible] AW CY Bt BO zS FL BX FN FM D8 BH Df C3 I8
theorem Jj(L:AL)(ra:Option Addr)(n rc:Nat)(X:List Iv)(w:World)(hL:AO w L)(hX:B7 4 DV w ⟨ra,rc,X⟩)(hxn:X.length=n)(hxo:∀ x∈X,Ci w x) :
 Calls Tryz.prog 5 #[.agg #[L.se.v,L.po.v,L.sg.v,L.rt.v],.slice ra n rc] w fun e w'=>e = .returned (.bool true)∧Below w.heap.size w w':=by
 obtain⟨n1,hn1⟩:=WY L.se.l.length;obtain⟨n2,hn2⟩:=WY L.po.l.length;obtain⟨n3,hn3⟩:=WY L.sg.l.length;obtain⟨n4,hn4⟩:=WY L.rt.l.length;obtain⟨b1,hb1⟩:=WY (Df L X 60);obtain⟨z,hz⟩:=WY (C3 300 L);have KF:Hid (∀ V,Below w.heap.size w V→Calls Tryz.prog 11 #[.agg #[L.se.v,L.po.v,L.sg.v,L.rt.v],.slice ra n rc,.int .i64 60] V fun e w'=>e = .returned (.bool b1)∧Below V.heap.size V w'):=hid (fun V hV=>J8 L ra n rc 60 X b1 V (hL.below hV) (hX.row.below hV) hxn (by omega) hb1);have KW:Hid (∀ V,Below w.heap.size w V→Calls Tryz.prog 16 #[.agg #[L.se.v,L.po.v,L.sg.v,L.rt.v],.int .i64 300] V fun e w'=>e = .returned (.int .i64 z)∧Below V.heap.size V w'):=hid (fun V hV=>hz ▸ (IK 300 L V (hL.below hV)).mono (fun _ _ h=>⟨h.1,h.2⟩));by_cases h4:n≤400
 ·have d:(n:Int)≤400:=(by omega);cases b1 with
  | false=>
    rw[Ak hn1,Ak hn2,Ak hn3,Ak hn4] at KF ⊢;clear hn1 hn2 hn3 hn4 hL hX hxn hxo hb1 h4 hz KW;go_enter Tryz.func5,Tryz.ntmps5;go_upto_region 1 with fail
    refine Ao (os:=[.cells #[.slice L.se.a n1 L.se.c,.slice L.po.a n2 L.po.c,.slice L.sg.a n3 L.sg.c,.slice L.rt.a n4 L.rt.c] 27]) (w0:=w) rfl ?_;intro W hat hbw;obtain⟨gl,hgl⟩:=X0 w.heap.size;have q0:=hat 0 _ rfl;rw[Wa,← hgl] at q0;rw[← hgl];have HQl:=hid q0;have HB0:=hid hbw;clear hat hbw q0 hgl;have l0:=A4 HQl.o 0 _ rfl;have l1:=A4 HQl.o 1 _ rfl;have l2:=A4 HQl.o 2 _ rfl;have l3:=A4 HQl.o 3 _ rfl;go_wp2_with fail;refine(KF.o _ HB0.o).mono ?_;rintro e w1 ⟨rfl,hb⟩;have HB1:=hid (A6 HB0.o hb);have HL1:=hid (A5 hb HQl.o);clear hb l0 l1 l2 l3;go_wp2_with fail;refine(BI _).mono ?_;rintro e wz ⟨rfl,hbz⟩;have HBE:=hid (A6 HB1.o hbz);clear hbz;go_wp2_with fail;go_ret;exact⟨rfl,HBE.o⟩
  | true=>
    have hfew:=J9 hb1;have dz:¬ (300:Int)<z:=(by have:=Lj hb1;omega);obtain⟨N,r,hN4,hNn,hk1,hk2⟩:=ID L ra n rc X w hL hX.row hxn (fun _ x hx=>⟨hxo x hx,by have:=hfew.2 x hx;omega⟩);have KR:=hid hk1;have KD:=hid hk2;have HN4:=hid hN4;have HNn:=hid hNn;have HXN:=hid hxn;clear hk1 hk2 hN4 hNn;rw[Ak hn1,Ak hn2,Ak hn3,Ak hn4] at KF KW KR KD ⊢;clear hn1 hn2 hn3 hn4 hL hX hxn hxo hb1 h4 hz hfew;unfold Ib at KR KD;go_enter Tryz.func5,Tryz.ntmps5;go_upto_region 1 with fail
    refine Ao (os:=[.cells #[.slice L.se.a n1 L.se.c,.slice L.po.a n2 L.po.c,.slice L.sg.a n3 L.sg.c,.slice L.rt.a n4 L.rt.c] 27]) (w0:=w) rfl ?_;intro W hat hbw;obtain⟨gl,hgl⟩:=X0 w.heap.size;have q0:=hat 0 _ rfl;rw[Wa,← hgl] at q0;rw[← hgl];have HQl:=hid q0;have HB0:=hid hbw;clear hat hbw q0 hgl;have l0:=A4 HQl.o 0 _ rfl;have l1:=A4 HQl.o 1 _ rfl;have l2:=A4 HQl.o 2 _ rfl;have l3:=A4 HQl.o 3 _ rfl;go_wp2_with fail;refine(KF.o _ HB0.o).mono ?_;rintro e w1 ⟨rfl,hb⟩;have HB1:=hid (A6 HB0.o hb);have HL1:=hid (A5 hb HQl.o);clear hb l0 l1 l2 l3;have l0:=A4 HL1.o 0 _ rfl;have l1:=A4 HL1.o 1 _ rfl;have l2:=A4 HL1.o 2 _ rfl;have l3:=A4 HL1.o 3 _ rfl;go_wp2_with fail;refine(KW.o _ HB1.o).mono ?_;rintro e wa ⟨rfl,hb⟩;have HBa:=hid (A6 HB1.o hb);have HLa:=hid (A5 hb HL1.o);clear hb l0 l1 l2 l3;have l0:=A4 HLa.o 0 _ rfl;have l1:=A4 HLa.o 1 _ rfl;have l2:=A4 HLa.o 2 _ rfl;have l3:=A4 HLa.o 3 _ rfl;go_wp2_with fail;refine(KR.o _ HBa.o).mono ?_;rintro e w3 ⟨⟨sa,ca,oa,cb,rfl,h1,h2⟩,hb⟩;have HB3:=hid (A6 HBa.o hb);have HL3:=hid (A5 hb HLa.o);have HR1:=hid h1;have HR2:=hid h2;clear hb h1 h2 l0 l1 l2 l3;have l0:=A4 HL3.o 0 _ rfl;have l1:=A4 HL3.o 1 _ rfl;have l2:=A4 HL3.o 2 _ rfl;have l3:=A4 HL3.o 3 _ rfl;go_wp2_with fail;refine(KD.o _ HB3.o).mono ?_;rintro e w4 ⟨⟨sb,cc,ob,cd,rfl,h3,h4⟩,hb⟩;have HB4:=hid (A6 HB3.o hb);have HR1:=hid (HR1.o.below hb);have HR2:=hid (HR2.o.below hb);have HR3:=hid h3;have HR4:=hid h4;clear hb h3 h4 l0 l1 l2 l3;have hnn:(r != r)=false:=(by simp);have hNN:((N:Int) !=(N:Int))=false:=(by simp);go_upto_region 7 with fail
    clear hnn hNN;go_upto_region 8 with fail
    go_loopg [11] N (fun g v wr=>∃ i:Nat,i+g=N∧v = .int .i64 (i:Int)∧Below w4.heap.size w4 wr)
    case atStart=>exact⟨0,by omega,rfl,VU _ _⟩
    case round=>
     obtain⟨i,hi,rfl,hbw⟩:=hrel;have HI:=hid hi;have HB:=hid hbw;have HBr:=hid (A6 HB4.o hbw);clear hi hbw;by_cases hlt:i<N
     ·skip
      have d1:(0:Int)≤i:=(by omega);have d2:(i:Int)<N:=(by omega);have e1:=B8 hlt (Wd HN4.o (by decide));have HLT:=hid hlt;have hri:=CQ hlt;obtain⟨x,hxi⟩:∃ x,X[i]?=some x:=⟨_,Wb (by rw[HXN.o];exact Wv hlt HNn.o)⟩;obtain⟨S,hS⟩:=WY (BX (AW L) X (i+1));obtain⟨OP,PT,hol⟩:∃ P Q:Int,D8 (AW L) X i=[.int .u64 P,.int .u32 Q]:=⟨_,_,Gs hxi⟩;rcases HR1.o with hnil | ⟨b1,o1,ha1,hc1⟩
      ·exact absurd hnil (Ch hlt)
      rcases HR2.o with hnil | ⟨b2,o2,ha2,hc2⟩
      ·exact absurd hnil (Ch hlt)
      rcases HR3.o with hnil | ⟨b3,o3,ha3,hc3⟩
      ·exact absurd hnil (Ch hlt)
      rcases HR4.o with hnil | ⟨b4,o4,ha4,hc4⟩
      ·exact absurd hnil (Ch hlt)
      have HC1:Hid (∀ j v,(Af S)[j]?=some v→wr.cell? ⟨b1,o1+i*68+j,none⟩=some v):=hid (fun j v hv=>VY HB.o (hc1 i i hri j v (by rw[← hS] at hv;exact hv)));have HC3:Hid (∀ j v,(Af S)[j]?=some v→wr.cell? ⟨b3,o3+i*68+j,none⟩=some v):=hid (fun j v hv=>VY HB.o (hc3 i i hri j v (by rw[← hS] at hv;exact hv)));have p0:=VY HB.o (hc2 i i hri 0 (.int .u64 OP) (by rw[hol];rfl));have p1:=VY HB.o (hc2 i i hri 1 (.int .u32 PT) (by rw[hol];rfl));have q0:=VY HB.o (hc4 i i hri 0 (.int .u64 OP) (by rw[hol];rfl));have q1:=VY HB.o (hc4 i i hri 1 (.int .u32 PT) (by rw[hol];rfl));rw[Wa] at p0 q0;have HP:=hid (And.intro p0 p1);have HQ:=hid (And.intro q0 q1);subst ha1;subst ha2;subst ha3;subst ha4;have heq1:=Kp S;have heq2:=Gc OP PT;clear hlt hri hxi hS hol hc1 hc2 hc3 hc4 p0 p1 q0 q1;go_upto_region 10 with fail
      refine Ad (by kernel_rfl) ?_ ?_
      ·kernel_rfl
      repeat first
       | go_big_quiet_skip
       | (go_big_quiet_want
          with_reducible refine Ae (o:=⟨some 74,_,_,_,_,_⟩) 65 _ rfl _ _ ?_ (fun w' hw'=>Ey (fun j v hv=>VY hw' (HC1.o j v hv))) ?_
          ·rfl
          simp only[Act.put,VW,VX,VV];go_big_quiet_on)
       | (go_big_quiet_want
          with_reducible refine Ae (o:=⟨some 78,_,_,_,_,_⟩) 65 _ rfl _ _ ?_ (fun w' hw'=>Ey (fun j v hv=>VY hw' (HC3.o j v hv))) ?_
          ·rfl
          simp only[Act.put,VW,VX,VV];go_big_quiet_on)
       | (go_big_quiet_want;go_big_quiet_op;go_big_quiet_on)
       | (with_reducible apply wpQuiet_step
          intro K hK;go_simp;first
           | (refine hK _ ?_;clear hK K)
           | (apply Exists.intro
              refine⟨fun w' hw'=>?_,hK _ ?_⟩
              ·
               (first
                | (have p0:=VY hw' HP.o.1
                   have p1:=VY hw' HP.o.2;go_simp;first | done | with_reducible exact rfl | with_reducible exact⟨rfl,rfl⟩)
                | (have q0:=VY hw' HQ.o.1
                   have q1:=VY hw' HQ.o.2;go_simp;first | done | with_reducible exact rfl | with_reducible exact⟨rfl,rfl⟩))
              clear hK K))
      refine wpQuiet_nil ?_;intro w7 hw7;have HB7:=hid (A6 HB.o hw7);clear hw7;clear heq1 heq2 d1 d2;go_wp2_with fail;go_roundg (N - (i+1))
      case rel=>exact⟨i+1,AA HI.o HLT.o,by go_num,HB7.o⟩
      case measure=>exact Az HI.o HLT.o
     ·have d2:¬ ((i:Int)<(N:Int)):=(by omega);clear hlt;go_upto_region 12 with fail
      go_wp2_with fail;refine(BI _).mono ?_;rintro e wz ⟨rfl,hbz⟩;have HBE:=hid (A6 HBr.o hbz);clear hbz;go_wp2_with fail;go_ret;exact⟨rfl,HBE.o⟩
 ·have d:¬ (n:Int)≤400:=(by omega);by_cases hz3:300<z
  ·rw[Ak hn1,Ak hn2,Ak hn3,Ak hn4] at KW ⊢;clear hn1 hn2 hn3 hn4 hL hX hxn hxo hb1 h4 hz KF;go_enter Tryz.func5,Tryz.ntmps5;go_upto_region 1 with fail
   refine Ao (os:=[.cells #[.slice L.se.a n1 L.se.c,.slice L.po.a n2 L.po.c,.slice L.sg.a n3 L.sg.c,.slice L.rt.a n4 L.rt.c] 27]) (w0:=w) rfl ?_;intro W hat hbw;obtain⟨gl,hgl⟩:=X0 w.heap.size;have q0:=hat 0 _ rfl;rw[Wa,← hgl] at q0;rw[← hgl];have HQl:=hid q0;have HB0:=hid hbw;clear hat hbw q0 hgl;have l0:=A4 HQl.o 0 _ rfl;have l1:=A4 HQl.o 1 _ rfl;have l2:=A4 HQl.o 2 _ rfl;have l3:=A4 HQl.o 3 _ rfl;go_wp2_with fail;refine(KW.o _ HB0.o).mono ?_;rintro e w1 ⟨rfl,hb⟩;have HB1:=hid (A6 HB0.o hb);have HL1:=hid (A5 hb HQl.o);clear hb l0 l1 l2 l3;go_wp2_with fail;refine(BI _).mono ?_;rintro e wz ⟨rfl,hbz⟩;have HBE:=hid (A6 HB1.o hbz);clear hbz;go_wp2_with fail;go_ret;exact⟨rfl,HBE.o⟩
  ·have dz:¬ (300:Int)<z:=hz3;obtain⟨N,r,hN4,hNn,hk1,hk2⟩:=ID L ra n rc X w hL hX.row hxn (fun h=>absurd h h4);have KR:=hid hk1;have KD:=hid hk2;have HN4:=hid hN4;have HNn:=hid hNn;have HXN:=hid hxn;clear hk1 hk2 hN4 hNn;rw[Ak hn1,Ak hn2,Ak hn3,Ak hn4] at KW KR KD ⊢;clear hn1 hn2 hn3 hn4 hL hX hxn hxo hb1 h4 hz KF hz3;unfold Ib at KR KD;go_enter Tryz.func5,Tryz.ntmps5;go_upto_region 1 with fail
   refine Ao (os:=[.cells #[.slice L.se.a n1 L.se.c,.slice L.po.a n2 L.po.c,.slice L.sg.a n3 L.sg.c,.slice L.rt.a n4 L.rt.c] 27]) (w0:=w) rfl ?_;intro W hat hbw;obtain⟨gl,hgl⟩:=X0 w.heap.size;have q0:=hat 0 _ rfl;rw[Wa,← hgl] at q0;rw[← hgl];have HQl:=hid q0;have HB0:=hid hbw;clear hat hbw q0 hgl;have l0:=A4 HQl.o 0 _ rfl;have l1:=A4 HQl.o 1 _ rfl;have l2:=A4 HQl.o 2 _ rfl;have l3:=A4 HQl.o 3 _ rfl;go_wp2_with fail;refine(KW.o _ HB0.o).mono ?_;rintro e wa ⟨rfl,hb⟩;have HBa:=hid (A6 HB0.o hb);have HLa:=hid (A5 hb HQl.o);clear hb l0 l1 l2 l3;have l0:=A4 HLa.o 0 _ rfl;have l1:=A4 HLa.o 1 _ rfl;have l2:=A4 HLa.o 2 _ rfl;have l3:=A4 HLa.o 3 _ rfl;go_wp2_with fail;refine(KR.o _ HBa.o).mono ?_;rintro e w3 ⟨⟨sa,ca,oa,cb,rfl,h1,h2⟩,hb⟩;have HB3:=hid (A6 HBa.o hb);have HL3:=hid (A5 hb HLa.o);have HR1:=hid h1;have HR2:=hid h2;clear hb h1 h2 l0 l1 l2 l3;have l0:=A4 HL3.o 0 _ rfl;have l1:=A4 HL3.o 1 _ rfl;have l2:=A4 HL3.o 2 _ rfl;have l3:=A4 HL3.o 3 _ rfl;go_wp2_with fail;refine(KD.o _ HB3.o).mono ?_;rintro e w4 ⟨⟨sb,cc,ob,cd,rfl,h3,h4⟩,hb⟩;have HB4:=hid (A6 HB3.o hb);have HR1:=hid (HR1.o.below hb);have HR2:=hid (HR2.o.below hb);have HR3:=hid h3;have HR4:=hid h4;clear hb h3 h4 l0 l1 l2 l3;have hnn:(r != r)=false:=(by simp);have hNN:((N:Int) !=(N:Int))=false:=(by simp);go_upto_region 7 with fail
   clear hnn hNN;go_upto_region 8 with fail
   go_loopg [11] N (fun g v wr=>∃ i:Nat,i+g=N∧v = .int .i64 (i:Int)∧Below w4.heap.size w4 wr)
   case atStart=>exact⟨0,by omega,rfl,VU _ _⟩
   case round=>
    obtain⟨i,hi,rfl,hbw⟩:=hrel;have HI:=hid hi;have HB:=hid hbw;have HBr:=hid (A6 HB4.o hbw);clear hi hbw;by_cases hlt:i<N
    ·skip
     have d1:(0:Int)≤i:=(by omega);have d2:(i:Int)<N:=(by omega);have e1:=B8 hlt (Wd HN4.o (by decide));have HLT:=hid hlt;have hri:=CQ hlt;obtain⟨x,hxi⟩:∃ x,X[i]?=some x:=⟨_,Wb (by rw[HXN.o];exact Wv hlt HNn.o)⟩;obtain⟨S,hS⟩:=WY (BX (AW L) X (i+1));obtain⟨OP,PT,hol⟩:∃ P Q:Int,D8 (AW L) X i=[.int .u64 P,.int .u32 Q]:=⟨_,_,Gs hxi⟩;rcases HR1.o with hnil | ⟨b1,o1,ha1,hc1⟩
     ·exact absurd hnil (Ch hlt)
     rcases HR2.o with hnil | ⟨b2,o2,ha2,hc2⟩
     ·exact absurd hnil (Ch hlt)
     rcases HR3.o with hnil | ⟨b3,o3,ha3,hc3⟩
     ·exact absurd hnil (Ch hlt)
     rcases HR4.o with hnil | ⟨b4,o4,ha4,hc4⟩
     ·exact absurd hnil (Ch hlt)
     have HC1:Hid (∀ j v,(Af S)[j]?=some v→wr.cell? ⟨b1,o1+i*68+j,none⟩=some v):=hid (fun j v hv=>VY HB.o (hc1 i i hri j v (by rw[← hS] at hv;exact hv)));have HC3:Hid (∀ j v,(Af S)[j]?=some v→wr.cell? ⟨b3,o3+i*68+j,none⟩=some v):=hid (fun j v hv=>VY HB.o (hc3 i i hri j v (by rw[← hS] at hv;exact hv)));have p0:=VY HB.o (hc2 i i hri 0 (.int .u64 OP) (by rw[hol];rfl));have p1:=VY HB.o (hc2 i i hri 1 (.int .u32 PT) (by rw[hol];rfl));have q0:=VY HB.o (hc4 i i hri 0 (.int .u64 OP) (by rw[hol];rfl));have q1:=VY HB.o (hc4 i i hri 1 (.int .u32 PT) (by rw[hol];rfl));rw[Wa] at p0 q0;have HP:=hid (And.intro p0 p1);have HQ:=hid (And.intro q0 q1);subst ha1;subst ha2;subst ha3;subst ha4;have heq1:=Kp S;have heq2:=Gc OP PT;clear hlt hri hxi hS hol hc1 hc2 hc3 hc4 p0 p1 q0 q1;go_upto_region 10 with fail
     refine Ad (by kernel_rfl) ?_ ?_
     ·kernel_rfl
     repeat first
      | go_big_quiet_skip
      | (go_big_quiet_want
         with_reducible refine Ae (o:=⟨some 74,_,_,_,_,_⟩) 65 _ rfl _ _ ?_ (fun w' hw'=>Ey (fun j v hv=>VY hw' (HC1.o j v hv))) ?_
         ·rfl
         simp only[Act.put,VW,VX,VV];go_big_quiet_on)
      | (go_big_quiet_want
         with_reducible refine Ae (o:=⟨some 78,_,_,_,_,_⟩) 65 _ rfl _ _ ?_ (fun w' hw'=>Ey (fun j v hv=>VY hw' (HC3.o j v hv))) ?_
         ·rfl
         simp only[Act.put,VW,VX,VV];go_big_quiet_on)
      | (go_big_quiet_want;go_big_quiet_op;go_big_quiet_on)
      | (with_reducible apply wpQuiet_step
         intro K hK;go_simp;first
          | (refine hK _ ?_;clear hK K)
          | (apply Exists.intro
             refine⟨fun w' hw'=>?_,hK _ ?_⟩
             ·
              (first
               | (have p0:=VY hw' HP.o.1
                  have p1:=VY hw' HP.o.2;go_simp;first | done | with_reducible exact rfl | with_reducible exact⟨rfl,rfl⟩)
               | (have q0:=VY hw' HQ.o.1
                  have q1:=VY hw' HQ.o.2;go_simp;first | done | with_reducible exact rfl | with_reducible exact⟨rfl,rfl⟩))
             clear hK K))
     refine wpQuiet_nil ?_;intro w7 hw7;have HB7:=hid (A6 HB.o hw7);clear hw7;clear heq1 heq2 d1 d2;go_wp2_with fail;go_roundg (N - (i+1))
     case rel=>exact⟨i+1,AA HI.o HLT.o,by go_num,HB7.o⟩
     case measure=>exact Az HI.o HLT.o
    ·have d2:¬ ((i:Int)<(N:Int)):=(by omega);clear hlt;go_upto_region 12 with fail
     go_wp2_with fail;refine(BI _).mono ?_;rintro e wz ⟨rfl,hbz⟩;have HBE:=hid (A6 HBr.o hbz);clear hbz;go_wp2_with fail;go_ret;exact⟨rfl,HBE.o⟩
end Go.Proofs.YtpohoannggdbjaaGreat
