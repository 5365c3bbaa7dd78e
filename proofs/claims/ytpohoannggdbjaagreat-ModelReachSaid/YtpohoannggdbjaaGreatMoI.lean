/- Layer 28: Run. -/
import Derived.Test.YtpohoannggdbjaaGreatMoH
import Derived.Test.YtpohoannggdbjaaGreatRelT
set_option maxRecDepth 100000
set_option maxHeartbeats 200000000
namespace Go.Proofs.YtpohoannggdbjaaGreat
open Lib (hid)
open Go.RowKit
def BX(T:Tb)(X:List Iv):Nat→St
 | 0=>FL
 | i+1=>match X[i]? with
   | some x=>Ay T x (BX T X i)
   | none=>BX T X i
theorem FD(T:Tb)(X:List Iv):BX T X 0=FL:=rfl
theorem FC{T:Tb}{X:List Iv}{i:Nat}{x:Iv}(hx:X[i]?=some x):BX T X (i+1)=Ay T x (BX T X i):=by
 show(match X[i]? with
  | some x=>Ay T x (BX T X i)
  | none=>BX T X i)=_
 rw[hx]
def D8(T:Tb)(X:List Iv)(i:Nat):List Value:=match X[i]? with
 | some x=>[.int .u64 (Bq T (BX T X (i+1)) x.oc x.no x.re:Int),.int .u32 ((BX T X (i+1)).pt:Int)]
 | none=>[.int .u64 0,.int .u32 0]
theorem Gs{T:Tb}{X:List Iv}{i:Nat}{x:Iv}(hx:X[i]?=some x):D8 T X i=[.int .u64 (Bq T (Ay T x (BX T X i)) x.oc x.no x.re:Int),.int .u32 ((Ay T x (BX T X i)).pt:Int)]:=by
 unfold D8;rw[hx,FC hx]
def FN(T:Tb)(X:List Iv)(i:Nat):List Value:=(List.range i).flatMap (fun j=>Af (BX T X (j+1)))
def FM(T:Tb)(X:List Iv)(i:Nat):List Value:=(List.range i).flatMap (fun j=>D8 T X j)
theorem Hq(T:Tb)(X:List Iv)(i:Nat):FN T X (i+1)=FN T X i ++ Af (BX T X (i+1)):=by
 unfold FN;rw[List.range_succ,WA,WI,WO,Wt]
theorem GY(T:Tb)(X:List Iv)(i:Nat):FM T X (i+1)=FM T X i ++ D8 T X i:=by
 unfold FM;rw[List.range_succ,WA,WI,WO,Wt]
theorem MQ(T:Tb)(X:List Iv):∀ i,(FN T X i).length=i*68
 | 0=>rfl
 | i+1=>by rw[Hq,Wh,MQ T X i,AS];omega
theorem EA(T:Tb)(X:List Iv)(i:Nat):(D8 T X i).length=2:=by unfold D8;cases X[i]?<;>rfl
theorem Mx(T:Tb)(X:List Iv):∀ i,(FM T X i).length=i*2
 | 0=>rfl
 | i+1=>by rw[GY,Wh,Mx T X i,EA];omega
theorem KX(T:Tb)(X:List Iv):FN T X 0=[]:=rfl
theorem Kt(T:Tb)(X:List Iv):FM T X 0=[]:=rfl
theorem Hr{T:Tb}(hT:Dc T){s:St}(h:s.ok)(x:Iv):(Ay T x s).ok:=Kr hT h x.oc x.cl
theorem NI{g:Nat}(vs:List Value):∀(o:Nat) (w:World),Ai g w (w.setCells g o vs):=by
 induction vs with
 | nil=>intro o w;exact Ai.refl g w
 | cons v vs ih=>intro o w;exact((Ai.refl g w).setCell (p:=⟨g,o,none⟩) rfl v).trans (ih _ _)
theorem MK{w:World}{b:Nat}{t:TypeId}{fr:Nat × Nat}(tl:List Value):∀(vs pre old:List Value),old.length=vs.length→w.heap[b]?=some (.cells (pre ++ (old ++ tl)).toArray t fr)→(w.setCells b pre.length vs).heap[b]?=some (.cells (pre ++ (vs ++ tl)).toArray t fr)
 | [],pre,old,hl,h=>by
   have:old=[]:=List.length_eq_zero_iff.1 hl;subst this;exact h
 | v :: vs,pre,[],hl,h=>by cases hl
 | v :: vs,pre,o :: old,hl,h=>by
   show((w.setCell ⟨b,pre.length,none⟩ v).setCells b (pre.length+1) vs).heap[b]?=_;have h1:=AG h pre.length v;rw[VW] at h1;have h2:(pre ++ (o :: old ++ tl)).set pre.length v=(pre ++ [v]) ++ (old ++ tl):=by
    rw[List.set_append,if_neg (by omega),Nat.sub_self,Wx];rfl
   rw[h2] at h1;have h3:=MK (w:=w.setCell ⟨b,pre.length,none⟩ v) tl vs (pre ++ [v]) old (by simpa using hl) h1;rw[Wh] at h3;rw[show pre ++ (v :: vs ++ tl)=pre ++ [v] ++ (vs ++ tl) by rw[Wx];rfl];exact h3
theorem IH{w:World}{b:Nat}{t ty:TypeId}(pre rest new:List Value)(h:w.heap[b]?=some (.cells (pre ++ rest).toArray t))(hl:new.length≤rest.length)(hi:(Tryz.prog.info? ty).map (·.size)=some new.length)(h1:∀ u∈new,u.oneCell'=true) :
 (Instr.storeAt ty (.pointer (some ⟨b,pre.length,none⟩)) (.agg new.toArray)).run Tryz.prog w = .ok () (w.setCells b pre.length new)∧(w.setCells b pre.length new).heap[b]?=some (.cells (pre ++ new ++ rest.drop new.length).toArray t)∧Ai b w (w.setCells b pre.length new):=by
 have hz:new.toArray.size=new.length:=Wn;refine⟨?_,?_,NI _ _ _⟩
 ·refine run_storeAt_mid w b pre.length ty new.toArray (fun j hj=>?_) (by rw[hz];exact hi) (all_oneCell_toArray h1);rw[hz] at hj;refine⟨?_,Aq h _⟩;rw[A4 h (pre.length+j) _ (by rw[WG];exact Wb (by rw[Wh];omega))];rfl
 ·have h2:=MK (w:=w) (b:=b) (t:=t) (rest.drop new.length) new pre (rest.take new.length) (by rw[Wu];omega) (by rw[List.take_append_drop];exact h);rw[← Wx] at h2;exact h2
theorem Ra:(Tryz.prog.info? 44).map (·.size)=some 2:=by kernel_rfl
theorem Kg:(Tryz.prog.info? 44).map (fun i=>(i.zero,i.size,i.bytes))=some (some (.agg #[.int .u64 0,.int .u32 0]),2,16):=by kernel_rfl
theorem Rz(n:Nat)(h:n≤1000):∃ C:List Value,C.length=n*68∧∀ w,(Instr.makeSlice 37 (.int .i64 (n:Int)) (.int .i64 (n:Int))).run Tryz.prog w = .ok (.slice (some ⟨w.heap.size,0,none⟩) n n) (w.alloc (.cells C.toArray 65)):=by
 obtain⟨i0,hi,hz0,hz1,hz2⟩:=info_parts Ew;refine⟨(madeCells (Value.agg (Af zS).toArray).cells (n*68)).toList,by rw[Array.length_toList];exact size_madeCells _ _,fun w=>?_⟩;have:=run_makeSlice (P:=Tryz.prog) (w:=w) 37 65 i0 (.agg (Af zS).toArray) Tryz.underlying37 hi hz0 .i64 .i64 n n (by omega) (by omega) (by rw[hz1];omega) (by rw[hz2];omega) (by omega);rw[hz1,Int.toNat_natCast] at this;exact this
theorem Ry(n:Nat)(h:n≤1000):∃ C:List Value,C.length=n*2∧∀ w,(Instr.makeSlice 38 (.int .i64 (n:Int)) (.int .i64 (n:Int))).run Tryz.prog w = .ok (.slice (some ⟨w.heap.size,0,none⟩) n n) (w.alloc (.cells C.toArray 44)):=by
 obtain⟨i0,hi,hz0,hz1,hz2⟩:=info_parts Kg;refine⟨(madeCells (Value.agg #[.int .u64 0,.int .u32 0]).cells (n*2)).toList,by rw[Array.length_toList];exact size_madeCells _ _,fun w=>?_⟩;have:=run_makeSlice (P:=Tryz.prog) (w:=w) 38 44 i0 (.agg #[.int .u64 0,.int .u32 0]) Tryz.underlying38 hi hz0 .i64 .i64 n n (by omega) (by omega) (by rw[hz1];omega) (by rw[hz2];omega) (by omega);rw[hz1,Int.toNat_natCast] at this;exact this
theorem Jl{w:World}{g h:Nat}{a b:Array Value}{s t:TypeId}{f k:Nat × Nat}(h1:w.heap[g]?=some (.cells a s f))(h2:w.heap[h]?=some (.cells b t k))(hs:s≠t):g≠h:=by
 rintro rfl;rw[h1] at h2;cases h2;exact hs rfl
theorem KJ{P:Program}{r:Operand→Value}{w:World}{F:Value→World→Prop}{o:Oper}(t:TypeId)(x y:Operand)(ho:o.op = .makeSlice t x y)(vx vy v:Value)(hx:r x=vx)(hy:r y=vy)(w':World)(hr:(Instr.makeSlice t vx vy).run P w = .ok v w')(hb:Below w.heap.size w w')(h:F v w'):CF P w F ((execOp r o).run P w):=by
 unfold execOp;simp only[ho,hx,hy,Sem.run_bind,hr,Result.andThen_ok,Sem.run_pure];exact⟨hb,h⟩
attribute [local irreducible] Sl.v Aa pw Ab Aw C8 Af BC CD Bi Bg B9 CB BQ AU Bp BB BG Bh Bd BP Bo BL BF BN AI AY AV Be Bw Bq C4 Mc.tb BZ AX Ap B5
attribute [local irreducible] Bs BV C6 BS Ay AN
attribute [local irreducible] AW CY Bt BO zS FL BH Df C3 BX FN FM D8
theorem LF(L:AL)(ra:Option Addr)(n rc:Nat)(w:World)(hL:AO w L)(c:Int)(hc:(Ap L).1=c)(h0:¬ c=0) :
 Calls Tryz.prog 7 #[.agg #[L.se.v,L.po.v,L.sg.v,L.rt.v],.slice ra n rc] w fun e w'=>e = .returned (.tuple #[.slice none 0 0,.slice none 0 0,.int .i64 c])∧Below w.heap.size w w':=by
 have KN:Hid (∀ V,Below w.heap.size w V→Calls Tryz.prog 18 #[.agg #[L.se.v,L.po.v,L.sg.v,L.rt.v]] V fun e w'=>e = .returned (.tuple #[.pointer none,.int .i64 c])∧Below V.heap.size V w'):=hid (fun V hV=>Pj L c V (hL.below hV) hc h0);have cn:(c != 0)=true:=by rw[WJ];exact h0
 clear hc h0;obtain⟨n1,hn1⟩:=WY L.se.l.length;obtain⟨n2,hn2⟩:=WY L.po.l.length;obtain⟨n3,hn3⟩:=WY L.sg.l.length;obtain⟨n4,hn4⟩:=WY L.rt.l.length;rw[Ak hn1,Ak hn2,Ak hn3,Ak hn4] at KN ⊢;clear hn1 hn2 hn3 hn4 hL;go_enter Tryz.func7,Tryz.ntmps7;go_upto_region 1 with fail
 refine Ao (os:=[.cells #[.slice L.se.a n1 L.se.c,.slice L.po.a n2 L.po.c,.slice L.sg.a n3 L.sg.c,.slice L.rt.a n4 L.rt.c] 27]) (w0:=w) rfl ?_;intro W hat hbw;obtain⟨gl,hgl⟩:=X0 w.heap.size;have q0:=hat 0 _ rfl;rw[Wa,← hgl] at q0;rw[← hgl];have HQl:=hid q0;have HB0:=hid hbw;clear hat hbw q0 hgl;have l0:=A4 HQl.o 0 _ rfl;have l1:=A4 HQl.o 1 _ rfl;have l2:=A4 HQl.o 2 _ rfl;have l3:=A4 HQl.o 3 _ rfl;go_wp2_with fail;refine(KN.o _ HB0.o).mono ?_;rintro e w1 ⟨rfl,hb1⟩;have HB1:=hid (A6 HB0.o hb1);clear hb1 l0 l1 l2 l3;go_wp2_with fail;go_ret3;exact⟨rfl,HB1.o⟩
theorem S6(L:AL)(ra:Option Addr)(n rc:Nat)(w:World)(hL:AO w L)(hc:(Ap L).1=0)(hn:400<n) :
 Calls Tryz.prog 7 #[.agg #[L.se.v,L.po.v,L.sg.v,L.rt.v],.slice ra n rc] w fun e w'=>e = .returned (.tuple #[.slice none 0 0,.slice none 0 0,.int .i64 3])∧Below w.heap.size w w':=by
 have KN:Hid (∀ V,Below w.heap.size w V→Calls Tryz.prog 18 #[.agg #[L.se.v,L.po.v,L.sg.v,L.rt.v]] V fun e w'=>∃ m M,e = .returned (.tuple #[.pointer (some ⟨m,0,none⟩),.int .i64 0])∧CN (fun b=>b<w.heap.size) w' m M∧M.tb=AW L∧M.pt=pw M.li.l.length - 1∧Below V.heap.size V w'):=hid (fun V hV=>(Jm L V (hL.below hV) hc).mono (fun _ _ ⟨m,M,e1,e2,e3,e4,e5⟩=>⟨m,M,e1,e2.weak (fun b _ hb=>Wv hb hV.size),e3,by rw[e4,Ml e3],e5⟩));have d:(400:Int)<(n:Int):=by omega
 clear hc hn;obtain⟨n1,hn1⟩:=WY L.se.l.length;obtain⟨n2,hn2⟩:=WY L.po.l.length;obtain⟨n3,hn3⟩:=WY L.sg.l.length;obtain⟨n4,hn4⟩:=WY L.rt.l.length;rw[Ak hn1,Ak hn2,Ak hn3,Ak hn4] at KN ⊢;clear hn1 hn2 hn3 hn4 hL;go_enter Tryz.func7,Tryz.ntmps7;go_upto_region 1 with fail
 refine Ao (os:=[.cells #[.slice L.se.a n1 L.se.c,.slice L.po.a n2 L.po.c,.slice L.sg.a n3 L.sg.c,.slice L.rt.a n4 L.rt.c] 27]) (w0:=w) rfl ?_;intro W hat hbw;obtain⟨gl,hgl⟩:=X0 w.heap.size;have q0:=hat 0 _ rfl;rw[Wa,← hgl] at q0;rw[← hgl];have HQl:=hid q0;have HB0:=hid hbw;clear hat hbw q0 hgl;have l0:=A4 HQl.o 0 _ rfl;have l1:=A4 HQl.o 1 _ rfl;have l2:=A4 HQl.o 2 _ rfl;have l3:=A4 HQl.o 3 _ rfl;go_wp2_with fail;refine(KN.o _ HB0.o).mono ?_;rintro e w1 ⟨m,M,rfl,h1,h2,h3,hb1⟩;have HB1:=hid (A6 HB0.o hb1);clear hb1 l0 l1 l2 l3 h1 h2 h3;go_wp2_with fail;go_ret3;exact⟨rfl,HB1.o⟩
theorem JB(L:AL)(ra:Option Addr)(n rc:Nat)(X:List Iv)(w:World)(hL:AO w L)(hX:As 4 DV w ra X)(hxn:X.length=n)(hxo:∀ x∈X,Ci w x∧x.len≤100000)(h4:n≤400)(hc:(Ap L).1=0) :
 Calls Tryz.prog 7 #[.agg #[L.se.v,L.po.v,L.sg.v,L.rt.v],.slice ra n rc] w fun e w'=>∃ gS gO,e = .returned (.tuple #[.slice (some ⟨gS,0,none⟩) n n,.slice (some ⟨gO,0,none⟩) n n,.int .i64 0])∧w'.heap[gS]?=some (.cells (FN (AW L) X n).toArray 65)∧w'.heap[gO]?=some (.cells (FM (AW L) X n).toArray 44)∧Below w.heap.size w w':=by
 have KN:Hid (∀ V,Below w.heap.size w V→Calls Tryz.prog 18 #[.agg #[L.se.v,L.po.v,L.sg.v,L.rt.v]] V fun e w'=>∃ m M,e = .returned (.tuple #[.pointer (some ⟨m,0,none⟩),.int .i64 0])∧CN (fun b=>b<w.heap.size) w' m M∧M.tb=AW L∧M.pt=pw M.li.l.length - 1∧Below V.heap.size V w'):=hid (fun V hV=>(Jm L V (hL.below hV) hc).mono (fun _ _ ⟨m,M,e1,e2,e3,e4,e5⟩=>⟨m,M,e1,e2.weak (fun b _ hb=>Wv hb hV.size),e3,by rw[e4,Ml e3],e5⟩));obtain⟨T,hT⟩:=WY (AW L);have HTB:Hid (Dc T):=hid (hT ▸ G4 hc);rw[hT] at KN ⊢;have HXR:=hid hX;have HXN:=hid hxn;have HXO:=hid hxo;have HN4:=hid h4;have d:¬ (400:Int)<(n:Int):=by omega
 obtain⟨CS,hcs,hms⟩:=Rz n (by omega);obtain⟨CO,hco,hmo⟩:=Ry n (by omega);have HCS:=hid hms;have HCO:=hid hmo;have HCL:=hid (And.intro hcs hco);clear hc hX hxn hxo h4 hT hcs hms hco hmo;obtain⟨n1,hn1⟩:=WY L.se.l.length;obtain⟨n2,hn2⟩:=WY L.po.l.length;obtain⟨n3,hn3⟩:=WY L.sg.l.length;obtain⟨n4,hn4⟩:=WY L.rt.l.length;rw[Ak hn1,Ak hn2,Ak hn3,Ak hn4] at KN ⊢;clear hn1 hn2 hn3 hn4 hL;go_enter Tryz.func7,Tryz.ntmps7;go_upto_region 1 with fail
 refine Ao (os:=[.cells #[.slice L.se.a n1 L.se.c,.slice L.po.a n2 L.po.c,.slice L.sg.a n3 L.sg.c,.slice L.rt.a n4 L.rt.c] 27]) (w0:=w) rfl ?_;intro W hat hbw;obtain⟨gl,hgl⟩:=X0 w.heap.size;have q0:=hat 0 _ rfl;rw[Wa,← hgl] at q0;rw[← hgl];have HQl:=hid q0;have HB0:=hid hbw;clear hat hbw q0 hgl;have l0:=A4 HQl.o 0 _ rfl;have l1:=A4 HQl.o 1 _ rfl;have l2:=A4 HQl.o 2 _ rfl;have l3:=A4 HQl.o 3 _ rfl;go_wp2_with fail;refine(KN.o _ HB0.o).mono ?_;rintro e w1 ⟨m,M,rfl,h1,h2,h3,hb1⟩;have HB1:=hid (A6 HB0.o hb1);have HM:=hid (And.intro (Ki h1) (And.intro h2 h3));clear hb1 l0 l1 l2 l3 h1 h2 h3;go_upto_region 6 with fail
 clear d;refine Am (by kernel_rfl) [7] 10 [0,1,2,3,4,5,6] [27,28,29,30,31,32,9] #[true,true,true,true,true,true,true,false] 1 [(fun v _=>v = .slice ra n rc),(fun v _=>v = .int .i64 (n:Int)),(fun v V=>∃ g,v = .slice (some ⟨g,0,none⟩) n n∧w1.heap.size≤g∧V.heap[g]?=some (.cells CS.toArray 65)),(fun v _=>v = .slice ra n rc),(fun v _=>v = .int .i64 (n:Int)),(fun v V=>∃ g,v = .slice (some ⟨g,0,none⟩) n n∧w1.heap.size≤g∧V.heap[g]?=some (.cells CO.toArray 44)),(fun v V=>∃ g,v = .slice (some ⟨g,0,none⟩) n n∧w1.heap.size≤g∧V.heap[g]?=some (.cells CS.toArray 65)),(fun _ _=>True)] (by kernel_rfl) (by kernel_rfl) (by kernel_rfl) (by kernel_rfl) (by kernel_rfl) rfl (by kernel_rfl) rfl ?_ ?_ ?_
 ·exact⟨A8 _,A8 _,(fun v W W2 h hb=>by obtain⟨g,h1,h2,h3⟩:=h;exact⟨g,h1,h2,A5 hb h3⟩),A8 _,A8 _,(fun v W W2 h hb=>by obtain⟨g,h1,h2,h3⟩:=h;exact⟨g,h1,h2,A5 hb h3⟩),(fun v W W2 h hb=>by obtain⟨g,h1,h2,h3⟩:=h;exact⟨g,h1,h2,A5 hb h3⟩),An,trivial⟩
 ·refine⟨?_,?_,?_,?_,?_,?_,?_,trivial⟩
  ·refine A7 (o:=⟨some 27,_,_,_,_,_⟩) rfl (fun r V hc hf hg hs hb hd=>?_);have x1:r (.tmp 1) = .slice ra n rc:=hs 1 (by kernel_rfl);clear hs hd hg;go_simp;exact X1
  ·refine A7 (o:=⟨some 28,_,_,_,_,_⟩) rfl (fun r V hc hf hg hs hb hd=>?_);have h0:r (.tmp 27) = .slice ra n rc:=hd 0 27 rfl (by kernel_rfl);clear hs hd hg;go_simp;exact X1
  ·refine A7 (o:=⟨some 29,_,_,_,_,_⟩) rfl (fun r V hc hf hg hs hb hd=>?_);have h1:r (.tmp 28) = .int .i64 (n:Int):=hd 1 28 rfl (by kernel_rfl);clear hs hd hg;have hs:=hb.size;exact KJ 37 _ _ rfl _ _ _ h1 h1 _ (HCS.o V) (Ac V _) ⟨_,rfl,hs,Al V _ (VU _ _)⟩
  ·refine A7 (o:=⟨some 30,_,_,_,_,_⟩) rfl (fun r V hc hf hg hs hb hd=>?_);have x1:r (.tmp 1) = .slice ra n rc:=hs 1 (by kernel_rfl);clear hs hd hg;go_simp;exact X1
  ·refine A7 (o:=⟨some 31,_,_,_,_,_⟩) rfl (fun r V hc hf hg hs hb hd=>?_);have h3:r (.tmp 30) = .slice ra n rc:=hd 3 30 rfl (by kernel_rfl);clear hs hd hg;go_simp;exact X1
  ·refine A7 (o:=⟨some 32,_,_,_,_,_⟩) rfl (fun r V hc hf hg hs hb hd=>?_);have h4:r (.tmp 31) = .int .i64 (n:Int):=hd 4 31 rfl (by kernel_rfl);clear hs hd hg;have hs:=hb.size;exact KJ 38 _ _ rfl _ _ _ h4 h4 _ (HCO.o V) (Ac V _) ⟨_,rfl,hs,Al V _ (VU _ _)⟩
  ·refine A7 (o:=⟨some 9,_,_,_,_,_⟩) rfl (fun r V hc hf hg hs hb hd=>?_);have h2:(fun v V=>∃ g,v = .slice (some ⟨g,0,none⟩) n n∧w1.heap.size≤g∧V.heap[g]?=some (.cells CS.toArray 65)) (r (.tmp 29)) V:=hd 2 29 rfl (by kernel_rfl);clear hs hd hg;go_simp;exact⟨VU _ _,h2⟩
 ·intro a V hb hx;have h0:a.eval (.tmp 27) = .slice ra n rc:=hx 0 27 rfl rfl;have h1:a.eval (.tmp 28) = .int .i64 (n:Int):=hx 1 28 rfl rfl;have h2:(fun v V=>∃ g,v = .slice (some ⟨g,0,none⟩) n n∧w1.heap.size≤g∧V.heap[g]?=some (.cells CS.toArray 65)) (a.eval (.tmp 29)) V:=hx 2 29 rfl rfl;obtain⟨v29,e29⟩:=WY (a.eval (.tmp 29));rw[e29] at h2;have h3:a.eval (.tmp 30) = .slice ra n rc:=hx 3 30 rfl rfl;have h4:a.eval (.tmp 31) = .int .i64 (n:Int):=hx 4 31 rfl rfl;have h5:(fun v V=>∃ g,v = .slice (some ⟨g,0,none⟩) n n∧w1.heap.size≤g∧V.heap[g]?=some (.cells CO.toArray 44)) (a.eval (.tmp 32)) V:=hx 5 32 rfl rfl;obtain⟨v32,e32⟩:=WY (a.eval (.tmp 32));rw[e32] at h5;have h6:(fun v V=>∃ g,v = .slice (some ⟨g,0,none⟩) n n∧w1.heap.size≤g∧V.heap[g]?=some (.cells CS.toArray 65)) (a.eval (.tmp 9)) V:=hx 6 9 rfl rfl;obtain⟨v9,e9⟩:=WY (a.eval (.tmp 9));rw[e9] at h6;unfold AD;simp only[Wi,Wj,h0,h1,e29,h3,h4,e32,e9,Act.put,VW,VX,VV];clear h0 h1 e29 h3 h4 e32 e9 hx;obtain⟨gX,rfl,_,_⟩:=h2;obtain⟨gO,rfl,hgO,qO⟩:=h5;obtain⟨gS,rfl,hgS,qS⟩:=h6;have HB6:=hid hb;have HGS:=hid qS;have HGO:=hid qO;have HGE:Hid (w1.heap.size≤gS∧w1.heap.size≤gO∧gS≠gO):=hid ⟨hgS,hgO,Jl qS qO (by decide)⟩;refine wpAny_ready (rs:=[7]) (by kernel_rfl) (by simp) (AllReady.cons (o:=⟨some 10,_,_,_,_,_⟩) rfl (fun K hK=>?_) AllReady.nil);go_simp;refine hK _ _ ?_;clear hK K hb qS qO hgS hgO;refine wpAny_done (by kernel_rfl) ?_ _
  (try simp only[Act.put,VW,VX,VV])
  go_upto_region 9 with rw[Bz]
  have hbt:=Ac V (.cells (Af zS).toArray 65);have hqt:=Al V (.cells (Af zS).toArray 65) (VU _ _);have hvt:w1.heap.size≤V.heap.size:=HB6.o.size;have hlS:=Aj HGS.o;have hlO:=Aj HGO.o;obtain⟨W6,hW6⟩:=X0 (V.alloc (.cells (Af zS).toArray 65));obtain⟨gt,hgt⟩:=X0 V.heap.size;rw[← hW6] at hbt hqt ⊢;rw[← hgt] at hqt ⊢;have HGT0:=hid hqt;have HGS0:=hid (A5 hbt HGS.o);have HGO0:=hid (A5 hbt HGO.o);have HB60:=hid (A6 HB6.o hbt);have HGE:Hid ((w1.heap.size≤gS∧w1.heap.size≤gO)∧w1.heap.size≤gt∧gS≠gO∧gS≠gt∧gO≠gt):=hid (by have:=HGE.o;omega);clear hbt hqt hvt hlS hlO hW6 hgt HGS HGO HB6;go_loopg [35] n (fun g v wr=>∃(i:Nat) (rs' ro':List Value),i+g=n∧v = .int .i64 (i:Int)∧(BX T X i).ok∧wr.heap[gt]?=some (.cells (Af (BX T X i)).toArray 65)∧wr.heap[gS]?=some (.cells (FN T X i ++ rs').toArray 65)∧wr.heap[gO]?=some (.cells (FM T X i ++ ro').toArray 44)∧(rs'.length=(n - i)*68∧ro'.length=(n - i)*2)∧Below w1.heap.size w1 wr)
  case atStart=>exact⟨0,CS,CO,by omega,rfl,by rw[FD];exact JO,by rw[FD,JN];exact HGT0.o,by rw[KX,WC];exact HGS0.o,by rw[Kt,WC];exact HGO0.o,HCL.o,HB60.o⟩
  case round=>
   obtain⟨i,rs',ro',hi,rfl,hso,hgt,hgs,hgo,hrl,hbw⟩:=hrel;have HI:=hid hi;have HSO:=hid hso;have HGT:=hid hgt;have HGS:=hid hgs;have HGO:=hid hgo;have HRL:=hid hrl;have HB:=hid hbw;clear hi hso hgt hgs hgo hrl hbw;by_cases hlt:i<n
   ·skip
    obtain⟨wo,rfl⟩:=X0 wr;have d1:(0:Int)≤i:=(by omega);have d2:(i:Int)<n:=(by omega);have e1:=B8 hlt (Wd HN4.o (by decide));have HLT:=hid hlt;obtain⟨x,hxi⟩:∃ x,X[i]?=some x:=⟨_,Wb (by rw[HXN.o];exact hlt)⟩;have HXO1:=hid (HXO.o x (Wf hxi));rcases HXR.o with hnil | ⟨rb,ro,hra,hc⟩
    ·rw[hnil] at hxi;cases hxi
    have hbo:=A6 HB1.o HB.o;have z0:=VY hbo (hc i _ hxi 0 _ rfl);have z1:=VY hbo (hc i _ hxi 1 _ rfl);have z2:=VY hbo (hc i _ hxi 2 _ rfl);have z3:=VY hbo (hc i _ hxi 3 _ rfl);rw[Wa] at z0;obtain⟨S,hS⟩:=WY (BX T X i);obtain⟨NS,hNS⟩:=WY (Ay T x S);obtain⟨OP,hOP⟩:=WY (Bq T NS x.oc x.no x.re);obtain⟨PT,hPT⟩:=WY NS.pt;have HSR:Hid (FN T X (i+1)=FN T X i ++ Af NS∧FM T X (i+1)=FM T X i ++ [.int .u64 (OP:Int),.int .u32 (PT:Int)]∧BX T X (i+1)=NS):=hid (by
     have h1:=FC (T:=T) hxi;rw[hS,hNS] at h1;refine⟨by rw[Hq,h1],?_,h1⟩;rw[GY,Gs hxi,hS,hNS,hOP,hPT])
    rw[hS] at HSO HGT;have HNO:Hid NS.ok:=hid (hNS ▸ Hr HTB.o HSO.o x);have KST:Hid (∀ V,Below w1.heap.size w1 V→Calls Tryz.prog 19 #[.pointer (some ⟨m,0,none⟩),.agg (Af S).toArray,.agg #[.int .u64 (x.oc:Int),.int .u32 (x.no:Int),.int .u32 (x.re:Int),.slice x.a x.len x.cap]] V fun e w'=>e = .returned (.tuple #[.agg (Af NS).toArray,.agg #[.int .u64 (OP:Int),.int .u32 (PT:Int)]])∧Below V.heap.size V w'):=hid (fun V hV=>by
     have h:=SZ HM.o.1 hV (HM.o.2.1 ▸ HTB.o) HM.o.2.2 S HSO.o x (HXO1.o.1.below (A6 HB1.o hV)) HXO1.o.2;rw[HM.o.2.1,hNS,hOP,hPT] at h;exact h)
    obtain⟨A,hA⟩:=WY ra;have HAA:=hid hA;rw[hA] at hra ⊢;subst hra;clear hlt hxi hc hbo hS hNS hOP hPT hA;go_upto_region 11 with fail
    clear z0 z1 z2 z3;have hbi:=Ac wo (.cells #[.int .u64 (x.oc:Int),.int .u32 (x.no:Int),.int .u32 (x.re:Int),.slice x.a x.len x.cap] 35);have hqi:=Al wo (.cells #[.int .u64 (x.oc:Int),.int .u32 (x.no:Int),.int .u32 (x.re:Int),.slice x.a x.len x.cap] 35) (VU _ _);obtain⟨W,hW⟩:=X0 (wo.alloc (.cells #[.int .u64 (x.oc:Int),.int .u32 (x.no:Int),.int .u32 (x.re:Int),.slice x.a x.len x.cap] 35));obtain⟨gi,hgi⟩:=X0 wo.heap.size;rw[← hW] at hbi hqi ⊢;rw[← hgi] at hqi ⊢;have HGI:Hid (wo.heap.size≤gi):=hid (by omega);have HBW:=hid (A6 HB.o hbi);have HBI:=hid hbi;have HLD:=hid (Au (A5 hbi HGT.o));have i0:=A4 hqi 0 _ rfl;have i1:=A4 hqi 1 _ rfl;have i2:=A4 hqi 2 _ rfl;have i3:=A4 hqi 3 _ rfl;clear hbi hqi hW hgi;go_wp2_with ((with_reducible refine Ah (op:=⟨some 44,_,_,_,_,_⟩) rfl 65 _ rfl _ _ ?_ HLD.o ?_);(· rfl));refine(KST.o _ HBW.o).mono ?_;rintro e wa ⟨rfl,hba⟩;have HBa:=hid (A6 HBI.o hba);have hgt:=A5 HBa.o HGT.o;have hgs:=A5 HBa.o HGS.o;have hgo:=A5 HBa.o HGO.o;have hne:=HGE.o;clear hba i0 i1 i2 i3 HLD HBW HBI KST HGI;obtain⟨hst1,hq1,ho1⟩:=AH (s':=NS) hgt;obtain⟨wb,hwb⟩:=X0 (wa.setCells gt 0 (Af NS));rw[← hwb] at hst1 hq1 ho1;have hgs1:=ho1.keep hne.2.2.2.1 hgs;have hgo1:=ho1.keep hne.2.2.2.2 hgo;obtain⟨hst2,hq2,ho2⟩:=IH (ty:=44) (FM T X i) ro' [.int .u64 (OP:Int),.int .u32 (PT:Int)] hgo1 (by rw[HRL.o.2];have:=HLT.o;show 2≤_;omega) Ra (by intro u hu;simp at hu;rcases hu with rfl | rfl<;>rfl);rw[Mx] at hst2 hq2 ho2;obtain⟨wc,hwc⟩:=X0 (wb.setCells gO (i*2) [.int .u64 (OP:Int),.int .u32 (PT:Int)]);rw[← hwc] at hst2 hq2 ho2;have hgs2:=ho2.keep hne.2.2.1 hgs1;have hgt2:=ho2.keep (fun e=>hne.2.2.2.2 e.symm) hq1;obtain⟨hst3,hq3,ho3⟩:=IH (ty:=65) (FN T X i) rs' (Af NS) hgs2 (by rw[HRL.o.1,AS];have:=HLT.o;omega) (by rw[AS];exact Bf) (JI NS);rw[MQ] at hst3 hq3 ho3;obtain⟨wd,hwd⟩:=X0 (wc.setCells gS (i*68) (Af NS));rw[← hwd] at hst3 hq3 ho3;have hgo3:=ho3.keep (fun e=>hne.2.2.1 e.symm) hq2;have hgt3:=ho3.keep (fun e=>hne.2.2.2.1 e.symm) hgt2;have HF:Hid (wd.heap[gt]?=some (.cells (Af NS).toArray 65)∧wd.heap[gS]?=some (.cells (FN T X i ++ Af NS ++ rs'.drop (Af NS).length).toArray 65)∧wd.heap[gO]?=some (.cells (FM T X i ++ [Value.int .u64 (OP:Int),Value.int .u32 (PT:Int)] ++ ro'.drop 2).toArray 44)∧Below w1.heap.size w1 wd):=hid ⟨hgt3,hq3,hgo3,(by
     have a0:=A6 HB.o HBa.o;have a1:=Ai.below a0 hne.2.1 a0.size ho1;have a2:=Ai.below a1 hne.1.2 a1.size ho2;exact Ai.below a2 hne.1.1 a2.size ho3)⟩
    have HLD2:=hid (Au hgt2);have HS1:=hid hst1;have HS2:=hid hst2;have HS3:=hid hst3;clear hgt hgs hgo hne hst1 hq1 ho1 hwb hgs1 hgo1 hst2 hq2 ho2 hwc hgs2 hgt2 hst3 hq3 ho3 hwd hgo3 hgt3;go_upto_region 12 with (first
     | ((with_reducible refine Ag (op:=⟨none,.store 65 _ _,_,_,_,_⟩) rfl 65 _ _ rfl _ _ ?_ ?_ _ HS1.o ?_);(· rfl);(· rfl))
     | ((with_reducible refine Ag (op:=⟨none,.store 44 _ _,_,_,_,_⟩) rfl 44 _ _ rfl _ _ ?_ ?_ _ HS2.o ?_);(· rfl);(· rfl)))
    (try simp only[Act.put])
    go_upto_region 13 with (first
     | ((with_reducible refine Ah (op:=⟨some 52,_,_,_,_,_⟩) rfl 65 _ rfl _ _ ?_ HLD2.o ?_);(· rfl))
     | ((with_reducible refine Ag (op:=⟨none,.store 65 _ _,_,_,_,_⟩) rfl 65 _ _ rfl _ _ ?_ ?_ _ HS3.o ?_);(· rfl);(· rfl)))
    (try simp only[Act.put])
    clear HS1 HS2 HS3 HLD2;go_wp2_with fail;rw[← HAA.o];go_roundg (n - (i+1))
    case rel=>
     refine⟨i+1,rs'.drop (Af NS).length,ro'.drop 2,AA HI.o HLT.o,by go_num,?_,?_,?_,?_,?_,HF.o.2.2.2⟩
     ·rw[HSR.o.2.2];exact HNO.o
     ·rw[HSR.o.2.2];exact HF.o.1
     ·rw[HSR.o.1];exact HF.o.2.1
     ·rw[HSR.o.2.1];exact HF.o.2.2.1
     ·rw[List.length_drop,List.length_drop,HRL.o.1,HRL.o.2,AS];have:=HLT.o;omega
    case measure=>exact Az HI.o HLT.o
   ·have d2:¬ ((i:Int)<(n:Int)):=(by omega);obtain rfl:i=n:=(by have:=HI.o;omega);have hr1:rs'=[]:=List.eq_nil_of_length_eq_zero (by rw[HRL.o.1];omega);have hr2:ro'=[]:=List.eq_nil_of_length_eq_zero (by rw[HRL.o.2];omega);have HF:Hid (wr.heap[gS]?=some (.cells (FN T X i).toArray 65)∧wr.heap[gO]?=some (.cells (FM T X i).toArray 44)):=hid ⟨by rw[HGS.o,hr1,Wt],by rw[HGO.o,hr2,Wt]⟩;clear hlt hr1 hr2;go_wp2_with fail;go_ret3;exact⟨gS,gO,rfl,HF.o.1,HF.o.2,A6 HB1.o HB.o⟩
end Go.Proofs.YtpohoannggdbjaaGreat
