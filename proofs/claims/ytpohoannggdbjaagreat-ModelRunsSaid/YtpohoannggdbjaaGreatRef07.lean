/- Ours: MoI; Ref07. -/
import Derived.Test.YtpohoannggdbjaaGreatRelT
import Derived.Test.YtpohoannggdbjaaGreatProg
import Derived.Test.YtpohoannggdbjaaGreatMA
namespace Go.Proofs.YtpohoannggdbjaaGreat
open Lib (hid)
open Go.RowKit
set_option maxRecDepth 100000
def Cx(T:Tb)(X:List Iv):Nat→St
 | 0=>Iz
 | i+1=>match X[i]? with
   | some x=>AE T x (Cx T X i)
   | none=>Cx T X i
theorem Ew(T:Tb)(X:List Iv):Cx T X 0=Iz:=rfl
theorem FJ{T:Tb}{X:List Iv}{i:Nat}{x:Iv}(hx:X[i]?=some x):Cx T X (i+1)=AE T x (Cx T X i):=by
 show(match X[i]? with
  | some x=>AE T x (Cx T X i)
  | none=>Cx T X i)=_
 rw[hx]
def EY(T:Tb)(X:List Iv)(i:Nat):List Value:=match X[i]? with
 | some x=>[.int .u64 (Bq T (Cx T X (i+1)) x.oc x.no x.re:Int),.int .u32 ((Cx T X (i+1)).pt:Int)]
 | none=>[.int .u64 0,.int .u32 0]
theorem Fx{T:Tb}{X:List Iv}{i:Nat}{x:Iv}(hx:X[i]?=some x):EY T X i=[.int .u64 (Bq T (AE T x (Cx T X i)) x.oc x.no x.re:Int),.int .u32 ((AE T x (Cx T X i)).pt:Int)]:=by
 unfold EY;rw[hx,FJ hx]
def Gn(T:Tb)(X:List Iv)(i:Nat):List Value:=(List.range i).flatMap (fun j=>Ai (Cx T X (j+1)))
def Gw(T:Tb)(X:List Iv)(i:Nat):List Value:=(List.range i).flatMap (fun j=>EY T X j)
theorem G5(T:Tb)(X:List Iv)(i:Nat):Gn T X (i+1)=Gn T X i ++ Ai (Cx T X (i+1)):=by
 unfold Gn;rw[List.range_succ,List.flatMap_append,List.flatMap_cons,List.flatMap_nil,List.append_nil]
theorem Gh(T:Tb)(X:List Iv)(i:Nat):Gw T X (i+1)=Gw T X i ++ EY T X i:=by
 unfold Gw;rw[List.range_succ,List.flatMap_append,List.flatMap_cons,List.flatMap_nil,List.append_nil]
theorem K5(T:Tb)(X:List Iv):∀ i,(Gn T X i).length=i*68
 | 0=>rfl
 | i+1=>by rw[G5,List.length_append,K5 T X i,AU];omega
theorem G3(T:Tb)(X:List Iv)(i:Nat):(EY T X i).length=2:=by unfold EY;cases X[i]?<;>rfl
theorem Ku(T:Tb)(X:List Iv):∀ i,(Gw T X i).length=i*2
 | 0=>rfl
 | i+1=>by rw[Gh,List.length_append,Ku T X i,G3];omega
theorem IG(T:Tb)(X:List Iv):Gn T X 0=[]:=rfl
theorem J4(T:Tb)(X:List Iv):Gw T X 0=[]:=rfl
theorem Ip{T:Tb}(hT:Db T){s:St}(h:s.ok)(x:Iv):(AE T x s).ok:=IH hT h x.oc x.cl
theorem Lh{g:Nat}(vs:List Value):∀(o:Nat) (w:World),Ag g w (w.setCells g o vs):=by
 induction vs with
 | nil=>intro o w;exact Ag.refl g w
 | cons v vs ih=>intro o w;exact((Ag.refl g w).setCell (p:=⟨g,o,none⟩) rfl v).trans (ih _ _)
theorem JW{w:World}{b:Nat}{t:TypeId}{fr:Nat × Nat}(tl:List Value):∀(vs pre old:List Value),old.length=vs.length→w.heap[b]?=some (.cells (pre ++ (old ++ tl)).toArray t fr)→(w.setCells b pre.length vs).heap[b]?=some (.cells (pre ++ (vs ++ tl)).toArray t fr)
 | [],pre,old,hl,h=>by
   have:old=[]:=List.length_eq_zero_iff.1 hl;subst this;exact h
 | v :: vs,pre,[],hl,h=>by cases hl
 | v :: vs,pre,o :: old,hl,h=>by
   show((w.setCell ⟨b,pre.length,none⟩ v).setCells b (pre.length+1) vs).heap[b]?=_;have h1:=AH h pre.length v;rw[List.setIfInBounds_toArray] at h1;have h2:(pre ++ (o :: old ++ tl)).set pre.length v=(pre ++ [v]) ++ (old ++ tl):=by
    rw[List.set_append,if_neg (by omega),Nat.sub_self,List.append_assoc];rfl
   rw[h2] at h1;have h3:=JW (w:=w.setCell ⟨b,pre.length,none⟩ v) tl vs (pre ++ [v]) old (by simpa using hl) h1;rw[List.length_append] at h3;rw[show pre ++ (v :: vs ++ tl)=pre ++ [v] ++ (vs ++ tl) by rw[List.append_assoc];rfl];exact h3
theorem H9{w:World}{b:Nat}{t ty:TypeId}(pre rest new:List Value)(h:w.heap[b]?=some (.cells (pre ++ rest).toArray t))(hl:new.length≤rest.length)(hi:(Tryz.prog.info? ty).map (·.size)=some new.length)(h1:∀ u∈new,u.oneCell'=true) :
 (Instr.storeAt ty (.pointer (some ⟨b,pre.length,none⟩)) (.agg new.toArray)).run Tryz.prog w = .ok () (w.setCells b pre.length new)∧(w.setCells b pre.length new).heap[b]?=some (.cells (pre ++ new ++ rest.drop new.length).toArray t)∧Ag b w (w.setCells b pre.length new):=by
 have hz:new.toArray.size=new.length:=List.size_toArray;refine⟨?_,?_,Lh _ _ _⟩
 ·refine run_storeAt_mid w b pre.length ty new.toArray (fun j hj=>?_) (by rw[hz];exact hi) (all_oneCell_toArray h1);rw[hz] at hj;refine⟨?_,An h _⟩;rw[A4 h (pre.length+j) _ (by rw[List.getElem?_toArray];exact List.getElem?_eq_getElem (by rw[List.length_append];omega))];rfl
 ·have h2:=JW (w:=w) (b:=b) (t:=t) (rest.drop new.length) new pre (rest.take new.length) (by rw[List.length_take];omega) (by rw[List.take_append_drop];exact h);rw[← List.append_assoc] at h2;exact h2
theorem OH:(Tryz.prog.info? 44).map (·.size)=some 2:=by kernel_rfl
theorem IW:(Tryz.prog.info? 44).map (fun i=>(i.zero,i.size,i.bytes))=some (some (.agg #[.int .u64 0,.int .u32 0]),2,16):=by kernel_rfl
theorem OT(n:Nat)(h:n≤1000):∃ C:List Value,C.length=n*68∧∀ w,(Instr.makeSlice 37 (.int .i64 (n:Int)) (.int .i64 (n:Int))).run Tryz.prog w = .ok (.slice (some ⟨w.heap.size,0,none⟩) n n) (w.alloc (.cells C.toArray 65)):=by
 obtain⟨i0,hi,hz0,hz1,hz2⟩:=info_parts EU;refine⟨(madeCells (Value.agg (Ai zS).toArray).cells (n*68)).toList,by rw[Array.length_toList];exact size_madeCells _ _,fun w=>?_⟩;have:=run_makeSlice (P:=Tryz.prog) (w:=w) 37 65 i0 (.agg (Ai zS).toArray) Tryz.underlying37 hi hz0 .i64 .i64 n n (by omega) (by omega) (by rw[hz1];omega) (by rw[hz2];omega) (by omega);rw[hz1,Int.toNat_natCast] at this;exact this
theorem Pe(n:Nat)(h:n≤1000):∃ C:List Value,C.length=n*2∧∀ w,(Instr.makeSlice 38 (.int .i64 (n:Int)) (.int .i64 (n:Int))).run Tryz.prog w = .ok (.slice (some ⟨w.heap.size,0,none⟩) n n) (w.alloc (.cells C.toArray 44)):=by
 obtain⟨i0,hi,hz0,hz1,hz2⟩:=info_parts IW;refine⟨(madeCells (Value.agg #[.int .u64 0,.int .u32 0]).cells (n*2)).toList,by rw[Array.length_toList];exact size_madeCells _ _,fun w=>?_⟩;have:=run_makeSlice (P:=Tryz.prog) (w:=w) 38 44 i0 (.agg #[.int .u64 0,.int .u32 0]) Tryz.underlying38 hi hz0 .i64 .i64 n n (by omega) (by omega) (by rw[hz1];omega) (by rw[hz2];omega) (by omega);rw[hz1,Int.toNat_natCast] at this;exact this
theorem KO{w:World}{g h:Nat}{a b:Array Value}{s t:TypeId}{f k:Nat × Nat}(h1:w.heap[g]?=some (.cells a s f))(h2:w.heap[h]?=some (.cells b t k))(hs:s≠t):g≠h:=by
 rintro rfl;rw[h1] at h2;cases h2;exact hs rfl
theorem Iu{P:Program}{r:Operand→Value}{w:World}{F:Value→World→Prop}{o:Oper}(t:TypeId)(x y:Operand)(ho:o.op = .makeSlice t x y)(vx vy v:Value)(hx:r x=vx)(hy:r y=vy)(w':World)(hr:(Instr.makeSlice t vx vy).run P w = .ok v w')(hb:Below w.heap.size w w')(h:F v w'):Cj P w F ((execOp r o).run P w):=by
 unfold execOp;simp only[ho,hx,hy,Sem.run_bind,hr,Result.andThen_ok,Sem.run_pure];exact⟨hb,h⟩
attribute [local irreducible] Sl.v Aa pw Ab Ax C4 Ai BG Cs Bi Bf B7 Cr BO AT Bk Bw BD Bh Bg BQ Bj BI BC BM AD AS AR Bc BB Bq CT Mc.tb BU AQ Aq AW
attribute [local irreducible] Bt Cp CR Dj AE Bz
attribute [local irreducible] B6 CQ Bs BN zS Iz CA DO Ck Cx Gn Gw EY
set_option maxHeartbeats 8000000 in
theorem QK(L:AM)(ra:Option Addr)(n rc:Nat)(w:World)(hL:B5 w L)(c:Int)(hc:(Aq L).1=c)(h0:¬ c=0) :
 Calls Tryz.prog 7 #[.agg #[L.se.v,L.po.v,L.sg.v,L.rt.v],.slice ra n rc] w fun e w'=>e = .returned (.tuple #[.slice none 0 0,.slice none 0 0,.int .i64 c])∧Below w.heap.size w w':=by
 have KN:Hid (∀ V,Below w.heap.size w V→Calls Tryz.prog 18 #[.agg #[L.se.v,L.po.v,L.sg.v,L.rt.v]] V fun e w'=>e = .returned (.tuple #[.pointer none,.int .i64 c])∧Below V.heap.size V w'):=hid (fun V hV=>MC L c V (hL.below hV) hc h0);have cn:(c != 0)=true:=by rw[bne_iff_ne];exact h0
 clear hc h0;obtain⟨n1,hn1⟩:∃ n,L.se.l.length=n:=⟨_,rfl⟩;obtain⟨n2,hn2⟩:∃ n,L.po.l.length=n:=⟨_,rfl⟩;obtain⟨n3,hn3⟩:∃ n,L.sg.l.length=n:=⟨_,rfl⟩;obtain⟨n4,hn4⟩:∃ n,L.rt.l.length=n:=⟨_,rfl⟩;rw[Ak hn1,Ak hn2,Ak hn3,Ak hn4] at KN ⊢;clear hn1 hn2 hn3 hn4 hL;go_enter Tryz.func7,Tryz.ntmps7;go_upto_region 1 with fail
 refine Ap (os:=[.cells #[.slice L.se.a n1 L.se.c,.slice L.po.a n2 L.po.c,.slice L.sg.a n3 L.sg.c,.slice L.rt.a n4 L.rt.c] 27]) (w0:=w) rfl ?_;intro W hat hbw;obtain⟨gl,hgl⟩:∃ g,g=w.heap.size:=⟨_,rfl⟩;have q0:=hat 0 _ rfl;rw[Nat.add_zero,← hgl] at q0;rw[← hgl];have HQl:=hid q0;have HB0:=hid hbw;clear hat hbw q0 hgl;have l0:=A4 HQl.out 0 _ rfl;have l1:=A4 HQl.out 1 _ rfl;have l2:=A4 HQl.out 2 _ rfl;have l3:=A4 HQl.out 3 _ rfl;go_wp2_with fail;refine(KN.out _ HB0.out).mono ?_;rintro e w1 ⟨rfl,hb1⟩;have HB1:=hid (A8 HB0.out hb1);clear hb1 l0 l1 l2 l3;go_wp2_with fail;go_ret3;exact⟨rfl,HB1.out⟩
set_option maxHeartbeats 8000000 in
theorem Og(L:AM)(ra:Option Addr)(n rc:Nat)(w:World)(hL:B5 w L)(hc:(Aq L).1=0)(hn:400<n) :
 Calls Tryz.prog 7 #[.agg #[L.se.v,L.po.v,L.sg.v,L.rt.v],.slice ra n rc] w fun e w'=>e = .returned (.tuple #[.slice none 0 0,.slice none 0 0,.int .i64 3])∧Below w.heap.size w w':=by
 have KN:Hid (∀ V,Below w.heap.size w V→Calls Tryz.prog 18 #[.agg #[L.se.v,L.po.v,L.sg.v,L.rt.v]] V fun e w'=>∃ m M,e = .returned (.tuple #[.pointer (some ⟨m,0,none⟩),.int .i64 0])∧Cv (fun b=>b<w.heap.size) w' m M∧M.tb=B6 L∧M.pt=pw M.li.l.length - 1∧Below V.heap.size V w'):=hid (fun V hV=>(Hq L V (hL.below hV) hc).mono (fun _ _ ⟨m,M,e1,e2,e3,e4,e5⟩=>⟨m,M,e1,e2.weak (fun b _ hb=>Nat.lt_of_lt_of_le hb hV.size),e3,by rw[e4,Kb e3],e5⟩));have d:(400:Int)<(n:Int):=by omega
 clear hc hn;obtain⟨n1,hn1⟩:∃ n,L.se.l.length=n:=⟨_,rfl⟩;obtain⟨n2,hn2⟩:∃ n,L.po.l.length=n:=⟨_,rfl⟩;obtain⟨n3,hn3⟩:∃ n,L.sg.l.length=n:=⟨_,rfl⟩;obtain⟨n4,hn4⟩:∃ n,L.rt.l.length=n:=⟨_,rfl⟩;rw[Ak hn1,Ak hn2,Ak hn3,Ak hn4] at KN ⊢;clear hn1 hn2 hn3 hn4 hL;go_enter Tryz.func7,Tryz.ntmps7;go_upto_region 1 with fail
 refine Ap (os:=[.cells #[.slice L.se.a n1 L.se.c,.slice L.po.a n2 L.po.c,.slice L.sg.a n3 L.sg.c,.slice L.rt.a n4 L.rt.c] 27]) (w0:=w) rfl ?_;intro W hat hbw;obtain⟨gl,hgl⟩:∃ g,g=w.heap.size:=⟨_,rfl⟩;have q0:=hat 0 _ rfl;rw[Nat.add_zero,← hgl] at q0;rw[← hgl];have HQl:=hid q0;have HB0:=hid hbw;clear hat hbw q0 hgl;have l0:=A4 HQl.out 0 _ rfl;have l1:=A4 HQl.out 1 _ rfl;have l2:=A4 HQl.out 2 _ rfl;have l3:=A4 HQl.out 3 _ rfl;go_wp2_with fail;refine(KN.out _ HB0.out).mono ?_;rintro e w1 ⟨m,M,rfl,h1,h2,h3,hb1⟩;have HB1:=hid (A8 HB0.out hb1);clear hb1 l0 l1 l2 l3 h1 h2 h3;go_wp2_with fail;go_ret3;exact⟨rfl,HB1.out⟩
set_option maxHeartbeats 16000000 in
theorem PW(L:AM)(ra:Option Addr)(n rc:Nat)(X:List Iv)(w:World)(hL:B5 w L)(hX:AF 4 Jg w ra X)(hxn:X.length=n)(hxo:∀ x∈X,DS w x∧x.len≤100000)(h4:n≤400)(hc:(Aq L).1=0) :
 Calls Tryz.prog 7 #[.agg #[L.se.v,L.po.v,L.sg.v,L.rt.v],.slice ra n rc] w fun e w'=>∃ gS gO,e = .returned (.tuple #[.slice (some ⟨gS,0,none⟩) n n,.slice (some ⟨gO,0,none⟩) n n,.int .i64 0])∧w'.heap[gS]?=some (.cells (Gn (B6 L) X n).toArray 65)∧w'.heap[gO]?=some (.cells (Gw (B6 L) X n).toArray 44)∧Below w.heap.size w w':=by
 have KN:Hid (∀ V,Below w.heap.size w V→Calls Tryz.prog 18 #[.agg #[L.se.v,L.po.v,L.sg.v,L.rt.v]] V fun e w'=>∃ m M,e = .returned (.tuple #[.pointer (some ⟨m,0,none⟩),.int .i64 0])∧Cv (fun b=>b<w.heap.size) w' m M∧M.tb=B6 L∧M.pt=pw M.li.l.length - 1∧Below V.heap.size V w'):=hid (fun V hV=>(Hq L V (hL.below hV) hc).mono (fun _ _ ⟨m,M,e1,e2,e3,e4,e5⟩=>⟨m,M,e1,e2.weak (fun b _ hb=>Nat.lt_of_lt_of_le hb hV.size),e3,by rw[e4,Kb e3],e5⟩));obtain⟨T,hT⟩:∃ T,B6 L=T:=⟨_,rfl⟩;have HTB:Hid (Db T):=hid (hT ▸ Hx hc);rw[hT] at KN ⊢;have HXR:=hid hX;have HXN:=hid hxn;have HXO:=hid hxo;have HN4:=hid h4;have d:¬ (400:Int)<(n:Int):=by omega
 obtain⟨CS,hcs,hms⟩:=OT n (by omega);obtain⟨CO,hco,hmo⟩:=Pe n (by omega);have HCS:=hid hms;have HCO:=hid hmo;have HCL:=hid (And.intro hcs hco);clear hc hX hxn hxo h4 hT hcs hms hco hmo;obtain⟨n1,hn1⟩:∃ n,L.se.l.length=n:=⟨_,rfl⟩;obtain⟨n2,hn2⟩:∃ n,L.po.l.length=n:=⟨_,rfl⟩;obtain⟨n3,hn3⟩:∃ n,L.sg.l.length=n:=⟨_,rfl⟩;obtain⟨n4,hn4⟩:∃ n,L.rt.l.length=n:=⟨_,rfl⟩;rw[Ak hn1,Ak hn2,Ak hn3,Ak hn4] at KN ⊢;clear hn1 hn2 hn3 hn4 hL;go_enter Tryz.func7,Tryz.ntmps7;go_upto_region 1 with fail
 refine Ap (os:=[.cells #[.slice L.se.a n1 L.se.c,.slice L.po.a n2 L.po.c,.slice L.sg.a n3 L.sg.c,.slice L.rt.a n4 L.rt.c] 27]) (w0:=w) rfl ?_;intro W hat hbw;obtain⟨gl,hgl⟩:∃ g,g=w.heap.size:=⟨_,rfl⟩;have q0:=hat 0 _ rfl;rw[Nat.add_zero,← hgl] at q0;rw[← hgl];have HQl:=hid q0;have HB0:=hid hbw;clear hat hbw q0 hgl;have l0:=A4 HQl.out 0 _ rfl;have l1:=A4 HQl.out 1 _ rfl;have l2:=A4 HQl.out 2 _ rfl;have l3:=A4 HQl.out 3 _ rfl;go_wp2_with fail;refine(KN.out _ HB0.out).mono ?_;rintro e w1 ⟨m,M,rfl,h1,h2,h3,hb1⟩;have HB1:=hid (A8 HB0.out hb1);have HM:=hid (And.intro (Jb h1) (And.intro h2 h3));clear hb1 l0 l1 l2 l3 h1 h2 h3;go_upto_region 6 with fail
 clear d;refine Ah (by kernel_rfl) [7] 10 [0,1,2,3,4,5,6] [27,28,29,30,31,32,9] #[true,true,true,true,true,true,true,false] 1 [(fun v _=>v = .slice ra n rc),(fun v _=>v = .int .i64 (n:Int)),(fun v V=>∃ g,v = .slice (some ⟨g,0,none⟩) n n∧w1.heap.size≤g∧V.heap[g]?=some (.cells CS.toArray 65)),(fun v _=>v = .slice ra n rc),(fun v _=>v = .int .i64 (n:Int)),(fun v V=>∃ g,v = .slice (some ⟨g,0,none⟩) n n∧w1.heap.size≤g∧V.heap[g]?=some (.cells CO.toArray 44)),(fun v V=>∃ g,v = .slice (some ⟨g,0,none⟩) n n∧w1.heap.size≤g∧V.heap[g]?=some (.cells CS.toArray 65)),(fun _ _=>True)] (by kernel_rfl) (by kernel_rfl) (by kernel_rfl) (by kernel_rfl) (by kernel_rfl) rfl (by kernel_rfl) rfl ?_ ?_ ?_
 ·exact⟨A7 _,A7 _,(fun v W W2 h hb=>by obtain⟨g,h1,h2,h3⟩:=h;exact⟨g,h1,h2,A5 hb h3⟩),A7 _,A7 _,(fun v W W2 h hb=>by obtain⟨g,h1,h2,h3⟩:=h;exact⟨g,h1,h2,A5 hb h3⟩),(fun v W W2 h hb=>by obtain⟨g,h1,h2,h3⟩:=h;exact⟨g,h1,h2,A5 hb h3⟩),Al,trivial⟩
 ·refine⟨?_,?_,?_,?_,?_,?_,?_,trivial⟩
  ·refine A6 (o:=⟨some 27,_,_,_,_,_⟩) rfl (fun r V hc hf hg hs hb hd=>?_);have x1:r (.tmp 1) = .slice ra n rc:=hs 1 (by kernel_rfl);clear hs hd hg;go_simp;exact⟨Below.refl _ _,rfl⟩
  ·refine A6 (o:=⟨some 28,_,_,_,_,_⟩) rfl (fun r V hc hf hg hs hb hd=>?_);have h0:r (.tmp 27) = .slice ra n rc:=hd 0 27 rfl (by kernel_rfl);clear hs hd hg;go_simp;exact⟨Below.refl _ _,rfl⟩
  ·refine A6 (o:=⟨some 29,_,_,_,_,_⟩) rfl (fun r V hc hf hg hs hb hd=>?_);have h1:r (.tmp 28) = .int .i64 (n:Int):=hd 1 28 rfl (by kernel_rfl);clear hs hd hg;have hs:=hb.size;exact Iu 37 _ _ rfl _ _ _ h1 h1 _ (HCS.out V) (Ac V _) ⟨_,rfl,hs,Ao V _ (Below.refl _ _)⟩
  ·refine A6 (o:=⟨some 30,_,_,_,_,_⟩) rfl (fun r V hc hf hg hs hb hd=>?_);have x1:r (.tmp 1) = .slice ra n rc:=hs 1 (by kernel_rfl);clear hs hd hg;go_simp;exact⟨Below.refl _ _,rfl⟩
  ·refine A6 (o:=⟨some 31,_,_,_,_,_⟩) rfl (fun r V hc hf hg hs hb hd=>?_);have h3:r (.tmp 30) = .slice ra n rc:=hd 3 30 rfl (by kernel_rfl);clear hs hd hg;go_simp;exact⟨Below.refl _ _,rfl⟩
  ·refine A6 (o:=⟨some 32,_,_,_,_,_⟩) rfl (fun r V hc hf hg hs hb hd=>?_);have h4:r (.tmp 31) = .int .i64 (n:Int):=hd 4 31 rfl (by kernel_rfl);clear hs hd hg;have hs:=hb.size;exact Iu 38 _ _ rfl _ _ _ h4 h4 _ (HCO.out V) (Ac V _) ⟨_,rfl,hs,Ao V _ (Below.refl _ _)⟩
  ·refine A6 (o:=⟨some 9,_,_,_,_,_⟩) rfl (fun r V hc hf hg hs hb hd=>?_);have h2:(fun v V=>∃ g,v = .slice (some ⟨g,0,none⟩) n n∧w1.heap.size≤g∧V.heap[g]?=some (.cells CS.toArray 65)) (r (.tmp 29)) V:=hd 2 29 rfl (by kernel_rfl);clear hs hd hg;go_simp;exact⟨Below.refl _ _,h2⟩
 ·intro a V hb hx;have h0:a.eval (.tmp 27) = .slice ra n rc:=hx 0 27 rfl rfl;have h1:a.eval (.tmp 28) = .int .i64 (n:Int):=hx 1 28 rfl rfl;have h2:(fun v V=>∃ g,v = .slice (some ⟨g,0,none⟩) n n∧w1.heap.size≤g∧V.heap[g]?=some (.cells CS.toArray 65)) (a.eval (.tmp 29)) V:=hx 2 29 rfl rfl;obtain⟨v29,e29⟩:∃ v,a.eval (.tmp 29)=v:=⟨_,rfl⟩;rw[e29] at h2;have h3:a.eval (.tmp 30) = .slice ra n rc:=hx 3 30 rfl rfl;have h4:a.eval (.tmp 31) = .int .i64 (n:Int):=hx 4 31 rfl rfl;have h5:(fun v V=>∃ g,v = .slice (some ⟨g,0,none⟩) n n∧w1.heap.size≤g∧V.heap[g]?=some (.cells CO.toArray 44)) (a.eval (.tmp 32)) V:=hx 5 32 rfl rfl;obtain⟨v32,e32⟩:∃ v,a.eval (.tmp 32)=v:=⟨_,rfl⟩;rw[e32] at h5;have h6:(fun v V=>∃ g,v = .slice (some ⟨g,0,none⟩) n n∧w1.heap.size≤g∧V.heap[g]?=some (.cells CS.toArray 65)) (a.eval (.tmp 9)) V:=hx 6 9 rfl rfl;obtain⟨v9,e9⟩:∃ v,a.eval (.tmp 9)=v:=⟨_,rfl⟩;rw[e9] at h6;unfold AA;simp only[List.foldl_cons,List.foldl_nil,h0,h1,e29,h3,h4,e32,e9,Act.put,List.setIfInBounds_toArray,List.set_cons_zero,List.set_cons_succ];clear h0 h1 e29 h3 h4 e32 e9 hx;obtain⟨gX,rfl,_,_⟩:=h2;obtain⟨gO,rfl,hgO,qO⟩:=h5;obtain⟨gS,rfl,hgS,qS⟩:=h6;have HB6:=hid hb;have HGS:=hid qS;have HGO:=hid qO;have HGE:Hid (w1.heap.size≤gS∧w1.heap.size≤gO∧gS≠gO):=hid ⟨hgS,hgO,KO qS qO (by decide)⟩;refine wpAny_ready (rs:=[7]) (by kernel_rfl) (by simp) (AllReady.cons (o:=⟨some 10,_,_,_,_,_⟩) rfl (fun K hK=>?_) AllReady.nil);go_simp;refine hK _ _ ?_;clear hK K hb qS qO hgS hgO;refine wpAny_done (by kernel_rfl) ?_ _
  (try simp only[Act.put,List.setIfInBounds_toArray,List.set_cons_zero,List.set_cons_succ])
  go_upto_region 9 with rw[BF]
  have hbt:=Ac V (.cells (Ai zS).toArray 65);have hqt:=Ao V (.cells (Ai zS).toArray 65) (Below.refl _ _);have hvt:w1.heap.size≤V.heap.size:=HB6.out.size;have hlS:=Af HGS.out;have hlO:=Af HGO.out;obtain⟨W6,hW6⟩:∃ Z,Z=V.alloc (.cells (Ai zS).toArray 65):=⟨_,rfl⟩;obtain⟨gt,hgt⟩:∃ g,g=V.heap.size:=⟨_,rfl⟩;rw[← hW6] at hbt hqt ⊢;rw[← hgt] at hqt ⊢;have HGT0:=hid hqt;have HGS0:=hid (A5 hbt HGS.out);have HGO0:=hid (A5 hbt HGO.out);have HB60:=hid (A8 HB6.out hbt);have HGE:Hid ((w1.heap.size≤gS∧w1.heap.size≤gO)∧w1.heap.size≤gt∧gS≠gO∧gS≠gt∧gO≠gt):=hid (by have:=HGE.out;omega);clear hbt hqt hvt hlS hlO hW6 hgt HGS HGO HB6;go_loopg [35] n (fun g v wr=>∃(i:Nat) (rs' ro':List Value),i+g=n∧v = .int .i64 (i:Int)∧(Cx T X i).ok∧wr.heap[gt]?=some (.cells (Ai (Cx T X i)).toArray 65)∧wr.heap[gS]?=some (.cells (Gn T X i ++ rs').toArray 65)∧wr.heap[gO]?=some (.cells (Gw T X i ++ ro').toArray 44)∧(rs'.length=(n - i)*68∧ro'.length=(n - i)*2)∧Below w1.heap.size w1 wr)
  case atStart=>exact⟨0,CS,CO,by omega,rfl,by rw[Ew];exact Jn,by rw[Ew,Jp];exact HGT0.out,by rw[IG,List.nil_append];exact HGS0.out,by rw[J4,List.nil_append];exact HGO0.out,HCL.out,HB60.out⟩
  case round=>
   obtain⟨i,rs',ro',hi,rfl,hso,hgt,hgs,hgo,hrl,hbw⟩:=hrel;have HI:=hid hi;have HSO:=hid hso;have HGT:=hid hgt;have HGS:=hid hgs;have HGO:=hid hgo;have HRL:=hid hrl;have HB:=hid hbw;clear hi hso hgt hgs hgo hrl hbw;by_cases hlt:i<n
   ·skip
    obtain⟨wo,rfl⟩:∃ q,q=wr:=⟨_,rfl⟩;have d1:(0:Int)≤i:=by omega
    have d2:(i:Int)<n:=by omega
    have e1:=Bp hlt (Nat.le_trans HN4.out (by decide));have HLT:=hid hlt;obtain⟨x,hxi⟩:∃ x,X[i]?=some x:=⟨_,List.getElem?_eq_getElem (by rw[HXN.out];exact hlt)⟩;have HXO1:=hid (HXO.out x (List.mem_of_getElem? hxi));rcases HXR.out with hnil | ⟨rb,ro,hra,hc⟩
    ·rw[hnil] at hxi;cases hxi
    have hbo:=A8 HB1.out HB.out;have z0:=cell_later hbo (hc i _ hxi 0 _ rfl);have z1:=cell_later hbo (hc i _ hxi 1 _ rfl);have z2:=cell_later hbo (hc i _ hxi 2 _ rfl);have z3:=cell_later hbo (hc i _ hxi 3 _ rfl);rw[Nat.add_zero] at z0;obtain⟨S,hS⟩:∃ S,Cx T X i=S:=⟨_,rfl⟩;obtain⟨NS,hNS⟩:∃ NS,AE T x S=NS:=⟨_,rfl⟩;obtain⟨OP,hOP⟩:∃ OP,Bq T NS x.oc x.no x.re=OP:=⟨_,rfl⟩;obtain⟨PT,hPT⟩:∃ PT,NS.pt=PT:=⟨_,rfl⟩;have HSR:Hid (Gn T X (i+1)=Gn T X i ++ Ai NS∧Gw T X (i+1)=Gw T X i ++ [.int .u64 (OP:Int),.int .u32 (PT:Int)]∧Cx T X (i+1)=NS):=hid (by
     have h1:=FJ (T:=T) hxi;rw[hS,hNS] at h1;refine⟨by rw[G5,h1],?_,h1⟩;rw[Gh,Fx hxi,hS,hNS,hOP,hPT])
    rw[hS] at HSO HGT;have HNO:Hid NS.ok:=hid (hNS ▸ Ip HTB.out HSO.out x);have KST:Hid (∀ V,Below w1.heap.size w1 V→Calls Tryz.prog 19 #[.pointer (some ⟨m,0,none⟩),.agg (Ai S).toArray,.agg #[.int .u64 (x.oc:Int),.int .u32 (x.no:Int),.int .u32 (x.re:Int),.slice x.a x.len x.cap]] V fun e w'=>e = .returned (.tuple #[.agg (Ai NS).toArray,.agg #[.int .u64 (OP:Int),.int .u32 (PT:Int)]])∧Below V.heap.size V w'):=hid (fun V hV=>by
     have h:=PP HM.out.1 hV (HM.out.2.1 ▸ HTB.out) HM.out.2.2 S HSO.out x (HXO1.out.1.below (A8 HB1.out hV)) HXO1.out.2;rw[HM.out.2.1,hNS,hOP,hPT] at h;exact h)
    obtain⟨A,hA⟩:∃ q,ra=q:=⟨_,rfl⟩;have HAA:=hid hA;rw[hA] at hra ⊢;subst hra;clear hlt hxi hc hbo hS hNS hOP hPT hA;go_upto_region 11 with fail
    clear z0 z1 z2 z3;have hbi:=Ac wo (.cells #[.int .u64 (x.oc:Int),.int .u32 (x.no:Int),.int .u32 (x.re:Int),.slice x.a x.len x.cap] 35);have hqi:=Ao wo (.cells #[.int .u64 (x.oc:Int),.int .u32 (x.no:Int),.int .u32 (x.re:Int),.slice x.a x.len x.cap] 35) (Below.refl _ _);obtain⟨W,hW⟩:∃ V,V=wo.alloc (.cells #[.int .u64 (x.oc:Int),.int .u32 (x.no:Int),.int .u32 (x.re:Int),.slice x.a x.len x.cap] 35):=⟨_,rfl⟩;obtain⟨gi,hgi⟩:∃ g,g=wo.heap.size:=⟨_,rfl⟩;rw[← hW] at hbi hqi ⊢;rw[← hgi] at hqi ⊢;have HGI:Hid (wo.heap.size≤gi):=hid (by omega);have HBW:=hid (A8 HB.out hbi);have HBI:=hid hbi;have HLD:=hid (Az (A5 hbi HGT.out));have i0:=A4 hqi 0 _ rfl;have i1:=A4 hqi 1 _ rfl;have i2:=A4 hqi 2 _ rfl;have i3:=A4 hqi 3 _ rfl;clear hbi hqi hW hgi;go_wp2_with ((with_reducible refine Aj (op:=⟨some 44,_,_,_,_,_⟩) rfl 65 _ rfl _ _ ?_ HLD.out ?_);(· rfl));refine(KST.out _ HBW.out).mono ?_;rintro e wa ⟨rfl,hba⟩;have HBa:=hid (A8 HBI.out hba);have hgt:=A5 HBa.out HGT.out;have hgs:=A5 HBa.out HGS.out;have hgo:=A5 HBa.out HGO.out;have hne:=HGE.out;clear hba i0 i1 i2 i3 HLD HBW HBI KST HGI;obtain⟨hst1,hq1,ho1⟩:=AN (s':=NS) hgt;obtain⟨wb,hwb⟩:∃ V,V=wa.setCells gt 0 (Ai NS):=⟨_,rfl⟩;rw[← hwb] at hst1 hq1 ho1;have hgs1:=ho1.keep hne.2.2.2.1 hgs;have hgo1:=ho1.keep hne.2.2.2.2 hgo;obtain⟨hst2,hq2,ho2⟩:=H9 (ty:=44) (Gw T X i) ro' [.int .u64 (OP:Int),.int .u32 (PT:Int)] hgo1 (by rw[HRL.out.2];have:=HLT.out;show 2≤_;omega) OH (by intro u hu;simp at hu;rcases hu with rfl | rfl<;>rfl);rw[Ku] at hst2 hq2 ho2;obtain⟨wc,hwc⟩:∃ V,V=wb.setCells gO (i*2) [.int .u64 (OP:Int),.int .u32 (PT:Int)]:=⟨_,rfl⟩;rw[← hwc] at hst2 hq2 ho2;have hgs2:=ho2.keep hne.2.2.1 hgs1;have hgt2:=ho2.keep (fun e=>hne.2.2.2.2 e.symm) hq1;obtain⟨hst3,hq3,ho3⟩:=H9 (ty:=65) (Gn T X i) rs' (Ai NS) hgs2 (by rw[HRL.out.1,AU];have:=HLT.out;omega) (by rw[AU];exact Bd) (Hw NS);rw[K5] at hst3 hq3 ho3;obtain⟨wd,hwd⟩:∃ V,V=wc.setCells gS (i*68) (Ai NS):=⟨_,rfl⟩;rw[← hwd] at hst3 hq3 ho3;have hgo3:=ho3.keep (fun e=>hne.2.2.1 e.symm) hq2;have hgt3:=ho3.keep (fun e=>hne.2.2.2.1 e.symm) hgt2;have HF:Hid (wd.heap[gt]?=some (.cells (Ai NS).toArray 65)∧wd.heap[gS]?=some (.cells (Gn T X i ++ Ai NS ++ rs'.drop (Ai NS).length).toArray 65)∧wd.heap[gO]?=some (.cells (Gw T X i ++ [Value.int .u64 (OP:Int),Value.int .u32 (PT:Int)] ++ ro'.drop 2).toArray 44)∧Below w1.heap.size w1 wd):=hid ⟨hgt3,hq3,hgo3,(by
     have a0:=A8 HB.out HBa.out;have a1:=Ag.below a0 hne.2.1 a0.size ho1;have a2:=Ag.below a1 hne.1.2 a1.size ho2;exact Ag.below a2 hne.1.1 a2.size ho3)⟩
    have HLD2:=hid (Az hgt2);have HS1:=hid hst1;have HS2:=hid hst2;have HS3:=hid hst3;clear hgt hgs hgo hne hst1 hq1 ho1 hwb hgs1 hgo1 hst2 hq2 ho2 hwc hgs2 hgt2 hst3 hq3 ho3 hwd hgo3 hgt3;go_upto_region 12 with (first
     | ((with_reducible refine Am (op:=⟨none,.store 65 _ _,_,_,_,_⟩) rfl 65 _ _ rfl _ _ ?_ ?_ _ HS1.out ?_);(· rfl);(· rfl))
     | ((with_reducible refine Am (op:=⟨none,.store 44 _ _,_,_,_,_⟩) rfl 44 _ _ rfl _ _ ?_ ?_ _ HS2.out ?_);(· rfl);(· rfl)))
    (try simp only[Act.put])
    go_upto_region 13 with (first
     | ((with_reducible refine Aj (op:=⟨some 52,_,_,_,_,_⟩) rfl 65 _ rfl _ _ ?_ HLD2.out ?_);(· rfl))
     | ((with_reducible refine Am (op:=⟨none,.store 65 _ _,_,_,_,_⟩) rfl 65 _ _ rfl _ _ ?_ ?_ _ HS3.out ?_);(· rfl);(· rfl)))
    (try simp only[Act.put])
    clear HS1 HS2 HS3 HLD2;go_wp2_with fail;rw[← HAA.out];go_roundg (n - (i+1))
    case rel=>
     refine⟨i+1,rs'.drop (Ai NS).length,ro'.drop 2,AK HI.out HLT.out,by go_num,?_,?_,?_,?_,?_,HF.out.2.2.2⟩
     ·rw[HSR.out.2.2];exact HNO.out
     ·rw[HSR.out.2.2];exact HF.out.1
     ·rw[HSR.out.1];exact HF.out.2.1
     ·rw[HSR.out.2.1];exact HF.out.2.2.1
     ·rw[List.length_drop,List.length_drop,HRL.out.1,HRL.out.2,AU];have:=HLT.out;omega
    case measure=>exact AL HI.out HLT.out
   ·have d2:¬ ((i:Int)<(n:Int)):=by omega
    obtain rfl:i=n:=by have:=HI.out;omega
    have hr1:rs'=[]:=List.eq_nil_of_length_eq_zero (by rw[HRL.out.1];omega);have hr2:ro'=[]:=List.eq_nil_of_length_eq_zero (by rw[HRL.out.2];omega);have HF:Hid (wr.heap[gS]?=some (.cells (Gn T X i).toArray 65)∧wr.heap[gO]?=some (.cells (Gw T X i).toArray 44)):=hid ⟨by rw[HGS.out,hr1,List.append_nil],by rw[HGO.out,hr2,List.append_nil]⟩;clear hlt hr1 hr2;go_wp2_with fail;go_ret3;exact⟨gS,gO,rfl,HF.out.1,HF.out.2,A8 HB1.out HB.out⟩
end Go.Proofs.YtpohoannggdbjaaGreat
namespace Go.Proofs.YtpohoannggdbjaaGreat
open Lib (hid)
open Go.RowKit
attribute [local irreducible] pw Aa Ab
theorem GZ(n:Nat)(w:World)(hn:n≤63) :
 Calls Tryz.prog 77 #[.int .i64 n] w fun e w'=>e = .returned (.int .u64 (pw n:Int))∧w=w':=by
 go_enter Tryz.func77,Tryz.ntmps77;go_wp2;go_loop [3,4] (fun p i=>∃ k x:Nat,k≤n∧i = .int .i64 k∧x=pw k∧p = .int .u64 x) (fun _ i=>n - (intOf i).toNat)
 case atStart=>exact⟨0,1,by omega,rfl,Hu.symm,rfl⟩
 case round=>
  obtain⟨k,x,hk,rfl,hx,rfl⟩:=hrel;by_cases hlt:k<n
  ·have hw:IntKind.u64.wrap ((x:Int)*2)=(pw (k+1):Int):=by rw[hx];exact OC k (by omega)
   obtain⟨y,hy⟩:∃ y,y=pw (k+1):=⟨_,rfl⟩;rw[← hy] at hw;have HY:=hid hy;clear hx hy;go_wp2;go_round
   case rel=>exact⟨k+1,y,by omega,by go_num,HY.out,rfl⟩
   case measure=>simp[intOf];omega
  ·obtain rfl:k=n:=by omega
   have HX:=hid hx;clear hx;go_wp2;go_ret;refine⟨?_,rfl⟩;rw[← HX.out];rfl
theorem Kk(s n:Nat)(w:World)(hn:n≤63)(hs:s<18446744073709551616) :
 Calls Tryz.prog 43 #[.int .u64 s,.int .i64 n] w fun e w'=>e = .returned (.bool (Aa s n))∧w=w':=by
 have hp:=D5 n;have HV:=hid (Pk s n hs);clear hs;go_enter Tryz.func43,Tryz.ntmps43;go_wp2_with fail;refine(GZ n _ hn).mono ?_;rintro e w' ⟨rfl,rfl⟩;go_wp2_with fail;go_ret;exact⟨BJ HV.out,rfl⟩
theorem LW(s n:Nat)(w:World)(hn:n≤63)(hs:s<18446744073709551616) :
 Calls Tryz.prog 99 #[.int .u64 s,.int .i64 n] w fun e w'=>e = .returned (.int .u64 ((Ab s n:Nat):Int))∧w=w':=by
 go_enter Tryz.func99,Tryz.ntmps99;go_wp2_with fail;refine(Kk s n _ hn hs).mono ?_;rintro e w' ⟨rfl,rfl⟩;have HS:=hid hs;clear hs;cases hb:Aa s n
 ·have HW:=hid (LR s n hn HS.out hb);have HB:Hid (Ab s n=s+pw n):=hid (by rw[Ab,hb];rfl);clear hb;go_wp2_with fail;refine(GZ n _ hn).mono ?_;rintro e w' ⟨rfl,rfl⟩;go_wp2_with fail;go_ret;refine⟨?_,rfl⟩;rw[HB.out,← HW.out];rfl
 ·have HB:Hid (Ab s n=s):=hid (by rw[Ab,hb];rfl);clear hb;go_wp2_with fail;go_ret;refine⟨?_,rfl⟩;rw[HB.out];rfl
theorem Dp(n:Int)(T:Nat)(w:World)(hT:(T:Int)=max 0 (min n 64)) :
 Calls Tryz.prog 72 #[.int .i64 n] w fun e w'=>e = .returned (.int .u64 ((pw T - 1:Nat):Int))∧w=w':=by
 have HT:=hid hT;have hT64:T≤64:=by omega
 clear hT;go_enter Tryz.func72,Tryz.ntmps72;go_wp2;go_loop [3,4] (fun s i=>∃ k x:Nat,k≤T∧i = .int .i64 k∧x=pw k - 1∧s = .int .u64 x) (fun _ i=>T - (intOf i).toNat)
 case atStart=>exact⟨0,0,by omega,rfl,by rw[Hu],rfl⟩
 case round=>
  obtain⟨k,x,hk,rfl,hx,rfl⟩:=hrel;have HX:=hid hx;by_cases hlt:k<T
  ·have h1:(k:Int)<n:=by have:=HT.out;omega
   have h2:(k:Int)<64:=by omega
   have hxl:x<18446744073709551616:=by
    rw[hx];have:=J8 (n:=k) (by omega);omega
   obtain⟨y,hy⟩:∃ y,y=Ab x k:=⟨_,rfl⟩;have HY:Hid (y=pw (k+1) - 1):=hid (by rw[hy,hx,Gq]);have HV:=hid hy;clear hx hy;go_wp2_with fail;refine(LW x k _ (by omega) hxl).mono ?_;rintro e w' ⟨rfl,rfl⟩;rw[← HV.out];clear h1 h2;go_wp2_with fail;go_round
   case rel=>exact⟨k+1,y,by omega,by go_num,HY.out,rfl⟩
   case measure=>simp[intOf];omega
  ·obtain rfl:k=T:=by omega
   clear hx;by_cases h1:(k:Int)<n
   ·have h2:¬ (k:Int)<64:=by have:=HT.out;omega
    go_wp2_with fail;go_ret;refine⟨?_,rfl⟩;rw[← HX.out];rfl
   ·go_wp2_with fail;go_ret;refine⟨?_,rfl⟩;rw[← HX.out];rfl
end Go.Proofs.YtpohoannggdbjaaGreat
