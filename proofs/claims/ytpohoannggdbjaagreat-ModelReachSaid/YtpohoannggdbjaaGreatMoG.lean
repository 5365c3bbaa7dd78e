/- Layer 28: Reach. -/
import Derived.Test.YtpohoannggdbjaaGreatIxM
import Derived.Test.YtpohoannggdbjaaGreatIxN
import Derived.Test.YtpohoannggdbjaaGreatIyA
set_option maxRecDepth 100000
set_option maxHeartbeats 200000000
namespace Go.Proofs.YtpohoannggdbjaaGreat
open Lib (hid)
open Go.RowKit
theorem Qu{s:St}(h:s.ok)(oc:Nat){n:Nat}(hn:n≤63)(x:Rw):(Bp s oc n x).ok:=by
 unfold Bp;split
 ·refine⟨h.lk,h.us,Cf _ _ hn h.ca,?_,h.pt⟩;dsimp only;split
  ·exact EM h.tm n (by omega)
  ·exact h.tm
 ·exact h
theorem QK{T:Tb}(hT:Dc T){s:St}(h:s.ok)(oc:Nat)(c:Nat × Int):(Dd T s oc c).ok:=by
 unfold Dd Bo;split
 ·exact h
 ·split
  ·split
   ·exact Mr hT h oc (by assumption)
   ·exact h
  ·cases hx:T.rw[c.2.toNat]? with
   | none=>exact h
   | some x=>
     dsimp only;split
     ·exact MI hT h oc hx
     ·split
      ·exact Qu h oc (JA hT hx) x
      ·exact h
theorem K1{T:Tb}(hT:Dc T)(oc:Nat):∀(l:List (Nat × Int)) (s:St),s.ok→(AY Bp T oc l s).ok
 | [],_,h=>h
 | c :: l,s,h=>K1 hT oc l (Dd T s oc c) (QK hT h oc c)
theorem Kr{T:Tb}(hT:Dc T){s:St}(h:s.ok)(oc:Nat)(l:List (Nat × Int)):(El T s oc l).ok:=
 EW hT oc _ (K1 hT oc _ _ (Gw _ _ h)) _
theorem JO:FL.ok:=⟨by decide,by decide,by decide,fun _=>by show 0≤255;omega,by decide⟩
theorem LP{K:List St}{s:St}(h:∀ t∈K,t.ok)(hs:s.ok):∀ t∈Bs K s,t.ok:=by
 unfold Bs;split
 ·exact h
 ·intro t ht;rcases WE.1 ht with ht | ht
  ·exact h t ht
  ·rw[Wy] at ht;rw[ht];exact hs
theorem Ml{M:Mc}{L:AL}(h:M.tb=AW L):M.li.l.length=L.po.l.length:=by rw[← Em,h,DO]
def DV(x:Iv):List Value:=[.int .u64 (x.oc:Int),.int .u32 (x.no:Int),.int .u32 (x.re:Int),.slice x.a x.len x.cap]
def Ci(w:World)(x:Iv):Prop:=(x.oc<18446744073709551616∧x.no<4294967296∧x.re<4294967296)∧x.cl.length=x.len∧x.len≤x.cap∧CZ w x.a x.cl
theorem Ci.below{w w':World}{x:Iv}(h:Ci w x)(hb:Below w.heap.size w w'):Ci w' x:=⟨h.1,h.2.1,h.2.2.1,h.2.2.2.below hb⟩
theorem SZ{w V:World}{m:Nat}{M:Mc}(hM:CN (fun b=>w.heap.size≤b) w m M)(hV:Below w.heap.size w V)(hT:Dc M.tb)(hp:M.pt=pw M.li.l.length - 1)(s:St)(hs:s.ok)(x:Iv)(hx:Ci V x)(hn:x.len≤100000) :
 Calls Tryz.prog 19 #[.pointer (some ⟨m,0,none⟩),.agg (Af s).toArray,.agg #[.int .u64 (x.oc:Int),.int .u32 (x.no:Int),.int .u32 (x.re:Int),.slice x.a x.len x.cap]] V fun e w'=>e = .returned (.tuple #[.agg (Af (Ay M.tb x s)).toArray,.agg #[.int .u64 (Bq M.tb (Ay M.tb x s) x.oc x.no x.re:Int),.int .u32 ((Ay M.tb x s).pt:Int)]])∧Below V.heap.size V w':=
 Sd (fun b=>w.heap.size≤b) m M s ⟨x.oc,x.no,x.re,.slice x.a x.len x.cap⟩ x.a x.len x.cap x.cl V (hM.step (WX.of_below hV)) (fun _ hb=>Wd hV.size hb) hT hp hs ⟨hx.1.1,hx.1.2.1,hx.1.2.2,_,_,_,rfl⟩ rfl hx.2.2.2 hx.2.1 hx.2.2.1 hn
theorem Ki{w0 w:World}{m:Nat}{M:Mc}(h:CN (fun k=>k<w0.heap.size) w m M):CN (fun b=>w.heap.size≤b) w m M:=h.weak (fun _ hb hx=>absurd hb (by have hx:w.heap.size≤_:=hx;omega))
theorem EB{w:World}{b b':Nat}{e:TypeId}{sz:Nat}{v:Value}{n:Nat}{xs:List Value}(hb:b≤b')(h:w.ownsRow b' e sz v n xs):w.ownsRow b e sz v n xs:=
 ⟨h.1,h.2.imp id fun⟨g,cap,cur,h1,h2,h3⟩=>⟨g,cap,cur,h1,Wd hb h2,h3⟩⟩
theorem CH.lt{w:World}{r:Nat}{K:List St}(h:CH w r K):r<w.heap.size:=by
 obtain⟨es,clock,h1,_⟩:=h;exact Aj h1
theorem CH.only2{w w':World}{r g:Nat}{K:List St}(h:CH w r K)(ho:Ai g w w')(hne:r≠g):CH w' r K:=by
 obtain⟨es,clock,h1,h2⟩:=h;exact⟨es,clock,ho.keep hne h1,h2⟩
theorem TK{w:World}{r:Nat}{K:List St}(h:CH w r K)(ty:TypeId):(Builtin.len_ #[78] ty #[.map (some r)]).run Tryz.prog w = .ok (.int .i64 (K.length:Int)) w:=by
 obtain⟨es,clock,h1,h2,_⟩:=h;have hl:es.size=K.length:=by
  have:=congrArg List.length h2;simpa using this
 simp[Builtin.len_,run_underlying Tryz.underlying78,MapKept.run_getObj_map h1,hl,goInt]
theorem I9{w:World}{r:Nat}{K:List St}(h:CH w r K){ops:Array Oper}{rest:List Oper}{o:Oper}{a:Act}{Q:Exit→Act→World→Prop}(hg:o.guard=none)(x:Operand)(hop:o.op = .call { callee:=.builtin .len,args := #[x],argTypes := #[78] })(hx:a.eval x = .map (some r))
 (hK:wpList Tryz.prog ops Q rest (a.put o.dst (.int .i64 (K.length:Int))) w):wpList Tryz.prog ops Q (o :: rest) a w:=
 wpList_plain hg fun K' hK'=>by
  unfold Oper.wp;simp[execOp,hop,resolve,invoke,builtin,hx,TK h,Result.andThen];exact hK' _ _ hK
theorem Kk{T:Tb}(hT:Dc T){x:Iv}{y:Sh}{D N:List St}(s:St)(hs:s.ok)(hok:∀ t∈N,t.ok)(h:AP N (BV T x y D))(hl:N.length≤2*D.length) :
 (∀ t∈(if y.st || (Bq T (Ay T x s) x.oc x.no x.re == y.p && (Ay T x s).pt == y.q) then Bs (if y.st then Bs N s else N) (Ay T x s) else (if y.st then Bs N s else N)),t.ok)∧AP (if y.st || (Bq T (Ay T x s) x.oc x.no x.re == y.p && (Ay T x s).pt == y.q) then Bs (if y.st then Bs N s else N) (Ay T x s) else (if y.st then Bs N s else N)) (BV T x y (D ++ [s]))∧(if y.st || (Bq T (Ay T x s) x.oc x.no x.re == y.p && (Ay T x s).pt == y.q) then Bs (if y.st then Bs N s else N) (Ay T x s) else (if y.st then Bs N s else N)).length≤2*(D.length+1):=by
 have h1:∀ t∈(if y.st then Bs N s else N),t.ok:=by
  split
  ·exact LP hok hs
  ·exact hok
 refine⟨?_,Ot s h,Pb s hl⟩;split
 ·exact LP h1 (Kr hT hs x.oc x.cl)
 ·exact h1
theorem GI(s t:St):C4 s t=C4 t s:=by
 rw[Ww,Ck,Ck];exact eq_comm
theorem J5{A B:List St}(h:A.Perm B)(hB:B.Pairwise (fun s t=>C4 s t=false)):A.Pairwise (fun s t=>C4 s t=false):=(h.pairwise_iff (fun {x y} e=>by rw[GI];exact e)).2 hB
theorem JN:Af FL=Af zS:=rfl
theorem O7:Bs [] FL=[FL]:=rfl
theorem Hf(T:Tb)(X:List Iv)(Y:List Sh):AN T X Y 0=[FL]:=rfl
attribute [local irreducible] Sl.v Aa pw Ab Aw C8 Af BC CD Bi Bg B9 CB BQ AU Bp BB BG Bh Bd BP Bo BL BF BN AI AY AV Be Bw Bq C4 Mc.tb BZ AX Ap B5
attribute [local irreducible] Bs BV C6 BS Ay AN
attribute [local irreducible] AW CY Bt BO zS FL
theorem KG(L:AL)(ra:Option Addr)(n rc:Nat)(sa:Option Addr)(k sc:Nat)(w:World)(hL:AO w L)(c:Int)(hc:(Ap L).1=c)(h0:¬ c=0) :
 Calls Tryz.prog 12 #[.agg #[L.se.v,L.po.v,L.sg.v,L.rt.v],.slice ra n rc,.slice sa k sc] w fun e w'=>e = .returned (.tuple #[.slice none 0 0,.int .i64 c])∧Below w.heap.size w w':=by
 have KN:Hid (∀ V,Below w.heap.size w V→Calls Tryz.prog 18 #[.agg #[L.se.v,L.po.v,L.sg.v,L.rt.v]] V fun e w'=>e = .returned (.tuple #[.pointer none,.int .i64 c])∧Below V.heap.size V w'):=hid (fun V hV=>Pj L c V (hL.below hV) hc h0);have cn:(c != 0)=true:=by rw[WJ];exact h0
 clear hc h0;obtain⟨n1,hn1⟩:=WY L.se.l.length;obtain⟨n2,hn2⟩:=WY L.po.l.length;obtain⟨n3,hn3⟩:=WY L.sg.l.length;obtain⟨n4,hn4⟩:=WY L.rt.l.length;rw[Ak hn1,Ak hn2,Ak hn3,Ak hn4] at KN ⊢;clear hn1 hn2 hn3 hn4 hL;go_enter Tryz.func12,Tryz.ntmps12;go_upto_region 1 with fail
 refine Ao (os:=[.cells #[.slice L.se.a n1 L.se.c,.slice L.po.a n2 L.po.c,.slice L.sg.a n3 L.sg.c,.slice L.rt.a n4 L.rt.c] 27,.cells #[.slice sa k sc] 42]) (w0:=w) rfl ?_;intro W hat hbw;obtain⟨gl,hgl⟩:=X0 w.heap.size;have q0:=hat 0 _ rfl;obtain⟨gs,hgs⟩:=X0 (gl+1);have q1:=hat 1 _ rfl;rw[Wa,← hgl] at q0;rw[← hgl,← hgs] at q1;rw[← hgl,← hgs];have HQl:=hid q0;have HQs:=hid q1;have HB0:=hid hbw;clear hat hbw q0 q1 hgl hgs;have l0:=A4 HQl.o 0 _ rfl;have l1:=A4 HQl.o 1 _ rfl;have l2:=A4 HQl.o 2 _ rfl;have l3:=A4 HQl.o 3 _ rfl;go_wp2_with fail;refine(KN.o _ HB0.o).mono ?_;rintro e w1 ⟨rfl,hb1⟩;have HB1:=hid (A6 HB0.o hb1);clear hb1 l0 l1 l2 l3;go_wp2_with fail;go_ret2;refine⟨rfl,?_⟩;repeat first
  | with_reducible exact HB1.o
  | ((with_reducible refine Below.setCell ?_ ?_ _);rotate_left;(have:=HB1.o.size;dsimp only;omega))
  | with_reducible refine Below.alloc ?_ ?_ _
  | (have:=HB1.o.size;omega)
theorem Ix(L:AL)(ra:Option Addr)(n rc:Nat)(sa:Option Addr)(k sc:Nat)(w:World)(hL:AO w L)(hc:(Ap L).1=0)(hnk:¬ n=k) :
 Calls Tryz.prog 12 #[.agg #[L.se.v,L.po.v,L.sg.v,L.rt.v],.slice ra n rc,.slice sa k sc] w fun e w'=>e = .returned (.tuple #[.slice none 0 0,.int .i64 2])∧Below w.heap.size w w':=by
 have KN:Hid (∀ V,Below w.heap.size w V→Calls Tryz.prog 18 #[.agg #[L.se.v,L.po.v,L.sg.v,L.rt.v]] V fun e w'=>∃ m M,e = .returned (.tuple #[.pointer (some ⟨m,0,none⟩),.int .i64 0])∧CN (fun b=>b<w.heap.size) w' m M∧M.tb=AW L∧M.pt=pw M.li.l.length - 1∧Below V.heap.size V w'):=hid (fun V hV=>(Jm L V (hL.below hV) hc).mono (fun _ _ ⟨m,M,e1,e2,e3,e4,e5⟩=>⟨m,M,e1,e2.weak (fun b _ hb=>Wv hb hV.size),e3,by rw[e4,Ml e3],e5⟩));have d:((n:Int) !=(k:Int))=true:=by rw[WJ];omega
 clear hc hnk;obtain⟨n1,hn1⟩:=WY L.se.l.length;obtain⟨n2,hn2⟩:=WY L.po.l.length;obtain⟨n3,hn3⟩:=WY L.sg.l.length;obtain⟨n4,hn4⟩:=WY L.rt.l.length;rw[Ak hn1,Ak hn2,Ak hn3,Ak hn4] at KN ⊢;clear hn1 hn2 hn3 hn4 hL;go_enter Tryz.func12,Tryz.ntmps12;go_upto_region 1 with fail
 refine Ao (os:=[.cells #[.slice L.se.a n1 L.se.c,.slice L.po.a n2 L.po.c,.slice L.sg.a n3 L.sg.c,.slice L.rt.a n4 L.rt.c] 27,.cells #[.slice sa k sc] 42]) (w0:=w) rfl ?_;intro W hat hbw;obtain⟨gl,hgl⟩:=X0 w.heap.size;have q0:=hat 0 _ rfl;obtain⟨gs,hgs⟩:=X0 (gl+1);have q1:=hat 1 _ rfl;rw[Wa,← hgl] at q0;rw[← hgl,← hgs] at q1;rw[← hgl,← hgs];have HQl:=hid q0;have HQs:=hid q1;have HB0:=hid hbw;clear hat hbw q0 q1 hgl hgs;have l0:=A4 HQl.o 0 _ rfl;have l1:=A4 HQl.o 1 _ rfl;have l2:=A4 HQl.o 2 _ rfl;have l3:=A4 HQl.o 3 _ rfl;go_wp2_with fail;refine(KN.o _ HB0.o).mono ?_;rintro e w1 ⟨m,M,rfl,h1,h2,h3,hb1⟩;have HB1:=hid (A6 HB0.o hb1);have HS1:=hid (A5 hb1 HQs.o);have s0:=A4 HS1.o 0 _ rfl;have hls:=Aj HS1.o;clear hb1 l0 l1 l2 l3 h1 h2 h3;go_wp2_with fail;go_ret2;refine⟨rfl,?_⟩;repeat first
  | with_reducible exact HB1.o
  | ((with_reducible refine Below.setCell ?_ ?_ _);rotate_left;(have:=HB1.o.size;dsimp only;omega))
  | with_reducible refine Below.alloc ?_ ?_ _
  | (have:=HB1.o.size;omega)
theorem Fe(L:AL)(ra:Option Addr)(n rc:Nat)(sa:Option Addr)(sc:Nat)(X:List Iv)(Y:List Sh)(w:World)(hL:AO w L)(hX:As 4 DV w ra X)(hxn:X.length=n)(hxo:∀ x∈X,Ci w x∧x.len≤100000)(hY:As 3 Cx w sa Y)(hyn:Y.length=n)(h11:n≤11)(hc:(Ap L).1=0) :
 Calls Tryz.prog 12 #[.agg #[L.se.v,L.po.v,L.sg.v,L.rt.v],.slice ra n rc,.slice sa n sc] w fun e w'=>∃(v:Value) (ss:List St),e = .returned (.tuple #[v,.int .i64 0])∧AP ss (AN (AW L) X Y n)∧w'.ownsRow w.heap.size 65 68 v ss.length (ss.flatMap Af)∧Below w.heap.size w w'∧ss.Pairwise (fun s t=>C4 s t=false):=by
 have KN:Hid (∀ V,Below w.heap.size w V→Calls Tryz.prog 18 #[.agg #[L.se.v,L.po.v,L.sg.v,L.rt.v]] V fun e w'=>∃ m M,e = .returned (.tuple #[.pointer (some ⟨m,0,none⟩),.int .i64 0])∧CN (fun b=>b<w.heap.size) w' m M∧M.tb=AW L∧M.pt=pw M.li.l.length - 1∧Below V.heap.size V w'):=hid (fun V hV=>(Jm L V (hL.below hV) hc).mono (fun _ _ ⟨m,M,e1,e2,e3,e4,e5⟩=>⟨m,M,e1,e2.weak (fun b _ hb=>Wv hb hV.size),e3,by rw[e4,Ml e3],e5⟩));obtain⟨T,hT⟩:=WY (AW L);have HTB:Hid (Dc T):=hid (hT ▸ G4 hc);rw[hT] at KN ⊢;have HXR:=hid hX;have HXN:=hid hxn;have HXO:=hid hxo;have HYR:=hid hY;have HYN:=hid hyn;have H11:=hid h11;have d:((n:Int) !=(n:Int))=false:=by simp
 have d4:¬ (400:Int)<(n:Int):=by omega
 clear hc hX hxn hxo hY hyn h11 hT;obtain⟨n1,hn1⟩:=WY L.se.l.length;obtain⟨n2,hn2⟩:=WY L.po.l.length;obtain⟨n3,hn3⟩:=WY L.sg.l.length;obtain⟨n4,hn4⟩:=WY L.rt.l.length;rw[Ak hn1,Ak hn2,Ak hn3,Ak hn4] at KN ⊢;clear hn1 hn2 hn3 hn4 hL;go_enter Tryz.func12,Tryz.ntmps12;go_upto_region 1 with fail
 refine Ao (os:=[.cells #[.slice L.se.a n1 L.se.c,.slice L.po.a n2 L.po.c,.slice L.sg.a n3 L.sg.c,.slice L.rt.a n4 L.rt.c] 27,.cells #[.slice sa n sc] 42]) (w0:=w) rfl ?_;intro W hat hbw;obtain⟨gl,hgl⟩:=X0 w.heap.size;have q0:=hat 0 _ rfl;obtain⟨gs,hgs⟩:=X0 (gl+1);have q1:=hat 1 _ rfl;rw[Wa,← hgl] at q0;rw[← hgl,← hgs] at q1;rw[← hgl,← hgs];have HQl:=hid q0;have HQs:=hid q1;have HB0:=hid hbw;clear hat hbw q0 q1 hgl hgs;have l0:=A4 HQl.o 0 _ rfl;have l1:=A4 HQl.o 1 _ rfl;have l2:=A4 HQl.o 2 _ rfl;have l3:=A4 HQl.o 3 _ rfl;go_wp2_with fail;refine(KN.o _ HB0.o).mono ?_;rintro e w1 ⟨m,M,rfl,h1,h2,h3,hb1⟩;have HB1:=hid (A6 HB0.o hb1);have HS1:=hid (A5 hb1 HQs.o);have HM:=hid (And.intro (Ki h1) (And.intro h2 h3));have HYR1:=hid (HYR.o.below HB1.o);have s0:=A4 HS1.o 0 _ rfl;have hls:=Aj HS1.o;clear hb1 l0 l1 l2 l3 h1 h2 h3;go_upto_region 8 with fail
 clear s0 hls d d4;have hb2:=Ac w1 (.cells #[.pointer (some ⟨m,0,none⟩)] 72);have hq2:=Al w1 (.cells #[.pointer (some ⟨m,0,none⟩)] 72) (VU _ _);obtain⟨W2,hW2⟩:=X0 (w1.alloc (.cells #[.pointer (some ⟨m,0,none⟩)] 72));obtain⟨bm,hbm⟩:=X0 w1.heap.size;rw[← hW2] at hb2 hq2 ⊢;rw[← hbm] at hq2 ⊢;have HB12:=hid hb2;have HB2:=hid (A6 HB1.o hb2);have HBM:=hid hq2;clear hb2 hq2 hW2 hbm;have hmm:∀(t:TypeId) (w:World),(Instr.makeMap t none).run Tryz.prog w = .ok (.map (some w.heap.size)) (w.alloc (.map #[] 0)):=fun t w=>by simp[Instr.makeMap,Result.andThen]
 have h3a:=Ac W2 (.map #[] 0);have hm0:CH (W2.alloc (.map #[] 0)) W2.heap.size []:=⟨#[],0,Al W2 _ (VU _ _),rfl,List.Pairwise.nil,List.nodup_nil,fun e he=>(nomatch he)⟩;obtain⟨W3,hup,hm3,ho3⟩:=Ef FL hm0;unfold BC at hup;rw[JN] at hup;have HM3:Hid (CH W3 W2.heap.size [FL]):=hid (O7 ▸ hm3);have HB3:Hid (Below W2.heap.size W2 W3):=hid (Ai.below h3a (Wc _) h3a.size ho3);obtain⟨r0,hr0⟩:=X0 W2.heap.size;clear hm0 hm3 ho3 h3a;go_upto_region 10 with ((with_reducible refine CG (op:=⟨some 36,_,_,_,_,_⟩) rfl 65 rfl _ E7 ?_))
 rw[← hr0] at HM3 ⊢;clear hup hr0;go_loopg [10,40] n (fun g v10 v40 wr=>∃(i r:Nat) (K:List St),i+g=n∧v10 = .map (some r)∧v40 = .int .i64 (i:Int)∧CH wr r K∧(∀ t∈K,t.ok)∧AP K (AN T X Y i)∧K.length≤2 ^ i∧Below W2.heap.size W2 wr)
 case atStart=>exact⟨0,r0,[FL],by omega,rfl,rfl,HM3.o,fun t ht=>by rw[Wy] at ht;rw[ht];exact JO,by rw[Hf];exact AP.refl _,Wc _,HB3.o⟩
 case round=>
  obtain⟨i,r,K,hi,rfl,rfl,hms,hok,hsame,hlen,hbw⟩:=hrel;have HK:=hid hi;have HMS:=hid hms;have HOK:=hid hok;have HSAME:=hid hsame;have HLEN:=hid hlen;have HB:=hid hbw;have HK5:Hid (K.length≤100000):=hid (by
   have h2:=Nat.pow_le_pow_right (n:=2) (by omega) (show i≤11 by have:=H11.o;omega);omega)
  clear hi hms hok hsame hlen hbw;by_cases hlt:i<n
  ·skip
   obtain⟨wo,rfl⟩:=X0 wr;have d1:(0:Int)≤i:=(by omega);have d2:(i:Int)<n:=(by omega);have HLT:=hid hlt;have HD:=hid (And.intro d1 d2);obtain⟨x,hxi⟩:∃ x,X[i]?=some x:=⟨_,Wb (by rw[HXN.o];exact hlt)⟩;obtain⟨y,hyi⟩:∃ y,Y[i]?=some y:=⟨_,Wb (by rw[HYN.o];exact hlt)⟩;have HXI:=hid hxi;have HYI:=hid hyi;have HXO1:=hid (HXO.o x (Wf hxi));rcases HXR.o with hnil | ⟨rb,ro,hra,hc⟩
   ·rw[hnil] at hxi;cases hxi
   rcases HYR.o with hnil | ⟨sb,so,hsa,hcy⟩
   ·rw[hnil] at hyi;cases hyi
   have hbo:=A6 HB2.o HB.o;have z0:=VY hbo (hc i _ hxi 0 _ rfl);have z1:=VY hbo (hc i _ hxi 1 _ rfl);have z2:=VY hbo (hc i _ hxi 2 _ rfl);have z3:=VY hbo (hc i _ hxi 3 _ rfl);rw[Wa] at z0;have y0:=VY HB1.o (hcy i _ hyi 0 _ rfl);rw[Wa] at y0;obtain⟨t,ht⟩:=WY y.st;have HYT:=hid ht;rw[ht] at y0;have HY0:=hid y0;have KSTP:Hid (∀ s:St,s.ok→∀ V,Below w1.heap.size w1 V→Calls Tryz.prog 19 #[.pointer (some ⟨m,0,none⟩),.agg (Af s).toArray,.agg #[.int .u64 (x.oc:Int),.int .u32 (x.no:Int),.int .u32 (x.re:Int),.slice x.a x.len x.cap]] V fun e w'=>e = .returned (.tuple #[.agg (Af (Ay T x s)).toArray,.agg #[.int .u64 (Bq T (Ay T x s) x.oc x.no x.re:Int),.int .u32 ((Ay T x s).pt:Int)]])∧Below V.heap.size V w'):=hid (fun s hs V hV=>HM.o.2.1 ▸ SZ HM.o.1 hV (HM.o.2.1 ▸ HTB.o) HM.o.2.2 s hs x (HXO1.o.1.below (A6 HB1.o hV)) HXO1.o.2);obtain⟨ra',hra'⟩:∃ q,ra=q:=⟨_,rfl⟩;have HXX:=hid hra';rw[hra'] at hra ⊢;subst hra;subst hsa;clear hlt hxi hyi hc hcy y0 hbo ht hra';go_upto_region 14 with fail
   clear z0 z1 z2 z3 d1 d2;refine Ao (os:=[.cells #[.int .i64 (i:Int)] 3,.cells #[.int .u64 (x.oc:Int),.int .u32 (x.no:Int),.int .u32 (x.re:Int),.slice x.a x.len x.cap] 35,.map #[] 0,.cells #[.map (some (wo.heap.size+1+1))] 78]) (w0:=wo) rfl ?_;intro W hat hbw;obtain⟨gc,hgc⟩:=X0 wo.heap.size;obtain⟨gi,hgi⟩:=X0 (gc+1);obtain⟨gr,hgr⟩:=X0 (gi+1);obtain⟨gn,hgn⟩:=X0 (gr+1);have q0:=hat 0 _ rfl;have q1:=hat 1 _ rfl;have q2:=hat 2 _ rfl;have q3:=hat 3 _ rfl;rw[← hgc,← hgi,← hgr] at q3;rw[← hgc] at q0 q1 q2;rw[Wa] at q0;rw[← hgi] at q1;rw[show gc+2=gr by omega] at q2;rw[show gc+3=gn by omega] at q3;rw[← hgc,← hgi,← hgr,← hgn];have hmsW:CH W r K:=HMS.o.below hbw;have hmr:CH W gr []:=⟨#[],0,q2,rfl,List.Pairwise.nil,List.nodup_nil,fun e he=>(nomatch he)⟩;have hrlt:r<gc:=(by rw[hgc];exact HMS.o.lt);obtain⟨ob,hrg,hit⟩:=FB hmsW;have hb4:=Ac W ob;obtain⟨it,hite⟩:=X0 W.heap.size;have hit2:gn<it:=(by rw[hite];exact Aj q3);obtain⟨W4,hW4⟩:=X0 (W.alloc ob);rw[← hite] at hrg hit;rw[← hW4] at hrg hit hb4;have HMR4:=hid (hmr.below hb4);have hbo4:Below wo.heap.size wo W4:=A6 hbw hb4;have HB24:Hid (Below W2.heap.size W2 W4):=hid (A6 HB.o hbo4);have HB14:Hid (Below w1.heap.size w1 W4):=hid (A6 HB12.o HB24.o);have hge:W2.heap.size≤gc:=(by rw[hgc];exact HB.o.size);have hge1:w1.heap.size≤gc:=Wd HB12.o.size hge;have hbml:=Aj HBM.o;have hgsl:=Aj HS1.o;have HGE:Hid (w1.heap.size≤gr∧w1.heap.size≤it):=hid (by omega);have HGE2:Hid (W2.heap.size≤gr∧W2.heap.size≤it):=hid (by omega);have H4:Hid ((W4.heap[bm]?=some (.cells #[.pointer (some ⟨m,0,none⟩)] 72))∧(W4.heap[gi]?=some (.cells #[.int .u64 (x.oc:Int),.int .u32 (x.no:Int),.int .u32 (x.re:Int),.slice x.a x.len x.cap] 35))∧(W4.heap[gs]?=some (.cells #[.slice (some ⟨sb,so,none⟩) n sc] 42))∧(W4.heap[gc]?=some (.cells #[.int .i64 (i:Int)] 3))∧(W4.heap[gn]?=some (.cells #[.map (some gr)] 78))):=hid ⟨A5 HB24.o HBM.o,A5 hb4 q1,A5 HB14.o HS1.o,A5 hb4 q0,A5 hb4 q3⟩;have HX4:Hid (¬ (bm=gr∨bm=it)∧¬ (gi=gr∨gi=it)∧¬ (gs=gr∨gs=it)∧¬ (gc=gr∨gc=it)∧¬ (gn=gr∨gn=it)):=hid (by omega);have HNE4:Hid (it≠gr∧r≠gr∧gr≠it):=hid (by omega);clear hat hbw q0 q1 q2 q3 hgc hgi hgr hgn hmsW hmr hrlt hite hit2 hW4 hge hge1 hbml hgsl hb4 hbo4;go_upto_region 15 with fail
   clear hrg;go_loopg [] K.length (fun g wr=>∃ D L N:List St,L.length=g∧K.Perm (D ++ L)∧Fh wr it r K L∧CH wr gr N∧(∀ t∈N,t.ok)∧AP N (BV T x y D)∧N.length≤2*D.length∧WX (fun b=>b=gr∨b=it) W4 wr)
   case atStart=>exact⟨[],K,[],rfl,List.Perm.refl _,hit,HMR4.o,fun _ h=>(nomatch h),by rw[QP];exact AP.refl _,Wc _,WX.refl _ _⟩
   case round=>
    obtain⟨D,L,N,hlg,hP,hI,hm,hnok,hns,hnl,hw⟩:=hrel;have HLG:=hid hlg;have HNOK:=hid hnok;have HNS:=hid hns;have HNL:=hid hnl;have hne:=HNE4.o;clear hlg hnok hns hnl;rcases Gg 0 hI with ⟨hL,hrun⟩ | ⟨s,L',w2,hPL,hrun,hI2,hO,hsz,hen⟩
    ·skip
     subst hL;have HDL:Hid (D.length=K.length):=hid (by have:=hP.length_eq;rw[Wt] at this;exact this.symm);have HSN:Hid (AP N (AN T X Y (i+1))):=hid (by
      rw[Ed HXI.o HYI.o];rw[Wt] at hP;exact HNS.o.trans (Ou HTB.o.rn x y ((Iu hP.symm).trans HSAME.o)))
     have HLN:Hid (N.length≤2 ^ (i+1)):=hid (by have h1:=HNL.o;have h2:=HLEN.o;rw[HDL.o] at h1;rw[Nat.pow_succ];omega);have d3:¬ (4096:Int)<(N.length:Int):=by
      have h1:=HLN.o;have h2:=Nat.pow_le_pow_right (n:=2) (by omega) (show i+1≤11 by have:=HLT.o;have:=H11.o;omega);omega
     have n0:=A4 (hw.keep HX4.o.2.2.2.2 H4.o.2.2.2.2) 0 _ rfl;have HMR:=hid hm;have HWR:=hid hw;have e1:=B8 HLT.o (Wd H11.o (by decide));clear hP hI hm hw hne;go_upto_region 21 with (at_len;refine I9 HMR.o rfl _ rfl rfl ?_)
     go_wp2_with fail;rw[← HXX.o];go_roundg (n - (i+1))
     case rel=>exact⟨i+1,gr,N,AA HK.o HLT.o,rfl,by go_num,HMR.o,HNOK.o,HSN.o,HLN.o,WX.below HB24.o HWR.o (fun b hb=>by have:=HGE2.o;rcases hb with rfl | rfl<;>omega)⟩
     case measure=>exact Az HK.o HLT.o
    ·clear hsz;unfold BC at hrun hen;have HSK:Hid s.ok:=hid (HOK.o s (hP.mem_iff.2 (List.mem_append_right D (hPL.mem_iff.2 WM))));obtain⟨hst,hq,hbb⟩:=IV w2 s;have HP2:Hid (K.Perm ((D ++ [s]) ++ L')):=hid (by
      rw[Wx];exact hP.trans (hPL.append_left D))
     have HLT2:Hid (L'.length<L.length):=hid (by rw[hPL.length_eq];exact Nat.lt_succ_self _);have HNE0:=hid hne;have HMS5:=hid ((hm.only2 hO hne.2.2).below hbb);have HI5:=hid (hI2.keep (hbb.block it (hI2.lt).1) (hbb.block r (hI2.lt).2.1));have HW5:=hid (hw.trans ((WX.of_only (X:=fun b=>b=gr∨b=it) hO (Or.inr rfl)).trans (WX.of_below hbb)));obtain⟨w5,hw5⟩:=X0 ((w2.alloc (.cells (Af zS).toArray 65)).setCells w2.heap.size 0 (Af s));rw[← hw5] at hst hq HMS5 HI5 HW5;obtain⟨gS,hgS⟩:=X0 w2.heap.size;rw[← hgS] at hq;have HST:=hid hst;have HQS5:=hid hq;have HGS:Hid (¬ gS=gr):=hid (by
      have:=hm.lt;have h2:=hO.size;omega)
     clear hst hq hbb hw5 hP hPL hI hI2 hO hne;go_upto_region 17 with (first
      | rw[Bz]
      | ((with_reducible refine Ag (op:=⟨none,.store 65 _ _,_,_,_,_⟩) rfl 65 _ _ rfl _ _ ?_ ?_ _ HST.o ?_);(· rfl);(· rfl)))
     (try simp only[Act.put])
     rw[← hgS];clear hrun hen HST hgS;have HH5:Hid ((w5.heap[gs]?=some (.cells #[.slice (some ⟨sb,so,none⟩) n sc] 42))∧(w5.heap[gc]?=some (.cells #[.int .i64 (i:Int)] 3))∧(w5.heap[gn]?=some (.cells #[.map (some gr)] 78))):=hid ⟨HW5.o.keep HX4.o.2.2.1 H4.o.2.2.1,HW5.o.keep HX4.o.2.2.2.1 H4.o.2.2.2.1,HW5.o.keep HX4.o.2.2.2.2 H4.o.2.2.2.2⟩;have s0:=A4 HH5.o.1 0 _ rfl;have c0:=A4 HH5.o.2.1 0 _ rfl;have y0:=VY (WX.below HB14.o HW5.o (fun b hb=>by have:=HGE.o;rcases hb with rfl | rfl<;>omega)) HY0.o;have d1:=HD.o.1;have d2:=HD.o.2;cases t with
     | true=>
       go_upto_region 18 with fail
       clear s0 c0 y0 d1 d2;obtain⟨w6,hup,hms6,ho6⟩:=Ef s HMS5.o;unfold BC at hup;obtain⟨N1,hN1⟩:=WY (Bs N s);have HM6:Hid (CH w6 gr N1):=hid (hN1 ▸ hms6);have MORE:Hid ((∀ t∈(if y.st || (Bq T (Ay T x s) x.oc x.no x.re == y.p && (Ay T x s).pt == y.q) then Bs N1 (Ay T x s) else N1),t.ok)∧AP (if y.st || (Bq T (Ay T x s) x.oc x.no x.re == y.p && (Ay T x s).pt == y.q) then Bs N1 (Ay T x s) else N1) (BV T x y (D ++ [s]))∧(if y.st || (Bq T (Ay T x s) x.oc x.no x.re == y.p && (Ay T x s).pt == y.q) then Bs N1 (Ay T x s) else N1).length≤2*(D.length+1)):=hid (by
        have h:=Kk (T:=T) HTB.o (y:=y) s HSK.o HNOK.o HNS.o HNL.o;rw[HYT.o,if_pos rfl,hN1] at h;rw[HYT.o];exact h)
       have HW6:=hid (HW5.o.trans (WX.of_only (X:=fun b=>b=gr∨b=it) ho6 (Or.inl rfl)));have HI6:=hid (HI5.o.keep (ho6.block it (HI5.o.lt).1 HNE0.o.1) (ho6.block r (HI5.o.lt).2.1 HNE0.o.2.1));have HNE:Hid (it≠gr∧r≠gr):=hid ⟨HNE0.o.1,HNE0.o.2.1⟩;have HQS6:=hid (ho6.keep HGS.o HQS5.o);have n0:=A4 HH5.o.2.2 0 _ rfl;have HLD1:=hid (Au HQS5.o);clear hms6 ho6 hN1;have H6:Hid ((w6.heap[bm]?=some (.cells #[.pointer (some ⟨m,0,none⟩)] 72))∧(w6.heap[gi]?=some (.cells #[.int .u64 (x.oc:Int),.int .u32 (x.no:Int),.int .u32 (x.re:Int),.slice x.a x.len x.cap] 35))∧(w6.heap[gs]?=some (.cells #[.slice (some ⟨sb,so,none⟩) n sc] 42))∧(w6.heap[gc]?=some (.cells #[.int .i64 (i:Int)] 3))∧(w6.heap[gn]?=some (.cells #[.map (some gr)] 78))):=hid (by
        have k:=fun(g:Nat) (ob:Obj) (hg:W4.heap[g]?=some ob) (hx:¬ (g=gr∨g=it))=>HW6.o.keep hx hg
        exact⟨k _ _ H4.o.1 HX4.o.1,k _ _ H4.o.2.1 HX4.o.2.1,k _ _ H4.o.2.2.1 HX4.o.2.2.1,k _ _ H4.o.2.2.2.1 HX4.o.2.2.2.1,k _ _ H4.o.2.2.2.2 HX4.o.2.2.2.2⟩)
       have HB6:Hid (Below w1.heap.size w1 w6):=hid (WX.below HB14.o HW6.o (fun b hb=>by have:=HGE.o;rcases hb with rfl | rfl<;>omega));have HYR6:=hid (HYR1.o.below HB6.o);have HST6:Hid (∀ V,Below w6.heap.size w6 V→Calls Tryz.prog 19 #[.pointer (some ⟨m,0,none⟩),.agg (Af s).toArray,.agg #[.int .u64 (x.oc:Int),.int .u32 (x.no:Int),.int .u32 (x.re:Int),.slice x.a x.len x.cap]] V fun e w'=>e = .returned (.tuple #[.agg (Af (Ay T x s)).toArray,.agg #[.int .u64 (Bq T (Ay T x s) x.oc x.no x.re:Int),.int .u32 ((Ay T x s).pt:Int)]])∧Below V.heap.size V w'):=hid (fun V hV=>KSTP.o s HSK.o V (A6 HB6.o hV));have HLD2:=hid (Au HQS6.o);go_upto_region 19 with ((with_reducible refine Ah (op:=⟨some 59,_,_,_,_,_⟩) rfl 65 _ rfl _ _ ?_ HLD1.o ?_);(· rfl))
       clear n0 hup HLD1;go_wp2_with ((with_reducible refine Ah (op:=⟨some 61,_,_,_,_,_⟩) rfl 65 _ rfl _ _ ?_ HLD2.o ?_);(· rfl));refine(JQ bm gi gs gc gn gr m x s (Ay T x s) (Bq T (Ay T x s) x.oc x.no x.re) (Ay T x s).pt (some ⟨sb,so,none⟩) n sc i Y y N1 w6 H6.o.1 H6.o.2.1 H6.o.2.2.1 H6.o.2.2.2.1 H6.o.2.2.2.2 HM6.o HYR6.o HYN.o HYI.o HST6.o).mono ?_;rintro e w7 ⟨⟨ve,rfl⟩,hms7,ho7⟩;have HN2:Hid (∃ N2,CH w7 gr N2∧(∀ t∈N2,t.ok)∧AP N2 (BV T x y (D ++ [s]))∧N2.length≤2*(D.length+1)):=hid ⟨_,hms7,MORE.o.1,MORE.o.2.1,MORE.o.2.2⟩;have HI7:=hid (HI6.o.keep (ho7.block it (HI6.o.lt).1 HNE.o.1) (ho7.block r (HI6.o.lt).2.1 HNE.o.2));have HW7:=hid (HW6.o.trans (WX.of_only (X:=fun b=>b=gr∨b=it) ho7 (Or.inl rfl)));clear hms7 ho7 H6 HM6 HYR6 HST6 HI6 HW6 HQS6 MORE;go_wp2_with fail;go_roundg L'.length
       case rel=>
        obtain⟨N2,a1,a2,a3,a4⟩:=HN2.o;exact⟨D ++ [s],L',N2,rfl,HP2.o,HI7.o,a1,a2,a3,by rw[Wh];exact a4,HW7.o⟩
       case measure=>rw[← HLG.o];exact HLT2.o
     | false=>
       obtain⟨N1,hN1⟩:=WY N;obtain⟨w6,hw6⟩:=X0 w5;have HM6:Hid (CH w6 gr N1):=hid (hN1 ▸ hw6 ▸ HMS5.o);have MORE:Hid ((∀ t∈(if y.st || (Bq T (Ay T x s) x.oc x.no x.re == y.p && (Ay T x s).pt == y.q) then Bs N1 (Ay T x s) else N1),t.ok)∧AP (if y.st || (Bq T (Ay T x s) x.oc x.no x.re == y.p && (Ay T x s).pt == y.q) then Bs N1 (Ay T x s) else N1) (BV T x y (D ++ [s]))∧(if y.st || (Bq T (Ay T x s) x.oc x.no x.re == y.p && (Ay T x s).pt == y.q) then Bs N1 (Ay T x s) else N1).length≤2*(D.length+1)):=hid (by
        have h:=Kk (T:=T) HTB.o (y:=y) s HSK.o HNOK.o HNS.o HNL.o;rw[HYT.o,if_neg Bool.false_ne_true,hN1] at h;rw[HYT.o];exact h)
       have HW6:=hid (hw6 ▸ HW5.o);have HI6:=hid (hw6 ▸ HI5.o);have HNE:Hid (it≠gr∧r≠gr):=hid ⟨HNE0.o.1,HNE0.o.2.1⟩;have HQS6:=hid (hw6 ▸ HQS5.o);have H6:Hid ((w6.heap[bm]?=some (.cells #[.pointer (some ⟨m,0,none⟩)] 72))∧(w6.heap[gi]?=some (.cells #[.int .u64 (x.oc:Int),.int .u32 (x.no:Int),.int .u32 (x.re:Int),.slice x.a x.len x.cap] 35))∧(w6.heap[gs]?=some (.cells #[.slice (some ⟨sb,so,none⟩) n sc] 42))∧(w6.heap[gc]?=some (.cells #[.int .i64 (i:Int)] 3))∧(w6.heap[gn]?=some (.cells #[.map (some gr)] 78))):=hid (by
        have k:=fun(g:Nat) (ob:Obj) (hg:W4.heap[g]?=some ob) (hx:¬ (g=gr∨g=it))=>HW6.o.keep hx hg
        exact⟨k _ _ H4.o.1 HX4.o.1,k _ _ H4.o.2.1 HX4.o.2.1,k _ _ H4.o.2.2.1 HX4.o.2.2.1,k _ _ H4.o.2.2.2.1 HX4.o.2.2.2.1,k _ _ H4.o.2.2.2.2 HX4.o.2.2.2.2⟩)
       have HB6:Hid (Below w1.heap.size w1 w6):=hid (WX.below HB14.o HW6.o (fun b hb=>by have:=HGE.o;rcases hb with rfl | rfl<;>omega));have HYR6:=hid (HYR1.o.below HB6.o);have HST6:Hid (∀ V,Below w6.heap.size w6 V→Calls Tryz.prog 19 #[.pointer (some ⟨m,0,none⟩),.agg (Af s).toArray,.agg #[.int .u64 (x.oc:Int),.int .u32 (x.no:Int),.int .u32 (x.re:Int),.slice x.a x.len x.cap]] V fun e w'=>e = .returned (.tuple #[.agg (Af (Ay T x s)).toArray,.agg #[.int .u64 (Bq T (Ay T x s) x.oc x.no x.re:Int),.int .u32 ((Ay T x s).pt:Int)]])∧Below V.heap.size V w'):=hid (fun V hV=>KSTP.o s HSK.o V (A6 HB6.o hV));have HLD2:=hid (Au HQS6.o);rw[← hw6] at s0 c0 y0 ⊢;clear hw6 hN1 HH5 HQS5 HW5 HI5 HMS5;go_wp2_with ((with_reducible refine Ah (op:=⟨some 61,_,_,_,_,_⟩) rfl 65 _ rfl _ _ ?_ HLD2.o ?_);(· rfl));refine(JQ bm gi gs gc gn gr m x s (Ay T x s) (Bq T (Ay T x s) x.oc x.no x.re) (Ay T x s).pt (some ⟨sb,so,none⟩) n sc i Y y N1 w6 H6.o.1 H6.o.2.1 H6.o.2.2.1 H6.o.2.2.2.1 H6.o.2.2.2.2 HM6.o HYR6.o HYN.o HYI.o HST6.o).mono ?_;rintro e w7 ⟨⟨ve,rfl⟩,hms7,ho7⟩;have HN2:Hid (∃ N2,CH w7 gr N2∧(∀ t∈N2,t.ok)∧AP N2 (BV T x y (D ++ [s]))∧N2.length≤2*(D.length+1)):=hid ⟨_,hms7,MORE.o.1,MORE.o.2.1,MORE.o.2.2⟩;have HI7:=hid (HI6.o.keep (ho7.block it (HI6.o.lt).1 HNE.o.1) (ho7.block r (HI6.o.lt).2.1 HNE.o.2));have HW7:=hid (HW6.o.trans (WX.of_only (X:=fun b=>b=gr∨b=it) ho7 (Or.inl rfl)));clear hms7 ho7 H6 HM6 HYR6 HST6 HI6 HW6 HQS6 MORE;go_wp2_with fail;go_roundg L'.length
       case rel=>
        obtain⟨N2,a1,a2,a3,a4⟩:=HN2.o;exact⟨D ++ [s],L',N2,rfl,HP2.o,HI7.o,a1,a2,a3,by rw[Wh];exact a4,HW7.o⟩
       case measure=>rw[← HLG.o];exact HLT2.o
  ·skip
   have d2:¬ ((i:Int)<(n:Int)):=(by omega);obtain rfl:i=n:=(by have:=HK.o;omega);clear hlt;go_wp2_with fail;refine(P6 r _).mono ?_;rintro e w8 ⟨rfl,rfl⟩;go_wp2_with fail;refine(JZ _ r K _ HK5.o (Al _ _ (VU _ _)) (HMS.o.below (Ac _ _))).mono ?_;rintro e w9 ⟨v,ss,rfl,hss,hrow,hb9⟩;have HF:Hid (AP ss (AN T X Y i)∧w9.ownsRow w.heap.size 65 68 v ss.length (ss.flatMap Af)∧Below w.heap.size w w9∧ss.Pairwise (fun s t=>C4 s t=false)):=hid ⟨(Iu hss).trans HSAME.o,EB (A6 HB2.o (A6 HB.o (Ac _ _))).size hrow,A6 HB2.o (A6 HB.o (A6 (Ac _ _) hb9)),by
    obtain⟨_,_,_,_,hpw,_⟩:=HMS.o;exact J5 hss hpw⟩
   clear hss hrow hb9;go_wp2_with fail;go_ret2;exact⟨v,ss,rfl,HF.o.1,HF.o.2.1,HF.o.2.2.1,HF.o.2.2.2⟩
theorem Pw(L:AL)(ra:Option Addr)(n rc:Nat)(sa:Option Addr)(sc:Nat)(X:List Iv)(Y:List Sh)(w:World)(hL:AO w L)(hX:As 4 DV w ra X)(hxn:X.length=n)(hxo:∀ x∈X,Ci w x∧x.len≤100000)(hY:As 3 Cx w sa Y)(hyn:Y.length=n)(h11:n≤11)(hc:(Ap L).1=0) :
 Calls Tryz.prog 12 #[.agg #[L.se.v,L.po.v,L.sg.v,L.rt.v],.slice ra n rc,.slice sa n sc] w fun e w'=>∃(v:Value) (ss:List St),e = .returned (.tuple #[v,.int .i64 0])∧AP ss (AN (AW L) X Y n)∧w'.ownsRow w.heap.size 65 68 v ss.length (ss.flatMap Af)∧Below w.heap.size w w':=
 (Fe L ra n rc sa sc X Y w hL hX hxn hxo hY hyn h11 hc).mono (fun _ _ ⟨v,ss,h1,h2,h3,h4,_⟩=>⟨v,ss,h1,h2,h3,h4⟩)
end Go.Proofs.YtpohoannggdbjaaGreat
