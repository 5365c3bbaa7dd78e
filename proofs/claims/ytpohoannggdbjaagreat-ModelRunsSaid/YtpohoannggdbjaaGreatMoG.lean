/- Ours: IyA; MoG. -/
import Derived.Test.YtpohoannggdbjaaGreatIxM
import Derived.Test.YtpohoannggdbjaaGreatIxQ
import Derived.Test.YtpohoannggdbjaaGreatIxN
namespace Go.Proofs.YtpohoannggdbjaaGreat
open Lib (hid)
open Go.RowKit
set_option maxRecDepth 100000
theorem QT(l:List (Int × Bool))(h:∀ n∈l,0≤n.1∧n.1≤31):∀ p,p<4294967296→Cr l p<4294967296:=by
 induction l with
 | nil=>intro p hp;exact hp
 | cons a l ih=>
   intro p hp;unfold Cr;rw[List.foldl_cons];refine ih (fun n hn=>h n (List.mem_cons_of_mem _ hn)) _ ?_;have ha:=h a List.mem_cons_self;split
   ·rw[Bo];exact Nat.or_lt_two_pow (n:=32) hp (Nat.pow_lt_pow_right (by omega) (by omega))
   ·exact Nat.lt_of_le_of_lt (D8 _ _) hp
theorem Rj{T:Tb}(hT:Db T){x:Rw}(hx:x∈T.rw){p:Nat}(hp:p<4294967296):Cr x.nd p<4294967296:=
 QT _ (fun n hn=>by have h:=(hT.rw x hx).nd n hn;have:=hT.pn;omega) _ hp
theorem I8{T:Tb}(hT:Db T){n:Nat}{x:Rw}(hx:T.rw[n]?=some x):n≤63:=by
 have:=(List.getElem?_eq_some_iff.1 hx).1;have:=hT.rn;omega
theorem KL{T:Tb}(hT:Db T){s:St}(h:s.ok)(oc:Nat){n:Nat}{x:Rw}(hx:T.rw[n]?=some x):(BO T s oc n x).ok:=by
 unfold BO;split
 ·exact⟨BW _ _ (I8 hT hx) h.lk,h.us,h.ca,h.tm,Rj hT (List.mem_of_getElem? hx) h.pt⟩
 ·exact h
theorem OW{T:Tb}(hT:Db T){s:St}(h:s.ok)(oc:Nat){n:Nat}{x:Rw}(hx:T.rw[n]?=some x):(Bw s oc n x).ok:=by
 unfold Bw;split
 ·refine⟨h.lk,h.us,BW _ _ (I8 hT hx) h.ca,?_,h.pt⟩;dsimp only;split
  ·exact E7 h.tm n (by omega)
  ·exact E7 h.tm n (by omega)
 ·exact h
theorem Ka{T:Tb}(hT:Db T){s:St}(h:s.ok)(oc:Nat){p:Nat}(hp:p<T.li.length):(BQ T s oc p).ok:=by
 unfold BQ;split
 ·exact⟨h.lk,h.us,h.ca,h.tm,FH (by have:=hT.pn;omega) h.pt⟩
 ·exact h
theorem NL{T:Tb}(hT:Db T){s:St}(h:s.ok)(oc:Nat)(c:Nat × Int):(CI T s oc c).ok:=by
 unfold CI Bj;split
 ·exact h
 ·split
  ·split
   ·exact Ka hT h oc (by assumption)
   ·exact h
  ·cases hx:T.rw[c.2.toNat]? with
   | none=>exact h
   | some x=>
     dsimp only;split
     ·exact KL hT h oc hx
     ·split
      ·exact OW hT h oc hx
      ·exact h
theorem Gi{T:Tb}(hT:Db T)(oc:Nat):∀(l:List (Nat × Int)) (s:St),s.ok→(AS Bw T oc l s).ok
 | [],_,h=>h
 | c :: l,s,h=>Gi hT oc l (CI T s oc c) (NL hT h oc c)
theorem MH{s:St}(h:s.ok)(n:Nat):(BI s n).ok:=
 ⟨Nat.lt_of_le_of_lt (D8 _ _) h.lk,Nat.lt_of_le_of_lt (D8 _ _) h.us,Nat.lt_of_le_of_lt (D8 _ _) h.ca,E7 h.tm n (by omega),h.pt⟩
theorem QS{s:St}(h:s.ok)(oc u:Nat){n:Nat}(hn:n≤63)(x:Rw):(BC s oc u n x).ok:=by
 unfold BC;split
 ·split
  ·exact MH h n
  ·exact h
 ·split
  ·exact⟨h.lk,BW _ _ hn h.us,h.ca,h.tm,h.pt⟩
  ·split
   ·split
    ·exact⟨h.lk,h.us,h.ca,E7 h.tm n (by have:=h.tm n;omega),h.pt⟩
    ·split
     ·exact MH h n
     ·exact h
   ·exact h
theorem Ed{T:Tb}(hT:Db T)(oc u:Nat){s:St}(h:s.ok):∀ k,(AR T oc u s k).ok
 | 0=>h
 | k+1=>by
   have ih:=Ed hT oc u h k;show(if _ then _ else _:St).ok;split
   ·cases hx:T.rw[k]? with
    | none=>exact ih
    | some x=>exact QS ih oc u (I8 hT hx) x
   ·exact ih
def Zt(s:St):Prop:=∀ n,Aa s.ca n=false→s.tm n=0
theorem Pp(N P:Nat)(s:St):Zt (AD N P s):=by
 intro n h;have h:Aa (s.ca &&& (s.lk &&& (pw N - 1))) n=false:=h;show(if Aa (s.ca &&& (s.lk &&& (pw N - 1))) n then min (s.tm n) 20 else 0)=0;rw[h];rfl
theorem N9(f:Nat→Nat){n:Nat}(h:f n=0):BU f n 0=f:=by
 funext k
 unfold BU;by_cases e:k=n
 ·rw[if_pos e,e,h]
 ·rw[if_neg e]
theorem M1{s:St}(h:Zt s)(oc n:Nat)(x:Rw):Bw s oc n x=Bk s oc n x:=by
 unfold Bw Bk;cases hm:AT s n with
 | false=>rfl
 | true=>
   have hc:Aa s.ca n=false:=by
    unfold AT at hm;simp only[Bool.and_eq_true,Bool.not_eq_true'] at hm;exact hm.2.2
   rw[N9 _ (h n hc)]
theorem Qp{T:Tb}{s:St}(h:Zt s)(oc n:Nat)(x:Rw):Zt (BO T s oc n x):=by
 unfold BO;split
 ·exact h
 ·exact h
theorem QH{s:St}(h:Zt s)(oc n:Nat)(x:Rw):Zt (Bk s oc n x):=by
 unfold Bk;split
 ·intro k hk;have hk:Aa (Ab s.ca n) k=false:=hk;rw[Ir,Bool.or_eq_false_iff,decide_eq_false_iff_not] at hk;dsimp only;split
  ·rw[My _ _ (fun e=>hk.2 e.symm)];exact h k hk.1
  ·exact h k hk.1
 ·exact h
theorem QE{T:Tb}{s:St}(h:Zt s)(oc p:Nat):Zt (BQ T s oc p):=by
 unfold BQ;split
 ·exact h
 ·exact h
theorem MX{T:Tb}{s:St}(h:Zt s)(oc:Nat)(c:Nat × Int):CI T s oc c=CN T s oc c:=by
 unfold CI CN Bj;split
 ·rfl
 ·split
  ·rfl
  ·cases hx:T.rw[c.2.toNat]? with
   | none=>rfl
   | some x=>dsimp only;rw[M1 h]
theorem R9{T:Tb}{s:St}(h:Zt s)(oc:Nat)(c:Nat × Int):Zt (CN T s oc c):=by
 unfold CN Bj;split
 ·exact h
 ·split
  ·split
   ·exact QE h _ _
   ·exact h
  ·cases hx:T.rw[c.2.toNat]? with
   | none=>exact h
   | some x=>
     dsimp only;split
     ·exact Qp h _ _ _
     ·split
      ·exact QH h _ _ _
      ·exact h
theorem GV{T:Tb}(oc:Nat):∀(l:List (Nat × Int)) (s:St),Zt s→AS Bw T oc l s=AS Bk T oc l s
 | [],_,_=>rfl
 | c :: l,s,h=>by
   show AS Bw T oc l (CI T s oc c)=AS Bk T oc l (CN T s oc c);rw[MX h,GV oc l _ (R9 h oc c)]
def Fi:=BB Bw
theorem L5(T:Tb)(s:St)(oc:Nat)(l:List (Nat × Int)):Fi T s oc l=DN T s oc l:=by
 show BB Bw T s oc l=BB Bk T s oc l;unfold BB;rw[GV oc _ _ (Pp _ _ s)]
theorem IR(T:Tb)(s:St)(oc:Nat)(l:List (Nat × Int)):Fi T s oc l=AR T oc (AD T.rw.length T.li.length s).us (AS Bw T oc (l.take 8) (AD T.rw.length T.li.length s)) T.rw.length:=rfl
end Go.Proofs.YtpohoannggdbjaaGreat
namespace Go.Proofs.YtpohoannggdbjaaGreat
open Lib (hid)
open Go.RowKit
set_option maxRecDepth 100000
theorem Pb{s:St}(h:s.ok)(oc:Nat){n:Nat}(hn:n≤63)(x:Rw):(Bk s oc n x).ok:=by
 unfold Bk;split
 ·refine⟨h.lk,h.us,BW _ _ hn h.ca,?_,h.pt⟩;dsimp only;split
  ·exact E7 h.tm n (by omega)
  ·exact h.tm
 ·exact h
theorem O8{T:Tb}(hT:Db T){s:St}(h:s.ok)(oc:Nat)(c:Nat × Int):(CN T s oc c).ok:=by
 unfold CN Bj;split
 ·exact h
 ·split
  ·split
   ·exact Ka hT h oc (by assumption)
   ·exact h
  ·cases hx:T.rw[c.2.toNat]? with
   | none=>exact h
   | some x=>
     dsimp only;split
     ·exact KL hT h oc hx
     ·split
      ·exact Pb h oc (I8 hT hx) x
      ·exact h
theorem Ij{T:Tb}(hT:Db T)(oc:Nat):∀(l:List (Nat × Int)) (s:St),s.ok→(AS Bk T oc l s).ok
 | [],_,h=>h
 | c :: l,s,h=>Ij hT oc l (CN T s oc c) (O8 hT h oc c)
theorem IH{T:Tb}(hT:Db T){s:St}(h:s.ok)(oc:Nat)(l:List (Nat × Int)):(DN T s oc l).ok:=
 Ed hT oc _ (Ij hT oc _ _ (Fn _ _ h)) _
theorem Jn:Iz.ok:=⟨by decide,by decide,by decide,fun _=>by show 0≤255;omega,by decide⟩
theorem KU{K:List St}{s:St}(h:∀ t∈K,t.ok)(hs:s.ok):∀ t∈Bt K s,t.ok:=by
 unfold Bt;split
 ·exact h
 ·intro t ht;rcases List.mem_append.1 ht with ht | ht
  ·exact h t ht
  ·rw[List.mem_singleton] at ht;rw[ht];exact hs
theorem Kb{M:Mc}{L:AM}(h:M.tb=B6 L):M.li.l.length=L.po.l.length:=by rw[← DL,h,Do]
def Jg(x:Iv):List Value:=[.int .u64 (x.oc:Int),.int .u32 (x.no:Int),.int .u32 (x.re:Int),.slice x.a x.len x.cap]
def DS(w:World)(x:Iv):Prop:=(x.oc<18446744073709551616∧x.no<4294967296∧x.re<4294967296)∧x.cl.length=x.len∧x.len≤x.cap∧CB w x.a x.cl
theorem DS.below{w w':World}{x:Iv}(h:DS w x)(hb:Below w.heap.size w w'):DS w' x:=⟨h.1,h.2.1,h.2.2.1,h.2.2.2.below hb⟩
theorem PP{w V:World}{m:Nat}{M:Mc}(hM:Cv (fun b=>w.heap.size≤b) w m M)(hV:Below w.heap.size w V)(hT:Db M.tb)(hp:M.pt=pw M.li.l.length - 1)(s:St)(hs:s.ok)(x:Iv)(hx:DS V x)(hn:x.len≤100000) :
 Calls Tryz.prog 19 #[.pointer (some ⟨m,0,none⟩),.agg (Ai s).toArray,.agg #[.int .u64 (x.oc:Int),.int .u32 (x.no:Int),.int .u32 (x.re:Int),.slice x.a x.len x.cap]] V fun e w'=>e = .returned (.tuple #[.agg (Ai (AE M.tb x s)).toArray,.agg #[.int .u64 (Bq M.tb (AE M.tb x s) x.oc x.no x.re:Int),.int .u32 ((AE M.tb x s).pt:Int)]])∧Below V.heap.size V w':=
 Od (fun b=>w.heap.size≤b) m M s ⟨x.oc,x.no,x.re,.slice x.a x.len x.cap⟩ x.a x.len x.cap x.cl V (hM.step (WX.of_below hV)) (fun _ hb=>Nat.le_trans hV.size hb) hT hp hs ⟨hx.1.1,hx.1.2.1,hx.1.2.2,_,_,_,rfl⟩ rfl hx.2.2.2 hx.2.1 hx.2.2.1 hn
theorem Jb{w0 w:World}{m:Nat}{M:Mc}(h:Cv (fun k=>k<w0.heap.size) w m M):Cv (fun b=>w.heap.size≤b) w m M:=h.weak (fun _ hb hx=>absurd hb (by have hx:w.heap.size≤_:=hx;omega))
theorem FN{w:World}{b b':Nat}{e:TypeId}{sz:Nat}{v:Value}{n:Nat}{xs:List Value}(hb:b≤b')(h:w.ownsRow b' e sz v n xs):w.ownsRow b e sz v n xs:=
 ⟨h.1,h.2.imp id fun⟨g,cap,cur,h1,h2,h3⟩=>⟨g,cap,cur,h1,Nat.le_trans hb h2,h3⟩⟩
theorem Cm.lt{w:World}{r:Nat}{K:List St}(h:Cm w r K):r<w.heap.size:=by
 obtain⟨es,clock,h1,_⟩:=h;exact Af h1
theorem Cm.only2{w w':World}{r g:Nat}{K:List St}(h:Cm w r K)(ho:Ag g w w')(hne:r≠g):Cm w' r K:=by
 obtain⟨es,clock,h1,h2⟩:=h;exact⟨es,clock,ho.keep hne h1,h2⟩
theorem PV{w:World}{r:Nat}{K:List St}(h:Cm w r K)(ty:TypeId):(Builtin.len_ #[78] ty #[.map (some r)]).run Tryz.prog w = .ok (.int .i64 (K.length:Int)) w:=by
 obtain⟨es,clock,h1,h2,_⟩:=h;have hl:es.size=K.length:=by
  have:=congrArg List.length h2;simpa using this
 simp[Builtin.len_,run_underlying Tryz.underlying78,MapKept.run_getObj_map h1,hl,goInt]
theorem Gr{w:World}{r:Nat}{K:List St}(h:Cm w r K){ops:Array Oper}{rest:List Oper}{o:Oper}{a:Act}{Q:Exit→Act→World→Prop}(hg:o.guard=none)(x:Operand)(hop:o.op = .call { callee:=.builtin .len,args := #[x],argTypes := #[78] })(hx:a.eval x = .map (some r))
 (hK:wpList Tryz.prog ops Q rest (a.put o.dst (.int .i64 (K.length:Int))) w):wpList Tryz.prog ops Q (o :: rest) a w:=
 wpList_plain hg fun K' hK'=>by
  unfold Oper.wp;simp[execOp,hop,resolve,invoke,builtin,hx,PV h,Result.andThen];exact hK' _ _ hK
theorem Il{T:Tb}(hT:Db T){x:Iv}{y:Sh}{D N:List St}(s:St)(hs:s.ok)(hok:∀ t∈N,t.ok)(h:AV N (Cp T x y D))(hl:N.length≤2*D.length) :
 (∀ t∈(if y.st || (Bq T (AE T x s) x.oc x.no x.re == y.p && (AE T x s).pt == y.q) then Bt (if y.st then Bt N s else N) (AE T x s) else (if y.st then Bt N s else N)),t.ok)∧AV (if y.st || (Bq T (AE T x s) x.oc x.no x.re == y.p && (AE T x s).pt == y.q) then Bt (if y.st then Bt N s else N) (AE T x s) else (if y.st then Bt N s else N)) (Cp T x y (D ++ [s]))∧(if y.st || (Bq T (AE T x s) x.oc x.no x.re == y.p && (AE T x s).pt == y.q) then Bt (if y.st then Bt N s else N) (AE T x s) else (if y.st then Bt N s else N)).length≤2*(D.length+1):=by
 have h1:∀ t∈(if y.st then Bt N s else N),t.ok:=by
  split
  ·exact KU hok hs
  ·exact hok
 refine⟨?_,Ms s h,M4 s hl⟩;split
 ·exact KU h1 (IH hT hs x.oc x.cl)
 ·exact h1
theorem MY(s t:St):CT s t=CT t s:=by
 rw[Bool.eq_iff_iff,Dc,Dc];exact eq_comm
theorem Hg{A B:List St}(h:A.Perm B)(hB:B.Pairwise (fun s t=>CT s t=false)):A.Pairwise (fun s t=>CT s t=false):=(h.pairwise_iff (fun {x y} e=>by rw[MY];exact e)).2 hB
theorem Jp:Ai Iz=Ai zS:=rfl
theorem Nt:Bt [] Iz=[Iz]:=rfl
theorem Jw(T:Tb)(X:List Iv)(Y:List Sh):Bz T X Y 0=[Iz]:=rfl
attribute [local irreducible] Sl.v Aa pw Ab Ax C4 Ai BG Cs Bi Bf B7 Cr BO AT Bk Bw BD Bh Bg BQ Bj BI BC BM AD AS AR Bc BB Bq CT Mc.tb BU AQ Aq AW
attribute [local irreducible] Bt Cp CR Dj AE Bz
attribute [local irreducible] B6 CQ Bs BN zS Iz
set_option maxHeartbeats 8000000 in
theorem Nl(L:AM)(ra:Option Addr)(n rc:Nat)(sa:Option Addr)(k sc:Nat)(w:World)(hL:B5 w L)(c:Int)(hc:(Aq L).1=c)(h0:¬ c=0) :
 Calls Tryz.prog 12 #[.agg #[L.se.v,L.po.v,L.sg.v,L.rt.v],.slice ra n rc,.slice sa k sc] w fun e w'=>e = .returned (.tuple #[.slice none 0 0,.int .i64 c])∧Below w.heap.size w w':=by
 have KN:Hid (∀ V,Below w.heap.size w V→Calls Tryz.prog 18 #[.agg #[L.se.v,L.po.v,L.sg.v,L.rt.v]] V fun e w'=>e = .returned (.tuple #[.pointer none,.int .i64 c])∧Below V.heap.size V w'):=hid (fun V hV=>MC L c V (hL.below hV) hc h0);have cn:(c != 0)=true:=by rw[bne_iff_ne];exact h0
 clear hc h0;obtain⟨n1,hn1⟩:∃ n,L.se.l.length=n:=⟨_,rfl⟩;obtain⟨n2,hn2⟩:∃ n,L.po.l.length=n:=⟨_,rfl⟩;obtain⟨n3,hn3⟩:∃ n,L.sg.l.length=n:=⟨_,rfl⟩;obtain⟨n4,hn4⟩:∃ n,L.rt.l.length=n:=⟨_,rfl⟩;rw[Ak hn1,Ak hn2,Ak hn3,Ak hn4] at KN ⊢;clear hn1 hn2 hn3 hn4 hL;go_enter Tryz.func12,Tryz.ntmps12;go_upto_region 1 with fail
 refine Ap (os:=[.cells #[.slice L.se.a n1 L.se.c,.slice L.po.a n2 L.po.c,.slice L.sg.a n3 L.sg.c,.slice L.rt.a n4 L.rt.c] 27,.cells #[.slice sa k sc] 42]) (w0:=w) rfl ?_;intro W hat hbw;obtain⟨gl,hgl⟩:∃ g,g=w.heap.size:=⟨_,rfl⟩;have q0:=hat 0 _ rfl;obtain⟨gs,hgs⟩:∃ g,g=gl+1:=⟨_,rfl⟩;have q1:=hat 1 _ rfl;rw[Nat.add_zero,← hgl] at q0;rw[← hgl,← hgs] at q1;rw[← hgl,← hgs];have HQl:=hid q0;have HQs:=hid q1;have HB0:=hid hbw;clear hat hbw q0 q1 hgl hgs;have l0:=A4 HQl.out 0 _ rfl;have l1:=A4 HQl.out 1 _ rfl;have l2:=A4 HQl.out 2 _ rfl;have l3:=A4 HQl.out 3 _ rfl;go_wp2_with fail;refine(KN.out _ HB0.out).mono ?_;rintro e w1 ⟨rfl,hb1⟩;have HB1:=hid (A8 HB0.out hb1);clear hb1 l0 l1 l2 l3;go_wp2_with fail;go_ret2;refine⟨rfl,?_⟩;repeat first
  | with_reducible exact HB1.out
  | ((with_reducible refine Below.setCell ?_ ?_ _);rotate_left;(have:=HB1.out.size;dsimp only;omega))
  | with_reducible refine Below.alloc ?_ ?_ _
  | (have:=HB1.out.size;omega)
set_option maxHeartbeats 8000000 in
theorem L7(L:AM)(ra:Option Addr)(n rc:Nat)(sa:Option Addr)(k sc:Nat)(w:World)(hL:B5 w L)(hc:(Aq L).1=0)(hnk:¬ n=k) :
 Calls Tryz.prog 12 #[.agg #[L.se.v,L.po.v,L.sg.v,L.rt.v],.slice ra n rc,.slice sa k sc] w fun e w'=>e = .returned (.tuple #[.slice none 0 0,.int .i64 2])∧Below w.heap.size w w':=by
 have KN:Hid (∀ V,Below w.heap.size w V→Calls Tryz.prog 18 #[.agg #[L.se.v,L.po.v,L.sg.v,L.rt.v]] V fun e w'=>∃ m M,e = .returned (.tuple #[.pointer (some ⟨m,0,none⟩),.int .i64 0])∧Cv (fun b=>b<w.heap.size) w' m M∧M.tb=B6 L∧M.pt=pw M.li.l.length - 1∧Below V.heap.size V w'):=hid (fun V hV=>(Hq L V (hL.below hV) hc).mono (fun _ _ ⟨m,M,e1,e2,e3,e4,e5⟩=>⟨m,M,e1,e2.weak (fun b _ hb=>Nat.lt_of_lt_of_le hb hV.size),e3,by rw[e4,Kb e3],e5⟩));have d:((n:Int) !=(k:Int))=true:=by rw[bne_iff_ne];omega
 clear hc hnk;obtain⟨n1,hn1⟩:∃ n,L.se.l.length=n:=⟨_,rfl⟩;obtain⟨n2,hn2⟩:∃ n,L.po.l.length=n:=⟨_,rfl⟩;obtain⟨n3,hn3⟩:∃ n,L.sg.l.length=n:=⟨_,rfl⟩;obtain⟨n4,hn4⟩:∃ n,L.rt.l.length=n:=⟨_,rfl⟩;rw[Ak hn1,Ak hn2,Ak hn3,Ak hn4] at KN ⊢;clear hn1 hn2 hn3 hn4 hL;go_enter Tryz.func12,Tryz.ntmps12;go_upto_region 1 with fail
 refine Ap (os:=[.cells #[.slice L.se.a n1 L.se.c,.slice L.po.a n2 L.po.c,.slice L.sg.a n3 L.sg.c,.slice L.rt.a n4 L.rt.c] 27,.cells #[.slice sa k sc] 42]) (w0:=w) rfl ?_;intro W hat hbw;obtain⟨gl,hgl⟩:∃ g,g=w.heap.size:=⟨_,rfl⟩;have q0:=hat 0 _ rfl;obtain⟨gs,hgs⟩:∃ g,g=gl+1:=⟨_,rfl⟩;have q1:=hat 1 _ rfl;rw[Nat.add_zero,← hgl] at q0;rw[← hgl,← hgs] at q1;rw[← hgl,← hgs];have HQl:=hid q0;have HQs:=hid q1;have HB0:=hid hbw;clear hat hbw q0 q1 hgl hgs;have l0:=A4 HQl.out 0 _ rfl;have l1:=A4 HQl.out 1 _ rfl;have l2:=A4 HQl.out 2 _ rfl;have l3:=A4 HQl.out 3 _ rfl;go_wp2_with fail;refine(KN.out _ HB0.out).mono ?_;rintro e w1 ⟨m,M,rfl,h1,h2,h3,hb1⟩;have HB1:=hid (A8 HB0.out hb1);have HS1:=hid (A5 hb1 HQs.out);have s0:=A4 HS1.out 0 _ rfl;have hls:=Af HS1.out;clear hb1 l0 l1 l2 l3 h1 h2 h3;go_wp2_with fail;go_ret2;refine⟨rfl,?_⟩;repeat first
  | with_reducible exact HB1.out
  | ((with_reducible refine Below.setCell ?_ ?_ _);rotate_left;(have:=HB1.out.size;dsimp only;omega))
  | with_reducible refine Below.alloc ?_ ?_ _
  | (have:=HB1.out.size;omega)
set_option maxHeartbeats 32000000 in
theorem Ju(L:AM)(ra:Option Addr)(n rc:Nat)(sa:Option Addr)(sc:Nat)(X:List Iv)(Y:List Sh)(w:World)(hL:B5 w L)(hX:AF 4 Jg w ra X)(hxn:X.length=n)(hxo:∀ x∈X,DS w x∧x.len≤100000)(hY:AF 3 QW w sa Y)(hyn:Y.length=n)(h11:n≤11)(hc:(Aq L).1=0) :
 Calls Tryz.prog 12 #[.agg #[L.se.v,L.po.v,L.sg.v,L.rt.v],.slice ra n rc,.slice sa n sc] w fun e w'=>∃(v:Value) (ss:List St),e = .returned (.tuple #[v,.int .i64 0])∧AV ss (Bz (B6 L) X Y n)∧w'.ownsRow w.heap.size 65 68 v ss.length (ss.flatMap Ai)∧Below w.heap.size w w'∧ss.Pairwise (fun s t=>CT s t=false):=by
 have KN:Hid (∀ V,Below w.heap.size w V→Calls Tryz.prog 18 #[.agg #[L.se.v,L.po.v,L.sg.v,L.rt.v]] V fun e w'=>∃ m M,e = .returned (.tuple #[.pointer (some ⟨m,0,none⟩),.int .i64 0])∧Cv (fun b=>b<w.heap.size) w' m M∧M.tb=B6 L∧M.pt=pw M.li.l.length - 1∧Below V.heap.size V w'):=hid (fun V hV=>(Hq L V (hL.below hV) hc).mono (fun _ _ ⟨m,M,e1,e2,e3,e4,e5⟩=>⟨m,M,e1,e2.weak (fun b _ hb=>Nat.lt_of_lt_of_le hb hV.size),e3,by rw[e4,Kb e3],e5⟩));obtain⟨T,hT⟩:∃ T,B6 L=T:=⟨_,rfl⟩;have HTB:Hid (Db T):=hid (hT ▸ Hx hc);rw[hT] at KN ⊢;have HXR:=hid hX;have HXN:=hid hxn;have HXO:=hid hxo;have HYR:=hid hY;have HYN:=hid hyn;have H11:=hid h11;have d:((n:Int) !=(n:Int))=false:=by simp
 have d4:¬ (400:Int)<(n:Int):=by omega
 clear hc hX hxn hxo hY hyn h11 hT;obtain⟨n1,hn1⟩:∃ n,L.se.l.length=n:=⟨_,rfl⟩;obtain⟨n2,hn2⟩:∃ n,L.po.l.length=n:=⟨_,rfl⟩;obtain⟨n3,hn3⟩:∃ n,L.sg.l.length=n:=⟨_,rfl⟩;obtain⟨n4,hn4⟩:∃ n,L.rt.l.length=n:=⟨_,rfl⟩;rw[Ak hn1,Ak hn2,Ak hn3,Ak hn4] at KN ⊢;clear hn1 hn2 hn3 hn4 hL;go_enter Tryz.func12,Tryz.ntmps12;go_upto_region 1 with fail
 refine Ap (os:=[.cells #[.slice L.se.a n1 L.se.c,.slice L.po.a n2 L.po.c,.slice L.sg.a n3 L.sg.c,.slice L.rt.a n4 L.rt.c] 27,.cells #[.slice sa n sc] 42]) (w0:=w) rfl ?_;intro W hat hbw;obtain⟨gl,hgl⟩:∃ g,g=w.heap.size:=⟨_,rfl⟩;have q0:=hat 0 _ rfl;obtain⟨gs,hgs⟩:∃ g,g=gl+1:=⟨_,rfl⟩;have q1:=hat 1 _ rfl;rw[Nat.add_zero,← hgl] at q0;rw[← hgl,← hgs] at q1;rw[← hgl,← hgs];have HQl:=hid q0;have HQs:=hid q1;have HB0:=hid hbw;clear hat hbw q0 q1 hgl hgs;have l0:=A4 HQl.out 0 _ rfl;have l1:=A4 HQl.out 1 _ rfl;have l2:=A4 HQl.out 2 _ rfl;have l3:=A4 HQl.out 3 _ rfl;go_wp2_with fail;refine(KN.out _ HB0.out).mono ?_;rintro e w1 ⟨m,M,rfl,h1,h2,h3,hb1⟩;have HB1:=hid (A8 HB0.out hb1);have HS1:=hid (A5 hb1 HQs.out);have HM:=hid (And.intro (Jb h1) (And.intro h2 h3));have HYR1:=hid (HYR.out.below HB1.out);have s0:=A4 HS1.out 0 _ rfl;have hls:=Af HS1.out;clear hb1 l0 l1 l2 l3 h1 h2 h3;go_upto_region 8 with fail
 clear s0 hls d d4;have hb2:=Ac w1 (.cells #[.pointer (some ⟨m,0,none⟩)] 72);have hq2:=Ao w1 (.cells #[.pointer (some ⟨m,0,none⟩)] 72) (Below.refl _ _);obtain⟨W2,hW2⟩:∃ V,V=w1.alloc (.cells #[.pointer (some ⟨m,0,none⟩)] 72):=⟨_,rfl⟩;obtain⟨bm,hbm⟩:∃ g,g=w1.heap.size:=⟨_,rfl⟩;rw[← hW2] at hb2 hq2 ⊢;rw[← hbm] at hq2 ⊢;have HB12:=hid hb2;have HB2:=hid (A8 HB1.out hb2);have HBM:=hid hq2;clear hb2 hq2 hW2 hbm;have hmm:∀(t:TypeId) (w:World),(Instr.makeMap t none).run Tryz.prog w = .ok (.map (some w.heap.size)) (w.alloc (.map #[] 0)):=fun t w=>by simp[Instr.makeMap,Result.andThen]
 have h3a:=Ac W2 (.map #[] 0);have hm0:Cm (W2.alloc (.map #[] 0)) W2.heap.size []:=⟨#[],0,Ao W2 _ (Below.refl _ _),rfl,List.Pairwise.nil,List.nodup_nil,fun e he=>(nomatch he)⟩;obtain⟨W3,hup,hm3,ho3⟩:=DI Iz hm0;unfold BG at hup;rw[Jp] at hup;have HM3:Hid (Cm W3 W2.heap.size [Iz]):=hid (Nt ▸ hm3);have HB3:Hid (Below W2.heap.size W2 W3):=hid (Ag.below h3a (Nat.le_refl _) h3a.size ho3);obtain⟨r0,hr0⟩:∃ g,g=W2.heap.size:=⟨_,rfl⟩;clear hm0 hm3 ho3 h3a;go_upto_region 10 with ((with_reducible refine DM (op:=⟨some 36,_,_,_,_,_⟩) rfl 65 rfl _ FZ ?_))
 rw[← hr0] at HM3 ⊢;clear hup hr0;go_loopg [10,40] n (fun g v10 v40 wr=>∃(i r:Nat) (K:List St),i+g=n∧v10 = .map (some r)∧v40 = .int .i64 (i:Int)∧Cm wr r K∧(∀ t∈K,t.ok)∧AV K (Bz T X Y i)∧K.length≤2 ^ i∧Below W2.heap.size W2 wr)
 case atStart=>exact⟨0,r0,[Iz],by omega,rfl,rfl,HM3.out,fun t ht=>by rw[List.mem_singleton] at ht;rw[ht];exact Jn,by rw[Jw];exact AV.refl _,Nat.le_refl _,HB3.out⟩
 case round=>
  obtain⟨i,r,K,hi,rfl,rfl,hms,hok,hsame,hlen,hbw⟩:=hrel;have HK:=hid hi;have HMS:=hid hms;have HOK:=hid hok;have HSAME:=hid hsame;have HLEN:=hid hlen;have HB:=hid hbw;have HK5:Hid (K.length≤100000):=hid (by
   have h2:=Nat.pow_le_pow_right (n:=2) (by omega) (show i≤11 by have:=H11.out;omega);omega)
  clear hi hms hok hsame hlen hbw;by_cases hlt:i<n
  ·skip
   obtain⟨wo,rfl⟩:∃ q,q=wr:=⟨_,rfl⟩;have d1:(0:Int)≤i:=by omega
   have d2:(i:Int)<n:=by omega
   have HLT:=hid hlt;have HD:=hid (And.intro d1 d2);obtain⟨x,hxi⟩:∃ x,X[i]?=some x:=⟨_,List.getElem?_eq_getElem (by rw[HXN.out];exact hlt)⟩;obtain⟨y,hyi⟩:∃ y,Y[i]?=some y:=⟨_,List.getElem?_eq_getElem (by rw[HYN.out];exact hlt)⟩;have HXI:=hid hxi;have HYI:=hid hyi;have HXO1:=hid (HXO.out x (List.mem_of_getElem? hxi));rcases HXR.out with hnil | ⟨rb,ro,hra,hc⟩
   ·rw[hnil] at hxi;cases hxi
   rcases HYR.out with hnil | ⟨sb,so,hsa,hcy⟩
   ·rw[hnil] at hyi;cases hyi
   have hbo:=A8 HB2.out HB.out;have z0:=cell_later hbo (hc i _ hxi 0 _ rfl);have z1:=cell_later hbo (hc i _ hxi 1 _ rfl);have z2:=cell_later hbo (hc i _ hxi 2 _ rfl);have z3:=cell_later hbo (hc i _ hxi 3 _ rfl);rw[Nat.add_zero] at z0;have y0:=cell_later HB1.out (hcy i _ hyi 0 _ rfl);rw[Nat.add_zero] at y0;obtain⟨t,ht⟩:∃ t,y.st=t:=⟨_,rfl⟩;have HYT:=hid ht;rw[ht] at y0;have HY0:=hid y0;have KSTP:Hid (∀ s:St,s.ok→∀ V,Below w1.heap.size w1 V→Calls Tryz.prog 19 #[.pointer (some ⟨m,0,none⟩),.agg (Ai s).toArray,.agg #[.int .u64 (x.oc:Int),.int .u32 (x.no:Int),.int .u32 (x.re:Int),.slice x.a x.len x.cap]] V fun e w'=>e = .returned (.tuple #[.agg (Ai (AE T x s)).toArray,.agg #[.int .u64 (Bq T (AE T x s) x.oc x.no x.re:Int),.int .u32 ((AE T x s).pt:Int)]])∧Below V.heap.size V w'):=hid (fun s hs V hV=>HM.out.2.1 ▸ PP HM.out.1 hV (HM.out.2.1 ▸ HTB.out) HM.out.2.2 s hs x (HXO1.out.1.below (A8 HB1.out hV)) HXO1.out.2);obtain⟨ra',hra'⟩:∃ q,ra=q:=⟨_,rfl⟩;have HXX:=hid hra';rw[hra'] at hra ⊢;subst hra;subst hsa;clear hlt hxi hyi hc hcy y0 hbo ht hra';go_upto_region 14 with fail
   clear z0 z1 z2 z3 d1 d2;refine Ap (os:=[.cells #[.int .i64 (i:Int)] 3,.cells #[.int .u64 (x.oc:Int),.int .u32 (x.no:Int),.int .u32 (x.re:Int),.slice x.a x.len x.cap] 35,.map #[] 0,.cells #[.map (some (wo.heap.size+1+1))] 78]) (w0:=wo) rfl ?_;intro W hat hbw;obtain⟨gc,hgc⟩:∃ g,g=wo.heap.size:=⟨_,rfl⟩;obtain⟨gi,hgi⟩:∃ g,g=gc+1:=⟨_,rfl⟩;obtain⟨gr,hgr⟩:∃ g,g=gi+1:=⟨_,rfl⟩;obtain⟨gn,hgn⟩:∃ g,g=gr+1:=⟨_,rfl⟩;have q0:=hat 0 _ rfl;have q1:=hat 1 _ rfl;have q2:=hat 2 _ rfl;have q3:=hat 3 _ rfl;rw[← hgc,← hgi,← hgr] at q3;rw[← hgc] at q0 q1 q2;rw[Nat.add_zero] at q0;rw[← hgi] at q1;rw[show gc+2=gr by omega] at q2;rw[show gc+3=gn by omega] at q3;rw[← hgc,← hgi,← hgr,← hgn];have hmsW:Cm W r K:=HMS.out.below hbw;have hmr:Cm W gr []:=⟨#[],0,q2,rfl,List.Pairwise.nil,List.nodup_nil,fun e he=>(nomatch he)⟩;have hrlt:r<gc:=by rw[hgc];exact HMS.out.lt
   obtain⟨ob,hrg,hit⟩:=EN hmsW;have hb4:=Ac W ob;obtain⟨it,hite⟩:∃ g,g=W.heap.size:=⟨_,rfl⟩;have hit2:gn<it:=by rw[hite];exact Af q3
   obtain⟨W4,hW4⟩:∃ V,V=W.alloc ob:=⟨_,rfl⟩;rw[← hite] at hrg hit;rw[← hW4] at hrg hit hb4;have HMR4:=hid (hmr.below hb4);have hbo4:Below wo.heap.size wo W4:=A8 hbw hb4;have HB24:Hid (Below W2.heap.size W2 W4):=hid (A8 HB.out hbo4);have HB14:Hid (Below w1.heap.size w1 W4):=hid (A8 HB12.out HB24.out);have hge:W2.heap.size≤gc:=by rw[hgc];exact HB.out.size
   have hge1:w1.heap.size≤gc:=Nat.le_trans HB12.out.size hge;have hbml:=Af HBM.out;have hgsl:=Af HS1.out;have HGE:Hid (w1.heap.size≤gr∧w1.heap.size≤it):=hid (by omega);have HGE2:Hid (W2.heap.size≤gr∧W2.heap.size≤it):=hid (by omega);have H4:Hid ((W4.heap[bm]?=some (.cells #[.pointer (some ⟨m,0,none⟩)] 72))∧(W4.heap[gi]?=some (.cells #[.int .u64 (x.oc:Int),.int .u32 (x.no:Int),.int .u32 (x.re:Int),.slice x.a x.len x.cap] 35))∧(W4.heap[gs]?=some (.cells #[.slice (some ⟨sb,so,none⟩) n sc] 42))∧(W4.heap[gc]?=some (.cells #[.int .i64 (i:Int)] 3))∧(W4.heap[gn]?=some (.cells #[.map (some gr)] 78))):=hid ⟨A5 HB24.out HBM.out,A5 hb4 q1,A5 HB14.out HS1.out,A5 hb4 q0,A5 hb4 q3⟩;have HX4:Hid (¬ (bm=gr∨bm=it)∧¬ (gi=gr∨gi=it)∧¬ (gs=gr∨gs=it)∧¬ (gc=gr∨gc=it)∧¬ (gn=gr∨gn=it)):=hid (by omega);have HNE4:Hid (it≠gr∧r≠gr∧gr≠it):=hid (by omega);clear hat hbw q0 q1 q2 q3 hgc hgi hgr hgn hmsW hmr hrlt hite hit2 hW4 hge hge1 hbml hgsl hb4 hbo4;go_upto_region 15 with fail
   clear hrg;go_loopg [] K.length (fun g wr=>∃ D L N:List St,L.length=g∧K.Perm (D ++ L)∧Ey wr it r K L∧Cm wr gr N∧(∀ t∈N,t.ok)∧AV N (Cp T x y D)∧N.length≤2*D.length∧WX (fun b=>b=gr∨b=it) W4 wr)
   case atStart=>exact⟨[],K,[],rfl,List.Perm.refl _,hit,HMR4.out,fun _ h=>(nomatch h),by rw[NO];exact AV.refl _,Nat.le_refl _,WX.refl _ _⟩
   case round=>
    obtain⟨D,L,N,hlg,hP,hI,hm,hnok,hns,hnl,hw⟩:=hrel;have HLG:=hid hlg;have HNOK:=hid hnok;have HNS:=hid hns;have HNL:=hid hnl;have hne:=HNE4.out;clear hlg hnok hns hnl;rcases Fk 0 hI with ⟨hL,hrun⟩ | ⟨s,L',w2,hPL,hrun,hI2,hO,hsz,hen⟩
    ·skip
     subst hL;have HDL:Hid (D.length=K.length):=hid (by have:=hP.length_eq;rw[List.append_nil] at this;exact this.symm);have HSN:Hid (AV N (Bz T X Y (i+1))):=hid (by
      rw[Ji HXI.out HYI.out];rw[List.append_nil] at hP;exact HNS.out.trans (ML HTB.out.rn x y ((H7 hP.symm).trans HSAME.out)))
     have HLN:Hid (N.length≤2 ^ (i+1)):=hid (by have h1:=HNL.out;have h2:=HLEN.out;rw[HDL.out] at h1;rw[Nat.pow_succ];omega);have d3:¬ (4096:Int)<(N.length:Int):=by
      have h1:=HLN.out;have h2:=Nat.pow_le_pow_right (n:=2) (by omega) (show i+1≤11 by have:=HLT.out;have:=H11.out;omega);omega
     have n0:=A4 (hw.keep HX4.out.2.2.2.2 H4.out.2.2.2.2) 0 _ rfl;have HMR:=hid hm;have HWR:=hid hw;have e1:=Bp HLT.out (Nat.le_trans H11.out (by decide));clear hP hI hm hw hne;go_upto_region 21 with (at_len;refine Gr HMR.out rfl _ rfl rfl ?_)
     go_wp2_with fail;rw[← HXX.out];go_roundg (n - (i+1))
     case rel=>exact⟨i+1,gr,N,AK HK.out HLT.out,rfl,by go_num,HMR.out,HNOK.out,HSN.out,HLN.out,WX.below HB24.out HWR.out (fun b hb=>by have:=HGE2.out;rcases hb with rfl | rfl<;>omega)⟩
     case measure=>exact AL HK.out HLT.out
    ·clear hsz;unfold BG at hrun hen;have HSK:Hid s.ok:=hid (HOK.out s (hP.mem_iff.2 (List.mem_append_right D (hPL.mem_iff.2 List.mem_cons_self))));obtain⟨hst,hq,hbb⟩:=Jq w2 s;have HP2:Hid (K.Perm ((D ++ [s]) ++ L')):=hid (by
      rw[List.append_assoc];exact hP.trans (hPL.append_left D))
     have HLT2:Hid (L'.length<L.length):=hid (by rw[hPL.length_eq];exact Nat.lt_succ_self _);have HNE0:=hid hne;have HMS5:=hid ((hm.only2 hO hne.2.2).below hbb);have HI5:=hid (hI2.keep (hbb.block it (hI2.lt).1) (hbb.block r (hI2.lt).2.1));have HW5:=hid (hw.trans ((WX.of_only (X:=fun b=>b=gr∨b=it) hO (Or.inr rfl)).trans (WX.of_below hbb)));obtain⟨w5,hw5⟩:∃ V,V=(w2.alloc (.cells (Ai zS).toArray 65)).setCells w2.heap.size 0 (Ai s):=⟨_,rfl⟩;rw[← hw5] at hst hq HMS5 HI5 HW5;obtain⟨gS,hgS⟩:∃ g,g=w2.heap.size:=⟨_,rfl⟩;rw[← hgS] at hq;have HST:=hid hst;have HQS5:=hid hq;have HGS:Hid (¬ gS=gr):=hid (by
      have:=hm.lt;have h2:=hO.size;omega)
     clear hst hq hbb hw5 hP hPL hI hI2 hO hne;go_upto_region 17 with (first
      | rw[BF]
      | ((with_reducible refine Am (op:=⟨none,.store 65 _ _,_,_,_,_⟩) rfl 65 _ _ rfl _ _ ?_ ?_ _ HST.out ?_);(· rfl);(· rfl)))
     (try simp only[Act.put])
     rw[← hgS];clear hrun hen HST hgS;have HH5:Hid ((w5.heap[gs]?=some (.cells #[.slice (some ⟨sb,so,none⟩) n sc] 42))∧(w5.heap[gc]?=some (.cells #[.int .i64 (i:Int)] 3))∧(w5.heap[gn]?=some (.cells #[.map (some gr)] 78))):=hid ⟨HW5.out.keep HX4.out.2.2.1 H4.out.2.2.1,HW5.out.keep HX4.out.2.2.2.1 H4.out.2.2.2.1,HW5.out.keep HX4.out.2.2.2.2 H4.out.2.2.2.2⟩;have s0:=A4 HH5.out.1 0 _ rfl;have c0:=A4 HH5.out.2.1 0 _ rfl;have y0:=cell_later (WX.below HB14.out HW5.out (fun b hb=>by have:=HGE.out;rcases hb with rfl | rfl<;>omega)) HY0.out;have d1:=HD.out.1;have d2:=HD.out.2;cases t with
     | true=>
       go_upto_region 18 with fail
       clear s0 c0 y0 d1 d2;obtain⟨w6,hup,hms6,ho6⟩:=DI s HMS5.out;unfold BG at hup;obtain⟨N1,hN1⟩:∃ N1,Bt N s=N1:=⟨_,rfl⟩;have HM6:Hid (Cm w6 gr N1):=hid (hN1 ▸ hms6);have MORE:Hid ((∀ t∈(if y.st || (Bq T (AE T x s) x.oc x.no x.re == y.p && (AE T x s).pt == y.q) then Bt N1 (AE T x s) else N1),t.ok)∧AV (if y.st || (Bq T (AE T x s) x.oc x.no x.re == y.p && (AE T x s).pt == y.q) then Bt N1 (AE T x s) else N1) (Cp T x y (D ++ [s]))∧(if y.st || (Bq T (AE T x s) x.oc x.no x.re == y.p && (AE T x s).pt == y.q) then Bt N1 (AE T x s) else N1).length≤2*(D.length+1)):=hid (by
        have h:=Il (T:=T) HTB.out (y:=y) s HSK.out HNOK.out HNS.out HNL.out;rw[HYT.out,if_pos rfl,hN1] at h;rw[HYT.out];exact h)
       have HW6:=hid (HW5.out.trans (WX.of_only (X:=fun b=>b=gr∨b=it) ho6 (Or.inl rfl)));have HI6:=hid (HI5.out.keep (ho6.block it (HI5.out.lt).1 HNE0.out.1) (ho6.block r (HI5.out.lt).2.1 HNE0.out.2.1));have HNE:Hid (it≠gr∧r≠gr):=hid ⟨HNE0.out.1,HNE0.out.2.1⟩;have HQS6:=hid (ho6.keep HGS.out HQS5.out);have n0:=A4 HH5.out.2.2 0 _ rfl;have HLD1:=hid (Az HQS5.out);clear hms6 ho6 hN1;have H6:Hid ((w6.heap[bm]?=some (.cells #[.pointer (some ⟨m,0,none⟩)] 72))∧(w6.heap[gi]?=some (.cells #[.int .u64 (x.oc:Int),.int .u32 (x.no:Int),.int .u32 (x.re:Int),.slice x.a x.len x.cap] 35))∧(w6.heap[gs]?=some (.cells #[.slice (some ⟨sb,so,none⟩) n sc] 42))∧(w6.heap[gc]?=some (.cells #[.int .i64 (i:Int)] 3))∧(w6.heap[gn]?=some (.cells #[.map (some gr)] 78))):=hid (by
        have k:=fun(g:Nat) (ob:Obj) (hg:W4.heap[g]?=some ob) (hx:¬ (g=gr∨g=it))=>HW6.out.keep hx hg
        exact⟨k _ _ H4.out.1 HX4.out.1,k _ _ H4.out.2.1 HX4.out.2.1,k _ _ H4.out.2.2.1 HX4.out.2.2.1,k _ _ H4.out.2.2.2.1 HX4.out.2.2.2.1,k _ _ H4.out.2.2.2.2 HX4.out.2.2.2.2⟩)
       have HB6:Hid (Below w1.heap.size w1 w6):=hid (WX.below HB14.out HW6.out (fun b hb=>by have:=HGE.out;rcases hb with rfl | rfl<;>omega));have HYR6:=hid (HYR1.out.below HB6.out);have HST6:Hid (∀ V,Below w6.heap.size w6 V→Calls Tryz.prog 19 #[.pointer (some ⟨m,0,none⟩),.agg (Ai s).toArray,.agg #[.int .u64 (x.oc:Int),.int .u32 (x.no:Int),.int .u32 (x.re:Int),.slice x.a x.len x.cap]] V fun e w'=>e = .returned (.tuple #[.agg (Ai (AE T x s)).toArray,.agg #[.int .u64 (Bq T (AE T x s) x.oc x.no x.re:Int),.int .u32 ((AE T x s).pt:Int)]])∧Below V.heap.size V w'):=hid (fun V hV=>KSTP.out s HSK.out V (A8 HB6.out hV));have HLD2:=hid (Az HQS6.out);go_upto_region 19 with ((with_reducible refine Aj (op:=⟨some 59,_,_,_,_,_⟩) rfl 65 _ rfl _ _ ?_ HLD1.out ?_);(· rfl))
       clear n0 hup HLD1;go_wp2_with ((with_reducible refine Aj (op:=⟨some 61,_,_,_,_,_⟩) rfl 65 _ rfl _ _ ?_ HLD2.out ?_);(· rfl));refine(J2 bm gi gs gc gn gr m x s (AE T x s) (Bq T (AE T x s) x.oc x.no x.re) (AE T x s).pt (some ⟨sb,so,none⟩) n sc i Y y N1 w6 H6.out.1 H6.out.2.1 H6.out.2.2.1 H6.out.2.2.2.1 H6.out.2.2.2.2 HM6.out HYR6.out HYN.out HYI.out HST6.out).mono ?_;rintro e w7 ⟨⟨ve,rfl⟩,hms7,ho7⟩;have HN2:Hid (∃ N2,Cm w7 gr N2∧(∀ t∈N2,t.ok)∧AV N2 (Cp T x y (D ++ [s]))∧N2.length≤2*(D.length+1)):=hid ⟨_,hms7,MORE.out.1,MORE.out.2.1,MORE.out.2.2⟩;have HI7:=hid (HI6.out.keep (ho7.block it (HI6.out.lt).1 HNE.out.1) (ho7.block r (HI6.out.lt).2.1 HNE.out.2));have HW7:=hid (HW6.out.trans (WX.of_only (X:=fun b=>b=gr∨b=it) ho7 (Or.inl rfl)));clear hms7 ho7 H6 HM6 HYR6 HST6 HI6 HW6 HQS6 MORE;go_wp2_with fail;go_roundg L'.length
       case rel=>
        obtain⟨N2,a1,a2,a3,a4⟩:=HN2.out;exact⟨D ++ [s],L',N2,rfl,HP2.out,HI7.out,a1,a2,a3,by rw[List.length_append];exact a4,HW7.out⟩
       case measure=>rw[← HLG.out];exact HLT2.out
     | false=>
       obtain⟨N1,hN1⟩:∃ N1,N=N1:=⟨_,rfl⟩;obtain⟨w6,hw6⟩:∃ V,V=w5:=⟨_,rfl⟩;have HM6:Hid (Cm w6 gr N1):=hid (hN1 ▸ hw6 ▸ HMS5.out);have MORE:Hid ((∀ t∈(if y.st || (Bq T (AE T x s) x.oc x.no x.re == y.p && (AE T x s).pt == y.q) then Bt N1 (AE T x s) else N1),t.ok)∧AV (if y.st || (Bq T (AE T x s) x.oc x.no x.re == y.p && (AE T x s).pt == y.q) then Bt N1 (AE T x s) else N1) (Cp T x y (D ++ [s]))∧(if y.st || (Bq T (AE T x s) x.oc x.no x.re == y.p && (AE T x s).pt == y.q) then Bt N1 (AE T x s) else N1).length≤2*(D.length+1)):=hid (by
        have h:=Il (T:=T) HTB.out (y:=y) s HSK.out HNOK.out HNS.out HNL.out;rw[HYT.out,if_neg Bool.false_ne_true,hN1] at h;rw[HYT.out];exact h)
       have HW6:=hid (hw6 ▸ HW5.out);have HI6:=hid (hw6 ▸ HI5.out);have HNE:Hid (it≠gr∧r≠gr):=hid ⟨HNE0.out.1,HNE0.out.2.1⟩;have HQS6:=hid (hw6 ▸ HQS5.out);have H6:Hid ((w6.heap[bm]?=some (.cells #[.pointer (some ⟨m,0,none⟩)] 72))∧(w6.heap[gi]?=some (.cells #[.int .u64 (x.oc:Int),.int .u32 (x.no:Int),.int .u32 (x.re:Int),.slice x.a x.len x.cap] 35))∧(w6.heap[gs]?=some (.cells #[.slice (some ⟨sb,so,none⟩) n sc] 42))∧(w6.heap[gc]?=some (.cells #[.int .i64 (i:Int)] 3))∧(w6.heap[gn]?=some (.cells #[.map (some gr)] 78))):=hid (by
        have k:=fun(g:Nat) (ob:Obj) (hg:W4.heap[g]?=some ob) (hx:¬ (g=gr∨g=it))=>HW6.out.keep hx hg
        exact⟨k _ _ H4.out.1 HX4.out.1,k _ _ H4.out.2.1 HX4.out.2.1,k _ _ H4.out.2.2.1 HX4.out.2.2.1,k _ _ H4.out.2.2.2.1 HX4.out.2.2.2.1,k _ _ H4.out.2.2.2.2 HX4.out.2.2.2.2⟩)
       have HB6:Hid (Below w1.heap.size w1 w6):=hid (WX.below HB14.out HW6.out (fun b hb=>by have:=HGE.out;rcases hb with rfl | rfl<;>omega));have HYR6:=hid (HYR1.out.below HB6.out);have HST6:Hid (∀ V,Below w6.heap.size w6 V→Calls Tryz.prog 19 #[.pointer (some ⟨m,0,none⟩),.agg (Ai s).toArray,.agg #[.int .u64 (x.oc:Int),.int .u32 (x.no:Int),.int .u32 (x.re:Int),.slice x.a x.len x.cap]] V fun e w'=>e = .returned (.tuple #[.agg (Ai (AE T x s)).toArray,.agg #[.int .u64 (Bq T (AE T x s) x.oc x.no x.re:Int),.int .u32 ((AE T x s).pt:Int)]])∧Below V.heap.size V w'):=hid (fun V hV=>KSTP.out s HSK.out V (A8 HB6.out hV));have HLD2:=hid (Az HQS6.out);rw[← hw6] at s0 c0 y0 ⊢;clear hw6 hN1 HH5 HQS5 HW5 HI5 HMS5;go_wp2_with ((with_reducible refine Aj (op:=⟨some 61,_,_,_,_,_⟩) rfl 65 _ rfl _ _ ?_ HLD2.out ?_);(· rfl));refine(J2 bm gi gs gc gn gr m x s (AE T x s) (Bq T (AE T x s) x.oc x.no x.re) (AE T x s).pt (some ⟨sb,so,none⟩) n sc i Y y N1 w6 H6.out.1 H6.out.2.1 H6.out.2.2.1 H6.out.2.2.2.1 H6.out.2.2.2.2 HM6.out HYR6.out HYN.out HYI.out HST6.out).mono ?_;rintro e w7 ⟨⟨ve,rfl⟩,hms7,ho7⟩;have HN2:Hid (∃ N2,Cm w7 gr N2∧(∀ t∈N2,t.ok)∧AV N2 (Cp T x y (D ++ [s]))∧N2.length≤2*(D.length+1)):=hid ⟨_,hms7,MORE.out.1,MORE.out.2.1,MORE.out.2.2⟩;have HI7:=hid (HI6.out.keep (ho7.block it (HI6.out.lt).1 HNE.out.1) (ho7.block r (HI6.out.lt).2.1 HNE.out.2));have HW7:=hid (HW6.out.trans (WX.of_only (X:=fun b=>b=gr∨b=it) ho7 (Or.inl rfl)));clear hms7 ho7 H6 HM6 HYR6 HST6 HI6 HW6 HQS6 MORE;go_wp2_with fail;go_roundg L'.length
       case rel=>
        obtain⟨N2,a1,a2,a3,a4⟩:=HN2.out;exact⟨D ++ [s],L',N2,rfl,HP2.out,HI7.out,a1,a2,a3,by rw[List.length_append];exact a4,HW7.out⟩
       case measure=>rw[← HLG.out];exact HLT2.out
  ·skip
   have d2:¬ ((i:Int)<(n:Int)):=by omega
   obtain rfl:i=n:=by have:=HK.out;omega
   clear hlt;go_wp2_with fail;refine(Mq r _).mono ?_;rintro e w8 ⟨rfl,rfl⟩;go_wp2_with fail;refine(IE _ r K _ HK5.out (Ao _ _ (Below.refl _ _)) (HMS.out.below (Ac _ _))).mono ?_;rintro e w9 ⟨v,ss,rfl,hss,hrow,hb9⟩;have HF:Hid (AV ss (Bz T X Y i)∧w9.ownsRow w.heap.size 65 68 v ss.length (ss.flatMap Ai)∧Below w.heap.size w w9∧ss.Pairwise (fun s t=>CT s t=false)):=hid ⟨(H7 hss).trans HSAME.out,FN (A8 HB2.out (A8 HB.out (Ac _ _))).size hrow,A8 HB2.out (A8 HB.out (A8 (Ac _ _) hb9)),by
    obtain⟨_,_,_,_,hpw,_⟩:=HMS.out;exact Hg hss hpw⟩
   clear hss hrow hb9;go_wp2_with fail;go_ret2;exact⟨v,ss,rfl,HF.out.1,HF.out.2.1,HF.out.2.2.1,HF.out.2.2.2⟩
theorem M3(L:AM)(ra:Option Addr)(n rc:Nat)(sa:Option Addr)(sc:Nat)(X:List Iv)(Y:List Sh)(w:World)(hL:B5 w L)(hX:AF 4 Jg w ra X)(hxn:X.length=n)(hxo:∀ x∈X,DS w x∧x.len≤100000)(hY:AF 3 QW w sa Y)(hyn:Y.length=n)(h11:n≤11)(hc:(Aq L).1=0) :
 Calls Tryz.prog 12 #[.agg #[L.se.v,L.po.v,L.sg.v,L.rt.v],.slice ra n rc,.slice sa n sc] w fun e w'=>∃(v:Value) (ss:List St),e = .returned (.tuple #[v,.int .i64 0])∧AV ss (Bz (B6 L) X Y n)∧w'.ownsRow w.heap.size 65 68 v ss.length (ss.flatMap Ai)∧Below w.heap.size w w':=
 (Ju L ra n rc sa sc X Y w hL hX hxn hxo hY hyn h11 hc).mono (fun _ _ ⟨v,ss,h1,h2,h3,h4,_⟩=>⟨v,ss,h1,h2,h3,h4⟩)
end Go.Proofs.YtpohoannggdbjaaGreat
