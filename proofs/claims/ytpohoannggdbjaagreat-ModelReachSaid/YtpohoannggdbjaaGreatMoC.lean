/- Ours: IxC; MoC. -/
import Derived.Test.YtpohoannggdbjaaGreatMoA
import Derived.Test.YtpohoannggdbjaaGreatIxA
import Derived.Test.YtpohoannggdbjaaGreatCoO
import Derived.Test.YtpohoannggdbjaaGreatCoF
import Derived.Test.YtpohoannggdbjaaGreatMoB
set_option maxRecDepth 100000
set_option maxHeartbeats 200000000
namespace Go.Proofs.YtpohoannggdbjaaGreat
open Lib (hid)
open Go.RowKit
section
structure Rw where
 fi:Int
 ah:Int
 tr:List Int
 nd:List (Int × Bool)
 cf:List Int
structure Tb where
 rw:List Rw
 li:List Int
structure Ut(N P:Nat)(x:Rw):Prop where
 fi:0≤x.fi∧x.fi≤63
 ah:0≤x.ah∧x.ah≤63
 tr:∀ s∈x.tr,0≤s∧s≤63
 nd:∀ n∈x.nd,0≤n.1∧n.1<(P:Int)
 cf:∀ k∈x.cf,0≤k∧k<(N:Int)
structure Dc(T:Tb):Prop where
 rn:T.rw.length≤64
 pn:T.li.length≤32
 rw:∀ x∈T.rw,Ut T.rw.length T.li.length x
 li:∀ s∈T.li,0≤s∧s≤63
structure St.ok(s:St):Prop where
 lk:s.lk<18446744073709551616
 us:s.us<18446744073709551616
 ca:s.ca<18446744073709551616
 tm:∀ n,s.tm n≤255
 pt:s.pt<4294967296
def BZ(f:Nat→Nat)(n v:Nat):Nat→Nat:=fun k=>if k=n then v else f k
theorem Ug(f:Nat→Nat)(n v:Nat):BZ f n v n=v:=if_pos rfl
theorem Q3(f:Nat→Nat){n k:Nat}(v:Nat)(h:k≠n):BZ f n v k=f k:=if_neg h
structure Do where
 oc:Nat
 no:Nat
 re:Nat
 cm:Value
structure Do.ok(i:Do):Prop where
 oc:i.oc<18446744073709551616
 no:i.no<4294967296
 re:i.re<4294967296
 cm:∃ a n c,i.cm = .slice a n c
def VM(i:Do):List Value:=[.int .u64 (i.oc:Int),.int .u32 (i.no:Int),.int .u32 (i.re:Int),i.cm]
def Bi(oc:Nat)(x:Rw):Bool:=!x.tr.any (fun k=>Aa oc k.toNat)
def Bg(T:Tb)(s:St)(oc:Nat)(n:Int × Bool):Bool:=(Aa s.pt n.1.toNat != n.2) && Aa oc (T.li.getD n.1.toNat 0).toNat
def B9(T:Tb)(s:St)(oc n:Nat)(x:Rw):Bool:=!Aa s.lk n && (Bi oc x && (!x.cf.any (fun k=>Aa s.lk k.toNat) && !x.nd.any (Bg T s oc)))
def CB(l:List (Int × Bool))(p:Nat):Nat:=l.foldl (fun p n=>if n.2 then Ab p n.1.toNat else Aw p n.1.toNat) p
def BQ(T:Tb)(s:St)(oc n:Nat)(x:Rw):St:=if B9 T s oc n x then { s with lk:=Ab s.lk n,pt:=CB x.nd s.pt } else s
def AU(s:St)(n:Nat):Bool:=Aa s.lk n && (!Aa s.us n && !Aa s.ca n)
def Bp(s:St)(oc n:Nat)(x:Rw):St:=if AU s n then { s with ca:=Ab s.ca n,tm:=if Aa oc x.ah.toNat then BZ s.tm n 20 else s.tm } else s
def BB(s:St)(oc n:Nat)(x:Rw):St:=if AU s n then { s with ca:=Ab s.ca n,tm:=if Aa oc x.ah.toNat then BZ s.tm n 20 else BZ s.tm n 0 } else s
def BG(T:Tb)(s:St)(p:Nat):Nat→Bool
 | 0=>false
 | k+1=>BG T s p k || (Aa s.lk k && ((T.rw[k]?).map (fun x=>x.nd.any (fun n=>n.1 ==(p:Int)))).getD false)
def Bh(x n:Nat):Nat:=x ^^^ pw n
def Bd(T:Tb)(s:St)(oc p:Nat):Bool:=!Aa oc (T.li.getD p 0).toNat && !BG T s p T.rw.length
def BP(T:Tb)(s:St)(oc p:Nat):St:=if Bd T s oc p then { s with pt:=Bh s.pt p } else s
def Bo(can:St→Nat→Nat→Rw→St)(T:Tb)(s:St)(oc:Nat)(c:Nat × Int):St:=
 if c.2<0 then s
 else if c.1=3 then (if c.2.toNat<T.li.length then BP T s oc c.2.toNat else s)
 else match T.rw[c.2.toNat]? with
  | none=>s
  | some x=>if c.1=1 then BQ T s oc c.2.toNat x else if c.1=2 then can s oc c.2.toNat x else s
def Dd:=Bo Bp
def D6:=Bo BB
def BL(s:St)(n:Nat):St:={ lk:=Aw s.lk n,us:=Aw s.us n,ca:=Aw s.ca n,tm:=BZ s.tm n 0,pt:=s.pt }
def BF(s:St)(oc used n:Nat)(x:Rw):St:=
 if Aa used n then (if Bi oc x then BL s n else s)
 else if Aa oc x.fi.toNat then { s with us:=Ab s.us n }
 else if Aa s.ca n then (if 0<s.tm n then { s with tm:=BZ s.tm n (s.tm n - 1) } else if Bi oc x then BL s n else s)
 else s
def BN(s:St)(oc a b n:Nat)(x:Rw):Bool:=AU s n && (Bi oc x && x.nd.all (fun m=>Aa (if m.2 then b else a) m.1.toNat))
def AI(k P:Nat)(s:St):St where
 lk:=s.lk &&& (pw k - 1)
 us:=s.us &&& (s.lk &&& (pw k - 1))
 ca:=s.ca &&& (s.lk &&& (pw k - 1))
 tm:=fun n=>if Aa (s.ca &&& (s.lk &&& (pw k - 1))) n then min (s.tm n) 20 else 0
 pt:=s.pt &&& (pw P - 1)
def AY(can:St→Nat→Nat→Rw→St)(T:Tb)(oc:Nat)(l:List (Nat × Int))(s:St):St:=l.foldl (fun s c=>Bo can T s oc c) s
def AV(T:Tb)(oc used:Nat)(s:St):Nat→St
 | 0=>s
 | k+1=>if Aa (AV T oc used s k).lk k then ((T.rw[k]?).map (BF (AV T oc used s k) oc used k)).getD (AV T oc used s k) else AV T oc used s k
def Be(T:Tb)(s:St)(oc a b:Nat):Nat→Nat
 | 0=>0
 | k+1=>if ((T.rw[k]?).map (BN s oc a b k)).getD false then Ab (Be T s oc a b k) k else Be T s oc a b k
def Bw(can:St→Nat→Nat→Rw→St)(T:Tb)(s:St)(oc:Nat)(l:List (Nat × Int)):St:=
 AV T oc (AI T.rw.length T.li.length s).us (AY can T oc (l.take 8) (AI T.rw.length T.li.length s)) T.rw.length
def El:=Bw Bp
def B5(n r:Nat):Nat:=n &&& (4294967295 - r)
def Bq(T:Tb)(t:St)(oc n r:Nat):Nat:=Be T t oc (B5 n r) (B5 r n) T.rw.length
structure Ln where
 fi:Int
 ah:Int
 tk:Sl Int
 nd:Sl (Int × Bool)
 cf:Sl Int
def Qh(x:Ln):List Value:=[.int .i64 x.fi,.int .i64 x.ah,x.tk.v,x.nd.v,x.cf.v]
def Ln.rw(x:Ln):Rw:=⟨x.fi,x.ah,x.tk.l,x.nd.l,x.cf.l⟩
structure JP(X:Nat→Prop)(w:World)(x:Ln):Prop where
 tk:En 1 AT X w x.tk
 nd:En 2 CX X w x.nd
 cf:En 1 AT X w x.cf
theorem JP.step{X:Nat→Prop}{w w':World}{x:Ln}(h:JP X w x)(k:WX X w w'):JP X w' x:=⟨h.tk.step k,h.nd.step k,h.cf.step k⟩
theorem JP.weak{X Y:Nat→Prop}{w:World}{x:Ln}(h:JP X w x)(hy:∀ b,b<w.heap.size→Y b→X b):JP Y w x:=⟨h.tk.weak hy,h.nd.weak hy,h.cf.weak hy⟩
structure Mc where
 ln:Sl Ln
 li:Sl Int
 se:Int
 pt:Nat
def Mc.tb(M:Mc):Tb:=⟨M.ln.l.map Ln.rw,M.li.l⟩
structure CN(X:Nat→Prop)(w:World)(m:Nat)(M:Mc):Prop where
 blk:w.heap[m]?=some (.cells #[M.ln.v,M.li.v,.int .i64 M.se,.int .u32 (M.pt:Int)] 93)
 off:¬ X m
 ln:En 5 Qh X w M.ln
 li:En 1 AT X w M.li
 lns:∀ x∈M.ln.l,JP X w x
theorem CN.step{X:Nat→Prop}{w w':World}{m:Nat}{M:Mc}(h:CN X w m M)(k:WX X w w'):CN X w' m M:=
 ⟨k.keep h.off h.blk,h.off,h.ln.step k,h.li.step k,fun x hx=>(h.lns x hx).step k⟩
theorem CN.weak{X Y:Nat→Prop}{w:World}{m:Nat}{M:Mc}(h:CN X w m M)(hy:∀ b,b<w.heap.size→Y b→X b):CN Y w m M:=
 ⟨h.blk,fun e=>h.off (hy m (Aj h.blk) e),h.ln.weak hy,h.li.weak hy,fun x hx=>(h.lns x hx).weak hy⟩
theorem T0{g:Nat}{w w':World}(h:Below g w w')(hs:w.heap.size≤w'.heap.size):WX (fun b=>g≤b) w w':=
 ⟨h.os,h.tape,h.output,hs,fun k _ hx=>h.block k (by omega)⟩
def C8(m:Nat)(s:St)(i:Do)(u:Nat):List Value:=
 .pointer (some ⟨m,0,none⟩) :: .int .u64 (s.lk:Int) :: .int .u64 (s.us:Int) :: .int .u64 (s.ca:Int) ::(CD s.tm ++ [.int .u32 (s.pt:Int),.int .u64 (i.oc:Int),.int .u32 (i.no:Int),.int .u32 (i.re:Int),i.cm,.int .u64 (u:Int)])
theorem F5(m:Nat)(s:St)(i:Do)(u:Nat):(C8 m s i u).toArray[0]?=some (.pointer (some ⟨m,0,none⟩)):=rfl
theorem Lg(m:Nat)(s:St)(i:Do)(u:Nat):(C8 m s i u).toArray[1]?=some (.int .u64 (s.lk:Int)):=rfl
theorem J3(m:Nat)(s:St)(i:Do)(u:Nat):(C8 m s i u).toArray[2]?=some (.int .u64 (s.us:Int)):=rfl
theorem J4(m:Nat)(s:St)(i:Do)(u:Nat):(C8 m s i u).toArray[3]?=some (.int .u64 (s.ca:Int)):=rfl
theorem K4(m:Nat)(s:St)(i:Do)(u:Nat){n:Nat}(h:n<64):(C8 m s i u).toArray[4+n]?=some (.int .u8 (s.tm n:Int)):=by
 rw[WG];unfold C8;rw[show 4+n=n+1+1+1+1 by omega,List.getElem?_cons_succ,List.getElem?_cons_succ,List.getElem?_cons_succ,List.getElem?_cons_succ,WV (by rw[BY];exact h),EL _ h]
theorem FP(m:Nat)(s:St)(i:Do)(u:Nat)(k:Nat)(hk:k<6):(C8 m s i u).toArray[68+k]?=[Value.int .u32 (s.pt:Int),.int .u64 (i.oc:Int),.int .u32 (i.no:Int),.int .u32 (i.re:Int),i.cm,.int .u64 (u:Int)][k]?:=by
 rw[WG];unfold C8;rw[show 68+k=(64+k)+1+1+1+1 by omega,List.getElem?_cons_succ,List.getElem?_cons_succ,List.getElem?_cons_succ,List.getElem?_cons_succ,WT (by rw[BY];omega),BY,Nat.add_sub_cancel_left]
theorem Q0(f:Nat→Nat)(n v:Nat):(CD f).set n (.int .u8 (v:Int))=CD (BZ f n v):=by
 apply List.ext_getElem?
 intro k;rw[List.getElem?_set];by_cases h:k<64
 ·by_cases e:n=k
  ·subst e;rw[if_pos rfl,if_pos (by rw[BY];exact h),EL _ h,Ug]
  ·rw[if_neg e,EL _ h,EL _ h,Q3 _ _ (fun e'=>e e'.symm)]
 ·rw[List.getElem?_eq_none (by rw[BY];omega),List.getElem?_eq_none (by rw[BY];omega)];split
  ·rw[if_neg (by rw[BY];omega)]
  ·rfl
theorem Tg(m:Nat)(s:St)(i:Do)(u x:Nat):(C8 m s i u).toArray.setIfInBounds 1 (.int .u64 (x:Int))=(C8 m { s with lk:=x } i u).toArray:=by rw[VW];rfl
theorem Th(m:Nat)(s:St)(i:Do)(u x:Nat):(C8 m s i u).toArray.setIfInBounds 2 (.int .u64 (x:Int))=(C8 m { s with us:=x } i u).toArray:=by rw[VW];rfl
theorem Ti(m:Nat)(s:St)(i:Do)(u x:Nat):(C8 m s i u).toArray.setIfInBounds 3 (.int .u64 (x:Int))=(C8 m { s with ca:=x } i u).toArray:=by rw[VW];rfl
theorem M8(m:Nat)(s:St)(i:Do)(u x:Nat){n:Nat}(h:n<64):(C8 m s i u).toArray.setIfInBounds (4+n) (.int .u8 (x:Int))=(C8 m { s with tm:=BZ s.tm n x } i u).toArray:=by
 rw[VW];unfold C8;rw[show 4+n=n+1+1+1+1 by omega,VV,VV,VV,VV,List.set_append,if_pos (by rw[BY];exact h),Q0]
theorem Oq(m:Nat)(s:St)(i:Do)(u x:Nat):(C8 m s i u).toArray.setIfInBounds 68 (.int .u32 (x:Int))=(C8 m { s with pt:=x } i u).toArray:=by
 rw[VW];unfold C8;rw[show 68=64+1+1+1+1 by omega,VV,VV,VV,VV,List.set_append,if_neg (by rw[BY];omega),BY];rfl
theorem Uz(m:Nat)(s:St)(i:Do)(u x:Nat):(C8 m s i u).toArray.setIfInBounds 73 (.int .u64 (x:Int))=(C8 m s i x).toArray:=by
 rw[VW];unfold C8;rw[show 73=69+1+1+1+1 by omega,VV,VV,VV,VV,List.set_append,if_neg (by rw[BY];omega),BY];rfl
structure Cy(w:World)(g m:Nat)(M:Mc)(s:St)(i:Do)(u:Nat):Prop where
 mach:CN (fun b=>g≤b) w m M
 tb:Dc M.tb
 blk:w.heap[g]?=some (.cells (C8 m s i u).toArray 102)
 sok:s.ok
 iok:i.ok
 uok:u<18446744073709551616
theorem Cy.below{w w':World}{g m:Nat}{M:Mc}{s:St}{i:Do}{u:Nat}(h:Cy w g m M s i u)(hb:Below w.heap.size w w'):Cy w' g m M s i u:=
 ⟨h.mach.step (WX.of_below hb),h.tb,A5 hb h.blk,h.sok,h.iok,h.uok⟩
theorem Cy.next{w w':World}{g m:Nat}{M:Mc}{s s':St}{i:Do}{u:Nat}(h:Cy w g m M s i u)(hb:Below g w w')(hs:w.heap.size≤w'.heap.size)(hg:w'.heap[g]?=some (.cells (C8 m s' i u).toArray 102))(ho:s'.ok):Cy w' g m M s' i u:=
 ⟨h.mach.step (T0 hb hs),h.tb,hg,ho,h.iok,h.uok⟩
theorem II{M:Mc}{n:Nat}{x:Ln}(h:M.ln.l[n]?=some x):M.tb.rw[n]?=some x.rw:=by unfold Mc.tb;rw[List.getElem?_map,h];rfl
theorem Ce(M:Mc):M.tb.rw.length=M.ln.l.length:=by unfold Mc.tb;rw[Ws]
theorem Kh{M:Mc}(h:Dc M.tb){n:Nat}{x:Ln}(hx:M.ln.l[n]?=some x):Ut M.ln.l.length M.li.l.length x.rw:=by
 have:=h.rw x.rw (Wf (II hx));rw[Ce] at this;exact this
end
section
def FL:St:=⟨0,0,0,fun _=>0,0⟩
structure Iv where
 oc:Nat
 no:Nat
 re:Nat
 a:Option Addr
 len:Nat
 cap:Nat
 cl:List (Nat × Int)
structure Sh where
 st:Bool
 p:Nat
 q:Nat
def Ay(T:Tb)(x:Iv)(s:St):St:=El T s x.oc x.cl
def BS(T:Tb)(x:Iv)(y:Sh)(s:St):Bool:=y.st || (Bq T (Ay T x s) x.oc x.no x.re == y.p && (Ay T x s).pt == y.q)
def C6(T:Tb)(x:Iv)(y:Sh)(s:St):List St:=(if y.st then [s] else []) ++ (if BS T x y s then [Ay T x s] else [])
def BV(T:Tb)(x:Iv)(y:Sh)(K:List St):List St:=K.flatMap (C6 T x y)
def AN(T:Tb)(X:List Iv)(Y:List Sh):Nat→List St
 | 0=>[FL]
 | i+1=>match X[i]?,Y[i]? with
   | some x,some y=>BV T x y (AN T X Y i)
   | _,_=>AN T X Y i
def AP(K M:List St):Prop:=∀ v:Value,v∈K.map BC↔v∈M.map BC
theorem AP.refl(K:List St):AP K K:=fun _=>Iff.rfl
theorem AP.trans{A B C:List St}(h:AP A B)(k:AP B C):AP A C:=fun v=>(h v).trans (k v)
theorem AP.nil{K M:List St}(h:AP K M):K=[]↔M=[]:=by
 constructor
 ·rintro rfl;cases M with
  | nil=>rfl
  | cons m M=>exact absurd ((h (BC m)).2 (by simp)) (by simp)
 ·rintro rfl;cases K with
  | nil=>rfl
  | cons m M=>exact absurd ((h (BC m)).1 (by simp)) (by simp)
theorem AP.symm{A B:List St}(h:AP A B):AP B A:=fun v=>(h v).symm
theorem GA(K:List St)(s:St):AP (Bs K s) (K ++ [s]):=by
 unfold Bs;split
 ·rename_i h
  obtain⟨t,ht,he⟩:=WF.1 h;have hv:=Ck.1 he;intro v;rw[List.map_append,WE];constructor
  ·exact .inl
  ·rintro(h | h)
   ·exact h
   ·rw[List.map_cons,List.map_nil,Wy] at h;rw[h,hv];exact List.mem_map.2 ⟨t,ht,rfl⟩
 ·exact AP.refl _
theorem IS(K:List St)(s:St):(Bs K s).length≤K.length+1:=by
 unfold Bs;split
 ·omega
 ·rw[Wh];exact Wc _
theorem JV{A B C D:List St}(h:AP A B)(k:AP C D):AP (A ++ C) (B ++ D):=by
 intro v;rw[List.map_append,List.map_append,WE,WE,h v,k v]
theorem Iu{A B:List St}(h:A.Perm B):AP A B:=fun _=>(h.map BC).mem_iff
theorem Pk{T:Tb}(hT:T.rw.length≤64){s t:St}(h:BC s=BC t)(oc:Nat)(l:List (Nat × Int)):El T s oc l=El T t oc l:=by
 have he:=Ck.2 h;unfold C4 at he;simp only[Wl,WH,Wm,List.mem_range] at he;obtain⟨h1,h2,h3,h4,h5⟩:=he;have ht:AI T.rw.length T.li.length s=AI T.rw.length T.li.length t:=by
  unfold AI;rw[h1,h2,h3,h5]
  congr 1
  funext n
  by_cases hn:n<64
  ·rw[h4 n hn]
  ·have hb:Aa (t.ca &&& (t.lk &&& (pw T.rw.length - 1))) n=false:=by
    rw[AZ,Nat.testBit_and,Nat.testBit_and,pw,Nat.testBit_two_pow_sub_one,Wg (by omega)];simp
   rw[hb];rfl
 show AV T oc (AI T.rw.length T.li.length s).us (AY Bp T oc (l.take 8) (AI T.rw.length T.li.length s)) T.rw.length=AV T oc (AI T.rw.length T.li.length t).us (AY Bp T oc (l.take 8) (AI T.rw.length T.li.length t)) T.rw.length;rw[ht]
theorem Ik{T:Tb}(hT:T.rw.length≤64)(x:Iv)(y:Sh){s t:St}(h:BC s=BC t):(C6 T x y s).map BC=(C6 T x y t).map BC:=by
 have hn:=Pk hT h x.oc x.cl;unfold C6 BS Ay;rw[hn,List.map_append,List.map_append]
 congr 1
 cases y.st with
 | false=>rfl
 | true=>
   show[BC s]=[BC t];rw[h]
theorem Kb{T:Tb}(x:Iv)(y:Sh)(K:List St)(v:Value):v∈(BV T x y K).map BC↔∃ s∈K,v∈(C6 T x y s).map BC:=by
 unfold BV;rw[List.map_flatMap,List.mem_flatMap]
theorem Ou{T:Tb}(hT:T.rw.length≤64)(x:Iv)(y:Sh){K M:List St}(h:AP K M):AP (BV T x y K) (BV T x y M):=by
 intro v;rw[Kb,Kb];constructor
 ·rintro⟨s,hs,hv⟩;obtain⟨t,ht,he⟩:=List.mem_map.1 ((h (BC s)).1 (List.mem_map.2 ⟨s,hs,rfl⟩));exact⟨t,ht,by rw[Ik hT x y he];exact hv⟩
 ·rintro⟨s,hs,hv⟩;obtain⟨t,ht,he⟩:=List.mem_map.1 ((h (BC s)).2 (List.mem_map.2 ⟨s,hs,rfl⟩));exact⟨t,ht,by rw[Ik hT x y he];exact hv⟩
theorem Ot{T:Tb}{x:Iv}{y:Sh}{D N:List St}(s:St)(h:AP N (BV T x y D)):AP (if BS T x y s then Bs (if y.st then Bs N s else N) (Ay T x s) else (if y.st then Bs N s else N)) (BV T x y (D ++ [s])):=by
 have e:BV T x y (D ++ [s])=BV T x y D ++ C6 T x y s:=by
  unfold BV;rw[WA];simp
 rw[e];unfold C6;have h1:AP (if y.st then Bs N s else N) (BV T x y D ++ (if y.st then [s] else [])):=by
  cases y.st with
  | false=>simpa using h
  | true=>exact(GA N s).trans (JV h (AP.refl _))
 rw[← Wx];cases BS T x y s with
 | false=>simpa using h1
 | true=>exact(GA _ _).trans (JV h1 (AP.refl _))
theorem Pb{T:Tb}{x:Iv}{y:Sh}{N:List St}{k:Nat}(s:St)(h:N.length≤2*k):(if BS T x y s then Bs (if y.st then Bs N s else N) (Ay T x s) else (if y.st then Bs N s else N)).length≤2*(k+1):=by
 have h1:(if y.st then Bs N s else N).length≤2*k+1:=by
  cases y.st with
  | false=>show N.length≤_;omega
  | true=>have:=IS N s;show(Bs N s).length≤_;omega
 split
 ·have:=IS (if y.st then Bs N s else N) (Ay T x s);omega
 ·omega
theorem Ed{T:Tb}{X:List Iv}{Y:List Sh}{i:Nat}{x:Iv}{y:Sh}(hx:X[i]?=some x)(hy:Y[i]?=some y):AN T X Y (i+1)=BV T x y (AN T X Y i):=by
 show(match X[i]?,Y[i]? with
  | some x,some y=>BV T x y (AN T X Y i)
  | _,_=>AN T X Y i)=_
 rw[hx,hy]
theorem QP(T:Tb)(x:Iv)(y:Sh):BV T x y []=[]:=rfl
theorem Lu{T:Tb}{X:List Iv}{Y:List Sh}{i:Nat}(h:AN T X Y (i+1)≠[]):AN T X Y i≠[]:=by
 intro h0;apply h;show(match X[i]?,Y[i]? with
  | some x,some y=>BV T x y (AN T X Y i)
  | _,_=>AN T X Y i)=_
 rw[h0];cases X[i]?<;>cases Y[i]?<;>rfl
theorem Kz{T:Tb}{X:List Iv}{Y:List Sh}{k:Nat}:∀ d,AN T X Y (k+d)≠[]→AN T X Y k≠[]
 | 0,h=>h
 | d+1,h=>Kz d (Lu h)
theorem He{T:Tb}{X:List Iv}{Y:List Sh}{k:Nat}:∀ i,i≤k→AN T (X.take k) (Y.take k) i=AN T X Y i
 | 0,_=>rfl
 | i+1,h=>by
   have h1:(X.take k)[i]?=X[i]?:=(by rw[List.getElem?_take,if_pos (by omega)]);have h2:(Y.take k)[i]?=Y[i]?:=(by rw[List.getElem?_take,if_pos (by omega)]);show(match (X.take k)[i]?,(Y.take k)[i]? with
    | some x,some y=>BV T x y (AN T (X.take k) (Y.take k) i)
    | _,_=>AN T (X.take k) (Y.take k) i)=_
   rw[h1,h2,He i (by omega)];rfl
theorem Hd{T:Tb}{X:List Iv}{Y:List Sh}(hs:∀ y∈Y,y.st=true):∀ i,AN T X Y i≠[]
 | 0=>by show[FL]≠[];simp
 | i+1=>by
   have ih:=Hd (T:=T) (X:=X) hs i;cases hx:X[i]? with
   | none=>
     show(match X[i]?,Y[i]? with
      | some x,some y=>BV T x y (AN T X Y i)
      | _,_=>AN T X Y i)≠[]
     rw[hx];exact ih
   | some x=>
     cases hy:Y[i]? with
     | none=>
       show(match X[i]?,Y[i]? with
        | some x,some y=>BV T x y (AN T X Y i)
        | _,_=>AN T X Y i)≠[]
       rw[hx,hy];exact ih
     | some y=>
       rw[Ed hx hy];intro h0;obtain⟨s,l,hl⟩:=List.exists_cons_of_ne_nil ih;rw[hl] at h0;unfold BV at h0;rw[WI,List.append_eq_nil_iff] at h0;have h1:=h0.1;unfold C6 at h1;rw[hs y (Wf hy)] at h1;simp at h1
end
end Go.Proofs.YtpohoannggdbjaaGreat
