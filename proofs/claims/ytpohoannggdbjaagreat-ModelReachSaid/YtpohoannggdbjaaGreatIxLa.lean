/- Ours: IxQ; IxLa. -/
import Derived.Test.YtpohoannggdbjaaGreatIxJ
import Derived.Test.YtpohoannggdbjaaGreatMA
set_option maxRecDepth 100000
set_option maxHeartbeats 200000000
namespace Go.Proofs.YtpohoannggdbjaaGreat
open Lib (hid)
open Go.RowKit
section
theorem Ae{P:Program}{C:World→Prop}{o:Oper}{a:Act}{K:Act→Prop}(ty:TypeId)(x:Operand)(ho:o.op = .load ty x)(vx v:Value)(hx:a.eval x=vx)(hr:∀ w,C w→(Instr.loadAt ty vx).run P w = .ok v w)(h:K (a.put o.dst v)):o.quiet P a C K:=
 ⟨v,fun w hw=>by unfold Oper.quietAt execOp;simp only[ho,hx,Sem.run_bind,hr w hw,Result.andThen_ok,Sem.run_pure];exact⟨rfl,rfl⟩,h⟩
theorem Gf{P:Program}{w:World}{F:Value→World→Prop}{r:Operand→Value}{o:Oper}(ty:TypeId)(x:Operand)(ho:o.op = .load ty x)(vx v:Value)(hx:r x=vx)(hr:(Instr.loadAt ty vx).run P w = .ok v w)(h:F v w):CF P w F ((execOp r o).run P w):=by
 unfold execOp;simp only[ho,hx,Sem.run_bind,hr,Result.andThen_ok,Sem.run_pure];exact⟨VU _ _,h⟩
end
section
theorem Fx{P:Program}{w:World}{F:Value→World→Prop}{r:Operand→Value}{o:Oper}(ty:TypeId)(parts:Array (Nat × Operand))(ho:o.op = .build ty parts)(vs:Array (Nat × Value))(hx:parts.map (fun p=>(p.1,r p.2))=vs)(cells:Array Value)(h:P.built ty vs.toList=some cells)(hF:F (.agg cells) w):CF P w F ((execOp r o).run P w):=by
 unfold execOp;simp only[ho];have hx2:(parts.map fun(x:Nat × Operand)=>match x with | (i,x)=>(i,r x))=vs:=hx;rw[hx2];simp only[Sem.run_bind,run_build w ty vs cells h,Result.andThen_ok,Sem.run_pure];exact⟨VU _ _,hF⟩
theorem ED{P:Program}{o:Oper}{a:Act}{w:World}(ty:TypeId)(x:Operand)(ho:o.op = .load ty x){vx v:Value}(hx:a.eval x=vx)(hr:(Instr.loadAt ty vx).run P w = .ok v w):(execOp a.eval o).run P w = .ok (.value v) w:=by
 unfold execOp;simp only[ho,hx,Sem.run_bind,hr,Result.andThen_ok,Sem.run_pure]
theorem CT{P:Program}{o:Oper}{a:Act}{w w':World}(ty:TypeId)(x y:Operand)(ho:o.op = .store ty x y){vx vy:Value}(hx:a.eval x=vx)(hy:a.eval y=vy)(hr:(Instr.storeAt ty vx vy).run P w = .ok () w'):(execOp a.eval o).run P w = .ok .skip w':=by
 unfold execOp;simp only[ho,hx,hy,Sem.run_bind,hr,Result.andThen_ok,Sem.run_pure]
theorem Db{P:Program}{o:Oper}{a:Act}{w w':World}{K:Act→World→Prop}{Q:Exit→Act→World→Prop}(hr:(execOp a.eval o).run P w = .ok .skip w')(h:K (a.put o.dst undef) w'):o.wp P a w K Q:=by
 unfold Oper.wp;rw[hr];exact h
theorem CG{P:Program}{ops:Array Oper}{rest:List Oper}{op:Oper}{a:Act}{w:World}{Q:Exit→Act→World→Prop}(hgd:op.guard=none)(ty:TypeId)(ho:op.op = .build ty #[])(cells:Array Value)
 (hr:P.built ty []=some cells) (h:wpList P ops Q rest (a.put op.dst (.agg cells)) w):wpList P ops Q (op :: rest) a w:=
 wpList_plain hgd fun K hK=>by
  unfold Oper.wp execOp;have hb:(Instr.build ty #[]).run P w = .ok (.agg cells) w:=run_build w ty #[] cells hr;simp only[ho,List.map_toArray,List.map_nil,Sem.run_bind,hb,Result.andThen_ok,Sem.run_pure];exact hK _ _ h
theorem E7:Tryz.prog.built 65 []=some (Af zS).toArray:=by kernel_rfl
theorem Oc(m:Nat)(s:St)(i:Do):Tryz.prog.built 102 [(0,.pointer (some ⟨m,0,none⟩)),(1,.agg (Af s).toArray),(2,.agg #[.int .u64 (i.oc:Int),.int .u32 (i.no:Int),.int .u32 (i.re:Int),i.cm])]=some (C8 m s i 0).toArray:=by
 unfold Af C8 CD;kernel_rfl
theorem Dv{P:Program}{fn:Func}{p q:Tmp}{ty tz:TypeId}(h:fn.results = #[.cell p ty,.cell q tz])(tmps:Array Value)(w:World)(g g':Nat)(t t':TypeId)(cs ds:Array Value)(fr fr':Nat × Nat)(d d':TypeDesc)
 (hp:tmps.getD p undef = .pointer (some ⟨g,0,none⟩)) (hg:w.heap[g]?=some (.cells cs t fr))
 (hu:P.underlying ty=some d) (hd:(match d with | .struct _ | .array _ _=>true | _=>false)=true) (hi:(P.info? ty).map (·.size)=some cs.size)
 (hp':tmps.getD q undef = .pointer (some ⟨g',0,none⟩)) (hg':w.heap[g']?=some (.cells ds t' fr'))
 (hu':P.underlying tz=some d') (hd':(match d' with | .struct _ | .array _ _=>true | _=>false)=true) (hi':(P.info? tz).map (·.size)=some ds.size) :
 (results fn tmps).run P w = .ok (.tuple #[.agg cs,.agg ds]) w:=by
 have h1:tmps[p]?.getD undef = .pointer (some ⟨g,0,none⟩):=by simpa using hp
 have h2:tmps[q]?.getD undef = .pointer (some ⟨g',0,none⟩):=by simpa using hp'
 simp[results,h,h1,h2,asAddr,run_loadVar_row w g t ty cs fr d hg hu hd hi,run_loadVar_row w g' t' tz ds fr' d' hg' hu' hd' hi']
theorem GR:(Tryz.prog.info? 44).map (·.size)=some 2:=by kernel_rfl
theorem Cy.putU{w:World}{g m:Nat}{M:Mc}{s:St}{i:Do}{u:Nat}(h:Cy w g m M s i u)(x:Nat)(hx:x<18446744073709551616) :
 Cy (w.setCell ⟨g,73,none⟩ (.int .u64 (x:Int))) g m M s i x∧Below g w (w.setCell ⟨g,73,none⟩ (.int .u64 (x:Int))):=by
 have hb:Below g w (w.setCell ⟨g,73,none⟩ (.int .u64 (x:Int))):=(VU g w).setCell (p:=⟨g,73,none⟩) (Wc _) _;have hz:=((Ai.refl g w).setCell (p:=⟨g,73,none⟩) rfl (.int .u64 (x:Int))).size;exact⟨⟨h.mach.step (T0 hb hz),h.tb,(AG h.blk 73 _).trans (congrArg (fun C=>some (Obj.cells C 102)) (Uz _ _ _ _ _)),h.sok,h.iok,hx⟩,hb⟩
theorem Cy.at_{w w':World}{g h m:Nat}{M:Mc}{s:St}{i:Do}{u:Nat}(hc:Cy w g m M s i u)(hw:WX (fun b=>b=h) w w')(hg:g<h):Cy w' g m M s i u:=
 ⟨hc.mach.step (hw.mono (fun b e=>by omega)),hc.tb,hw.keep (by omega) hc.blk,hc.sok,hc.iok,hc.uok⟩
theorem Lk{g k:Nat}{w w':World}{o:Obj}(h:Below g w w')(hk:k<g)(hq:w.heap[k]?=some o):w'.heap[k]?=some o:=(h.block k hk).trans hq
theorem LT{B g:Nat}{w w':World}(h:Below g w w')(hB:B≤g):Below B w w':=⟨h.os,h.tape,h.output,h.size,fun k hk=>h.block k (by omega)⟩
theorem UD(m:Nat)(s:St)(i:Do)(u:Nat):C8 m s i u = .pointer (some ⟨m,0,none⟩) ::(Af s ++ (VM i ++ [.int .u64 (u:Int)])):=by
 unfold C8 Af VM;simp
theorem Rh{w:World}{g m:Nat}{s:St}{i:Do}{u:Nat}{t:TypeId}{fr:Nat × Nat}(h:w.heap[g]?=some (.cells (C8 m s i u).toArray t fr)):(Instr.loadAt 65 (.pointer (some ⟨g,1,none⟩))).run Tryz.prog w = .ok (.agg (Af s).toArray) w:=by
 refine run_loadAt_mid w g 1 65 (Af s) _ (fun j v hv=>?_) Tryz.underlying65 rfl (by rw[AS];exact Bf);refine A4 h (1+j) v ?_;rw[WG,UD,Nat.add_comm,List.getElem?_cons_succ,WV (We.1 hv).1];exact hv
theorem WX.below'{g h:Nat}{w w':World}(k:WX (fun b=>b=h) w w')(hg:g<h)(hs:g≤w.heap.size):Below g w w':=⟨k.os,k.tape,k.output,k.size,fun i hi=>k.block i (by omega) (by omega)⟩
theorem BE{g k:Nat}{w w':World}{o:Obj}(h:Ai g w w')(hk:k≠g)(hb:w.heap[k]?=some o):w'.heap[k]?=some o:=h.keep hk hb
theorem Nc(can:St→Nat→Nat→Rw→St)(T:Tb)(oc:Nat)(l:List (Nat × Int))(s:St):AY can T oc (l.take 0) s=s:=rfl
theorem Ig{can:St→Nat→Nat→Rw→St}{T:Tb}{oc:Nat}{l:List (Nat × Int)}{k:Nat}{c:Nat × Int}(h:l[k]?=some c)(s:St):AY can T oc (l.take (k+1)) s=Bo can T (AY can T oc (l.take k) s) oc c:=by
 unfold AY;rw[Wp,h,List.foldl_append];rfl
theorem G0(T:Tb)(oc u:Nat)(s:St):AV T oc u s 0=s:=rfl
theorem Jz{T:Tb}{oc u:Nat}{s:St}{k:Nat}(h:Aa (AV T oc u s k).lk k=false):AV T oc u s (k+1)=AV T oc u s k:=by
 show(if Aa (AV T oc u s k).lk k then _ else _)=_;rw[h];rfl
theorem Hj{T:Tb}{oc u:Nat}{s:St}{k:Nat}{x:Rw}(h:Aa (AV T oc u s k).lk k=true)(hx:T.rw[k]?=some x):AV T oc u s (k+1)=BF (AV T oc u s k) oc u k x:=by
 show(if Aa (AV T oc u s k).lk k then _ else _)=_;rw[h,hx];rfl
theorem FY(T:Tb)(s:St)(oc a b:Nat):Be T s oc a b 0=0:=rfl
theorem Ju{T:Tb}{s:St}{oc a b k:Nat}{x:Rw}(hx:T.rw[k]?=some x)(h:BN s oc a b k x=false):Be T s oc a b (k+1)=Be T s oc a b k:=by
 show(if _ then _ else _)=_;rw[hx];show(if BN s oc a b k x then _ else _)=_;rw[h];rfl
theorem H7{T:Tb}{s:St}{oc a b k:Nat}{x:Rw}(hx:T.rw[k]?=some x)(h:BN s oc a b k x=true):Be T s oc a b (k+1)=Ab (Be T s oc a b k) k:=by
 show(if _ then _ else _)=_;rw[hx];show(if BN s oc a b k x then _ else _)=_;rw[h];rfl
theorem Ft(T:Tb)(s:St)(oc a b:Nat):∀ k,k≤64→Be T s oc a b k<18446744073709551616
 | 0,_=>by show(0:Nat)<_;omega
 | k+1,hk=>by
   have ih:=Ft T s oc a b k (by omega);show(if _ then _ else _)<_;split
   ·exact Cf _ _ (by omega) ih
   ·exact ih
theorem RL(T:Tb)(s:St)(oc:Nat)(l:List (Nat × Int)):El T s oc l=AV T oc (AI T.rw.length T.li.length s).us (AY Bp T oc (l.take 8) (AI T.rw.length T.li.length s)) T.rw.length:=rfl
theorem Lq(T:Tb)(t:St)(oc n r:Nat):Bq T t oc n r=Be T t oc (B5 n r) (B5 r n) T.rw.length:=rfl
end
end Go.Proofs.YtpohoannggdbjaaGreat
