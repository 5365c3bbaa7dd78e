/- Ours: IxLa; IxL. -/
import Derived.Test.YtpohoannggdbjaaGreatIxQ
import Derived.Test.YtpohoannggdbjaaGreatMA
namespace Go.Proofs.YtpohoannggdbjaaGreat
open Lib (hid)
open Go.RowKit
set_option maxRecDepth 100000
theorem EG{P:Program}{w:World}{F:Value→World→Prop}{r:Operand→Value}{o:Oper}(ty:TypeId)(parts:Array (Nat × Operand))(ho:o.op = .build ty parts)(vs:Array (Nat × Value))(hx:parts.map (fun p=>(p.1,r p.2))=vs)(cells:Array Value)(h:P.built ty vs.toList=some cells)(hF:F (.agg cells) w):Cj P w F ((execOp r o).run P w):=by
 unfold execOp;simp only[ho];have hx2:(parts.map fun(x:Nat × Operand)=>match x with | (i,x)=>(i,r x))=vs:=hx;rw[hx2];simp only[Sem.run_bind,run_build w ty vs cells h,Result.andThen_ok,Sem.run_pure];exact⟨Below.refl _ _,hF⟩
theorem DT{P:Program}{o:Oper}{a:Act}{w:World}(ty:TypeId)(x:Operand)(ho:o.op = .load ty x){vx v:Value}(hx:a.eval x=vx)(hr:(Instr.loadAt ty vx).run P w = .ok v w):(execOp a.eval o).run P w = .ok (.value v) w:=by
 unfold execOp;simp only[ho,hx,Sem.run_bind,hr,Result.andThen_ok,Sem.run_pure]
theorem Cu{P:Program}{o:Oper}{a:Act}{w w':World}(ty:TypeId)(x y:Operand)(ho:o.op = .store ty x y){vx vy:Value}(hx:a.eval x=vx)(hy:a.eval y=vy)(hr:(Instr.storeAt ty vx vy).run P w = .ok () w'):(execOp a.eval o).run P w = .ok .skip w':=by
 unfold execOp;simp only[ho,hx,hy,Sem.run_bind,hr,Result.andThen_ok,Sem.run_pure]
theorem CG{P:Program}{o:Oper}{a:Act}{w w':World}{K:Act→World→Prop}{Q:Exit→Act→World→Prop}(hr:(execOp a.eval o).run P w = .ok .skip w')(h:K (a.put o.dst undef) w'):o.wp P a w K Q:=by
 unfold Oper.wp;rw[hr];exact h
theorem DM{P:Program}{ops:Array Oper}{rest:List Oper}{op:Oper}{a:Act}{w:World}{Q:Exit→Act→World→Prop}(hgd:op.guard=none)(ty:TypeId)(ho:op.op = .build ty #[])(cells:Array Value)
 (hr:P.built ty []=some cells) (h:wpList P ops Q rest (a.put op.dst (.agg cells)) w):wpList P ops Q (op :: rest) a w:=
 wpList_plain hgd fun K hK=>by
  unfold Oper.wp execOp;have hb:(Instr.build ty #[]).run P w = .ok (.agg cells) w:=run_build w ty #[] cells hr;simp only[ho,List.map_toArray,List.map_nil,Sem.run_bind,hb,Result.andThen_ok,Sem.run_pure];exact hK _ _ h
theorem FZ:Tryz.prog.built 65 []=some (Ai zS).toArray:=by kernel_rfl
theorem LT(m:Nat)(s:St)(i:CZ):Tryz.prog.built 102 [(0,.pointer (some ⟨m,0,none⟩)),(1,.agg (Ai s).toArray),(2,.agg #[.int .u64 (i.oc:Int),.int .u32 (i.no:Int),.int .u32 (i.re:Int),i.cm])]=some (C4 m s i 0).toArray:=by
 unfold Ai C4 Cs;kernel_rfl
theorem D2{P:Program}{fn:Func}{p q:Tmp}{ty tz:TypeId}(h:fn.results = #[.cell p ty,.cell q tz])(tmps:Array Value)(w:World)(g g':Nat)(t t':TypeId)(cs ds:Array Value)(fr fr':Nat × Nat)(d d':TypeDesc)
 (hp:tmps.getD p undef = .pointer (some ⟨g,0,none⟩)) (hg:w.heap[g]?=some (.cells cs t fr))
 (hu:P.underlying ty=some d) (hd:(match d with | .struct _ | .array _ _=>true | _=>false)=true) (hi:(P.info? ty).map (·.size)=some cs.size)
 (hp':tmps.getD q undef = .pointer (some ⟨g',0,none⟩)) (hg':w.heap[g']?=some (.cells ds t' fr'))
 (hu':P.underlying tz=some d') (hd':(match d' with | .struct _ | .array _ _=>true | _=>false)=true) (hi':(P.info? tz).map (·.size)=some ds.size) :
 (results fn tmps).run P w = .ok (.tuple #[.agg cs,.agg ds]) w:=by
 have h1:tmps[p]?.getD undef = .pointer (some ⟨g,0,none⟩):=by simpa using hp
 have h2:tmps[q]?.getD undef = .pointer (some ⟨g',0,none⟩):=by simpa using hp'
 simp[results,h,h1,h2,asAddr,run_loadVar_row w g t ty cs fr d hg hu hd hi,run_loadVar_row w g' t' tz ds fr' d' hg' hu' hd' hi']
theorem Fz:(Tryz.prog.info? 44).map (·.size)=some 2:=by kernel_rfl
theorem Cy.putU{w:World}{g m:Nat}{M:Mc}{s:St}{i:CZ}{u:Nat}(h:Cy w g m M s i u)(x:Nat)(hx:x<18446744073709551616) :
 Cy (w.setCell ⟨g,73,none⟩ (.int .u64 (x:Int))) g m M s i x∧Below g w (w.setCell ⟨g,73,none⟩ (.int .u64 (x:Int))):=by
 have hb:Below g w (w.setCell ⟨g,73,none⟩ (.int .u64 (x:Int))):=(Below.refl g w).setCell (p:=⟨g,73,none⟩) (Nat.le_refl _) _;have hz:=((Ag.refl g w).setCell (p:=⟨g,73,none⟩) rfl (.int .u64 (x:Int))).size;exact⟨⟨h.mach.step (Py hb hz),h.tb,(AH h.blk 73 _).trans (congrArg (fun C=>some (Obj.cells C 102)) (RN _ _ _ _ _)),h.sok,h.iok,hx⟩,hb⟩
theorem Cy.at_{w w':World}{g h m:Nat}{M:Mc}{s:St}{i:CZ}{u:Nat}(hc:Cy w g m M s i u)(hw:WX (fun b=>b=h) w w')(hg:g<h):Cy w' g m M s i u:=
 ⟨hc.mach.step (hw.mono (fun b e=>by omega)),hc.tb,hw.keep (by omega) hc.blk,hc.sok,hc.iok,hc.uok⟩
theorem JF{g k:Nat}{w w':World}{o:Obj}(h:Below g w w')(hk:k<g)(hq:w.heap[k]?=some o):w'.heap[k]?=some o:=(h.block k hk).trans hq
theorem Kc{B g:Nat}{w w':World}(h:Below g w w')(hB:B≤g):Below B w w':=⟨h.os,h.tape,h.output,h.size,fun k hk=>h.block k (by omega)⟩
theorem RM(m:Nat)(s:St)(i:CZ)(u:Nat):C4 m s i u = .pointer (some ⟨m,0,none⟩) ::(Ai s ++ (Sf i ++ [.int .u64 (u:Int)])):=by
 unfold C4 Ai Sf;simp
theorem NU{w:World}{g m:Nat}{s:St}{i:CZ}{u:Nat}{t:TypeId}{fr:Nat × Nat}(h:w.heap[g]?=some (.cells (C4 m s i u).toArray t fr)):(Instr.loadAt 65 (.pointer (some ⟨g,1,none⟩))).run Tryz.prog w = .ok (.agg (Ai s).toArray) w:=by
 refine run_loadAt_mid w g 1 65 (Ai s) _ (fun j v hv=>?_) Tryz.underlying65 rfl (by rw[AU];exact Bd);refine A4 h (1+j) v ?_;rw[List.getElem?_toArray,RM,Nat.add_comm,List.getElem?_cons_succ,List.getElem?_append_left (List.getElem?_eq_some_iff.1 hv).1];exact hv
theorem WX.below'{g h:Nat}{w w':World}(k:WX (fun b=>b=h) w w')(hg:g<h)(hs:g≤w.heap.size):Below g w w':=⟨k.os,k.tape,k.output,k.size,fun i hi=>k.block i (by omega) (by omega)⟩
theorem Br{g k:Nat}{w w':World}{o:Obj}(h:Ag g w w')(hk:k≠g)(hb:w.heap[k]?=some o):w'.heap[k]?=some o:=h.keep hk hb
theorem Lj(can:St→Nat→Nat→Rw→St)(T:Tb)(oc:Nat)(l:List (Nat × Int))(s:St):AS can T oc (l.take 0) s=s:=rfl
theorem H8{can:St→Nat→Nat→Rw→St}{T:Tb}{oc:Nat}{l:List (Nat × Int)}{k:Nat}{c:Nat × Int}(h:l[k]?=some c)(s:St):AS can T oc (l.take (k+1)) s=Bj can T (AS can T oc (l.take k) s) oc c:=by
 unfold AS;rw[List.take_add_one,h,List.foldl_append];rfl
theorem F4(T:Tb)(oc u:Nat)(s:St):AR T oc u s 0=s:=rfl
theorem Hj{T:Tb}{oc u:Nat}{s:St}{k:Nat}(h:Aa (AR T oc u s k).lk k=false):AR T oc u s (k+1)=AR T oc u s k:=by
 show(if Aa (AR T oc u s k).lk k then _ else _)=_;rw[h];rfl
theorem FE{T:Tb}{oc u:Nat}{s:St}{k:Nat}{x:Rw}(h:Aa (AR T oc u s k).lk k=true)(hx:T.rw[k]?=some x):AR T oc u s (k+1)=BC (AR T oc u s k) oc u k x:=by
 show(if Aa (AR T oc u s k).lk k then _ else _)=_;rw[h,hx];rfl
theorem EZ(T:Tb)(s:St)(oc a b:Nat):Bc T s oc a b 0=0:=rfl
theorem I9{T:Tb}{s:St}{oc a b k:Nat}{x:Rw}(hx:T.rw[k]?=some x)(h:BM s oc a b k x=false):Bc T s oc a b (k+1)=Bc T s oc a b k:=by
 show(if _ then _ else _)=_;rw[hx];show(if BM s oc a b k x then _ else _)=_;rw[h];rfl
theorem G4{T:Tb}{s:St}{oc a b k:Nat}{x:Rw}(hx:T.rw[k]?=some x)(h:BM s oc a b k x=true):Bc T s oc a b (k+1)=Ab (Bc T s oc a b k) k:=by
 show(if _ then _ else _)=_;rw[hx];show(if BM s oc a b k x then _ else _)=_;rw[h];rfl
theorem Fv(T:Tb)(s:St)(oc a b:Nat):∀ k,k≤64→Bc T s oc a b k<18446744073709551616
 | 0,_=>by show(0:Nat)<_;omega
 | k+1,hk=>by
   have ih:=Fv T s oc a b k (by omega);show(if _ then _ else _)<_;split
   ·exact BW _ _ (by omega) ih
   ·exact ih
theorem Oi(T:Tb)(s:St)(oc:Nat)(l:List (Nat × Int)):DN T s oc l=AR T oc (AD T.rw.length T.li.length s).us (AS Bk T oc (l.take 8) (AD T.rw.length T.li.length s)) T.rw.length:=rfl
theorem JS(T:Tb)(t:St)(oc n r:Nat):Bq T t oc n r=Bc T t oc (AW n r) (AW r n) T.rw.length:=rfl
end Go.Proofs.YtpohoannggdbjaaGreat
namespace Go.Proofs.YtpohoannggdbjaaGreat
open Lib (hid)
open Go.RowKit
set_option maxRecDepth 100000
attribute [local irreducible] Sl.v Aa pw Ab Ax C4 Ai BG Cs Bi Bf B7 Cr BO AT Bk Bw BD Bh Bg BQ Bj BI BC BM AD AS AR Bc BB Bq CT Mc.tb BU AQ Aq AW
set_option maxHeartbeats 16000000 in
theorem Od(X:Nat→Prop)(m:Nat)(M:Mc)(s:St)(i:CZ)(ca:Option Addr)(cn cc:Nat)(l:List (Nat × Int))(w:World)(hM:Cv X w m M)(hX:∀ b,w.heap.size≤b→X b)(hT:Db M.tb)(hp:M.pt=pw M.li.l.length - 1)(hs:s.ok)(hi:i.ok)(hcm:i.cm = .slice ca cn cc)(hl:CB w ca l)(hln:l.length=cn)(hcc:cn≤cc)(hcn:cn≤100000) :
 Calls Tryz.prog 19 #[.pointer (some ⟨m,0,none⟩),.agg (Ai s).toArray,.agg #[.int .u64 (i.oc:Int),.int .u32 (i.no:Int),.int .u32 (i.re:Int),.slice ca cn cc]] w fun e w'=>e = .returned (.tuple #[.agg (Ai (DN M.tb s i.oc l)).toArray,.agg #[.int .u64 (Bq M.tb (DN M.tb s i.oc l) i.oc i.no i.re:Int),.int .u32 ((DN M.tb s i.oc l).pt:Int)]])∧Below w.heap.size w w':=by
 obtain⟨N1,hN1⟩:∃ k,M.ln.l.length=k:=⟨_,rfl⟩;have hle:N1≤64:=by have:=hT.rn;rw[BV,hN1] at this;exact this
 have hpn:=hT.pn;rw[DL] at hpn;obtain⟨TS,hTS⟩:∃ t,AD N1 M.li.l.length s=t:=⟨_,rfl⟩;have HTD:Hid (∀ V,Below w.heap.size w V→Calls Tryz.prog 32 #[.pointer (some ⟨m,0,none⟩),.agg (Ai s).toArray] V fun e w'=>e = .returned (.agg (Ai TS).toArray)∧Below V.heap.size V w'):=hid (fun V hV=>hTS ▸ NN X m M s N1 M.li.l.length V (hM.step (WX.of_below hV)) hN1 hle hp hpn hs);have HTSO:Hid TS.ok:=hid (hTS ▸ Fn N1 M.li.l.length hs);have HTSE:Hid (AD M.tb.rw.length M.tb.li.length s=TS):=hid (by rw[BV,DL,hN1];exact hTS);have HM:=hid hM;have HXX:=hid hX;have HTB:=hid hT;have HIO:=hid hi;have HCM:=hid hcm;have HL:=hid hl;have HLN:=hid hln;have HCC:=hid hcc;have HCN:=hid hcn;have HN1:=hid hN1;have HLE:=hid hle;clear hN1 hle hpn hTS hM hX hT hp hs hi hcm hl hln hcc hcn;go_enter Tryz.func19,Tryz.ntmps19;go_upto_region 3 with fail
 rw[BF];refine Ap (os:=[.cells (Ai s).toArray 65,.cells #[.int .u64 (i.oc:Int),.int .u32 (i.no:Int),.int .u32 (i.re:Int),.slice ca cn cc] 35,.cells (Ai zS).toArray 65,.cells #[.int .u64 0,.int .u32 0] 44]) (w0:=w) rfl ?_;intro W hat hbw;obtain⟨g4,hg4⟩:∃ g,g=w.heap.size:=⟨_,rfl⟩;obtain⟨g5,hg5⟩:∃ g,g=g4+1:=⟨_,rfl⟩;obtain⟨g6,hg6⟩:∃ g,g=g5+1:=⟨_,rfl⟩;obtain⟨g7,hg7⟩:∃ g,g=g6+1:=⟨_,rfl⟩;have q0:=hat 0 _ rfl;have q1:=hat 1 _ rfl;have q2:=hat 2 _ rfl;have q3:=hat 3 _ rfl;rw[Nat.add_zero,← hg4] at q0;rw[← hg4,← hg5] at q1;rw[← hg4,show g4+2=g6 by omega] at q2;rw[← hg4,show g4+3=g7 by omega] at q3;rw[← hg4,← hg5,← hg6,← hg7];have HQ4:=hid q0;have HQ5:=hid q1;have HQ6:=hid q2;have HQ7:=hid q3;have HBW:=hid hbw;have HG:Hid (w.heap.size≤g6∧w.heap.size≤g7∧g6≠g7):=hid (by omega);clear hat hbw q0 q1 q2 q3 hg4 hg5 hg6 hg7;have HTD2:Hid (∀ V,Below W.heap.size W V→Calls Tryz.prog 32 #[.pointer (some ⟨m,0,none⟩),.agg (Ai s).toArray] V fun e w'=>e = .returned (.agg (Ai TS).toArray)∧Below V.heap.size V w'):=hid (fun V hV=>HTD.out V (A8 HBW.out hV));clear HTD;have HTD:=HTD2;clear HTD2;refine Ah (by kernel_rfl) [7] 10 [0,1,2,3,4,5,6] [18,19,20,21,22,23,24] #[true,true,true,true,true,true,true,false] 1 [(fun v _=>v = .pointer (some ⟨m,0,none⟩)),(fun v _=>v = .pointer (some ⟨m,0,none⟩)),(fun v _=>v = .agg (Ai s).toArray),(fun v _=>v = .agg (Ai TS).toArray),(fun v _=>v = .agg #[.int .u64 (i.oc:Int),.int .u32 (i.no:Int),.int .u32 (i.re:Int),.slice ca cn cc]),(fun v _=>v = .agg (C4 m TS i 0).toArray),(fun v V=>∃ g,v = .pointer (some ⟨g,0,none⟩)∧V.heap[g]?=some (.cells (C4 m TS i 0).toArray 102)∧W.heap.size≤g),(fun _ _=>True)] (by kernel_rfl) (by kernel_rfl) (by kernel_rfl) (by kernel_rfl) (by kernel_rfl) rfl (by kernel_rfl) rfl ?_ ?_ ?_
 ·exact⟨A7 _,A7 _,A7 _,A7 _,A7 _,A7 _,(fun v W W2 h hb=>by obtain⟨g,h1,h2,h3⟩:=h;exact⟨g,h1,A5 hb h2,h3⟩),Al,trivial⟩
 ·refine⟨?_,?_,?_,?_,?_,?_,?_,trivial⟩
  ·refine A6 (o:=⟨some 18,_,_,_,_,_⟩) rfl (fun r V hc hf hg hs hb hd=>?_);have x0:r (.tmp 0) = .pointer (some ⟨m,0,none⟩):=hs 0 (by kernel_rfl);clear hs hd hg;go_simp;exact⟨Below.refl _ _,rfl⟩
  ·refine A6 (o:=⟨some 19,_,_,_,_,_⟩) rfl (fun r V hc hf hg hs hb hd=>?_);have x0:r (.tmp 0) = .pointer (some ⟨m,0,none⟩):=hs 0 (by kernel_rfl);clear hs hd hg;go_simp;exact⟨Below.refl _ _,rfl⟩
  ·refine A6 (o:=⟨some 20,_,_,_,_,_⟩) rfl (fun r V hc hf hg hs hb hd=>?_);have x4:r (.tmp 4) = .pointer (some ⟨g4,0,none⟩):=hs 4 (by kernel_rfl);clear hs hd hg;exact Fh (o:=⟨some 20,_,_,_,_,_⟩) 65 _ rfl _ _ x4 (Az (A5 hb HQ4.out)) rfl
  ·refine A6 (o:=⟨some 21,_,_,_,_,_⟩) rfl (fun r V hc hf hg hs hb hd=>?_);have h1:r (.tmp 19) = .pointer (some ⟨m,0,none⟩):=hd 1 19 rfl (by kernel_rfl);have h2:r (.tmp 20) = .agg (Ai s).toArray:=hd 2 20 rfl (by kernel_rfl);clear hs hd hg;go_simp;refine(HTD.out V hb).mono ?_;rintro e w' ⟨rfl,h9⟩;exact⟨_,rfl,h9,rfl⟩
  ·refine A6 (o:=⟨some 22,_,_,_,_,_⟩) rfl (fun r V hc hf hg hs hb hd=>?_);have x5:r (.tmp 5) = .pointer (some ⟨g5,0,none⟩):=hs 5 (by kernel_rfl);clear hs hd hg;have l0:=A4 (A5 hb HQ5.out) 0 _ rfl;have l1:=A4 (A5 hb HQ5.out) 1 _ rfl;have l2:=A4 (A5 hb HQ5.out) 2 _ rfl;have l3:=A4 (A5 hb HQ5.out) 3 _ rfl;go_simp;exact⟨Below.refl _ _,rfl⟩
  ·refine A6 (o:=⟨some 23,_,_,_,_,_⟩) rfl (fun r V hc hf hg hs hb hd=>?_);have h0:r (.tmp 18) = .pointer (some ⟨m,0,none⟩):=hd 0 18 rfl (by kernel_rfl);have h3:r (.tmp 21) = .agg (Ai TS).toArray:=hd 3 21 rfl (by kernel_rfl);have h4:r (.tmp 22) = .agg #[.int .u64 (i.oc:Int),.int .u32 (i.no:Int),.int .u32 (i.re:Int),.slice ca cn cc]:=hd 4 22 rfl (by kernel_rfl);clear hs hd hg;refine EG (o:=⟨some 23,_,_,_,_,_⟩) 102 _ rfl _ ?_ _ (LT m TS i) rfl;rw[HCM.out];simp only[List.map_toArray,List.map_cons,List.map_nil,h0,h3,h4]
  ·refine A6 (o:=⟨some 24,_,_,_,_,_⟩) rfl (fun r V hc hf hg hs hb hd=>?_);have h5:r (.tmp 23) = .agg (C4 m TS i 0).toArray:=hd 5 23 rfl (by kernel_rfl);clear hs hd hg;go_simp;exact⟨Ac V _,⟨_,rfl,Ao V _ (Below.refl _ _),hb.size⟩⟩
 ·intro a V hb hx;have h0:a.eval (.tmp 18) = .pointer (some ⟨m,0,none⟩):=hx 0 18 rfl rfl;have h1:a.eval (.tmp 19) = .pointer (some ⟨m,0,none⟩):=hx 1 19 rfl rfl;have h2:a.eval (.tmp 20) = .agg (Ai s).toArray:=hx 2 20 rfl rfl;have h3:a.eval (.tmp 21) = .agg (Ai TS).toArray:=hx 3 21 rfl rfl;have h4:a.eval (.tmp 22) = .agg #[.int .u64 (i.oc:Int),.int .u32 (i.no:Int),.int .u32 (i.re:Int),.slice ca cn cc]:=hx 4 22 rfl rfl;have h5:a.eval (.tmp 23) = .agg (C4 m TS i 0).toArray:=hx 5 23 rfl rfl;have h6:(fun v V=>∃ g,v = .pointer (some ⟨g,0,none⟩)∧V.heap[g]?=some (.cells (C4 m TS i 0).toArray 102)∧W.heap.size≤g) (a.eval (.tmp 24)) V:=hx 6 24 rfl rfl;obtain⟨v24,e24⟩:∃ v,a.eval (.tmp 24)=v:=⟨_,rfl⟩;rw[e24] at h6;unfold AA;simp only[List.foldl_cons,List.foldl_nil,h0,h1,h2,h3,h4,h5,e24,Act.put,List.setIfInBounds_toArray,List.set_cons_zero,List.set_cons_succ];clear h0 h1 h2 h3 h4 h5 e24 hx;obtain⟨g,rfl,hqc,hgc⟩:=h6;have hc0:Cy V g m M TS i 0:=⟨(HM.out.step (WX.of_below (X:=X) (A8 HBW.out hb))).weak (fun b hb1 hb2=>HXX.out b (by have:=HG.out;have h2:=HBW.out.size;have h3:=hb.size;omega)),HTB.out,hqc,HTSO.out,HIO.out,by decide⟩;have HC0:=hid hc0;have HBA:=hid (A8 HBW.out hb);have HGC:Hid (g6<g∧g7<g∧g5<g∧w.heap.size≤g∧g<V.heap.size):=hid (by have h1:=Af HQ5.out;have h2:=Af HQ6.out;have h3:=Af HQ7.out;have h4:=HBW.out.size;have h5:=Af hqc;omega);have HQ6V:=hid (A5 hb HQ6.out);have HQ7V:=hid (A5 hb HQ7.out);have HQ5V:=hid (A5 hb HQ5.out);clear hb hqc hgc hc0;refine wpAny_ready (rs:=[7]) (by kernel_rfl) (by simp) (AllReady.cons (o:=⟨some 8,_,_,_,_,_⟩) rfl (fun K hK=>?_) AllReady.nil);go_simp;refine hK _ _ ?_;clear hK K;refine wpAny_done (by kernel_rfl) ?_ _;obtain⟨VA,hVA⟩:∃ W',W'=V:=⟨_,rfl⟩;rw[← hVA] at HC0 HBA HGC HQ6V HQ7V HQ5V ⊢;clear hVA;have c2:=A4 HC0.out.blk 2 _ (Hy _ _ _ _);have c0:=A4 HC0.out.blk 73 _ (Pw _ _ _ _);have f0:=An HC0.out.blk 73;have hl:=Af HC0.out.blk;go_upto_region 5 with fail
  clear c0 c2 f0 hl;refine BP ?_;intro VZ hVZ;have hput:=HC0.out.putU TS.us HTSO.out.us;rw[← hVZ] at hput;have HCZ:=hid hput.1;have HBZ:=hid hput.2;clear hVZ hput;obtain⟨K8,hK8⟩:∃ k,min cn 8=k:=⟨_,rfl⟩;have e8:min (cn:Int) 8=(K8:Int):=by omega
  have d8:(0:Int)≤K8:=by omega
  have d9:(K8:Int)≤cc:=by have:=HCC.out;omega
  have HK8:Hid ((l.take 8).length=K8∧K8≤8∧K8≤cn):=hid ⟨by rw[List.length_take,HLN.out];omega,by omega,by omega⟩;have l3:=A4 (JF HBZ.out HGC.out.2.2.1 HQ5V.out) 3 _ rfl;clear hK8;go_upto_region 6 with fail
  clear l3 e8 d8 d9;go_loopg [41] K8 (fun g9 v wr=>∃ k:Nat,k+g9=K8∧v = .int .i64 (k:Int)∧Cy wr g m M (AS Bk M.tb i.oc ((l.take 8).take k) TS) i TS.us∧Below g VA wr)
  case atStart=>exact⟨0,by omega,rfl,by rw[Lj];exact HCZ.out,HBZ.out⟩
  case round=>
   obtain⟨k,hk,rfl,hcy,hbw⟩:=hrel;have HK:=hid hk;have HB:=hid hbw;have HCR:=hid hcy;clear hk hbw hcy HCZ HBZ;by_cases hlt:k<K8
   ·have d1:(0:Int)≤k:=by omega
    have d2:(k:Int)<K8:=by omega
    have e1:wrap64 ((k:Int)+1)=(k:Int)+1:=Bp hlt (Nat.le_trans HK8.out.2.1 (by decide));have HLT:=hid hlt;obtain⟨S,hS⟩:∃ S,AS Bk M.tb i.oc ((l.take 8).take k) TS=S:=⟨_,rfl⟩;have HS:=hid hS;rw[hS] at HCR;obtain⟨rb,off,kd,nn,hca,hget,hkd,_,hz0,hz1⟩:=HL.out.at (i:=k) (by rw[HLN.out];have:=HK8.out.2.2;omega);have HGET:Hid ((l.take 8)[k]?=some (kd,nn)):=hid (by rw[List.getElem?_take,if_pos (by have:=HK8.out.2.1;omega)];exact hget);have HKD:Hid (kd≤255):=hid (by omega);have hbw:=Ar HBA.out (Kc HB.out HGC.out.2.2.2.1);have z0:=cell_later hbw hz0;have z1:=cell_later hbw hz1;have HCA:=hid hca;rw[hca];clear hS hget hkd hz0 hz1 hbw hlt hca;go_upto_region 8 with fail
    have hbn:=Ac wr (.cells #[.int .u8 (kd:Int),.int .i64 nn] 31);have hqn:=Ao wr (.cells #[.int .u8 (kd:Int),.int .i64 nn] 31) (Below.refl _ _);obtain⟨VN,hVN⟩:∃ V,V=wr.alloc (.cells #[.int .u8 (kd:Int),.int .i64 nn] 31):=⟨_,rfl⟩;rw[← hVN] at hbn hqn ⊢;obtain⟨gx,hgx⟩:∃ g,g=wr.heap.size:=⟨_,rfl⟩;rw[← hgx] at hqn ⊢;have HCN:=hid (HCR.out.below hbn);have HBN:=hid (Ar HB.out (AI hbn HCR.out.gle));have c0:=A4 hqn 0 _ rfl;have c1:=A4 hqn 1 _ rfl;clear hbn hqn hVN hgx z0 z1;go_wp2_with fail;refine(JA g m TS.us M S i VN HCN.out kd HKD.out nn).mono ?_;rintro e w5 ⟨rfl,hc,hb⟩;have HC5:=hid hc;have HB5:=hid (Ar HBN.out hb);clear hc hb c0 c1;go_wp2_with fail;rw[← HCA.out];go_roundg (K8 - (k+1))
    case rel=>exact⟨k+1,AK HK.out HLT.out,by go_num,by rw[H8 HGET.out,HS.out];exact HC5.out,HB5.out⟩
    case measure=>exact AL HK.out HLT.out
   ·have d2:¬ (k:Int)<K8:=by omega
    obtain⟨S1,hS1⟩:∃ S,AS Bk M.tb i.oc (l.take 8) TS=S:=⟨_,rfl⟩;have HS1:=hid hS1;have HC1:Hid (Cy wr g m M S1 i TS.us):=hid (by rw[← hS1];have h:=HCR.out;rw[List.take_of_length_le (by have:=HK.out;have:=HK8.out.1;omega)] at h;exact h);obtain⟨VB,hVB⟩:∃ W',W'=wr:=⟨_,rfl⟩;rw[← hVB] at HC1 HB ⊢;have cm0:=A4 HC1.out.mach.blk 0 _ rfl;rw[Ak HN1.out] at cm0;clear hlt hS1 HCR hVB;go_upto_region 11 with fail
    clear cm0 d2;go_loopg [54] N1 (fun g9 v wr=>∃ k:Nat,k+g9=N1∧v = .int .i64 (k:Int)∧Cy wr g m M (AR M.tb i.oc TS.us S1 k) i TS.us∧Below g VA wr)
    case atStart=>exact⟨0,by omega,rfl,by rw[F4];exact HC1.out,HB.out⟩
    case round=>
     obtain⟨k2,hk,rfl,hcy,hbw⟩:=hrel;have HK:=hid hk;have HB:=hid hbw;have HCR:=hid hcy;clear hk hbw hcy HC1;by_cases hlt:k2<N1
     ·have d1:(0:Int)≤k2:=by omega
      have d2:(k2:Int)<N1:=by omega
      have e1:=Bp hlt (Nat.le_trans HLE.out (by decide));have HLT:=hid hlt;have HK63:Hid (k2≤63):=hid (by have:=HLE.out;omega);obtain⟨S,hS⟩:∃ S,AR M.tb i.oc TS.us S1 k2=S:=⟨_,rfl⟩;rw[hS] at HCR;obtain⟨x,hx⟩:∃ x,M.ln.l[k2]?=some x:=⟨_,List.getElem?_eq_getElem (by rw[HN1.out];exact hlt)⟩;obtain⟨bl,hbl⟩:∃ b,Aa S.lk k2=b:=⟨_,rfl⟩;have HX:=hid hx;have HS:=hid hS;have HBL:=hid hbl;clear hS hx hlt hbl;go_wp2_with fail;refine(D0 bl g m TS.us M S i wr HCR.out k2 HK63.out HBL.out).mono ?_;rintro e w5 ⟨rfl,hb⟩;have HC5:=hid (HCR.out.below hb);have HB5:=hid (Ar HB.out (AI hb HCR.out.gle));clear hb;cases bl with
      | false=>
        go_wp2_with fail;go_roundg (N1 - (k2+1))
        case rel=>exact⟨k2+1,AK HK.out HLT.out,by go_num,by rw[Hj (by rw[HS.out];exact HBL.out),HS.out];exact HC5.out,HB5.out⟩
        case measure=>exact AL HK.out HLT.out
      | true=>
        go_wp2_with fail;refine(Mz g m TS.us M S i w5 HC5.out k2 x HX.out).mono ?_;rintro e w6 ⟨rfl,hc,hb⟩;have HC6:=hid hc;have HB6:=hid (Ar HB5.out hb);clear hc hb;go_wp2_with fail;go_roundg (N1 - (k2+1))
        case rel=>exact⟨k2+1,AK HK.out HLT.out,by go_num,by rw[FE (by rw[HS.out];exact HBL.out) (GQ HX.out),HS.out];exact HC6.out,HB6.out⟩
        case measure=>exact AL HK.out HLT.out
     ·have d2:¬ (k2:Int)<N1:=by omega
      obtain⟨S2,hS2⟩:∃ S,AR M.tb i.oc TS.us S1 N1=S:=⟨_,rfl⟩;have HC2:Hid (Cy wr g m M S2 i TS.us):=hid (by rw[← hS2,show N1=k2 by have:=HK.out;omega];exact HCR.out);have HNX:Hid (DN M.tb s i.oc l=S2):=hid (by rw[Oi,HTSE.out,HS1.out,BV,HN1.out];exact hS2);have c68:=A4 HC2.out.blk 68 _ (Fj _ _ _ _);clear hlt hS2 HCR;go_upto_region 17 with fail
      have hbn:=Ac wr (.cells #[.int .u64 0,.int .u32 (S2.pt:Int)] 44);have hqn:=Ao wr (.cells #[.int .u64 0,.int .u32 (S2.pt:Int)] 44) (Below.refl _ _);obtain⟨VO,hVO⟩:∃ V,V=wr.alloc (.cells #[.int .u64 0,.int .u32 (S2.pt:Int)] 44):=⟨_,rfl⟩;rw[← hVO] at hbn hqn ⊢;obtain⟨g12,hg12⟩:∃ g,g=wr.heap.size:=⟨_,rfl⟩;rw[← hg12] at hqn ⊢;have HC3:=hid (HC2.out.below hbn);have HBO:=hid (Ar HB.out (AI hbn HC2.out.gle));have HQO:=hid hqn;have HG12:Hid (g<g12):=hid (by have:=Af HC2.out.blk;omega);have cm0:=A4 HC3.out.mach.blk 0 _ rfl;rw[Ak HN1.out] at cm0;clear hbn hqn hVO hg12 c68 d2;obtain⟨SA,hSA⟩:∃ a,AW i.no i.re=a:=⟨_,rfl⟩;obtain⟨SB,hSB⟩:∃ a,AW i.re i.no=a:=⟨_,rfl⟩;have HSA:=hid hSA;have HSB:=hid hSB;clear hSA hSB;go_upto_region 18 with fail
      clear cm0;go_loopg [75] N1 (fun g9 v wr=>∃ k:Nat,k+g9=N1∧v = .int .i64 (k:Int)∧wr.heap[g12]?=some (.cells #[.int .u64 (Bc M.tb S2 i.oc SA SB k:Int),.int .u32 (S2.pt:Int)] 44)∧WX (fun b=>b=g12) VO wr)
      case atStart=>exact⟨0,by omega,rfl,by rw[EZ];exact HQO.out,WX.refl _ _⟩
      case round=>
       obtain⟨k3,hk,rfl,hqq,hxx⟩:=hrel;have HK:=hid hk;have HQQ:=hid hqq;have HWX:=hid hxx;clear hk hqq hxx HQO;have HCR:=hid (HC3.out.at_ HWX.out HG12.out);by_cases hlt:k3<N1
       ·have d1:(0:Int)≤k3:=by omega
        have d2:(k3:Int)<N1:=by omega
        have e1:=Bp hlt (Nat.le_trans HLE.out (by decide));have HLT:=hid hlt;have HN63:Hid (k3≤63):=hid (by have:=HLE.out;omega);obtain⟨A,hA⟩:∃ A,Bc M.tb S2 i.oc SA SB k3=A:=⟨_,rfl⟩;have HAL:Hid (A<18446744073709551616):=hid (hA ▸ Fv M.tb S2 i.oc SA SB k3 (by have:=HN63.out;omega));rw[hA] at HQQ;obtain⟨x,hx⟩:∃ x,M.ln.l[k3]?=some x:=⟨_,List.getElem?_eq_getElem (by rw[HN1.out];exact hlt)⟩;obtain⟨bp,hbp⟩:∃ b,BM S2 i.oc SA SB k3 x.rw=b:=⟨_,rfl⟩;have HPC:Hid (Calls Tryz.prog 36 #[.pointer (some ⟨g,0,none⟩),.int .i64 (k3:Int)] wr fun e w'=>e = .returned (.bool bp)∧Below wr.heap.size wr w'):=hid (by
         have h:=J7 g m TS.us M S2 i wr HCR.out k3 x hx;rw[HSA.out,HSB.out,hbp] at h;exact h)
        have HX:=hid (GQ hx);have HA:=hid hA;have HBP:=hid hbp;clear hA hx hlt hbp;go_wp2_with fail;refine HPC.out.mono ?_;rintro e w5 ⟨rfl,hb⟩;have HQ5':=hid (A5 hb HQQ.out);have HW5:=hid (HWX.out.trans (WX.of_below hb));clear hb HPC;cases bp with
        | false=>
          go_wp2_with fail;go_roundg (N1 - (k3+1))
          case rel=>exact⟨k3+1,AK HK.out HLT.out,by go_num,by rw[I9 HX.out HBP.out,HA.out];exact HQ5'.out,HW5.out⟩
          case measure=>exact AL HK.out HLT.out
        | true=>
          go_upto_region 21 with fail
          refine Ah (by kernel_rfl) [6] 9 [0,1,2,3,4,5] [81,82,83,84,85,86] #[true,true,true,true,true,true,false] 1 [(fun v _=>v = .pointer (some ⟨g12,0,none⟩)),(fun v _=>v = .int .u64 (A:Int)),(fun v _=>v = .int .i64 (k3:Int)),(fun v _=>v = .int .u64 (pw k3:Int)),(fun v _=>v = .int .u64 ((Ab A k3:Nat):Int)),(fun v _=>v = .pointer (some ⟨g12,0,none⟩)),(fun _ _=>True)] (by kernel_rfl) (by kernel_rfl) (by kernel_rfl) (by kernel_rfl) (by kernel_rfl) rfl (by kernel_rfl) rfl ?_ ?_ ?_
          ·exact⟨A7 _,A7 _,A7 _,A7 _,A7 _,A7 _,Al,trivial⟩
          ·refine⟨?_,?_,?_,?_,?_,?_,trivial⟩
           ·refine A6 (o:=⟨some 81,_,_,_,_,_⟩) rfl (fun r V hc hf hg hs hb hd=>?_);have x12:r (.tmp 12) = .pointer (some ⟨g12,0,none⟩):=hs 12 (by kernel_rfl);clear hs hd hg;go_simp;exact⟨Below.refl _ _,rfl⟩
           ·refine A6 (o:=⟨some 82,_,_,_,_,_⟩) rfl (fun r V hc hf hg hs hb hd=>?_);have h0:r (.tmp 81) = .pointer (some ⟨g12,0,none⟩):=hd 0 81 rfl (by kernel_rfl);clear hs hd hg;have l:=A4 (A5 hb HQ5'.out) 0 _ rfl;go_simp;exact⟨Below.refl _ _,rfl⟩
           ·refine A6 (o:=⟨some 83,_,_,_,_,_⟩) rfl (fun r V hc hf hg hs hb hd=>?_);have x13:r (.tmp 13) = .int .i64 (k3:Int):=hs 13 (by kernel_rfl);clear hs hd hg;go_simp;exact⟨Below.refl _ _,rfl⟩
           ·refine A6 (o:=⟨some 84,_,_,_,_,_⟩) rfl (fun r V hc hf hg hs hb hd=>?_);have h2:r (.tmp 83) = .int .i64 (k3:Int):=hd 2 83 rfl (by kernel_rfl);clear hs hd hg;have h63:=HN63.out;have h0:(0:Int)≤k3:=by omega
            have h1:min k3 64=k3:=by omega
            have h2:¬ (64:Int)≤k3:=by omega
            have hs1:=Be k3 h63;go_simp;exact⟨Below.refl _ _,by simp⟩
           ·refine A6 (o:=⟨some 85,_,_,_,_,_⟩) rfl (fun r V hc hf hg hs hb hd=>?_);have h1:r (.tmp 82) = .int .u64 (A:Int):=hd 1 82 rfl (by kernel_rfl);have h3:r (.tmp 84) = .int .u64 (pw k3:Int):=hd 3 84 rfl (by kernel_rfl);clear hs hd hg;have ho1:=Ce A k3 HN63.out HAL.out;go_simp;exact⟨Below.refl _ _,rfl⟩
           ·refine A6 (o:=⟨some 86,_,_,_,_,_⟩) rfl (fun r V hc hf hg hs hb hd=>?_);have x12:r (.tmp 12) = .pointer (some ⟨g12,0,none⟩):=hs 12 (by kernel_rfl);clear hs hd hg;go_simp;exact⟨Below.refl _ _,rfl⟩
          ·intro a V hb hx;have h0:a.eval (.tmp 81) = .pointer (some ⟨g12,0,none⟩):=hx 0 81 rfl rfl;have h1:a.eval (.tmp 82) = .int .u64 (A:Int):=hx 1 82 rfl rfl;have h2:a.eval (.tmp 83) = .int .i64 (k3:Int):=hx 2 83 rfl rfl;have h3:a.eval (.tmp 84) = .int .u64 (pw k3:Int):=hx 3 84 rfl rfl;have h4:a.eval (.tmp 85) = .int .u64 ((Ab A k3:Nat):Int):=hx 4 85 rfl rfl;have h5:a.eval (.tmp 86) = .pointer (some ⟨g12,0,none⟩):=hx 5 86 rfl rfl;unfold AA;simp only[List.foldl_cons,List.foldl_nil,h0,h1,h2,h3,h4,h5,Act.put,List.setIfInBounds_toArray,List.set_cons_zero,List.set_cons_succ];clear h0 h1 h2 h3 h4 h5 hx;have HQV:=hid (A5 hb HQ5'.out);have HXV:=hid (HW5.out.trans (WX.of_below hb));clear hb HQ5' HW5;refine wpAny_ready (rs:=[6]) (by kernel_rfl) (by simp) (AllReady.cons (o:=⟨none,_,_,_,_,_⟩) rfl (fun K hK=>?_) AllReady.nil);have c0:=A4 HQV.out 0 _ rfl;have f0:=An HQV.out 0;have hl:=Af HQV.out;go_simp;clear c0 f0 hl;refine AY ?_;intro VZ hVZ;have ho:Ag g12 V VZ:=by rw[hVZ];exact(Ag.refl g12 V).setCell rfl _
           have HQZ:Hid (VZ.heap[g12]?=some (.cells #[.int .u64 ((Ab A k3:Nat):Int),.int .u32 (S2.pt:Int)] 44)):=hid (by rw[hVZ];exact AH HQV.out 0 _);have HXZ:=hid (HXV.out.trans (WX.of_only (X:=fun b=>b=g12) ho rfl));clear hVZ ho HQV HXV;refine hK _ _ ?_;clear hK K;refine wpAny_done (by kernel_rfl) ?_ _;go_wp2_with fail;go_roundg (N1 - (k3+1))
           case rel=>exact⟨k3+1,AK HK.out HLT.out,by go_num,by rw[G4 HX.out HBP.out,HA.out];exact HQZ.out,HXZ.out⟩
           case measure=>exact AL HK.out HLT.out
       ·have d2:¬ (k3:Int)<N1:=by omega
        have hkn:k3=N1:=by have:=HK.out;omega
        obtain⟨PR,hPR⟩:∃ A,Bc M.tb S2 i.oc SA SB N1=A:=⟨_,rfl⟩;have HQE:Hid (wr.heap[g12]?=some (.cells #[.int .u64 (PR:Int),.int .u32 (S2.pt:Int)] 44)):=hid (by rw[← hPR,← hkn];exact HQQ.out);have HOUT:Hid (Bq M.tb S2 i.oc i.no i.re=PR):=hid (by rw[JS,HSA.out,HSB.out,BV,HN1.out];exact hPR);have HBE:=hid (Ar HBO.out (HWX.out.below' HG12.out HC3.out.gle));clear hlt hkn hPR HQQ;go_upto_region 23 with fail
        clear d2;have HS6:Hid (wr.heap[g6]?=some (.cells (Ai zS).toArray 65)):=hid (JF HBE.out HGC.out.1 HQ6V.out);have HS7:Hid (wr.heap[g7]?=some (.cells #[.int .u64 0,.int .u32 0] 44)):=hid (JF HBE.out HGC.out.2.1 HQ7V.out);have HBV:=hid (Ar HBA.out (Kc HBE.out HGC.out.2.2.2.1));have HNE:Hid (g6≠g∧g7≠g∧g6≠g12∧g7≠g12):=hid (by have h1:=HGC.out;have h2:=HG12.out;omega);obtain⟨WR,hWR⟩:∃ W',W'=wr:=⟨_,rfl⟩;rw[← hWR] at HS6 HS7 HBV HCR HQE ⊢;clear hWR;refine wp_region_held_drew (S:=fun w'=>w'.heap[g]?=some (.cells (C4 m S2 i TS.us).toArray 102)∧w'.heap[g12]?=some (.cells #[.int .u64 (PR:Int),.int .u32 (S2.pt:Int)] 44)) (by kernel_rfl) ⟨HCR.out.blk,HQE.out⟩ (fun hH=>?_);refine wpAnyH_take (i:=0) (oi:=⟨some 88,_,_,_,_,_⟩) (v:=.pointer (some ⟨g,0,none⟩)) rfl (by kernel_rfl) (by kernel_rfl) (by kernel_rfl) (fun _ _ _ h=>h) (Or.inl ⟨by rfl,fun w hS=>by go_simp⟩) hH ?_;refine wpAnyH_take (i:=1) (oi:=⟨some 89,_,_,_,_,_⟩) (v:=.pointer (some ⟨g,0,none⟩)) rfl (by kernel_rfl) (by kernel_rfl) (by kernel_rfl) (fun _ _ _ h=>h) (Or.inl ⟨by rfl,fun w hS=>by go_simp⟩) hH ?_;refine wpAnyH_take (i:=2) (oi:=⟨some 90,_,_,_,_,_⟩) (v:=.pointer (some ⟨g,1,none⟩)) rfl (by kernel_rfl) (by kernel_rfl) (by kernel_rfl) (fun _ _ _ h=>h) (Or.inl ⟨by rfl,fun w hS=>by go_simp⟩) hH ?_;refine wpAnyH_take (i:=3) (oi:=⟨some 91,_,_,_,_,_⟩) (v:=.agg (Ai S2).toArray) rfl (by kernel_rfl) (by kernel_rfl) (by kernel_rfl) (fun _ _ _ h=>h) (Or.inl ⟨by rfl,fun w hS=>DT 65 (.tmp 90) rfl (vx:=.pointer (some ⟨g,1,none⟩)) (by go_simp) (NU hS.1)⟩) hH ?_;refine wpAnyH_take (i:=4) (oi:=⟨some 92,_,_,_,_,_⟩) (v:=.agg #[.int .u64 (PR:Int),.int .u32 (S2.pt:Int)]) rfl (by kernel_rfl) (by kernel_rfl) (by kernel_rfl) (fun _ _ _ h=>h) (Or.inl ⟨by rfl,fun w hS=>by have l0:=A4 hS.2 0 _ rfl;have l1:=A4 hS.2 1 _ rfl;go_simp⟩) hH ?_;obtain⟨hst,hq9,ho9⟩:=AN (w:=WR.drew) (s':=S2) (b:=g6) (t:=65) HS6.out;have HST:=hid hst;have HQ9:=hid hq9;have HQ97:=hid (Br ho9 (fun e=>HG.out.2.2 e.symm) HS7.out);have HCG:=hid (Br ho9 (fun e=>HNE.out.1 e.symm) HCR.out.blk);have HC12:=hid (Br ho9 (fun e=>HNE.out.2.2.1 e.symm) HQE.out);have HB9:Hid (Below w.heap.size w (WR.drew.setCells g6 0 (Ai S2))):=hid (Ag.below HBV.out.drew HG.out.1 HBV.out.size ho9);obtain⟨V6,hV6⟩:∃ V,V=WR.drew.setCells g6 0 (Ai S2):=⟨_,rfl⟩;rw[← hV6] at HST HQ9 HQ97 HB9 HCG HC12;clear hst hq9 ho9 hV6;refine wpAnyH_ready (rs:=[5]) (by kernel_rfl) (by simp) (AllReadyH.cons (o:=⟨none,_,_,_,_,_⟩) rfl (fun K hK=>?_) AllReadyH.nil);rw[if_pos (by rfl)];simp only[Act.put,List.setIfInBounds_toArray,List.set_cons_zero,List.set_cons_succ];refine CG (w':=V6) ?_ ?_
        ·refine Cu 65 (.tmp 6) (.tmp 91) rfl (vx:=.pointer (some ⟨g6,0,none⟩)) (vy:=.agg (Ai S2).toArray) ?_ ?_ HST.out
         ·go_simp
         ·go_simp
        simp only[Act.put];refine hK.out _ _ ⟨HCG.out,HC12.out⟩ (fun hH3=>?_);refine wpAnyH_ready (rs:=[6]) (by kernel_rfl) (by simp) (AllReadyH.cons (o:=⟨none,_,_,_,_,_⟩) rfl (fun K9 hK9=>?_) AllReadyH.nil);rw[if_pos (by rfl)];have c0:=A4 HQ97.out 0 _ rfl;have c1:=A4 HQ97.out 1 _ rfl;have f0:=An HQ97.out 0;have f1:=An HQ97.out 1;have hl:=Af HQ97.out;go_simp;clear c0 c1 f0 f1 hl;refine AY ?_;intro V7 hV7;have ho:Ag g7 V6 V7:=by rw[hV7];exact((Ag.refl g7 V6).setCell rfl _).setCell rfl _
        have HQ7E:Hid (V7.heap[g7]?=some (.cells #[.int .u64 (PR:Int),.int .u32 (S2.pt:Int)] 44)):=hid (by rw[hV7];exact AH (AH HQ97.out 0 _) 1 _);have HQ6E:Hid (V7.heap[g6]?=some (.cells (Ai S2).toArray 65)):=hid (Br ho HG.out.2.2 HQ9.out);have HBE7:Hid (Below w.heap.size w V7):=hid (Ag.below HB9.out HG.out.2.1 HB9.out.size ho);have hS7:V7.heap[g]?=some (.cells (C4 m S2 i TS.us).toArray 102)∧V7.heap[g12]?=some (.cells #[.int .u64 (PR:Int),.int .u32 (S2.pt:Int)] 44):=⟨Br ho (fun e=>HNE.out.2.1 e.symm) HCG.out,Br ho (fun e=>HNE.out.2.2.2 e.symm) HC12.out⟩;clear hV7 ho;refine hK9.out _ _ hS7 (fun hH4=>?_);refine wpAnyH_done (by kernel_rfl) ?_ _;go_wp2_with fail
        (try simp only[Exit.inBlock,Exit.then])
        refine bodyPost_ret (D2 rfl _ _ g6 g7 65 44 (Ai S2).toArray #[.int .u64 (PR:Int),.int .u32 (S2.pt:Int)] (0,0) (0,0) _ _ rfl HQ6E.out Tryz.underlying65 rfl (by rw[List.size_toArray,AU];exact Bd) rfl HQ7E.out Tryz.underlying44 rfl Fz) rfl ?_;rw[HNX.out,HOUT.out];exact⟨rfl,HBE7.out⟩
end Go.Proofs.YtpohoannggdbjaaGreat
