/- Ours: IxB; MoA. -/
import Derived.Test.YtpohoannggdbjaaGreatMA
import Derived.Laws.StructEq
import Derived.MapKept
set_option maxRecDepth 100000
set_option maxHeartbeats 200000000
namespace Go.Proofs.YtpohoannggdbjaaGreat
open Lib (hid)
open Go.RowKit
section
set_option linter.unusedSimpArgs false
structure St where
 lk:Nat
 us:Nat
 ca:Nat
 tm:Nat→Nat
 pt:Nat
def CD(f:Nat→Nat):List Value:=(List.range 64).map (fun n=>Value.int .u8 (f n:Int))
def Af(s:St):List Value:=.int .u64 (s.lk:Int) :: .int .u64 (s.us:Int) :: .int .u64 (s.ca:Int) ::(CD s.tm ++ [.int .u32 (s.pt:Int)])
def BC(s:St):Value:=.agg (Af s).toArray
theorem BY(f:Nat→Nat):(CD f).length=64:=by simp[CD]
theorem EL(f:Nat→Nat){n:Nat}(h:n<64):(CD f)[n]?=some (.int .u8 (f n:Int)):=by simp[CD,h]
theorem PO(s:St){n:Nat}(h:n<64):(Af s)[3+n]?=some (.int .u8 (s.tm n:Int)):=by
 show(Value.int .u64 (s.lk:Int) :: .int .u64 (s.us:Int) :: .int .u64 (s.ca:Int) ::(CD s.tm ++ [.int .u32 (s.pt:Int)]))[3+n]?=_;rw[show 3+n=n+1+1+1 by omega,List.getElem?_cons_succ,List.getElem?_cons_succ,List.getElem?_cons_succ,WV (by rw[BY];exact h),EL _ h]
theorem IG(s:St):(Af s)[67]?=some (.int .u32 (s.pt:Int)):=by
 show(Value.int .u64 (s.lk:Int) :: .int .u64 (s.us:Int) :: .int .u64 (s.ca:Int) ::(CD s.tm ++ [.int .u32 (s.pt:Int)]))[67]?=_;rw[show 67=64+1+1+1 by omega,List.getElem?_cons_succ,List.getElem?_cons_succ,List.getElem?_cons_succ,WT (by rw[BY];exact Wc _),BY];rfl
theorem AS(s:St):(Af s).length=68:=by simp[Af,BY]
theorem EE(xs:Array Value)(i:Nat)(v:Value)(h:xs[i]?=some v)(w:World):(part 5 xs i).run Tryz.prog w = .ok v w:=by
 have ha:(isAgg 5).run Tryz.prog w = .ok false w:=by kernel_rfl
 unfold part;simp only[Sem.run_bind,ha,Result.andThen_ok,Bool.false_eq_true,if_false,h,Sem.run_pure]
theorem NQ(d:Nat)(f g:Nat→Nat)(w:World):(Op.equalIn (d+2) 63 (.agg (CD f).toArray) (.agg (CD g).toArray)).run Tryz.prog w = .ok ((List.range 64).all (fun n=>f n == g n)) w:=by
 have hsz:∀ w,(sizeOf 5).run Tryz.prog w = .ok 1 w:=fun _=>by kernel_rfl
 rw[Op.equalIn];simp only[Sem.run_bind,run_underlying Tryz.underlying63,Result.andThen_ok,hsz,Nat.mul_one];have key:∀(l:List Nat),(∀ i∈l,i<64)→((forIn l ((none,()):Option Bool × Unit) fun i __s=>do
  let __do_lift ← part 5 (CD f).toArray i
  let __do_lift_1 ← part 5 (CD g).toArray i
  let __do_lift ← Op.equalIn (d+1) 5 __do_lift __do_lift_1
  if (!__do_lift)=true then pure (ForInStep.done (some false,())) else pure (ForInStep.yield (none,()))):Sem (Option Bool × Unit)).run Tryz.prog w = .ok (if l.all (fun n=>f n == g n) then (none,()) else (some false,())) w:=by
  intro l
  induction l with
  | nil=>intro _;rfl
  | cons i l ih=>
    intro hl;have hi:i<64:=hl i WM;have h1:=EE (CD f).toArray i _ (by rw[WG];exact EL f hi) w;have h2:=EE (CD g).toArray i _ (by rw[WG];exact EL g hi) w;have h3:=run_equalIn_int (P:=Tryz.prog) w d 5 .u8 .u8 (f i:Int) (g i:Int) Tryz.underlying5;simp only[List.forIn_cons,Sem.run_bind,h1,h2,h3,Result.andThen_ok];have he:((f i:Int) ==(g i:Int))=(f i == g i):=(by rw[Ww,WH,WH];omega);rw[he,List.all_cons];cases hb:(f i == g i) with
    | true=>
      simp only[Bool.not_true,Bool.false_eq_true,if_false,Sem.run_pure,Result.andThen_ok,WL];exact ih (fun k hk=>hl k (WS _ hk))
    | false=>simp[Sem.run_pure]
 have hr:=key (List.range 64) (fun i hi=>List.mem_range.1 hi);simp only[Std.Legacy.Range.forIn_eq_forIn_range',Std.Legacy.Range.size,Nat.sub_zero,Nat.add_sub_cancel,Nat.div_one];rw[List.range_eq_range'] at hr;rw[hr,List.range_eq_range'];cases (List.range' 0 64).all (fun n=>f n == g n)<;>rfl
def C4(s t:St):Bool:=s.lk == t.lk && (s.us == t.us && (s.ca == t.ca && ((List.range 64).all (fun n=>s.tm n == t.tm n) && s.pt == t.pt)))
theorem U7(s:St):(Af s).toArray.extract 3 67=(CD s.tm).toArray:=by
 apply Array.toList_inj.1;rw[Array.toList_extract];show((Af s).drop 3).take 64=CD s.tm;show(CD s.tm ++ [Value.int .u32 (s.pt:Int)]).take 64=CD s.tm;rw[List.take_append_of_le_length (by rw[BY];exact Wc _),Wo (by rw[BY];exact Wc _)]
theorem Ca(t:TypeId)(ht:∀ w,(isAgg t).run Tryz.prog w = .ok false w)(xs:Array Value)(i:Nat)(v:Value)(h:xs[i]?=some v)(w:World):(part t xs i).run Tryz.prog w = .ok v w:=by
 unfold part;simp only[Sem.run_bind,ht,Result.andThen_ok,Bool.false_eq_true,if_false,h,Sem.run_pure]
theorem Gh(s:St)(w:World):(part 63 (Af s).toArray 3).run Tryz.prog w = .ok (.agg (CD s.tm).toArray) w:=by
 have ha:∀ w,(isAgg 63).run Tryz.prog w = .ok true w:=fun _=>by kernel_rfl
 have hs:∀ w,(sizeOf 63).run Tryz.prog w = .ok 64 w:=fun _=>by kernel_rfl
 unfold part;simp only[Sem.run_bind,ha,hs,Result.andThen_ok,if_true,Sem.run_pure];rw[show 3+64=67 from rfl,U7]
theorem G2(d:Nat)(s t:St)(w:World):(Op.equalIn (d+3) 65 (BC s) (BC t)).run Tryz.prog w = .ok (C4 s t) w:=by
 have p0:∀(s:St) w,(part 33 (Af s).toArray 0).run Tryz.prog w = .ok (.int .u64 (s.lk:Int)) w:=fun s w=>Ca _ (fun _=>by kernel_rfl) _ _ _ rfl w
 have p1:∀(s:St) w,(part 33 (Af s).toArray 1).run Tryz.prog w = .ok (.int .u64 (s.us:Int)) w:=fun s w=>Ca _ (fun _=>by kernel_rfl) _ _ _ rfl w
 have p2:∀(s:St) w,(part 33 (Af s).toArray 2).run Tryz.prog w = .ok (.int .u64 (s.ca:Int)) w:=fun s w=>Ca _ (fun _=>by kernel_rfl) _ _ _ rfl w
 have p3:=Gh;have p4:∀(s:St) w,(part 29 (Af s).toArray 67).run Tryz.prog w = .ok (.int .u32 (s.pt:Int)) w:=fun s w=>Ca _ (fun _=>by kernel_rfl) _ _ _ (by rw[WG];exact IG s) w
 have q0:∀(d:Nat) (a b:Nat) w,(Op.equalIn (d+1) 33 (.int .u64 (a:Int)) (.int .u64 (b:Int))).run Tryz.prog w = .ok (a == b) w:=fun d a b w=>by
  rw[run_equalIn_int w d _ .u64 .u64 _ _ Tryz.underlying33,show((a:Int) ==(b:Int))=(a == b) by rw[Ww,WH,WH];omega]
 have q1:∀(d:Nat) (a b:Nat) w,(Op.equalIn (d+1) 29 (.int .u32 (a:Int)) (.int .u32 (b:Int))).run Tryz.prog w = .ok (a == b) w:=fun d a b w=>by
  rw[run_equalIn_int w d _ .u32 .u32 _ _ Tryz.underlying29,show((a:Int) ==(b:Int))=(a == b) by rw[Ww,WH,WH];omega]
 have q2:=NQ;unfold BC;rw[run_equalIn_struct w _ _ _ _ (by kernel_rfl) (by kernel_rfl)];obtain⟨fs,hfs⟩:=WY ((Program.fieldsOf Tryz.prog 65).toList);have hl:fs.length=5:=by rw[← hfs];kernel_rfl
 have hf : fs.map (fun f => (f.name == "_", f.type, f.offset)) = [(false, 33, 0), (false, 33, 1), (false, 33, 2), (false, 63, 3), (false, 29, 67)] := by rw [← hfs]; kernel_rfl
 rw[hfs];clear hfs
 match fs,hl with
 | [f0,f1,f2,f3,f4],_=>
   simp only[List.map_cons,List.map_nil,List.cons.injEq,Prod.mk.injEq,and_true,beq_eq_false_iff_ne] at hf;obtain⟨⟨a0,b0,c0⟩,⟨a1,b1,c1⟩,⟨a2,b2,c2⟩,⟨a3,b3,c3⟩,⟨a4,b4,c4⟩⟩:=hf;unfold C4;simp only[Op.eqFields,a0,b0,c0,ne_eq,not_false_eq_true,if_true,Sem.run_bind,p0,q0,Result.andThen_ok];cases h0:(s.lk == t.lk)<;>cases h1:(s.us == t.us)<;>cases h2:(s.ca == t.ca)<;>cases h3:((List.range 64).all (fun n=>s.tm n == t.tm n))<;>cases h4:(s.pt == t.pt)<;>simp only[Op.eqFields,a1,b1,c1,a2,b2,c2,a3,b3,c3,a4,b4,c4,Sem.run_pure,p1,p2,p3,p4,q0,q1,q2,Sem.run_bind,Result.andThen_ok,h1,h2,h3,h4,ne_eq,not_false_eq_true,if_true,if_false,Bool.false_eq_true,Bool.and_true,WL,WN,Bool.false_and,Bool.not_true,Bool.not_false]
theorem To(s t:St)(w:World):(binOp .eql 65 (BC s) (BC t)).run Tryz.prog w = .ok (.bool (C4 s t)) w:=by
 unfold BC;rw[run_eql_struct];have:=G2 9997 s t w;unfold BC at this;rw[this];rfl
theorem TM(s t:St)(w:World):(binOp .neq 65 (BC s) (BC t)).run Tryz.prog w = .ok (.bool (!C4 s t)) w:=by
 unfold BC;rw[run_neq_struct];have:=G2 9997 s t w;unfold BC at this;rw[this];rfl
end
section
theorem Uy(b:Bool)(n:Nat)(f:Nat→Nat)(w:World):(Instr.checkKey b (n+2) 63 (.agg (CD f).toArray)).run Tryz.prog w = .ok () w:=by
 have hsz:∀ w,(sizeOf 5).run Tryz.prog w = .ok 1 w:=fun _=>by kernel_rfl
 rw[Instr.checkKey];simp only[Sem.run_bind,run_underlying Tryz.underlying63,Result.andThen_ok];have key:∀(l:List Nat),(∀ i∈l,i<64)→((forIn l () fun i _=>do
  let sz ← sizeOf 5
  let v ← part 5 (CD f).toArray (i*sz)
  Instr.checkKey b (n+1) 5 v
  pure (ForInStep.yield ())):Sem Unit).run Tryz.prog w = .ok () w:=by
  intro l
  induction l with
  | nil=>intro _;rfl
  | cons i l ih=>
    intro hl;have hi:i<64:=hl i WM;have h1:=EE (CD f).toArray i _ (by rw[WG];exact EL f hi) w;have h2:(Instr.checkKey b (n+1) 5 (.int .u8 (f i:Int))).run Tryz.prog w = .ok () w:=MapKept.run_checkKey (d:=.int .u8) Tryz.underlying5 (by simp[MapKept.IsKey]) b n;simp only[List.forIn_cons,Sem.run_bind,hsz,Result.andThen_ok,Nat.mul_one,h1,h2,Sem.run_pure];exact ih (fun k hk=>hl k (WS _ hk))
 have hr:=key (List.range 64) (fun i hi=>List.mem_range.1 hi);simp only[Std.Legacy.Range.forIn_eq_forIn_range',Std.Legacy.Range.size,Nat.sub_zero,Nat.add_sub_cancel,Nat.div_one];rw[List.range_eq_range'] at hr;exact hr
theorem Ux(b:Bool)(n:Nat)(s:St)(w:World):(Instr.checkKey b (n+3) 65 (BC s)).run Tryz.prog w = .ok () w:=by
 have p0:∀(s:St) w,(part 33 (Af s).toArray 0).run Tryz.prog w = .ok (.int .u64 (s.lk:Int)) w:=fun s w=>Ca _ (fun _=>by kernel_rfl) _ _ _ rfl w
 have p1:∀(s:St) w,(part 33 (Af s).toArray 1).run Tryz.prog w = .ok (.int .u64 (s.us:Int)) w:=fun s w=>Ca _ (fun _=>by kernel_rfl) _ _ _ rfl w
 have p2:∀(s:St) w,(part 33 (Af s).toArray 2).run Tryz.prog w = .ok (.int .u64 (s.ca:Int)) w:=fun s w=>Ca _ (fun _=>by kernel_rfl) _ _ _ rfl w
 have p3:=Gh;have p4:∀(s:St) w,(part 29 (Af s).toArray 67).run Tryz.prog w = .ok (.int .u32 (s.pt:Int)) w:=fun s w=>Ca _ (fun _=>by kernel_rfl) _ _ _ (by rw[WG];exact IG s) w
 have c0:∀(a:Int) w,(Instr.checkKey b (n+2) 33 (.int .u64 a)).run Tryz.prog w = .ok () w:=fun a w=>MapKept.run_checkKey (d:=.int .u64) Tryz.underlying33 (by simp[MapKept.IsKey]) b (n+1)
 have c1:∀(a:Int) w,(Instr.checkKey b (n+2) 29 (.int .u32 a)).run Tryz.prog w = .ok () w:=fun a w=>MapKept.run_checkKey (d:=.int .u32) Tryz.underlying29 (by simp[MapKept.IsKey]) b (n+1)
 have c2:=Uy b n;unfold BC;rw[Instr.checkKey];simp only[Sem.run_bind,run_underlying Tryz.underlying65,Result.andThen_ok];simp only[← Array.forIn_toList,List.forIn_cons,List.forIn_nil,ne_eq,String.reduceEq,not_false_eq_true,if_true,Sem.run_bind,p0,p1,p2,p3,p4,c0,c1,c2,Result.andThen_ok,Sem.run_pure]
theorem NT:∀(n:Nat) (l:List Value),(∀ v∈l,∃ k a,v = .int k a)→(l.zip l).all (fun(x,y)=>Instr.sameBits n x y)=true:=by
 intro n l h
 induction l with
 | nil=>rfl
 | cons v l ih=>
   rw[List.zip_cons_cons,List.all_cons,ih (fun u hu=>h u (WS _ hu)),Bool.and_true];obtain⟨k,a,rfl⟩:=h v WM;unfold Instr.sameBits;simp
theorem Sc(s:St):∀ v∈Af s,∃ k a,v=Value.int k a:=by
 intro v hv;unfold Af CD at hv;simp only[List.mem_cons,WE,List.mem_map,List.not_mem_nil,or_false] at hv;rcases hv with rfl | rfl | rfl | ⟨_,_,rfl⟩ | rfl<;>exact⟨_,_,rfl⟩
theorem S7(s:St):Instr.sameBits 10000 (BC s) (BC s)=true:=by
 unfold BC;rw[Instr.sameBits];rw[NT _ _ (Sc s)];simp
theorem PP(s:St)(w:World):(Instr.keyThatStays (BC s) (BC s)).run Tryz.prog w = .ok (BC s) w:=by
 unfold Instr.keyThatStays;rw[S7,if_pos rfl];rfl
theorem Ck{s t:St}:C4 s t=true↔BC s=BC t:=by
 constructor
 ·intro h;unfold C4 at h;simp only[Wl,WH,Wm,List.mem_range] at h;obtain⟨h1,h2,h3,h4,h5⟩:=h;have:CD s.tm=CD t.tm:=by
   unfold CD;exact List.map_congr_left (fun n hn=>by rw[h4 n (List.mem_range.1 hn)])
  unfold BC Af;rw[h1,h2,h3,h5,this]
 ·intro h;unfold BC at h;injection h with h
  have h:Af s=Af t:=(by simpa using congrArg Array.toList h);have hp:(Af s)[67]?=(Af t)[67]?:=(by rw[h]);rw[IG,IG] at hp;have ht:∀ n,n<64→s.tm n=t.tm n:=fun n hn=>by
   have h3:(Af s)[3+n]?=(Af t)[3+n]?:=(by rw[h]);rw[PO _ hn,PO _ hn] at h3;have h4:(s.tm n:Int)=(t.tm n:Int):=(by simpa using h3);omega
  have h0:(Af s)[0]?=(Af t)[0]?:=(by rw[h]);have h1:(Af s)[1]?=(Af t)[1]?:=(by rw[h]);have h2:(Af s)[2]?=(Af t)[2]?:=(by rw[h]);unfold Af at h0 h1 h2;simp at h0 h1 h2 hp;unfold C4;simp only[Wl,WH,Wm,List.mem_range];exact⟨by omega,by omega,by omega,ht,by omega⟩
def CH(w:World)(r:Nat)(K:List St):Prop:=∃ es clock,w.heap[r]?=some (.map es clock)∧es.toList.map (fun e=>(e.key,e.val))=K.map (fun s=>(BC s,Value.bool true))∧K.Pairwise (fun s t=>C4 s t=false)∧(es.toList.map (·.born)).Nodup∧∀ e∈es.toList,e.born<clock
theorem CH.below{w w':World}{r:Nat}{K:List St}(h:CH w r K)(hb:Below w.heap.size w w'):CH w' r K:=by
 obtain⟨es,clock,h1,h2⟩:=h;exact⟨es,clock,A5 hb h1,h2⟩
theorem Ms(s:St)(w:World):∀(es:List MapEntry) (K:List St) (i:Nat),es.map (fun e=>(e.key,e.val))=K.map (fun s=>(BC s,Value.bool true))→
 ((∀ t∈K,C4 s t=false)∧(Instr.findAsking 65 (BC s) es i).run Tryz.prog w = .ok none w)∨∃ j t e,K[j]?=some t∧es[j]?=some e∧C4 s t=true∧(Instr.findAsking 65 (BC s) es i).run Tryz.prog w = .ok (some (i+j,e.val)) w
 | [],K,i,h=>by
   cases K with
   | nil=>exact .inl ⟨fun _ h=>(nomatch h),rfl⟩
   | cons _ _=>simp at h
 | e :: es,K,i,h=>by
   cases K with
   | nil=>simp at h
   | cons t K=>
     rw[List.map_cons,List.map_cons,List.cons.injEq,Prod.mk.injEq] at h;have he:(Op.equal 65 (BC s) e.key).run Tryz.prog w = .ok (C4 s t) w:=(by rw[h.1.1];exact G2 9997 s t w);cases hb:C4 s t with
     | true=>
       refine .inr ⟨0,t,e,rfl,rfl,hb,?_⟩;unfold Instr.findAsking;simp only[Sem.run_bind,he,hb,Result.andThen_ok,if_true,Sem.run_pure,Wa]
     | false=>
       have hs:(Instr.findAsking 65 (BC s) (e :: es) i).run Tryz.prog w=(Instr.findAsking 65 (BC s) es (i+1)).run Tryz.prog w:=by
        rw[Instr.findAsking];simp only[Sem.run_bind,he,hb,Result.andThen_ok,Bool.false_eq_true,if_false]
       rcases Ms s w es K (i+1) h.2 with ⟨h1,h2⟩ | ⟨j,t',e',h1,h2,h3,h4⟩
       ·refine .inl ⟨fun u hu=>?_,by rw[hs,h2]⟩;rcases List.mem_cons.1 hu with rfl | hu
        ·exact hb
        ·exact h1 u hu
       ·exact .inr ⟨j+1,t',e',h1,h2,h3,by rw[hs,h4,show i+1+j=i+(j+1) by omega]⟩
theorem TJ(s:St)(w:World)(es:Array MapEntry)(K:List St)(h:es.toList.map (fun e=>(e.key,e.val))=K.map (fun s=>(BC s,Value.bool true))) :
 ((∀ t∈K,C4 s t=false)∧(Instr.findKey 65 (BC s) es.toList).run Tryz.prog w = .ok none w)∨∃ j t e,K[j]?=some t∧es[j]?=some e∧C4 s t=true∧(Instr.findKey 65 (BC s) es.toList).run Tryz.prog w = .ok (some (j,e.val)) w:=by
 have hu:=run_underlying (w:=w) Tryz.underlying65;have hfk:(Instr.findKey 65 (BC s) es.toList).run Tryz.prog w=(Instr.findAsking 65 (BC s) es.toList 0).run Tryz.prog w:=by
  unfold Instr.findKey;simp only[Sem.run_bind,hu,Result.andThen_ok];cases es.toList with
  | nil=>rfl
  | cons e l=>rfl
 rw[hfk];rcases Ms s w es.toList K 0 h with h1 | ⟨j,t,e,h1,h2,h3,h4⟩
 ·exact .inl h1
 ·exact .inr ⟨j,t,e,h1,by simpa using h2,h3,by rw[h4,Wq]⟩
def Bs(K:List St)(s:St):List St:=if K.any (C4 s) then K else K ++ [s]
theorem Ef{w:World}{r:Nat}{K:List St}(s:St)(h:CH w r K):∃ w',(Instr.mapUpdate 78 (.map (some r)) (BC s) (.bool true)).run Tryz.prog w = .ok () w'∧CH w' r (Bs K s)∧Ai r w w':=by
 obtain⟨es,clock,h1,h2,h3,h4,h5⟩:=h;have hc:=Ux false 9997 s w;rcases TJ s w es K h2 with ⟨g1,g2⟩ | ⟨j,t,e,g1,g2,g3,g4⟩
 ·have ha:Bs K s=K ++ [s]:=by
   unfold Bs;rw[if_neg];rw[WF];rintro⟨t,ht,h⟩;rw[g1 t ht] at h;cases h
  refine⟨{ w with heap:=w.heap.setIfInBounds r (.map (es.push { key:=BC s,val:=.bool true,born:=clock }) (clock+1)) },?_,?_,?_⟩
  ·simp[Instr.mapUpdate,run_underlying Tryz.underlying78,MapKept.run_getObj_map h1,hc,g2,MapKept.run_setObj_map _ h1,Result.andThen]
  ·rw[ha];refine⟨_,_,(MapKept.heap_set h1).1,by rw[Array.toList_push,List.map_append,h2,List.map_append];rfl,?_,?_,?_⟩
   ·rw[List.pairwise_append];refine⟨h3,by simp,fun a hma b hb=>?_⟩;rw[Wy] at hb;subst hb;have:=g1 a hma;cases hh:C4 a b with
    | false=>rfl
    | true=>
      have h6:=Ck.1 hh;rw[Ck.2 h6.symm] at this;cases this
   ·rw[Array.toList_push,List.map_append];refine List.nodup_append.2 ⟨h4,by simp,?_⟩;intro a ha b hb;simp at hb;obtain⟨x,hx,rfl⟩:=List.mem_map.1 ha;have:=h5 x hx;omega
   ·intro x hx;rw[Array.toList_push] at hx;rcases WE.1 hx with hx | hx
    ·have:=h5 x hx;omega
    ·rw[Wy] at hx;subst hx;exact Nat.lt_succ_self _
  ·exact⟨rfl,rfl,rfl,by simp,fun k _ hk=>(MapKept.heap_set h1).2 k hk⟩
 ·have ha:Bs K s=K:=by
   unfold Bs;rw[if_pos];exact WF.2 ⟨t,Wf g1,g3⟩
  have hst:=Ck.1 g3;have hek:e.key=BC s∧e.val = .bool true:=by
   have h6:(es.toList.map (fun e=>(e.key,e.val)))[j]?=some (e.key,e.val):=(by rw[List.getElem?_map,WW,g2];rfl);rw[h2,List.getElem?_map,g1] at h6;injection h6 with h6
   injection h6 with h7 h8
   exact⟨by rw[← h7,hst],h8.symm⟩
  have hk:=PP s w;refine⟨{ w with heap:=w.heap.setIfInBounds r (.map (es.modify j fun e'=>{ e' with key:=BC s,val:=.bool true }) clock) },?_,?_,?_⟩
  ·simp[Instr.mapUpdate,run_underlying Tryz.underlying78,MapKept.run_getObj_map h1,hc,g4,g2,hek.1,hk,MapKept.run_setObj_map _ h1,Result.andThen]
  ·rw[ha];have hmod:es.modify j (fun e'=>{ e' with key:=BC s,val:=.bool true })=es:=by
    apply Array.ext_getElem?
    intro i;rw[Array.getElem?_modify];by_cases hij:j=i
    ·subst hij;rw[if_pos rfl,g2];obtain⟨ek,ev,eb⟩:=e;obtain⟨rfl,rfl⟩:=hek;rfl
    ·rw[if_neg hij]
   rw[hmod];exact⟨_,_,(MapKept.heap_set h1).1,h2,h3,h4,h5⟩
  ·exact⟨rfl,rfl,rfl,by simp,fun k _ hk=>(MapKept.heap_set h1).2 k hk⟩
end
end Go.Proofs.YtpohoannggdbjaaGreat
