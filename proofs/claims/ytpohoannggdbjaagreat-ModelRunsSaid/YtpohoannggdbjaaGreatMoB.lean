/- Ours: IxB; MoA; MoB. -/
import Derived.Test.YtpohoannggdbjaaGreatMA
import Derived.Laws.StructEq
import Derived.MapKept
import Derived.Maps.RangeRun
namespace Go.Proofs.YtpohoannggdbjaaGreat
open Lib (hid)
open Go.RowKit
set_option maxRecDepth 100000
set_option linter.unusedSimpArgs false
structure St where
 lk:Nat
 us:Nat
 ca:Nat
 tm:Nat→Nat
 pt:Nat
def Cs(f:Nat→Nat):List Value:=(List.range 64).map (fun n=>Value.int .u8 (f n:Int))
def Ai(s:St):List Value:=.int .u64 (s.lk:Int) :: .int .u64 (s.us:Int) :: .int .u64 (s.ca:Int) ::(Cs s.tm ++ [.int .u32 (s.pt:Int)])
def BG(s:St):Value:=.agg (Ai s).toArray
theorem BK(f:Nat→Nat):(Cs f).length=64:=by simp[Cs]
theorem DQ(f:Nat→Nat){n:Nat}(h:n<64):(Cs f)[n]?=some (.int .u8 (f n:Int)):=by simp[Cs,h]
theorem Ml(s:St){n:Nat}(h:n<64):(Ai s)[3+n]?=some (.int .u8 (s.tm n:Int)):=by
 show(Value.int .u64 (s.lk:Int) :: .int .u64 (s.us:Int) :: .int .u64 (s.ca:Int) ::(Cs s.tm ++ [.int .u32 (s.pt:Int)]))[3+n]?=_;rw[show 3+n=n+1+1+1 by omega,List.getElem?_cons_succ,List.getElem?_cons_succ,List.getElem?_cons_succ,List.getElem?_append_left (by rw[BK];exact h),DQ _ h]
theorem GL(s:St):(Ai s)[67]?=some (.int .u32 (s.pt:Int)):=by
 show(Value.int .u64 (s.lk:Int) :: .int .u64 (s.us:Int) :: .int .u64 (s.ca:Int) ::(Cs s.tm ++ [.int .u32 (s.pt:Int)]))[67]?=_;rw[show 67=64+1+1+1 by omega,List.getElem?_cons_succ,List.getElem?_cons_succ,List.getElem?_cons_succ,List.getElem?_append_right (by rw[BK];exact Nat.le_refl _),BK];rfl
theorem AU(s:St):(Ai s).length=68:=by simp[Ai,BK]
theorem E1(xs:Array Value)(i:Nat)(v:Value)(h:xs[i]?=some v)(w:World):(part 5 xs i).run Tryz.prog w = .ok v w:=by
 have ha:(isAgg 5).run Tryz.prog w = .ok false w:=by kernel_rfl
 unfold part;simp only[Sem.run_bind,ha,Result.andThen_ok,Bool.false_eq_true,if_false,h,Sem.run_pure]
theorem Lu(d:Nat)(f g:Nat→Nat)(w:World):(Op.equalIn (d+2) 63 (.agg (Cs f).toArray) (.agg (Cs g).toArray)).run Tryz.prog w = .ok ((List.range 64).all (fun n=>f n == g n)) w:=by
 have hsz:∀ w,(sizeOf 5).run Tryz.prog w = .ok 1 w:=fun _=>by kernel_rfl
 rw[Op.equalIn];simp only[Sem.run_bind,run_underlying Tryz.underlying63,Result.andThen_ok,hsz,Nat.mul_one];have key:∀(l:List Nat),(∀ i∈l,i<64)→((forIn l ((none,()):Option Bool × Unit) fun i __s=>do
  let __do_lift ← part 5 (Cs f).toArray i
  let __do_lift_1 ← part 5 (Cs g).toArray i
  let __do_lift ← Op.equalIn (d+1) 5 __do_lift __do_lift_1
  if (!__do_lift)=true then pure (ForInStep.done (some false,())) else pure (ForInStep.yield (none,()))):Sem (Option Bool × Unit)).run Tryz.prog w = .ok (if l.all (fun n=>f n == g n) then (none,()) else (some false,())) w:=by
  intro l
  induction l with
  | nil=>intro _;rfl
  | cons i l ih=>
    intro hl;have hi:i<64:=hl i List.mem_cons_self;have h1:=E1 (Cs f).toArray i _ (by rw[List.getElem?_toArray];exact DQ f hi) w;have h2:=E1 (Cs g).toArray i _ (by rw[List.getElem?_toArray];exact DQ g hi) w;have h3:=run_equalIn_int (P:=Tryz.prog) w d 5 .u8 .u8 (f i:Int) (g i:Int) Tryz.underlying5;simp only[List.forIn_cons,Sem.run_bind,h1,h2,h3,Result.andThen_ok];have he:((f i:Int) ==(g i:Int))=(f i == g i):=by rw[Bool.eq_iff_iff,beq_iff_eq,beq_iff_eq];omega
    rw[he,List.all_cons];cases hb:(f i == g i) with
    | true=>
      simp only[Bool.not_true,Bool.false_eq_true,if_false,Sem.run_pure,Result.andThen_ok,Bool.true_and];exact ih (fun k hk=>hl k (List.mem_cons_of_mem _ hk))
    | false=>simp[Sem.run_pure]
 have hr:=key (List.range 64) (fun i hi=>List.mem_range.1 hi);simp only[Std.Legacy.Range.forIn_eq_forIn_range',Std.Legacy.Range.size,Nat.sub_zero,Nat.add_sub_cancel,Nat.div_one];rw[List.range_eq_range'] at hr;rw[hr,List.range_eq_range'];cases (List.range' 0 64).all (fun n=>f n == g n)<;>rfl
def CT(s t:St):Bool:=s.lk == t.lk && (s.us == t.us && (s.ca == t.ca && ((List.range 64).all (fun n=>s.tm n == t.tm n) && s.pt == t.pt)))
theorem QP(s:St):(Ai s).toArray.extract 3 67=(Cs s.tm).toArray:=by
 apply Array.toList_inj.1;rw[Array.toList_extract];show((Ai s).drop 3).take 64=Cs s.tm;show(Cs s.tm ++ [Value.int .u32 (s.pt:Int)]).take 64=Cs s.tm;rw[List.take_append_of_le_length (by rw[BK];exact Nat.le_refl _),List.take_of_length_le (by rw[BK];exact Nat.le_refl _)]
theorem BT(t:TypeId)(ht:∀ w,(isAgg t).run Tryz.prog w = .ok false w)(xs:Array Value)(i:Nat)(v:Value)(h:xs[i]?=some v)(w:World):(part t xs i).run Tryz.prog w = .ok v w:=by
 unfold part;simp only[Sem.run_bind,ht,Result.andThen_ok,Bool.false_eq_true,if_false,h,Sem.run_pure]
theorem Fd(s:St)(w:World):(part 63 (Ai s).toArray 3).run Tryz.prog w = .ok (.agg (Cs s.tm).toArray) w:=by
 have ha:∀ w,(isAgg 63).run Tryz.prog w = .ok true w:=fun _=>by kernel_rfl
 have hs:∀ w,(sizeOf 63).run Tryz.prog w = .ok 64 w:=fun _=>by kernel_rfl
 unfold part;simp only[Sem.run_bind,ha,hs,Result.andThen_ok,if_true,Sem.run_pure];rw[show 3+64=67 from rfl,QP]
theorem Gy(d:Nat)(s t:St)(w:World):(Op.equalIn (d+3) 65 (BG s) (BG t)).run Tryz.prog w = .ok (CT s t) w:=by
 have p0:∀(s:St) w,(part 33 (Ai s).toArray 0).run Tryz.prog w = .ok (.int .u64 (s.lk:Int)) w:=fun s w=>BT _ (fun _=>by kernel_rfl) _ _ _ rfl w
 have p1:∀(s:St) w,(part 33 (Ai s).toArray 1).run Tryz.prog w = .ok (.int .u64 (s.us:Int)) w:=fun s w=>BT _ (fun _=>by kernel_rfl) _ _ _ rfl w
 have p2:∀(s:St) w,(part 33 (Ai s).toArray 2).run Tryz.prog w = .ok (.int .u64 (s.ca:Int)) w:=fun s w=>BT _ (fun _=>by kernel_rfl) _ _ _ rfl w
 have p3:=Fd;have p4:∀(s:St) w,(part 29 (Ai s).toArray 67).run Tryz.prog w = .ok (.int .u32 (s.pt:Int)) w:=fun s w=>BT _ (fun _=>by kernel_rfl) _ _ _ (by rw[List.getElem?_toArray];exact GL s) w
 have q0:∀(d:Nat) (a b:Nat) w,(Op.equalIn (d+1) 33 (.int .u64 (a:Int)) (.int .u64 (b:Int))).run Tryz.prog w = .ok (a == b) w:=fun d a b w=>by
  rw[run_equalIn_int w d _ .u64 .u64 _ _ Tryz.underlying33,show((a:Int) ==(b:Int))=(a == b) by rw[Bool.eq_iff_iff,beq_iff_eq,beq_iff_eq];omega]
 have q1:∀(d:Nat) (a b:Nat) w,(Op.equalIn (d+1) 29 (.int .u32 (a:Int)) (.int .u32 (b:Int))).run Tryz.prog w = .ok (a == b) w:=fun d a b w=>by
  rw[run_equalIn_int w d _ .u32 .u32 _ _ Tryz.underlying29,show((a:Int) ==(b:Int))=(a == b) by rw[Bool.eq_iff_iff,beq_iff_eq,beq_iff_eq];omega]
 have q2:=Lu;unfold BG;rw[run_equalIn_struct w _ _ _ _ (by kernel_rfl) (by kernel_rfl)];obtain⟨fs,hfs⟩:∃ fs,(Program.fieldsOf Tryz.prog 65).toList=fs:=⟨_,rfl⟩;have hl:fs.length=5:=by rw[← hfs];kernel_rfl
 have hf : fs.map (fun f => (f.name == "_", f.type, f.offset)) = [(false, 33, 0), (false, 33, 1), (false, 33, 2), (false, 63, 3), (false, 29, 67)] := by rw [← hfs]; kernel_rfl
 rw[hfs];clear hfs
 match fs,hl with
 | [f0,f1,f2,f3,f4],_=>
   simp only[List.map_cons,List.map_nil,List.cons.injEq,Prod.mk.injEq,and_true,beq_eq_false_iff_ne] at hf;obtain⟨⟨a0,b0,c0⟩,⟨a1,b1,c1⟩,⟨a2,b2,c2⟩,⟨a3,b3,c3⟩,⟨a4,b4,c4⟩⟩:=hf;unfold CT;simp only[Op.eqFields,a0,b0,c0,ne_eq,not_false_eq_true,if_true,Sem.run_bind,p0,q0,Result.andThen_ok];cases h0:(s.lk == t.lk)<;>cases h1:(s.us == t.us)<;>cases h2:(s.ca == t.ca)<;>cases h3:((List.range 64).all (fun n=>s.tm n == t.tm n))<;>cases h4:(s.pt == t.pt)<;>simp only[Op.eqFields,a1,b1,c1,a2,b2,c2,a3,b3,c3,a4,b4,c4,Sem.run_pure,p1,p2,p3,p4,q0,q1,q2,Sem.run_bind,Result.andThen_ok,h1,h2,h3,h4,ne_eq,not_false_eq_true,if_true,if_false,Bool.false_eq_true,Bool.and_true,Bool.true_and,Bool.and_false,Bool.false_and,Bool.not_true,Bool.not_false]
theorem Q5(s t:St)(w:World):(binOp .neq 65 (BG s) (BG t)).run Tryz.prog w = .ok (.bool (!CT s t)) w:=by
 unfold BG;rw[run_neq_struct];have:=Gy 9997 s t w;unfold BG at this;rw[this];rfl
end Go.Proofs.YtpohoannggdbjaaGreat
namespace Go.Proofs.YtpohoannggdbjaaGreat
open Lib (hid)
open Go.RowKit
set_option maxRecDepth 100000
theorem Rs(b:Bool)(n:Nat)(f:Nat→Nat)(w:World):(Instr.checkKey b (n+2) 63 (.agg (Cs f).toArray)).run Tryz.prog w = .ok () w:=by
 have hsz:∀ w,(sizeOf 5).run Tryz.prog w = .ok 1 w:=fun _=>by kernel_rfl
 rw[Instr.checkKey];simp only[Sem.run_bind,run_underlying Tryz.underlying63,Result.andThen_ok];have key:∀(l:List Nat),(∀ i∈l,i<64)→((forIn l () fun i _=>do
  let sz ← sizeOf 5
  let v ← part 5 (Cs f).toArray (i*sz)
  Instr.checkKey b (n+1) 5 v
  pure (ForInStep.yield ())):Sem Unit).run Tryz.prog w = .ok () w:=by
  intro l
  induction l with
  | nil=>intro _;rfl
  | cons i l ih=>
    intro hl;have hi:i<64:=hl i List.mem_cons_self;have h1:=E1 (Cs f).toArray i _ (by rw[List.getElem?_toArray];exact DQ f hi) w;have h2:(Instr.checkKey b (n+1) 5 (.int .u8 (f i:Int))).run Tryz.prog w = .ok () w:=MapKept.run_checkKey (d:=.int .u8) Tryz.underlying5 (by simp[MapKept.IsKey]) b n;simp only[List.forIn_cons,Sem.run_bind,hsz,Result.andThen_ok,Nat.mul_one,h1,h2,Sem.run_pure];exact ih (fun k hk=>hl k (List.mem_cons_of_mem _ hk))
 have hr:=key (List.range 64) (fun i hi=>List.mem_range.1 hi);simp only[Std.Legacy.Range.forIn_eq_forIn_range',Std.Legacy.Range.size,Nat.sub_zero,Nat.add_sub_cancel,Nat.div_one];rw[List.range_eq_range'] at hr;exact hr
theorem RB(b:Bool)(n:Nat)(s:St)(w:World):(Instr.checkKey b (n+3) 65 (BG s)).run Tryz.prog w = .ok () w:=by
 have p0:∀(s:St) w,(part 33 (Ai s).toArray 0).run Tryz.prog w = .ok (.int .u64 (s.lk:Int)) w:=fun s w=>BT _ (fun _=>by kernel_rfl) _ _ _ rfl w
 have p1:∀(s:St) w,(part 33 (Ai s).toArray 1).run Tryz.prog w = .ok (.int .u64 (s.us:Int)) w:=fun s w=>BT _ (fun _=>by kernel_rfl) _ _ _ rfl w
 have p2:∀(s:St) w,(part 33 (Ai s).toArray 2).run Tryz.prog w = .ok (.int .u64 (s.ca:Int)) w:=fun s w=>BT _ (fun _=>by kernel_rfl) _ _ _ rfl w
 have p3:=Fd;have p4:∀(s:St) w,(part 29 (Ai s).toArray 67).run Tryz.prog w = .ok (.int .u32 (s.pt:Int)) w:=fun s w=>BT _ (fun _=>by kernel_rfl) _ _ _ (by rw[List.getElem?_toArray];exact GL s) w
 have c0:∀(a:Int) w,(Instr.checkKey b (n+2) 33 (.int .u64 a)).run Tryz.prog w = .ok () w:=fun a w=>MapKept.run_checkKey (d:=.int .u64) Tryz.underlying33 (by simp[MapKept.IsKey]) b (n+1)
 have c1:∀(a:Int) w,(Instr.checkKey b (n+2) 29 (.int .u32 a)).run Tryz.prog w = .ok () w:=fun a w=>MapKept.run_checkKey (d:=.int .u32) Tryz.underlying29 (by simp[MapKept.IsKey]) b (n+1)
 have c2:=Rs b n;unfold BG;rw[Instr.checkKey];simp only[Sem.run_bind,run_underlying Tryz.underlying65,Result.andThen_ok];simp only[← Array.forIn_toList,List.forIn_cons,List.forIn_nil,ne_eq,String.reduceEq,not_false_eq_true,if_true,Sem.run_bind,p0,p1,p2,p3,p4,c0,c1,c2,Result.andThen_ok,Sem.run_pure]
theorem LO:∀(n:Nat) (l:List Value),(∀ v∈l,∃ k a,v = .int k a)→(l.zip l).all (fun(x,y)=>Instr.sameBits n x y)=true:=by
 intro n l h
 induction l with
 | nil=>rfl
 | cons v l ih=>
   rw[List.zip_cons_cons,List.all_cons,ih (fun u hu=>h u (List.mem_cons_of_mem _ hu)),Bool.and_true];obtain⟨k,a,rfl⟩:=h v List.mem_cons_self;unfold Instr.sameBits;simp
theorem Pd(s:St):∀ v∈Ai s,∃ k a,v=Value.int k a:=by
 intro v hv;unfold Ai Cs at hv;simp only[List.mem_cons,List.mem_append,List.mem_map,List.not_mem_nil,or_false] at hv;rcases hv with rfl | rfl | rfl | ⟨_,_,rfl⟩ | rfl<;>exact⟨_,_,rfl⟩
theorem Pq(s:St):Instr.sameBits 10000 (BG s) (BG s)=true:=by
 unfold BG;rw[Instr.sameBits];rw[LO _ _ (Pd s)];simp
theorem MJ(s:St)(w:World):(Instr.keyThatStays (BG s) (BG s)).run Tryz.prog w = .ok (BG s) w:=by
 unfold Instr.keyThatStays;rw[Pq,if_pos rfl];rfl
theorem Dc{s t:St}:CT s t=true↔BG s=BG t:=by
 constructor
 ·intro h;unfold CT at h;simp only[Bool.and_eq_true,beq_iff_eq,List.all_eq_true,List.mem_range] at h;obtain⟨h1,h2,h3,h4,h5⟩:=h;have:Cs s.tm=Cs t.tm:=by
   unfold Cs;exact List.map_congr_left (fun n hn=>by rw[h4 n (List.mem_range.1 hn)])
  unfold BG Ai;rw[h1,h2,h3,h5,this]
 ·intro h;unfold BG at h;injection h with h
  have h:Ai s=Ai t:=by simpa using congrArg Array.toList h
  have hp:(Ai s)[67]?=(Ai t)[67]?:=by rw[h]
  rw[GL,GL] at hp;have ht:∀ n,n<64→s.tm n=t.tm n:=fun n hn=>by
   have h3:(Ai s)[3+n]?=(Ai t)[3+n]?:=by rw[h]
   rw[Ml _ hn,Ml _ hn] at h3;have h4:(s.tm n:Int)=(t.tm n:Int):=by simpa using h3
   omega
  have h0:(Ai s)[0]?=(Ai t)[0]?:=by rw[h]
  have h1:(Ai s)[1]?=(Ai t)[1]?:=by rw[h]
  have h2:(Ai s)[2]?=(Ai t)[2]?:=by rw[h]
  unfold Ai at h0 h1 h2;simp at h0 h1 h2 hp;unfold CT;simp only[Bool.and_eq_true,beq_iff_eq,List.all_eq_true,List.mem_range];exact⟨by omega,by omega,by omega,ht,by omega⟩
def Cm(w:World)(r:Nat)(K:List St):Prop:=∃ es clock,w.heap[r]?=some (.map es clock)∧es.toList.map (fun e=>(e.key,e.val))=K.map (fun s=>(BG s,Value.bool true))∧K.Pairwise (fun s t=>CT s t=false)∧(es.toList.map (·.born)).Nodup∧∀ e∈es.toList,e.born<clock
theorem Cm.below{w w':World}{r:Nat}{K:List St}(h:Cm w r K)(hb:Below w.heap.size w w'):Cm w' r K:=by
 obtain⟨es,clock,h1,h2⟩:=h;exact⟨es,clock,A5 hb h1,h2⟩
theorem JV(s:St)(w:World):∀(es:List MapEntry) (K:List St) (i:Nat),es.map (fun e=>(e.key,e.val))=K.map (fun s=>(BG s,Value.bool true))→
 ((∀ t∈K,CT s t=false)∧(Instr.findAsking 65 (BG s) es i).run Tryz.prog w = .ok none w)∨∃ j t e,K[j]?=some t∧es[j]?=some e∧CT s t=true∧(Instr.findAsking 65 (BG s) es i).run Tryz.prog w = .ok (some (i+j,e.val)) w
 | [],K,i,h=>by
   cases K with
   | nil=>exact .inl ⟨fun _ h=>(nomatch h),rfl⟩
   | cons _ _=>simp at h
 | e :: es,K,i,h=>by
   cases K with
   | nil=>simp at h
   | cons t K=>
     rw[List.map_cons,List.map_cons,List.cons.injEq,Prod.mk.injEq] at h;have he:(Op.equal 65 (BG s) e.key).run Tryz.prog w = .ok (CT s t) w:=by rw[h.1.1];exact Gy 9997 s t w
     cases hb:CT s t with
     | true=>
       refine .inr ⟨0,t,e,rfl,rfl,hb,?_⟩;unfold Instr.findAsking;simp only[Sem.run_bind,he,hb,Result.andThen_ok,if_true,Sem.run_pure,Nat.add_zero]
     | false=>
       have hs:(Instr.findAsking 65 (BG s) (e :: es) i).run Tryz.prog w=(Instr.findAsking 65 (BG s) es (i+1)).run Tryz.prog w:=by
        rw[Instr.findAsking];simp only[Sem.run_bind,he,hb,Result.andThen_ok,Bool.false_eq_true,if_false]
       rcases JV s w es K (i+1) h.2 with ⟨h1,h2⟩ | ⟨j,t',e',h1,h2,h3,h4⟩
       ·refine .inl ⟨fun u hu=>?_,by rw[hs,h2]⟩;rcases List.mem_cons.1 hu with rfl | hu
        ·exact hb
        ·exact h1 u hu
       ·exact .inr ⟨j+1,t',e',h1,h2,h3,by rw[hs,h4,show i+1+j=i+(j+1) by omega]⟩
theorem Qz(s:St)(w:World)(es:Array MapEntry)(K:List St)(h:es.toList.map (fun e=>(e.key,e.val))=K.map (fun s=>(BG s,Value.bool true))) :
 ((∀ t∈K,CT s t=false)∧(Instr.findKey 65 (BG s) es.toList).run Tryz.prog w = .ok none w)∨∃ j t e,K[j]?=some t∧es[j]?=some e∧CT s t=true∧(Instr.findKey 65 (BG s) es.toList).run Tryz.prog w = .ok (some (j,e.val)) w:=by
 have hu:=run_underlying (w:=w) Tryz.underlying65;have hfk:(Instr.findKey 65 (BG s) es.toList).run Tryz.prog w=(Instr.findAsking 65 (BG s) es.toList 0).run Tryz.prog w:=by
  unfold Instr.findKey;simp only[Sem.run_bind,hu,Result.andThen_ok];cases es.toList with
  | nil=>rfl
  | cons e l=>rfl
 rw[hfk];rcases JV s w es.toList K 0 h with h1 | ⟨j,t,e,h1,h2,h3,h4⟩
 ·exact .inl h1
 ·exact .inr ⟨j,t,e,h1,by simpa using h2,h3,by rw[h4,Nat.zero_add]⟩
def Bt(K:List St)(s:St):List St:=if K.any (CT s) then K else K ++ [s]
theorem DI{w:World}{r:Nat}{K:List St}(s:St)(h:Cm w r K):∃ w',(Instr.mapUpdate 78 (.map (some r)) (BG s) (.bool true)).run Tryz.prog w = .ok () w'∧Cm w' r (Bt K s)∧Ag r w w':=by
 obtain⟨es,clock,h1,h2,h3,h4,h5⟩:=h;have hc:=RB false 9997 s w;rcases Qz s w es K h2 with ⟨g1,g2⟩ | ⟨j,t,e,g1,g2,g3,g4⟩
 ·have ha:Bt K s=K ++ [s]:=by
   unfold Bt;rw[if_neg];rw[List.any_eq_true];rintro⟨t,ht,h⟩;rw[g1 t ht] at h;cases h
  refine⟨{ w with heap:=w.heap.setIfInBounds r (.map (es.push { key:=BG s,val:=.bool true,born:=clock }) (clock+1)) },?_,?_,?_⟩
  ·simp[Instr.mapUpdate,run_underlying Tryz.underlying78,MapKept.run_getObj_map h1,hc,g2,MapKept.run_setObj_map _ h1,Result.andThen]
  ·rw[ha];refine⟨_,_,(MapKept.heap_set h1).1,by rw[Array.toList_push,List.map_append,h2,List.map_append];rfl,?_,?_,?_⟩
   ·rw[List.pairwise_append];refine⟨h3,by simp,fun a hma b hb=>?_⟩;rw[List.mem_singleton] at hb;subst hb;have:=g1 a hma;cases hh:CT a b with
    | false=>rfl
    | true=>
      have h6:=Dc.1 hh;rw[Dc.2 h6.symm] at this;cases this
   ·rw[Array.toList_push,List.map_append];refine List.nodup_append.2 ⟨h4,by simp,?_⟩;intro a ha b hb;simp at hb;obtain⟨x,hx,rfl⟩:=List.mem_map.1 ha;have:=h5 x hx;omega
   ·intro x hx;rw[Array.toList_push] at hx;rcases List.mem_append.1 hx with hx | hx
    ·have:=h5 x hx;omega
    ·rw[List.mem_singleton] at hx;subst hx;exact Nat.lt_succ_self _
  ·exact⟨rfl,rfl,rfl,by simp,fun k _ hk=>(MapKept.heap_set h1).2 k hk⟩
 ·have ha:Bt K s=K:=by
   unfold Bt;rw[if_pos];exact List.any_eq_true.2 ⟨t,List.mem_of_getElem? g1,g3⟩
  have hst:=Dc.1 g3;have hek:e.key=BG s∧e.val = .bool true:=by
   have h6:(es.toList.map (fun e=>(e.key,e.val)))[j]?=some (e.key,e.val):=by rw[List.getElem?_map,Array.getElem?_toList,g2];rfl
   rw[h2,List.getElem?_map,g1] at h6;injection h6 with h6
   injection h6 with h7 h8
   exact⟨by rw[← h7,hst],h8.symm⟩
  have hk:=MJ s w;refine⟨{ w with heap:=w.heap.setIfInBounds r (.map (es.modify j fun e'=>{ e' with key:=BG s,val:=.bool true }) clock) },?_,?_,?_⟩
  ·simp[Instr.mapUpdate,run_underlying Tryz.underlying78,MapKept.run_getObj_map h1,hc,g4,g2,hek.1,hk,MapKept.run_setObj_map _ h1,Result.andThen]
  ·rw[ha];have hmod:es.modify j (fun e'=>{ e' with key:=BG s,val:=.bool true })=es:=by
    apply Array.ext_getElem?
    intro i;rw[Array.getElem?_modify];by_cases hij:j=i
    ·subst hij;rw[if_pos rfl,g2];obtain⟨ek,ev,eb⟩:=e;obtain⟨rfl,rfl⟩:=hek;rfl
    ·rw[if_neg hij]
   rw[hmod];exact⟨_,_,(MapKept.heap_set h1).1,h2,h3,h4,h5⟩
  ·exact⟨rfl,rfl,rfl,by simp,fun k _ hk=>(MapKept.heap_set h1).2 k hk⟩
end Go.Proofs.YtpohoannggdbjaaGreat
namespace Go.Proofs.YtpohoannggdbjaaGreat
open Lib (hid)
open Go.RowKit
open Go.ChangeMaps (setBlock)
set_option maxRecDepth 100000
def Ey(w:World)(it m:Nat)(K L:List St):Prop:=∃ es clock since seen c0,w.heap[it]?=some (.mapIter (some m) since seen c0)∧w.heap[m]?=some (.map es clock)∧es.toList.map (fun e=>(e.key,e.val))=K.map (fun s=>(BG s,Value.bool true))∧(es.toList.map (·.born)).Nodup∧(∀ x∈es.toList,x.born<since)∧since≤c0∧since≤clock∧(leftOf es seen).toList.map (·.key)=L.map BG
theorem Ey.keep{w w':World}{it m:Nat}{K L:List St}(h:Ey w it m K L)(h1:w'.heap[it]?=w.heap[it]?)(h2:w'.heap[m]?=w.heap[m]?):Ey w' it m K L:=by
 obtain⟨es,clock,since,seen,c0,a1,a2,a3⟩:=h;exact⟨es,clock,since,seen,c0,by rw[h1];exact a1,by rw[h2];exact a2,a3⟩
theorem Ey.lt{w:World}{it m:Nat}{K L:List St}(h:Ey w it m K L):it<w.heap.size∧m<w.heap.size∧it≠m:=by
 obtain⟨es,clock,since,seen,c0,a1,a2,_⟩:=h;refine⟨Af a1,Af a2,?_⟩;rintro rfl;rw[a1] at a2;cases a2
theorem L0(es:Array MapEntry):(leftOf es #[]).toList=es.toList:=by
 unfold leftOf;rw[Array.toList_filter];exact List.filter_eq_self.2 (fun x _=>by simp)
theorem LG(es:Array MapEntry)(seen:Array Nat)(b:Nat):(leftOf es (seen.push b)).toList=(leftOf es seen).toList.filter (fun e=>e.born != b):=by
 unfold leftOf;rw[Array.toList_filter,Array.toList_filter,List.filter_filter]
 congr 1
 funext e
 rw[Bool.eq_iff_iff];simp only[Bool.not_eq_true',Bool.and_eq_true,bne_iff_ne,ne_eq,← Bool.not_eq_true,Array.contains_iff_mem,Array.mem_push,not_or];exact And.comm
theorem EN{w:World}{m:Nat}{K:List St}(h:Cm w m K) :
 ∃ o,(Instr.range 78 (.map (some m))).run Tryz.prog w = .ok (.pointer (some ⟨w.heap.size,0,none⟩)) (w.alloc o)∧Ey (w.alloc o) w.heap.size m K K:=by
 obtain⟨es,clock,h1,h2,h3,h4,h5⟩:=h;refine⟨.mapIter (some m) clock #[] clock,?_,es,clock,clock,#[],clock,Ao w _ (Below.refl _ _),A5 (Ac w _) h1,h2,h4,h5,Nat.le_refl _,Nat.le_refl _,?_⟩
 ·exact run_range_map w 78 65 4 m es clock Tryz.underlying78 h1
 ·rw[L0];have h6:=congrArg (List.map Prod.fst) h2;rw[List.map_map,List.map_map] at h6;exact h6
theorem EB:∀ {l:List MapEntry} {j:Nat} {e:MapEntry},l[j]?=some e→(l.map (·.born)).Nodup→l.filter (fun x=>x.born != e.born)=l.eraseIdx j
 | [],j,e,h,_=>by simp at h
 | a :: l,0,e,h,hn=>by
   rw[List.map_cons,List.nodup_cons] at hn;have he:a=e:=by simpa using h
   subst he;rw[List.filter_cons,if_neg (by simp),List.eraseIdx_cons_zero];refine List.filter_eq_self.2 (fun x hx=>?_);simp only[bne_iff_ne,ne_eq];intro h;exact hn.1 (List.mem_map.2 ⟨x,hx,h⟩)
 | a :: l,j+1,e,h,hn=>by
   rw[List.map_cons,List.nodup_cons] at hn;have h:l[j]?=some e:=by simpa using h
   have hne:a.born≠e.born:=fun hh=>hn.1 (List.mem_map.2 ⟨e,List.mem_of_getElem? h,hh.symm⟩)
   rw[List.filter_cons,if_pos (by simpa using hne),List.eraseIdx_cons_succ,EB h hn.2]
theorem F2{α β:Type}(f:α→β):∀(l:List α) (j:Nat),(l.eraseIdx j).map f=(l.map f).eraseIdx j
 | [],j=>by simp
 | a :: l,0=>rfl
 | a :: l,j+1=>by rw[List.eraseIdx_cons_succ,List.map_cons,List.map_cons,List.eraseIdx_cons_succ,F2 f l j]
theorem G0{α:Type}:∀ {l:List α} {j:Nat} {s:α},l[j]?=some s→l.Perm (s :: l.eraseIdx j)
 | [],j,s,h=>by simp at h
 | a :: l,0,s,h=>by
   have h:a=s:=by simpa using h
   rw[h];exact List.Perm.refl _
 | a :: l,j+1,s,h=>by
   have h:l[j]?=some s:=by simpa using h
   exact((G0 h).cons a).trans (List.Perm.swap s a _)
theorem Fk{w:World}{it m:Nat}{K L:List St}(ty:TypeId)(h:Ey w it m K L) :
 (L=[]∧(Instr.next (.pointer (some ⟨it,0,none⟩)) false ty).run Tryz.prog w = .ok (.tuple #[.bool false]) w)∨
 ∃ s L' w',L.Perm (s :: L')∧(Instr.next (.pointer (some ⟨it,0,none⟩)) false ty).run Tryz.prog w = .ok (.tuple #[.bool true,BG s,.bool true]) w'∧Ey w' it m K L'∧Ag it w w'∧w'.heap.size=w.heap.size∧(Instr.entry (.pointer (some ⟨it,0,none⟩))).run Tryz.prog w' = .ok (.tuple #[BG s,.bool true]) w':=by
 have hlt:=h.lt;obtain⟨es,clock,since,seen,c0,a1,a2,a3,a4,a5,a6,a7,a8⟩:=h;rcases run_next_at (P:=Tryz.prog) w ty it m since c0 seen es clock a1 a2 a5 a6 with ⟨h0,hr⟩ | ⟨e,he,w1,hw1,hr⟩
 ·refine .inl ⟨?_,hr⟩;have hl:(leftOf es seen).toList=[]:=by
   apply List.eq_nil_of_length_eq_zero;rw[Array.length_toList];exact h0
  rw[hl] at a8;cases L with
  | nil=>rfl
  | cons _ _=>simp at a8
 ·right;have hsub:(leftOf es seen).toList.Sublist es.toList:=by unfold leftOf;rw[Array.toList_filter];exact List.filter_sublist
  have hmem:e∈es.toList:=hsub.subset he;have hn:((leftOf es seen).toList.map (·.born)).Nodup:=(hsub.map _).nodup a4;obtain⟨j,hj⟩:=List.getElem?_of_mem he;have hkj:((leftOf es seen).toList.map (·.key))[j]?=some e.key:=by rw[List.getElem?_map,hj];rfl
  rw[a8,List.getElem?_map] at hkj;obtain⟨s,hsL,hsk⟩:∃ s,L[j]?=some s∧BG s=e.key:=by
   cases hl:L[j]? with
   | none=>rw[hl] at hkj;cases hkj
   | some s=>rw[hl] at hkj;exact⟨s,rfl,Option.some.inj hkj⟩
  have hev:e.val = .bool true:=by
   have h1:(e.key,e.val)∈es.toList.map (fun e=>(e.key,e.val)):=List.mem_map.2 ⟨e,hmem,rfl⟩;rw[a3] at h1;obtain⟨t,_,ht⟩:=List.mem_map.1 h1;injection ht with h2 h3
   exact h3.symm
  have hM:(leftOf es (seen.push e.born)).toList.map (·.key)=(L.eraseIdx j).map BG:=by
   rw[LG,EB hj hn,F2,a8,F2]
  have hP:L.Perm (s :: L.eraseIdx j):=G0 hsL;have hw1b:∀ k:Nat,w1.heap[k]?=w.heap[k]?:=fun k=>by rcases hw1 with rfl | rfl<;>rfl
  have hwsz:w1.heap.size=w.heap.size:=by rcases hw1 with rfl | rfl<;>rfl
  have b1:(setBlock w1 it (.mapIter (some m) since (seen.push e.born) clock)).heap[it]?=some (.mapIter (some m) since (seen.push e.born) clock):=by
   show(w1.heap.setIfInBounds it _)[it]?=_;rw[Array.getElem?_setIfInBounds_self_of_lt (by rw[hwsz];exact hlt.1)]
  have b2:(setBlock w1 it (.mapIter (some m) since (seen.push e.born) clock)).heap[m]?=some (.map es clock):=by
   show(w1.heap.setIfInBounds it _)[m]?=_;rw[Array.getElem?_setIfInBounds_ne hlt.2.2,hw1b];exact a2
  have hen:=run_entry_at (P:=Tryz.prog) _ it m since seen es clock e b1 b2 hmem a4;rw[← hsk,hev] at hr hen;refine⟨s,L.eraseIdx j,_,hP,hr,⟨es,clock,since,seen.push e.born,clock,b1,b2,a3,a4,a5,a7,a7,hM⟩,?_,?_,hen⟩
  ·refine⟨by rcases hw1 with rfl | rfl<;>rfl,by rcases hw1 with rfl | rfl<;>rfl,by rcases hw1 with rfl | rfl<;>rfl,?_,fun k _ hk=>?_⟩
   ·show w.heap.size≤(w1.heap.setIfInBounds it _).size;rw[Array.size_setIfInBounds,hwsz];exact Nat.le_refl _
   ·show(w1.heap.setIfInBounds it _)[k]?=_;rw[Array.getElem?_setIfInBounds_ne (fun e=>hk e.symm),hw1b]
  ·show(w1.heap.setIfInBounds it _).size=_;rw[Array.size_setIfInBounds,hwsz]
end Go.Proofs.YtpohoannggdbjaaGreat
