/- Ours: IyR; MoL; MoN. -/
import Derived.Test.YtpohoannggdbjaaGreatMoC
import Derived.Test.YtpohoannggdbjaaGreatMA
import Derived.Test.YtpohoannggdbjaaGreatMoI
import Derived.Test.YtpohoannggdbjaaGreatMC
set_option maxRecDepth 100000
set_option maxHeartbeats 200000000
namespace Go.Proofs.YtpohoannggdbjaaGreat
open Lib (hid)
open Go.RowKit
section
theorem MT{a:Int}(h:(Lit.int .u64 a).wf=true):∃ n:Nat,a=n∧n<18446744073709551616:=by have:=bounds_u64 h;exact⟨a.toNat,by omega,by omega⟩
theorem JL{a:Int}(h:(Lit.int .u32 a).wf=true):∃ n:Nat,a=n∧n<4294967296:=by have:=bounds_u32 h;exact⟨a.toNat,by omega,by omega⟩
theorem Ue{a:Int}(h:(Lit.int .u8 a).wf=true):∃ n:Nat,a=n∧n≤255:=by have:=bounds_u8 h;exact⟨a.toNat,by omega,by omega⟩
theorem Td{w:World}{cs:List Value}(h:Rd Tryz.prog w 31 cs):∃(k:Nat) (n:Int),cs=[.int .u8 (k:Int),.int .i64 n]∧k<256∧-9223372036854775808≤n∧n≤9223372036854775807:=by
 obtain⟨hl,hf⟩:=h.fields (L:=[(5,0),(3,1)]) (by kernel_rfl) (by kernel_rfl);rw[show Tryz.prog.cellsOf 31=2 by kernel_rfl] at hl
 match cs,hl with
 | [x,y],_=>
   have h0:=hf (5,0) (by simp);have h1:=hf (3,1) (by simp);simp only[show Tryz.prog.cellsOf 5=1 by kernel_rfl,show Tryz.prog.cellsOf 3=1 by kernel_rfl] at h0 h1;obtain⟨a,ha,wa⟩:=h0.int Tryz.underlying5;obtain⟨b,hb,wb⟩:=h1.int Tryz.underlying3;simp at ha hb;obtain⟨k,rfl,hk⟩:=Ue wa;have:=bounds_i64 wb;exact⟨k,b,by rw[ha,hb],by omega,this.1,by omega⟩
theorem QG{w:World}{a:Option Addr}{len cap:Nat}(h:Rd Tryz.prog w 32 [.slice a len cap]):∃ l:List (Nat × Int),l.length=len∧len≤maxLen∧CZ w a l∧(a=none→cap=0)∧len≤cap∧cap≤maxLen:=by
 rcases h.slice Tryz.underlying32 with h | ⟨x,n,c,h,hlc,hcm,hel⟩
 ·simp only[List.cons.injEq,Value.slice.injEq,and_true] at h;obtain⟨rfl,rfl,rfl⟩:=h;exact⟨[],rfl,Nat.zero_le _,⟨fun _ h=>(nomatch h),.inl rfl⟩,fun _=>rfl,Wc _,Nat.zero_le _⟩
 ·simp only[List.cons.injEq,Value.slice.injEq,and_true] at h;obtain⟨rfl,rfl,rfl⟩:=h;have hsz:Tryz.prog.cellsOf 31=2:=(by kernel_rfl);have H:∀ i,i<len→∃ c:Nat × Int,(c.1<256∧-9223372036854775808≤c.2∧c.2≤9223372036854775807)∧w.cell? ((x.add (i*2)).add 0)=some (.int .u8 (c.1:Int))∧w.cell? ((x.add (i*2)).add 1)=some (.int .i64 c.2):=by
   intro i hi;obtain⟨ecs,he,hr⟩:=hel i (by omega);rw[hsz] at he;obtain⟨k,n,rfl,hk,hn1,hn2⟩:=Td hr;obtain⟨_,hg⟩:=Ic he;obtain⟨v0,g0,c0⟩:=hg 0 (by omega);obtain⟨v1,g1,c1⟩:=hg 1 (by omega);simp at g0 g1;subst g0;subst g1;exact⟨(k,n),⟨hk,hn1,hn2⟩,c0,c1⟩
  obtain⟨l,hl,hq⟩:=Mm len H;refine⟨l,hl,Wd hlc hcm,⟨fun c hc=>?_,?_⟩,(fun h=>by cases h),hlc,hcm⟩
  ·obtain⟨i,hi⟩:=List.getElem?_of_mem hc;exact(hq i c hi).1
  ·rcases l with _ | ⟨c0,l⟩
   ·exact .inl rfl
   ·right;have h0:=(hq 0 c0 rfl).2.1;have hs:x.spot=none:=World.cell?_spot (show w.cell? x=some _ by simpa [Addr.add] using h0);obtain⟨b,off,spot⟩:=x;subst hs;refine⟨b,off,rfl,fun i c hi=>?_⟩;obtain⟨_,q1,q2⟩:=hq i c hi;simp only[Addr.add_lit,Wa] at q1 q2;exact⟨q1,q2⟩
theorem OT{w:World}{c:Array Value}(h:Rd Tryz.prog w 35 c.toList):∃(o n r:Nat) (a:Option Addr) (len cap:Nat) (l:List (Nat × Int)),
 c = #[.int .u64 (o:Int),.int .u32 (n:Int),.int .u32 (r:Int),.slice a len cap]∧o<18446744073709551616∧n<4294967296∧r<4294967296∧l.length=len∧len≤maxLen∧CZ w a l∧(a=none→cap=0)∧len≤cap∧cap≤maxLen:=by
 obtain⟨hl,hf⟩:=h.fields (L:=[(33,0),(29,1),(29,2),(32,3)]) (by kernel_rfl) (by kernel_rfl);rw[show Tryz.prog.cellsOf 35=4 by kernel_rfl] at hl
 match hc:c.toList,hl with
 | [x,y,z,t],_=>
   rw[hc] at hf;have h0:=hf (33,0) (by simp);have h1:=hf (29,1) (by simp);have h2:=hf (29,2) (by simp);have h3:=hf (32,3) (by simp);simp only[show Tryz.prog.cellsOf 33=1 by kernel_rfl,show Tryz.prog.cellsOf 29=1 by kernel_rfl,show Tryz.prog.cellsOf 32=1 by kernel_rfl] at h0 h1 h2 h3;obtain⟨o,ho,wo⟩:=h0.int Tryz.underlying33;obtain⟨n,hn,wn⟩:=h1.int Tryz.underlying29;obtain⟨r,hr,wr⟩:=h2.int Tryz.underlying29;have hsl:=h3.slice Tryz.underlying32;simp at ho hn hr;subst ho;subst hn;subst hr;obtain⟨o,rfl,ho⟩:=MT wo;obtain⟨n,rfl,hn⟩:=JL wn;obtain⟨r,rfl,hr⟩:=JL wr;have hform:∃ a len cap,t = .slice a len cap:=by
    rcases hsl with h | ⟨x,n,c,h,_⟩
    ·simp at h;exact⟨_,_,_,h⟩
    ·simp at h;exact⟨_,_,_,h⟩
   obtain⟨a,len,cap,rfl⟩:=hform;obtain⟨l,hl1,hl2,hl3,hl4⟩:=QG (a:=a) (len:=len) (cap:=cap) (by simpa using h3);exact⟨o,n,r,a,len,cap,l,I0 hc,ho,hn,hr,hl1,hl2,hl3,hl4⟩
end
section
theorem UI{w:World}{cs:List Value}(h:Rd Tryz.prog w 35 cs):∃ c:Iv,cs=DV c∧Ci w c:=by
 obtain⟨o,n,r,a,len,cap,l,hc,ho,hn,hr,hl,_,hcm,_,hlc,_⟩:=OT (c:=cs.toArray) h;exact⟨⟨o,n,r,a,len,cap,l⟩,congrArg Array.toList hc,⟨ho,hn,hr⟩,hl,hlc,hcm⟩
theorem Tw{w:World}{cs:List Value}(h:Rd Tryz.prog w 36 cs):∃ s:Sl Iv,cs=[s.v]∧B7 4 DV w s∧∀ c∈s.l,Ci w c:=Gi (f:=DV) (sz:=4) Tryz.underlying36 (by kernel_rfl) (by decide) (fun _=>rfl) (fun _ h=>UI h) h
theorem Vi{w:World}{cs:List Value}(h:Rd Tryz.prog w 46 cs):∃ c:Sh,cs=Cx c∧True:=by
 obtain⟨hl,hf⟩:=h.fields (L:=[(4,0),(44,1)]) (by kernel_rfl) (by kernel_rfl);rw[show Tryz.prog.cellsOf 46=3 by kernel_rfl] at hl
 match cs,hl with
 | [x,y,z],_=>
   have h0:=hf (4,0) (by simp);have h1:=hf (44,1) (by simp);simp only[show Tryz.prog.cellsOf 4=1 by kernel_rfl,show Tryz.prog.cellsOf 44=2 by kernel_rfl] at h0 h1;obtain⟨b,hb⟩:=h0.bool Tryz.underlying4;obtain⟨_,hf2⟩:=h1.fields (L:=[(33,0),(29,1)]) (by kernel_rfl) (by kernel_rfl);have g0:=hf2 (33,0) (by simp);have g1:=hf2 (29,1) (by simp);simp only[show Tryz.prog.cellsOf 33=1 by kernel_rfl,show Tryz.prog.cellsOf 29=1 by kernel_rfl] at g0 g1;obtain⟨p,hp,wp⟩:=g0.int Tryz.underlying33;obtain⟨q,hq,wq⟩:=g1.int Tryz.underlying29;obtain⟨p,rfl,_⟩:=MT wp;obtain⟨q,rfl,_⟩:=JL wq;simp at hb hp hq;exact⟨⟨b,p,q⟩,by rw[hb,hp,hq];rfl,trivial⟩
theorem U5{w:World}{cs:List Value}(h:Rd Tryz.prog w 42 cs):∃ s:Sl Sh,cs=[s.v]∧B7 3 Cx w s∧∀ c∈s.l,True:=Gi (f:=Cx) (sz:=3) Tryz.underlying42 (by kernel_rfl) (by decide) (fun _=>rfl) (fun _ h=>Vi h) h
def EK:Sh:=⟨true,0,0⟩
def RO:Sh:=⟨false,0,0⟩
def Bu(n i:Nat):List Value:=(List.replicate i EK).flatMap Cx ++ (List.replicate (n - i) RO).flatMap Cx
theorem GS:(Tryz.prog.info? 46).map (fun i=>(i.zero,i.size,i.bytes))=some (some (.agg #[.bool false,.int .u64 0,.int .u32 0]),3,24):=by kernel_rfl
theorem Rl:madeCells (Value.agg #[.bool false,.int .u64 0,.int .u32 0]).cells (0*3)=(Bu 0 0).toArray:=by kernel_rfl
theorem Rm:madeCells (Value.agg #[.bool false,.int .u64 0,.int .u32 0]).cells (1*3)=(Bu 1 0).toArray:=by kernel_rfl
theorem Rn:madeCells (Value.agg #[.bool false,.int .u64 0,.int .u32 0]).cells (2*3)=(Bu 2 0).toArray:=by kernel_rfl
theorem Ro:madeCells (Value.agg #[.bool false,.int .u64 0,.int .u32 0]).cells (3*3)=(Bu 3 0).toArray:=by kernel_rfl
theorem Rp:madeCells (Value.agg #[.bool false,.int .u64 0,.int .u32 0]).cells (4*3)=(Bu 4 0).toArray:=by kernel_rfl
theorem Rq:madeCells (Value.agg #[.bool false,.int .u64 0,.int .u32 0]).cells (5*3)=(Bu 5 0).toArray:=by kernel_rfl
theorem Rr:madeCells (Value.agg #[.bool false,.int .u64 0,.int .u32 0]).cells (6*3)=(Bu 6 0).toArray:=by kernel_rfl
theorem Rs:madeCells (Value.agg #[.bool false,.int .u64 0,.int .u32 0]).cells (7*3)=(Bu 7 0).toArray:=by kernel_rfl
theorem Ru:madeCells (Value.agg #[.bool false,.int .u64 0,.int .u32 0]).cells (8*3)=(Bu 8 0).toArray:=by kernel_rfl
theorem Rv:madeCells (Value.agg #[.bool false,.int .u64 0,.int .u32 0]).cells (9*3)=(Bu 9 0).toArray:=by kernel_rfl
theorem P9:madeCells (Value.agg #[.bool false,.int .u64 0,.int .u32 0]).cells (10*3)=(Bu 10 0).toArray:=by kernel_rfl
theorem Rx(n:Nat)(h:n≤10):madeCells (Value.agg #[.bool false,.int .u64 0,.int .u32 0]).cells (n*3)=(Bu n 0).toArray:=by
 have hn:n=0∨n=1∨n=2∨n=3∨n=4∨n=5∨n=6∨n=7∨n=8∨n=9∨n=10:=by omega
 rcases hn with rfl | rfl | rfl | rfl | rfl | rfl | rfl | rfl | rfl | rfl | rfl
 ·exact Rl
 ·exact Rm
 ·exact Rn
 ·exact Ro
 ·exact Rp
 ·exact Rq
 ·exact Rr
 ·exact Rs
 ·exact Ru
 ·exact Rv
 ·exact P9
theorem Mn(n:Nat)(h:n≤10)(w:World):(Instr.makeSlice 42 (.int .i64 (n:Int)) (.int .i64 (n:Int))).run Tryz.prog w = .ok (.slice (some ⟨w.heap.size,0,none⟩) n n) (w.alloc (.cells (Bu n 0).toArray 46)):=by
 obtain⟨i0,hi,hz0,hz1,hz2⟩:=info_parts GS;have:=run_makeSlice (P:=Tryz.prog) (w:=w) 42 46 i0 (.agg #[.bool false,.int .u64 0,.int .u32 0]) Tryz.underlying42 hi hz0 .i64 .i64 n n (by omega) (by omega) (by rw[hz1];omega) (by rw[hz2];omega) (by omega);rw[hz1,Int.toNat_natCast] at this;have e:=Rx n h;rw[e] at this;exact this
theorem ML(c:Sh):(Cx c).length=3:=rfl
theorem Gu(i:Nat)(s:Sh):((List.replicate i s).flatMap Cx).length=i*3:=by
 induction i with
 | zero=>rfl
 | succ i ih=>rw[List.replicate_succ,WI,Wh,ih];show 3+i*3=_;omega
theorem NW{n i:Nat}(h:i<n):(Bu n i).toArray.setIfInBounds (i*3) (.bool true)=(Bu n (i+1)).toArray:=by
 obtain⟨d,rfl⟩:∃ d,n=i+1+d:=⟨n - (i+1),by omega⟩;rw[VW]
 congr 1
 unfold Bu;rw[show i+1+d - i=d+1 by omega,show i+1+d - (i+1)=d by omega,List.set_append,if_neg (by rw[Gu];omega),Gu,Nat.sub_self,List.replicate_succ,WI,List.replicate_succ',WA,WI,WO,Wt,Wx];rfl
theorem NV{w:World}{g n:Nat}{t:TypeId}{fr:Nat × Nat}(h:w.heap[g]?=some (.cells (Bu n n).toArray t fr)):As 3 Cx w (some ⟨g,0,none⟩) (List.replicate n EK):=by
 refine CR ML h ?_;show Bu n n=_;unfold Bu;rw[Nat.sub_self];exact Wt _
theorem LK{n i:Nat}(h:i<n):(Bu n i).toArray[i*3]?=some (.bool false):=by
 obtain⟨d,rfl⟩:∃ d,n=i+1+d:=⟨n - (i+1),by omega⟩;rw[WG];unfold Bu;rw[show i+1+d - i=d+1 by omega,WT (by rw[Gu];omega),Gu,Nat.sub_self];rfl
theorem Li(L:AL)(X:List Iv):BH L X (List.replicate X.length EK)=decide ((Ap L).1=0):=by
 unfold BH;rw[List.length_replicate,Wk (rfl:X.length=X.length),WL];cases hc:decide ((Ap L).1=0) with
 | false=>rfl
 | true=>
   rw[WL,Bool.not_eq_true'];have h:=Hd (T:=AW L) (X:=X) (Y:=List.replicate X.length EK) (fun y hy=>by rw[List.eq_of_mem_replicate hy];rfl) X.length;cases he:(AN (AW L) X (List.replicate X.length EK) X.length).isEmpty with
   | false=>rfl
   | true=>exact absurd (List.isEmpty_iff.1 he) h
theorem Ij{L:AL}{X:List Iv}{Y:List Sh}(h:BH L X Y=true){k:Nat}(hk:k≤X.length):X.length=Y.length∧BH L (X.take k) (Y.take k)=true:=by
 unfold BH at h;rw[Wl,Wl,decide_eq_true_eq,decide_eq_true_eq,Bool.not_eq_true',] at h;obtain⟨h1,h2,h3⟩:=h;refine⟨h2,?_⟩;have hl:(X.take k).length=k:=by rw[Wu];omega
 have hl2:(Y.take k).length=k:=by rw[Wu];omega
 rw[DD h1 (hl.trans hl2.symm),hl,He k (Wc _),Bool.not_eq_true'];obtain⟨d,hd⟩:∃ d,X.length=k+d:=⟨X.length - k,by omega⟩;rw[hd] at h3;have h4:=Kz (T:=AW L) (X:=X) (Y:=Y) (k:=k) d (fun e=>by rw[e] at h3;cases h3);cases he:(AN (AW L) X Y k).isEmpty with
 | false=>rfl
 | true=>exact absurd (List.isEmpty_iff.1 he) h4
end
section
def DC(T:Tb)(X:List Iv)(Y:List Sh)(b:Nat):Nat→Option St
 | 0=>some FL
 | i+1=>match DC T X Y b i,X[i]?,Y[i]? with
   | some s,some x,some y=>if Aa b i then (if BS T x y s then some (Ay T x s) else none) else (if y.st then some s else none)
   | r,_,_=>r
theorem Qx(T:Tb)(X:List Iv)(Y:List Sh)(b:Nat):DC T X Y b 0=some FL:=rfl
theorem Fl{T:Tb}{X:List Iv}{Y:List Sh}{b i:Nat}{s:St}{x:Iv}{y:Sh}(h:DC T X Y b i=some s)(hx:X[i]?=some x)(hy:Y[i]?=some y):DC T X Y b (i+1)=if Aa b i then (if BS T x y s then some (Ay T x s) else none) else (if y.st then some s else none):=by
 show(match DC T X Y b i,X[i]?,Y[i]? with
  | some s,some x,some y=>if Aa b i then (if BS T x y s then some (Ay T x s) else none) else (if y.st then some s else none)
  | r,_,_=>r)=_
 rw[h,hx,hy]
theorem IX{T:Tb}{X:List Iv}{Y:List Sh}{b i:Nat}(h:DC T X Y b i=none):∀ d,DC T X Y b (i+d)=none
 | 0=>h
 | d+1=>by
   have h1:=IX h d;show(match DC T X Y b (i+d),X[i+d]?,Y[i+d]? with
    | some s,some x,some y=>if Aa b (i+d) then (if BS T x y s then some (Ay T x s) else none) else (if y.st then some s else none)
    | r,_,_=>r)=_
   rw[h1]
theorem R7{b c i j:Nat}(h:i<j):Aa (b+2 ^ j*c) i=Aa b i:=by
 obtain⟨d,rfl⟩:∃ d,j=i+1+d:=⟨j - (i+1),by omega⟩;rw[AZ,AZ,Nat.testBit_eq_decide_div_mod_eq,Nat.testBit_eq_decide_div_mod_eq,Nat.pow_add,Nat.pow_succ,Nat.mul_assoc,Nat.mul_assoc,Nat.add_mul_div_left _ _ (WP i),Nat.add_mul_mod_self_left]
theorem GC{T:Tb}{X:List Iv}{Y:List Sh}{b c j:Nat}:∀ i,i≤j→DC T X Y (b+2 ^ j*c) i=DC T X Y b i
 | 0,_=>rfl
 | i+1,h=>by
   show(match DC T X Y (b+2 ^ j*c) i,X[i]?,Y[i]? with
    | some s,some x,some y=>if Aa (b+2 ^ j*c) i then (if BS T x y s then some (Ay T x s) else none) else (if y.st then some s else none)
    | r,_,_=>r)=(match DC T X Y b i,X[i]?,Y[i]? with
    | some s,some x,some y=>if Aa b i then (if BS T x y s then some (Ay T x s) else none) else (if y.st then some s else none)
    | r,_,_=>r)
   rw[GC i (by omega),R7 (by omega)]
theorem Jc{b j c:Nat}(h:b<2 ^ j)(hc:c<2):Aa (b+2 ^ j*c) j=decide (c=1):=by
 rw[AZ,Nat.testBit_eq_decide_div_mod_eq,Nat.add_mul_div_left _ _ (WP j),Nat.div_eq_of_lt h,Wq,Nat.mod_eq_of_lt hc]
theorem Hc{T:Tb}{X:List Iv}{Y:List Sh}:∀(i:Nat),i≤X.length→i≤Y.length→∀ s,s∈AN T X Y i↔∃ b,b<2 ^ i∧DC T X Y b i=some s
 | 0,_,_,s=>by
   show s∈[FL]↔_;rw[Wy];constructor
   ·rintro rfl;exact⟨0,by decide,rfl⟩
   ·rintro⟨b,_,h⟩;cases h;rfl
 | i+1,hx,hy,s=>by
   have ih:=Hc (T:=T) (X:=X) (Y:=Y) i (by omega) (by omega);have ex:X[i]?=some (X[i]'(by omega)):=Wb _;have ey:Y[i]?=some (Y[i]'(by omega)):=Wb _;rw[Ed ex ey];unfold BV;rw[List.mem_flatMap];constructor
   ·rintro⟨t,ht,hs⟩;obtain⟨b,hb,hc⟩:=(ih t).1 ht;unfold C6 at hs;rcases WE.1 hs with hs | hs
    ·split at hs
     ·next h1=>
      rw[Wy] at hs;subst hs;refine⟨b+2 ^ i*0,by rw[Nat.pow_succ];omega,?_⟩;rw[Fl ((GC i (Wc _)).trans hc) ex ey,Jc hb (by decide),h1];rfl
     ·cases hs
    ·split at hs
     ·next h1=>
      rw[Wy] at hs;subst hs;refine⟨b+2 ^ i*1,by rw[Nat.pow_succ];omega,?_⟩;rw[Fl ((GC i (Wc _)).trans hc) ex ey,Jc hb (by decide),h1];rfl
     ·cases hs
   ·rintro⟨b,hb,hc⟩;obtain⟨q,c,hq,hc2,rfl⟩:∃ q c,q<2 ^ i∧c<2∧b=q+2 ^ i*c:=⟨b % 2 ^ i,b / 2 ^ i,Nat.mod_lt _ (WP i),Nat.div_lt_of_lt_mul (by rw[Nat.pow_succ] at hb;exact hb),(Nat.mod_add_div b (2 ^ i)).symm⟩;cases h1:DC T X Y q i with
    | none=>
      have h2:DC T X Y (q+2 ^ i*c) (i+1)=none:=IX ((GC i (Wc _)).trans h1) 1;rw[h2] at hc;cases hc
    | some t=>
      rw[Fl ((GC i (Wc _)).trans h1) ex ey,Jc hq hc2] at hc;refine⟨t,(ih t).2 ⟨q,hq,h1⟩,?_⟩;unfold C6;rw[WE];have hcc:c=0∨c=1:=(by omega);rcases hcc with rfl | rfl
      ·have hc:(if (Y[i]'(by omega)).st then some t else none)=some s:=hc;split at hc
       ·next h3=>cases hc;exact .inl (by rw[if_pos h3];exact Wy.2 rfl)
       ·cases hc
      ·have hc:(if BS T (X[i]'(by omega)) (Y[i]'(by omega)) t then some (Ay T (X[i]'(by omega)) t) else none)=some s:=hc;split at hc
       ·next h3=>cases hc;exact .inr (by rw[if_pos h3];exact Wy.2 rfl)
       ·cases hc
def Ek(T:Tb)(X:List Iv)(Y:List Sh)(n:Nat):Nat→List St
 | 0=>[]
 | k+1=>match DC T X Y k n with
   | some s=>Bs (Ek T X Y n k) s
   | none=>Ek T X Y n k
theorem Og(T:Tb)(X:List Iv)(Y:List Sh)(n:Nat):Ek T X Y n 0=[]:=rfl
theorem Fm{T:Tb}{X:List Iv}{Y:List Sh}{n k:Nat}(h:DC T X Y k n=none):Ek T X Y n (k+1)=Ek T X Y n k:=by
 show(match DC T X Y k n with
  | some s=>Bs (Ek T X Y n k) s
  | none=>Ek T X Y n k)=_
 rw[h]
theorem Er{T:Tb}{X:List Iv}{Y:List Sh}{n k:Nat}{s:St}(h:DC T X Y k n=some s):Ek T X Y n (k+1)=Bs (Ek T X Y n k) s:=by
 show(match DC T X Y k n with
  | some s=>Bs (Ek T X Y n k) s
  | none=>Ek T X Y n k)=_
 rw[h]
theorem Gn(T:Tb)(X:List Iv)(Y:List Sh)(n:Nat):∀ k,(Ek T X Y n k).length≤k
 | 0=>Wc _
 | k+1=>by
   have ih:=Gn T X Y n k;cases h:DC T X Y k n with
   | none=>rw[Fm h];omega
   | some s=>rw[Er h];have:=IS (Ek T X Y n k) s;omega
theorem LX(T:Tb)(X:List Iv)(Y:List Sh)(n:Nat):∀(k:Nat) (v:Value),v∈(Ek T X Y n k).map BC↔∃ b,b<k∧∃ s,DC T X Y b n=some s∧BC s=v
 | 0,v=>by
   constructor
   ·intro h;cases h
   ·rintro⟨b,h,_⟩;omega
 | k+1,v=>by
   have ih:=LX T X Y n k v;cases h:DC T X Y k n with
   | none=>
     rw[Fm h,ih];constructor
     ·rintro⟨b,hb,hs⟩;exact⟨b,by omega,hs⟩
     ·rintro⟨b,hb,s,hs,hv⟩;refine⟨b,?_,s,hs,hv⟩;have:b≠k:=(by rintro rfl;rw[h] at hs;cases hs);omega
   | some t=>
     rw[Er h,GA _ t v,List.map_append,WE,ih];constructor
     ·rintro(⟨b,hb,hs⟩ | h2)
      ·exact⟨b,by omega,hs⟩
      ·have h2:v∈[BC t]:=h2;rw[Wy] at h2;exact⟨k,by omega,t,h,h2.symm⟩
     ·rintro⟨b,hb,s,hs,hv⟩;by_cases hbk:b=k
      ·subst hbk;rw[h] at hs;cases hs;right;show v∈[BC t];rw[Wy,hv]
      ·exact .inl ⟨b,by omega,s,hs,hv⟩
theorem GD{T:Tb}{X:List Iv}{Y:List Sh}{n:Nat}(hx:n≤X.length)(hy:n≤Y.length):AP (Ek T X Y n (2 ^ n)) (AN T X Y n):=by
 intro v;rw[LX,List.mem_map];constructor
 ·rintro⟨b,hb,s,hs,hv⟩;exact⟨s,(Hc n hx hy s).2 ⟨b,hb,hs⟩,hv⟩
 ·rintro⟨s,hs,hv⟩;obtain⟨b,hb,hc⟩:=(Hc n hx hy s).1 hs;exact⟨b,hb,s,hc,hv⟩
def Gx(K:List St):Prop:=K.Pairwise (fun s t=>C4 s t=false)
theorem OC{K:List St}(h:Gx K)(s:St):Gx (Bs K s):=by
 unfold Bs;split
 ·exact h
 ·next hk=>
  refine List.pairwise_append.2 ⟨h,List.pairwise_singleton _ _,fun a ha b hb=>?_⟩;rw[Wy] at hb;subst hb;rw[Bool.not_eq_true,WU] at hk;rw[GI];exact Bool.not_eq_true _ ▸ hk a ha
theorem Eu(T:Tb)(X:List Iv)(Y:List Sh)(n:Nat):∀ k,Gx (Ek T X Y n k)
 | 0=>List.Pairwise.nil
 | k+1=>by
   cases h:DC T X Y k n with
   | none=>rw[Fm h];exact Eu T X Y n k
   | some s=>rw[Er h];exact OC (Eu T X Y n k) s
theorem GH{K:List St}(h:Gx K):(K.map BC).Nodup:=by
 unfold List.Nodup;rw[List.pairwise_map];refine h.imp fun {a b} hab e=>?_
 rw[Ck.2 e] at hab;cases hab
theorem Nl{A B:List St}(hA:Gx A)(hB:Gx B)(h:AP A B):(A.map BC).Perm (B.map BC):=(List.perm_ext_iff_of_nodup (GH hA) (GH hB)).2 h
theorem Ka{A B:List St}(hA:Gx A)(hB:Gx B)(h:AP A B):A.length=B.length:=by
 have:=(Nl hA hB h).length_eq;rwa [Ws,Ws] at this
def F4(s:St)(B:List St)(k:Nat):Nat:=(B.take k).countP (C4 s)
theorem Oj(s:St)(B:List St):F4 s B 0=0:=rfl
theorem Oi{s:St}{B:List St}{k:Nat}{t:St}(h:B[k]?=some t):F4 s B (k+1)=if C4 s t then F4 s B k+1 else F4 s B k:=by
 unfold F4;rw[Wp,h,List.countP_append];show _+List.countP (C4 s) [t]=_;rw[List.countP_singleton];split<;>rfl
theorem Te(s:St)(B:List St)(k:Nat):F4 s B k≤k:=Wd List.countP_le_length (by rw[Wu];omega)
theorem JY{s:St}:∀ {B:List St},(∀ t∈B,C4 s t=false)→B.countP (C4 s)=0
 | [],_=>rfl
 | t :: B,h=>by
   rw[List.countP_cons,JY (fun u hu=>h u (WS _ hu)),h t WM];rfl
theorem LY{s:St}:∀ {B:List St},Gx B→BC s∈B.map BC→B.countP (C4 s)=1
 | [],_,h=>by cases h
 | t :: B,hB,h=>by
   obtain⟨h1,h2⟩:=List.pairwise_cons.1 hB;rw[List.countP_cons];by_cases e:C4 s t=true
   ·rw[e,JY (fun u hu=>by
     have h3:=h1 u hu;cases h4:C4 s u with
     | false=>rfl
     | true=>
       rw[Ck.2 ((Ck.1 e).symm.trans (Ck.1 h4))] at h3;cases h3)];rfl
   ·rw[Bool.not_eq_true] at e;have h3:BC s∈BC t :: B.map BC:=h;rcases List.mem_cons.1 h3 with h3 | h3
    ·rw[Ck.2 h3] at e;cases e
    ·rw[e,LY h2 h3];rfl
theorem Oh{A B:List St}(hB:Gx B)(h:AP A B){i:Nat}{s:St}(hi:A[i]?=some s):F4 s B B.length=1:=by
 unfold F4;rw[List.take_length];exact LY hB ((h _).1 (List.mem_map.2 ⟨s,Wf hi,rfl⟩))
end
end Go.Proofs.YtpohoannggdbjaaGreat
