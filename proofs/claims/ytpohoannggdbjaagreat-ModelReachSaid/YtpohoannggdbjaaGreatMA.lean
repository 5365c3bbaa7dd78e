/- Merged: Base, Base2, Obj, Read, Read2, Calm, Append, Grow, Pw, BitsP, PwF, Rel, IxCm, To, ToA, ToB, ToC, ToD, ToE. -/
import Derived.WalkKit
import Derived.WalkSpells
import Derived.WalkLawsBesides
import Derived.Outline
import Derived.Lib.Hide
import Derived.OpenShut
import Derived.ProofKit
import Derived.ShutString
import Derived.ChangeOld
import Derived.Laws.StructEq
import Derived.Deep.QuietTactic
import Derived.BigQuiet
import Derived.Laws.OwnMore
import Derived.OwnWalk
import Derived.Deep.RegionLaw
import Derived.Laws.BitsAllLaws
import Derived.Laws.ShiftsVarLaws
import Derived.OrdersHeld
import Derived.RegionTactic
import Derived.Test.YtpohoannggdbjaaGreatProg
import Derived.IntWalk
import Derived.Laws.RangeAny
import Derived.LoopTactic
import Derived.MapKept
import Derived.Deep.DeepCutAuto
import Derived.Deep.CutBlock
import Derived.Deep.LoopGhost
import Derived.Lib.SlicesS
import Derived.Below
import Derived.Deep.RegionHeld
set_option maxRecDepth 100000
set_option maxHeartbeats 200000000
namespace Go.Proofs.YtpohoannggdbjaaGreat
open Lib (hid)
open Go.RowKit
section
theorem _root_.Go.RowKit.Hid.o{p:Prop}(h:Go.RowKit.Hid p):p:=h
theorem _root_.Go.Shut.o{p:Prop}(h:Go.Shut p):p:=h
theorem _root_.Go.Aside.o{p:Prop}(h:Go.Aside p):p:=h
theorem VU:type_of% @Below.refl:=@Below.refl
theorem VV:type_of% @List.set_cons_succ:=@List.set_cons_succ
theorem VW:type_of% @List.setIfInBounds_toArray:=@List.setIfInBounds_toArray
theorem VX:type_of% @List.set_cons_zero:=@List.set_cons_zero
theorem VY:type_of% @cell_later:=@cell_later
theorem Wa:type_of% @Nat.add_zero:=@Nat.add_zero
theorem Wb:type_of% @List.getElem?_eq_getElem:=@List.getElem?_eq_getElem
theorem Wc:type_of% @Nat.le_refl:=@Nat.le_refl
theorem Wd:type_of% @Nat.le_trans:=@Nat.le_trans
theorem We:type_of% @List.getElem?_eq_some_iff:=@List.getElem?_eq_some_iff
theorem Wf:type_of% @List.mem_of_getElem?:=@List.mem_of_getElem?
theorem Wg:type_of% @decide_eq_false:=@decide_eq_false
theorem Wh:type_of% @List.length_append:=@List.length_append
theorem Wi:type_of% @List.foldl_cons:=@List.foldl_cons
theorem Wj:type_of% @List.foldl_nil:=@List.foldl_nil
theorem Wk:type_of% @decide_eq_true:=@decide_eq_true
theorem Wl:type_of% @Bool.and_eq_true:=@Bool.and_eq_true
theorem Wm:type_of% @List.all_eq_true:=@List.all_eq_true
theorem Wn:type_of% @List.size_toArray:=@List.size_toArray
theorem Wo:type_of% @List.take_of_length_le:=@List.take_of_length_le
theorem Wp:type_of% @List.take_add_one:=@List.take_add_one
theorem Wq:type_of% @Nat.zero_add:=@Nat.zero_add
theorem Wr:type_of% @Nat.lt_of_le_of_lt:=@Nat.lt_of_le_of_lt
theorem Ws:type_of% @List.length_map:=@List.length_map
theorem Wt:type_of% @List.append_nil:=@List.append_nil
theorem Wu:type_of% @List.length_take:=@List.length_take
theorem Wv:type_of% @Nat.lt_of_lt_of_le:=@Nat.lt_of_lt_of_le
theorem Ww:type_of% @Bool.eq_iff_iff:=@Bool.eq_iff_iff
theorem Wx:type_of% @List.append_assoc:=@List.append_assoc
theorem Wy:type_of% @List.mem_singleton:=@List.mem_singleton
theorem Wz:type_of% @World.ownsRow_nil:=@World.ownsRow_nil
theorem WA:type_of% @List.flatMap_append:=@List.flatMap_append
theorem WC:type_of% @List.nil_append:=@List.nil_append
theorem WE:type_of% @List.mem_append:=@List.mem_append
theorem WF:type_of% @List.any_eq_true:=@List.any_eq_true
theorem WG:type_of% @List.getElem?_toArray:=@List.getElem?_toArray
theorem WH:type_of% @beq_iff_eq:=@beq_iff_eq
theorem WI:type_of% @List.flatMap_cons:=@List.flatMap_cons
theorem WJ:type_of% @bne_iff_ne:=@bne_iff_ne
theorem WK:type_of% @List.length_cons:=@List.length_cons
theorem WL:type_of% @Bool.true_and:=@Bool.true_and
theorem WM:type_of% @List.mem_cons_self:=@List.mem_cons_self
theorem WN:type_of% @Bool.and_false:=@Bool.and_false
theorem WO:type_of% @List.flatMap_nil:=@List.flatMap_nil
theorem WP:type_of% @Nat.two_pow_pos:=@Nat.two_pow_pos
theorem WQ:type_of% @List.length_nil:=@List.length_nil
theorem WS:type_of% @List.mem_cons_of_mem:=@List.mem_cons_of_mem
theorem WT:type_of% @List.getElem?_append_right:=@List.getElem?_append_right
theorem WU:type_of% @List.any_eq_false:=@List.any_eq_false
theorem WV:type_of% @List.getElem?_append_left:=@List.getElem?_append_left
theorem WW:type_of% @Array.getElem?_toList:=@Array.getElem?_toList
theorem WY{α:Sort _}(a:α):∃x,a=x:=⟨a,rfl⟩
theorem X0{α:Sort _}(a:α):∃x,x=a:=⟨a,rfl⟩
theorem X1{n:Nat}{w:World}{α:Sort _}{a:α}:Below n w w∧a=a:=⟨Below.refl _ _,rfl⟩
theorem X2 {P : Program} {md : Region.Mode} {ops : Array Oper} {Q : Exit → Act → World → Prop} {S : World → Prop} (i d : Nat) {x1 x2 x3 x4 x5} (v : Value) {fuel : Nat} {listed : Array Bool} {a : Act} {w : World} (hi : ops[i]? = some ⟨some d, x1, x2, x3, x4, x5⟩) (hy : YieldsIf P ops S ⟨some d, x1, x2, x3, x4, x5⟩ v a) (hS : S w) (h : wpAnyH P md ops Q S fuel (listed.setIfInBounds i true) (a.put (some d) v) w) (hs : Region.noSelect ops = true := by kernel_rfl) (hf : Region.free md ops listed i = true := by kernel_rfl) (hr : (Region.ready md ops listed).contains i = true := by kernel_rfl) (hQ : ∀ c a w, Q (.panic c) (a.put (some d) v) w → Q (.panic c) a w := by exact fun _ _ _ h => h) : wpAnyH P md ops Q S (fuel + 1) listed a w := wpAnyH_take hi hs hf hr hQ hy hS h
theorem BW{a b:Bool}(h:a=b):Ending.returned (.bool a) = .returned (.bool b):=by rw[h]
def Dj(w:World)(a:Option Addr)(l:List Nat):Prop:=
 (∀ c∈l,c<256)∧(l=[]∨∃ b off,a=some ⟨b,off,none⟩∧∀ i,i<l.length→w.cell? ⟨b,off+i,none⟩=some (.int .u8 ((l.getD i 0:Nat):Int)))
def Ia(k:IntKind)(w:World)(a:Option Addr)(len cap:Nat)(zs:List Int):Prop:=
 (a=none∧len=0∧cap=0∧zs=[])∨
 ∃ x,a=some x∧len≤cap∧cap≤maxLen∧zs.length=cap∧(∀ i,i<zs.length→w.cell? (x.add i)=some (.int k (zs.getD i 0)))∧∀ n∈zs,(Lit.int k n).wf=true
theorem Ia.capNil{k:IntKind}{w:World}{a:Option Addr}{len cap:Nat}{zs:List Int}(h:Ia k w a len cap zs):a=none→cap=0:=by
 rintro rfl;rcases h with ⟨_,_,h,_⟩ | ⟨x,h,_⟩
 ·exact h
 ·cases h
theorem Ia.cap{k:IntKind}{w:World}{a:Option Addr}{len cap:Nat}{zs:List Int}(h:Ia k w a len cap zs):len≤cap∧cap≤maxLen:=by
 rcases h with ⟨_,rfl,rfl,_⟩ | ⟨x,_,h1,h2,_⟩
 ·exact⟨Wc _,Nat.zero_le _⟩
 ·exact⟨h1,h2⟩
theorem Ia.bytes{w:World}{a:Option Addr}{len cap:Nat}{zs:List Int}(h:Ia .u8 w a len cap zs):∃ l:List Nat,l.length=len∧len≤maxLen∧Dj w a l:=by
 rcases h with ⟨rfl,rfl,rfl,rfl⟩ | ⟨x,rfl,hl,hm,hz,hcell,hwz⟩
 ·exact⟨[],rfl,Nat.zero_le _,by simp,.inl rfl⟩
 ·refine⟨(zs.take len).map Int.toNat,by simp;omega,Wd hl hm,?_,?_⟩
  ·intro c hc;obtain⟨z,hz1,rfl⟩:=List.mem_map.1 hc;have:=bounds_u8 (hwz z (List.mem_of_mem_take hz1));omega
  ·rcases Nat.eq_zero_or_pos len with rfl | hpos
   ·left;simp
   ·right;obtain⟨b,off,spot⟩:=x;have h0:=hcell 0 (by omega);have hs:spot=none:=(by simpa [Addr.add] using World.cell?_spot h0);subst hs;refine⟨b,off,rfl,fun i hi=>?_⟩;have hi':i<len:=(by simpa [hz,Nat.min_eq_left hl] using hi);have hci:=hcell i (by omega);have hb:=bounds_u8 (hwz (zs.getD i 0) (by rw[List.getD_eq_getElem?_getD,Wb (show i<zs.length by omega)];exact List.getElem_mem _));have e:((zs.take len).map Int.toNat).getD i 0=(zs.getD i 0).toNat:=by
     simp[List.getD_eq_getElem?_getD,hi',show i<zs.length by omega]
    rw[e,show((zs.getD i 0).toNat:Int)=zs.getD i 0 by omega];rw[Addr.add_lit] at hci;exact hci
def Gz(k:IntKind)(B:Nat)(w:World)(a:Option Addr)(l:List Nat):Prop:=
 (∀ c∈l,c<B)∧(l=[]∨∃ b off,a=some ⟨b,off,none⟩∧∀ i,i<l.length→w.cell? ⟨b,off+i,none⟩=some (.int k ((l.getD i 0:Nat):Int)))
theorem Dj.take{w:World}{a:Option Addr}{l:List Nat}(h:Dj w a l)(n:Nat):Dj w a (l.take n):=by
 refine⟨fun c hc=>h.1 c (List.mem_of_mem_take hc),?_⟩;rcases h.2 with rfl | ⟨b,off,rfl,hc⟩
 ·left;simp
 ·right;refine⟨b,off,rfl,fun i hi=>?_⟩;have hi2:i<n∧i<l.length:=(by rw[Wu] at hi;omega);rw[hc i hi2.2];simp[List.getD_eq_getElem?_getD,hi2.1]
theorem Gz.below{k:IntKind}{B:Nat}{w w':World}{a:Option Addr}{l:List Nat}(hb:Below w.heap.size w w')(h:Gz k B w a l):Gz k B w' a l:=by
 refine⟨h.1,h.2.imp id ?_⟩;rintro⟨b,off,rfl,hc⟩;exact⟨b,off,rfl,fun i hi=>VY hb (hc i hi)⟩
theorem Gz.at{k:IntKind}{B:Nat}{w:World}{a:Option Addr}{l:List Nat}(h:Gz k B w a l){i:Nat}(hi:i<l.length) :
 ∃ b off c,a=some ⟨b,off,none⟩∧l[i]?=some c∧c<B∧w.cell? ⟨b,off+i,none⟩=some (.int k (c:Int)):=by
 obtain⟨b,off,rfl,hc⟩:=h.2.resolve_left (by rintro rfl;simp at hi);refine⟨b,off,l[i],rfl,Wb hi,h.1 _ (List.getElem_mem hi),?_⟩;rw[hc i hi,List.getD_eq_getElem?_getD,Wb hi];rfl
theorem Dj.below{w w':World}{a:Option Addr}{l:List Nat}(hb:Below w.heap.size w w')(h:Dj w a l):Dj w' a l:=by
 refine⟨h.1,h.2.imp id ?_⟩;rintro⟨b,off,rfl,hc⟩;exact⟨b,off,rfl,fun i hi=>VY hb (hc i hi)⟩
theorem L7{a b c:World}{B:Nat}(h:Below B a b)(hB:B≤b.heap.size)(k:Below b.heap.size b c):Below B a c:=h.trans (k.mono hB)
theorem A6{a b c:World}(h:Below a.heap.size a b)(k:Below b.heap.size b c):Below a.heap.size a c:=h.trans (k.mono h.size)
theorem DB{w w':World}(h:Below w.heap.size w w'):w.grownBy w' none:=⟨h.os,h.tape,h.output,h.size,fun k hk _=>h.block k hk⟩
theorem BJ{w w':World}{base:Nat}{e:TypeId}{size:Nat}{v:Value}{n:Nat}{xs:List Value}(hb:Below w.heap.size w w')(h:w.ownsRow base e size v n xs):w'.ownsRow base e size v n xs:=
 h.kept (DB hb) (by cases hv:v.ownBlock<;>simp)
theorem Ge(a:Nat)(ha:a<9223372036854775808):(BitVec.ofInt 64 (a:Int)).toNat=a:=by
 rw[BitVec.ofInt_natCast,BitVec.toNat_ofNat];exact Nat.mod_eq_of_lt (by omega)
theorem Gb(a b:Nat)(ha:a<9223372036854775808)(hb:b<9223372036854775808):bits .and .i64 (a:Int) (b:Int)=((a &&& b:Nat):Int):=by
 have hx:a &&& b≤a:=Nat.and_le_left;show IntKind.i64.wrap ((BitVec.ofInt 64 (a:Int) &&& BitVec.ofInt 64 (b:Int)).toNat:Int)=_;rw[BitVec.toNat_and,Ge a ha,Ge b hb,IntKind.wrap_i64];omega
theorem A5{w w':World}{g:Nat}{o:Obj}(hb:Below w.heap.size w w')(h:w.heap[g]?=some o):w'.heap[g]?=some o:=by
 have hg:g<w.heap.size:=(Array.getElem?_eq_some_iff.1 h).1;rw[hb.block g hg,h]
theorem A4{w:World}{g:Nat}{cs:Array Value}{t:TypeId}{fr:Nat × Nat}(h:w.heap[g]?=some (.cells cs t fr))(i:Nat)(v:Value)(hi:cs[i]?=some v):w.cell? ⟨g,i,none⟩=some v:=by simp[World.cell?,h,hi]
theorem Aq{w:World}{g:Nat}{cs:Array Value}{t:TypeId}(h:w.heap[g]?=some (.cells cs t (0,0)))(i:Nat):w.frozen? ⟨g,i,none⟩=false:=by simp[World.frozen?,h]
theorem Ql(w:World)(A B:Obj)(n:Nat):(((w.alloc A).alloc B).drewN n).heap[w.heap.size]?=some A∧(((w.alloc A).alloc B).drewN n).heap[w.heap.size+1]?=some B:=by
 constructor
 ·show((w.heap.push A).push B)[w.heap.size]?=some A;simp[Array.getElem?_push]
 ·show((w.heap.push A).push B)[w.heap.size+1]?=some B;rw[Array.getElem?_push,if_pos (by simp)]
theorem Cb(w:World)(A B:Obj):Below w.heap.size w ((w.alloc A).alloc B):=((VU _ _).alloc (Wc _) _).alloc (by simp) _
def F3(w:World)(g:Nat)(l:List Nat):Prop:=
 (∀ c∈l,c<256)∧(∀ i,i<l.length→w.cell? ⟨g,i,none⟩=some (.int .u8 ((l.getD i 0:Nat):Int)))∧∀ i,i<l.length→w.frozen? ⟨g,i,none⟩=false
theorem F3.bytes{w:World}{g:Nat}{l:List Nat}(h:F3 w g l):Dj w (some ⟨g,0,none⟩) l:=
 ⟨h.1,.inr ⟨g,0,rfl,fun i hi=>by rw[Wq];exact h.2.1 i hi⟩⟩
theorem F3.below{w w':World}{g:Nat}{l:List Nat}(hb:Below w.heap.size w w')(h:F3 w g l):F3 w' g l:=by
 refine⟨h.1,fun i hi=>VY hb (h.2.1 i hi),fun i hi=>?_⟩;have hlt:g<w.heap.size:=World.block_lt_of_cell? _ ⟨g,i,none⟩ (h.2.1 i hi);rw[hb.frozen (p:=⟨g,i,none⟩) hlt];exact h.2.2 i hi
theorem F3.store{w:World}{g:Nat}{l:List Nat}(h:F3 w g l){k v:Nat}(hk:k<l.length)(hv:v<256):F3 (w.setCell ⟨g,k,none⟩ (.int .u8 (v:Int))) g (l.set k v):=by
 refine⟨?_,fun i hi=>?_,fun i hi=>?_⟩
 ·intro c hc;rcases List.mem_or_eq_of_mem_set hc with hc | rfl
  ·exact h.1 c hc
  ·exact hv
 ·rw[List.length_set] at hi;by_cases hik:i=k
  ·subst hik;rw[World.cell?_setCell_same _ _ _ (h.2.1 i hi)];simp[List.getD_eq_getElem?_getD,hi]
  ·rw[World.cell?_setCell_other _ _ _ _ (by intro h;cases h;exact hik rfl),h.2.1 i hi];simp[List.getD_eq_getElem?_getD,List.getElem?_set_ne (show k≠i by omega)]
 ·rw[List.length_set] at hi;rw[World.frozen?_setCell];exact h.2.2 i hi
theorem F3.lt{w:World}{g:Nat}{l:List Nat}(h:F3 w g l)(hpos:0<l.length):g<w.heap.size:=World.block_lt_of_cell? _ ⟨g,0,none⟩ (h.2.1 0 hpos)
theorem F3.drewN{w:World}{g:Nat}{l:List Nat}(h:F3 w g l)(n:Nat):F3 (w.drewN n) g l:=h
theorem F3.drew{w:World}{g:Nat}{l:List Nat}(h:F3 w g l):F3 w.drew g l:=h
theorem Ac(w:World)(o:Obj):Below w.heap.size w (w.alloc o):=(VU _ _).alloc (Wc _) o
end
section
theorem Al(w:World)(A:Obj){w1:World}(hb:Below (w.alloc A).heap.size (w.alloc A) w1):w1.heap[w.heap.size]?=some A:=by
 rw[hb.block w.heap.size (by simp)];show(w.heap.push A)[w.heap.size]?=some A;simp
theorem DA(w:World)(A B:Obj):((w.alloc A).alloc B).heap[w.heap.size]?=some A∧((w.alloc A).alloc B).heap[w.heap.size+1]?=some B:=by
 constructor
 ·show((w.heap.push A).push B)[w.heap.size]?=some A;simp[Array.getElem?_push]
 ·show((w.heap.push A).push B)[w.heap.size+1]?=some B;rw[Array.getElem?_push,if_pos (by simp)]
end
section
structure Ai(g:Nat)(w w':World):Prop where
 os:w'.os=w.os
 tape:w'.tape=w.tape
 output:w'.output=w.output
 size:w.heap.size≤w'.heap.size
 block:∀ k,k<w.heap.size→k≠g→w'.heap[k]?=w.heap[k]?
theorem Ai.refl(g:Nat)(w:World):Ai g w w:=⟨rfl,rfl,rfl,Wc _,fun _ _ _=>rfl⟩
theorem Ai.trans{g:Nat}{a b c:World}(h:Ai g a b)(k:Ai g b c):Ai g a c:=
 ⟨k.os.trans h.os,k.tape.trans h.tape,k.output.trans h.output,Wd h.size k.size,fun i hi hg=>(k.block i (Wv hi h.size) hg).trans (h.block i hi hg)⟩
theorem Ai.of_below{g:Nat}{w w':World}(h:Below w.heap.size w w'):Ai g w w':=⟨h.os,h.tape,h.output,h.size,fun k hk _=>h.block k hk⟩
theorem Ai.drew{g:Nat}{a w:World}(h:Ai g a w):Ai g a w.drew:=⟨h.os,h.tape,h.output,h.size,h.block⟩
theorem Ai.drewN{g:Nat}{a w:World}(h:Ai g a w)(n:Nat):Ai g a (w.drewN n):=⟨h.os,h.tape,h.output,h.size,h.block⟩
theorem Ai.alloc{g:Nat}{a w:World}(h:Ai g a w)(o:Obj):Ai g a (w.alloc o):=h.trans (Ai.of_below (Ac w o))
theorem Ai.setCell{g:Nat}{a w:World}(h:Ai g a w){p:Addr}(hp:p.block=g)(u:Value):Ai g a (w.setCell p u):=
 h.trans ⟨((VU 0 w).setCell (p:=p) (Nat.zero_le _) u).os,((VU 0 w).setCell (p:=p) (Nat.zero_le _) u).tape,((VU 0 w).setCell (p:=p) (Nat.zero_le _) u).output,
  ((VU 0 w).setCell (p:=p) (Nat.zero_le _) u).size,fun k _ hk=>Below.heap_setCell w p u k (by rw[hp];exact hk)⟩
theorem Ai.below{g B:Nat}{a w w':World}(h:Below B a w)(hB:B≤g)(hs:B≤w.heap.size)(k:Ai g w w'):Below B a w':=
 ⟨k.os.trans h.os,k.tape.trans h.tape,k.output.trans h.output,Wd h.size k.size,fun i hi=>(k.block i (Wv hi hs) (by omega)).trans (h.block i hi)⟩
theorem Ai.keep{g k:Nat}{w w':World}{o:Obj}(h:Ai g w w')(hk:k≠g)(hb:w.heap[k]?=some o):w'.heap[k]?=some o:=by
 rw[h.block k (Array.getElem?_eq_some_iff.1 hb).1 hk,hb]
theorem Aj{w:World}{g:Nat}{o:Obj}(h:w.heap[g]?=some o):g<w.heap.size:=(Array.getElem?_eq_some_iff.1 h).1
theorem AG{w:World}{g:Nat}{cs:Array Value}{t:TypeId}{fr:Nat × Nat}(h:w.heap[g]?=some (.cells cs t fr))(i:Nat)(v:Value):(w.setCell ⟨g,i,none⟩ v).heap[g]?=some (.cells (cs.setIfInBounds i v) t fr):=by
 show(w.heap.modify g _)[g]?=_;rw[Array.getElem?_modify,if_pos rfl,h];rfl
theorem I2{w:World}{g k:Nat}{o:Obj}(h:w.heap[g]?=some o)(i:Nat)(v:Value)(hk:k≠g):(w.setCell ⟨k,i,none⟩ v).heap[g]?=some o:=by
 rw[Below.heap_setCell _ _ _ _ (fun e=>hk e.symm)];exact h
end
section
def Rd(P:Program)(w:World)(t:TypeId)(cs:List Value):Prop:=
 ∃(H:Type) (enc:TypeId × Value→H) (fuel:Nat) (d:DataW H) (ps:List MemPlace),DataW.trod enc P w 0 (fun _=>true) true fuel t cs=some (d,ps)
theorem Rd.int{P:Program}{w:World}{t:TypeId}{cs:List Value}{k:IntKind}(hu:P.underlying t=some (.int k))(h:Rd P w t cs):∃ n,cs=[.int k n]∧(Lit.int k n).wf=true:=by
 obtain⟨H,enc,fuel,d,ps,h⟩:=h;cases fuel with
 | zero=>simp[DataW.trod] at h
 | succ fuel=>
   simp only[DataW.trod,hu] at h;split at h<;>simp_all
theorem Rd.bool{P:Program}{w:World}{t:TypeId}{cs:List Value}(hu:P.underlying t=some .bool)(h:Rd P w t cs):∃ b,cs=[.bool b]:=by
 obtain⟨H,enc,fuel,d,ps,h⟩:=h;cases fuel with
 | zero=>simp[DataW.trod] at h
 | succ fuel=>
   simp only[DataW.trod,hu] at h;split at h<;>simp_all
theorem Rd.str{P:Program}{w:World}{t:TypeId}{cs:List Value}(hu:P.underlying t=some .string)(h:Rd P w t cs):∃ s,cs=[.string s]∧s.size≤maxLen:=by
 obtain⟨H,enc,fuel,d,ps,h⟩:=h;cases fuel with
 | zero=>simp[DataW.trod] at h
 | succ fuel=>
   simp only[DataW.trod,hu] at h;split at h<;>simp_all
theorem Ez{α β:Type}{f:α→Option β}:∀ {l:List α} {ys:List β},l.mapM f=some ys→ys.length=l.length∧∀(i:Nat) (x:α),l[i]?=some x→∃ y,ys[i]?=some y∧f x=some y:=by
 intro l
 induction l with
 | nil=>intro ys h;simp at h;subst h;simp
 | cons a l ih=>
   intro ys h;rw[List.mapM_cons] at h;cases ha:f a with
   | none=>simp[ha] at h
   | some b=>
     cases hl:l.mapM f with
     | none=>simp[ha,hl] at h
     | some bs=>
       simp[ha,hl] at h;subst h;obtain⟨h1,h2⟩:=ih hl;refine⟨by simp[h1],fun i x hx=>?_⟩;cases i with
       | zero=>simp at hx;subst hx;exact⟨b,rfl,ha⟩
       | succ i=>simpa using h2 i x (by simpa using hx)
theorem Ic{w:World}{base:Nat}{a:Addr}{n:Nat}{cs:List Value}(h:w.cells? base a n=some cs):cs.length=n∧∀ j,j<n→∃ v,cs[j]?=some v∧w.cell? (a.add j)=some v:=by
 unfold World.cells? at h;split at h
 ·obtain⟨h1,h2⟩:=Ez h;refine⟨by simpa using h1,fun j hj=>?_⟩;exact h2 j j (by simp[hj])
 ·cases h
theorem Rd.slice{P:Program}{w:World}{t e:TypeId}{cs:List Value}(hu:P.underlying t=some (.slice e))(h:Rd P w t cs) :
 cs=[.slice none 0 0]∨∃ a len cap,cs=[.slice (some a) len cap]∧len≤cap∧cap≤maxLen∧
  ∀ i,i<cap→∃ ecs,w.cells? 0 (a.add (i*P.cellsOf e)) (P.cellsOf e)=some ecs∧Rd P w e ecs:=by
 obtain⟨H,enc,fuel,d,ps,h⟩:=h;cases fuel with
 | zero=>simp[DataW.trod] at h
 | succ fuel=>
   simp only[DataW.trod,hu] at h;split at h<;>try (simp_all;done)
   ·rename_i e' a len cap heq
    simp only[Option.some.injEq] at heq;obtain rfl:e=e':=(by simpa using heq);right;refine⟨a,len,cap,rfl,?_⟩;split at h
    ·rename_i hc
     simp only[if_true] at h;cases h1:(List.range len).mapM (fun i=>(w.cells? 0 (a.add (i*P.cellsOf e)) (P.cellsOf e)).bind (DataW.trod enc P w 0 (fun _=>true) true fuel e)) with
     | none=>simp[h1] at h
     | some elems=>
       cases h2:(List.range (cap - len)).mapM (fun j=>(w.cells? 0 (a.add ((len+j)*P.cellsOf e)) (P.cellsOf e)).bind (DataW.trod enc P w 0 (fun _=>true) true fuel e)) with
       | none=>simp[h1,h2] at h
       | some rest=>
         refine⟨hc.2.1,hc.2.2,fun i hi=>?_⟩;have key:∃ y,(w.cells? 0 (a.add (i*P.cellsOf e)) (P.cellsOf e)).bind (DataW.trod enc P w 0 (fun _=>true) true fuel e)=some y:=by
          rcases Nat.lt_or_ge i len with hil | hil
          ·obtain⟨y,_,hy⟩:=(Ez h1).2 i i (by simp[hil]);exact⟨y,hy⟩
          ·obtain⟨y,_,hy⟩:=(Ez h2).2 (i - len) (i - len) (List.getElem?_range (by omega));rw[show len+(i - len)=i by omega] at hy;exact⟨y,hy⟩
         obtain⟨y,hy⟩:=key;cases hcs:w.cells? 0 (a.add (i*P.cellsOf e)) (P.cellsOf e) with
         | none=>simp[hcs] at hy
         | some ecs=>exact⟨ecs,rfl,H,enc,fuel,y.1,y.2,by simpa [hcs] using hy⟩
    ·cases h
theorem Rd.struct{P:Program}{w:World}{t:TypeId}{fs:Array Field}{cs:List Value}(hu:P.underlying t=some (.struct fs))(h:Rd P w t cs) :
 cs.length=P.cellsOf t∧∀ f,f∈fs.toList→Rd P w f.type ((cs.drop f.offset).take (P.cellsOf f.type)):=by
 obtain⟨H,enc,fuel,d,ps,h⟩:=h;cases fuel with
 | zero=>simp[DataW.trod] at h
 | succ fuel=>
   simp only[DataW.trod,hu] at h;split at h
   ·rename_i hl
    refine⟨hl,fun f hf=>?_⟩;cases hm:fs.toList.mapM (fun f=>DataW.trod enc P w 0 (fun _=>true) true fuel f.type ((cs.drop f.offset).take (P.cellsOf f.type))) with
    | none=>simp[hm] at h
    | some xs=>
      obtain⟨i,hi⟩:=List.getElem?_of_mem hf;obtain⟨y,_,hy⟩:=(Ez hm).2 i f hi;exact⟨H,enc,fuel,y.1,y.2,hy⟩
   ·cases h
theorem Rd.array{P:Program}{w:World}{t e:TypeId}{n:Nat}{cs:List Value}(hu:P.underlying t=some (.array n e))(h:Rd P w t cs) :
 cs.length=P.cellsOf t∧∀ i,i<n→Rd P w e ((cs.drop (i*P.cellsOf e)).take (P.cellsOf e)):=by
 obtain⟨H,enc,fuel,d,ps,h⟩:=h;cases fuel with
 | zero=>simp[DataW.trod] at h
 | succ fuel=>
   simp only[DataW.trod,hu] at h;split at h
   ·rename_i hl
    refine⟨hl,fun i hi=>?_⟩;cases hm:(List.range n).mapM (fun i=>DataW.trod enc P w 0 (fun _=>true) true fuel e ((cs.drop (i*P.cellsOf e)).take (P.cellsOf e))) with
    | none=>simp[hm] at h
    | some xs=>
      obtain⟨y,_,hy⟩:=(Ez hm).2 i i (by simp[hi]);exact⟨H,enc,fuel,y.1,y.2,hy⟩
   ·cases h
end
section
theorem Mm{α:Type}{Q:Nat→α→Prop}:∀(n:Nat),(∀ i,i<n→∃ c,Q i c)→∃ l:List α,l.length=n∧∀(i:Nat) (c:α),l[i]?=some c→Q i c:=by
 intro n
 induction n with
 | zero=>intro _;exact⟨[],rfl,fun i c h=>by simp at h⟩
 | succ n ih=>
   intro h;obtain⟨l,hl,hq⟩:=ih fun i hi=>h i (by omega)
   obtain⟨c,hc⟩:=h n (by omega);refine⟨l ++ [c],by simp[hl],fun i d hd=>?_⟩;rcases Nat.lt_or_ge i n with hi | hi
   ·rw[WV (by omega)] at hd;exact hq i d hd
   ·have hin:i=n:=by
     have:=(We.1 hd).1;simp[hl] at this;omega
    subst hin;rw[WT (by omega),hl,Nat.sub_self] at hd;simp at hd;subst hd;exact hc
theorem Rd.fields{P:Program}{w:World}{t:TypeId}{cs:List Value}{L:List (TypeId × Nat)}(hu:P.underlying t=some (.struct (P.fieldsOf t)))(hL:(P.fieldsOf t).toList.map (fun f=>(f.type,f.offset))=L)(h:Rd P w t cs) :
 cs.length=P.cellsOf t∧∀ x∈L,Rd P w x.1 ((cs.drop x.2).take (P.cellsOf x.1)):=by
 obtain⟨h1,h2⟩:=h.struct hu;refine⟨h1,fun x hx=>?_⟩;rw[← hL] at hx;obtain⟨f,hf,rfl⟩:=List.mem_map.1 hx;exact h2 f hf
theorem I0{α:Type}{c:Array α}{l:List α}(h:c.toList=l):c=l.toArray:=by rw[← h]
end
section
theorem Ad{P:Program}{id:Nat}{Q:Exit→Act→World→Prop}{a:Act}{w:World}{l:List Oper}(hm:P.follows .mixedOrders=true)(hB:Region.lexB .any l.toArray=true)
 (h:wpQuiet P l.toArray (fun w'=>Below w.heap.size w w') (fun a'=>∀ w',Below w.heap.size w w'→Q .normal a' w') l a):(Code.region id l.toArray true).wp P Q a w:=
 wp_region_quiet (C:=fun w'=>Below w.heap.size w w') hm hB (VU _ w).drew (by simpa using h)
end
section
def C1(w:World)(a:Option Addr)(c:Nat)(news:List Value):Prop:=
 (a=none→c=0∧news=[])∧(∀ u∈news,u.oneCell'=true)∧∀ ad,a=some ad→∀ j u,news[j]?=some u→w.cell? (ad.add j)=some u
theorem EC{P:Program}(w:World)(base:Nat)(t ty e:TypeId)(i:TypeInfo)(z:Value)(sz bytes:Nat)(ht:P.underlying t=some (.slice e))(hi:P.info? e=some i)(hz:i.zero=some z)
 (hsize:i.size=sz) (hby:i.bytes=bytes) (hzs:z.cells.size=sz) (hsz:0<sz) (v:Value) (n:Nat) (xs:List Value) (hown:w.ownsRow base e sz v n xs)
 (ao:Option Addr) (m c:Nat) (news:List Value) (hl:news.length=m*sz) (hsrc:C1 w ao c news) (h63:n+m≤maxLen) (hbytes:(n+m)*bytes≤140737488355328) (hbase:base≤w.heap.size) :
 ∃ v' w',(Builtin.append_ #[t,t] ty #[v,.slice ao m c]).run P w = .ok v' w'∧w'.ownsRow base e sz v' (n+m) (xs ++ news)∧w.grownBy w' v.ownBlock:=by
 obtain⟨s1,s2,s3⟩:=hsrc;cases ao with
 | none=>
   obtain⟨rfl,rfl⟩:=s1 rfl;obtain rfl:m=0:=by
    rcases Nat.eq_zero_or_pos m with h | h
    ·exact h
    ·have:=Nat.mul_pos h hsz;simp at hl;omega
   have hrun:=run_append_owned_none (P:=P) w base t ty e i sz ht hi v n xs hown;exact⟨v,w,hrun,by simpa using hown,⟨rfl,rfl,rfl,Wc _,fun _ _ _=>rfl⟩⟩
 | some ad=>
   obtain⟨v',w',h1,h2,h3,_⟩:=run_append_own (P:=P) w base t ty e i z sz bytes ht hi hz hsize hby hzs hsz v n xs hown ad m c news hl (s3 ad rfl) s2 h63 hbytes hbase;exact⟨v',w',h1,h2,h3⟩
theorem Fb{P:Program}{w:World}{o:Oper}{a:Act}{K:Act→World→Prop}{Q:Exit→Act→World→Prop}(s x:Operand)(t:TypeId)
 (ho:o.op = .call { callee:=.builtin .append,args := #[s,x],argTypes := #[t,t] })
 (base:Nat) (e:TypeId) (i:TypeInfo) (z:Value) (sz bytes:Nat) (ht:P.underlying t=some (.slice e)) (hi:P.info? e=some i) (hz:i.zero=some z)
 (hsize:i.size=sz) (hby:i.bytes=bytes) (hzs:z.cells.size=sz) (hsz:0<sz) (v:Value) (n:Nat) (xs:List Value) (hs:a.eval s=v) (hown:w.ownsRow base e sz v n xs)
 (ao:Option Addr) (m c:Nat) (news:List Value) (hx:a.eval x = .slice ao m c) (hl:news.length=m*sz) (hsrc:C1 w ao c news) (h63:n+m≤maxLen) (hbytes:(n+m)*bytes≤140737488355328) (hbase:base≤w.heap.size)
 (h:∀ v' w',w'.ownsRow base e sz v' (n+m) (xs ++ news)→w.grownBy w' v.ownBlock→K (a.put o.dst v') w'):o.wp P a w K Q:=by
 obtain⟨v',w',hr,h2,h3⟩:=EC (P:=P) w base t o.type e i z sz bytes ht hi hz hsize hby hzs hsz v n xs hown ao m c news hl hsrc h63 hbytes hbase;unfold Oper.wp execOp;simp only[ho,resolve,invoke,builtin,Sem.run_bind,Sem.run_pure,Result.andThen_ok,List.map_toArray,List.map_cons,List.map_nil,hs,hx,hr];exact h v' w' h2 h3
theorem AK{P:Program}{w:World}{ops:Array Oper}{rest:List Oper}{o:Oper}{a:Act}{Q:Exit→Act→World→Prop}(hgd:o.guard=none)(s x:Operand)(t:TypeId)
 (ho:o.op = .call { callee:=.builtin .append,args := #[s,x],argTypes := #[t,t] })
 (base:Nat) (e:TypeId) (i:TypeInfo) (z:Value) (sz bytes:Nat) (ht:P.underlying t=some (.slice e)) (hi:P.info? e=some i) (hz:i.zero=some z)
 (hsize:i.size=sz) (hby:i.bytes=bytes) (hzs:z.cells.size=sz) (hsz:0<sz) (v:Value) (n:Nat) (xs:List Value) (hs:a.eval s=v) (hown:w.ownsRow base e sz v n xs)
 (ao:Option Addr) (m c:Nat) (news:List Value) (hx:a.eval x = .slice ao m c) (hl:news.length=m*sz) (hsrc:C1 w ao c news) (h63:n+m≤maxLen) (hbytes:(n+m)*bytes≤140737488355328) (hbase:base≤w.heap.size)
 (h:∀ v' w',w'.ownsRow base e sz v' (n+m) (xs ++ news)→w.grownBy w' v.ownBlock→wpList P ops Q rest (a.put o.dst v') w'):wpList P ops Q (o :: rest) a w:=
 wpList_plain hgd fun _ hK=>Fb s x t ho base e i z sz bytes ht hi hz hsize hby hzs hsz v n xs hs hown ao m c news hx hl hsrc h63 hbytes hbase fun v' w' h2 h3=>hK _ _ (h v' w' h2 h3)
theorem Gm{P:Program}{w:World}{ops:Array Oper}{o:Oper}{a:Act}{K:Act→World→Prop}{Q:Exit→Act→World→Prop}{E:Prop}(hgd:o.guard=none)(s x:Operand)(t:TypeId)
 (ho:o.op = .call { callee:=.builtin .append,args := #[s,x],argTypes := #[t,t] })
 (base:Nat) (e:TypeId) (i:TypeInfo) (z:Value) (sz bytes:Nat) (ht:P.underlying t=some (.slice e)) (hi:P.info? e=some i) (hz:i.zero=some z)
 (hsize:i.size=sz) (hby:i.bytes=bytes) (hzs:z.cells.size=sz) (hsz:0<sz) (v:Value) (n:Nat) (xs:List Value) (hs:a.eval s=v) (hown:w.ownsRow base e sz v n xs)
 (ao:Option Addr) (m c:Nat) (news:List Value) (hx:a.eval x = .slice ao m c) (hl:news.length=m*sz) (hsrc:C1 w ao c news) (h63:n+m≤maxLen) (hbytes:(n+m)*bytes≤140737488355328) (hbase:base≤w.heap.size)
 (h:∀ v' w',w'.ownsRow base e sz v' (n+m) (xs ++ news)→w.grownBy w' v.ownBlock→K (a.put o.dst v') w') :
 if Region.wanted o (yielded ops a.tmps)=true then Oper.wp P o a w K Q else E:=by
 have hw:Region.wanted o (yielded ops a.tmps)=true:=by simp[Region.wanted,hgd]
 rw[if_pos hw];exact Fb s x t ho base e i z sz bytes ht hi hz hsize hby hzs hsz v n xs hs hown ao m c news hx hl hsrc h63 hbytes hbase h
def Ep(l:List Nat):List Value:=l.map fun(n:Nat)=>Value.int .u8 (n:Int)
theorem IW(l:List Nat)(i:Nat)(h:i<l.length):(Ep l)[i]?=some (.int .u8 ((l.getD i 0:Nat):Int)):=by
 simp[Ep,h,List.getD_eq_getElem?_getD]
theorem C1.bytes{w:World}{a:Option Addr}{c:Nat}{l:List Nat}(h:Dj w a l)(hc:a=none→c=0):C1 w a c (Ep l):=by
 refine⟨fun ha=>⟨hc ha,?_⟩,?_,?_⟩
 ·rcases h.2 with rfl | ⟨b,off,rfl,_⟩
  ·rfl
  ·cases ha
 ·intro u hu;obtain⟨x,_,rfl⟩:=List.mem_map.1 hu;rfl
 ·intro ad had j u hu;rcases h.2 with rfl | ⟨b,off,rfl,hcell⟩
  ·simp[Ep] at hu
  ·obtain rfl:=Option.some.inj had;have hj:j<l.length:=by
    have:=(We.1 hu).1;simpa [Ep] using this
   rw[IW l j hj] at hu;obtain rfl:=Option.some.inj hu;rw[Addr.add_lit];exact hcell j hj
end
section
def Value.newOr(w:World)(v v':Value):Prop:=v'.ownBlock=v.ownBlock∨∃ k,v'.ownBlock=some k∧w.heap.size≤k
theorem Gl{P:Program}(w:World)(base:Nat)(t ty e:TypeId)(i:TypeInfo)(z:Value)(sz bytes:Nat)(ht:P.underlying t=some (.slice e))(hi:P.info? e=some i)(hz:i.zero=some z)
 (hsize:i.size=sz) (hby:i.bytes=bytes) (hzs:z.cells.size=sz) (hsz:0<sz) (v:Value) (n:Nat) (xs:List Value) (hown:w.ownsRow base e sz v n xs)
 (ao:Option Addr) (m c:Nat) (news:List Value) (hl:news.length=m*sz) (hsrc:C1 w ao c news) (h63:n+m≤maxLen) (hbytes:(n+m)*bytes≤140737488355328) (hbase:base≤w.heap.size) :
 ∃ v' w',(Builtin.append_ #[t,t] ty #[v,.slice ao m c]).run P w = .ok v' w'∧w'.ownsRow base e sz v' (n+m) (xs ++ news)∧w.grownBy w' v.ownBlock∧Value.newOr w v v':=by
 obtain⟨v',w',hr,h2,h3⟩:=EC (P:=P) w base t ty e i z sz bytes ht hi hz hsize hby hzs hsz v n xs hown ao m c news hl hsrc h63 hbytes hbase;refine⟨v',w',hr,h2,h3,?_⟩;obtain⟨s1,s2,s3⟩:=hsrc;have h63':n+m≤9223372036854775807:=by simp only[maxLen] at h63;omega
 cases ao with
 | none=>
   obtain⟨rfl,rfl⟩:=s1 rfl;obtain rfl:m=0:=by
    rcases Nat.eq_zero_or_pos m with h | h
    ·exact h
    ·have:=Nat.mul_pos h hsz;simp at hl;omega
   have hrun:=run_append_owned_none (P:=P) w base t ty e i sz ht hi v n xs hown;rw[hrun] at hr;injection hr with h4 h5
   exact .inl (by rw[h4])
 | some ad=>
   subst hsize;subst hby;have hown2:=hown;rcases hown2.2 with ⟨rfl,rfl⟩ | ⟨g,cap,cur,rfl,hbg,hg,hnc,hcm,hcs,htake⟩
   ·by_cases hm:m=0
    ·subst hm;have h4:=run_append_own (P:=P) (w:=w) base t ty e i z i.size i.bytes ht hi hz rfl rfl hzs hsz _ 0 xs hown ad 0 c news hl (s3 ad rfl) s2 h63 hbytes hbase;obtain⟨v9,w9,g1,_,_,g4⟩:=h4;rw[hr] at g1;injection g1 with g1 g2
     rw[g1,g4.2 ⟨rfl,rfl⟩];exact .inl rfl
    ·have h4:=run_append_nil (P:=P) (w:=w) t ty e i z ht hi hz ad m c news hl (s3 ad rfl) (by omega) (by omega) (by rw[Wq] at hbytes;omega);rw[h4] at hr;injection hr with h5 h6
     exact .inr ⟨w.heap.size,by rw[← h5];rfl,Wc _⟩
   ·by_cases hroom:n+m≤cap
    ·have hfit:n*i.size+news.length≤cur.size:=(by rw[hl,hcs,← Nat.add_mul];exact Nat.mul_le_mul_right _ hroom);have h4:=run_append_room (P:=P) (w:=w) t ty e i ht hi g n cap cur hg ad m c news hl (s3 ad rfl) s2 hroom hfit;rw[h4] at hr;injection hr with h5 h6
     exact .inl (by rw[← h5];rfl)
    ·have h4:=run_append_grow (P:=P) (w:=w) t ty e i z ht hi hz ⟨g,0,none⟩ n cap xs hown.1 (hown.cells (g:=g) rfl) ad m c news hl (s3 ad rfl) (by omega) (by omega) (growslice_fits (by omega) hbytes);rw[h4] at hr;injection hr with h5 h6
     exact .inr ⟨w.heap.size,by rw[← h5];rfl,Wc _⟩
theorem Cr{P:Program}{w:World}{o:Oper}{a:Act}{K:Act→World→Prop}{Q:Exit→Act→World→Prop}(s x:Operand)(t:TypeId)
 (ho:o.op = .call { callee:=.builtin .append,args := #[s,x],argTypes := #[t,t] })
 (base:Nat) (e:TypeId) (i:TypeInfo) (z:Value) (sz bytes:Nat) (ht:P.underlying t=some (.slice e)) (hi:P.info? e=some i) (hz:i.zero=some z)
 (hsize:i.size=sz) (hby:i.bytes=bytes) (hzs:z.cells.size=sz) (hsz:0<sz) (v:Value) (n:Nat) (xs:List Value) (hs:a.eval s=v) (hown:w.ownsRow base e sz v n xs)
 (ao:Option Addr) (m c:Nat) (news:List Value) (hx:a.eval x = .slice ao m c) (hl:news.length=m*sz) (hsrc:C1 w ao c news) (h63:n+m≤maxLen) (hbytes:(n+m)*bytes≤140737488355328) (hbase:base≤w.heap.size)
 (h:∀ v' w',w'.ownsRow base e sz v' (n+m) (xs ++ news)→w.grownBy w' v.ownBlock→Value.newOr w v v'→K (a.put o.dst v') w'):o.wp P a w K Q:=by
 obtain⟨v',w',hr,h2,h3,h4⟩:=Gl (P:=P) w base t o.type e i z sz bytes ht hi hz hsize hby hzs hsz v n xs hown ao m c news hl hsrc h63 hbytes hbase;unfold Oper.wp execOp;simp only[ho,resolve,invoke,builtin,Sem.run_bind,Sem.run_pure,Result.andThen_ok,List.map_toArray,List.map_cons,List.map_nil,hs,hx,hr];exact h v' w' h2 h3 h4
theorem Bn{P:Program}{w:World}{ops:Array Oper}{rest:List Oper}{o:Oper}{a:Act}{Q:Exit→Act→World→Prop}(hgd:o.guard=none)(s x:Operand)(t:TypeId)
 (ho:o.op = .call { callee:=.builtin .append,args := #[s,x],argTypes := #[t,t] })
 (base:Nat) (e:TypeId) (i:TypeInfo) (z:Value) (sz bytes:Nat) (ht:P.underlying t=some (.slice e)) (hi:P.info? e=some i) (hz:i.zero=some z)
 (hsize:i.size=sz) (hby:i.bytes=bytes) (hzs:z.cells.size=sz) (hsz:0<sz) (v:Value) (n:Nat) (xs:List Value) (hs:a.eval s=v) (hown:w.ownsRow base e sz v n xs)
 (ao:Option Addr) (m c:Nat) (news:List Value) (hx:a.eval x = .slice ao m c) (hl:news.length=m*sz) (hsrc:C1 w ao c news) (h63:n+m≤maxLen) (hbytes:(n+m)*bytes≤140737488355328) (hbase:base≤w.heap.size)
 (h:∀ v' w',w'.ownsRow base e sz v' (n+m) (xs ++ news)→w.grownBy w' v.ownBlock→Value.newOr w v v'→wpList P ops Q rest (a.put o.dst v') w'):wpList P ops Q (o :: rest) a w:=
 wpList_plain hgd fun _ hK=>Cr s x t ho base e i z sz bytes ht hi hz hsize hby hzs hsz v n xs hs hown ao m c news hx hl hsrc h63 hbytes hbase fun v' w' h2 h3 h4=>hK _ _ (h v' w' h2 h3 h4)
end
section
def pw(n:Nat):Nat:=2 ^ n
theorem Pu(n:Nat):pw n=2 ^ n:=rfl
theorem Du(n:Nat):0<pw n:=WP n
theorem Jv:pw 0=1:=rfl
theorem Fv(n:Nat):pw (n+1)=pw n*2:=Nat.pow_succ ..
theorem Kx{n:Nat}(h:n≤63):pw n≤9223372036854775808:=by
 have:=Nat.pow_le_pow_right (n:=2) (by omega) h;simpa [pw] using this
theorem RV(k:Nat)(h:k<63):IntKind.u64.wrap ((pw k:Int)*2)=(pw (k+1):Int):=by
 have h1:=Kx (n:=k+1) (by omega);have h2:=Fv k;rw[IntKind.wrap_u64];omega
def Aa(s i:Nat):Bool:=decide (s / pw i % 2=1)
def Ab(s i:Nat):Nat:=if Aa s i then s else s+pw i
theorem R8(s n:Nat)(hs:s<18446744073709551616):((IntKind.u64.wrap ((s:Int) / (pw n:Int))).tmod 2 == 1)=Aa s n:=by
 have h1:s / pw n<18446744073709551616:=Wr (Nat.div_le_self _ _) hs;unfold Aa;rw[show(s:Int) / (pw n:Int)=((s / pw n:Nat):Int) from(Int.natCast_ediv s (pw n)).symm,IntKind.wrap_u64];generalize s / pw n=y at *;have e:((y:Int) % 18446744073709551616).tmod 2=((y % 2:Nat):Int):=by
  rw[Int.tmod_eq_emod_of_nonneg (by omega)];omega
 rw[e,Ww];simp;omega
theorem IM(s n:Nat)(hn:n≤63)(hs:s<18446744073709551616)(h:Aa s n=false):s+pw n<18446744073709551616:=by
 have hb:s / pw n % 2=0:=by
  have:¬ s / pw n % 2=1:=of_decide_eq_false h;omega
 have key:s+pw n<2 ^ 64:=by
  refine Nat.lt_of_not_le fun hge=>?_
  have e64:2 ^ 64=pw n*2 ^ (64 - n):=(by rw[pw,← Nat.pow_add];congr 1;omega);have h1:2 ^ (64 - n) - 1≤s / pw n:=by
   rw[Nat.le_div_iff_mul_le (Du n),Nat.sub_mul,Nat.one_mul,Nat.mul_comm,← e64];omega
  have h2:s / pw n<2 ^ (64 - n):=by
   rw[Nat.div_lt_iff_lt_mul (Du n),Nat.mul_comm,← e64];omega
  have h3:2 ^ (64 - n) % 2=0:=by
   rw[show 64 - n=(63 - n)+1 by omega,Nat.pow_succ];omega
  have h4:=WP (64 - n);omega
 exact key
theorem Q7(s n:Nat)(hn:n≤63)(hs:s<18446744073709551616)(h:Aa s n=false):IntKind.u64.wrap ((s:Int)+(pw n:Int))=((s+pw n:Nat):Int):=by
 have:=IM s n hn hs h;rw[IntKind.wrap_u64];omega
theorem Cf(s n:Nat)(hn:n≤63)(hs:s<18446744073709551616):Ab s n<18446744073709551616:=by
 unfold Ab;cases h:Aa s n
 ·exact IM s n hn hs h
 ·exact hs
theorem I7(k:Nat):Ab (pw k - 1) k=pw (k+1) - 1:=by
 have h0:=Du k;have:Aa (pw k - 1) k=false:=by
  unfold Aa;rw[Nat.div_eq_of_lt (by omega)];rfl
 rw[Ab,this,Fv];simp only[Bool.false_eq_true,if_false];omega
end
section
theorem AZ(s i:Nat):Aa s i=s.testBit i:=by
 unfold Aa pw;rw[Nat.testBit_eq_decide_div_mod_eq]
theorem By(s n:Nat):Ab s n=s ||| pw n:=by
 unfold Ab;cases h:Aa s n with
 | true=>
   rw[AZ] at h;simp only[if_true];apply Nat.eq_of_testBit_eq;intro i;rw[Nat.testBit_or,pw,Nat.testBit_two_pow];by_cases hi:n=i
   ·subst hi;rw[h];rfl
   ·simp[hi]
 | false=>
   simp only[Bool.false_eq_true,if_false];have h0:s / pw n % 2=0:=by
    have:¬ s / pw n % 2=1:=of_decide_eq_false h;omega
   have e1:s=pw (n+1)*(s / pw (n+1))+s % pw (n+1):=(Nat.div_add_mod s _).symm;have hr:s % pw (n+1)<pw n:=by
    have e2:s % pw (n+1)=s % pw n+pw n*(s / pw n % 2):=(by rw[Fv];exact Nat.mod_mul);rw[e2,h0,Nat.mul_zero,Wa];exact Nat.mod_lt _ (Du n)
   generalize s / pw (n+1)=q at *;generalize s % pw (n+1)=r at *;have a1:pw (n+1)*q+r=pw (n+1)*q ||| r:=Nat.two_pow_add_eq_or_of_lt (i:=n+1) (by show r<pw (n+1);rw[Fv];omega) q
   have a2:pw n*1+r=pw n*1 ||| r:=Nat.two_pow_add_eq_or_of_lt (i:=n) hr 1
   have a3:pw (n+1)*q+(pw n*1+r)=pw (n+1)*q ||| (pw n*1+r):=Nat.two_pow_add_eq_or_of_lt (i:=n+1) (by show _<pw (n+1);rw[Fv];omega) q
   rw[Nat.mul_one] at a2 a3;rw[e1,a1,Nat.or_assoc,Nat.or_comm r,← a2,← a3];rw[← a1];omega
def Aw(s i:Nat):Nat:=if Aa s i then s - pw i else s
theorem JR(n i:Nat)(hn:n≤63):(18446744073709551615 - pw n).testBit i=(decide (i<64) && !decide (n=i)):=by
 have h:pw n<2 ^ 64:=by have:=Kx hn;omega
 have:=Nat.testBit_two_pow_sub_succ h i;rw[show 18446744073709551615 - pw n=2 ^ 64 - (pw n+1) by omega,this,pw,Nat.testBit_two_pow]
theorem Rj{s i:Nat}(hs:s<18446744073709551616)(h:s.testBit i=true):i<64:=by
 refine Nat.lt_of_not_le fun hi=>?_
 have h1:s<2 ^ i:=Wv hs (Nat.pow_le_pow_right (n:=2) (by omega) hi);rw[Nat.testBit_lt_two_pow h1] at h;exact absurd h (by decide)
theorem G6(s n:Nat)(hn:n≤63)(hs:s<18446744073709551616):s &&& (18446744073709551615 - pw n)=Aw s n:=by
 have ht:∀ i,(s &&& (18446744073709551615 - pw n)).testBit i=(s.testBit i && !decide (n=i)):=by
  intro i;rw[Nat.testBit_and,JR n i hn];cases hb:s.testBit i with
  | false=>rfl
  | true=>simp[Rj hs hb]
 unfold Aw;cases h:Aa s n with
 | false=>
   simp only[Bool.false_eq_true,if_false];apply Nat.eq_of_testBit_eq;intro i;rw[ht];by_cases hi:n=i
   ·subst hi;rw[← AZ,h];rfl
   ·simp[hi]
 | true=>
   simp only[if_true];have h2:Aa (s &&& (18446744073709551615 - pw n)) n=false:=(by rw[AZ,ht];simp);have h3:Ab (s &&& (18446744073709551615 - pw n)) n=s:=by
    rw[By];apply Nat.eq_of_testBit_eq;intro i;rw[Nat.testBit_or,ht,pw,Nat.testBit_two_pow];by_cases hi:n=i
    ·subst hi;rw[← AZ,h];simp
    ·simp[hi]
   unfold Ab at h3;rw[h2] at h3;simp only[Bool.false_eq_true,if_false] at h3;omega
theorem Dx(s n:Nat):Aw s n≤s:=by unfold Aw;split<;>omega
end
section
attribute [local irreducible] pw Aa Ab Aw
theorem Qm(s n:Nat)(hs:s<18446744073709551616):bits .and .u64 ((s / pw n:Nat):Int) 1=((s / pw n % 2:Nat):Int):=by
 have h1:s / pw n<18446744073709551616:=Wr (Nat.div_le_self _ _) hs;rw[show(1:Int)=((1:Nat):Int) from rfl,u64_and_nat _ 1 h1 (by omega),Nat.and_one_is_mod]
theorem Hp(s n:Nat):(s:Int) / 2 ^ n=((s / pw n:Nat):Int):=by
 rw[Int.natCast_ediv,pw,Int.natCast_pow];rfl
theorem OL(s n:Nat)(hs:s<18446744073709551616):(bits .and .u64 ((s:Int) / 2 ^ n) 1 == 1)=Aa s n:=by
 rw[Hp,Qm s n hs];unfold Aa;rw[Ww];simp;omega
theorem Br(n:Nat)(hn:n≤63):IntKind.u64.wrap ((2:Int) ^ n)=(pw n:Int):=by
 have h:=Kx hn;rw[show((2:Int) ^ n)=(pw n:Int) by rw[pw,Int.natCast_pow];rfl,IntKind.wrap_u64];omega
theorem MC{n:Nat}(hn:n≤63):pw n<18446744073709551616:=by have:=Kx hn;omega
theorem Cw(s n:Nat)(hn:n≤63)(hs:s<18446744073709551616):bits .or .u64 (s:Int) (pw n:Int)=((Ab s n:Nat):Int):=by
 rw[u64_or_nat s (pw n) hs (MC hn),By]
theorem Dn(s n:Nat)(hn:n≤63)(hs:s<18446744073709551616):bits .andNot .u64 (s:Int) (pw n:Int)=((Aw s n:Nat):Int):=by
 rw[u64_andNot_nat s (pw n) hs (MC hn),G6 s n hn hs]
end
section
section
variable {P:Program} {ops:Array Oper} {Q:Exit→Act→World→Prop}
def BM(ops:Array Oper)(i:Nat):Option Tmp:=(ops[i]?).bind (·.dst)
def DK(ops:Array Oper)(i j:Nat):Bool:=match ops[i]? with
 | some o=>o.after.any fun e=>Region.binds .any e && e.on == j
 | none=>false
def LS(ops:Array Oper):Nat→List Nat→List Nat
 | 0,l=>l
 | k+1,l=>LS ops k (l ++ (List.range ops.size).filter (fun j=>l.any (fun i=>DK ops i j)))
def Lv(ops:Array Oper)(T:List Nat):Bool:=
 (List.range ops.size).all fun i=>T.contains i || ((BM ops i).isSome && ((ops[i]?).map (fun o=>o.guard.isNone && o.after.all (fun e=>!Region.binds .any e || decide (e.on<i)))).getD false &&
   (List.range ops.size).all (fun j=>(!DK ops i j || (decide (j<i) && !T.contains j)) && (j == i || T.contains j || BM ops j != BM ops i)))
def SI(ops:Array Oper)(T:List Nat)(k:Nat):Bool:=
 T.all fun t=>(List.range ops.size).all (fun i=>T.contains i || (LS ops k ((List.range ops.size).filter (fun j=>DK ops t j))).contains i)
def NH(ops:Array Oper)(T:List Nat)(s:Tmp):Bool:=(List.range ops.size).all (fun j=>T.contains j || BM ops j != some s)
def CF(P:Program)(w:World)(F:Value→World→Prop):Result Next→Prop
 | .ok (.value v) w'=>Below w.heap.size w w'∧F v w'
 | .ok (.enter f args) w'=>Calls P f args w' (fun e w''=>∃ v,e = .returned v∧Below w.heap.size w w''∧F v w'')
 | _=>False
def Iy(P:Program)(ops:Array Oper)(T:List Nat)(a0:Act)(w0:World)(F:Nat→Value→World→Prop)(i:Nat):Prop:=
 ∀ o,ops[i]?=some o→∀(r:Operand→Value) (w:World),(∀ v,r (.const v)=v)→(∀ f,r (.func f) = .func (.func f) #[] #[])→(∀ g,r (.global g) = .pointer (some ⟨g,0,none⟩))→
  (∀ s,NH ops T s=true→r (.tmp s)=a0.eval (.tmp s))→Below w0.heap.size w0 w→
  (∀ j s,BM ops j=some s→DK ops i j=true→F j (r (.tmp s)) w)→CF P w (F i) ((execOp r o).run P w)
structure Dr(ops:Array Oper)(T:List Nat)(a0:Act)(w0:World)(F:Nat→Value→World→Prop)(listed:Array Bool)(a:Act)(w:World):Prop where
 size:listed.size=ops.size
 closed:∀ i j,listed.getD i false=true→DK ops i j=true→listed.getD j false=true
 none:∀ i,listed.getD i false=true→T.contains i=false
 defers:a.defers=a0.defers
 tmps:a.tmps.size=a0.tmps.size
 frame:∀ s,NH ops T s=true→a.eval (.tmp s)=a0.eval (.tmp s)
 below:Below w0.heap.size w0 w
 facts:∀ i s,BM ops i=some s→listed.getD i false=true→F i (a.eval (.tmp s)) w
theorem Fj{listed:Array Bool}(hc:∀ i j,listed.getD i false=true→DK ops i j=true→listed.getD j false=true):∀(k:Nat) (l:List Nat),(∀ i∈l,listed.getD i false=true)→∀ i∈LS ops k l,listed.getD i false=true
 | 0,_,h=>h
 | k+1,l,h=>Fj hc k _ (fun i hi=>by
    rcases WE.1 hi with hi | hi
    ·exact h i hi
    ·obtain⟨m,hm,hd⟩:=WF.1 (List.mem_filter.1 hi).2;exact hc m i (h m hm) hd)
theorem D7{i j:Nat}{o:Oper}(ho:ops[i]?=some o):DK ops i j=true↔∃ e∈o.after,Region.binds .any e=true∧e.on=j:=by
 unfold DK;rw[ho];simp only[Array.any_eq_true',Wl,WH]
theorem GK{a:Act}{d s:Nat}{v:Value}(h:d≠s):(a.put (some d) v).eval (.tmp s)=a.eval (.tmp s):=by
 show(a.tmps.setIfInBounds d v).getD s undef=a.tmps.getD s undef;rw[Array.getD_eq_getD_getElem?,Array.getD_eq_getD_getElem?,Array.getElem?_setIfInBounds_ne h]
theorem F8{a:Act}{d:Nat}{v:Value}(h:d<a.tmps.size):(a.put (some d) v).eval (.tmp d)=v:=by
 show(a.tmps.setIfInBounds d v).getD d undef=v;rw[Array.getD_eq_getD_getElem?,Array.getElem?_setIfInBounds_self_of_lt h];rfl
theorem GO{l:Array Bool}{j k:Nat}(h:(l.setIfInBounds j true).getD k false=true):k=j∨l.getD k false=true:=by
 by_cases hjk:j=k
 ·exact .inl hjk.symm
 ·right;rw[Array.getD_eq_getD_getElem?,Array.getElem?_setIfInBounds_ne hjk,← Array.getD_eq_getD_getElem?] at h;exact h
theorem Ha{l:Array Bool}{j k:Nat}(h:l.getD k false=true):(l.setIfInBounds j true).getD k false=true:=by
 by_cases hjk:j=k
 ·subst hjk;have hlt:j<l.size:=by
   apply Nat.lt_of_not_le;intro hge;simp[Array.getElem?_eq_none hge] at h
  simp[hlt]
 ·rw[Array.getD_eq_getD_getElem?,Array.getElem?_setIfInBounds_ne hjk,← Array.getD_eq_getD_getElem?];exact h
variable {T:List Nat} {a0:Act} {w0:World} {F:Nat→Value→World→Prop}
theorem Dr.step(hB:Lv ops T=true)(hsz:(List.range ops.size).all (fun i=>T.contains i || ((BM ops i).map (fun d=>decide (d<a0.tmps.size))).getD false)=true)
 (hF:∀ i v w w',F i v w→Below w.heap.size w w'→F i v w') {listed:Array Bool} {a:Act} {w w':World} (h:Dr ops T a0 w0 F listed a w) {i d:Nat} {v:Value}
 (hi:i<ops.size) (hT:T.contains i=false) (hd:BM ops i=some d) (hdep:∀ j,DK ops i j=true→listed.getD j false=true) (hb:Below w.heap.size w w') (hv:F i v w') :
 Dr ops T a0 w0 F (listed.setIfInBounds i true) (a.put (some d) v) w':=by
 have hu:=Wm.1 hB i (List.mem_range.2 hi);rw[hT,Bool.false_or,Wl] at hu;have hu2:=hu.2;refine⟨by rw[Array.size_setIfInBounds];exact h.size,fun m j hm hj=>?_,fun m hm=>?_,h.defers,?_,fun s hs=>?_,A6 h.below hb,fun m s hs hm=>?_⟩
 ·rcases GO hm with rfl | hm
  ·exact Ha (hdep j hj)
  ·exact Ha (h.closed m j hm hj)
 ·rcases GO hm with rfl | hm
  ·exact hT
  ·exact h.none m hm
 ·show(a.tmps.setIfInBounds d v).size=_;rw[Array.size_setIfInBounds];exact h.tmps
 ·have:=Wm.1 hs i (List.mem_range.2 hi);rw[hT,Bool.false_or,hd] at this;have hne:d≠s:=fun e=>by subst e;simp at this
  rw[GK hne];exact h.frame s hs
 ·by_cases hmi:m=i
  ·subst hmi;rw[hd] at hs;injection hs with hs
   subst hs;have:=Wm.1 hsz m (List.mem_range.2 hi);rw[hT,Bool.false_or,hd] at this;have hlt:d<a0.tmps.size:=(by simpa using this);rw[F8 (by rw[h.tmps];exact hlt)];exact hv
  ·have hm':listed.getD m false=true:=(GO hm).resolve_left hmi;have hmlt:m<ops.size:=by
    apply Nat.lt_of_not_le;intro hge;rw[BM,Array.getElem?_eq_none hge] at hs;cases hs
   have:=Wm.1 hu2 m (List.mem_range.2 hmlt);rw[Wl,h.none m hm',hs,hd] at this;have hne:d≠s:=fun e=>by subst e;simp at this;exact hmi this.2
   rw[GK hne];exact hF _ _ _ _ (h.facts m s hs hm') hb
theorem Gt(LI:Array Bool)(hL1:LI.size=ops.size)(hL2:((List.range ops.size).all fun i=>LI.getD i false == !T.contains i)=true){n':Nat}(hL3:LI.toList.count true+n'=ops.size)
 (hend:∀ a w,Dr ops T a0 w0 F LI a w→wpAny P .any ops Q n' LI a w) (fuel:Nat) (listed:Array Bool) (a:Act) (w:World) (hc:listed.toList.count true+fuel=ops.size) (h:Dr ops T a0 w0 F listed a w)
 (hall:∀ i,i<ops.size→T.contains i=false→listed.getD i false=true):wpAny P .any ops Q fuel listed a w:=by
 have he:listed=LI:=by
  refine Array.ext (h.size.trans hL1.symm) fun i h1 h2=>?_
  have hi:i<ops.size:=h.size ▸ h1;have h3:=Wm.1 hL2 i (List.mem_range.2 hi);rw[Array.getD_eq_getD_getElem?,Array.getElem?_eq_getElem h2] at h3;have h4:listed.getD i false = !T.contains i:=by
   cases hT:T.contains i with
   | false=>exact hall i hi hT
   | true=>
     cases hg:listed.getD i false with
     | false=>rfl
     | true=>rw[h.none i hg] at hT;cases hT
  rw[Array.getD_eq_getD_getElem?,Array.getElem?_eq_getElem h1] at h4;have h5:LI[i] = !T.contains i:=(by simpa using h3);rw[h5];exact h4
 subst he;have:fuel=n':=by omega
 subst this;exact hend a w h
theorem RW(hB:Lv ops T=true){k:Nat}(hK:SI ops T k=true)(hsz:(List.range ops.size).all (fun i=>T.contains i || ((BM ops i).map (fun d=>decide (d<a0.tmps.size))).getD false)=true)
 (hF:∀ i v w w',F i v w→Below w.heap.size w w'→F i v w') (H:∀ i,i<ops.size→T.contains i=false→Iy P ops T a0 w0 F i)
 (LI:Array Bool) (hL1:LI.size=ops.size) (hL2:((List.range ops.size).all fun i=>LI.getD i false == !T.contains i)=true) {n':Nat} (hL3:LI.toList.count true+n'=ops.size)
 (hend:∀ a w,Dr ops T a0 w0 F LI a w→wpAny P .any ops Q n' LI a w) :
 ∀(fuel:Nat) (listed:Array Bool) (a:Act) (w:World),listed.toList.count true+fuel=ops.size→Dr ops T a0 w0 F listed a w→wpAny P .any ops Q fuel listed a w:=by
 intro fuel
 induction fuel with
 | zero=>
   intro listed a w hc h;exact Gt LI hL1 hL2 hL3 hend 0 listed a w hc h (fun i hi _=>by
    have h1:listed.toList.count true=listed.toList.length:=(by rw[Array.length_toList,h.size];omega);have h2:=List.count_eq_length.1 h1;have hlt:i<listed.size:=(by rw[h.size];exact hi);have h3:=h2 listed[i] (by simp);rw[Array.getD_eq_getD_getElem?,Array.getElem?_eq_getElem hlt,← h3];rfl)
 | succ fuel ih=>
   intro listed a w hc h;by_cases hall:∀ i,i<ops.size→T.contains i=false→listed.getD i false=true
   ·exact Gt LI hL1 hL2 hL3 hend (fuel+1) listed a w hc h hall
   refine⟨fun hr=>?_,fun i hi=>?_⟩
   ·exfalso;apply hall;intro i
    induction i using Nat.strongRecOn with
    | ind i ihi=>
      intro hi hT;cases hg:listed.getD i false with
      | true=>rfl
      | false=>
        have hin:i∈Region.ready .any ops listed:=by
         refine mem_ready.2 ⟨?_,ops[i],Array.getElem?_eq_getElem hi,fun e he hb=>?_⟩
         ·have hlt:i<listed.size:=(by rw[h.size];exact hi);rw[Array.getD_eq_getD_getElem?,Array.getElem?_eq_getElem hlt] at hg ⊢;exact hg
         ·have hd:DK ops i e.on=true:=(D7 (Array.getElem?_eq_getElem hi)).2 ⟨e,he,hb,rfl⟩;have hu:=Wm.1 hB i (List.mem_range.2 hi);rw[hT,Bool.false_or,Wl] at hu;by_cases hlt:e.on<ops.size
          ·have:=Wm.1 hu.2 e.on (List.mem_range.2 hlt);rw[hd] at this;simp at this;exact ihi e.on this.1.1 hlt (by simpa using this.1.2)
          ·have hx:e.on<i:=by
            have h5:=hu.1;rw[Wl,Array.getElem?_eq_getElem hi] at h5;have h6:=h5.2;simp only[Option.map_some,Option.getD_some,Wl] at h6;have h7:=(Array.all_eq_true_iff_forall_mem.1 h6.2) e he;rw[hb] at h7;simpa using h7
           omega
        rw[hr] at hin;cases hin
   ·obtain⟨hun,o,ho,hdeps⟩:=mem_ready.1 hi;have hlt:i<ops.size:=(Array.getElem?_eq_some_iff.1 ho).1;have hdep:∀ j,DK ops i j=true→listed.getD j false=true:=fun j hj=>by
     obtain⟨e,he,hb,rfl⟩:=(D7 ho).1 hj;exact hdeps e he hb
    cases hT:T.contains i with
    | true=>
      exfalso;apply hall;intro m hm hmT;have h1:=Wm.1 (Wm.1 hK i (List.contains_iff_mem.1 hT)) m (List.mem_range.2 hm);rw[hmT,Bool.false_or] at h1;exact Fj h.closed k _ (fun j hj=>hdep j (List.mem_filter.1 hj).2) m (List.contains_iff_mem.1 h1)
    | false=>
      have hu:=Wm.1 hB i (List.mem_range.2 hlt);rw[hT,Bool.false_or,Wl,Wl,ho] at hu;have hgu:o.guard=none:=(by have h8:=hu.1.2;simp only[Option.map_some,Option.getD_some,Wl] at h8;simpa using h8.1);obtain⟨d,hd⟩:=Option.isSome_iff_exists.1 hu.1.1;have hod:o.dst=some d:=(by unfold BM at hd;rw[ho] at hd;exact hd);have hob:=H i hlt hT o ho a.eval w (fun _=>rfl) (fun _=>rfl) (fun _=>rfl) h.frame h.below (fun j s hs hj=>h.facts j s hs (hdep j hj));have hcnt:(listed.setIfInBounds i true).toList.count true+fuel=ops.size:=by
       rw[Array.toList_setIfInBounds,List.count_set (by rw[Array.length_toList,h.size];exact hlt)];have hx:listed.toList[i]'(by rw[Array.length_toList,h.size];exact hlt)=false:=by
        have hl:i<listed.size:=(by rw[h.size];exact hlt);rw[Array.getD_eq_getD_getElem?,Array.getElem?_eq_getElem hl] at hun;simpa using hun
       rw[hx,if_neg (by decide),if_pos (by decide)];omega
      unfold wpOp;rw[ho];dsimp only;rw[if_pos (by simp[Region.wanted,hgu])];left;unfold Oper.wp;have hnext:∀ v w',Below w.heap.size w w'→F i v w'→wpAny P .any ops Q fuel (listed.setIfInBounds i true) (a.put o.dst v) w':=fun v w' hb hv=>by
       rw[hod];exact ih _ _ _ hcnt (h.step hB hsz hF hlt hT hd hdep hb hv)
      generalize (execOp a.eval o).run P w=res at *;cases res with
      | ok n w'=>
        cases n<;>simp only[CF] at hob<;>simp only[Oper.upon]
        case value v=>exact hnext v w' hob.1 hob.2
        case enter f args=>
         refine Calls.mono hob fun e w'' he=>?_
         obtain⟨v,rfl,hb,hv⟩:=he;exact hnext v w'' hb hv
      | halt x w'=>simp only[CF] at hob
def Jf(ops:Array Oper)(T:List Nat)(k u:Nat):Bool:=
 T.all fun t=>(List.range ops.size).all (fun i=>T.contains i || i == u || (LS ops k ((List.range ops.size).filter (fun j=>DK ops t j))).contains i)
theorem Px(u:Nat)(hB:Lv ops T=true){k:Nat}(hK:Jf ops T k u=true)(hsz:(List.range ops.size).all (fun i=>T.contains i || ((BM ops i).map (fun d=>decide (d<a0.tmps.size))).getD false)=true)
 (hF:∀ i v w w',F i v w→Below w.heap.size w w'→F i v w') (H:∀ i,i<ops.size→T.contains i=false→i≠u→Iy P ops T a0 w0 F i)
 (LI:Array Bool) (hL1:LI.size=ops.size) (hL2:((List.range ops.size).all fun i=>LI.getD i false == !T.contains i)=true) {n':Nat} (hL3:LI.toList.count true+n'=ops.size)
 (hend:∀ a w,Dr ops T a0 w0 F LI a w→wpAny P .any ops Q n' LI a w) :
 ∀(fuel:Nat) (listed:Array Bool) (a:Act) (w:World),listed.toList.count true+fuel=ops.size→Dr ops T a0 w0 F listed a w→listed.getD u false=true→wpAny P .any ops Q fuel listed a w:=by
 intro fuel
 induction fuel with
 | zero=>
   intro listed a w hc h hlu;exact Gt LI hL1 hL2 hL3 hend 0 listed a w hc h (fun i hi _=>by
    have h1:listed.toList.count true=listed.toList.length:=(by rw[Array.length_toList,h.size];omega);have h2:=List.count_eq_length.1 h1;have hlt:i<listed.size:=(by rw[h.size];exact hi);have h3:=h2 listed[i] (by simp);rw[Array.getD_eq_getD_getElem?,Array.getElem?_eq_getElem hlt,← h3];rfl)
 | succ fuel ih=>
   intro listed a w hc h hlu;by_cases hall:∀ i,i<ops.size→T.contains i=false→listed.getD i false=true
   ·exact Gt LI hL1 hL2 hL3 hend (fuel+1) listed a w hc h hall
   refine⟨fun hr=>?_,fun i hi=>?_⟩
   ·exfalso;apply hall;intro i
    induction i using Nat.strongRecOn with
    | ind i ihi=>
      intro hi hT;cases hg:listed.getD i false with
      | true=>rfl
      | false=>
        have hin:i∈Region.ready .any ops listed:=by
         refine mem_ready.2 ⟨?_,ops[i],Array.getElem?_eq_getElem hi,fun e he hb=>?_⟩
         ·have hlt:i<listed.size:=(by rw[h.size];exact hi);rw[Array.getD_eq_getD_getElem?,Array.getElem?_eq_getElem hlt] at hg ⊢;exact hg
         ·have hd:DK ops i e.on=true:=(D7 (Array.getElem?_eq_getElem hi)).2 ⟨e,he,hb,rfl⟩;have hu:=Wm.1 hB i (List.mem_range.2 hi);rw[hT,Bool.false_or,Wl] at hu;by_cases hlt:e.on<ops.size
          ·have:=Wm.1 hu.2 e.on (List.mem_range.2 hlt);rw[hd] at this;simp at this;exact ihi e.on this.1.1 hlt (by simpa using this.1.2)
          ·have hx:e.on<i:=by
            have h5:=hu.1;rw[Wl,Array.getElem?_eq_getElem hi] at h5;have h6:=h5.2;simp only[Option.map_some,Option.getD_some,Wl] at h6;have h7:=(Array.all_eq_true_iff_forall_mem.1 h6.2) e he;rw[hb] at h7;simpa using h7
           omega
        rw[hr] at hin;cases hin
   ·obtain⟨hun,o,ho,hdeps⟩:=mem_ready.1 hi;have hlt:i<ops.size:=(Array.getElem?_eq_some_iff.1 ho).1;have hdep:∀ j,DK ops i j=true→listed.getD j false=true:=fun j hj=>by
     obtain⟨e,he,hb,rfl⟩:=(D7 ho).1 hj;exact hdeps e he hb
    cases hT:T.contains i with
    | true=>
      exfalso;apply hall;intro m hm hmT;have h1:=Wm.1 (Wm.1 hK i (List.contains_iff_mem.1 hT)) m (List.mem_range.2 hm);by_cases hmu:m=u
      ·rw[hmu];exact hlu
      have hne:(m == u)=false:=(by simpa using hmu);rw[hmT,hne,Bool.false_or,Bool.false_or] at h1;exact Fj h.closed k _ (fun j hj=>hdep j (List.mem_filter.1 hj).2) m (List.contains_iff_mem.1 h1)
    | false=>
      have hu:=Wm.1 hB i (List.mem_range.2 hlt);rw[hT,Bool.false_or,Wl,Wl,ho] at hu;have hgu:o.guard=none:=(by have h8:=hu.1.2;simp only[Option.map_some,Option.getD_some,Wl] at h8;simpa using h8.1);obtain⟨d,hd⟩:=Option.isSome_iff_exists.1 hu.1.1;have hod:o.dst=some d:=(by unfold BM at hd;rw[ho] at hd;exact hd);have hiu:i≠u:=fun e=>by subst e;rw[Array.getD_eq_getD_getElem?] at hun hlu;cases hq:listed[i]? with
       | none=>rw[hq] at hlu;cases hlu
       | some b=>rw[hq] at hlu hun;simp at hlu hun;rw[hlu] at hun;cases hun
      have hob:=H i hlt hT hiu o ho a.eval w (fun _=>rfl) (fun _=>rfl) (fun _=>rfl) h.frame h.below (fun j s hs hj=>h.facts j s hs (hdep j hj));have hcnt:(listed.setIfInBounds i true).toList.count true+fuel=ops.size:=by
       rw[Array.toList_setIfInBounds,List.count_set (by rw[Array.length_toList,h.size];exact hlt)];have hx:listed.toList[i]'(by rw[Array.length_toList,h.size];exact hlt)=false:=by
        have hl:i<listed.size:=(by rw[h.size];exact hlt);rw[Array.getD_eq_getD_getElem?,Array.getElem?_eq_getElem hl] at hun;simpa using hun
       rw[hx,if_neg (by decide),if_pos (by decide)];omega
      unfold wpOp;rw[ho];dsimp only;rw[if_pos (by simp[Region.wanted,hgu])];left;unfold Oper.wp;have hnext:∀ v w',Below w.heap.size w w'→F i v w'→wpAny P .any ops Q fuel (listed.setIfInBounds i true) (a.put o.dst v) w':=fun v w' hb hv=>by
       rw[hod];exact ih _ _ _ hcnt (h.step hB hsz hF hlt hT hd hdep hb hv) (Ha hlu)
      generalize (execOp a.eval o).run P w=res at *;cases res with
      | ok n w'=>
        cases n<;>simp only[CF] at hob<;>simp only[Oper.upon]
        case value v=>exact hnext v w' hob.1 hob.2
        case enter f args=>
         refine Calls.mono hob fun e w'' he=>?_
         obtain⟨v,rfl,hb,hv⟩:=he;exact hnext v w'' hb hv
      | halt x w'=>simp only[CF] at hob
def Hg(P:Program)(ops:Array Oper)(T:List Nat)(a0:Act)(w0:World)(F:Nat→Value→World→Prop):List Nat→Prop
 | []=>True
 | i :: l=>Iy P ops T a0 w0 F i∧Hg P ops T a0 w0 F l
theorem EV:∀ {l:List Nat},Hg P ops T a0 w0 F l→∀ i∈l,Iy P ops T a0 w0 F i
 | _ :: _,h,i,hi=>by
   rcases List.mem_cons.1 hi with rfl | hi
   ·exact h.1
   ·exact EV h.2 i hi
theorem A7{i:Nat}{o:Oper}(ho:ops[i]?=some o)(h:∀(r:Operand→Value) (w:World),(∀ v,r (.const v)=v)→(∀ f,r (.func f) = .func (.func f) #[] #[])→(∀ g,r (.global g) = .pointer (some ⟨g,0,none⟩))→
 (∀ s,NH ops T s=true→r (.tmp s)=a0.eval (.tmp s))→Below w0.heap.size w0 w→
 (∀ j s,BM ops j=some s→DK ops i j=true→F j (r (.tmp s)) w)→CF P w (F i) ((execOp r o).run P w)):Iy P ops T a0 w0 F i:=by
 intro o' ho' r w h1 h2 h3 h4 h5 h6;rw[ho] at ho';injection ho' with ho'
 subst ho';exact h r w h1 h2 h3 h4 h5 h6
def MS(p:Value→World→Prop):Prop:=∀ v w w',p v w→Below w.heap.size w w'→p v w'
theorem A8(c:Value):MS (fun v _=>v=c):=fun _ _ _ h _=>h
theorem An:MS (fun _ _=>True):=fun _ _ _ h _=>h
def EJ:List (Value→World→Prop)→Prop
 | []=>True
 | p :: l=>MS p∧EJ l
theorem FF:∀ {l:List (Value→World→Prop)},EJ l→∀ i,MS (l.getD i (fun _ _=>True))
 | [],_,_=>An
 | _ :: _,h,0=>h.1
 | _ :: _,h,i+1=>FF h.2 i
def AD(a:Act)(D:List Nat)(x:Act):Act:=D.foldl (fun y d=>y.put (some d) (a.eval (.tmp d))) x
theorem ER(a:Act):∀(D:List Nat) (x:Act),(AD a D x).tmps.size=x.tmps.size∧(AD a D x).defers=x.defers
 | [],_=>⟨rfl,rfl⟩
 | d :: D,x=>by
   have h:=ER a D (x.put (some d) (a.eval (.tmp d)));refine⟨h.1.trans ?_,h.2⟩;show(x.tmps.setIfInBounds d _).size=_;rw[Array.size_setIfInBounds]
theorem EQ(a:Act){s:Nat}:∀(D:List Nat) (x:Act),s<x.tmps.size→(AD a D x).eval (.tmp s)=if D.contains s then a.eval (.tmp s) else x.eval (.tmp s)
 | [],_,_=>rfl
 | d :: D,x,hs=>by
   have h:=EQ a D (x.put (some d) (a.eval (.tmp d))) (by show s<(x.tmps.setIfInBounds d _).size;rw[Array.size_setIfInBounds];exact hs);show(AD a D (x.put (some d) (a.eval (.tmp d)))).eval (.tmp s)=_;rw[h,List.contains_cons];by_cases hd:d=s
   ·subst hd;rw[F8 hs];simp
   ·rw[GK hd];have:(s == d)=false:=by simpa using fun e=>hd e.symm
    rw[this,Bool.false_or]
theorem IR{a b:Act}(h1:a.tmps.size=b.tmps.size)(h2:a.defers=b.defers)(h3:∀ s,s<a.tmps.size→a.eval (.tmp s)=b.eval (.tmp s)):a=b:=by
 obtain⟨t,d⟩:=a;obtain⟨t',d'⟩:=b;dsimp only at h1 h2 h3;subst h2
 congr 1
 refine Array.ext h1 fun i hi hi'=>?_
 have:=h3 i hi;simpa [Act.eval,Array.getD_eq_getD_getElem?,Array.getElem?_eq_getElem hi,Array.getElem?_eq_getElem hi'] using this
theorem Am{id:Nat}(hm:P.follows .mixedOrders=true)(T:List Nat)(k:Nat)(L:List Nat)(D:List Nat)(LI:Array Bool)(n':Nat)(G:List (Value→World→Prop))
 (hB:Lv ops T=true) (hK:SI ops T k=true) (hsz:(List.range ops.size).all (fun i=>T.contains i || ((BM ops i).map (fun d=>decide (d<a0.tmps.size))).getD false)=true)
 (hL:(List.range ops.size).all (fun i=>T.contains i || L.contains i)=true) (hD:(List.range a0.tmps.size).all (fun s=>D.contains s || NH ops T s)=true)
 (hL1:LI.size=ops.size) (hL2:((List.range ops.size).all fun i=>LI.getD i false == !T.contains i)=true) (hL3:LI.toList.count true+n'=ops.size)
 (hG:EJ G) (H:Hg P ops T a0 w0 (fun i=>G.getD i (fun _ _=>True)) L)
 (hend:∀ a w,Below w0.heap.size w0 w→(∀ i s,BM ops i=some s→LI.getD i false=true→G.getD i (fun _ _=>True) (a.eval (.tmp s)) w)→wpAny P .any ops Q n' LI (AD a D a0) w) :
 (Code.region id ops true).wp P Q a0 w0:=by
 refine wp_region_any hm (RW (w0:=w0) hB hK hsz (fun i v w w' h hb=>FF hG i v w w' h hb) (fun i hi hT=>?_) LI hL1 hL2 hL3 (fun a w h=>?_) ops.size (Array.replicate ops.size false) a0 _ ?_ ?_)
 ·have:=Wm.1 hL i (List.mem_range.2 hi);rw[hT,Bool.false_or] at this;exact EV H i (List.contains_iff_mem.1 this)
 ·have he:a=AD a D a0:=by
   obtain⟨f1,f2⟩:=ER a D a0;refine IR (h.tmps.trans f1.symm) (h.defers.trans f2.symm) fun s hs=>?_
   have hs':s<a0.tmps.size:=(by rw[← h.tmps];exact hs);rw[EQ a D a0 hs'];split
   ·rfl
   ·rename_i hn
    have:=Wm.1 hD s (List.mem_range.2 hs');rw[Bool.or_eq_true] at this;exact h.frame s (this.resolve_left hn)
  have h2:=hend a w h.below h.facts;rw[← he] at h2;exact h2
 ·rw[Array.toList_replicate,List.count_replicate,if_neg (by decide),Wq]
 ·refine⟨Array.size_replicate,fun i j hi=>?_,fun i hi=>?_,rfl,rfl,fun _ _=>rfl,(VU _ w0).drew,fun i s _ hi=>?_⟩
  all_goals
   rw[Array.getD_eq_getD_getElem?,Array.getElem?_replicate] at hi;split at hi<;>cases hi
theorem Iz(w0:World)(F:Nat→Value→World→Prop):Dr ops T a0 w0 F (Array.replicate ops.size false) a0 w0.drew:=by
 refine⟨Array.size_replicate,fun i j hi=>?_,fun i hi=>?_,rfl,rfl,fun _ _=>rfl,(VU _ w0).drew,fun i s _ hi=>?_⟩
 all_goals
  rw[Array.getD_eq_getD_getElem?,Array.getElem?_replicate] at hi;split at hi<;>cases hi
theorem EO{id:Nat}(hm:P.follows .mixedOrders=true)(T:List Nat)(k:Nat)(L:List Nat)(D:List Nat)(LI:Array Bool)(n':Nat)(G:List (Value→World→Prop))(u d:Nat)(v:Value){ou:Oper}
 (hu:ops[u]?=some ou) (hud:ou.dst=some d) (hdu:BM ops u=some d) (huT:T.contains u=false) (hs:Region.noSelect ops=true) (hf:Region.free .any ops (Array.replicate ops.size false) u=true) (hr:(Region.ready .any ops (Array.replicate ops.size false)).contains u=true)
 (hQ:∀ c a w,Q (.panic c) (a.put ou.dst v) w→Q (.panic c) a w) (hy:Yields P ops ou v a0) (hnd:(List.range ops.size).all (fun j=>!DK ops u j)=true) (hvu:∀ w,G.getD u (fun _ _=>True) v w)
 (hB:Lv ops T=true) (hK:Jf ops T k u=true) (hsz:(List.range ops.size).all (fun i=>T.contains i || ((BM ops i).map (fun d=>decide (d<a0.tmps.size))).getD false)=true)
 (hL:(List.range ops.size).all (fun i=>T.contains i || i == u || L.contains i)=true) (hD:(List.range a0.tmps.size).all (fun s=>D.contains s || NH ops T s)=true)
 (hL1:LI.size=ops.size) (hL2:((List.range ops.size).all fun i=>LI.getD i false == !T.contains i)=true) (hL3:LI.toList.count true+n'=ops.size)
 (hG:EJ G) (H:Hg P ops T a0 w0 (fun i=>G.getD i (fun _ _=>True)) L)
 (hend:∀ a w,Below w0.heap.size w0 w→(∀ i s,BM ops i=some s→LI.getD i false=true→G.getD i (fun _ _=>True) (a.eval (.tmp s)) w)→wpAny P .any ops Q n' LI (AD a D a0) w) :
 (Code.region id ops true).wp P Q a0 w0:=by
 have hult:u<ops.size:=(Array.getElem?_eq_some_iff.1 hu).1;have hsub:∃ m,ops.size=m+1:=⟨ops.size - 1,by omega⟩;obtain⟨m,hm1⟩:=hsub;refine wp_region_any hm ?_;rw[hm1,← hm1];have hF:∀ i v w w',G.getD i (fun _ _=>True) v w→Below w.heap.size w w'→G.getD i (fun _ _=>True) v w':=fun i v w w' h hb=>FF hG i v w w' h hb
 have hnod:∀ j,DK ops u j=true→False:=fun j hj=>by
  obtain⟨e,he,hb,rfl⟩:=(D7 hu).1 hj;have hB1:=Wm.1 hB u (List.mem_range.2 hult);rw[huT,Bool.false_or,Wl,Wl,hu] at hB1;have h8:=hB1.1.2;simp only[Option.map_some,Option.getD_some,Wl] at h8;have h9:=(Array.all_eq_true_iff_forall_mem.1 h8.2) e he;have h10:e.on<u:=(by rw[hb] at h9;simpa using h9);have:=Wm.1 hnd e.on (List.mem_range.2 (by omega));rw[hj] at this;cases this
 have h1:=Dr.step (T:=T) (a0:=a0) (w0:=w0) (F:=fun i=>G.getD i (fun _ _=>True)) (v:=v) hB hsz hF (Iz w0 _) hult huT hdu (fun j hj=>(hnod j hj).elim) (VU _ _) (hvu _)
 suffices h:wpAny P .any ops Q m ((Array.replicate ops.size false).setIfInBounds u true) (a0.put (some d) v) w0.drew by
  have h2:=wpAny_take (Q:=Q) (a:=a0) (w:=w0.drew) (fuel:=m) hu hs hf hr hQ hy (by rw[hud];exact h);rw[← hm1] at h2;exact h2
 refine Px (w0:=w0) u hB hK hsz hF (fun i hi hT hiu=>?_) LI hL1 hL2 hL3 (fun a w h=>?_) m _ _ _ ?_ h1 ?_
 ·have:=Wm.1 hL i (List.mem_range.2 hi);have hne:(i == u)=false:=(by simpa using hiu);rw[hT,hne,Bool.false_or,Bool.false_or] at this;exact EV H i (List.contains_iff_mem.1 this)
 ·have he:a=AD a D a0:=by
   obtain⟨f1,f2⟩:=ER a D a0;refine IR (h.tmps.trans f1.symm) (h.defers.trans f2.symm) fun s hs=>?_
   have hs':s<a0.tmps.size:=(by rw[← h.tmps];exact hs);rw[EQ a D a0 hs'];split
   ·rfl
   ·rename_i hn
    have:=Wm.1 hD s (List.mem_range.2 hs');rw[Bool.or_eq_true] at this;exact h.frame s (this.resolve_left hn)
  have h2:=hend a w h.below h.facts;rw[← he] at h2;exact h2
 ·rw[Array.toList_setIfInBounds,Array.toList_replicate,List.count_set (by rw[List.length_replicate];exact hult),List.count_replicate,if_neg (by decide),List.getElem_replicate,if_neg (by decide),if_pos (by decide)];omega
 ·rw[Array.getD_eq_getD_getElem?,Array.getElem?_setIfInBounds_self_of_lt (by rw[Array.size_replicate];exact hult)];rfl
end
end
section
def CZ(w:World)(a:Option Addr)(l:List (Nat × Int)):Prop:=
 (∀ c∈l,c.1<256∧-9223372036854775808≤c.2∧c.2≤9223372036854775807)∧
 (l=[]∨∃ b off,a=some ⟨b,off,none⟩∧∀ i c,l[i]?=some c→w.cell? ⟨b,off+i*2,none⟩=some (.int .u8 (c.1:Int))∧w.cell? ⟨b,off+i*2+1,none⟩=some (.int .i64 c.2))
theorem CZ.below{w w':World}{a:Option Addr}{l:List (Nat × Int)}(hb:Below w.heap.size w w')(h:CZ w a l):CZ w' a l:=by
 refine⟨h.1,h.2.imp id ?_⟩;rintro⟨b,off,rfl,hc⟩;exact⟨b,off,rfl,fun i c hi=>⟨VY hb (hc i c hi).1,VY hb (hc i c hi).2⟩⟩
theorem CZ.at{w:World}{a:Option Addr}{l:List (Nat × Int)}(h:CZ w a l){i:Nat}(hi:i<l.length) :
 ∃ b off k n,a=some ⟨b,off,none⟩∧l[i]?=some (k,n)∧k<256∧(-9223372036854775808≤n∧n≤9223372036854775807)∧w.cell? ⟨b,off+i*2,none⟩=some (.int .u8 (k:Int))∧w.cell? ⟨b,off+i*2+1,none⟩=some (.int .i64 n):=by
 obtain⟨b,off,rfl,hc⟩:=h.2.resolve_left (by rintro rfl;simp at hi);have hg:=Wb hi;have hm:=h.1 _ (List.getElem_mem hi);obtain⟨h1,h2⟩:=hc i _ hg;exact⟨b,off,l[i].1,l[i].2,rfl,hg,hm.1,hm.2,h1,h2⟩
end
section
def As{α:Type}(sz:Nat)(f:α→List Value)(w:World)(a:Option Addr)(l:List α):Prop:=
 l=[]∨∃ b off,a=some ⟨b,off,none⟩∧∀ i c,l[i]?=some c→∀ j v,(f c)[j]?=some v→w.cell? ⟨b,off+i*sz+j,none⟩=some v
theorem As.below{α:Type}{sz:Nat}{f:α→List Value}{w w':World}{a:Option Addr}{l:List α}(h:As sz f w a l)(hb:Below w.heap.size w w'):As sz f w' a l:=by
 refine h.imp id ?_;rintro⟨b,off,rfl,hc⟩;exact⟨b,off,rfl,fun i c hi j v hv=>VY hb (hc i c hi j v hv)⟩
theorem As.nil{α:Type}{sz:Nat}{f:α→List Value}{w:World}{a:Option Addr}:As sz f w a []:=.inl rfl
theorem As.take{α:Type}{sz:Nat}{f:α→List Value}{w:World}{a:Option Addr}{l:List α}(h:As sz f w a l)(n:Nat):As sz f w a (l.take n):=by
 rcases h with rfl | ⟨b,off,rfl,hc⟩
 ·exact .inl (by simp)
 ·refine .inr ⟨b,off,rfl,fun i c hi=>hc i c ?_⟩;rw[List.getElem?_take] at hi;split at hi
  ·exact hi
  ·cases hi
structure Sl(α:Type) where
 a:Option Addr
 c:Nat
 l:List α
def Sl.v{α:Type}(s:Sl α):Value:=.slice s.a s.l.length s.c
structure B7{α:Type}(sz:Nat)(f:α→List Value)(w:World)(s:Sl α):Prop where
 row:As sz f w s.a s.l
 len:s.l.length≤s.c
 cap:s.c≤maxLen
 capNil:s.a=none→s.c=0
theorem B7.below{α:Type}{sz:Nat}{f:α→List Value}{w w':World}{s:Sl α}(h:B7 sz f w s)(hb:Below w.heap.size w w'):B7 sz f w' s:=⟨h.row.below hb,h.len,h.cap,h.capNil⟩
theorem B7.lenM{α:Type}{sz:Nat}{f:α→List Value}{w:World}{s:Sl α}(h:B7 sz f w s):s.l.length≤9223372036854775807:=by have:=h.len;have:=h.cap;unfold maxLen at this;omega
abbrev BA:=ByteArray
def AT(x:Int):List Value:=[.int .i64 x]
def Dz(s:BA):List Value:=[.string s]
def CX(n:Int × Bool):List Value:=[.int .i64 n.1,.bool n.2]
def O3(p:BA × Int):List Value:=[.string p.1,.int .i64 p.2]
structure Rt where
 nm:BA
 sg:Int
 pa:Sl Int
 po:Sl (Int × Bool)
 ov:Sl Int
 fl:Sl (Int × Bool)
def Qj(r:Rt):List Value:=[.string r.nm,.int .i64 r.sg,r.pa.v,r.po.v,r.ov.v,r.fl.v]
structure CM(w:World)(r:Rt):Prop where
 nm:r.nm.size≤maxLen
 pa:B7 1 AT w r.pa
 po:B7 2 CX w r.po
 ov:B7 1 AT w r.ov
 fl:B7 2 CX w r.fl
theorem CM.below{w w':World}{r:Rt}(h:CM w r)(hb:Below w.heap.size w w'):CM w' r:=⟨h.nm,h.pa.below hb,h.po.below hb,h.ov.below hb,h.fl.below hb⟩
structure AL where
 se:Sl BA
 po:Sl (BA × Int)
 sg:Sl (BA × Int)
 rt:Sl Rt
structure AO(w:World)(L:AL):Prop where
 se:B7 1 Dz w L.se
 po:B7 2 O3 w L.po
 sg:B7 2 O3 w L.sg
 rt:B7 6 Qj w L.rt
 sn:∀ s∈L.se.l,s.size≤maxLen
 pn:∀ p∈L.po.l,p.1.size≤maxLen
 gn:∀ p∈L.sg.l,p.1.size≤maxLen
 rn:∀ r∈L.rt.l,CM w r
theorem AO.below{w w':World}{L:AL}(h:AO w L)(hb:Below w.heap.size w w'):AO w' L:=⟨h.se.below hb,h.po.below hb,h.sg.below hb,h.rt.below hb,h.sn,h.pn,h.gn,fun r hr=>(h.rn r hr).below hb⟩
theorem Gi{α:Type}{P:Program}{t e:TypeId}{sz:Nat}{f:α→List Value}{A:α→Prop}{w:World}{cs:List Value}(hu:P.underlying t=some (.slice e))(hsz:P.cellsOf e=sz)(hpos:0<sz)(hlen:∀ c,(f c).length=sz)
 (hel:∀ cs,Rd P w e cs→∃ c:α,cs=f c∧A c) (h:Rd P w t cs):∃ s:Sl α,cs=[s.v]∧B7 sz f w s∧∀ c∈s.l,A c:=by
 rcases h.slice hu with rfl | ⟨x,len,cap,rfl,hlc,hcm,hcell⟩
 ·exact⟨⟨none,0,[]⟩,rfl,⟨.inl rfl,Wc _,Nat.zero_le _,fun _=>rfl⟩,by simp⟩
 ·have H:∀ i,i<len→∃ c:α,A c∧∀ j v,(f c)[j]?=some v→w.cell? ((x.add (i*sz)).add j)=some v:=by
   intro i hi;obtain⟨ecs,he,hr⟩:=hcell i (by omega);rw[hsz] at he;obtain⟨c,rfl,hA⟩:=hel ecs hr;obtain⟨_,hg⟩:=Ic he;refine⟨c,hA,fun j v hv=>?_⟩;have hj:j<sz:=(by rw[← hlen c];exact(We.1 hv).1);obtain⟨v',g0,c0⟩:=hg j hj;rw[hv] at g0;cases g0;exact c0
  obtain⟨l,hl,hq⟩:=Mm len H;refine⟨⟨some x,cap,l⟩,by unfold Sl.v;rw[hl],⟨?_,by dsimp only;omega,hcm,fun h=>by cases h⟩,fun c hc=>?_⟩
  ·rcases l with _ | ⟨c0,l⟩
   ·exact .inl rfl
   ·right;have h0:=(hq 0 c0 rfl).2;have hs:x.spot=none:=by
     have hz:0<(f c0).length:=(by rw[hlen];exact hpos);have:=h0 0 _ (Wb hz);rw[Nat.zero_mul] at this;exact World.cell?_spot (show w.cell? x=some _ by simpa [Addr.add] using this)
    obtain⟨b,off,spot⟩:=x;subst hs;refine⟨b,off,rfl,fun i c hi j v hv=>?_⟩;have:=(hq i c hi).2 j v hv;simpa only[Addr.add_lit,Wa] using this
  ·obtain⟨i,hi⟩:=List.getElem?_of_mem hc;exact(hq i c hi).1
theorem Tv{w:World}{cs:List Value}(h:Rd Tryz.prog w 3 cs):∃ c:Int,cs=AT c∧True:=by
 obtain⟨n,rfl,_⟩:=h.int Tryz.underlying3;exact⟨n,rfl,trivial⟩
theorem U8{w:World}{cs:List Value}(h:Rd Tryz.prog w 9 cs):∃ c:BA,cs=Dz c∧c.size≤maxLen:=by
 obtain⟨s,rfl,h2⟩:=h.str Tryz.underlying9;exact⟨s,rfl,h2⟩
theorem UP{w:World}{cs:List Value}(h:Rd Tryz.prog w 71 cs):∃ c:Int × Bool,cs=CX c∧True:=by
 obtain⟨hl,hf⟩:=h.fields (L:=[(3,0),(4,1)]) (by kernel_rfl) (by kernel_rfl);rw[show Tryz.prog.cellsOf 71=2 by kernel_rfl] at hl
 match cs,hl with
 | [x,y],_=>
   have h0:=hf (3,0) (by simp);have h1:=hf (4,1) (by simp);simp only[show Tryz.prog.cellsOf 3=1 by kernel_rfl,show Tryz.prog.cellsOf 4=1 by kernel_rfl] at h0 h1;obtain⟨a,ha,_⟩:=h0.int Tryz.underlying3;obtain⟨b,hb⟩:=h1.bool Tryz.underlying4;simp at ha hb;exact⟨(a,b),by rw[ha,hb];rfl,trivial⟩
theorem UR{w:World}{cs:List Value}(h:Rd Tryz.prog w 68 cs):∃ c:BA × Int,cs=O3 c∧c.1.size≤maxLen:=by
 obtain⟨hl,hf⟩:=h.fields (L:=[(9,0),(3,1)]) (by kernel_rfl) (by kernel_rfl);rw[show Tryz.prog.cellsOf 68=2 by kernel_rfl] at hl
 match cs,hl with
 | [x,y],_=>
   have h0:=hf (9,0) (by simp);have h1:=hf (3,1) (by simp);simp only[show Tryz.prog.cellsOf 3=1 by kernel_rfl,show Tryz.prog.cellsOf 9=1 by kernel_rfl] at h0 h1;obtain⟨a,ha,hs⟩:=h0.str Tryz.underlying9;obtain⟨b,hb,_⟩:=h1.int Tryz.underlying3;simp at ha hb;exact⟨(a,b),by rw[ha,hb];rfl,hs⟩
theorem Vh{w:World}{cs:List Value}(h:Rd Tryz.prog w 69 cs):∃ c:BA × Int,cs=O3 c∧c.1.size≤maxLen:=by
 obtain⟨hl,hf⟩:=h.fields (L:=[(9,0),(3,1)]) (by kernel_rfl) (by kernel_rfl);rw[show Tryz.prog.cellsOf 69=2 by kernel_rfl] at hl
 match cs,hl with
 | [x,y],_=>
   have h0:=hf (9,0) (by simp);have h1:=hf (3,1) (by simp);simp only[show Tryz.prog.cellsOf 3=1 by kernel_rfl,show Tryz.prog.cellsOf 9=1 by kernel_rfl] at h0 h1;obtain⟨a,ha,hs⟩:=h0.str Tryz.underlying9;obtain⟨b,hb,_⟩:=h1.int Tryz.underlying3;simp at ha hb;exact⟨(a,b),by rw[ha,hb];rfl,hs⟩
theorem Mg{w:World}{cs:List Value}(h:Rd Tryz.prog w 49 cs):∃ s:Sl Int,cs=[s.v]∧B7 1 AT w s:=by
 obtain⟨s,h1,h2,_⟩:=Gi (f:=AT) (sz:=1) (A:=fun _=>True) Tryz.underlying49 (by kernel_rfl) (by decide) (fun _=>rfl) (fun _ h=>Tv h) h;exact⟨s,h1,h2⟩
theorem Pi{w:World}{cs:List Value}(h:Rd Tryz.prog w 50 cs):∃ s:Sl (Int × Bool),cs=[s.v]∧B7 2 CX w s:=by
 obtain⟨s,h1,h2,_⟩:=Gi (f:=CX) (sz:=2) (A:=fun _=>True) Tryz.underlying50 (by kernel_rfl) (by decide) (fun _=>rfl) (fun _ h=>UP h) h;exact⟨s,h1,h2⟩
theorem Vg{w:World}{cs:List Value}(h:Rd Tryz.prog w 52 cs):∃ c:Rt,cs=Qj c∧CM w c:=by
 obtain⟨hl,hf⟩:=h.fields (L:=[(9,0),(3,1),(49,2),(50,3),(49,4),(50,5)]) (by kernel_rfl) (by kernel_rfl);rw[show Tryz.prog.cellsOf 52=6 by kernel_rfl] at hl
 match cs,hl with
 | [x0,x1,x2,x3,x4,x5],_=>
   have h0:=hf (9,0) (by simp);have h1:=hf (3,1) (by simp);have h2:=hf (49,2) (by simp);have h3:=hf (50,3) (by simp);have h4:=hf (49,4) (by simp);have h5:=hf (50,5) (by simp);simp only[show Tryz.prog.cellsOf 3=1 by kernel_rfl,show Tryz.prog.cellsOf 9=1 by kernel_rfl,show Tryz.prog.cellsOf 49=1 by kernel_rfl,show Tryz.prog.cellsOf 50=1 by kernel_rfl] at h0 h1 h2 h3 h4 h5;obtain⟨a,ha,hs⟩:=h0.str Tryz.underlying9;obtain⟨b,hb,_⟩:=h1.int Tryz.underlying3;obtain⟨p,hp,sp⟩:=Mg h2;obtain⟨q,hq,sq⟩:=Pi h3;obtain⟨r,hr,sr⟩:=Mg h4;obtain⟨s,hs2,ss⟩:=Pi h5;simp at ha hb hp hq hr hs2;exact⟨⟨a,b,p,q,r,s⟩,by rw[ha,hb,hp,hq,hr,hs2];rfl,⟨hs,sp,sq,sr,ss⟩⟩
theorem TC{w:World}{cs:List Value}(h:Rd Tryz.prog w 27 cs):∃ L:AL,cs=[L.se.v,L.po.v,L.sg.v,L.rt.v]∧AO w L:=by
 obtain⟨hl,hf⟩:=h.fields (L:=[(22,0),(23,1),(24,2),(25,3)]) (by kernel_rfl) (by kernel_rfl);rw[show Tryz.prog.cellsOf 27=4 by kernel_rfl] at hl
 match cs,hl with
 | [x0,x1,x2,x3],_=>
   have h0:=hf (22,0) (by simp);have h1:=hf (23,1) (by simp);have h2:=hf (24,2) (by simp);have h3:=hf (25,3) (by simp);simp only[show Tryz.prog.cellsOf 22=1 by kernel_rfl,show Tryz.prog.cellsOf 23=1 by kernel_rfl,show Tryz.prog.cellsOf 24=1 by kernel_rfl,show Tryz.prog.cellsOf 25=1 by kernel_rfl] at h0 h1 h2 h3;obtain⟨a,ha,sa,na⟩:=Gi (f:=Dz) (sz:=1) Tryz.underlying22 (by kernel_rfl) (by decide) (fun _=>rfl) (fun _ h=>U8 h) h0;obtain⟨b,hb,sb,nb⟩:=Gi (f:=O3) (sz:=2) Tryz.underlying23 (by kernel_rfl) (by decide) (fun _=>rfl) (fun _ h=>UR h) h1;obtain⟨c,hc,sc,nc⟩:=Gi (f:=O3) (sz:=2) Tryz.underlying24 (by kernel_rfl) (by decide) (fun _=>rfl) (fun _ h=>Vh h) h2;obtain⟨d,hd,sd,nd⟩:=Gi (f:=Qj) (sz:=6) Tryz.underlying25 (by kernel_rfl) (by decide) (fun _=>rfl) (fun _ h=>Vg h) h3;simp at ha hb hc hd;exact⟨⟨a,b,c,d⟩,by rw[ha,hb,hc,hd],⟨sa,sb,sc,sd,na,nb,nc,nd⟩⟩
end
section
def C2(r:Int):Bool:=decide (33≤r∧r≠58∧r≠35∧r≠43∧r≠45∧r≠65533∧(r<127∨160<r))
def Qi(s:BA):Nat→Nat→Nat→Bool
 | 0,_,n=>decide (1≤n∧n≤16)
 | b+1,pos,n=>if pos<s.size then (if C2 (Utf8.decode s pos).1 then Qi s b (pos+(Utf8.decode s pos).2) (n+1) else false) else decide (1≤n∧n≤16)
def Cj(s:BA):Bool:=Qi s s.size 0 0
theorem MD(s:BA)(b pos n:Nat)(h:¬ pos<s.size):Qi s b pos n=decide (1≤n∧n≤16):=by
 cases b with
 | zero=>rfl
 | succ b=>simp[Qi,h]
theorem IL(s:BA)(pos:Nat)(h:pos<s.size):1≤(Utf8.decode s pos).2:=by
 by_cases ha:(s[pos]'h).toNat<128
 ·rw[decode_ascii s pos h ha];exact Wc _
 ·exact(decode_high s pos h (by omega)).2
theorem Sb(r:Int)(w:World):Calls Tryz.prog 102 #[.int .i32 r] w fun e w'=>e = .returned (.bool (C2 r))∧w=w':=by
 by_cases h1:r<33
 ·have HB:Hid (C2 r=false):=hid (Wg (by omega));go_enter Tryz.func102,Tryz.ntmps102;go_wp2_with fail;go_ret;exact⟨by rw[HB.o];rfl,rfl⟩
 by_cases h2:127≤r
 ·by_cases h3:r≤160
  ·have HB:Hid (C2 r=false):=hid (Wg (by omega));go_enter Tryz.func102,Tryz.ntmps102;go_wp2_with fail;go_ret;exact⟨by rw[HB.o];rfl,rfl⟩
  by_cases h4:r=65533
  ·subst h4;have HB:Hid (C2 65533=false):=hid (by decide);go_enter Tryz.func102,Tryz.ntmps102;go_wp2_with fail;go_ret;exact⟨by rw[HB.o];rfl,rfl⟩
  ·have HB:Hid (C2 r=true):=hid (Wk (by omega));have e1:(r == 58)=false:=(by simp;omega);have e2:(r == 35)=false:=(by simp;omega);have e3:(r == 43)=false:=(by simp;omega);have e4:(r == 45)=false:=(by simp;omega);have e5:(r == 65533)=false:=(by simp;omega);clear h4;go_enter Tryz.func102,Tryz.ntmps102;go_wp2_with fail;go_ret;exact⟨by rw[HB.o];rfl,rfl⟩
 ·by_cases h4:r=58
  ·subst h4;have HB:Hid (C2 58=false):=hid (by decide);go_enter Tryz.func102,Tryz.ntmps102;go_wp2_with fail;go_ret;exact⟨by rw[HB.o];rfl,rfl⟩
  by_cases h5:r=35
  ·subst h5;have HB:Hid (C2 35=false):=hid (by decide);go_enter Tryz.func102,Tryz.ntmps102;go_wp2_with fail;go_ret;exact⟨by rw[HB.o];rfl,rfl⟩
  by_cases h6:r=43
  ·subst h6;have HB:Hid (C2 43=false):=hid (by decide);go_enter Tryz.func102,Tryz.ntmps102;go_wp2_with fail;go_ret;exact⟨by rw[HB.o];rfl,rfl⟩
  by_cases h7:r=45
  ·subst h7;have HB:Hid (C2 45=false):=hid (by decide);go_enter Tryz.func102,Tryz.ntmps102;go_wp2_with fail;go_ret;exact⟨by rw[HB.o];rfl,rfl⟩
  ·have HB:Hid (C2 r=true):=hid (Wk (by omega));have e1:(r == 58)=false:=(by simpa using h4);have e2:(r == 35)=false:=(by simpa using h5);have e3:(r == 43)=false:=(by simpa using h6);have e4:(r == 45)=false:=(by simpa using h7);have e5:(r == 65533)=false:=(by simp;omega);clear h4 h5 h6 h7;go_enter Tryz.func102,Tryz.ntmps102;go_wp2_with fail;go_ret;exact⟨by rw[HB.o];rfl,rfl⟩
theorem PG(r:Int)(w:World):Calls Tryz.prog 98 #[.int .i32 r] w fun e w'=>e = .returned (.bool (C2 r))∧w=w':=by
 by_cases h1:33≤r
 ·by_cases h4:r=58
  ·subst h4;have HB:Hid (C2 58=false):=hid (by decide);go_enter Tryz.func98,Tryz.ntmps98;go_wp2_with fail;go_ret;exact⟨by rw[HB.o];rfl,rfl⟩
  by_cases h5:r=35
  ·subst h5;have HB:Hid (C2 35=false):=hid (by decide);go_enter Tryz.func98,Tryz.ntmps98;go_wp2_with fail;go_ret;exact⟨by rw[HB.o];rfl,rfl⟩
  by_cases h6:r=43
  ·subst h6;have HB:Hid (C2 43=false):=hid (by decide);go_enter Tryz.func98,Tryz.ntmps98;go_wp2_with fail;go_ret;exact⟨by rw[HB.o];rfl,rfl⟩
  by_cases h7:r=45
  ·subst h7;have HB:Hid (C2 45=false):=hid (by decide);go_enter Tryz.func98,Tryz.ntmps98;go_wp2_with fail;go_ret;exact⟨by rw[HB.o];rfl,rfl⟩
  by_cases h8:r=65533
  ·subst h8;have HB:Hid (C2 65533=false):=hid (by decide);go_enter Tryz.func98,Tryz.ntmps98;go_wp2_with fail;go_ret;exact⟨by rw[HB.o];rfl,rfl⟩
  have e1:(r == 58)=false:=(by simpa using h4);have e2:(r == 35)=false:=(by simpa using h5);have e3:(r == 43)=false:=(by simpa using h6);have e4:(r == 45)=false:=(by simpa using h7);have e5:(r == 65533)=false:=(by simpa using h8);have n1:(r != 58)=true:=(by simpa using h4);have n2:(r != 35)=true:=(by simpa using h5);have n3:(r != 43)=true:=(by simpa using h6);have n4:(r != 45)=true:=(by simpa using h7);have n5:(r != 65533)=true:=(by simpa using h8);by_cases h2:r<127
  ·have HB:Hid (C2 r=true):=hid (Wk (by omega));clear h4 h5 h6 h7 h8;go_enter Tryz.func98,Tryz.ntmps98;go_wp2_with fail;go_ret;exact⟨by rw[HB.o];rfl,rfl⟩
  by_cases h3:160<r
  ·have HB:Hid (C2 r=true):=hid (Wk (by omega));clear h4 h5 h6 h7 h8;go_enter Tryz.func98,Tryz.ntmps98;go_wp2_with fail;go_ret;exact⟨by rw[HB.o];rfl,rfl⟩
  ·have HB:Hid (C2 r=false):=hid (Wg (by omega));clear h4 h5 h6 h7 h8;go_enter Tryz.func98,Tryz.ntmps98;go_wp2_with fail;go_ret;exact⟨by rw[HB.o];rfl,rfl⟩
 ·have HB:Hid (C2 r=false):=hid (Wg (by omega));go_enter Tryz.func98,Tryz.ntmps98;go_wp2_with fail;go_ret;exact⟨by rw[HB.o];rfl,rfl⟩
theorem MN(b:Bool)(r:Int)(w:World)(h:C2 r=b):Calls Tryz.prog 102 #[.int .i32 r] w fun e w'=>e = .returned (.bool b)∧w=w':=h ▸ Sb r w
theorem KO(b:Bool)(r:Int)(w:World)(h:C2 r=b):Calls Tryz.prog 98 #[.int .i32 r] w fun e w'=>e = .returned (.bool b)∧w=w':=h ▸ PG r w
theorem KL{s:BA}{b pos n:Nat}(hp:pos<s.size):Qi s (b+1) pos n=if C2 (Utf8.decode s pos).1 then Qi s b (pos+(Utf8.decode s pos).2) (n+1) else false:=by
 show(if pos<s.size then _ else _)=_;rw[if_pos hp]
attribute [local irreducible] C2 Qi
theorem Cp(w:World)(s:BA)(p:Nat):Below w.heap.size w (w.iter s p):=Ac w _
theorem PC(s:BA)(w:World)(hs:s.size≤maxLen) :
 Calls Tryz.prog 81 #[.string s] w fun e w'=>e = .returned (.bool (Cj s))∧Below w.heap.size w w':=by
 have hsz:s.size≤9223372036854775807:=by unfold maxLen at hs;omega
 clear hs;go_enter Tryz.func81,Tryz.ntmps81;go_wp2_with fail;go_loopw [3] (fun n w'=>∃(pos b k:Nat),w'=w.iter s pos∧n = .int .i64 k∧Qi s b pos k=Cj s∧s.size≤pos+b∧k≤pos) (fun _ w'=>s.size - w'.iterPos w.heap.size)
 case atStart=>exact⟨0,s.size,0,rfl,rfl,rfl,by omega,by omega⟩
 case round=>
  obtain⟨pos,b,k,rfl,rfl,hc,hb,hk⟩:=hrel;by_cases hp:pos<s.size
  ·have hnx:∀ ty,(Instr.next (.pointer (some ⟨w.heap.size,0,none⟩)) true ty).run Tryz.prog (w.iter s pos)=_:=fun ty=>run_next_any w s pos ty hp
   have hwd:=IL s pos hp;cases b with
   | zero=>omega
   | succ b=>
     rw[KL hp] at hc;have HW:=hid (show wrap64 ((k:Int)+1)=(k:Int)+1 by unfold wrap64;omega);obtain⟨D,hD⟩:=WY (Utf8.decode s pos);rw[hD] at hnx hwd hc;obtain⟨rr,wd⟩:=D;dsimp only at hnx hwd hc;cases hg:C2 (rr:Int) with
     | true=>
       rw[if_pos hg] at hc;have HG:=hid hg;have HC:=hid hc;have hw:=HW.o;clear hg hc hD;go_wp2_with fail;refine(MN true _ _ HG.o).mono ?_;rintro e w1 ⟨rfl,rfl⟩;go_wp2_with fail;go_roundw
       case rel=>exact⟨pos+wd,b,k+1,rfl,by go_num,HC.o,by omega,by omega⟩
       case measure=>simp;omega
     | false=>
       rw[if_neg (by rw[hg];decide)] at hc;have HG:=hid hg;have HC:=hid hc;clear hg hc hD;go_wp2_with fail;refine(MN false _ _ HG.o).mono ?_;rintro e w1 ⟨rfl,rfl⟩;go_wp2_with fail;go_ret;exact⟨by rw[← HC.o];rfl,Cp w s _⟩
  ·have hnx:∀ ty,(Instr.next (.pointer (some ⟨w.heap.size,0,none⟩)) true ty).run Tryz.prog (w.iter s pos)=_:=fun ty=>run_next_end w s pos ty hp
   rw[MD s b pos k hp] at hc;by_cases h1:1≤k
   ·by_cases h2:k≤16
    ·rw[Wk ⟨h1,h2⟩] at hc;have HC:=hid hc;have i1:(1:Int)≤k:=(by omega);have i2:(k:Int)≤16:=(by omega);clear hc h1 h2;go_wp2_with fail;go_ret;exact⟨by rw[← HC.o];rfl,Cp w s _⟩
    ·rw[Wg (by omega)] at hc;have HC:=hid hc;have i1:(1:Int)≤k:=(by omega);have i2:¬ (k:Int)≤16:=(by omega);clear hc h1 h2;go_wp2_with fail;go_ret;exact⟨by rw[← HC.o];rfl,Cp w s _⟩
   ·rw[Wg (by omega)] at hc;have HC:=hid hc;have i1:¬ (1:Int)≤k:=(by omega);clear hc h1;go_wp2_with fail;go_ret;exact⟨by rw[← HC.o];rfl,Cp w s _⟩
theorem NP(s:BA)(w:World)(hs:s.size≤maxLen) :
 Calls Tryz.prog 64 #[.string s] w fun e w'=>e = .returned (.bool (Cj s))∧Below w.heap.size w w':=by
 have hsz:s.size≤9223372036854775807:=by unfold maxLen at hs;omega
 clear hs;go_enter Tryz.func64,Tryz.ntmps64;go_wp2_with fail;go_loopw [3] (fun n w'=>∃(pos b k:Nat),w'=w.iter s pos∧n = .int .i64 k∧Qi s b pos k=Cj s∧s.size≤pos+b∧k≤pos) (fun _ w'=>s.size - w'.iterPos w.heap.size)
 case atStart=>exact⟨0,s.size,0,rfl,rfl,rfl,by omega,by omega⟩
 case round=>
  obtain⟨pos,b,k,rfl,rfl,hc,hb,hk⟩:=hrel;by_cases hp:pos<s.size
  ·have hnx:∀ ty,(Instr.next (.pointer (some ⟨w.heap.size,0,none⟩)) true ty).run Tryz.prog (w.iter s pos)=_:=fun ty=>run_next_any w s pos ty hp
   have hwd:=IL s pos hp;cases b with
   | zero=>omega
   | succ b=>
     rw[KL hp] at hc;have HW:=hid (show wrap64 ((k:Int)+1)=(k:Int)+1 by unfold wrap64;omega);obtain⟨D,hD⟩:=WY (Utf8.decode s pos);rw[hD] at hnx hwd hc;obtain⟨rr,wd⟩:=D;dsimp only at hnx hwd hc;cases hg:C2 (rr:Int) with
     | true=>
       rw[if_pos hg] at hc;have HG:=hid hg;have HC:=hid hc;have hw:=HW.o;clear hg hc hD;go_wp2_with fail;refine(KO true _ _ HG.o).mono ?_;rintro e w1 ⟨rfl,rfl⟩;go_wp2_with fail;go_roundw
       case rel=>exact⟨pos+wd,b,k+1,rfl,by go_num,HC.o,by omega,by omega⟩
       case measure=>simp;omega
     | false=>
       rw[if_neg (by rw[hg];decide)] at hc;have HG:=hid hg;have HC:=hid hc;clear hg hc hD;go_wp2_with fail;refine(KO false _ _ HG.o).mono ?_;rintro e w1 ⟨rfl,rfl⟩;go_wp2_with fail;go_ret;exact⟨by rw[← HC.o];rfl,Cp w s _⟩
  ·have hnx:∀ ty,(Instr.next (.pointer (some ⟨w.heap.size,0,none⟩)) true ty).run Tryz.prog (w.iter s pos)=_:=fun ty=>run_next_end w s pos ty hp
   rw[MD s b pos k hp] at hc;by_cases h1:1≤k
   ·by_cases h2:k≤16
    ·rw[Wk ⟨h1,h2⟩] at hc;have HC:=hid hc;have i1:(1:Int)≤k:=(by omega);have i2:(k:Int)≤16:=(by omega);clear hc h1 h2;go_wp2_with fail;go_ret;exact⟨by rw[← HC.o];rfl,Cp w s _⟩
    ·rw[Wg (by omega)] at hc;have HC:=hid hc;have i1:(1:Int)≤k:=(by omega);have i2:¬ (k:Int)≤16:=(by omega);clear hc h1 h2;go_wp2_with fail;go_ret;exact⟨by rw[← HC.o];rfl,Cp w s _⟩
   ·rw[Wg (by omega)] at hc;have HC:=hid hc;have i1:¬ (1:Int)≤k:=(by omega);clear hc h1;go_wp2_with fail;go_ret;exact⟨by rw[← HC.o];rfl,Cp w s _⟩
end
section
attribute [local irreducible] C2 Qi Cj
def G8(w:World)(r:Nat)(L:List BA):Prop:=∃ es clock,w.heap[r]?=some (.map es clock)∧es.toList.map (·.key)=L.map Value.string
theorem G8.below{w w':World}{r:Nat}{L:List BA}(h:G8 w r L)(hb:Below w.heap.size w w'):G8 w' r L:=by
 obtain⟨es,clock,h1,h2⟩:=h;exact⟨es,clock,A5 hb h1,h2⟩
theorem Mu{es:List MapEntry}{L:List BA}(h:es.map (·.key)=L.map Value.string):∀ x∈es,MapKept.IsKey .string x.key:=by
 intro x hx;have:x.key∈L.map Value.string:=by rw[← h];exact List.mem_map.2 ⟨x,hx,rfl⟩
 obtain⟨s,_,hs⟩:=List.mem_map.1 this;rw[← hs];exact trivial
theorem SP{es:List MapEntry}{L:List BA}{s:BA}(h:es.map (·.key)=L.map Value.string)(hs:s ∉ L):Instr.findNow .string (.string s) es 0=some none:=by
 rcases MapKept.findNow_spec (d:=.string) (k:=.string s) trivial es 0 (Mu h) with ⟨h1,_⟩ | ⟨j,e,_,h2,h3⟩
 ·exact h1
 ·exfalso;apply hs;have:e.key∈L.map Value.string:=(by rw[← h];exact List.mem_map.2 ⟨e,Wf h2,rfl⟩);obtain⟨t,ht,he⟩:=List.mem_map.1 this;rw[h3] at he;cases he;exact ht
theorem TN{es:List MapEntry}{L:List BA}{s:BA}(h:es.map (·.key)=L.map Value.string)(hs:s∈L):∃ j v,Instr.findNow .string (.string s) es 0=some (some (j,v)):=by
 rcases MapKept.findNow_spec (d:=.string) (k:=.string s) trivial es 0 (Mu h) with ⟨_,h2⟩ | ⟨j,e,h1,_,_⟩
 ·exfalso;have:Value.string s∈es.map (·.key):=(by rw[h];exact List.mem_map.2 ⟨s,hs,rfl⟩);obtain⟨x,hx,he⟩:=List.mem_map.1 this;exact h2 x hx he
 ·exact⟨_,_,h1⟩
theorem OQ:(Tryz.prog.info? 20).map (fun i=>(i.zero,i.size,i.bytes))=some (some .nilIface,1,16):=by kernel_rfl
theorem LE{w:World}{r:Nat}{L:List BA}{s:BA}(h:G8 w r L)(hs:s∈L):∃ v,(Instr.lookup 138 (.map (some r)) (.string s) true).run Tryz.prog w = .ok (.tuple #[v,.bool true]) w:=by
 obtain⟨es,clock,h1,h2⟩:=h;obtain⟨j,v,h3⟩:=TN h2 hs;have hc:(Instr.checkKey es.isEmpty 10000 9 (.string s)).run Tryz.prog w = .ok () w:=MapKept.run_checkKey (k:=.string s) Tryz.underlying9 (by simp[MapKept.IsKey]) es.isEmpty 9999;exact⟨v,by simp[Instr.lookup,run_underlying Tryz.underlying138,MapKept.run_getObj_map h1,hc,MapKept.run_findKey Tryz.underlying9 h3,Result.andThen]⟩
theorem NR{w:World}{r:Nat}{L:List BA}{s:BA}(h:G8 w r L)(hs:s ∉ L):(Instr.lookup 138 (.map (some r)) (.string s) true).run Tryz.prog w = .ok (.tuple #[.nilIface,.bool false]) w:=by
 obtain⟨es,clock,h1,h2⟩:=h;have h3:=SP h2 hs;have hc:(Instr.checkKey es.isEmpty 10000 9 (.string s)).run Tryz.prog w = .ok () w:=MapKept.run_checkKey (k:=.string s) Tryz.underlying9 (by simp[MapKept.IsKey]) es.isEmpty 9999;obtain⟨i0,hi,hz0,_,_⟩:=info_parts OQ;have hz:(zeroValue 20).run Tryz.prog w = .ok .nilIface w:=by simp[zeroValue,typeInfo,hi,hz0,Result.andThen]
 simp[Instr.lookup,run_underlying Tryz.underlying138,MapKept.run_getObj_map h1,hc,MapKept.run_findKey Tryz.underlying9 h3,hz,Result.andThen]
theorem LD{w:World}{r:Nat}{L:List BA}{s:BA}(v:Value)(h:G8 w r L)(hs:s ∉ L):∃ w',(Instr.mapUpdate 138 (.map (some r)) (.string s) v).run Tryz.prog w = .ok () w'∧G8 w' r (L ++ [s])∧Ai r w w':=by
 obtain⟨es,clock,h1,h2⟩:=h;have h3:=SP h2 hs;have hc:(Instr.checkKey false 10000 9 (.string s)).run Tryz.prog w = .ok () w:=MapKept.run_checkKey (k:=.string s) Tryz.underlying9 (by simp[MapKept.IsKey]) false 9999;refine⟨{ w with heap:=w.heap.setIfInBounds r (.map (es.push { key:=.string s,val:=v,born:=clock }) (clock+1)) },?_,?_,?_⟩
 ·simp[Instr.mapUpdate,run_underlying Tryz.underlying138,MapKept.run_getObj_map h1,hc,MapKept.run_findKey Tryz.underlying9 h3,MapKept.run_setObj_map _ h1,Result.andThen]
 ·exact⟨_,_,(MapKept.heap_set h1).1,by rw[Array.toList_push,List.map_append,h2,List.map_append];rfl⟩
 ·exact⟨rfl,rfl,rfl,by simp,fun k _ hk=>(MapKept.heap_set h1).2 k hk⟩
structure Cz(w:World)(gb r:Nat)(L:List BA):Prop where
 b:∃ v0 v1 v2 v3:Value,w.heap[gb]?=some (.cells #[v0,v1,v2,v3,.map (some r)] 140)
 n:G8 w r L
 ne:gb≠r
theorem Cz.below{w w':World}{gb r:Nat}{L:List BA}(h:Cz w gb r L)(hb:Below w.heap.size w w'):Cz w' gb r L:=by
 obtain⟨⟨v0,v1,v2,v3,h1⟩,h2,h3⟩:=h;exact⟨⟨v0,v1,v2,v3,A5 hb h1⟩,h2.below hb,h3⟩
theorem ES(gb r:Nat)(L:List BA)(s:BA)(v:Value)(w:World)(h:Cz w gb r L)(hs:s ∉ L) :
 Calls Tryz.prog 82 #[.pointer (some ⟨gb,0,none⟩),.string s,v] w fun e w'=>e = .returned (.bool true)∧Cz w' gb r (L ++ [s])∧Ai r w w':=by
 obtain⟨⟨v0,v1,v2,v3,h1⟩,h2,h3⟩:=h;have c4:=A4 h1 4 _ rfl;have hlk:=NR h2 hs;obtain⟨w1,hup,hn,ho⟩:=LD v h2 hs;have HE:Hid (Cz w1 gb r (L ++ [s])∧Ai r w w1):=hid ⟨⟨⟨v0,v1,v2,v3,ho.keep h3 h1⟩,hn,h3⟩,ho⟩;clear h1 h2 h3 hn ho hs;go_enter Tryz.func82,Tryz.ntmps82;go_wp2_with fail;go_ret;exact⟨rfl,HE.o.1,HE.o.2⟩
theorem Fo(gb r:Nat)(L:List BA)(s:BA)(v:Value)(w:World)(h:Cz w gb r L)(hs:s∈L) :
 Calls Tryz.prog 82 #[.pointer (some ⟨gb,0,none⟩),.string s,v] w fun e w'=>e = .returned (.bool false)∧w=w':=by
 obtain⟨⟨v0,v1,v2,v3,h1⟩,h2,h3⟩:=h;have c4:=A4 h1 4 _ rfl;obtain⟨u,hlk⟩:=LE h2 hs;clear h1 h2 h3 hs;go_enter Tryz.func82,Tryz.ntmps82;go_wp2_with fail;go_ret;exact⟨rfl,rfl⟩
def Ax(n:Nat)(l:List Int):Bool:=l.all fun x=>decide (0≤x∧x<(n:Int))
theorem JW(n:Nat)(l:List Int)(x:Int):Ax n (l ++ [x])=(Ax n l && decide (0≤x∧x<(n:Int))):=by unfold Ax;rw[List.all_append];simp
theorem Co{n:Nat}{l:List Int}{k:Nat}{x:Int}(h:l[k]?=some x):Ax n (l.take (k+1))=(Ax n (l.take k) && decide (0≤x∧x<(n:Int))):=by
 rw[Wp,h];exact JW _ _ _
theorem Ct{n:Nat}{l:List Int}{k:Nat}{x:Int}(h:l[k]?=some x)(hx:¬ (0≤x∧x<(n:Int))):Ax n l=false:=by
 unfold Ax;rw[List.all_eq_false];exact⟨x,Wf h,by simp;omega⟩
attribute [local irreducible] Ax
theorem Ob(n:Nat)(x:Option Addr)(m c:Nat)(l:List Int)(w:World)(hn:l.length=m)(hm:m≤9223372036854775807)(hl:As 1 AT w x l) :
 Calls Tryz.prog 83 #[.int .i64 (n:Int),.slice x m c] w fun e w'=>e = .returned (.bool (Ax n l))∧w=w':=by
 have HN:=hid hn;clear hn;go_enter Tryz.func83,Tryz.ntmps83;go_wp2_with fail;go_loopg [6,9] m (fun g _ i wr=>∃ k:Nat,k+g=m∧i = .int .i64 (k:Int)∧Ax n (l.take k)=true∧w=wr)
 case atStart=>exact⟨0,by omega,rfl,by unfold Ax;rfl,rfl⟩
 case round=>
  obtain⟨k,hk,rfl,hb,rfl⟩:=hrel;have HB:=hid hb;clear hb;by_cases hlt:k<m
  ·obtain⟨y,hy⟩:∃ y,l[k]?=some y:=⟨_,Wb (by rw[HN.o];exact hlt)⟩;rcases hl with rfl | ⟨b,off,rfl,hc⟩
   ·simp at hy
   have z0:=hc k y hy 0 _ rfl;rw[Wa,Nat.mul_one] at z0;have HY:=hid hy;have d1:(0:Int)≤k:=(by omega);have d2:(k:Int)<m:=(by omega);have e1:wrap64 ((k:Int)+1)=(k:Int)+1:=(by unfold wrap64;omega);have HK:=hid hk;clear hc hy hk;by_cases h1:y<0
   ·have HF:=hid (Ct (n:=n) HY.o (by omega));go_wp2_with fail;go_ret;exact⟨by rw[HF.o];rfl,rfl⟩
   by_cases h2:(n:Int)≤y
   ·have HF:=hid (Ct (n:=n) HY.o (by omega));go_wp2_with fail;go_ret;exact⟨by rw[HF.o];rfl,rfl⟩
   ·have HT:Hid (Ax n (l.take (k+1))=true):=hid (by rw[Co HY.o,HB.o,Wk (by omega)];rfl);go_wp2_with fail;go_roundg (m - (k+1))
    case rel=>exact⟨k+1,by have:=HK.o;omega,by go_num,HT.o,rfl⟩
    case measure=>have:=HK.o;omega
  ·obtain rfl:k=m:=(by omega);have HT:Hid (Ax n l=true):=hid (by have:=HB.o;rwa [Wo (by rw[HN.o];exact Wc _)] at this);go_wp2_with fail;go_ret;exact⟨by rw[HT.o];rfl,rfl⟩
end
section
def Cv(n:Nat)(l:List (Int × Bool)):Bool:=decide (l.length≤16) && Ax n (l.map (·.1))
def Dy(pre:List BA)(s:BA):Bool:=pre.any fun x=>decide (x=s)
theorem Ev{pre:List BA}{s:BA}:Dy pre s=true↔s∈pre:=by
 unfold Dy;rw[WF];constructor
 ·rintro⟨x,hx,h⟩;have:=of_decide_eq_true h;subst this;exact hx
 ·exact fun h=>⟨s,h,Wk rfl⟩
def Dg(pre:List BA)(s:BA):Bool:=Cj s && !Dy pre s
def AM:List BA→List BA→Bool
 | _,[]=>true
 | pre,s :: t=>Dg pre s && AM (pre ++ [s]) t
def BK(pre:List BA)(n:Nat)(l:List (BA × Int)):Bool:=AM pre (l.map (·.1)) && Ax n (l.map (·.2))
def Fz(S P:Nat)(r:Rt):Bool:=decide (r.pa.l.length≤16) && decide (r.ov.l.length≤16) && Ax S r.pa.l && Ax S r.ov.l && (Cv P r.po.l && Cv P r.fl.l)
def BT(pre:List BA)(G S P:Nat)(l:List Rt):Bool:=AM pre (l.map (·.nm)) && Ax G (l.map (·.sg)) && l.all (Fz S P)
def AL.n1(L:AL):List BA:=L.se.l
def AL.n2(L:AL):List BA:=L.se.l ++ L.po.l.map (·.1)
def AL.n3(L:AL):List BA:=L.n2 ++ L.sg.l.map (·.1)
def AL.small(L:AL):Bool:=decide (L.se.l.length≤64∧L.po.l.length≤32∧L.sg.l.length≤32∧L.rt.l.length≤64)
def AX(L:AL):Bool:=L.small && (AM [] L.se.l && BK L.n1 L.se.l.length L.po.l && BK L.n2 L.se.l.length L.sg.l && BT L.n3 L.sg.l.length L.se.l.length L.po.l.length L.rt.l)
theorem Pl(s:BA):∀(l pre:List BA),AM pre (l ++ [s])=(AM pre l && Dg (pre ++ l) s):=by
 intro l
 induction l with
 | nil=>intro pre;simp[AM]
 | cons a l ih=>intro pre;simp[AM,ih,Bool.and_assoc]
theorem Eb:∀(l m pre:List BA),AM pre (l ++ m)=(AM pre l && AM (pre ++ l) m):=by
 intro l
 induction l with
 | nil=>intro m pre;simp[AM]
 | cons a l ih=>intro m pre;simp[AM,ih,Bool.and_assoc]
theorem DW{pre l:List BA}{k:Nat}{s:BA}(h:l[k]?=some s):AM pre (l.take (k+1))=(AM pre (l.take k) && Dg (pre ++ l.take k) s):=by
 rw[Wp,h];exact Pl _ _ _
theorem Da{α β:Type}{f:α→β}{l:List α}{k:Nat}:(l.take k).map f=(l.map f).take k:=List.map_take
theorem D3{α β:Type}{f:α→β}{l:List α}{k:Nat}{c:α}(h:l[k]?=some c):(l.map f)[k]?=some (f c):=by rw[List.getElem?_map,h];rfl
theorem H9{pre:List BA}{n:Nat}{l:List (BA × Int)}{k:Nat}{c:BA × Int}(h:l[k]?=some c):BK pre n (l.take (k+1))=(BK pre n (l.take k) && (Dg (pre ++ (l.take k).map (·.1)) c.1 && decide (0≤c.2∧c.2<(n:Int)))):=by
 unfold BK;rw[Da,Da,DW (D3 h),Co (D3 h),Da,Da];cases AM pre ((l.map (·.1)).take k)<;>cases Ax n ((l.map (·.2)).take k)<;>simp
theorem FA{pre:List BA}{G S P:Nat}{l:List Rt}{k:Nat}{c:Rt}(h:l[k]?=some c):BT pre G S P (l.take (k+1))=(BT pre G S P (l.take k) && (Dg (pre ++ (l.take k).map (·.nm)) c.nm && decide (0≤c.sg∧c.sg<(G:Int)) && Fz S P c)):=by
 have ha:(l.take (k+1)).all (Fz S P)=((l.take k).all (Fz S P) && Fz S P c):=by rw[Wp,h,List.all_append];simp
 unfold BT;rw[ha,Da,Da,DW (D3 h),Co (D3 h),Da,Da];cases AM pre ((l.map (·.nm)).take k)<;>cases Ax G ((l.map (·.sg)).take k)<;>cases (l.take k).all (Fz S P)<;>simp
theorem GB(n:Nat)(x:Int):Ax n [x]=decide (0≤x∧x<(n:Int)):=by unfold Ax;simp
theorem D9(b:Bool)(s:BA)(w:World)(hs:s.size≤maxLen)(h:Cj s=b):Calls Tryz.prog 81 #[.string s] w fun e w'=>e = .returned (.bool b)∧Below w.heap.size w w':=h ▸ PC s w hs
theorem DQ(B:Bool)(n:Nat)(x:Option Addr)(m c:Nat)(l:List Int)(w:World)(hB:Ax n l=B)(hn:l.length=m)(hm:m≤9223372036854775807)(hl:As 1 AT w x l) :
 Calls Tryz.prog 83 #[.int .i64 (n:Int),.slice x m c] w fun e w'=>e = .returned (.bool B)∧w=w':=hB ▸ Ob n x m c l w hn hm hl
theorem MG{w:World}{g:Nat}{x:Int}{t:TypeId}{fr:Nat × Nat}(h:w.heap[g]?=some (.cells #[.int .i64 x] t fr)):As 1 AT w (some ⟨g,0,none⟩) [x]:=by
 refine .inr ⟨g,0,rfl,fun i c hi j v hv=>?_⟩;have hi1:i<1:=(We.1 hi).1;have hj1:j<1:=(We.1 hv).1;obtain rfl:i=0:=by omega
 obtain rfl:j=0:=by omega
 simp at hi hv;subst hi;simp[AT] at hv;subst hv;exact A4 h 0 _ rfl
theorem ET(n:Nat)(x:Int)(w:World)(g:Nat)(t:TypeId)(fr:Nat × Nat)(h:w.heap[g]?=some (.cells #[.int .i64 x] t fr)):Calls Tryz.prog 83 #[.int .i64 (n:Int),.slice (some ⟨g,0,none⟩) 1 1] w fun e w'=>e = .returned (.bool (decide (0≤x∧x<(n:Int))))∧w=w':=
 DQ _ n _ 1 1 [x] _ (GB n x) rfl (by omega) (MG h)
theorem NC{n:Nat}{l:List (Int × Bool)}(h:¬ l.length≤16):Cv n l=false:=by unfold Cv;rw[Wg h];rfl
theorem Pa{n:Nat}{l:List (Int × Bool)}{k:Nat}{c:Int × Bool}(h:l[k]?=some c)(hx:¬ (0≤c.1∧c.1<(n:Int))):Cv n l=false:=by
 unfold Cv;rw[Ct (D3 h) hx,WN]
attribute [local irreducible] Ax Cv Dg AM
theorem TH(p:Nat)(x:Option Addr)(m c:Nat)(l:List (Int × Bool))(w:World)(hn:l.length=m)(hm:m≤9223372036854775807)(hl:As 2 CX w x l) :
 Calls Tryz.prog 84 #[.slice x m c,.int .i64 (p:Int)] w fun e w'=>e = .returned (.bool (Cv p l))∧Below w.heap.size w w':=by
 have HN:=hid hn;clear hn;go_enter Tryz.func84,Tryz.ntmps84;go_wp2_with fail;go_loopg [5,6,9] m (fun g _ _ i wr=>∃ k:Nat,k+g=m∧k≤16∧i = .int .i64 (k:Int)∧Ax p ((l.map (·.1)).take k)=true∧Below w.heap.size w wr)
 case atStart=>exact⟨0,by omega,by omega,rfl,by unfold Ax;rfl,VU _ _⟩
 case round=>
  obtain⟨k,hk,hk16,rfl,hb,hbw⟩:=hrel;have HB:=hid hb;clear hb;by_cases hlt:k<m
  ·obtain⟨y,hy⟩:∃ y,l[k]?=some y:=⟨_,Wb (by rw[HN.o];exact hlt)⟩;have hl2:=hl.below hbw;rcases hl2 with rfl | ⟨b,off,rfl,hc⟩
   ·simp at hy
   obtain⟨y0,y1⟩:=y;have z0:=hc k _ hy 0 _ rfl;have z1:=hc k _ hy 1 _ rfl;rw[Wa] at z0;dsimp only at z0 z1;have HY:=hid hy;have d1:(0:Int)≤k:=(by omega);have d2:(k:Int)<m:=(by omega);have e1:wrap64 ((k:Int)+1)=(k:Int)+1:=(by unfold wrap64;omega);have HK:=hid hk;have HBW:=hid hbw;clear hc hy hk hbw;by_cases h16:k=16
   ·have HF:Hid (Cv p l=false):=hid (NC (by have:=HN.o;omega));have h3:(16:Int)≤k:=(by omega);clear hk16 h16;go_wp2_with fail;go_ret;refine⟨by rw[HF.o];rfl,?_⟩;exact A6 HBW.o (Ac _ _)
   have h3:¬ (16:Int)≤k:=(by omega);have HK16:=hid (show k+1≤16 by omega);clear hk16 h16;obtain⟨D,hD⟩:=WY (decide (0≤y0∧y0<(p:Int)));have HKK:Hid (∀(W:World) (g:Nat),W.heap[g]?=some (.cells #[.int .i64 y0] 3)→Calls Tryz.prog 83 #[.int .i64 (p:Int),.slice (some ⟨g,0,none⟩) 1 1] W fun e w'=>e = .returned (.bool D)∧W=w'):=hid (fun W g h=>hD ▸ ET p y0 W g 3 (0,0) h);cases D with
   | true=>
     have HT:Hid (Ax p ((l.map (·.1)).take (k+1))=true):=hid (by rw[Co (D3 HY.o),HB.o,hD];rfl);clear hD;go_wp2_with fail;refine(HKK.o _ _ (DA wr _ _).2).mono ?_;rintro e w7 ⟨rfl,rfl⟩;go_wp2_with fail;go_roundg (m - (k+1))
     case rel=>exact⟨k+1,by have:=HK.o;omega,HK16.o,by go_num,HT.o,A6 HBW.o (Cb wr _ _)⟩
     case measure=>have:=HK.o;omega
   | false=>
     have HF:Hid (Cv p l=false):=hid (Pa HY.o (by dsimp only;exact of_decide_eq_false hD));clear hD;go_wp2_with fail;refine(HKK.o _ _ (DA wr _ _).2).mono ?_;rintro e w7 ⟨rfl,rfl⟩;go_wp2_with fail;go_ret;exact⟨by rw[HF.o];rfl,A6 HBW.o (Cb wr _ _)⟩
  ·obtain rfl:k=m:=(by omega);have HT:Hid (Cv p l=true):=hid (by
    have h1:=HB.o;rw[Wo (by rw[Ws,HN.o];exact Wc _)] at h1;have h2:=HN.o;unfold Cv;rw[h1,Wk (by omega)];rfl)
   have HBW:=hid hbw;clear hbw;go_wp2_with fail;go_ret;exact⟨by rw[HT.o];rfl,HBW.o⟩
theorem Ji(B:Bool)(p:Nat)(x:Option Addr)(m c:Nat)(l:List (Int × Bool))(w:World)(hB:Cv p l=B)(hn:l.length=m)(hm:m≤9223372036854775807)(hl:As 2 CX w x l) :
 Calls Tryz.prog 84 #[.slice x m c,.int .i64 (p:Int)] w fun e w'=>e = .returned (.bool B)∧Below w.heap.size w w':=hB ▸ TH p x m c l w hn hm hl
end
section
structure Gy(w0 w:World)(gl gb r:Nat)(L:AL):Prop where
 lay:w.heap[gl]?=some (.cells #[L.se.v,L.po.v,L.sg.v,L.rt.v] 27)
 o1:w0.heap.size≤gl
 o2:gl<r
 o3:r<gb
 o4:gb<w.heap.size
 below:Below w0.heap.size w0 w
theorem Gy.step{w0 w w':World}{gl gb r:Nat}{L:AL}(h:Gy w0 w gl gb r L)(hb:Below w.heap.size w w'):Gy w0 w' gl gb r L:=⟨A5 hb h.lay,h.o1,h.o2,h.o3,Wv h.o4 hb.size,h.below.trans (hb.mono h.below.size)⟩
theorem Gy.only{w0 w w':World}{gl gb r:Nat}{L:AL}(h:Gy w0 w gl gb r L)(ho:Ai r w w'):Gy w0 w' gl gb r L:=by
 obtain⟨h1,o1,o2,o3,o4,bl⟩:=h;exact⟨ho.keep (by omega) h1,o1,o2,o3,Wv o4 ho.size,Ai.below bl (by omega) bl.size ho⟩
theorem Gp{pre:List BA}{s:BA}(h:Dy pre s=false):s ∉ pre:=fun hm=>by rw[Ev.2 hm] at h;exact absurd h (by decide)
theorem GX{pre:List BA}{s:BA}(h:Cj s=false):Dg pre s=false:=by unfold Dg;rw[h];rfl
theorem Jp{pre:List BA}{s:BA}(h:Dy pre s=true):Dg pre s=false:=by unfold Dg;rw[h];simp
theorem Jq{pre:List BA}{s:BA}(h1:Cj s=true)(h2:Dy pre s=false):Dg pre s=true:=by unfold Dg;rw[h1,h2];rfl
theorem Ea{P:Program}{c:Code}{Q:Exit→Act→World→Prop}{a:Act}{w:World}(h:∀ W,W=w→c.wp P Q a W):c.wp P Q a w:=h w rfl
theorem Vj{l:List BA}{k:Nat}{s:BA}(h:l[k]?=some s)(hs:AM [] (l.take k)=false):AM [] (l.take (k+1))=false:=by rw[DW h,hs];rfl
theorem PM{l:List BA}{k:Nat}{s:BA}{b:Bool}(h:l[k]?=some s)(hs:AM [] (l.take k)=true)(hb:Dg (l.take k) s=b):AM [] (l.take (k+1))=b:=by rw[DW h,hs,WC,hb];rfl
theorem SW{A:Bool}{pre:List BA}{n:Nat}{l:List (BA × Int)}{k:Nat}{c:BA × Int}(h:l[k]?=some c)(hs:(A && BK pre n (l.take k))=false):(A && BK pre n (l.take (k+1)))=false:=by rw[H9 h,← Bool.and_assoc,hs];rfl
theorem MP{A:Bool}{pre:List BA}{n:Nat}{l:List (BA × Int)}{k:Nat}{c:BA × Int}(h:l[k]?=some c)(hb:Dg (pre ++ (l.take k).map (·.1)) c.1=false):(A && BK pre n (l.take (k+1)))=false:=by rw[H9 h,hb];simp
theorem SX{A:Bool}{pre:List BA}{n:Nat}{l:List (BA × Int)}{k:Nat}{c:BA × Int}{d:Bool}(h:l[k]?=some c)(hs:(A && BK pre n (l.take k))=true)(hb:Dg (pre ++ (l.take k).map (·.1)) c.1=true)(hd:decide (0≤c.2∧c.2<(n:Int))=d):(A && BK pre n (l.take (k+1)))=d:=by rw[H9 h,← Bool.and_assoc,hs,hb,hd];simp
theorem Vk{A:Bool}{pre:List BA}{G S P:Nat}{l:List Rt}{k:Nat}{c:Rt}(h:l[k]?=some c)(hs:(A && BT pre G S P (l.take k))=false):(A && BT pre G S P (l.take (k+1)))=false:=by rw[FA h,← Bool.and_assoc,hs];rfl
theorem SY{A:Bool}{pre:List BA}{G S P:Nat}{l:List Rt}{k:Nat}{c:Rt}(h:l[k]?=some c)(hb:Dg (pre ++ (l.take k).map (·.nm)) c.nm=false):(A && BT pre G S P (l.take (k+1)))=false:=by rw[FA h,hb];simp
theorem Vm{A:Bool}{pre:List BA}{G S P:Nat}{l:List Rt}{k:Nat}{c:Rt}(h:l[k]?=some c)(hb:decide (0≤c.sg∧c.sg<(G:Int))=false):(A && BT pre G S P (l.take (k+1)))=false:=by rw[FA h,hb];simp
theorem Vl{A:Bool}{pre:List BA}{G S P:Nat}{l:List Rt}{k:Nat}{c:Rt}{e:Bool}(h:l[k]?=some c)(hs:(A && BT pre G S P (l.take k))=true)(hb:Dg (pre ++ (l.take k).map (·.nm)) c.nm=true)(hd:decide (0≤c.sg∧c.sg<(G:Int))=true)(he:Fz S P c=e):(A && BT pre G S P (l.take (k+1)))=e:=by rw[FA h,← Bool.and_assoc,hs,hb,hd,he];simp
theorem UW{S P:Nat}{c:Rt}(h:¬ c.pa.l.length≤16):Fz S P c=false:=by unfold Fz;rw[Wg h];rfl
theorem UX{S P:Nat}{c:Rt}(h:¬ c.ov.l.length≤16):Fz S P c=false:=by unfold Fz;rw[Wg h];simp
theorem UY{S P:Nat}{c:Rt}(h:Ax S c.pa.l=false):Fz S P c=false:=by unfold Fz;rw[h];simp
theorem UZ{S P:Nat}{c:Rt}(h:Ax S c.ov.l=false):Fz S P c=false:=by unfold Fz;rw[h];simp
theorem Vd{S P:Nat}{c:Rt}(h:Cv P c.po.l=false):Fz S P c=false:=by unfold Fz;rw[h];simp
theorem Ve{S P:Nat}{c:Rt}(h:Cv P c.fl.l=false):Fz S P c=false:=by unfold Fz;rw[h];simp
theorem Vf{S P:Nat}{c:Rt}(h1:c.pa.l.length≤16)(h2:c.ov.l.length≤16)(h3:Ax S c.pa.l=true)(h4:Ax S c.ov.l=true)(h5:Cv P c.po.l=true)(h6:Cv P c.fl.l=true):Fz S P c=true:=by
 unfold Fz;rw[Wk h1,Wk h2,h3,h4,h5,h6];rfl
theorem RA{L:AL}{A2 A3 b:Bool}(h0:L.small=true)(h2:(AM [] L.se.l && BK L.n1 L.se.l.length L.po.l)=A2)(h3:(A2 && BK L.n2 L.se.l.length L.sg.l)=A3)(h4:(A3 && BT L.n3 L.sg.l.length L.se.l.length L.po.l.length L.rt.l)=b):AX L=b:=by
 unfold AX;rw[h0,← h4,← h3,← h2];rfl
theorem Fr{L:AL}(h0:L.small=false):AX L=false:=by unfold AX;rw[h0];rfl
theorem CV{L:AL}(h:¬ (L.se.l.length≤64∧L.po.l.length≤32∧L.sg.l.length≤32∧L.rt.l.length≤64)):L.small=false:=Wg h
theorem IF{L:AL}(h1:L.se.l.length≤64)(h2:L.po.l.length≤32)(h3:L.sg.l.length≤32)(h4:L.rt.l.length≤64):L.small=true:=Wk ⟨h1,h2,h3,h4⟩
theorem SN(L:AL):L.n1 ++ L.po.l.map (·.1)=L.n2:=rfl
theorem SO(L:AL):L.n2 ++ L.sg.l.map (·.1)=L.n3:=rfl
theorem SM(L:AL):L.se.l=L.n1:=rfl
theorem MA(pre:List BA)(n:Nat):BK pre n []=true:=by unfold BK Ax;rfl
theorem S5(pre:List BA)(G S P:Nat):BT pre G S P []=true:=by unfold BT Ax;rfl
theorem RN:AM [] []=true:=rfl
theorem Dm{α:Type}{a:Option Addr}{c:Nat}{l:List α}{n:Nat}(h:l.length=n):Sl.v (⟨a,c,l⟩:Sl α) = .slice a n c:=by unfold Sl.v;rw[h]
theorem Ak{α:Type}{s:Sl α}{n:Nat}(h:s.l.length=n):s.v = .slice s.a n s.c:=by unfold Sl.v;rw[h]
theorem Ej{α:Type}{f:α→BA}{l:List α}{k:Nat}{c:α}(h:l[k]?=some c):(l.take (k+1)).map f=(l.take k).map f ++ [f c]:=by rw[Wp,h,List.map_append];rfl
theorem Sg{l:List BA}{k:Nat}{c:BA}(h:l[k]?=some c):l.take (k+1)=l.take k ++ [c]:=by rw[Wp,h];rfl
attribute [local irreducible] Ax Cv Dg AM BK BT Fz Dy Cj AX AL.small AL.n1 AL.n2 AL.n3 Sl.v
theorem Mo(L:AL)(w:World)(hL:AO w L):Calls Tryz.prog 46 #[.agg #[L.se.v,L.po.v,L.sg.v,L.rt.v]] w fun e w'=>e = .returned (.bool (AX L))∧Below w.heap.size w w':=by
 have HA:=hid hL;obtain⟨n1,hn1⟩:=WY L.se.l.length;obtain⟨n2,hn2⟩:=WY L.po.l.length;obtain⟨n3,hn3⟩:=WY L.sg.l.length;obtain⟨n4,hn4⟩:=WY L.rt.l.length;have v1:=Ak hn1;have v2:=Ak hn2;have v3:=Ak hn3;have v4:=Ak hn4;have R1:=hid hL.se.row;have R2:=hid hL.po.row;have R3:=hid hL.sg.row;have R4:=hid hL.rt.row;obtain⟨a1,ha1⟩:=WY L.se.a;obtain⟨a2,ha2⟩:=WY L.po.a;obtain⟨a3,ha3⟩:=WY L.sg.a;obtain⟨a4,ha4⟩:=WY L.rt.a;obtain⟨c1,hc1⟩:=WY L.se.c;obtain⟨c2,hc2⟩:=WY L.po.c;obtain⟨c3,hc3⟩:=WY L.sg.c;obtain⟨c4,hc4⟩:=WY L.rt.c;rw[ha1,hc1] at v1;rw[ha2,hc2] at v2;rw[ha3,hc3] at v3;rw[ha4,hc4] at v4;rw[ha1] at R1;rw[ha2] at R2;rw[ha3] at R3;rw[ha4] at R4;rw[v1,v2,v3,v4];have N1:=hid hn1;have N2:=hid hn2;have N3:=hid hn3;have N4:=hid hn4;have HV:=hid (And.intro v1 (And.intro v2 (And.intro v3 v4)));clear hn1 hn2 hn3 hn4 ha1 ha2 ha3 ha4 hc1 hc2 hc3 hc4 v1 v2 v3 v4 hL;obtain⟨gl,hgl⟩:=X0 w.heap.size;by_cases x1:64<n1
 ·have HF:Hid (AX L=false):=hid (Fr (CV (by have:=N1.o;have:=N2.o;have:=N3.o;have:=N4.o;omega)));have y1:(64:Int)<(n1:Nat):=(by omega);clear x1;go_enter Tryz.func46,Tryz.ntmps46;go_wp2_with fail;go_quiet (fail);go_wp2_with fail;go_ret;exact⟨by rw[HF.o];rfl,below_drewN (Ac _ _) _⟩
 have y1:¬ (64:Int)<(n1:Nat):=by omega
 by_cases x2:32<n2
 ·have HF:Hid (AX L=false):=hid (Fr (CV (by have:=N1.o;have:=N2.o;have:=N3.o;have:=N4.o;omega)));have y1:(32:Int)<(n2:Nat):=(by omega);clear x2;go_enter Tryz.func46,Tryz.ntmps46;go_wp2_with fail;go_quiet (fail);go_wp2_with fail;go_ret;exact⟨by rw[HF.o];rfl,below_drewN (Ac _ _) _⟩
 have y2:¬ (32:Int)<(n2:Nat):=by omega
 by_cases x3:32<n3
 ·have HF:Hid (AX L=false):=hid (Fr (CV (by have:=N1.o;have:=N2.o;have:=N3.o;have:=N4.o;omega)));have y1:(32:Int)<(n3:Nat):=(by omega);clear x3;go_enter Tryz.func46,Tryz.ntmps46;go_wp2_with fail;go_quiet (fail);go_wp2_with fail;go_ret;exact⟨by rw[HF.o];rfl,below_drewN (Ac _ _) _⟩
 have y3:¬ (32:Int)<(n3:Nat):=by omega
 by_cases x4:64<n4
 ·have HF:Hid (AX L=false):=hid (Fr (CV (by have:=N1.o;have:=N2.o;have:=N3.o;have:=N4.o;omega)));have y1:(64:Int)<(n4:Nat):=(by omega);clear x4;go_enter Tryz.func46,Tryz.ntmps46;go_wp2_with fail;go_quiet (fail);go_wp2_with fail;go_ret;exact⟨by rw[HF.o];rfl,below_drewN (Ac _ _) _⟩
 have y4:¬ (64:Int)<(n4:Nat):=by omega
 have hmm:∀(t:TypeId) (w:World),(Instr.makeMap t none).run Tryz.prog w = .ok (.map (some w.heap.size)) (w.alloc (.map #[] 0)):=fun t w=>by simp[Instr.makeMap,Result.andThen]
 have HSM:=hid (IF (L:=L) (by have:=N1.o;omega) (by have:=N2.o;omega) (by have:=N3.o;omega) (by have:=N4.o;omega));have x1:n1≤64:=by omega
 have x2:n2≤32:=by omega
 have x3:n3≤32:=by omega
 have x4:n4≤64:=by omega
 have HXX:=hid (And.intro x1 (And.intro x2 (And.intro x3 x4)));clear x1 x2 x3 x4;go_enter Tryz.func46,Tryz.ntmps46;go_wp2_with fail;go_quiet (fail);obtain⟨W2,hW2⟩:∃ W',W'=(w.alloc (.cells #[.slice a1 n1 c1,.slice a2 n2 c2,.slice a3 n3 c3,.slice a4 n4 c4] 27)).drewN nq:=⟨_,rfl⟩;have hB2:=below_drewN (Ac w (.cells #[.slice a1 n1 c1,.slice a2 n2 c2,.slice a3 n3 c3,.slice a4 n4 c4] 27)) nq;have hl2:W2.heap[w.heap.size]?=some (.cells #[.slice a1 n1 c1,.slice a2 n2 c2,.slice a3 n3 c3,.slice a4 n4 c4] 27):=by rw[hW2];exact Al w _ (below_drewN (VU _ _) nq)
 rw[← hW2] at hB2 ⊢;rw[← hgl] at hl2 ⊢;clear hW2;have HB2:=hid hB2;have HL2:=hid hl2;have HGL:=hid hgl;clear hgl hB2;obtain⟨l0,l1,l2,l3⟩:W2.cell? ⟨gl,0,none⟩=some (.slice a1 n1 c1)∧W2.cell? ⟨gl,1,none⟩=some (.slice a2 n2 c2)∧W2.cell? ⟨gl,2,none⟩=some (.slice a3 n3 c3)∧W2.cell? ⟨gl,3,none⟩=some (.slice a4 n4 c4):=⟨A4 hl2 0 _ rfl,A4 hl2 1 _ rfl,A4 hl2 2 _ rfl,A4 hl2 3 _ rfl⟩;clear hl2 l0 l1 l2 l3;go_upto_region 6 with fail
 refine Ea ?_;intro W3 hW3;obtain⟨r,hr⟩:=X0 W2.heap.size;obtain⟨gb,hgb⟩:=X0 (r+1);have hM:Gy w W3 gl gb r L:=by
  obtain⟨q1,q2⟩:=DA W2 (.map #[] 0) (.cells #[.slice none 0 0,.slice none 0 0,.slice none 0 0,.slice none 0 0,.map (some W2.heap.size)] 140);rw[hW3];refine⟨?_,by rw[HGL.o];exact Wc _,by rw[hr];exact Aj HL2.o,by omega,by rw[hgb,hr];exact Aj q2,A6 HB2.o (Cb W2 _ _)⟩;rw[HV.o.1,HV.o.2.1,HV.o.2.2.1,HV.o.2.2.2];exact A5 (Cb W2 _ _) HL2.o
 have hK:Cz W3 gb r []:=by
  obtain⟨q1,q2⟩:=DA W2 (.map #[] 0) (.cells #[.slice none 0 0,.slice none 0 0,.slice none 0 0,.slice none 0 0,.map (some W2.heap.size)] 140);rw[hW3,hgb,hr];exact⟨⟨_,_,_,_,q2⟩,⟨_,_,q1,rfl⟩,by omega⟩
 rw[← hr,← hgb];have HM:=hid hM;have HBK:=hid hK;clear hW3 hr hgb hM hK HL2 HB2 hmm;obtain⟨l0,l1,l2,l3⟩:W3.cell? ⟨gl,0,none⟩=some (.slice a1 n1 c1)∧W3.cell? ⟨gl,1,none⟩=some (.slice a2 n2 c2)∧W3.cell? ⟨gl,2,none⟩=some (.slice a3 n3 c3)∧W3.cell? ⟨gl,3,none⟩=some (.slice a4 n4 c4):=by
  obtain⟨v1,v2,v3,v4⟩:=HV.o;rw[← v1,← v2,← v3,← v4];have q:=HM.o.lay;exact⟨A4 q 0 _ rfl,A4 q 1 _ rfl,A4 q 2 _ rfl,A4 q 3 _ rfl⟩
 go_wp2_with fail;clear l0 l1 l2 l3;go_loopg [8,9,10,49] n1 (fun g ok _ _ i wr=>∃(k:Nat) (okv:Bool),k+g=n1∧ok = .bool okv∧i = .int .i64 (k:Int)∧AM [] (L.se.l.take k)=okv∧(okv=true→Cz wr gb r (L.se.l.take k))∧Gy w wr gl gb r L)
 case atStart=>exact⟨0,true,by omega,rfl,rfl,RN,fun _=>by rw[List.take_zero];exact HBK.o,HM.o⟩
 case round=>
  obtain⟨k,okv,hk,rfl,rfl,hst,hbk,hM⟩:=hrel;clear HM HBK;have HM:=hid hM;have HS:=hid hst;have HBK:=hid hbk;clear hst hbk hM;by_cases hlt:k<n1
  ·obtain⟨y,hy⟩:∃ y,L.se.l[k]?=some y:=⟨_,Wb (by rw[N1.o];exact hlt)⟩;rcases R1.o.below HM.o.below with hnil | ⟨xb,off,rfl,hc⟩
   ·rw[hnil] at hy;simp at hy
   have z0:=hc k _ hy 0 _ rfl;rw[Wa,Nat.mul_one] at z0;have HN:=hid (HA.o.sn y (Wf hy));have HY:=hid hy;have d1:(0:Int)≤k:=(by omega);have d2:(k:Int)<n1:=(by omega);have e1:wrap64 ((k:Int)+1)=(k:Int)+1:=(by have:=HXX.o;unfold wrap64;omega);have HK:=hid hk;clear hc hy hk;cases okv with
   | false=>
     have HX:=hid (Vj HY.o HS.o);go_wp2_with fail;go_roundg (n1 - (k+1))
     case rel=>exact⟨k+1,false,by have:=HK.o;omega,rfl,by go_num,HX.o,fun h=>absurd h (by decide),HM.o⟩
     case measure=>have:=HK.o;omega
   | true=>
     have HM4:=HM;have HBK4:=hid (HBK.o rfl);rcases Bool.eq_false_or_eq_true (Cj y) with hr | hr
     ·have HRR:=hid hr;clear hr;go_wp2_with fail
      skip
      refine(D9 true y _ HN.o HRR.o).mono ?_;rintro e w5 ⟨rfl,hb5⟩;have HM5:=hid (HM4.o.step hb5);have HBK5:=hid (HBK4.o.below hb5);clear hb5;rcases Bool.eq_false_or_eq_true (Dy (L.se.l.take k) y) with hh | hh
      ·have HX:=hid (PM HY.o HS.o (Jp hh));have HH:=hid (Ev.1 hh);clear hh;go_wp2_with fail;refine(Fo gb r _ y _ _ HBK5.o HH.o).mono ?_;rintro e w6 ⟨rfl,rfl⟩;go_wp2_with fail;go_roundg (n1 - (k+1))
       case rel=>exact⟨k+1,false,by have:=HK.o;omega,rfl,by go_num,HX.o,fun h=>absurd h (by decide),HM5.o⟩
       case measure=>have:=HK.o;omega
      ·have HO:=hid (Jq HRR.o hh);have HH:=hid (Gp hh);clear hh;go_wp2_with fail;refine(ES gb r _ y _ _ HBK5.o HH.o).mono ?_;rintro e w6 ⟨rfl,hbk6,ho6⟩;have HM6:=hid (HM5.o.only ho6);have HBK6:Hid (Cz w6 gb r (L.se.l.take (k+1))):=hid (Sg HY.o ▸ hbk6);have HX:=hid (PM HY.o HS.o HO.o);clear hbk6 ho6;go_wp2_with fail;go_roundg (n1 - (k+1))
       case rel=>exact⟨k+1,true,by have:=HK.o;omega,rfl,by go_num,HX.o,fun _=>HBK6.o,HM6.o⟩
       case measure=>have:=HK.o;omega
     ·have HX:=hid (PM HY.o HS.o (GX hr));have HRR:=hid hr;clear hr;go_wp2_with fail
      skip
      refine(D9 false y _ HN.o HRR.o).mono ?_;rintro e w5 ⟨rfl,hb5⟩;have HM5:=hid (HM4.o.step hb5);clear hb5;go_wp2_with fail;go_roundg (n1 - (k+1))
      case rel=>exact⟨k+1,false,by have:=HK.o;omega,rfl,by go_num,HX.o,fun h=>absurd h (by decide),HM5.o⟩
      case measure=>have:=HK.o;omega
  ·have hkn:n1=k:=(by omega);subst hkn;have hfull:L.se.l.take n1=L.se.l:=Wo (by rw[N1.o];exact Wc _);rw[hfull] at HS HBK;clear hfull;obtain⟨wq2,hwq⟩:=X0 wr;rw[← hwq] at HM HBK ⊢;clear hwq;rw[SM] at HBK;obtain⟨A1,hA1⟩:=WY okv;rw[hA1] at HS HBK ⊢;have HS1:=HS;clear HS hA1;obtain⟨l0,l1,l2,l3⟩:wq2.cell? ⟨gl,0,none⟩=some (.slice a1 n1 c1)∧wq2.cell? ⟨gl,1,none⟩=some (.slice a2 n2 c2)∧wq2.cell? ⟨gl,2,none⟩=some (.slice a3 n3 c3)∧wq2.cell? ⟨gl,3,none⟩=some (.slice a4 n4 c4):=by
    obtain⟨v1,v2,v3,v4⟩:=HV.o;rw[← v1,← v2,← v3,← v4];have q:=HM.o.lay;exact⟨A4 q 0 _ rfl,A4 q 1 _ rfl,A4 q 2 _ rfl,A4 q 3 _ rfl⟩
   go_wp2_with fail;clear l0 l1 l2 l3;go_loopg [8,11,12,70] n2 (fun g ok _ _ i wr=>∃(k:Nat) (okv:Bool),k+g=n2∧ok = .bool okv∧i = .int .i64 (k:Int)∧(A1 && BK L.n1 n1 (L.po.l.take k))=okv∧(okv=true→Cz wr gb r (L.n1 ++ (L.po.l.take k).map (·.1)))∧Gy w wr gl gb r L)
   case atStart=>exact⟨0,A1,by omega,rfl,rfl,by rw[List.take_zero,MA,Bool.and_true],by rw[List.take_zero,List.map_nil,Wt];exact HBK.o,HM.o⟩
   case round=>
    obtain⟨k,okv,hk,rfl,rfl,hst,hbk,hM⟩:=hrel;clear HM HBK;have HM:=hid hM;have HS:=hid hst;have HBK:=hid hbk;clear hst hbk hM;by_cases hlt:k<n2
    ·obtain⟨y,hy⟩:∃ y,L.po.l[k]?=some y:=⟨_,Wb (by rw[N2.o];exact hlt)⟩;rcases R2.o.below HM.o.below with hnil | ⟨xb,off,rfl,hc⟩
     ·rw[hnil] at hy;simp at hy
     obtain⟨y0,y1⟩:=y;have z0:=hc k _ hy 0 _ rfl;have z1:=hc k _ hy 1 _ rfl;rw[Wa] at z0;have HN:=hid (HA.o.pn _ (Wf hy));dsimp only at z0 z1 HN;have HY:=hid hy;have d1:(0:Int)≤k:=(by omega);have d2:(k:Int)<n2:=(by omega);have e1:wrap64 ((k:Int)+1)=(k:Int)+1:=(by have:=HXX.o;unfold wrap64;omega);have HK:=hid hk;clear hc hy hk;cases okv with
     | false=>
       have HX:=hid (SW HY.o HS.o);go_wp2_with fail;go_roundg (n2 - (k+1))
       case rel=>exact⟨k+1,false,by have:=HK.o;omega,rfl,by go_num,HX.o,fun h=>absurd h (by decide),HM.o.step (Ac _ _)⟩
       case measure=>have:=HK.o;omega
     | true=>
       have hb4:=Ac wr (.cells #[.string y0,.int .i64 y1] 68);have HM4:=hid (HM.o.step hb4);have HBK4:=hid ((HBK.o rfl).below hb4);have hk4:(wr.alloc (.cells #[.string y0,.int .i64 y1] 68)).heap[wr.heap.size]?=some (.cells #[.string y0,.int .i64 y1] 68):=Al wr _ (VU _ _);have HK4:=hid hk4;have HGX:=hid (show wr.heap.size≠r by have:=HM.o.o3;have:=HM.o.o4;omega);obtain⟨gx,hgx⟩:=X0 wr.heap.size;rw[← hgx] at HK4 HGX;have HGG:=hid hgx;clear hb4 hk4 hgx;rcases Bool.eq_false_or_eq_true (Cj y0) with hr | hr
       ·have HRR:=hid hr;clear hr;go_wp2_with fail;rw[← HGG.o];refine(D9 true y0 _ HN.o HRR.o).mono ?_;rintro e w5 ⟨rfl,hb5⟩;have HM5:=hid (HM4.o.step hb5);have HBK5:=hid (HBK4.o.below hb5);have HK5:=hid (A5 hb5 HK4.o);clear hb5;have k0:=A4 HK5.o 0 _ rfl;have k1:=A4 HK5.o 1 _ rfl;rcases Bool.eq_false_or_eq_true (Dy (L.n1 ++ (L.po.l.take k).map (·.1)) y0) with hh | hh
        ·have HX:=hid (MP (A:=A1) (pre:=L.n1) (n:=n1) HY.o (Jp hh));have HH:=hid (Ev.1 hh);clear hh;go_wp2_with fail;refine(Fo gb r _ y0 _ _ HBK5.o HH.o).mono ?_;rintro e w6 ⟨rfl,rfl⟩;go_wp2_with fail;go_roundg (n2 - (k+1))
         case rel=>exact⟨k+1,false,by have:=HK.o;omega,rfl,by go_num,HX.o,fun h=>absurd h (by decide),HM5.o⟩
         case measure=>have:=HK.o;omega
        ·have HO:=hid (Jq HRR.o hh);have HH:=hid (Gp hh);clear hh;go_wp2_with fail;refine(ES gb r _ y0 _ _ HBK5.o HH.o).mono ?_;rintro e w6 ⟨rfl,hbk6,ho6⟩;have HM6:=hid (HM5.o.only ho6);have HK6:=hid (ho6.keep HGX.o HK5.o);have HBK6:Hid (Cz w6 gb r (L.n1 ++ (L.po.l.take (k+1)).map (·.1))):=hid (by rw[Ej HY.o,← Wx];exact hbk6);clear hbk6 ho6;clear k0 k1;have k0:=A4 HK6.o 0 _ rfl;have k1:=A4 HK6.o 1 _ rfl;obtain⟨D,hD⟩:=WY (decide (0≤y1∧y1<(n1:Int)));have HKK:Hid (∀(W:World) (g:Nat),W.heap[g]?=some (.cells #[.int .i64 y1] 3)→Calls Tryz.prog 83 #[.int .i64 (n1:Int),.slice (some ⟨g,0,none⟩) 1 1] W fun e w'=>e = .returned (.bool D)∧W=w'):=hid (fun W g h=>hD ▸ ET n1 y1 W g 3 (0,0) h);have HD:=hid hD;clear hD;have HM7:=hid (HM6.o.step (Ac w6 (.cells #[.int .i64 y1] 3)));have HBK7:=hid (HBK6.o.below (Ac w6 (.cells #[.int .i64 y1] 3)));have HK7:=hid (A5 (Ac w6 (.cells #[.int .i64 y1] 3)) HK6.o);go_wp2_with fail;refine(HKK.o _ _ (Al w6 _ (VU _ _))).mono ?_;rintro e w7 ⟨rfl,rfl⟩;have HX:=hid (SX HY.o HS.o HO.o HD.o);go_wp2_with fail;go_roundg (n2 - (k+1))
         case rel=>exact⟨k+1,D,by have:=HK.o;omega,rfl,by go_num,HX.o,fun _=>HBK7.o,HM7.o⟩
         case measure=>have:=HK.o;omega
       ·have HX:=hid (MP (A:=A1) (pre:=L.n1) (n:=n1) HY.o (GX hr));have HRR:=hid hr;clear hr;go_wp2_with fail;rw[← HGG.o];refine(D9 false y0 _ HN.o HRR.o).mono ?_;rintro e w5 ⟨rfl,hb5⟩;have HM5:=hid (HM4.o.step hb5);clear hb5;go_wp2_with fail;go_roundg (n2 - (k+1))
        case rel=>exact⟨k+1,false,by have:=HK.o;omega,rfl,by go_num,HX.o,fun h=>absurd h (by decide),HM5.o⟩
        case measure=>have:=HK.o;omega
    ·have hkn:n2=k:=(by omega);subst hkn;have hfull:L.po.l.take n2=L.po.l:=Wo (by rw[N2.o];exact Wc _);rw[hfull] at HS HBK;clear hfull;obtain⟨wq3,hwq⟩:=X0 wr;rw[← hwq] at HM HBK ⊢;clear hwq;rw[SN] at HBK;obtain⟨A2,hA2⟩:=WY okv;rw[hA2] at HS HBK ⊢;have HS2:=HS;clear HS hA2;obtain⟨l0,l1,l2,l3⟩:wq3.cell? ⟨gl,0,none⟩=some (.slice a1 n1 c1)∧wq3.cell? ⟨gl,1,none⟩=some (.slice a2 n2 c2)∧wq3.cell? ⟨gl,2,none⟩=some (.slice a3 n3 c3)∧wq3.cell? ⟨gl,3,none⟩=some (.slice a4 n4 c4):=by
      obtain⟨v1,v2,v3,v4⟩:=HV.o;rw[← v1,← v2,← v3,← v4];have q:=HM.o.lay;exact⟨A4 q 0 _ rfl,A4 q 1 _ rfl,A4 q 2 _ rfl,A4 q 3 _ rfl⟩
     go_wp2_with fail;clear l0 l1 l2 l3;go_loopg [8,13,14,100] n3 (fun g ok _ _ i wr=>∃(k:Nat) (okv:Bool),k+g=n3∧ok = .bool okv∧i = .int .i64 (k:Int)∧(A2 && BK L.n2 n1 (L.sg.l.take k))=okv∧(okv=true→Cz wr gb r (L.n2 ++ (L.sg.l.take k).map (·.1)))∧Gy w wr gl gb r L)
     case atStart=>exact⟨0,A2,by omega,rfl,rfl,by rw[List.take_zero,MA,Bool.and_true],by rw[List.take_zero,List.map_nil,Wt];exact HBK.o,HM.o⟩
     case round=>
      obtain⟨k,okv,hk,rfl,rfl,hst,hbk,hM⟩:=hrel;clear HM HBK;have HM:=hid hM;have HS:=hid hst;have HBK:=hid hbk;clear hst hbk hM;by_cases hlt:k<n3
      ·obtain⟨y,hy⟩:∃ y,L.sg.l[k]?=some y:=⟨_,Wb (by rw[N3.o];exact hlt)⟩;rcases R3.o.below HM.o.below with hnil | ⟨xb,off,rfl,hc⟩
       ·rw[hnil] at hy;simp at hy
       obtain⟨y0,y1⟩:=y;have z0:=hc k _ hy 0 _ rfl;have z1:=hc k _ hy 1 _ rfl;rw[Wa] at z0;have HN:=hid (HA.o.gn _ (Wf hy));dsimp only at z0 z1 HN;have HY:=hid hy;have d1:(0:Int)≤k:=(by omega);have d2:(k:Int)<n3:=(by omega);have e1:wrap64 ((k:Int)+1)=(k:Int)+1:=(by have:=HXX.o;unfold wrap64;omega);have HK:=hid hk;clear hc hy hk;cases okv with
       | false=>
         have HX:=hid (SW HY.o HS.o);go_wp2_with fail;go_roundg (n3 - (k+1))
         case rel=>exact⟨k+1,false,by have:=HK.o;omega,rfl,by go_num,HX.o,fun h=>absurd h (by decide),HM.o.step (Ac _ _)⟩
         case measure=>have:=HK.o;omega
       | true=>
         have hb4:=Ac wr (.cells #[.string y0,.int .i64 y1] 69);have HM4:=hid (HM.o.step hb4);have HBK4:=hid ((HBK.o rfl).below hb4);have hk4:(wr.alloc (.cells #[.string y0,.int .i64 y1] 69)).heap[wr.heap.size]?=some (.cells #[.string y0,.int .i64 y1] 69):=Al wr _ (VU _ _);have HK4:=hid hk4;have HGX:=hid (show wr.heap.size≠r by have:=HM.o.o3;have:=HM.o.o4;omega);obtain⟨gx,hgx⟩:=X0 wr.heap.size;rw[← hgx] at HK4 HGX;have HGG:=hid hgx;clear hb4 hk4 hgx;rcases Bool.eq_false_or_eq_true (Cj y0) with hr | hr
         ·have HRR:=hid hr;clear hr;go_wp2_with fail;rw[← HGG.o];refine(D9 true y0 _ HN.o HRR.o).mono ?_;rintro e w5 ⟨rfl,hb5⟩;have HM5:=hid (HM4.o.step hb5);have HBK5:=hid (HBK4.o.below hb5);have HK5:=hid (A5 hb5 HK4.o);clear hb5;have k0:=A4 HK5.o 0 _ rfl;have k1:=A4 HK5.o 1 _ rfl;rcases Bool.eq_false_or_eq_true (Dy (L.n2 ++ (L.sg.l.take k).map (·.1)) y0) with hh | hh
          ·have HX:=hid (MP (A:=A2) (pre:=L.n2) (n:=n1) HY.o (Jp hh));have HH:=hid (Ev.1 hh);clear hh;go_wp2_with fail;refine(Fo gb r _ y0 _ _ HBK5.o HH.o).mono ?_;rintro e w6 ⟨rfl,rfl⟩;go_wp2_with fail;go_roundg (n3 - (k+1))
           case rel=>exact⟨k+1,false,by have:=HK.o;omega,rfl,by go_num,HX.o,fun h=>absurd h (by decide),HM5.o⟩
           case measure=>have:=HK.o;omega
          ·have HO:=hid (Jq HRR.o hh);have HH:=hid (Gp hh);clear hh;go_wp2_with fail;refine(ES gb r _ y0 _ _ HBK5.o HH.o).mono ?_;rintro e w6 ⟨rfl,hbk6,ho6⟩;have HM6:=hid (HM5.o.only ho6);have HK6:=hid (ho6.keep HGX.o HK5.o);have HBK6:Hid (Cz w6 gb r (L.n2 ++ (L.sg.l.take (k+1)).map (·.1))):=hid (by rw[Ej HY.o,← Wx];exact hbk6);clear hbk6 ho6;clear k0 k1;have k0:=A4 HK6.o 0 _ rfl;have k1:=A4 HK6.o 1 _ rfl;obtain⟨D,hD⟩:=WY (decide (0≤y1∧y1<(n1:Int)));have HKK:Hid (∀(W:World) (g:Nat),W.heap[g]?=some (.cells #[.int .i64 y1] 3)→Calls Tryz.prog 83 #[.int .i64 (n1:Int),.slice (some ⟨g,0,none⟩) 1 1] W fun e w'=>e = .returned (.bool D)∧W=w'):=hid (fun W g h=>hD ▸ ET n1 y1 W g 3 (0,0) h);have HD:=hid hD;clear hD;have HM7:=hid (HM6.o.step (Ac w6 (.cells #[.int .i64 y1] 3)));have HBK7:=hid (HBK6.o.below (Ac w6 (.cells #[.int .i64 y1] 3)));have HK7:=hid (A5 (Ac w6 (.cells #[.int .i64 y1] 3)) HK6.o);go_wp2_with fail;refine(HKK.o _ _ (Al w6 _ (VU _ _))).mono ?_;rintro e w7 ⟨rfl,rfl⟩;have HX:=hid (SX HY.o HS.o HO.o HD.o);go_wp2_with fail;go_roundg (n3 - (k+1))
           case rel=>exact⟨k+1,D,by have:=HK.o;omega,rfl,by go_num,HX.o,fun _=>HBK7.o,HM7.o⟩
           case measure=>have:=HK.o;omega
         ·have HX:=hid (MP (A:=A2) (pre:=L.n2) (n:=n1) HY.o (GX hr));have HRR:=hid hr;clear hr;go_wp2_with fail;rw[← HGG.o];refine(D9 false y0 _ HN.o HRR.o).mono ?_;rintro e w5 ⟨rfl,hb5⟩;have HM5:=hid (HM4.o.step hb5);clear hb5;go_wp2_with fail;go_roundg (n3 - (k+1))
          case rel=>exact⟨k+1,false,by have:=HK.o;omega,rfl,by go_num,HX.o,fun h=>absurd h (by decide),HM5.o⟩
          case measure=>have:=HK.o;omega
      ·have hkn:n3=k:=(by omega);subst hkn;have hfull:L.sg.l.take n3=L.sg.l:=Wo (by rw[N3.o];exact Wc _);rw[hfull] at HS HBK;clear hfull;obtain⟨wq4,hwq⟩:=X0 wr;rw[← hwq] at HM HBK ⊢;clear hwq;rw[SO] at HBK;obtain⟨A3,hA3⟩:=WY okv;rw[hA3] at HS HBK ⊢;have HS3:=HS;clear HS hA3;obtain⟨l0,l1,l2,l3⟩:wq4.cell? ⟨gl,0,none⟩=some (.slice a1 n1 c1)∧wq4.cell? ⟨gl,1,none⟩=some (.slice a2 n2 c2)∧wq4.cell? ⟨gl,2,none⟩=some (.slice a3 n3 c3)∧wq4.cell? ⟨gl,3,none⟩=some (.slice a4 n4 c4):=by
        obtain⟨v1,v2,v3,v4⟩:=HV.o;rw[← v1,← v2,← v3,← v4];have q:=HM.o.lay;exact⟨A4 q 0 _ rfl,A4 q 1 _ rfl,A4 q 2 _ rfl,A4 q 3 _ rfl⟩
       go_wp2_with fail;clear l0 l1 l2 l3;go_loopg [8,15,16,130] n4 (fun g ok _ _ i wr=>∃(k:Nat) (okv:Bool),k+g=n4∧ok = .bool okv∧i = .int .i64 (k:Int)∧(A3 && BT L.n3 n3 n1 n2 (L.rt.l.take k))=okv∧(okv=true→Cz wr gb r (L.n3 ++ (L.rt.l.take k).map (·.nm)))∧Gy w wr gl gb r L)
       case atStart=>exact⟨0,A3,by omega,rfl,rfl,by rw[List.take_zero,S5,Bool.and_true],by rw[List.take_zero,List.map_nil,Wt];exact HBK.o,HM.o⟩
       case round=>
        obtain⟨k,okv,hk,rfl,rfl,hst,hbk,hM⟩:=hrel;clear HM HBK;have HM:=hid hM;have HS:=hid hst;have HBK:=hid hbk;clear hst hbk hM;by_cases hlt:k<n4
        ·obtain⟨y,hy⟩:∃ y,L.rt.l[k]?=some y:=⟨_,Wb (by rw[N4.o];exact hlt)⟩;rcases R4.o.below HM.o.below with hnil | ⟨xb,off,rfl,hc⟩
         ·rw[hnil] at hy;simp at hy
         have z0:=hc k _ hy 0 _ rfl;have z1:=hc k _ hy 1 _ rfl;have z2:=hc k _ hy 2 _ rfl;have z3:=hc k _ hy 3 _ rfl;have z4:=hc k _ hy 4 _ rfl;have z5:=hc k _ hy 5 _ rfl;rw[Wa] at z0;have HR:=hid (HA.o.rn y (Wf hy));obtain⟨nm,sg,⟨pa,pc,pl⟩,⟨oa,oc,ol⟩,⟨va,vc,vl⟩,⟨fa,fc,fl⟩⟩:=y;have HN:=hid HR.o.nm;dsimp only at z0 z1 z2 z3 z4 z5 HN;obtain⟨m1,hm1⟩:=WY pl.length;obtain⟨m2,hm2⟩:=WY ol.length;obtain⟨m3,hm3⟩:=WY vl.length;obtain⟨m4,hm4⟩:=WY fl.length;rw[Dm hm1] at z2;rw[Dm hm2] at z3;rw[Dm hm3] at z4;rw[Dm hm4] at z5;have HMM:=hid (And.intro hm1 (And.intro hm2 (And.intro hm3 hm4)));clear hm1 hm2 hm3 hm4;have HY:=hid hy;have d1:(0:Int)≤k:=(by omega);have d2:(k:Int)<n4:=(by omega);have e1:wrap64 ((k:Int)+1)=(k:Int)+1:=(by have:=HXX.o;unfold wrap64;omega);have HK:=hid hk;clear hc hy hk;cases okv with
         | false=>
           have HX:=hid (Vk HY.o HS.o);go_wp2_with fail;go_roundg (n4 - (k+1))
           case rel=>exact⟨k+1,false,by have:=HK.o;omega,rfl,by go_num,HX.o,fun h=>absurd h (by decide),HM.o.step (Ac _ _)⟩
           case measure=>have:=HK.o;omega
         | true=>
           have hb4:=Ac wr (.cells #[.string nm,.int .i64 sg,.slice pa m1 pc,.slice oa m2 oc,.slice va m3 vc,.slice fa m4 fc] 52);have HM4:=hid (HM.o.step hb4);have HBK4:=hid ((HBK.o rfl).below hb4);have hk4:(wr.alloc (.cells #[.string nm,.int .i64 sg,.slice pa m1 pc,.slice oa m2 oc,.slice va m3 vc,.slice fa m4 fc] 52)).heap[wr.heap.size]?=some (.cells #[.string nm,.int .i64 sg,.slice pa m1 pc,.slice oa m2 oc,.slice va m3 vc,.slice fa m4 fc] 52):=Al wr _ (VU _ _);have HK4:=hid hk4;have HGX:=hid (show wr.heap.size≠r by have:=HM.o.o3;have:=HM.o.o4;omega);obtain⟨gx,hgx⟩:=X0 wr.heap.size;rw[← hgx] at HK4 HGX;have HGG:=hid hgx;clear hb4 hk4 hgx;rcases Bool.eq_false_or_eq_true (Cj nm) with hr | hr
           ·have HRR:=hid hr;clear hr;go_wp2_with fail;rw[← HGG.o];refine(D9 true nm _ HN.o HRR.o).mono ?_;rintro e w5 ⟨rfl,hb5⟩;have HM5:=hid (HM4.o.step hb5);have HBK5:=hid (HBK4.o.below hb5);have HK5:=hid (A5 hb5 HK4.o);clear hb5;have k0:=A4 HK5.o 0 _ rfl;have k1:=A4 HK5.o 1 _ rfl;have k2:=A4 HK5.o 2 _ rfl;have k3:=A4 HK5.o 3 _ rfl;have k4:=A4 HK5.o 4 _ rfl;have k5:=A4 HK5.o 5 _ rfl;rcases Bool.eq_false_or_eq_true (Dy (L.n3 ++ (L.rt.l.take k).map (·.nm)) nm) with hh | hh
            ·have HX:=hid (SY (A:=A3) (pre:=L.n3) (G:=n3) (S:=n1) (P:=n2) HY.o (Jp hh));have HH:=hid (Ev.1 hh);clear hh;go_wp2_with fail;refine(Fo gb r _ nm _ _ HBK5.o HH.o).mono ?_;rintro e w6 ⟨rfl,rfl⟩;go_wp2_with fail;go_roundg (n4 - (k+1))
             case rel=>exact⟨k+1,false,by have:=HK.o;omega,rfl,by go_num,HX.o,fun h=>absurd h (by decide),HM5.o⟩
             case measure=>have:=HK.o;omega
            ·have HO:=hid (Jq HRR.o hh);have HH:=hid (Gp hh);clear hh;go_wp2_with fail;refine(ES gb r _ nm _ _ HBK5.o HH.o).mono ?_;rintro e w6 ⟨rfl,hbk6,ho6⟩;have HM6:=hid (HM5.o.only ho6);have HK6:=hid (ho6.keep HGX.o HK5.o);have HBK6:Hid (Cz w6 gb r (L.n3 ++ (L.rt.l.take (k+1)).map (·.nm))):=hid (by rw[Ej HY.o,← Wx];exact hbk6);clear hbk6 ho6;clear k0 k1 k2 k3 k4 k5;have k0:=A4 HK6.o 0 _ rfl;have k1:=A4 HK6.o 1 _ rfl;have k2:=A4 HK6.o 2 _ rfl;have k3:=A4 HK6.o 3 _ rfl;have k4:=A4 HK6.o 4 _ rfl;have k5:=A4 HK6.o 5 _ rfl;obtain⟨D,hD⟩:=WY (decide (0≤sg∧sg<(n3:Int)));have HKK:Hid (∀(W:World) (g:Nat),W.heap[g]?=some (.cells #[.int .i64 sg] 3)→Calls Tryz.prog 83 #[.int .i64 (n3:Int),.slice (some ⟨g,0,none⟩) 1 1] W fun e w'=>e = .returned (.bool D)∧W=w'):=hid (fun W g h=>hD ▸ ET n3 sg W g 3 (0,0) h);have HD:=hid hD;clear hD;have HM7:=hid (HM6.o.step (Ac w6 (.cells #[.int .i64 sg] 3)));have HBK7:=hid (HBK6.o.below (Ac w6 (.cells #[.int .i64 sg] 3)));have HK7:=hid (A5 (Ac w6 (.cells #[.int .i64 sg] 3)) HK6.o);cases D with
             | false=>
               have HX:=hid (Vm (A:=A3) (pre:=L.n3) (S:=n1) (P:=n2) HY.o HD.o);go_wp2_with fail;refine(HKK.o _ _ (Al w6 _ (VU _ _))).mono ?_;rintro e w7 ⟨rfl,rfl⟩;go_wp2_with fail;go_roundg (n4 - (k+1))
               case rel=>exact⟨k+1,false,by have:=HK.o;omega,rfl,by go_num,HX.o,fun h=>absurd h (by decide),HM7.o⟩
               case measure=>have:=HK.o;omega
             | true=>
               have HX:=hid (fun(e:Bool) (he:Fz n1 n2 ⟨nm,sg,⟨pa,pc,pl⟩,⟨oa,oc,ol⟩,⟨va,vc,vl⟩,⟨fa,fc,fl⟩⟩=e)=>Vl HY.o HS.o HO.o HD.o he);go_upto_region 24 with fail
               go_wp2_with fail;refine(HKK.o _ _ (Al w6 _ (VU _ _))).mono ?_;rintro e w7 ⟨rfl,rfl⟩;obtain⟨W7,hW7⟩:=X0 (w6.alloc (.cells #[.int .i64 sg] 3));rw[← hW7] at HM7 HBK7 HK7 ⊢;clear hW7 HKK;clear k0 k1 k2 k3 k4 k5;have k0:=A4 HK7.o 0 _ rfl;have k1:=A4 HK7.o 1 _ rfl;have k2:=A4 HK7.o 2 _ rfl;have k3:=A4 HK7.o 3 _ rfl;have k4:=A4 HK7.o 4 _ rfl;have k5:=A4 HK7.o 5 _ rfl;by_cases t1:(m1:Int)≤16
               case neg=>
                have HE:=hid (HX.o false (UW (by dsimp only;rw[HMM.o.1];omega)));go_wp2_with fail;go_roundg (n4 - (k+1))
                case rel=>exact⟨k+1,false,by have:=HK.o;omega,rfl,by go_num,HE.o,fun h=>absurd h (by decide),HM7.o⟩
                case measure=>have:=HK.o;omega
               by_cases t2:(m3:Int)≤16
               case neg=>
                have HE:=hid (HX.o false (UX (by dsimp only;rw[HMM.o.2.2.1];omega)));go_wp2_with fail;go_roundg (n4 - (k+1))
                case rel=>exact⟨k+1,false,by have:=HK.o;omega,rfl,by go_num,HE.o,fun h=>absurd h (by decide),HM7.o⟩
                case measure=>have:=HK.o;omega
               have q1:=hid (HR.o.pa.row.below HM7.o.below);have q3:=hid (HR.o.ov.row.below HM7.o.below);dsimp only at q1 q3;rcases Bool.eq_false_or_eq_true (Ax n1 pl) with b1 | b1
               case inr=>
                have HE:=hid (HX.o false (UY b1));have B1:=hid b1;clear b1;go_wp2_with fail;refine(DQ false n1 pa m1 pc pl _ B1.o HMM.o.1 (by omega) q1.o).mono ?_;rintro e w8 ⟨rfl,rfl⟩;go_wp2_with fail;go_roundg (n4 - (k+1))
                case rel=>exact⟨k+1,false,by have:=HK.o;omega,rfl,by go_num,HE.o,fun h=>absurd h (by decide),HM7.o⟩
                case measure=>have:=HK.o;omega
               have B1:=hid b1;clear b1;rcases Bool.eq_false_or_eq_true (Ax n1 vl) with b2 | b2
               case inr=>
                have HE:=hid (HX.o false (UZ b2));have B2:=hid b2;clear b2;go_wp2_with fail;refine(DQ true n1 pa m1 pc pl _ B1.o HMM.o.1 (by omega) q1.o).mono ?_;rintro e w8 ⟨rfl,rfl⟩;go_wp2_with fail;refine(DQ false n1 va m3 vc vl _ B2.o HMM.o.2.2.1 (by omega) q3.o).mono ?_;rintro e w8 ⟨rfl,rfl⟩;go_wp2_with fail;go_roundg (n4 - (k+1))
                case rel=>exact⟨k+1,false,by have:=HK.o;omega,rfl,by go_num,HE.o,fun h=>absurd h (by decide),HM7.o⟩
                case measure=>have:=HK.o;omega
               have B2:=hid b2;clear b2;go_wp2_with fail;refine(DQ true n1 pa m1 pc pl _ B1.o HMM.o.1 (by omega) q1.o).mono ?_;rintro e w8 ⟨rfl,rfl⟩;go_wp2_with fail;refine(DQ true n1 va m3 vc vl _ B2.o HMM.o.2.2.1 (by omega) q3.o).mono ?_;rintro e w8 ⟨rfl,rfl⟩;have HT:=hid (And.intro t1 t2);have M24:=hid (show m2≤9223372036854775807∧m4≤9223372036854775807 by have h2:=HR.o.po.len;have h4:=HR.o.fl.len;have g2:=HR.o.po.cap;have g4:=HR.o.fl.cap;have:=HMM.o;dsimp only at h2 h4 g2 g4;unfold maxLen at g2 g4;omega);clear t1 t2;rcases Bool.eq_false_or_eq_true (Cv n2 ol) with b3 | b3
               case inr=>
                have HE:=hid (HX.o false (Vd b3));have B3:=hid b3;clear b3;go_wp2_with fail;refine(Ji false n2 oa m2 oc ol _ B3.o HMM.o.2.1 M24.o.1 (HR.o.po.row.below HM7.o.below)).mono ?_;rintro e w8 ⟨rfl,hb8⟩;have HM8:=hid (HM7.o.step hb8);clear hb8;go_wp2_with fail;go_roundg (n4 - (k+1))
                case rel=>exact⟨k+1,false,by have:=HK.o;omega,rfl,by go_num,HE.o,fun h=>absurd h (by decide),HM8.o⟩
                case measure=>have:=HK.o;omega
               have B3:=hid b3;clear b3;go_wp2_with fail;refine(Ji true n2 oa m2 oc ol _ B3.o HMM.o.2.1 M24.o.1 (HR.o.po.row.below HM7.o.below)).mono ?_;rintro e w8 ⟨rfl,hb8⟩;have HM8:=hid (HM7.o.step hb8);have HBK8:=hid (HBK7.o.below hb8);have HK8:=hid (A5 hb8 HK7.o);clear hb8;clear k0 k1 k2 k3 k4 k5;have k0:=A4 HK8.o 0 _ rfl;have k1:=A4 HK8.o 1 _ rfl;have k2:=A4 HK8.o 2 _ rfl;have k3:=A4 HK8.o 3 _ rfl;have k4:=A4 HK8.o 4 _ rfl;have k5:=A4 HK8.o 5 _ rfl;rcases Bool.eq_false_or_eq_true (Cv n2 fl) with b4 | b4
               case inr=>
                have HE:=hid (HX.o false (Ve b4));have B4:=hid b4;clear b4;go_wp2_with fail;refine(Ji false n2 fa m4 fc fl _ B4.o HMM.o.2.2.2 M24.o.2 (HR.o.fl.row.below HM8.o.below)).mono ?_;rintro e w9 ⟨rfl,hb9⟩;have HM9:=hid (HM8.o.step hb9);clear hb9;go_wp2_with fail;go_roundg (n4 - (k+1))
                case rel=>exact⟨k+1,false,by have:=HK.o;omega,rfl,by go_num,HE.o,fun h=>absurd h (by decide),HM9.o⟩
                case measure=>have:=HK.o;omega
               have HE:=hid (HX.o true (Vf (by dsimp only;rw[HMM.o.1];have:=HT.o;omega) (by dsimp only;rw[HMM.o.2.2.1];have:=HT.o;omega) B1.o B2.o B3.o b4));have B4:=hid b4;clear b4;go_wp2_with fail;refine(Ji true n2 fa m4 fc fl _ B4.o HMM.o.2.2.2 M24.o.2 (HR.o.fl.row.below HM8.o.below)).mono ?_;rintro e w9 ⟨rfl,hb9⟩;have HM9:=hid (HM8.o.step hb9);have HBK9:=hid (HBK8.o.below hb9);clear hb9;go_wp2_with fail;go_roundg (n4 - (k+1))
               case rel=>exact⟨k+1,true,by have:=HK.o;omega,rfl,by go_num,HE.o,fun _=>HBK9.o,HM9.o⟩
               case measure=>have:=HK.o;omega
           ·have HX:=hid (SY (A:=A3) (pre:=L.n3) (G:=n3) (S:=n1) (P:=n2) HY.o (GX hr));have HRR:=hid hr;clear hr;go_wp2_with fail;rw[← HGG.o];refine(D9 false nm _ HN.o HRR.o).mono ?_;rintro e w5 ⟨rfl,hb5⟩;have HM5:=hid (HM4.o.step hb5);clear hb5;go_wp2_with fail;go_roundg (n4 - (k+1))
            case rel=>exact⟨k+1,false,by have:=HK.o;omega,rfl,by go_num,HX.o,fun h=>absurd h (by decide),HM5.o⟩
            case measure=>have:=HK.o;omega
        ·have hkn:n4=k:=(by omega);subst hkn;have hfull:L.rt.l.take n4=L.rt.l:=Wo (by rw[N4.o];exact Wc _);rw[hfull] at HS HBK;clear hfull;obtain⟨wq5,hwq⟩:=X0 wr;rw[← hwq] at HM HBK ⊢;clear hwq;go_wp2_with fail;go_ret;have hE:AX L=okv:=by
          refine RA (A2:=A2) (A3:=A3) HSM.o ?_ ?_ ?_
          ·rw[N1.o,HS1.o];exact HS2.o
          ·rw[N1.o];exact HS3.o
          ·rw[N1.o,N2.o,N3.o];exact HS.o
         exact⟨by rw[hE];rfl,HM.o.below⟩
end
section
section
variable {α:Type} {sz:Nat} {f:α→List Value}
theorem Cg(hf:∀ c,(f c).length=sz):∀ l:List α,(l.flatMap f).length=l.length*sz:=by
 intro l
 induction l with
 | nil=>simp
 | cons c l ih=>rw[WI,Wh,hf,ih,WK,Nat.add_mul,Nat.one_mul,Nat.add_comm]
theorem GM(hf:∀ c,(f c).length=sz):∀(l:List α) (i:Nat) (c:α) (j:Nat) (v:Value),l[i]?=some c→(f c)[j]?=some v→(l.flatMap f)[i*sz+j]?=some v:=by
 intro l
 induction l with
 | nil=>intro i c j v h;simp at h
 | cons d l ih=>
   intro i c j v h hj;have hjs:j<sz:=(by rw[← hf c];exact(We.1 hj).1);cases i with
   | zero=>
     simp at h;subst h;rw[WI,Nat.zero_mul,Wq,WV (by rw[hf];exact hjs)];exact hj
   | succ i=>
     have:=ih i c j v (by simpa using h) hj;rw[WI,WT (by rw[hf,Nat.add_mul];omega),hf];rw[show(i+1)*sz+j - sz=i*sz+j by rw[Nat.add_mul];omega];exact this
theorem QX(hf:∀ c,(f c).length=sz)(l:List α)(j:Nat)(v:Value)(h:(l.flatMap f)[j]?=some v):∃ i c k,l[i]?=some c∧(f c)[k]?=some v∧j=i*sz+k:=by
 have hj:j<l.length*sz:=by rw[← Cg hf];exact(We.1 h).1
 have hpos:0<sz:=by
  rcases Nat.eq_zero_or_pos sz with h0 | h0
  ·rw[h0,Nat.mul_zero] at hj;omega
  ·exact h0
 have hi:j / sz<l.length:=Nat.div_lt_of_lt_mul (by rw[Nat.mul_comm];exact hj);have hk:j % sz<sz:=Nat.mod_lt _ hpos;have hjj:j=j / sz*sz+j % sz:=by rw[Nat.mul_comm];exact(Nat.div_add_mod j sz).symm
 have g1:l[j / sz]?=some (l[j / sz]'hi):=Wb _;have g2:(f (l[j / sz]'hi))[j % sz]?=some ((f (l[j / sz]'hi))[j % sz]'(by rw[hf];exact hk)):=Wb _;have g3:=GM hf l _ _ _ _ g1 g2;rw[← hjj,h] at g3;refine⟨_,_,_,g1,?_,hjj⟩;rw[g2];exact g3.symm
theorem CJ{w:World}{base:Nat}{e:TypeId}{v:Value}{n:Nat}{l:List α}(hf:∀ c,(f c).length=sz)(hn:l.length=n)(h:w.ownsRow base e sz v n (l.flatMap f)) :
 ∃ a c,v = .slice a n c∧B7 sz f w ⟨a,c,l⟩:=by
 rcases h.2 with ⟨rfl,rfl⟩ | ⟨g,cap,cur,rfl,hg,hheap,hncap,hcm,hsz,htake⟩
 ·obtain rfl:=List.eq_nil_of_length_eq_zero hn;exact⟨none,0,rfl,.inl rfl,Wc _,Nat.zero_le _,fun _=>rfl⟩
 ·refine⟨some ⟨g,0,none⟩,cap,rfl,.inr ⟨g,0,rfl,fun i c hi j v hv=>?_⟩,by dsimp only;omega,hcm,fun h=>by cases h⟩;have hg2:=GM hf l i c j v hi hv;have hlt:i*sz+j<n*sz:=(by rw[← hn,← Cg hf];exact(We.1 hg2).1);rw[Wq];refine A4 hheap _ v ?_;rw[← WW,← hg2,← htake,List.getElem?_take,if_pos hlt]
theorem Eh{w:World}{s:Sl α}(hf:∀ c,(f c).length=sz)(h1:∀ c,∀ u∈f c,u.oneCell'=true)(h:B7 sz f w s):C1 w s.a s.c (s.l.flatMap f):=by
 refine⟨fun ha=>⟨h.capNil ha,?_⟩,?_,?_⟩
 ·rcases h.row with hl | ⟨b,off,hb,_⟩
  ·rw[hl];rfl
  ·rw[ha] at hb;cases hb
 ·intro u hu;obtain⟨c,_,hc⟩:=List.mem_flatMap.1 hu;exact h1 c u hc
 ·intro ad had j u hu;rcases h.row with hl | ⟨b,off,hb,hc⟩
  ·rw[hl] at hu;simp at hu
  ·rw[had] at hb;obtain rfl:=Option.some.inj hb;obtain⟨i,c,k,g1,g2,rfl⟩:=QX hf _ _ _ hu;rw[Addr.add_lit,← Nat.add_assoc];exact hc i c g1 k u g2
end
theorem BD(c:Int):(AT c).length=1:=rfl
theorem F2(c:BA):(Dz c).length=1:=rfl
theorem CA(c:Int × Bool):(CX c).length=2:=rfl
theorem Gq(c:Int):∀ u∈AT c,u.oneCell'=true:=by intro u h;simp[AT] at h;subst h;rfl
theorem Se(c:BA):∀ u∈Dz c,u.oneCell'=true:=by intro u h;simp[Dz] at h;subst h;rfl
theorem Jk(c:Int × Bool):∀ u∈CX c,u.oneCell'=true:=by
 intro u h;simp[CX] at h;rcases h with rfl | rfl<;>rfl
theorem T6(a b:BA):(a.toList == b.toList)=decide (a=b):=by
 by_cases h:a=b
 ·subst h;simp
 ·rw[Wg h];cases hx:(a.toList == b.toList) with
  | false=>rfl
  | true=>exact absurd ((Lib.bytes_beq_iff a b).1 hx) h
attribute [local irreducible] Dy Ax Cv
def fI:Nat→List BA→BA→Int
 | _,[],_=>-1
 | k,y :: t,s=>if y=s then (k:Int) else fI (k+1) t s
theorem Tr:∀(l:List BA) (k:Nat) (s:BA),(0≤fI k l s∧Dy l s=true)∨(fI k l s<0∧Dy l s=false):=by
 intro l
 induction l with
 | nil=>intro k s;exact .inr ⟨by unfold fI;decide,by unfold Dy;rfl⟩
 | cons y l ih=>
   intro k s;by_cases h:y=s
   ·exact .inl ⟨by unfold fI;rw[if_pos h];omega,by unfold Dy;simp[h]⟩
   ·have e1:fI k (y :: l) s=fI (k+1) l s:=by
     show(if y=s then (k:Int) else fI (k+1) l s)=_;rw[if_neg h]
    have e2:Dy (y :: l) s=Dy l s:=(by unfold Dy;simp[h]);rw[e1,e2];exact ih (k+1) s
theorem QU{l:List BA}{s y:BA}{k:Nat}(h:l[k]?=some y)(hy:y≠s):fI k (l.drop k) s=fI (k+1) (l.drop (k+1)) s:=by
 have hk:k<l.length:=(We.1 h).1;rw[List.drop_eq_getElem_cons hk,(We.1 h).2];show(if y=s then (k:Int) else fI (k+1) (l.drop (k+1)) s)=_;rw[if_neg hy]
theorem Tq{l:List BA}{s y:BA}{k:Nat}(h:l[k]?=some y)(hy:y=s):fI k (l.drop k) s=k:=by
 have hk:k<l.length:=(We.1 h).1;rw[List.drop_eq_getElem_cons hk,(We.1 h).2];show(if y=s then (k:Int) else fI (k+1) (l.drop (k+1)) s)=_;rw[if_pos hy]
theorem Tp{l:List BA}{s:BA}{k:Nat}(h:l.length=k):fI k (l.drop k) s = -1:=by rw[List.drop_eq_nil_of_le (by omega)];rfl
attribute [local irreducible] fI
theorem Md(x:Option Addr)(m c:Nat)(l:List BA)(s:BA)(w:World)(hn:l.length=m)(hm:m≤9223372036854775807)(hl:As 1 Dz w x l) :
 Calls Tryz.prog 65 #[.slice x m c,.string s] w fun e w'=>e = .returned (.int .i64 (fI 0 l s))∧w=w':=by
 have HN:=hid hn;clear hn;go_enter Tryz.func65,Tryz.ntmps65;go_wp2_with fail;go_loopg [5] m (fun g i wr=>∃ k:Nat,k+g=m∧i = .int .i64 (k:Int)∧fI k (l.drop k) s=fI 0 l s∧w=wr)
 case atStart=>exact⟨0,by omega,rfl,rfl,rfl⟩
 case round=>
  obtain⟨k,hk,rfl,hb,rfl⟩:=hrel;have HB:=hid hb;clear hb;by_cases hlt:k<m
  ·obtain⟨y,hy⟩:∃ y,l[k]?=some y:=⟨_,Wb (by rw[HN.o];exact hlt)⟩;rcases hl with rfl | ⟨b,off,rfl,hc⟩
   ·simp at hy
   have z0:=hc k y hy 0 _ rfl;rw[Wa,Nat.mul_one] at z0;have HY:=hid hy;have d1:(0:Int)≤k:=(by omega);have d2:(k:Int)<m:=(by omega);have e1:wrap64 ((k:Int)+1)=(k:Int)+1:=(by unfold wrap64;omega);have HK:=hid hk;clear hc hy hk;have hbe:=T6 y s;by_cases hys:y=s
   ·have HF:Hid (fI 0 l s=k):=hid (HB.o.symm.trans (Tq HY.o hys));rw[Wk hys] at hbe;clear hys;go_wp2_with fail;go_ret;exact⟨by rw[HF.o];rfl,rfl⟩
   ·have HT:Hid (fI (k+1) (l.drop (k+1)) s=fI 0 l s):=hid ((QU HY.o hys).symm.trans HB.o);rw[Wg hys] at hbe;clear hys;go_wp2_with fail;go_roundg (m - (k+1))
    case rel=>exact⟨k+1,by have:=HK.o;omega,by go_num,HT.o,rfl⟩
    case measure=>have:=HK.o;omega
  ·have hkm:m=k:=(by omega);subst hkm;have HF:Hid (fI 0 l s = -1):=hid (HB.o.symm.trans (Tp HN.o));go_wp2_with fail;go_ret;exact⟨by rw[HF.o];rfl,rfl⟩
def Hx(n:Nat)(l:List Int):Bool:=decide (l.length≤16) && Ax n l
theorem Ke{n:Nat}{l:List Int}(h:¬ l.length≤16):Hx n l=false:=by unfold Hx;rw[Wg h];rfl
theorem Mf{n:Nat}{l:List Int}{k:Nat}{y:Int}(h:l[k]?=some y)(hx:¬ (0≤y∧y<(n:Int))):Hx n l=false:=by unfold Hx;rw[Ct h hx,WN]
theorem TV(n:Nat)(x:Option Addr)(m c:Nat)(l:List Int)(w:World)(hn:l.length=m)(hm:m≤9223372036854775807)(hl:As 1 AT w x l) :
 Calls Tryz.prog 66 #[.slice x m c,.int .i64 (n:Int)] w fun e w'=>e = .returned (.bool (Hx n l))∧w=w':=by
 have HN:=hid hn;clear hn;go_enter Tryz.func66,Tryz.ntmps66;go_wp2_with fail;go_loopg [5] m (fun g i wr=>∃ k:Nat,k+g=m∧k≤17∧i = .int .i64 (k:Int)∧Ax n (l.take k)=true∧w=wr)
 case atStart=>exact⟨0,by omega,by omega,rfl,by unfold Ax;rfl,rfl⟩
 case round=>
  obtain⟨k,hk,hk17,rfl,hb,rfl⟩:=hrel;have HB:=hid hb;clear hb;by_cases hlt:k<m
  ·by_cases h17:k<17
   ·obtain⟨y,hy⟩:∃ y,l[k]?=some y:=⟨_,Wb (by rw[HN.o];exact hlt)⟩;rcases hl with rfl | ⟨b,off,rfl,hc⟩
    ·simp at hy
    have z0:=hc k y hy 0 _ rfl;rw[Wa,Nat.mul_one] at z0;have HY:=hid hy;have d1:(0:Int)≤k:=(by omega);have d2:(k:Int)<m:=(by omega);have d3:(k:Int)<17:=(by omega);have e1:wrap64 ((k:Int)+1)=(k:Int)+1:=(by unfold wrap64;omega);have HK:=hid hk;clear hc hy hk hk17 h17;by_cases h1:y<0
    ·have HF:=hid (Mf (n:=n) HY.o (by omega));go_wp2_with fail;go_ret;exact⟨by rw[HF.o];rfl,rfl⟩
    by_cases h2:(n:Int)≤y
    ·have HF:=hid (Mf (n:=n) HY.o (by omega));go_wp2_with fail;go_ret;exact⟨by rw[HF.o];rfl,rfl⟩
    ·have HT:Hid (Ax n (l.take (k+1))=true):=hid (by rw[Co HY.o,HB.o,Wk (by omega)];rfl);go_wp2_with fail;go_roundg (m - (k+1))
     case rel=>exact⟨k+1,by have:=HK.o;omega,by omega,by go_num,HT.o,rfl⟩
     case measure=>have:=HK.o;omega
   ·have HF:=hid (Ke (n:=n) (l:=l) (by rw[HN.o];omega));have d2:(k:Int)<m:=(by omega);have d3:¬ (k:Int)<17:=(by omega);have d4:¬ (m:Int)≤16:=(by omega);clear hk17 h17;go_wp2_with fail;go_ret;exact⟨by rw[HF.o];rfl,rfl⟩
  ·have hkm:m=k:=(by omega);subst hkm;have hT:Ax n l=true:=(by have:=HB.o;rwa [Wo (by rw[HN.o];exact Wc _)] at this);by_cases h16:m≤16
   ·have HF:Hid (Hx n l=true):=hid (by unfold Hx;rw[hT,HN.o,Wk h16];rfl);have d4:(m:Int)≤16:=(by omega);clear hT;go_wp2_with fail;go_ret;exact⟨by rw[HF.o];rfl,rfl⟩
   ·have HF:=hid (Ke (n:=n) (l:=l) (by rw[HN.o];omega));have d4:¬ (m:Int)≤16:=(by omega);clear hT;go_wp2_with fail;go_ret;exact⟨by rw[HF.o];rfl,rfl⟩
theorem Hh(B:Bool)(n:Nat)(x:Option Addr)(m c:Nat)(l:List Int)(w:World)(hB:Hx n l=B)(hn:l.length=m)(hm:m≤9223372036854775807)(hl:As 1 AT w x l) :
 Calls Tryz.prog 66 #[.slice x m c,.int .i64 (n:Int)] w fun e w'=>e = .returned (.bool B)∧w=w':=hB ▸ TV n x m c l w hn hm hl
theorem R9(n:Nat)(x:Int):Hx n [x]=decide (0≤x∧x<(n:Int)):=by unfold Hx;rw[GB];rfl
theorem Fy(n:Nat)(x:Int)(w:World)(g:Nat)(t:TypeId)(fr:Nat × Nat)(h:w.heap[g]?=some (.cells #[.int .i64 x] t fr)):Calls Tryz.prog 66 #[.slice (some ⟨g,0,none⟩) 1 1,.int .i64 (n:Int)] w fun e w'=>e = .returned (.bool (decide (0≤x∧x<(n:Int))))∧w=w':=
 Hh _ n _ 1 1 [x] _ (R9 n x) rfl (by omega) (MG h)
theorem DU:(Tryz.prog.info? 3).map (fun i=>(i.zero,i.size,i.bytes))=some (some (.int .i64 0),1,8):=by kernel_rfl
theorem OS:(Tryz.prog.info? 9).map (fun i=>(i.zero,i.size,i.bytes))=some (some (.string ⟨#[]⟩),1,16):=by kernel_rfl
theorem Eg{w:World}{g:Nat}{t:TypeId}{fr:Nat × Nat}{u:Value}(h1:u.oneCell'=true)(h:w.heap[g]?=some (.cells #[u] t fr)):C1 w (some ⟨g,0,none⟩) 1 [u]:=by
 refine⟨fun h=>(by cases h),fun v hv=>?_,fun ad had j v hv=>?_⟩
 ·simp at hv;subst hv;exact h1
 ·obtain rfl:=Option.some.inj had;have hj:j<1:=(We.1 hv).1;obtain rfl:j=0:=(by omega);simp at hv;subst hv;rw[Addr.add_lit];exact A4 h 0 _ rfl
end
end Go.Proofs.YtpohoannggdbjaaGreat
