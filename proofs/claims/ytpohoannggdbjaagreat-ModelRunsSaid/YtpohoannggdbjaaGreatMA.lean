/- Merged: Base, Base2, Obj, Read, Read2, Calm, Append, Grow, Pw, BitsP, PwF, Rel, IxCm, To, ToA, ToB, ToC, ToD, ToE. -/
import Derived.WalkKit
import Derived.WalkSpells
import Derived.WalkLawsBesides
import Derived.Outline
import Derived.Lib.Hide
import Derived.OpenShut
import Derived.ProofKit
import Derived.ShutString
import Derived.ChangeOld
import Derived.Laws.StructEq
import Derived.Deep.QuietTactic
import Derived.BigQuiet
import Derived.Laws.OwnMore
import Derived.OwnWalk
import Derived.Deep.RegionLaw
import Derived.Laws.BitsAllLaws
import Derived.Laws.ShiftsVarLaws
import Derived.OrdersHeld
import Derived.RegionTactic
import Derived.Test.YtpohoannggdbjaaGreatProg
import Derived.IntWalk
import Derived.Laws.RangeAny
import Derived.LoopTactic
import Derived.MapKept
import Derived.Deep.DeepCutAuto
import Derived.Deep.CutBlock
import Derived.Deep.LoopGhost
import Derived.Lib.SlicesS
namespace Go.Proofs.YtpohoannggdbjaaGreat
open Lib (hid)
open Go.RowKit
theorem BJ{a b:Bool}(h:a=b):Ending.returned (.bool a) = .returned (.bool b):=by rw[h]
def CY(w:World)(a:Option Addr)(l:List Nat):Prop:=
 (∀ c∈l,c<256)∧(l=[]∨∃ b off,a=some ⟨b,off,none⟩∧∀ i,i<l.length→w.cell? ⟨b,off+i,none⟩=some (.int .u8 ((l.getD i 0:Nat):Int)))
def GH(k:IntKind)(w:World)(a:Option Addr)(len cap:Nat)(zs:List Int):Prop:=
 (a=none∧len=0∧cap=0∧zs=[])∨
 ∃ x,a=some x∧len≤cap∧cap≤maxLen∧zs.length=cap∧(∀ i,i<zs.length→w.cell? (x.add i)=some (.int k (zs.getD i 0)))∧∀ n∈zs,(Lit.int k n).wf=true
theorem GH.capNil{k:IntKind}{w:World}{a:Option Addr}{len cap:Nat}{zs:List Int}(h:GH k w a len cap zs):a=none→cap=0:=by
 rintro rfl;rcases h with ⟨_,_,h,_⟩ | ⟨x,h,_⟩
 ·exact h
 ·cases h
theorem GH.cap{k:IntKind}{w:World}{a:Option Addr}{len cap:Nat}{zs:List Int}(h:GH k w a len cap zs):len≤cap∧cap≤maxLen:=by
 rcases h with ⟨_,rfl,rfl,_⟩ | ⟨x,_,h1,h2,_⟩
 ·exact⟨Nat.le_refl _,Nat.zero_le _⟩
 ·exact⟨h1,h2⟩
theorem GH.bytes{w:World}{a:Option Addr}{len cap:Nat}{zs:List Int}(h:GH .u8 w a len cap zs):∃ l:List Nat,l.length=len∧len≤maxLen∧CY w a l:=by
 rcases h with ⟨rfl,rfl,rfl,rfl⟩ | ⟨x,rfl,hl,hm,hz,hcell,hwz⟩
 ·exact⟨[],rfl,Nat.zero_le _,by simp,.inl rfl⟩
 ·refine⟨(zs.take len).map Int.toNat,by simp;omega,Nat.le_trans hl hm,?_,?_⟩
  ·intro c hc;obtain⟨z,hz1,rfl⟩:=List.mem_map.1 hc;have:=bounds_u8 (hwz z (List.mem_of_mem_take hz1));omega
  ·rcases Nat.eq_zero_or_pos len with rfl | hpos
   ·left;simp
   ·right;obtain⟨b,off,spot⟩:=x;have h0:=hcell 0 (by omega);have hs:spot=none:=by simpa [Addr.add] using World.cell?_spot h0
    subst hs;refine⟨b,off,rfl,fun i hi=>?_⟩;have hi':i<len:=by simpa [hz,Nat.min_eq_left hl] using hi
    have hci:=hcell i (by omega);have hb:=bounds_u8 (hwz (zs.getD i 0) (by rw[List.getD_eq_getElem?_getD,List.getElem?_eq_getElem (show i<zs.length by omega)];exact List.getElem_mem _));have e:((zs.take len).map Int.toNat).getD i 0=(zs.getD i 0).toNat:=by
     simp[List.getD_eq_getElem?_getD,hi',show i<zs.length by omega]
    rw[e,show((zs.getD i 0).toNat:Int)=zs.getD i 0 by omega];rw[Addr.add_lit] at hci;exact hci
def FI(k:IntKind)(B:Nat)(w:World)(a:Option Addr)(l:List Nat):Prop:=
 (∀ c∈l,c<B)∧(l=[]∨∃ b off,a=some ⟨b,off,none⟩∧∀ i,i<l.length→w.cell? ⟨b,off+i,none⟩=some (.int k ((l.getD i 0:Nat):Int)))
theorem CY.take{w:World}{a:Option Addr}{l:List Nat}(h:CY w a l)(n:Nat):CY w a (l.take n):=by
 refine⟨fun c hc=>h.1 c (List.mem_of_mem_take hc),?_⟩;rcases h.2 with rfl | ⟨b,off,rfl,hc⟩
 ·left;simp
 ·right;refine⟨b,off,rfl,fun i hi=>?_⟩;have hi2:i<n∧i<l.length:=by rw[List.length_take] at hi;omega
  rw[hc i hi2.2];simp[List.getD_eq_getElem?_getD,hi2.1]
theorem FI.below{k:IntKind}{B:Nat}{w w':World}{a:Option Addr}{l:List Nat}(hb:Below w.heap.size w w')(h:FI k B w a l):FI k B w' a l:=by
 refine⟨h.1,h.2.imp id ?_⟩;rintro⟨b,off,rfl,hc⟩;exact⟨b,off,rfl,fun i hi=>cell_later hb (hc i hi)⟩
theorem FI.at{k:IntKind}{B:Nat}{w:World}{a:Option Addr}{l:List Nat}(h:FI k B w a l){i:Nat}(hi:i<l.length) :
 ∃ b off c,a=some ⟨b,off,none⟩∧l[i]?=some c∧c<B∧w.cell? ⟨b,off+i,none⟩=some (.int k (c:Int)):=by
 obtain⟨b,off,rfl,hc⟩:=h.2.resolve_left (by rintro rfl;simp at hi);refine⟨b,off,l[i],rfl,List.getElem?_eq_getElem hi,h.1 _ (List.getElem_mem hi),?_⟩;rw[hc i hi,List.getD_eq_getElem?_getD,List.getElem?_eq_getElem hi];rfl
theorem CY.below{w w':World}{a:Option Addr}{l:List Nat}(hb:Below w.heap.size w w')(h:CY w a l):CY w' a l:=by
 refine⟨h.1,h.2.imp id ?_⟩;rintro⟨b,off,rfl,hc⟩;exact⟨b,off,rfl,fun i hi=>cell_later hb (hc i hi)⟩
theorem JM{a b c:World}{B:Nat}(h:Below B a b)(hB:B≤b.heap.size)(k:Below b.heap.size b c):Below B a c:=h.trans (k.mono hB)
theorem A8{a b c:World}(h:Below a.heap.size a b)(k:Below b.heap.size b c):Below a.heap.size a c:=h.trans (k.mono h.size)
theorem Di{w w':World}(h:Below w.heap.size w w'):w.grownBy w' none:=⟨h.os,h.tape,h.output,h.size,fun k hk _=>h.block k hk⟩
theorem Bu{w w':World}{base:Nat}{e:TypeId}{size:Nat}{v:Value}{n:Nat}{xs:List Value}(hb:Below w.heap.size w w')(h:w.ownsRow base e size v n xs):w'.ownsRow base e size v n xs:=
 h.kept (Di hb) (by cases hv:v.ownBlock<;>simp)
theorem A5{w w':World}{g:Nat}{o:Obj}(hb:Below w.heap.size w w')(h:w.heap[g]?=some o):w'.heap[g]?=some o:=by
 have hg:g<w.heap.size:=(Array.getElem?_eq_some_iff.1 h).1;rw[hb.block g hg,h]
theorem A4{w:World}{g:Nat}{cs:Array Value}{t:TypeId}{fr:Nat × Nat}(h:w.heap[g]?=some (.cells cs t fr))(i:Nat)(v:Value)(hi:cs[i]?=some v):w.cell? ⟨g,i,none⟩=some v:=by simp[World.cell?,h,hi]
theorem An{w:World}{g:Nat}{cs:Array Value}{t:TypeId}(h:w.heap[g]?=some (.cells cs t (0,0)))(i:Nat):w.frozen? ⟨g,i,none⟩=false:=by simp[World.frozen?,h]
theorem Ot(w:World)(A B:Obj)(n:Nat):(((w.alloc A).alloc B).drewN n).heap[w.heap.size]?=some A∧(((w.alloc A).alloc B).drewN n).heap[w.heap.size+1]?=some B:=by
 constructor
 ·show((w.heap.push A).push B)[w.heap.size]?=some A;simp[Array.getElem?_push]
 ·show((w.heap.push A).push B)[w.heap.size+1]?=some B;rw[Array.getElem?_push,if_pos (by simp)]
theorem C1(w:World)(A B:Obj):Below w.heap.size w ((w.alloc A).alloc B):=((Below.refl _ _).alloc (Nat.le_refl _) _).alloc (by simp) _
def Ek(w:World)(g:Nat)(l:List Nat):Prop:=
 (∀ c∈l,c<256)∧(∀ i,i<l.length→w.cell? ⟨g,i,none⟩=some (.int .u8 ((l.getD i 0:Nat):Int)))∧∀ i,i<l.length→w.frozen? ⟨g,i,none⟩=false
theorem Ek.bytes{w:World}{g:Nat}{l:List Nat}(h:Ek w g l):CY w (some ⟨g,0,none⟩) l:=
 ⟨h.1,.inr ⟨g,0,rfl,fun i hi=>by rw[Nat.zero_add];exact h.2.1 i hi⟩⟩
theorem Ek.below{w w':World}{g:Nat}{l:List Nat}(hb:Below w.heap.size w w')(h:Ek w g l):Ek w' g l:=by
 refine⟨h.1,fun i hi=>cell_later hb (h.2.1 i hi),fun i hi=>?_⟩;have hlt:g<w.heap.size:=World.block_lt_of_cell? _ ⟨g,i,none⟩ (h.2.1 i hi);rw[hb.frozen (p:=⟨g,i,none⟩) hlt];exact h.2.2 i hi
theorem Ek.store{w:World}{g:Nat}{l:List Nat}(h:Ek w g l){k v:Nat}(hk:k<l.length)(hv:v<256):Ek (w.setCell ⟨g,k,none⟩ (.int .u8 (v:Int))) g (l.set k v):=by
 refine⟨?_,fun i hi=>?_,fun i hi=>?_⟩
 ·intro c hc;rcases List.mem_or_eq_of_mem_set hc with hc | rfl
  ·exact h.1 c hc
  ·exact hv
 ·rw[List.length_set] at hi;by_cases hik:i=k
  ·subst hik;rw[World.cell?_setCell_same _ _ _ (h.2.1 i hi)];simp[List.getD_eq_getElem?_getD,hi]
  ·rw[World.cell?_setCell_other _ _ _ _ (by intro h;cases h;exact hik rfl),h.2.1 i hi];simp[List.getD_eq_getElem?_getD,List.getElem?_set_ne (show k≠i by omega)]
 ·rw[List.length_set] at hi;rw[World.frozen?_setCell];exact h.2.2 i hi
theorem Ek.lt{w:World}{g:Nat}{l:List Nat}(h:Ek w g l)(hpos:0<l.length):g<w.heap.size:=World.block_lt_of_cell? _ ⟨g,0,none⟩ (h.2.1 0 hpos)
theorem Ek.drewN{w:World}{g:Nat}{l:List Nat}(h:Ek w g l)(n:Nat):Ek (w.drewN n) g l:=h
theorem Ek.drew{w:World}{g:Nat}{l:List Nat}(h:Ek w g l):Ek w.drew g l:=h
theorem Ac(w:World)(o:Obj):Below w.heap.size w (w.alloc o):=(Below.refl _ _).alloc (Nat.le_refl _) o
end Go.Proofs.YtpohoannggdbjaaGreat
namespace Go.Proofs.YtpohoannggdbjaaGreat
open Lib (hid)
open Go.RowKit
theorem Ao(w:World)(A:Obj){w1:World}(hb:Below (w.alloc A).heap.size (w.alloc A) w1):w1.heap[w.heap.size]?=some A:=by
 rw[hb.block w.heap.size (by simp)];show(w.heap.push A)[w.heap.size]?=some A;simp
theorem De(w:World)(A B:Obj):((w.alloc A).alloc B).heap[w.heap.size]?=some A∧((w.alloc A).alloc B).heap[w.heap.size+1]?=some B:=by
 constructor
 ·show((w.heap.push A).push B)[w.heap.size]?=some A;simp[Array.getElem?_push]
 ·show((w.heap.push A).push B)[w.heap.size+1]?=some B;rw[Array.getElem?_push,if_pos (by simp)]
end Go.Proofs.YtpohoannggdbjaaGreat
namespace Go.Proofs.YtpohoannggdbjaaGreat
open Lib (hid)
open Go.RowKit
structure Ag(g:Nat)(w w':World):Prop where
 os:w'.os=w.os
 tape:w'.tape=w.tape
 output:w'.output=w.output
 size:w.heap.size≤w'.heap.size
 block:∀ k,k<w.heap.size→k≠g→w'.heap[k]?=w.heap[k]?
theorem Ag.refl(g:Nat)(w:World):Ag g w w:=⟨rfl,rfl,rfl,Nat.le_refl _,fun _ _ _=>rfl⟩
theorem Ag.trans{g:Nat}{a b c:World}(h:Ag g a b)(k:Ag g b c):Ag g a c:=
 ⟨k.os.trans h.os,k.tape.trans h.tape,k.output.trans h.output,Nat.le_trans h.size k.size,fun i hi hg=>(k.block i (Nat.lt_of_lt_of_le hi h.size) hg).trans (h.block i hi hg)⟩
theorem Ag.of_below{g:Nat}{w w':World}(h:Below w.heap.size w w'):Ag g w w':=⟨h.os,h.tape,h.output,h.size,fun k hk _=>h.block k hk⟩
theorem Ag.drew{g:Nat}{a w:World}(h:Ag g a w):Ag g a w.drew:=⟨h.os,h.tape,h.output,h.size,h.block⟩
theorem Ag.drewN{g:Nat}{a w:World}(h:Ag g a w)(n:Nat):Ag g a (w.drewN n):=⟨h.os,h.tape,h.output,h.size,h.block⟩
theorem Ag.alloc{g:Nat}{a w:World}(h:Ag g a w)(o:Obj):Ag g a (w.alloc o):=h.trans (Ag.of_below (Ac w o))
theorem Ag.setCell{g:Nat}{a w:World}(h:Ag g a w){p:Addr}(hp:p.block=g)(u:Value):Ag g a (w.setCell p u):=
 h.trans ⟨((Below.refl 0 w).setCell (p:=p) (Nat.zero_le _) u).os,((Below.refl 0 w).setCell (p:=p) (Nat.zero_le _) u).tape,((Below.refl 0 w).setCell (p:=p) (Nat.zero_le _) u).output,
  ((Below.refl 0 w).setCell (p:=p) (Nat.zero_le _) u).size,fun k _ hk=>Below.heap_setCell w p u k (by rw[hp];exact hk)⟩
theorem Ag.below{g B:Nat}{a w w':World}(h:Below B a w)(hB:B≤g)(hs:B≤w.heap.size)(k:Ag g w w'):Below B a w':=
 ⟨k.os.trans h.os,k.tape.trans h.tape,k.output.trans h.output,Nat.le_trans h.size k.size,fun i hi=>(k.block i (Nat.lt_of_lt_of_le hi hs) (by omega)).trans (h.block i hi)⟩
theorem Ag.keep{g k:Nat}{w w':World}{o:Obj}(h:Ag g w w')(hk:k≠g)(hb:w.heap[k]?=some o):w'.heap[k]?=some o:=by
 rw[h.block k (Array.getElem?_eq_some_iff.1 hb).1 hk,hb]
theorem Af{w:World}{g:Nat}{o:Obj}(h:w.heap[g]?=some o):g<w.heap.size:=(Array.getElem?_eq_some_iff.1 h).1
theorem AH{w:World}{g:Nat}{cs:Array Value}{t:TypeId}{fr:Nat × Nat}(h:w.heap[g]?=some (.cells cs t fr))(i:Nat)(v:Value):(w.setCell ⟨g,i,none⟩ v).heap[g]?=some (.cells (cs.setIfInBounds i v) t fr):=by
 show(w.heap.modify g _)[g]?=_;rw[Array.getElem?_modify,if_pos rfl,h];rfl
theorem Gv{w:World}{g k:Nat}{o:Obj}(h:w.heap[g]?=some o)(i:Nat)(v:Value)(hk:k≠g):(w.setCell ⟨k,i,none⟩ v).heap[g]?=some o:=by
 rw[Below.heap_setCell _ _ _ _ (fun e=>hk e.symm)];exact h
end Go.Proofs.YtpohoannggdbjaaGreat
namespace Go.Proofs.YtpohoannggdbjaaGreat
open Lib (hid)
open Go.RowKit
def Rd(P:Program)(w:World)(t:TypeId)(cs:List Value):Prop:=
 ∃(H:Type) (enc:TypeId × Value→H) (fuel:Nat) (d:DataW H) (ps:List MemPlace),DataW.trod enc P w 0 (fun _=>true) true fuel t cs=some (d,ps)
theorem Rd.int{P:Program}{w:World}{t:TypeId}{cs:List Value}{k:IntKind}(hu:P.underlying t=some (.int k))(h:Rd P w t cs):∃ n,cs=[.int k n]∧(Lit.int k n).wf=true:=by
 obtain⟨H,enc,fuel,d,ps,h⟩:=h;cases fuel with
 | zero=>simp[DataW.trod] at h
 | succ fuel=>
   simp only[DataW.trod,hu] at h;split at h<;>simp_all
theorem Rd.bool{P:Program}{w:World}{t:TypeId}{cs:List Value}(hu:P.underlying t=some .bool)(h:Rd P w t cs):∃ b,cs=[.bool b]:=by
 obtain⟨H,enc,fuel,d,ps,h⟩:=h;cases fuel with
 | zero=>simp[DataW.trod] at h
 | succ fuel=>
   simp only[DataW.trod,hu] at h;split at h<;>simp_all
theorem Rd.str{P:Program}{w:World}{t:TypeId}{cs:List Value}(hu:P.underlying t=some .string)(h:Rd P w t cs):∃ s,cs=[.string s]∧s.size≤maxLen:=by
 obtain⟨H,enc,fuel,d,ps,h⟩:=h;cases fuel with
 | zero=>simp[DataW.trod] at h
 | succ fuel=>
   simp only[DataW.trod,hu] at h;split at h<;>simp_all
theorem DW{α β:Type}{f:α→Option β}:∀ {l:List α} {ys:List β},l.mapM f=some ys→ys.length=l.length∧∀(i:Nat) (x:α),l[i]?=some x→∃ y,ys[i]?=some y∧f x=some y:=by
 intro l
 induction l with
 | nil=>intro ys h;simp at h;subst h;simp
 | cons a l ih=>
   intro ys h;rw[List.mapM_cons] at h;cases ha:f a with
   | none=>simp[ha] at h
   | some b=>
     cases hl:l.mapM f with
     | none=>simp[ha,hl] at h
     | some bs=>
       simp[ha,hl] at h;subst h;obtain⟨h1,h2⟩:=ih hl;refine⟨by simp[h1],fun i x hx=>?_⟩;cases i with
       | zero=>simp at hx;subst hx;exact⟨b,rfl,ha⟩
       | succ i=>simpa using h2 i x (by simpa using hx)
theorem H3{w:World}{base:Nat}{a:Addr}{n:Nat}{cs:List Value}(h:w.cells? base a n=some cs):cs.length=n∧∀ j,j<n→∃ v,cs[j]?=some v∧w.cell? (a.add j)=some v:=by
 unfold World.cells? at h;split at h
 ·obtain⟨h1,h2⟩:=DW h;refine⟨by simpa using h1,fun j hj=>?_⟩;exact h2 j j (by simp[hj])
 ·cases h
theorem Rd.slice{P:Program}{w:World}{t e:TypeId}{cs:List Value}(hu:P.underlying t=some (.slice e))(h:Rd P w t cs) :
 cs=[.slice none 0 0]∨∃ a len cap,cs=[.slice (some a) len cap]∧len≤cap∧cap≤maxLen∧
  ∀ i,i<cap→∃ ecs,w.cells? 0 (a.add (i*P.cellsOf e)) (P.cellsOf e)=some ecs∧Rd P w e ecs:=by
 obtain⟨H,enc,fuel,d,ps,h⟩:=h;cases fuel with
 | zero=>simp[DataW.trod] at h
 | succ fuel=>
   simp only[DataW.trod,hu] at h;split at h<;>try (simp_all;done)
   ·rename_i e' a len cap heq
    simp only[Option.some.injEq] at heq;obtain rfl:e=e':=by simpa using heq
    right;refine⟨a,len,cap,rfl,?_⟩;split at h
    ·rename_i hc
     simp only[if_true] at h;cases h1:(List.range len).mapM (fun i=>(w.cells? 0 (a.add (i*P.cellsOf e)) (P.cellsOf e)).bind (DataW.trod enc P w 0 (fun _=>true) true fuel e)) with
     | none=>simp[h1] at h
     | some elems=>
       cases h2:(List.range (cap - len)).mapM (fun j=>(w.cells? 0 (a.add ((len+j)*P.cellsOf e)) (P.cellsOf e)).bind (DataW.trod enc P w 0 (fun _=>true) true fuel e)) with
       | none=>simp[h1,h2] at h
       | some rest=>
         refine⟨hc.2.1,hc.2.2,fun i hi=>?_⟩;have key:∃ y,(w.cells? 0 (a.add (i*P.cellsOf e)) (P.cellsOf e)).bind (DataW.trod enc P w 0 (fun _=>true) true fuel e)=some y:=by
          rcases Nat.lt_or_ge i len with hil | hil
          ·obtain⟨y,_,hy⟩:=(DW h1).2 i i (by simp[hil]);exact⟨y,hy⟩
          ·obtain⟨y,_,hy⟩:=(DW h2).2 (i - len) (i - len) (List.getElem?_range (by omega));rw[show len+(i - len)=i by omega] at hy;exact⟨y,hy⟩
         obtain⟨y,hy⟩:=key;cases hcs:w.cells? 0 (a.add (i*P.cellsOf e)) (P.cellsOf e) with
         | none=>simp[hcs] at hy
         | some ecs=>exact⟨ecs,rfl,H,enc,fuel,y.1,y.2,by simpa [hcs] using hy⟩
    ·cases h
theorem Rd.struct{P:Program}{w:World}{t:TypeId}{fs:Array Field}{cs:List Value}(hu:P.underlying t=some (.struct fs))(h:Rd P w t cs) :
 cs.length=P.cellsOf t∧∀ f,f∈fs.toList→Rd P w f.type ((cs.drop f.offset).take (P.cellsOf f.type)):=by
 obtain⟨H,enc,fuel,d,ps,h⟩:=h;cases fuel with
 | zero=>simp[DataW.trod] at h
 | succ fuel=>
   simp only[DataW.trod,hu] at h;split at h
   ·rename_i hl
    refine⟨hl,fun f hf=>?_⟩;cases hm:fs.toList.mapM (fun f=>DataW.trod enc P w 0 (fun _=>true) true fuel f.type ((cs.drop f.offset).take (P.cellsOf f.type))) with
    | none=>simp[hm] at h
    | some xs=>
      obtain⟨i,hi⟩:=List.getElem?_of_mem hf;obtain⟨y,_,hy⟩:=(DW hm).2 i f hi;exact⟨H,enc,fuel,y.1,y.2,hy⟩
   ·cases h
theorem Rd.array{P:Program}{w:World}{t e:TypeId}{n:Nat}{cs:List Value}(hu:P.underlying t=some (.array n e))(h:Rd P w t cs) :
 cs.length=P.cellsOf t∧∀ i,i<n→Rd P w e ((cs.drop (i*P.cellsOf e)).take (P.cellsOf e)):=by
 obtain⟨H,enc,fuel,d,ps,h⟩:=h;cases fuel with
 | zero=>simp[DataW.trod] at h
 | succ fuel=>
   simp only[DataW.trod,hu] at h;split at h
   ·rename_i hl
    refine⟨hl,fun i hi=>?_⟩;cases hm:(List.range n).mapM (fun i=>DataW.trod enc P w 0 (fun _=>true) true fuel e ((cs.drop (i*P.cellsOf e)).take (P.cellsOf e))) with
    | none=>simp[hm] at h
    | some xs=>
      obtain⟨y,_,hy⟩:=(DW hm).2 i i (by simp[hi]);exact⟨H,enc,fuel,y.1,y.2,hy⟩
   ·cases h
end Go.Proofs.YtpohoannggdbjaaGreat
namespace Go.Proofs.YtpohoannggdbjaaGreat
open Lib (hid)
open Go.RowKit
theorem KJ{α:Type}{Q:Nat→α→Prop}:∀(n:Nat),(∀ i,i<n→∃ c,Q i c)→∃ l:List α,l.length=n∧∀(i:Nat) (c:α),l[i]?=some c→Q i c:=by
 intro n
 induction n with
 | zero=>intro _;exact⟨[],rfl,fun i c h=>by simp at h⟩
 | succ n ih=>
   intro h;obtain⟨l,hl,hq⟩:=ih fun i hi=>h i (by omega)
   obtain⟨c,hc⟩:=h n (by omega);refine⟨l ++ [c],by simp[hl],fun i d hd=>?_⟩;rcases Nat.lt_or_ge i n with hi | hi
   ·rw[List.getElem?_append_left (by omega)] at hd;exact hq i d hd
   ·have hin:i=n:=by
     have:=(List.getElem?_eq_some_iff.1 hd).1;simp[hl] at this;omega
    subst hin;rw[List.getElem?_append_right (by omega),hl,Nat.sub_self] at hd;simp at hd;subst hd;exact hc
theorem Rd.fields{P:Program}{w:World}{t:TypeId}{cs:List Value}{L:List (TypeId × Nat)}(hu:P.underlying t=some (.struct (P.fieldsOf t)))(hL:(P.fieldsOf t).toList.map (fun f=>(f.type,f.offset))=L)(h:Rd P w t cs) :
 cs.length=P.cellsOf t∧∀ x∈L,Rd P w x.1 ((cs.drop x.2).take (P.cellsOf x.1)):=by
 obtain⟨h1,h2⟩:=h.struct hu;refine⟨h1,fun x hx=>?_⟩;rw[← hL] at hx;obtain⟨f,hf,rfl⟩:=List.mem_map.1 hx;exact h2 f hf
theorem Gs{α:Type}{c:Array α}{l:List α}(h:c.toList=l):c=l.toArray:=by rw[← h]
end Go.Proofs.YtpohoannggdbjaaGreat
namespace Go.Proofs.YtpohoannggdbjaaGreat
open Lib (hid)
open Go.RowKit
theorem Ae{P:Program}{id:Nat}{Q:Exit→Act→World→Prop}{a:Act}{w:World}{l:List Oper}(hm:P.follows .mixedOrders=true)(hB:Region.lexB .any l.toArray=true)
 (h:wpQuiet P l.toArray (fun w'=>Below w.heap.size w w') (fun a'=>∀ w',Below w.heap.size w w'→Q .normal a' w') l a):(Code.region id l.toArray true).wp P Q a w:=
 wp_region_quiet (C:=fun w'=>Below w.heap.size w w') hm hB (Below.refl _ w).drew (by simpa using h)
end Go.Proofs.YtpohoannggdbjaaGreat
namespace Go.Proofs.YtpohoannggdbjaaGreat
open Lib (hid)
open Go.RowKit
def Co(w:World)(a:Option Addr)(c:Nat)(news:List Value):Prop:=
 (a=none→c=0∧news=[])∧(∀ u∈news,u.oneCell'=true)∧∀ ad,a=some ad→∀ j u,news[j]?=some u→w.cell? (ad.add j)=some u
theorem E4{P:Program}(w:World)(base:Nat)(t ty e:TypeId)(i:TypeInfo)(z:Value)(sz bytes:Nat)(ht:P.underlying t=some (.slice e))(hi:P.info? e=some i)(hz:i.zero=some z)
 (hsize:i.size=sz) (hby:i.bytes=bytes) (hzs:z.cells.size=sz) (hsz:0<sz) (v:Value) (n:Nat) (xs:List Value) (hown:w.ownsRow base e sz v n xs)
 (ao:Option Addr) (m c:Nat) (news:List Value) (hl:news.length=m*sz) (hsrc:Co w ao c news) (h63:n+m≤maxLen) (hbytes:(n+m)*bytes≤140737488355328) (hbase:base≤w.heap.size) :
 ∃ v' w',(Builtin.append_ #[t,t] ty #[v,.slice ao m c]).run P w = .ok v' w'∧w'.ownsRow base e sz v' (n+m) (xs ++ news)∧w.grownBy w' v.ownBlock:=by
 obtain⟨s1,s2,s3⟩:=hsrc;cases ao with
 | none=>
   obtain⟨rfl,rfl⟩:=s1 rfl;obtain rfl:m=0:=by
    rcases Nat.eq_zero_or_pos m with h | h
    ·exact h
    ·have:=Nat.mul_pos h hsz;simp at hl;omega
   have hrun:=run_append_owned_none (P:=P) w base t ty e i sz ht hi v n xs hown;exact⟨v,w,hrun,by simpa using hown,⟨rfl,rfl,rfl,Nat.le_refl _,fun _ _ _=>rfl⟩⟩
 | some ad=>
   obtain⟨v',w',h1,h2,h3,_⟩:=run_append_own (P:=P) w base t ty e i z sz bytes ht hi hz hsize hby hzs hsz v n xs hown ad m c news hl (s3 ad rfl) s2 h63 hbytes hbase;exact⟨v',w',h1,h2,h3⟩
theorem En{P:Program}{w:World}{o:Oper}{a:Act}{K:Act→World→Prop}{Q:Exit→Act→World→Prop}(s x:Operand)(t:TypeId)
 (ho:o.op = .call { callee:=.builtin .append,args := #[s,x],argTypes := #[t,t] })
 (base:Nat) (e:TypeId) (i:TypeInfo) (z:Value) (sz bytes:Nat) (ht:P.underlying t=some (.slice e)) (hi:P.info? e=some i) (hz:i.zero=some z)
 (hsize:i.size=sz) (hby:i.bytes=bytes) (hzs:z.cells.size=sz) (hsz:0<sz) (v:Value) (n:Nat) (xs:List Value) (hs:a.eval s=v) (hown:w.ownsRow base e sz v n xs)
 (ao:Option Addr) (m c:Nat) (news:List Value) (hx:a.eval x = .slice ao m c) (hl:news.length=m*sz) (hsrc:Co w ao c news) (h63:n+m≤maxLen) (hbytes:(n+m)*bytes≤140737488355328) (hbase:base≤w.heap.size)
 (h:∀ v' w',w'.ownsRow base e sz v' (n+m) (xs ++ news)→w.grownBy w' v.ownBlock→K (a.put o.dst v') w'):o.wp P a w K Q:=by
 obtain⟨v',w',hr,h2,h3⟩:=E4 (P:=P) w base t o.type e i z sz bytes ht hi hz hsize hby hzs hsz v n xs hown ao m c news hl hsrc h63 hbytes hbase;unfold Oper.wp execOp;simp only[ho,resolve,invoke,builtin,Sem.run_bind,Sem.run_pure,Result.andThen_ok,List.map_toArray,List.map_cons,List.map_nil,hs,hx,hr];exact h v' w' h2 h3
theorem AC{P:Program}{w:World}{ops:Array Oper}{rest:List Oper}{o:Oper}{a:Act}{Q:Exit→Act→World→Prop}(hgd:o.guard=none)(s x:Operand)(t:TypeId)
 (ho:o.op = .call { callee:=.builtin .append,args := #[s,x],argTypes := #[t,t] })
 (base:Nat) (e:TypeId) (i:TypeInfo) (z:Value) (sz bytes:Nat) (ht:P.underlying t=some (.slice e)) (hi:P.info? e=some i) (hz:i.zero=some z)
 (hsize:i.size=sz) (hby:i.bytes=bytes) (hzs:z.cells.size=sz) (hsz:0<sz) (v:Value) (n:Nat) (xs:List Value) (hs:a.eval s=v) (hown:w.ownsRow base e sz v n xs)
 (ao:Option Addr) (m c:Nat) (news:List Value) (hx:a.eval x = .slice ao m c) (hl:news.length=m*sz) (hsrc:Co w ao c news) (h63:n+m≤maxLen) (hbytes:(n+m)*bytes≤140737488355328) (hbase:base≤w.heap.size)
 (h:∀ v' w',w'.ownsRow base e sz v' (n+m) (xs ++ news)→w.grownBy w' v.ownBlock→wpList P ops Q rest (a.put o.dst v') w'):wpList P ops Q (o :: rest) a w:=
 wpList_plain hgd fun _ hK=>En s x t ho base e i z sz bytes ht hi hz hsize hby hzs hsz v n xs hs hown ao m c news hx hl hsrc h63 hbytes hbase fun v' w' h2 h3=>hK _ _ (h v' w' h2 h3)
theorem Fm{P:Program}{w:World}{ops:Array Oper}{o:Oper}{a:Act}{K:Act→World→Prop}{Q:Exit→Act→World→Prop}{E:Prop}(hgd:o.guard=none)(s x:Operand)(t:TypeId)
 (ho:o.op = .call { callee:=.builtin .append,args := #[s,x],argTypes := #[t,t] })
 (base:Nat) (e:TypeId) (i:TypeInfo) (z:Value) (sz bytes:Nat) (ht:P.underlying t=some (.slice e)) (hi:P.info? e=some i) (hz:i.zero=some z)
 (hsize:i.size=sz) (hby:i.bytes=bytes) (hzs:z.cells.size=sz) (hsz:0<sz) (v:Value) (n:Nat) (xs:List Value) (hs:a.eval s=v) (hown:w.ownsRow base e sz v n xs)
 (ao:Option Addr) (m c:Nat) (news:List Value) (hx:a.eval x = .slice ao m c) (hl:news.length=m*sz) (hsrc:Co w ao c news) (h63:n+m≤maxLen) (hbytes:(n+m)*bytes≤140737488355328) (hbase:base≤w.heap.size)
 (h:∀ v' w',w'.ownsRow base e sz v' (n+m) (xs ++ news)→w.grownBy w' v.ownBlock→K (a.put o.dst v') w') :
 if Region.wanted o (yielded ops a.tmps)=true then Oper.wp P o a w K Q else E:=by
 have hw:Region.wanted o (yielded ops a.tmps)=true:=by simp[Region.wanted,hgd]
 rw[if_pos hw];exact En s x t ho base e i z sz bytes ht hi hz hsize hby hzs hsz v n xs hs hown ao m c news hx hl hsrc h63 hbytes hbase h
def DV(l:List Nat):List Value:=l.map fun(n:Nat)=>Value.int .u8 (n:Int)
theorem I1(l:List Nat)(i:Nat)(h:i<l.length):(DV l)[i]?=some (.int .u8 ((l.getD i 0:Nat):Int)):=by
 simp[DV,h,List.getD_eq_getElem?_getD]
theorem Co.bytes{w:World}{a:Option Addr}{c:Nat}{l:List Nat}(h:CY w a l)(hc:a=none→c=0):Co w a c (DV l):=by
 refine⟨fun ha=>⟨hc ha,?_⟩,?_,?_⟩
 ·rcases h.2 with rfl | ⟨b,off,rfl,_⟩
  ·rfl
  ·cases ha
 ·intro u hu;obtain⟨x,_,rfl⟩:=List.mem_map.1 hu;rfl
 ·intro ad had j u hu;rcases h.2 with rfl | ⟨b,off,rfl,hcell⟩
  ·simp[DV] at hu
  ·obtain rfl:=Option.some.inj had;have hj:j<l.length:=by
    have:=(List.getElem?_eq_some_iff.1 hu).1;simpa [DV] using this
   rw[I1 l j hj] at hu;obtain rfl:=Option.some.inj hu;rw[Addr.add_lit];exact hcell j hj
end Go.Proofs.YtpohoannggdbjaaGreat
namespace Go.Proofs.YtpohoannggdbjaaGreat
open Lib (hid)
open Go.RowKit
def Value.newOr(w:World)(v v':Value):Prop:=v'.ownBlock=v.ownBlock∨∃ k,v'.ownBlock=some k∧w.heap.size≤k
theorem Fl{P:Program}(w:World)(base:Nat)(t ty e:TypeId)(i:TypeInfo)(z:Value)(sz bytes:Nat)(ht:P.underlying t=some (.slice e))(hi:P.info? e=some i)(hz:i.zero=some z)
 (hsize:i.size=sz) (hby:i.bytes=bytes) (hzs:z.cells.size=sz) (hsz:0<sz) (v:Value) (n:Nat) (xs:List Value) (hown:w.ownsRow base e sz v n xs)
 (ao:Option Addr) (m c:Nat) (news:List Value) (hl:news.length=m*sz) (hsrc:Co w ao c news) (h63:n+m≤maxLen) (hbytes:(n+m)*bytes≤140737488355328) (hbase:base≤w.heap.size) :
 ∃ v' w',(Builtin.append_ #[t,t] ty #[v,.slice ao m c]).run P w = .ok v' w'∧w'.ownsRow base e sz v' (n+m) (xs ++ news)∧w.grownBy w' v.ownBlock∧Value.newOr w v v':=by
 obtain⟨v',w',hr,h2,h3⟩:=E4 (P:=P) w base t ty e i z sz bytes ht hi hz hsize hby hzs hsz v n xs hown ao m c news hl hsrc h63 hbytes hbase;refine⟨v',w',hr,h2,h3,?_⟩;obtain⟨s1,s2,s3⟩:=hsrc;have h63':n+m≤9223372036854775807:=by simp only[maxLen] at h63;omega
 cases ao with
 | none=>
   obtain⟨rfl,rfl⟩:=s1 rfl;obtain rfl:m=0:=by
    rcases Nat.eq_zero_or_pos m with h | h
    ·exact h
    ·have:=Nat.mul_pos h hsz;simp at hl;omega
   have hrun:=run_append_owned_none (P:=P) w base t ty e i sz ht hi v n xs hown;rw[hrun] at hr;injection hr with h4 h5
   exact .inl (by rw[h4])
 | some ad=>
   subst hsize;subst hby;have hown2:=hown;rcases hown2.2 with ⟨rfl,rfl⟩ | ⟨g,cap,cur,rfl,hbg,hg,hnc,hcm,hcs,htake⟩
   ·by_cases hm:m=0
    ·subst hm;have h4:=run_append_own (P:=P) (w:=w) base t ty e i z i.size i.bytes ht hi hz rfl rfl hzs hsz _ 0 xs hown ad 0 c news hl (s3 ad rfl) s2 h63 hbytes hbase;obtain⟨v9,w9,g1,_,_,g4⟩:=h4;rw[hr] at g1;injection g1 with g1 g2
     rw[g1,g4.2 ⟨rfl,rfl⟩];exact .inl rfl
    ·have h4:=run_append_nil (P:=P) (w:=w) t ty e i z ht hi hz ad m c news hl (s3 ad rfl) (by omega) (by omega) (by rw[Nat.zero_add] at hbytes;omega);rw[h4] at hr;injection hr with h5 h6
     exact .inr ⟨w.heap.size,by rw[← h5];rfl,Nat.le_refl _⟩
   ·by_cases hroom:n+m≤cap
    ·have hfit:n*i.size+news.length≤cur.size:=by rw[hl,hcs,← Nat.add_mul];exact Nat.mul_le_mul_right _ hroom
     have h4:=run_append_room (P:=P) (w:=w) t ty e i ht hi g n cap cur hg ad m c news hl (s3 ad rfl) s2 hroom hfit;rw[h4] at hr;injection hr with h5 h6
     exact .inl (by rw[← h5];rfl)
    ·have h4:=run_append_grow (P:=P) (w:=w) t ty e i z ht hi hz ⟨g,0,none⟩ n cap xs hown.1 (hown.cells (g:=g) rfl) ad m c news hl (s3 ad rfl) (by omega) (by omega) (growslice_fits (by omega) hbytes);rw[h4] at hr;injection hr with h5 h6
     exact .inr ⟨w.heap.size,by rw[← h5];rfl,Nat.le_refl _⟩
theorem DX{P:Program}{w:World}{o:Oper}{a:Act}{K:Act→World→Prop}{Q:Exit→Act→World→Prop}(s x:Operand)(t:TypeId)
 (ho:o.op = .call { callee:=.builtin .append,args := #[s,x],argTypes := #[t,t] })
 (base:Nat) (e:TypeId) (i:TypeInfo) (z:Value) (sz bytes:Nat) (ht:P.underlying t=some (.slice e)) (hi:P.info? e=some i) (hz:i.zero=some z)
 (hsize:i.size=sz) (hby:i.bytes=bytes) (hzs:z.cells.size=sz) (hsz:0<sz) (v:Value) (n:Nat) (xs:List Value) (hs:a.eval s=v) (hown:w.ownsRow base e sz v n xs)
 (ao:Option Addr) (m c:Nat) (news:List Value) (hx:a.eval x = .slice ao m c) (hl:news.length=m*sz) (hsrc:Co w ao c news) (h63:n+m≤maxLen) (hbytes:(n+m)*bytes≤140737488355328) (hbase:base≤w.heap.size)
 (h:∀ v' w',w'.ownsRow base e sz v' (n+m) (xs ++ news)→w.grownBy w' v.ownBlock→Value.newOr w v v'→K (a.put o.dst v') w'):o.wp P a w K Q:=by
 obtain⟨v',w',hr,h2,h3,h4⟩:=Fl (P:=P) w base t o.type e i z sz bytes ht hi hz hsize hby hzs hsz v n xs hown ao m c news hl hsrc h63 hbytes hbase;unfold Oper.wp execOp;simp only[ho,resolve,invoke,builtin,Sem.run_bind,Sem.run_pure,Result.andThen_ok,List.map_toArray,List.map_cons,List.map_nil,hs,hx,hr];exact h v' w' h2 h3 h4
theorem D4{P:Program}{w:World}{ops:Array Oper}{rest:List Oper}{o:Oper}{a:Act}{Q:Exit→Act→World→Prop}(hgd:o.guard=none)(s x:Operand)(t:TypeId)
 (ho:o.op = .call { callee:=.builtin .append,args := #[s,x],argTypes := #[t,t] })
 (base:Nat) (e:TypeId) (i:TypeInfo) (z:Value) (sz bytes:Nat) (ht:P.underlying t=some (.slice e)) (hi:P.info? e=some i) (hz:i.zero=some z)
 (hsize:i.size=sz) (hby:i.bytes=bytes) (hzs:z.cells.size=sz) (hsz:0<sz) (v:Value) (n:Nat) (xs:List Value) (hs:a.eval s=v) (hown:w.ownsRow base e sz v n xs)
 (ao:Option Addr) (m c:Nat) (news:List Value) (hx:a.eval x = .slice ao m c) (hl:news.length=m*sz) (hsrc:Co w ao c news) (h63:n+m≤maxLen) (hbytes:(n+m)*bytes≤140737488355328) (hbase:base≤w.heap.size)
 (h:∀ v' w',w'.ownsRow base e sz v' (n+m) (xs ++ news)→w.grownBy w' v.ownBlock→Value.newOr w v v'→wpList P ops Q rest (a.put o.dst v') w'):wpList P ops Q (o :: rest) a w:=
 wpList_plain hgd fun _ hK=>DX s x t ho base e i z sz bytes ht hi hz hsize hby hzs hsz v n xs hs hown ao m c news hx hl hsrc h63 hbytes hbase fun v' w' h2 h3 h4=>hK _ _ (h v' w' h2 h3 h4)
end Go.Proofs.YtpohoannggdbjaaGreat
namespace Go.Proofs.YtpohoannggdbjaaGreat
open Lib (hid)
open Go.RowKit
def pw(n:Nat):Nat:=2 ^ n
theorem MF(n:Nat):pw n=2 ^ n:=rfl
theorem D5(n:Nat):0<pw n:=Nat.two_pow_pos n
theorem Hu:pw 0=1:=rfl
theorem Ez(n:Nat):pw (n+1)=pw n*2:=Nat.pow_succ ..
theorem J8{n:Nat}(h:n≤63):pw n≤9223372036854775808:=by
 have:=Nat.pow_le_pow_right (n:=2) (by omega) h;simpa [pw] using this
theorem OC(k:Nat)(h:k<63):IntKind.u64.wrap ((pw k:Int)*2)=(pw (k+1):Int):=by
 have h1:=J8 (n:=k+1) (by omega);have h2:=Ez k;rw[IntKind.wrap_u64];omega
def Aa(s i:Nat):Bool:=decide (s / pw i % 2=1)
def Ab(s i:Nat):Nat:=if Aa s i then s else s+pw i
theorem Pk(s n:Nat)(hs:s<18446744073709551616):((IntKind.u64.wrap ((s:Int) / (pw n:Int))).tmod 2 == 1)=Aa s n:=by
 have h1:s / pw n<18446744073709551616:=Nat.lt_of_le_of_lt (Nat.div_le_self _ _) hs;unfold Aa;rw[show(s:Int) / (pw n:Int)=((s / pw n:Nat):Int) from(Int.natCast_ediv s (pw n)).symm,IntKind.wrap_u64];generalize s / pw n=y at *;have e:((y:Int) % 18446744073709551616).tmod 2=((y % 2:Nat):Int):=by
  rw[Int.tmod_eq_emod_of_nonneg (by omega)];omega
 rw[e,Bool.eq_iff_iff];simp;omega
theorem GX(s n:Nat)(hn:n≤63)(hs:s<18446744073709551616)(h:Aa s n=false):s+pw n<18446744073709551616:=by
 have hb:s / pw n % 2=0:=by
  have:¬ s / pw n % 2=1:=of_decide_eq_false h;omega
 have key:s+pw n<2 ^ 64:=by
  refine Nat.lt_of_not_le fun hge=>?_
  have e64:2 ^ 64=pw n*2 ^ (64 - n):=by rw[pw,← Nat.pow_add];congr 1;omega
  have h1:2 ^ (64 - n) - 1≤s / pw n:=by
   rw[Nat.le_div_iff_mul_le (D5 n),Nat.sub_mul,Nat.one_mul,Nat.mul_comm,← e64];omega
  have h2:s / pw n<2 ^ (64 - n):=by
   rw[Nat.div_lt_iff_lt_mul (D5 n),Nat.mul_comm,← e64];omega
  have h3:2 ^ (64 - n) % 2=0:=by
   rw[show 64 - n=(63 - n)+1 by omega,Nat.pow_succ];omega
  have h4:=Nat.two_pow_pos (64 - n);omega
 exact key
theorem LR(s n:Nat)(hn:n≤63)(hs:s<18446744073709551616)(h:Aa s n=false):IntKind.u64.wrap ((s:Int)+(pw n:Int))=((s+pw n:Nat):Int):=by
 have:=GX s n hn hs h;rw[IntKind.wrap_u64];omega
theorem BW(s n:Nat)(hn:n≤63)(hs:s<18446744073709551616):Ab s n<18446744073709551616:=by
 unfold Ab;cases h:Aa s n
 ·exact GX s n hn hs h
 ·exact hs
theorem Gq(k:Nat):Ab (pw k - 1) k=pw (k+1) - 1:=by
 have h0:=D5 k;have:Aa (pw k - 1) k=false:=by
  unfold Aa;rw[Nat.div_eq_of_lt (by omega)];rfl
 rw[Ab,this,Ez];simp only[Bool.false_eq_true,if_false];omega
end Go.Proofs.YtpohoannggdbjaaGreat
namespace Go.Proofs.YtpohoannggdbjaaGreat
open Lib (hid)
open Go.RowKit
theorem AX(s i:Nat):Aa s i=s.testBit i:=by
 unfold Aa pw;rw[Nat.testBit_eq_decide_div_mod_eq]
theorem Bo(s n:Nat):Ab s n=s ||| pw n:=by
 unfold Ab;cases h:Aa s n with
 | true=>
   rw[AX] at h;simp only[if_true];apply Nat.eq_of_testBit_eq;intro i;rw[Nat.testBit_or,pw,Nat.testBit_two_pow];by_cases hi:n=i
   ·subst hi;rw[h];rfl
   ·simp[hi]
 | false=>
   simp only[Bool.false_eq_true,if_false];have h0:s / pw n % 2=0:=by
    have:¬ s / pw n % 2=1:=of_decide_eq_false h;omega
   have e1:s=pw (n+1)*(s / pw (n+1))+s % pw (n+1):=(Nat.div_add_mod s _).symm;have hr:s % pw (n+1)<pw n:=by
    have e2:s % pw (n+1)=s % pw n+pw n*(s / pw n % 2):=by rw[Ez];exact Nat.mod_mul
    rw[e2,h0,Nat.mul_zero,Nat.add_zero];exact Nat.mod_lt _ (D5 n)
   generalize s / pw (n+1)=q at *;generalize s % pw (n+1)=r at *;have a1:pw (n+1)*q+r=pw (n+1)*q ||| r:=Nat.two_pow_add_eq_or_of_lt (i:=n+1) (by show r<pw (n+1);rw[Ez];omega) q
   have a2:pw n*1+r=pw n*1 ||| r:=Nat.two_pow_add_eq_or_of_lt (i:=n) hr 1
   have a3:pw (n+1)*q+(pw n*1+r)=pw (n+1)*q ||| (pw n*1+r):=Nat.two_pow_add_eq_or_of_lt (i:=n+1) (by show _<pw (n+1);rw[Ez];omega) q
   rw[Nat.mul_one] at a2 a3;rw[e1,a1,Nat.or_assoc,Nat.or_comm r,← a2,← a3];rw[← a1];omega
def Ax(s i:Nat):Nat:=if Aa s i then s - pw i else s
theorem IV(n i:Nat)(hn:n≤63):(18446744073709551615 - pw n).testBit i=(decide (i<64) && !decide (n=i)):=by
 have h:pw n<2 ^ 64:=by have:=J8 hn;omega
 have:=Nat.testBit_two_pow_sub_succ h i;rw[show 18446744073709551615 - pw n=2 ^ 64 - (pw n+1) by omega,this,pw,Nat.testBit_two_pow]
theorem Ou{s i:Nat}(hs:s<18446744073709551616)(h:s.testBit i=true):i<64:=by
 refine Nat.lt_of_not_le fun hi=>?_
 have h1:s<2 ^ i:=Nat.lt_of_lt_of_le hs (Nat.pow_le_pow_right (n:=2) (by omega) hi);rw[Nat.testBit_lt_two_pow h1] at h;exact absurd h (by decide)
theorem Fa(s n:Nat)(hn:n≤63)(hs:s<18446744073709551616):s &&& (18446744073709551615 - pw n)=Ax s n:=by
 have ht:∀ i,(s &&& (18446744073709551615 - pw n)).testBit i=(s.testBit i && !decide (n=i)):=by
  intro i;rw[Nat.testBit_and,IV n i hn];cases hb:s.testBit i with
  | false=>rfl
  | true=>simp[Ou hs hb]
 unfold Ax;cases h:Aa s n with
 | false=>
   simp only[Bool.false_eq_true,if_false];apply Nat.eq_of_testBit_eq;intro i;rw[ht];by_cases hi:n=i
   ·subst hi;rw[← AX,h];rfl
   ·simp[hi]
 | true=>
   simp only[if_true];have h2:Aa (s &&& (18446744073709551615 - pw n)) n=false:=by rw[AX,ht];simp
   have h3:Ab (s &&& (18446744073709551615 - pw n)) n=s:=by
    rw[Bo];apply Nat.eq_of_testBit_eq;intro i;rw[Nat.testBit_or,ht,pw,Nat.testBit_two_pow];by_cases hi:n=i
    ·subst hi;rw[← AX,h];simp
    ·simp[hi]
   unfold Ab at h3;rw[h2] at h3;simp only[Bool.false_eq_true,if_false] at h3;omega
theorem D8(s n:Nat):Ax s n≤s:=by unfold Ax;split<;>omega
end Go.Proofs.YtpohoannggdbjaaGreat
namespace Go.Proofs.YtpohoannggdbjaaGreat
open Lib (hid)
open Go.RowKit
attribute [local irreducible] pw Aa Ab Ax
theorem Po(s n:Nat)(hs:s<18446744073709551616):bits .and .u64 ((s / pw n:Nat):Int) 1=((s / pw n % 2:Nat):Int):=by
 have h1:s / pw n<18446744073709551616:=Nat.lt_of_le_of_lt (Nat.div_le_self _ _) hs;rw[show(1:Int)=((1:Nat):Int) from rfl,u64_and_nat _ 1 h1 (by omega),Nat.and_one_is_mod]
theorem JI(s n:Nat):(s:Int) / 2 ^ n=((s / pw n:Nat):Int):=by
 rw[Int.natCast_ediv,pw,Int.natCast_pow];rfl
theorem MT(s n:Nat)(hs:s<18446744073709551616):(bits .and .u64 ((s:Int) / 2 ^ n) 1 == 1)=Aa s n:=by
 rw[JI,Po s n hs];unfold Aa;rw[Bool.eq_iff_iff];simp;omega
theorem Be(n:Nat)(hn:n≤63):IntKind.u64.wrap ((2:Int) ^ n)=(pw n:Int):=by
 have h:=J8 hn;rw[show((2:Int) ^ n)=(pw n:Int) by rw[pw,Int.natCast_pow];rfl,IntKind.wrap_u64];omega
theorem K3{n:Nat}(hn:n≤63):pw n<18446744073709551616:=by have:=J8 hn;omega
theorem Ce(s n:Nat)(hn:n≤63)(hs:s<18446744073709551616):bits .or .u64 (s:Int) (pw n:Int)=((Ab s n:Nat):Int):=by
 rw[u64_or_nat s (pw n) hs (K3 hn),Bo]
theorem CW(s n:Nat)(hn:n≤63)(hs:s<18446744073709551616):bits .andNot .u64 (s:Int) (pw n:Int)=((Ax s n:Nat):Int):=by
 rw[u64_andNot_nat s (pw n) hs (K3 hn),Fa s n hn hs]
end Go.Proofs.YtpohoannggdbjaaGreat
namespace Go.Proofs.YtpohoannggdbjaaGreat
open Lib (hid)
open Go.RowKit
section
variable {P:Program} {ops:Array Oper} {Q:Exit→Act→World→Prop}
def By(ops:Array Oper)(i:Nat):Option Tmp:=(ops[i]?).bind (·.dst)
def Dm(ops:Array Oper)(i j:Nat):Bool:=match ops[i]? with
 | some o=>o.after.any fun e=>Region.binds .any e && e.on == j
 | none=>false
def K1(ops:Array Oper):Nat→List Nat→List Nat
 | 0,l=>l
 | k+1,l=>K1 ops k (l ++ (List.range ops.size).filter (fun j=>l.any (fun i=>Dm ops i j)))
def Jk(ops:Array Oper)(T:List Nat):Bool:=
 (List.range ops.size).all fun i=>T.contains i || ((By ops i).isSome && ((ops[i]?).map (fun o=>o.guard.isNone && o.after.all (fun e=>!Region.binds .any e || decide (e.on<i)))).getD false &&
   (List.range ops.size).all (fun j=>(!Dm ops i j || (decide (j<i) && !T.contains j)) && (j == i || T.contains j || By ops j != By ops i)))
def PB(ops:Array Oper)(T:List Nat)(k:Nat):Bool:=
 T.all fun t=>(List.range ops.size).all (fun i=>T.contains i || (K1 ops k ((List.range ops.size).filter (fun j=>Dm ops t j))).contains i)
def LH(ops:Array Oper)(T:List Nat)(s:Tmp):Bool:=(List.range ops.size).all (fun j=>T.contains j || By ops j != some s)
def Cj(P:Program)(w:World)(F:Value→World→Prop):Result Next→Prop
 | .ok (.value v) w'=>Below w.heap.size w w'∧F v w'
 | .ok (.enter f args) w'=>Calls P f args w' (fun e w''=>∃ v,e = .returned v∧Below w.heap.size w w''∧F v w'')
 | _=>False
def GD(P:Program)(ops:Array Oper)(T:List Nat)(a0:Act)(w0:World)(F:Nat→Value→World→Prop)(i:Nat):Prop:=
 ∀ o,ops[i]?=some o→∀(r:Operand→Value) (w:World),(∀ v,r (.const v)=v)→(∀ f,r (.func f) = .func (.func f) #[] #[])→(∀ g,r (.global g) = .pointer (some ⟨g,0,none⟩))→
  (∀ s,LH ops T s=true→r (.tmp s)=a0.eval (.tmp s))→Below w0.heap.size w0 w→
  (∀ j s,By ops j=some s→Dm ops i j=true→F j (r (.tmp s)) w)→Cj P w (F i) ((execOp r o).run P w)
structure D3(ops:Array Oper)(T:List Nat)(a0:Act)(w0:World)(F:Nat→Value→World→Prop)(listed:Array Bool)(a:Act)(w:World):Prop where
 size:listed.size=ops.size
 closed:∀ i j,listed.getD i false=true→Dm ops i j=true→listed.getD j false=true
 none:∀ i,listed.getD i false=true→T.contains i=false
 defers:a.defers=a0.defers
 tmps:a.tmps.size=a0.tmps.size
 frame:∀ s,LH ops T s=true→a.eval (.tmp s)=a0.eval (.tmp s)
 below:Below w0.heap.size w0 w
 facts:∀ i s,By ops i=some s→listed.getD i false=true→F i (a.eval (.tmp s)) w
theorem EA{listed:Array Bool}(hc:∀ i j,listed.getD i false=true→Dm ops i j=true→listed.getD j false=true):∀(k:Nat) (l:List Nat),(∀ i∈l,listed.getD i false=true)→∀ i∈K1 ops k l,listed.getD i false=true
 | 0,_,h=>h
 | k+1,l,h=>EA hc k _ (fun i hi=>by
    rcases List.mem_append.1 hi with hi | hi
    ·exact h i hi
    ·obtain⟨m,hm,hd⟩:=List.any_eq_true.1 (List.mem_filter.1 hi).2;exact hc m i (h m hm) hd)
theorem CF{i j:Nat}{o:Oper}(ho:ops[i]?=some o):Dm ops i j=true↔∃ e∈o.after,Region.binds .any e=true∧e.on=j:=by
 unfold Dm;rw[ho];simp only[Array.any_eq_true',Bool.and_eq_true,beq_iff_eq]
theorem Ge{a:Act}{d s:Nat}{v:Value}(h:d≠s):(a.put (some d) v).eval (.tmp s)=a.eval (.tmp s):=by
 show(a.tmps.setIfInBounds d v).getD s undef=a.tmps.getD s undef;rw[Array.getD_eq_getD_getElem?,Array.getD_eq_getD_getElem?,Array.getElem?_setIfInBounds_ne h]
theorem Em{a:Act}{d:Nat}{v:Value}(h:d<a.tmps.size):(a.put (some d) v).eval (.tmp d)=v:=by
 show(a.tmps.setIfInBounds d v).getD d undef=v;rw[Array.getD_eq_getD_getElem?,Array.getElem?_setIfInBounds_self_of_lt h];rfl
theorem FL{l:Array Bool}{j k:Nat}(h:(l.setIfInBounds j true).getD k false=true):k=j∨l.getD k false=true:=by
 by_cases hjk:j=k
 ·exact .inl hjk.symm
 ·right;rw[Array.getD_eq_getD_getElem?,Array.getElem?_setIfInBounds_ne hjk,← Array.getD_eq_getD_getElem?] at h;exact h
theorem G7{l:Array Bool}{j k:Nat}(h:l.getD k false=true):(l.setIfInBounds j true).getD k false=true:=by
 by_cases hjk:j=k
 ·subst hjk;have hlt:j<l.size:=by
   apply Nat.lt_of_not_le;intro hge;simp[Array.getElem?_eq_none hge] at h
  simp[hlt]
 ·rw[Array.getD_eq_getD_getElem?,Array.getElem?_setIfInBounds_ne hjk,← Array.getD_eq_getD_getElem?];exact h
variable {T:List Nat} {a0:Act} {w0:World} {F:Nat→Value→World→Prop}
theorem D3.step(hB:Jk ops T=true)(hsz:(List.range ops.size).all (fun i=>T.contains i || ((By ops i).map (fun d=>decide (d<a0.tmps.size))).getD false)=true)
 (hF:∀ i v w w',F i v w→Below w.heap.size w w'→F i v w') {listed:Array Bool} {a:Act} {w w':World} (h:D3 ops T a0 w0 F listed a w) {i d:Nat} {v:Value}
 (hi:i<ops.size) (hT:T.contains i=false) (hd:By ops i=some d) (hdep:∀ j,Dm ops i j=true→listed.getD j false=true) (hb:Below w.heap.size w w') (hv:F i v w') :
 D3 ops T a0 w0 F (listed.setIfInBounds i true) (a.put (some d) v) w':=by
 have hu:=List.all_eq_true.1 hB i (List.mem_range.2 hi);rw[hT,Bool.false_or,Bool.and_eq_true] at hu;have hu2:=hu.2;refine⟨by rw[Array.size_setIfInBounds];exact h.size,fun m j hm hj=>?_,fun m hm=>?_,h.defers,?_,fun s hs=>?_,A8 h.below hb,fun m s hs hm=>?_⟩
 ·rcases FL hm with rfl | hm
  ·exact G7 (hdep j hj)
  ·exact G7 (h.closed m j hm hj)
 ·rcases FL hm with rfl | hm
  ·exact hT
  ·exact h.none m hm
 ·show(a.tmps.setIfInBounds d v).size=_;rw[Array.size_setIfInBounds];exact h.tmps
 ·have:=List.all_eq_true.1 hs i (List.mem_range.2 hi);rw[hT,Bool.false_or,hd] at this;have hne:d≠s:=fun e=>by subst e;simp at this
  rw[Ge hne];exact h.frame s hs
 ·by_cases hmi:m=i
  ·subst hmi;rw[hd] at hs;injection hs with hs
   subst hs;have:=List.all_eq_true.1 hsz m (List.mem_range.2 hi);rw[hT,Bool.false_or,hd] at this;have hlt:d<a0.tmps.size:=by simpa using this
   rw[Em (by rw[h.tmps];exact hlt)];exact hv
  ·have hm':listed.getD m false=true:=(FL hm).resolve_left hmi;have hmlt:m<ops.size:=by
    apply Nat.lt_of_not_le;intro hge;rw[By,Array.getElem?_eq_none hge] at hs;cases hs
   have:=List.all_eq_true.1 hu2 m (List.mem_range.2 hmlt);rw[Bool.and_eq_true,h.none m hm',hs,hd] at this;have hne:d≠s:=fun e=>by subst e;simp at this;exact hmi this.2
   rw[Ge hne];exact hF _ _ _ _ (h.facts m s hs hm') hb
theorem Fw(LI:Array Bool)(hL1:LI.size=ops.size)(hL2:((List.range ops.size).all fun i=>LI.getD i false == !T.contains i)=true){n':Nat}(hL3:LI.toList.count true+n'=ops.size)
 (hend:∀ a w,D3 ops T a0 w0 F LI a w→wpAny P .any ops Q n' LI a w) (fuel:Nat) (listed:Array Bool) (a:Act) (w:World) (hc:listed.toList.count true+fuel=ops.size) (h:D3 ops T a0 w0 F listed a w)
 (hall:∀ i,i<ops.size→T.contains i=false→listed.getD i false=true):wpAny P .any ops Q fuel listed a w:=by
 have he:listed=LI:=by
  refine Array.ext (h.size.trans hL1.symm) fun i h1 h2=>?_
  have hi:i<ops.size:=h.size ▸ h1;have h3:=List.all_eq_true.1 hL2 i (List.mem_range.2 hi);rw[Array.getD_eq_getD_getElem?,Array.getElem?_eq_getElem h2] at h3;have h4:listed.getD i false = !T.contains i:=by
   cases hT:T.contains i with
   | false=>exact hall i hi hT
   | true=>
     cases hg:listed.getD i false with
     | false=>rfl
     | true=>rw[h.none i hg] at hT;cases hT
  rw[Array.getD_eq_getD_getElem?,Array.getElem?_eq_getElem h1] at h4;have h5:LI[i] = !T.contains i:=by simpa using h3
  rw[h5];exact h4
 subst he;have:fuel=n':=by omega
 subst this;exact hend a w h
theorem Oj(hB:Jk ops T=true){k:Nat}(hK:PB ops T k=true)(hsz:(List.range ops.size).all (fun i=>T.contains i || ((By ops i).map (fun d=>decide (d<a0.tmps.size))).getD false)=true)
 (hF:∀ i v w w',F i v w→Below w.heap.size w w'→F i v w') (H:∀ i,i<ops.size→T.contains i=false→GD P ops T a0 w0 F i)
 (LI:Array Bool) (hL1:LI.size=ops.size) (hL2:((List.range ops.size).all fun i=>LI.getD i false == !T.contains i)=true) {n':Nat} (hL3:LI.toList.count true+n'=ops.size)
 (hend:∀ a w,D3 ops T a0 w0 F LI a w→wpAny P .any ops Q n' LI a w) :
 ∀(fuel:Nat) (listed:Array Bool) (a:Act) (w:World),listed.toList.count true+fuel=ops.size→D3 ops T a0 w0 F listed a w→wpAny P .any ops Q fuel listed a w:=by
 intro fuel
 induction fuel with
 | zero=>
   intro listed a w hc h;exact Fw LI hL1 hL2 hL3 hend 0 listed a w hc h (fun i hi _=>by
    have h1:listed.toList.count true=listed.toList.length:=by rw[Array.length_toList,h.size];omega
    have h2:=List.count_eq_length.1 h1;have hlt:i<listed.size:=by rw[h.size];exact hi
    have h3:=h2 listed[i] (by simp);rw[Array.getD_eq_getD_getElem?,Array.getElem?_eq_getElem hlt,← h3];rfl)
 | succ fuel ih=>
   intro listed a w hc h;by_cases hall:∀ i,i<ops.size→T.contains i=false→listed.getD i false=true
   ·exact Fw LI hL1 hL2 hL3 hend (fuel+1) listed a w hc h hall
   refine⟨fun hr=>?_,fun i hi=>?_⟩
   ·exfalso;apply hall;intro i
    induction i using Nat.strongRecOn with
    | ind i ihi=>
      intro hi hT;cases hg:listed.getD i false with
      | true=>rfl
      | false=>
        have hin:i∈Region.ready .any ops listed:=by
         refine mem_ready.2 ⟨?_,ops[i],Array.getElem?_eq_getElem hi,fun e he hb=>?_⟩
         ·have hlt:i<listed.size:=by rw[h.size];exact hi
          rw[Array.getD_eq_getD_getElem?,Array.getElem?_eq_getElem hlt] at hg ⊢;exact hg
         ·have hd:Dm ops i e.on=true:=(CF (Array.getElem?_eq_getElem hi)).2 ⟨e,he,hb,rfl⟩;have hu:=List.all_eq_true.1 hB i (List.mem_range.2 hi);rw[hT,Bool.false_or,Bool.and_eq_true] at hu;by_cases hlt:e.on<ops.size
          ·have:=List.all_eq_true.1 hu.2 e.on (List.mem_range.2 hlt);rw[hd] at this;simp at this;exact ihi e.on this.1.1 hlt (by simpa using this.1.2)
          ·have hx:e.on<i:=by
            have h5:=hu.1;rw[Bool.and_eq_true,Array.getElem?_eq_getElem hi] at h5;have h6:=h5.2;simp only[Option.map_some,Option.getD_some,Bool.and_eq_true] at h6;have h7:=(Array.all_eq_true_iff_forall_mem.1 h6.2) e he;rw[hb] at h7;simpa using h7
           omega
        rw[hr] at hin;cases hin
   ·obtain⟨hun,o,ho,hdeps⟩:=mem_ready.1 hi;have hlt:i<ops.size:=(Array.getElem?_eq_some_iff.1 ho).1;have hdep:∀ j,Dm ops i j=true→listed.getD j false=true:=fun j hj=>by
     obtain⟨e,he,hb,rfl⟩:=(CF ho).1 hj;exact hdeps e he hb
    cases hT:T.contains i with
    | true=>
      exfalso;apply hall;intro m hm hmT;have h1:=List.all_eq_true.1 (List.all_eq_true.1 hK i (List.contains_iff_mem.1 hT)) m (List.mem_range.2 hm);rw[hmT,Bool.false_or] at h1;exact EA h.closed k _ (fun j hj=>hdep j (List.mem_filter.1 hj).2) m (List.contains_iff_mem.1 h1)
    | false=>
      have hu:=List.all_eq_true.1 hB i (List.mem_range.2 hlt);rw[hT,Bool.false_or,Bool.and_eq_true,Bool.and_eq_true,ho] at hu;have hgu:o.guard=none:=by have h8:=hu.1.2;simp only[Option.map_some,Option.getD_some,Bool.and_eq_true] at h8;simpa using h8.1
      obtain⟨d,hd⟩:=Option.isSome_iff_exists.1 hu.1.1;have hod:o.dst=some d:=by unfold By at hd;rw[ho] at hd;exact hd
      have hob:=H i hlt hT o ho a.eval w (fun _=>rfl) (fun _=>rfl) (fun _=>rfl) h.frame h.below (fun j s hs hj=>h.facts j s hs (hdep j hj));have hcnt:(listed.setIfInBounds i true).toList.count true+fuel=ops.size:=by
       rw[Array.toList_setIfInBounds,List.count_set (by rw[Array.length_toList,h.size];exact hlt)];have hx:listed.toList[i]'(by rw[Array.length_toList,h.size];exact hlt)=false:=by
        have hl:i<listed.size:=by rw[h.size];exact hlt
        rw[Array.getD_eq_getD_getElem?,Array.getElem?_eq_getElem hl] at hun;simpa using hun
       rw[hx,if_neg (by decide),if_pos (by decide)];omega
      unfold wpOp;rw[ho];dsimp only;rw[if_pos (by simp[Region.wanted,hgu])];left;unfold Oper.wp;have hnext:∀ v w',Below w.heap.size w w'→F i v w'→wpAny P .any ops Q fuel (listed.setIfInBounds i true) (a.put o.dst v) w':=fun v w' hb hv=>by
       rw[hod];exact ih _ _ _ hcnt (h.step hB hsz hF hlt hT hd hdep hb hv)
      generalize (execOp a.eval o).run P w=res at *;cases res with
      | ok n w'=>
        cases n<;>simp only[Cj] at hob<;>simp only[Oper.upon]
        case value v=>exact hnext v w' hob.1 hob.2
        case enter f args=>
         refine Calls.mono hob fun e w'' he=>?_
         obtain⟨v,rfl,hb,hv⟩:=he;exact hnext v w'' hb hv
      | halt x w'=>simp only[Cj] at hob
def Ic(ops:Array Oper)(T:List Nat)(k u:Nat):Bool:=
 T.all fun t=>(List.range ops.size).all (fun i=>T.contains i || i == u || (K1 ops k ((List.range ops.size).filter (fun j=>Dm ops t j))).contains i)
theorem MM(u:Nat)(hB:Jk ops T=true){k:Nat}(hK:Ic ops T k u=true)(hsz:(List.range ops.size).all (fun i=>T.contains i || ((By ops i).map (fun d=>decide (d<a0.tmps.size))).getD false)=true)
 (hF:∀ i v w w',F i v w→Below w.heap.size w w'→F i v w') (H:∀ i,i<ops.size→T.contains i=false→i≠u→GD P ops T a0 w0 F i)
 (LI:Array Bool) (hL1:LI.size=ops.size) (hL2:((List.range ops.size).all fun i=>LI.getD i false == !T.contains i)=true) {n':Nat} (hL3:LI.toList.count true+n'=ops.size)
 (hend:∀ a w,D3 ops T a0 w0 F LI a w→wpAny P .any ops Q n' LI a w) :
 ∀(fuel:Nat) (listed:Array Bool) (a:Act) (w:World),listed.toList.count true+fuel=ops.size→D3 ops T a0 w0 F listed a w→listed.getD u false=true→wpAny P .any ops Q fuel listed a w:=by
 intro fuel
 induction fuel with
 | zero=>
   intro listed a w hc h hlu;exact Fw LI hL1 hL2 hL3 hend 0 listed a w hc h (fun i hi _=>by
    have h1:listed.toList.count true=listed.toList.length:=by rw[Array.length_toList,h.size];omega
    have h2:=List.count_eq_length.1 h1;have hlt:i<listed.size:=by rw[h.size];exact hi
    have h3:=h2 listed[i] (by simp);rw[Array.getD_eq_getD_getElem?,Array.getElem?_eq_getElem hlt,← h3];rfl)
 | succ fuel ih=>
   intro listed a w hc h hlu;by_cases hall:∀ i,i<ops.size→T.contains i=false→listed.getD i false=true
   ·exact Fw LI hL1 hL2 hL3 hend (fuel+1) listed a w hc h hall
   refine⟨fun hr=>?_,fun i hi=>?_⟩
   ·exfalso;apply hall;intro i
    induction i using Nat.strongRecOn with
    | ind i ihi=>
      intro hi hT;cases hg:listed.getD i false with
      | true=>rfl
      | false=>
        have hin:i∈Region.ready .any ops listed:=by
         refine mem_ready.2 ⟨?_,ops[i],Array.getElem?_eq_getElem hi,fun e he hb=>?_⟩
         ·have hlt:i<listed.size:=by rw[h.size];exact hi
          rw[Array.getD_eq_getD_getElem?,Array.getElem?_eq_getElem hlt] at hg ⊢;exact hg
         ·have hd:Dm ops i e.on=true:=(CF (Array.getElem?_eq_getElem hi)).2 ⟨e,he,hb,rfl⟩;have hu:=List.all_eq_true.1 hB i (List.mem_range.2 hi);rw[hT,Bool.false_or,Bool.and_eq_true] at hu;by_cases hlt:e.on<ops.size
          ·have:=List.all_eq_true.1 hu.2 e.on (List.mem_range.2 hlt);rw[hd] at this;simp at this;exact ihi e.on this.1.1 hlt (by simpa using this.1.2)
          ·have hx:e.on<i:=by
            have h5:=hu.1;rw[Bool.and_eq_true,Array.getElem?_eq_getElem hi] at h5;have h6:=h5.2;simp only[Option.map_some,Option.getD_some,Bool.and_eq_true] at h6;have h7:=(Array.all_eq_true_iff_forall_mem.1 h6.2) e he;rw[hb] at h7;simpa using h7
           omega
        rw[hr] at hin;cases hin
   ·obtain⟨hun,o,ho,hdeps⟩:=mem_ready.1 hi;have hlt:i<ops.size:=(Array.getElem?_eq_some_iff.1 ho).1;have hdep:∀ j,Dm ops i j=true→listed.getD j false=true:=fun j hj=>by
     obtain⟨e,he,hb,rfl⟩:=(CF ho).1 hj;exact hdeps e he hb
    cases hT:T.contains i with
    | true=>
      exfalso;apply hall;intro m hm hmT;have h1:=List.all_eq_true.1 (List.all_eq_true.1 hK i (List.contains_iff_mem.1 hT)) m (List.mem_range.2 hm);by_cases hmu:m=u
      ·rw[hmu];exact hlu
      have hne:(m == u)=false:=by simpa using hmu
      rw[hmT,hne,Bool.false_or,Bool.false_or] at h1;exact EA h.closed k _ (fun j hj=>hdep j (List.mem_filter.1 hj).2) m (List.contains_iff_mem.1 h1)
    | false=>
      have hu:=List.all_eq_true.1 hB i (List.mem_range.2 hlt);rw[hT,Bool.false_or,Bool.and_eq_true,Bool.and_eq_true,ho] at hu;have hgu:o.guard=none:=by have h8:=hu.1.2;simp only[Option.map_some,Option.getD_some,Bool.and_eq_true] at h8;simpa using h8.1
      obtain⟨d,hd⟩:=Option.isSome_iff_exists.1 hu.1.1;have hod:o.dst=some d:=by unfold By at hd;rw[ho] at hd;exact hd
      have hiu:i≠u:=fun e=>by subst e;rw[Array.getD_eq_getD_getElem?] at hun hlu;cases hq:listed[i]? with
       | none=>rw[hq] at hlu;cases hlu
       | some b=>rw[hq] at hlu hun;simp at hlu hun;rw[hlu] at hun;cases hun
      have hob:=H i hlt hT hiu o ho a.eval w (fun _=>rfl) (fun _=>rfl) (fun _=>rfl) h.frame h.below (fun j s hs hj=>h.facts j s hs (hdep j hj));have hcnt:(listed.setIfInBounds i true).toList.count true+fuel=ops.size:=by
       rw[Array.toList_setIfInBounds,List.count_set (by rw[Array.length_toList,h.size];exact hlt)];have hx:listed.toList[i]'(by rw[Array.length_toList,h.size];exact hlt)=false:=by
        have hl:i<listed.size:=by rw[h.size];exact hlt
        rw[Array.getD_eq_getD_getElem?,Array.getElem?_eq_getElem hl] at hun;simpa using hun
       rw[hx,if_neg (by decide),if_pos (by decide)];omega
      unfold wpOp;rw[ho];dsimp only;rw[if_pos (by simp[Region.wanted,hgu])];left;unfold Oper.wp;have hnext:∀ v w',Below w.heap.size w w'→F i v w'→wpAny P .any ops Q fuel (listed.setIfInBounds i true) (a.put o.dst v) w':=fun v w' hb hv=>by
       rw[hod];exact ih _ _ _ hcnt (h.step hB hsz hF hlt hT hd hdep hb hv) (G7 hlu)
      generalize (execOp a.eval o).run P w=res at *;cases res with
      | ok n w'=>
        cases n<;>simp only[Cj] at hob<;>simp only[Oper.upon]
        case value v=>exact hnext v w' hob.1 hob.2
        case enter f args=>
         refine Calls.mono hob fun e w'' he=>?_
         obtain⟨v,rfl,hb,hv⟩:=he;exact hnext v w'' hb hv
      | halt x w'=>simp only[Cj] at hob
def G2(P:Program)(ops:Array Oper)(T:List Nat)(a0:Act)(w0:World)(F:Nat→Value→World→Prop):List Nat→Prop
 | []=>True
 | i :: l=>GD P ops T a0 w0 F i∧G2 P ops T a0 w0 F l
theorem Ec:∀ {l:List Nat},G2 P ops T a0 w0 F l→∀ i∈l,GD P ops T a0 w0 F i
 | _ :: _,h,i,hi=>by
   rcases List.mem_cons.1 hi with rfl | hi
   ·exact h.1
   ·exact Ec h.2 i hi
theorem A6{i:Nat}{o:Oper}(ho:ops[i]?=some o)(h:∀(r:Operand→Value) (w:World),(∀ v,r (.const v)=v)→(∀ f,r (.func f) = .func (.func f) #[] #[])→(∀ g,r (.global g) = .pointer (some ⟨g,0,none⟩))→
 (∀ s,LH ops T s=true→r (.tmp s)=a0.eval (.tmp s))→Below w0.heap.size w0 w→
 (∀ j s,By ops j=some s→Dm ops i j=true→F j (r (.tmp s)) w)→Cj P w (F i) ((execOp r o).run P w)):GD P ops T a0 w0 F i:=by
 intro o' ho' r w h1 h2 h3 h4 h5 h6;rw[ho] at ho';injection ho' with ho'
 subst ho';exact h r w h1 h2 h3 h4 h5 h6
def Kd(p:Value→World→Prop):Prop:=∀ v w w',p v w→Below w.heap.size w w'→p v w'
theorem A7(c:Value):Kd (fun v _=>v=c):=fun _ _ _ h _=>h
theorem Al:Kd (fun _ _=>True):=fun _ _ _ h _=>h
def DY:List (Value→World→Prop)→Prop
 | []=>True
 | p :: l=>Kd p∧DY l
theorem EH:∀ {l:List (Value→World→Prop)},DY l→∀ i,Kd (l.getD i (fun _ _=>True))
 | [],_,_=>Al
 | _ :: _,h,0=>h.1
 | _ :: _,h,i+1=>EH h.2 i
def AA(a:Act)(D:List Nat)(x:Act):Act:=D.foldl (fun y d=>y.put (some d) (a.eval (.tmp d))) x
theorem Ef(a:Act):∀(D:List Nat) (x:Act),(AA a D x).tmps.size=x.tmps.size∧(AA a D x).defers=x.defers
 | [],_=>⟨rfl,rfl⟩
 | d :: D,x=>by
   have h:=Ef a D (x.put (some d) (a.eval (.tmp d)));refine⟨h.1.trans ?_,h.2⟩;show(x.tmps.setIfInBounds d _).size=_;rw[Array.size_setIfInBounds]
theorem Eb(a:Act){s:Nat}:∀(D:List Nat) (x:Act),s<x.tmps.size→(AA a D x).eval (.tmp s)=if D.contains s then a.eval (.tmp s) else x.eval (.tmp s)
 | [],_,_=>rfl
 | d :: D,x,hs=>by
   have h:=Eb a D (x.put (some d) (a.eval (.tmp d))) (by show s<(x.tmps.setIfInBounds d _).size;rw[Array.size_setIfInBounds];exact hs);show(AA a D (x.put (some d) (a.eval (.tmp d)))).eval (.tmp s)=_;rw[h,List.contains_cons];by_cases hd:d=s
   ·subst hd;rw[Em hs];simp
   ·rw[Ge hd];have:(s == d)=false:=by simpa using fun e=>hd e.symm
    rw[this,Bool.false_or]
theorem Hn{a b:Act}(h1:a.tmps.size=b.tmps.size)(h2:a.defers=b.defers)(h3:∀ s,s<a.tmps.size→a.eval (.tmp s)=b.eval (.tmp s)):a=b:=by
 obtain⟨t,d⟩:=a;obtain⟨t',d'⟩:=b;dsimp only at h1 h2 h3;subst h2
 congr 1
 refine Array.ext h1 fun i hi hi'=>?_
 have:=h3 i hi;simpa [Act.eval,Array.getD_eq_getD_getElem?,Array.getElem?_eq_getElem hi,Array.getElem?_eq_getElem hi'] using this
theorem Ah{id:Nat}(hm:P.follows .mixedOrders=true)(T:List Nat)(k:Nat)(L:List Nat)(D:List Nat)(LI:Array Bool)(n':Nat)(G:List (Value→World→Prop))
 (hB:Jk ops T=true) (hK:PB ops T k=true) (hsz:(List.range ops.size).all (fun i=>T.contains i || ((By ops i).map (fun d=>decide (d<a0.tmps.size))).getD false)=true)
 (hL:(List.range ops.size).all (fun i=>T.contains i || L.contains i)=true) (hD:(List.range a0.tmps.size).all (fun s=>D.contains s || LH ops T s)=true)
 (hL1:LI.size=ops.size) (hL2:((List.range ops.size).all fun i=>LI.getD i false == !T.contains i)=true) (hL3:LI.toList.count true+n'=ops.size)
 (hG:DY G) (H:G2 P ops T a0 w0 (fun i=>G.getD i (fun _ _=>True)) L)
 (hend:∀ a w,Below w0.heap.size w0 w→(∀ i s,By ops i=some s→LI.getD i false=true→G.getD i (fun _ _=>True) (a.eval (.tmp s)) w)→wpAny P .any ops Q n' LI (AA a D a0) w) :
 (Code.region id ops true).wp P Q a0 w0:=by
 refine wp_region_any hm (Oj (w0:=w0) hB hK hsz (fun i v w w' h hb=>EH hG i v w w' h hb) (fun i hi hT=>?_) LI hL1 hL2 hL3 (fun a w h=>?_) ops.size (Array.replicate ops.size false) a0 _ ?_ ?_)
 ·have:=List.all_eq_true.1 hL i (List.mem_range.2 hi);rw[hT,Bool.false_or] at this;exact Ec H i (List.contains_iff_mem.1 this)
 ·have he:a=AA a D a0:=by
   obtain⟨f1,f2⟩:=Ef a D a0;refine Hn (h.tmps.trans f1.symm) (h.defers.trans f2.symm) fun s hs=>?_
   have hs':s<a0.tmps.size:=by rw[← h.tmps];exact hs
   rw[Eb a D a0 hs'];split
   ·rfl
   ·rename_i hn
    have:=List.all_eq_true.1 hD s (List.mem_range.2 hs');rw[Bool.or_eq_true] at this;exact h.frame s (this.resolve_left hn)
  have h2:=hend a w h.below h.facts;rw[← he] at h2;exact h2
 ·rw[Array.toList_replicate,List.count_replicate,if_neg (by decide),Nat.zero_add]
 ·refine⟨Array.size_replicate,fun i j hi=>?_,fun i hi=>?_,rfl,rfl,fun _ _=>rfl,(Below.refl _ w0).drew,fun i s _ hi=>?_⟩
  all_goals
   rw[Array.getD_eq_getD_getElem?,Array.getElem?_replicate] at hi;split at hi<;>cases hi
theorem GI(w0:World)(F:Nat→Value→World→Prop):D3 ops T a0 w0 F (Array.replicate ops.size false) a0 w0.drew:=by
 refine⟨Array.size_replicate,fun i j hi=>?_,fun i hi=>?_,rfl,rfl,fun _ _=>rfl,(Below.refl _ w0).drew,fun i s _ hi=>?_⟩
 all_goals
  rw[Array.getD_eq_getD_getElem?,Array.getElem?_replicate] at hi;split at hi<;>cases hi
theorem E6{id:Nat}(hm:P.follows .mixedOrders=true)(T:List Nat)(k:Nat)(L:List Nat)(D:List Nat)(LI:Array Bool)(n':Nat)(G:List (Value→World→Prop))(u d:Nat)(v:Value){ou:Oper}
 (hu:ops[u]?=some ou) (hud:ou.dst=some d) (hdu:By ops u=some d) (huT:T.contains u=false) (hs:Region.noSelect ops=true) (hf:Region.free .any ops (Array.replicate ops.size false) u=true) (hr:(Region.ready .any ops (Array.replicate ops.size false)).contains u=true)
 (hQ:∀ c a w,Q (.panic c) (a.put ou.dst v) w→Q (.panic c) a w) (hy:Yields P ops ou v a0) (hnd:(List.range ops.size).all (fun j=>!Dm ops u j)=true) (hvu:∀ w,G.getD u (fun _ _=>True) v w)
 (hB:Jk ops T=true) (hK:Ic ops T k u=true) (hsz:(List.range ops.size).all (fun i=>T.contains i || ((By ops i).map (fun d=>decide (d<a0.tmps.size))).getD false)=true)
 (hL:(List.range ops.size).all (fun i=>T.contains i || i == u || L.contains i)=true) (hD:(List.range a0.tmps.size).all (fun s=>D.contains s || LH ops T s)=true)
 (hL1:LI.size=ops.size) (hL2:((List.range ops.size).all fun i=>LI.getD i false == !T.contains i)=true) (hL3:LI.toList.count true+n'=ops.size)
 (hG:DY G) (H:G2 P ops T a0 w0 (fun i=>G.getD i (fun _ _=>True)) L)
 (hend:∀ a w,Below w0.heap.size w0 w→(∀ i s,By ops i=some s→LI.getD i false=true→G.getD i (fun _ _=>True) (a.eval (.tmp s)) w)→wpAny P .any ops Q n' LI (AA a D a0) w) :
 (Code.region id ops true).wp P Q a0 w0:=by
 have hult:u<ops.size:=(Array.getElem?_eq_some_iff.1 hu).1;have hsub:∃ m,ops.size=m+1:=⟨ops.size - 1,by omega⟩;obtain⟨m,hm1⟩:=hsub;refine wp_region_any hm ?_;rw[hm1,← hm1];have hF:∀ i v w w',G.getD i (fun _ _=>True) v w→Below w.heap.size w w'→G.getD i (fun _ _=>True) v w':=fun i v w w' h hb=>EH hG i v w w' h hb
 have hnod:∀ j,Dm ops u j=true→False:=fun j hj=>by
  obtain⟨e,he,hb,rfl⟩:=(CF hu).1 hj;have hB1:=List.all_eq_true.1 hB u (List.mem_range.2 hult);rw[huT,Bool.false_or,Bool.and_eq_true,Bool.and_eq_true,hu] at hB1;have h8:=hB1.1.2;simp only[Option.map_some,Option.getD_some,Bool.and_eq_true] at h8;have h9:=(Array.all_eq_true_iff_forall_mem.1 h8.2) e he;have h10:e.on<u:=by rw[hb] at h9;simpa using h9
  have:=List.all_eq_true.1 hnd e.on (List.mem_range.2 (by omega));rw[hj] at this;cases this
 have h1:=D3.step (T:=T) (a0:=a0) (w0:=w0) (F:=fun i=>G.getD i (fun _ _=>True)) (v:=v) hB hsz hF (GI w0 _) hult huT hdu (fun j hj=>(hnod j hj).elim) (Below.refl _ _) (hvu _)
 suffices h:wpAny P .any ops Q m ((Array.replicate ops.size false).setIfInBounds u true) (a0.put (some d) v) w0.drew by
  have h2:=wpAny_take (Q:=Q) (a:=a0) (w:=w0.drew) (fuel:=m) hu hs hf hr hQ hy (by rw[hud];exact h);rw[← hm1] at h2;exact h2
 refine MM (w0:=w0) u hB hK hsz hF (fun i hi hT hiu=>?_) LI hL1 hL2 hL3 (fun a w h=>?_) m _ _ _ ?_ h1 ?_
 ·have:=List.all_eq_true.1 hL i (List.mem_range.2 hi);have hne:(i == u)=false:=by simpa using hiu
  rw[hT,hne,Bool.false_or,Bool.false_or] at this;exact Ec H i (List.contains_iff_mem.1 this)
 ·have he:a=AA a D a0:=by
   obtain⟨f1,f2⟩:=Ef a D a0;refine Hn (h.tmps.trans f1.symm) (h.defers.trans f2.symm) fun s hs=>?_
   have hs':s<a0.tmps.size:=by rw[← h.tmps];exact hs
   rw[Eb a D a0 hs'];split
   ·rfl
   ·rename_i hn
    have:=List.all_eq_true.1 hD s (List.mem_range.2 hs');rw[Bool.or_eq_true] at this;exact h.frame s (this.resolve_left hn)
  have h2:=hend a w h.below h.facts;rw[← he] at h2;exact h2
 ·rw[Array.toList_setIfInBounds,Array.toList_replicate,List.count_set (by rw[List.length_replicate];exact hult),List.count_replicate,if_neg (by decide),List.getElem_replicate,if_neg (by decide),if_pos (by decide)];omega
 ·rw[Array.getD_eq_getD_getElem?,Array.getElem?_setIfInBounds_self_of_lt (by rw[Array.size_replicate];exact hult)];rfl
end
end Go.Proofs.YtpohoannggdbjaaGreat
namespace Go.Proofs.YtpohoannggdbjaaGreat
open Lib (hid)
open Go.RowKit
def CB(w:World)(a:Option Addr)(l:List (Nat × Int)):Prop:=
 (∀ c∈l,c.1<256∧-9223372036854775808≤c.2∧c.2≤9223372036854775807)∧
 (l=[]∨∃ b off,a=some ⟨b,off,none⟩∧∀ i c,l[i]?=some c→w.cell? ⟨b,off+i*2,none⟩=some (.int .u8 (c.1:Int))∧w.cell? ⟨b,off+i*2+1,none⟩=some (.int .i64 c.2))
theorem CB.below{w w':World}{a:Option Addr}{l:List (Nat × Int)}(hb:Below w.heap.size w w')(h:CB w a l):CB w' a l:=by
 refine⟨h.1,h.2.imp id ?_⟩;rintro⟨b,off,rfl,hc⟩;exact⟨b,off,rfl,fun i c hi=>⟨cell_later hb (hc i c hi).1,cell_later hb (hc i c hi).2⟩⟩
theorem CB.at{w:World}{a:Option Addr}{l:List (Nat × Int)}(h:CB w a l){i:Nat}(hi:i<l.length) :
 ∃ b off k n,a=some ⟨b,off,none⟩∧l[i]?=some (k,n)∧k<256∧(-9223372036854775808≤n∧n≤9223372036854775807)∧w.cell? ⟨b,off+i*2,none⟩=some (.int .u8 (k:Int))∧w.cell? ⟨b,off+i*2+1,none⟩=some (.int .i64 n):=by
 obtain⟨b,off,rfl,hc⟩:=h.2.resolve_left (by rintro rfl;simp at hi);have hg:=List.getElem?_eq_getElem hi;have hm:=h.1 _ (List.getElem_mem hi);obtain⟨h1,h2⟩:=hc i _ hg;exact⟨b,off,l[i].1,l[i].2,rfl,hg,hm.1,hm.2,h1,h2⟩
end Go.Proofs.YtpohoannggdbjaaGreat
namespace Go.Proofs.YtpohoannggdbjaaGreat
open Lib (hid)
open Go.RowKit
set_option maxRecDepth 100000
def AF{α:Type}(sz:Nat)(f:α→List Value)(w:World)(a:Option Addr)(l:List α):Prop:=
 l=[]∨∃ b off,a=some ⟨b,off,none⟩∧∀ i c,l[i]?=some c→∀ j v,(f c)[j]?=some v→w.cell? ⟨b,off+i*sz+j,none⟩=some v
theorem AF.below{α:Type}{sz:Nat}{f:α→List Value}{w w':World}{a:Option Addr}{l:List α}(h:AF sz f w a l)(hb:Below w.heap.size w w'):AF sz f w' a l:=by
 refine h.imp id ?_;rintro⟨b,off,rfl,hc⟩;exact⟨b,off,rfl,fun i c hi j v hv=>cell_later hb (hc i c hi j v hv)⟩
theorem AF.nil{α:Type}{sz:Nat}{f:α→List Value}{w:World}{a:Option Addr}:AF sz f w a []:=.inl rfl
theorem AF.take{α:Type}{sz:Nat}{f:α→List Value}{w:World}{a:Option Addr}{l:List α}(h:AF sz f w a l)(n:Nat):AF sz f w a (l.take n):=by
 rcases h with rfl | ⟨b,off,rfl,hc⟩
 ·exact .inl (by simp)
 ·refine .inr ⟨b,off,rfl,fun i c hi=>hc i c ?_⟩;rw[List.getElem?_take] at hi;split at hi
  ·exact hi
  ·cases hi
structure Sl(α:Type) where
 a:Option Addr
 c:Nat
 l:List α
def Sl.v{α:Type}(s:Sl α):Value:=.slice s.a s.l.length s.c
structure B8{α:Type}(sz:Nat)(f:α→List Value)(w:World)(s:Sl α):Prop where
 row:AF sz f w s.a s.l
 len:s.l.length≤s.c
 cap:s.c≤maxLen
 capNil:s.a=none→s.c=0
theorem B8.below{α:Type}{sz:Nat}{f:α→List Value}{w w':World}{s:Sl α}(h:B8 sz f w s)(hb:Below w.heap.size w w'):B8 sz f w' s:=⟨h.row.below hb,h.len,h.cap,h.capNil⟩
theorem B8.lenM{α:Type}{sz:Nat}{f:α→List Value}{w:World}{s:Sl α}(h:B8 sz f w s):s.l.length≤9223372036854775807:=by have:=h.len;have:=h.cap;unfold maxLen at this;omega
abbrev BA:=ByteArray
def AO(x:Int):List Value:=[.int .i64 x]
def Da(s:BA):List Value:=[.string s]
def Cz(n:Int × Bool):List Value:=[.int .i64 n.1,.bool n.2]
def LQ(p:BA × Int):List Value:=[.string p.1,.int .i64 p.2]
structure Rt where
 nm:BA
 sg:Int
 pa:Sl Int
 po:Sl (Int × Bool)
 ov:Sl Int
 fl:Sl (Int × Bool)
def NE(r:Rt):List Value:=[.string r.nm,.int .i64 r.sg,r.pa.v,r.po.v,r.ov.v,r.fl.v]
structure Cq(w:World)(r:Rt):Prop where
 nm:r.nm.size≤maxLen
 pa:B8 1 AO w r.pa
 po:B8 2 Cz w r.po
 ov:B8 1 AO w r.ov
 fl:B8 2 Cz w r.fl
theorem Cq.below{w w':World}{r:Rt}(h:Cq w r)(hb:Below w.heap.size w w'):Cq w' r:=⟨h.nm,h.pa.below hb,h.po.below hb,h.ov.below hb,h.fl.below hb⟩
structure AM where
 se:Sl BA
 po:Sl (BA × Int)
 sg:Sl (BA × Int)
 rt:Sl Rt
structure B5(w:World)(L:AM):Prop where
 se:B8 1 Da w L.se
 po:B8 2 LQ w L.po
 sg:B8 2 LQ w L.sg
 rt:B8 6 NE w L.rt
 sn:∀ s∈L.se.l,s.size≤maxLen
 pn:∀ p∈L.po.l,p.1.size≤maxLen
 gn:∀ p∈L.sg.l,p.1.size≤maxLen
 rn:∀ r∈L.rt.l,Cq w r
theorem B5.below{w w':World}{L:AM}(h:B5 w L)(hb:Below w.heap.size w w'):B5 w' L:=⟨h.se.below hb,h.po.below hb,h.sg.below hb,h.rt.below hb,h.sn,h.pn,h.gn,fun r hr=>(h.rn r hr).below hb⟩
theorem FV{α:Type}{P:Program}{t e:TypeId}{sz:Nat}{f:α→List Value}{A:α→Prop}{w:World}{cs:List Value}(hu:P.underlying t=some (.slice e))(hsz:P.cellsOf e=sz)(hpos:0<sz)(hlen:∀ c,(f c).length=sz)
 (hel:∀ cs,Rd P w e cs→∃ c:α,cs=f c∧A c) (h:Rd P w t cs):∃ s:Sl α,cs=[s.v]∧B8 sz f w s∧∀ c∈s.l,A c:=by
 rcases h.slice hu with rfl | ⟨x,len,cap,rfl,hlc,hcm,hcell⟩
 ·exact⟨⟨none,0,[]⟩,rfl,⟨.inl rfl,Nat.le_refl _,Nat.zero_le _,fun _=>rfl⟩,by simp⟩
 ·have H:∀ i,i<len→∃ c:α,A c∧∀ j v,(f c)[j]?=some v→w.cell? ((x.add (i*sz)).add j)=some v:=by
   intro i hi;obtain⟨ecs,he,hr⟩:=hcell i (by omega);rw[hsz] at he;obtain⟨c,rfl,hA⟩:=hel ecs hr;obtain⟨_,hg⟩:=H3 he;refine⟨c,hA,fun j v hv=>?_⟩;have hj:j<sz:=by rw[← hlen c];exact(List.getElem?_eq_some_iff.1 hv).1
   obtain⟨v',g0,c0⟩:=hg j hj;rw[hv] at g0;cases g0;exact c0
  obtain⟨l,hl,hq⟩:=KJ len H;refine⟨⟨some x,cap,l⟩,by unfold Sl.v;rw[hl],⟨?_,by dsimp only;omega,hcm,fun h=>by cases h⟩,fun c hc=>?_⟩
  ·rcases l with _ | ⟨c0,l⟩
   ·exact .inl rfl
   ·right;have h0:=(hq 0 c0 rfl).2;have hs:x.spot=none:=by
     have hz:0<(f c0).length:=by rw[hlen];exact hpos
     have:=h0 0 _ (List.getElem?_eq_getElem hz);rw[Nat.zero_mul] at this;exact World.cell?_spot (show w.cell? x=some _ by simpa [Addr.add] using this)
    obtain⟨b,off,spot⟩:=x;subst hs;refine⟨b,off,rfl,fun i c hi j v hv=>?_⟩;have:=(hq i c hi).2 j v hv;simpa only[Addr.add_lit,Nat.add_zero] using this
  ·obtain⟨i,hi⟩:=List.getElem?_of_mem hc;exact(hq i c hi).1
theorem QI{w:World}{cs:List Value}(h:Rd Tryz.prog w 3 cs):∃ c:Int,cs=AO c∧True:=by
 obtain⟨n,rfl,_⟩:=h.int Tryz.underlying3;exact⟨n,rfl,trivial⟩
theorem Qj{w:World}{cs:List Value}(h:Rd Tryz.prog w 9 cs):∃ c:BA,cs=Da c∧c.size≤maxLen:=by
 obtain⟨s,rfl,h2⟩:=h.str Tryz.underlying9;exact⟨s,rfl,h2⟩
theorem Rp{w:World}{cs:List Value}(h:Rd Tryz.prog w 71 cs):∃ c:Int × Bool,cs=Cz c∧True:=by
 obtain⟨hl,hf⟩:=h.fields (L:=[(3,0),(4,1)]) (by kernel_rfl) (by kernel_rfl);rw[show Tryz.prog.cellsOf 71=2 by kernel_rfl] at hl
 match cs,hl with
 | [x,y],_=>
   have h0:=hf (3,0) (by simp);have h1:=hf (4,1) (by simp);simp only[show Tryz.prog.cellsOf 3=1 by kernel_rfl,show Tryz.prog.cellsOf 4=1 by kernel_rfl] at h0 h1;obtain⟨a,ha,_⟩:=h0.int Tryz.underlying3;obtain⟨b,hb⟩:=h1.bool Tryz.underlying4;simp at ha hb;exact⟨(a,b),by rw[ha,hb];rfl,trivial⟩
theorem Rm{w:World}{cs:List Value}(h:Rd Tryz.prog w 68 cs):∃ c:BA × Int,cs=LQ c∧c.1.size≤maxLen:=by
 obtain⟨hl,hf⟩:=h.fields (L:=[(9,0),(3,1)]) (by kernel_rfl) (by kernel_rfl);rw[show Tryz.prog.cellsOf 68=2 by kernel_rfl] at hl
 match cs,hl with
 | [x,y],_=>
   have h0:=hf (9,0) (by simp);have h1:=hf (3,1) (by simp);simp only[show Tryz.prog.cellsOf 3=1 by kernel_rfl,show Tryz.prog.cellsOf 9=1 by kernel_rfl] at h0 h1;obtain⟨a,ha,hs⟩:=h0.str Tryz.underlying9;obtain⟨b,hb,_⟩:=h1.int Tryz.underlying3;simp at ha hb;exact⟨(a,b),by rw[ha,hb];rfl,hs⟩
theorem Rr{w:World}{cs:List Value}(h:Rd Tryz.prog w 69 cs):∃ c:BA × Int,cs=LQ c∧c.1.size≤maxLen:=by
 obtain⟨hl,hf⟩:=h.fields (L:=[(9,0),(3,1)]) (by kernel_rfl) (by kernel_rfl);rw[show Tryz.prog.cellsOf 69=2 by kernel_rfl] at hl
 match cs,hl with
 | [x,y],_=>
   have h0:=hf (9,0) (by simp);have h1:=hf (3,1) (by simp);simp only[show Tryz.prog.cellsOf 3=1 by kernel_rfl,show Tryz.prog.cellsOf 9=1 by kernel_rfl] at h0 h1;obtain⟨a,ha,hs⟩:=h0.str Tryz.underlying9;obtain⟨b,hb,_⟩:=h1.int Tryz.underlying3;simp at ha hb;exact⟨(a,b),by rw[ha,hb];rfl,hs⟩
theorem KS{w:World}{cs:List Value}(h:Rd Tryz.prog w 49 cs):∃ s:Sl Int,cs=[s.v]∧B8 1 AO w s:=by
 obtain⟨s,h1,h2,_⟩:=FV (f:=AO) (sz:=1) (A:=fun _=>True) Tryz.underlying49 (by kernel_rfl) (by decide) (fun _=>rfl) (fun _ h=>QI h) h;exact⟨s,h1,h2⟩
theorem M7{w:World}{cs:List Value}(h:Rd Tryz.prog w 50 cs):∃ s:Sl (Int × Bool),cs=[s.v]∧B8 2 Cz w s:=by
 obtain⟨s,h1,h2,_⟩:=FV (f:=Cz) (sz:=2) (A:=fun _=>True) Tryz.underlying50 (by kernel_rfl) (by decide) (fun _=>rfl) (fun _ h=>Rp h) h;exact⟨s,h1,h2⟩
theorem Rx{w:World}{cs:List Value}(h:Rd Tryz.prog w 52 cs):∃ c:Rt,cs=NE c∧Cq w c:=by
 obtain⟨hl,hf⟩:=h.fields (L:=[(9,0),(3,1),(49,2),(50,3),(49,4),(50,5)]) (by kernel_rfl) (by kernel_rfl);rw[show Tryz.prog.cellsOf 52=6 by kernel_rfl] at hl
 match cs,hl with
 | [x0,x1,x2,x3,x4,x5],_=>
   have h0:=hf (9,0) (by simp);have h1:=hf (3,1) (by simp);have h2:=hf (49,2) (by simp);have h3:=hf (50,3) (by simp);have h4:=hf (49,4) (by simp);have h5:=hf (50,5) (by simp);simp only[show Tryz.prog.cellsOf 3=1 by kernel_rfl,show Tryz.prog.cellsOf 9=1 by kernel_rfl,show Tryz.prog.cellsOf 49=1 by kernel_rfl,show Tryz.prog.cellsOf 50=1 by kernel_rfl] at h0 h1 h2 h3 h4 h5;obtain⟨a,ha,hs⟩:=h0.str Tryz.underlying9;obtain⟨b,hb,_⟩:=h1.int Tryz.underlying3;obtain⟨p,hp,sp⟩:=KS h2;obtain⟨q,hq,sq⟩:=M7 h3;obtain⟨r,hr,sr⟩:=KS h4;obtain⟨s,hs2,ss⟩:=M7 h5;simp at ha hb hp hq hr hs2;exact⟨⟨a,b,p,q,r,s⟩,by rw[ha,hb,hp,hq,hr,hs2];rfl,⟨hs,sp,sq,sr,ss⟩⟩
theorem QQ{w:World}{cs:List Value}(h:Rd Tryz.prog w 27 cs):∃ L:AM,cs=[L.se.v,L.po.v,L.sg.v,L.rt.v]∧B5 w L:=by
 obtain⟨hl,hf⟩:=h.fields (L:=[(22,0),(23,1),(24,2),(25,3)]) (by kernel_rfl) (by kernel_rfl);rw[show Tryz.prog.cellsOf 27=4 by kernel_rfl] at hl
 match cs,hl with
 | [x0,x1,x2,x3],_=>
   have h0:=hf (22,0) (by simp);have h1:=hf (23,1) (by simp);have h2:=hf (24,2) (by simp);have h3:=hf (25,3) (by simp);simp only[show Tryz.prog.cellsOf 22=1 by kernel_rfl,show Tryz.prog.cellsOf 23=1 by kernel_rfl,show Tryz.prog.cellsOf 24=1 by kernel_rfl,show Tryz.prog.cellsOf 25=1 by kernel_rfl] at h0 h1 h2 h3;obtain⟨a,ha,sa,na⟩:=FV (f:=Da) (sz:=1) Tryz.underlying22 (by kernel_rfl) (by decide) (fun _=>rfl) (fun _ h=>Qj h) h0;obtain⟨b,hb,sb,nb⟩:=FV (f:=LQ) (sz:=2) Tryz.underlying23 (by kernel_rfl) (by decide) (fun _=>rfl) (fun _ h=>Rm h) h1;obtain⟨c,hc,sc,nc⟩:=FV (f:=LQ) (sz:=2) Tryz.underlying24 (by kernel_rfl) (by decide) (fun _=>rfl) (fun _ h=>Rr h) h2;obtain⟨d,hd,sd,nd⟩:=FV (f:=NE) (sz:=6) Tryz.underlying25 (by kernel_rfl) (by decide) (fun _=>rfl) (fun _ h=>Rx h) h3;simp at ha hb hc hd;exact⟨⟨a,b,c,d⟩,by rw[ha,hb,hc,hd],⟨sa,sb,sc,sd,na,nb,nc,nd⟩⟩
end Go.Proofs.YtpohoannggdbjaaGreat
namespace Go.Proofs.YtpohoannggdbjaaGreat
open Lib (hid)
open Go.RowKit
set_option maxRecDepth 100000
def BL(r:Int):Bool:=decide (33≤r∧r≠58∧r≠35∧r≠43∧r≠45∧r≠65533∧(r<127∨160<r))
def ND(s:BA):Nat→Nat→Nat→Bool
 | 0,_,n=>decide (1≤n∧n≤16)
 | b+1,pos,n=>if pos<s.size then (if BL (Utf8.decode s pos).1 then ND s b (pos+(Utf8.decode s pos).2) (n+1) else false) else decide (1≤n∧n≤16)
def C3(s:BA):Bool:=ND s s.size 0 0
theorem Kt(s:BA)(b pos n:Nat)(h:¬ pos<s.size):ND s b pos n=decide (1≤n∧n≤16):=by
 cases b with
 | zero=>rfl
 | succ b=>simp[ND,h]
theorem GU(s:BA)(pos:Nat)(h:pos<s.size):1≤(Utf8.decode s pos).2:=by
 by_cases ha:(s[pos]'h).toNat<128
 ·rw[decode_ascii s pos h ha];exact Nat.le_refl _
 ·exact(decode_high s pos h (by omega)).2
theorem Oo(r:Int)(w:World):Calls Tryz.prog 102 #[.int .i32 r] w fun e w'=>e = .returned (.bool (BL r))∧w=w':=by
 by_cases h1:r<33
 ·have HB:Hid (BL r=false):=hid (decide_eq_false (by omega));go_enter Tryz.func102,Tryz.ntmps102;go_wp2_with fail;go_ret;exact⟨by rw[HB.out];rfl,rfl⟩
 by_cases h2:127≤r
 ·by_cases h3:r≤160
  ·have HB:Hid (BL r=false):=hid (decide_eq_false (by omega));go_enter Tryz.func102,Tryz.ntmps102;go_wp2_with fail;go_ret;exact⟨by rw[HB.out];rfl,rfl⟩
  by_cases h4:r=65533
  ·subst h4;have HB:Hid (BL 65533=false):=hid (by decide);go_enter Tryz.func102,Tryz.ntmps102;go_wp2_with fail;go_ret;exact⟨by rw[HB.out];rfl,rfl⟩
  ·have HB:Hid (BL r=true):=hid (decide_eq_true (by omega));have e1:(r == 58)=false:=by simp;omega
   have e2:(r == 35)=false:=by simp;omega
   have e3:(r == 43)=false:=by simp;omega
   have e4:(r == 45)=false:=by simp;omega
   have e5:(r == 65533)=false:=by simp;omega
   clear h4;go_enter Tryz.func102,Tryz.ntmps102;go_wp2_with fail;go_ret;exact⟨by rw[HB.out];rfl,rfl⟩
 ·by_cases h4:r=58
  ·subst h4;have HB:Hid (BL 58=false):=hid (by decide);go_enter Tryz.func102,Tryz.ntmps102;go_wp2_with fail;go_ret;exact⟨by rw[HB.out];rfl,rfl⟩
  by_cases h5:r=35
  ·subst h5;have HB:Hid (BL 35=false):=hid (by decide);go_enter Tryz.func102,Tryz.ntmps102;go_wp2_with fail;go_ret;exact⟨by rw[HB.out];rfl,rfl⟩
  by_cases h6:r=43
  ·subst h6;have HB:Hid (BL 43=false):=hid (by decide);go_enter Tryz.func102,Tryz.ntmps102;go_wp2_with fail;go_ret;exact⟨by rw[HB.out];rfl,rfl⟩
  by_cases h7:r=45
  ·subst h7;have HB:Hid (BL 45=false):=hid (by decide);go_enter Tryz.func102,Tryz.ntmps102;go_wp2_with fail;go_ret;exact⟨by rw[HB.out];rfl,rfl⟩
  ·have HB:Hid (BL r=true):=hid (decide_eq_true (by omega));have e1:(r == 58)=false:=by simpa using h4
   have e2:(r == 35)=false:=by simpa using h5
   have e3:(r == 43)=false:=by simpa using h6
   have e4:(r == 45)=false:=by simpa using h7
   have e5:(r == 65533)=false:=by simp;omega
   clear h4 h5 h6 h7;go_enter Tryz.func102,Tryz.ntmps102;go_wp2_with fail;go_ret;exact⟨by rw[HB.out];rfl,rfl⟩
theorem MA(r:Int)(w:World):Calls Tryz.prog 98 #[.int .i32 r] w fun e w'=>e = .returned (.bool (BL r))∧w=w':=by
 by_cases h1:33≤r
 ·by_cases h4:r=58
  ·subst h4;have HB:Hid (BL 58=false):=hid (by decide);go_enter Tryz.func98,Tryz.ntmps98;go_wp2_with fail;go_ret;exact⟨by rw[HB.out];rfl,rfl⟩
  by_cases h5:r=35
  ·subst h5;have HB:Hid (BL 35=false):=hid (by decide);go_enter Tryz.func98,Tryz.ntmps98;go_wp2_with fail;go_ret;exact⟨by rw[HB.out];rfl,rfl⟩
  by_cases h6:r=43
  ·subst h6;have HB:Hid (BL 43=false):=hid (by decide);go_enter Tryz.func98,Tryz.ntmps98;go_wp2_with fail;go_ret;exact⟨by rw[HB.out];rfl,rfl⟩
  by_cases h7:r=45
  ·subst h7;have HB:Hid (BL 45=false):=hid (by decide);go_enter Tryz.func98,Tryz.ntmps98;go_wp2_with fail;go_ret;exact⟨by rw[HB.out];rfl,rfl⟩
  by_cases h8:r=65533
  ·subst h8;have HB:Hid (BL 65533=false):=hid (by decide);go_enter Tryz.func98,Tryz.ntmps98;go_wp2_with fail;go_ret;exact⟨by rw[HB.out];rfl,rfl⟩
  have e1:(r == 58)=false:=by simpa using h4
  have e2:(r == 35)=false:=by simpa using h5
  have e3:(r == 43)=false:=by simpa using h6
  have e4:(r == 45)=false:=by simpa using h7
  have e5:(r == 65533)=false:=by simpa using h8
  have n1:(r != 58)=true:=by simpa using h4
  have n2:(r != 35)=true:=by simpa using h5
  have n3:(r != 43)=true:=by simpa using h6
  have n4:(r != 45)=true:=by simpa using h7
  have n5:(r != 65533)=true:=by simpa using h8
  by_cases h2:r<127
  ·have HB:Hid (BL r=true):=hid (decide_eq_true (by omega));clear h4 h5 h6 h7 h8;go_enter Tryz.func98,Tryz.ntmps98;go_wp2_with fail;go_ret;exact⟨by rw[HB.out];rfl,rfl⟩
  by_cases h3:160<r
  ·have HB:Hid (BL r=true):=hid (decide_eq_true (by omega));clear h4 h5 h6 h7 h8;go_enter Tryz.func98,Tryz.ntmps98;go_wp2_with fail;go_ret;exact⟨by rw[HB.out];rfl,rfl⟩
  ·have HB:Hid (BL r=false):=hid (decide_eq_false (by omega));clear h4 h5 h6 h7 h8;go_enter Tryz.func98,Tryz.ntmps98;go_wp2_with fail;go_ret;exact⟨by rw[HB.out];rfl,rfl⟩
 ·have HB:Hid (BL r=false):=hid (decide_eq_false (by omega));go_enter Tryz.func98,Tryz.ntmps98;go_wp2_with fail;go_ret;exact⟨by rw[HB.out];rfl,rfl⟩
theorem K6(b:Bool)(r:Int)(w:World)(h:BL r=b):Calls Tryz.prog 102 #[.int .i32 r] w fun e w'=>e = .returned (.bool b)∧w=w':=h ▸ Oo r w
theorem IL(b:Bool)(r:Int)(w:World)(h:BL r=b):Calls Tryz.prog 98 #[.int .i32 r] w fun e w'=>e = .returned (.bool b)∧w=w':=h ▸ MA r w
theorem ID{s:BA}{b pos n:Nat}(hp:pos<s.size):ND s (b+1) pos n=if BL (Utf8.decode s pos).1 then ND s b (pos+(Utf8.decode s pos).2) (n+1) else false:=by
 show(if pos<s.size then _ else _)=_;rw[if_pos hp]
attribute [local irreducible] BL ND
theorem Cb(w:World)(s:BA)(p:Nat):Below w.heap.size w (w.iter s p):=Ac w _
set_option maxRecDepth 100000 in
theorem LZ(s:BA)(w:World)(hs:s.size≤maxLen) :
 Calls Tryz.prog 81 #[.string s] w fun e w'=>e = .returned (.bool (C3 s))∧Below w.heap.size w w':=by
 have hsz:s.size≤9223372036854775807:=by unfold maxLen at hs;omega
 clear hs;go_enter Tryz.func81,Tryz.ntmps81;go_wp2_with fail;go_loopw [3] (fun n w'=>∃(pos b k:Nat),w'=w.iter s pos∧n = .int .i64 k∧ND s b pos k=C3 s∧s.size≤pos+b∧k≤pos) (fun _ w'=>s.size - w'.iterPos w.heap.size)
 case atStart=>exact⟨0,s.size,0,rfl,rfl,rfl,by omega,by omega⟩
 case round=>
  obtain⟨pos,b,k,rfl,rfl,hc,hb,hk⟩:=hrel;by_cases hp:pos<s.size
  ·have hnx:∀ ty,(Instr.next (.pointer (some ⟨w.heap.size,0,none⟩)) true ty).run Tryz.prog (w.iter s pos)=_:=fun ty=>run_next_any w s pos ty hp
   have hwd:=GU s pos hp;cases b with
   | zero=>omega
   | succ b=>
     rw[ID hp] at hc;have HW:=hid (show wrap64 ((k:Int)+1)=(k:Int)+1 by unfold wrap64;omega);obtain⟨D,hD⟩:∃ D,Utf8.decode s pos=D:=⟨_,rfl⟩;rw[hD] at hnx hwd hc;obtain⟨rr,wd⟩:=D;dsimp only at hnx hwd hc;cases hg:BL (rr:Int) with
     | true=>
       rw[if_pos hg] at hc;have HG:=hid hg;have HC:=hid hc;have hw:=HW.out;clear hg hc hD;go_wp2_with fail;refine(K6 true _ _ HG.out).mono ?_;rintro e w1 ⟨rfl,rfl⟩;go_wp2_with fail;go_roundw
       case rel=>exact⟨pos+wd,b,k+1,rfl,by go_num,HC.out,by omega,by omega⟩
       case measure=>simp;omega
     | false=>
       rw[if_neg (by rw[hg];decide)] at hc;have HG:=hid hg;have HC:=hid hc;clear hg hc hD;go_wp2_with fail;refine(K6 false _ _ HG.out).mono ?_;rintro e w1 ⟨rfl,rfl⟩;go_wp2_with fail;go_ret;exact⟨by rw[← HC.out];rfl,Cb w s _⟩
  ·have hnx:∀ ty,(Instr.next (.pointer (some ⟨w.heap.size,0,none⟩)) true ty).run Tryz.prog (w.iter s pos)=_:=fun ty=>run_next_end w s pos ty hp
   rw[Kt s b pos k hp] at hc;by_cases h1:1≤k
   ·by_cases h2:k≤16
    ·rw[decide_eq_true ⟨h1,h2⟩] at hc;have HC:=hid hc;have i1:(1:Int)≤k:=by omega
     have i2:(k:Int)≤16:=by omega
     clear hc h1 h2;go_wp2_with fail;go_ret;exact⟨by rw[← HC.out];rfl,Cb w s _⟩
    ·rw[decide_eq_false (by omega)] at hc;have HC:=hid hc;have i1:(1:Int)≤k:=by omega
     have i2:¬ (k:Int)≤16:=by omega
     clear hc h1 h2;go_wp2_with fail;go_ret;exact⟨by rw[← HC.out];rfl,Cb w s _⟩
   ·rw[decide_eq_false (by omega)] at hc;have HC:=hid hc;have i1:¬ (1:Int)≤k:=by omega
    clear hc h1;go_wp2_with fail;go_ret;exact⟨by rw[← HC.out];rfl,Cb w s _⟩
set_option maxRecDepth 100000 in
theorem Ly(s:BA)(w:World)(hs:s.size≤maxLen) :
 Calls Tryz.prog 64 #[.string s] w fun e w'=>e = .returned (.bool (C3 s))∧Below w.heap.size w w':=by
 have hsz:s.size≤9223372036854775807:=by unfold maxLen at hs;omega
 clear hs;go_enter Tryz.func64,Tryz.ntmps64;go_wp2_with fail;go_loopw [3] (fun n w'=>∃(pos b k:Nat),w'=w.iter s pos∧n = .int .i64 k∧ND s b pos k=C3 s∧s.size≤pos+b∧k≤pos) (fun _ w'=>s.size - w'.iterPos w.heap.size)
 case atStart=>exact⟨0,s.size,0,rfl,rfl,rfl,by omega,by omega⟩
 case round=>
  obtain⟨pos,b,k,rfl,rfl,hc,hb,hk⟩:=hrel;by_cases hp:pos<s.size
  ·have hnx:∀ ty,(Instr.next (.pointer (some ⟨w.heap.size,0,none⟩)) true ty).run Tryz.prog (w.iter s pos)=_:=fun ty=>run_next_any w s pos ty hp
   have hwd:=GU s pos hp;cases b with
   | zero=>omega
   | succ b=>
     rw[ID hp] at hc;have HW:=hid (show wrap64 ((k:Int)+1)=(k:Int)+1 by unfold wrap64;omega);obtain⟨D,hD⟩:∃ D,Utf8.decode s pos=D:=⟨_,rfl⟩;rw[hD] at hnx hwd hc;obtain⟨rr,wd⟩:=D;dsimp only at hnx hwd hc;cases hg:BL (rr:Int) with
     | true=>
       rw[if_pos hg] at hc;have HG:=hid hg;have HC:=hid hc;have hw:=HW.out;clear hg hc hD;go_wp2_with fail;refine(IL true _ _ HG.out).mono ?_;rintro e w1 ⟨rfl,rfl⟩;go_wp2_with fail;go_roundw
       case rel=>exact⟨pos+wd,b,k+1,rfl,by go_num,HC.out,by omega,by omega⟩
       case measure=>simp;omega
     | false=>
       rw[if_neg (by rw[hg];decide)] at hc;have HG:=hid hg;have HC:=hid hc;clear hg hc hD;go_wp2_with fail;refine(IL false _ _ HG.out).mono ?_;rintro e w1 ⟨rfl,rfl⟩;go_wp2_with fail;go_ret;exact⟨by rw[← HC.out];rfl,Cb w s _⟩
  ·have hnx:∀ ty,(Instr.next (.pointer (some ⟨w.heap.size,0,none⟩)) true ty).run Tryz.prog (w.iter s pos)=_:=fun ty=>run_next_end w s pos ty hp
   rw[Kt s b pos k hp] at hc;by_cases h1:1≤k
   ·by_cases h2:k≤16
    ·rw[decide_eq_true ⟨h1,h2⟩] at hc;have HC:=hid hc;have i1:(1:Int)≤k:=by omega
     have i2:(k:Int)≤16:=by omega
     clear hc h1 h2;go_wp2_with fail;go_ret;exact⟨by rw[← HC.out];rfl,Cb w s _⟩
    ·rw[decide_eq_false (by omega)] at hc;have HC:=hid hc;have i1:(1:Int)≤k:=by omega
     have i2:¬ (k:Int)≤16:=by omega
     clear hc h1 h2;go_wp2_with fail;go_ret;exact⟨by rw[← HC.out];rfl,Cb w s _⟩
   ·rw[decide_eq_false (by omega)] at hc;have HC:=hid hc;have i1:¬ (1:Int)≤k:=by omega
    clear hc h1;go_wp2_with fail;go_ret;exact⟨by rw[← HC.out];rfl,Cb w s _⟩
end Go.Proofs.YtpohoannggdbjaaGreat
namespace Go.Proofs.YtpohoannggdbjaaGreat
open Lib (hid)
open Go.RowKit
set_option maxRecDepth 100000
attribute [local irreducible] BL ND C3
def Ff(w:World)(r:Nat)(L:List BA):Prop:=∃ es clock,w.heap[r]?=some (.map es clock)∧es.toList.map (·.key)=L.map Value.string
theorem Ff.below{w w':World}{r:Nat}{L:List BA}(h:Ff w r L)(hb:Below w.heap.size w w'):Ff w' r L:=by
 obtain⟨es,clock,h1,h2⟩:=h;exact⟨es,clock,A5 hb h1,h2⟩
theorem Kr{es:List MapEntry}{L:List BA}(h:es.map (·.key)=L.map Value.string):∀ x∈es,MapKept.IsKey .string x.key:=by
 intro x hx;have:x.key∈L.map Value.string:=by rw[← h];exact List.mem_map.2 ⟨x,hx,rfl⟩
 obtain⟨s,_,hs⟩:=List.mem_map.1 this;rw[← hs];exact trivial
theorem PL{es:List MapEntry}{L:List BA}{s:BA}(h:es.map (·.key)=L.map Value.string)(hs:s ∉ L):Instr.findNow .string (.string s) es 0=some none:=by
 rcases MapKept.findNow_spec (d:=.string) (k:=.string s) trivial es 0 (Kr h) with ⟨h1,_⟩ | ⟨j,e,_,h2,h3⟩
 ·exact h1
 ·exfalso;apply hs;have:e.key∈L.map Value.string:=by rw[← h];exact List.mem_map.2 ⟨e,List.mem_of_getElem? h2,rfl⟩
  obtain⟨t,ht,he⟩:=List.mem_map.1 this;rw[h3] at he;cases he;exact ht
theorem QR{es:List MapEntry}{L:List BA}{s:BA}(h:es.map (·.key)=L.map Value.string)(hs:s∈L):∃ j v,Instr.findNow .string (.string s) es 0=some (some (j,v)):=by
 rcases MapKept.findNow_spec (d:=.string) (k:=.string s) trivial es 0 (Kr h) with ⟨_,h2⟩ | ⟨j,e,h1,_,_⟩
 ·exfalso;have:Value.string s∈es.map (·.key):=by rw[h];exact List.mem_map.2 ⟨s,hs,rfl⟩
  obtain⟨x,hx,he⟩:=List.mem_map.1 this;exact h2 x hx he
 ·exact⟨_,_,h1⟩
theorem Mn:(Tryz.prog.info? 20).map (fun i=>(i.zero,i.size,i.bytes))=some (some .nilIface,1,16):=by kernel_rfl
theorem JL{w:World}{r:Nat}{L:List BA}{s:BA}(h:Ff w r L)(hs:s∈L):∃ v,(Instr.lookup 138 (.map (some r)) (.string s) true).run Tryz.prog w = .ok (.tuple #[v,.bool true]) w:=by
 obtain⟨es,clock,h1,h2⟩:=h;obtain⟨j,v,h3⟩:=QR h2 hs;have hc:(Instr.checkKey es.isEmpty 10000 9 (.string s)).run Tryz.prog w = .ok () w:=MapKept.run_checkKey (k:=.string s) Tryz.underlying9 (by simp[MapKept.IsKey]) es.isEmpty 9999;exact⟨v,by simp[Instr.lookup,run_underlying Tryz.underlying138,MapKept.run_getObj_map h1,hc,MapKept.run_findKey Tryz.underlying9 h3,Result.andThen]⟩
theorem L8{w:World}{r:Nat}{L:List BA}{s:BA}(h:Ff w r L)(hs:s ∉ L):(Instr.lookup 138 (.map (some r)) (.string s) true).run Tryz.prog w = .ok (.tuple #[.nilIface,.bool false]) w:=by
 obtain⟨es,clock,h1,h2⟩:=h;have h3:=PL h2 hs;have hc:(Instr.checkKey es.isEmpty 10000 9 (.string s)).run Tryz.prog w = .ok () w:=MapKept.run_checkKey (k:=.string s) Tryz.underlying9 (by simp[MapKept.IsKey]) es.isEmpty 9999;obtain⟨i0,hi,hz0,_,_⟩:=info_parts Mn;have hz:(zeroValue 20).run Tryz.prog w = .ok .nilIface w:=by simp[zeroValue,typeInfo,hi,hz0,Result.andThen]
 simp[Instr.lookup,run_underlying Tryz.underlying138,MapKept.run_getObj_map h1,hc,MapKept.run_findKey Tryz.underlying9 h3,hz,Result.andThen]
theorem Jj{w:World}{r:Nat}{L:List BA}{s:BA}(v:Value)(h:Ff w r L)(hs:s ∉ L):∃ w',(Instr.mapUpdate 138 (.map (some r)) (.string s) v).run Tryz.prog w = .ok () w'∧Ff w' r (L ++ [s])∧Ag r w w':=by
 obtain⟨es,clock,h1,h2⟩:=h;have h3:=PL h2 hs;have hc:(Instr.checkKey false 10000 9 (.string s)).run Tryz.prog w = .ok () w:=MapKept.run_checkKey (k:=.string s) Tryz.underlying9 (by simp[MapKept.IsKey]) false 9999;refine⟨{ w with heap:=w.heap.setIfInBounds r (.map (es.push { key:=.string s,val:=v,born:=clock }) (clock+1)) },?_,?_,?_⟩
 ·simp[Instr.mapUpdate,run_underlying Tryz.underlying138,MapKept.run_getObj_map h1,hc,MapKept.run_findKey Tryz.underlying9 h3,MapKept.run_setObj_map _ h1,Result.andThen]
 ·exact⟨_,_,(MapKept.heap_set h1).1,by rw[Array.toList_push,List.map_append,h2,List.map_append];rfl⟩
 ·exact⟨rfl,rfl,rfl,by simp,fun k _ hk=>(MapKept.heap_set h1).2 k hk⟩
structure Ch(w:World)(gb r:Nat)(L:List BA):Prop where
 b:∃ v0 v1 v2 v3:Value,w.heap[gb]?=some (.cells #[v0,v1,v2,v3,.map (some r)] 140)
 n:Ff w r L
 ne:gb≠r
theorem Ch.below{w w':World}{gb r:Nat}{L:List BA}(h:Ch w gb r L)(hb:Below w.heap.size w w'):Ch w' gb r L:=by
 obtain⟨⟨v0,v1,v2,v3,h1⟩,h2,h3⟩:=h;exact⟨⟨v0,v1,v2,v3,A5 hb h1⟩,h2.below hb,h3⟩
theorem Eg(gb r:Nat)(L:List BA)(s:BA)(v:Value)(w:World)(h:Ch w gb r L)(hs:s ∉ L) :
 Calls Tryz.prog 82 #[.pointer (some ⟨gb,0,none⟩),.string s,v] w fun e w'=>e = .returned (.bool true)∧Ch w' gb r (L ++ [s])∧Ag r w w':=by
 obtain⟨⟨v0,v1,v2,v3,h1⟩,h2,h3⟩:=h;have c4:=A4 h1 4 _ rfl;have hlk:=L8 h2 hs;obtain⟨w1,hup,hn,ho⟩:=Jj v h2 hs;have HE:Hid (Ch w1 gb r (L ++ [s])∧Ag r w w1):=hid ⟨⟨⟨v0,v1,v2,v3,ho.keep h3 h1⟩,hn,h3⟩,ho⟩;clear h1 h2 h3 hn ho hs;go_enter Tryz.func82,Tryz.ntmps82;go_wp2_with fail;go_ret;exact⟨rfl,HE.out.1,HE.out.2⟩
theorem Ev(gb r:Nat)(L:List BA)(s:BA)(v:Value)(w:World)(h:Ch w gb r L)(hs:s∈L) :
 Calls Tryz.prog 82 #[.pointer (some ⟨gb,0,none⟩),.string s,v] w fun e w'=>e = .returned (.bool false)∧w=w':=by
 obtain⟨⟨v0,v1,v2,v3,h1⟩,h2,h3⟩:=h;have c4:=A4 h1 4 _ rfl;obtain⟨u,hlk⟩:=JL h2 hs;clear h1 h2 h3 hs;go_enter Tryz.func82,Tryz.ntmps82;go_wp2_with fail;go_ret;exact⟨rfl,rfl⟩
def Au(n:Nat)(l:List Int):Bool:=l.all fun x=>decide (0≤x∧x<(n:Int))
theorem Is(n:Nat)(l:List Int)(x:Int):Au n (l ++ [x])=(Au n l && decide (0≤x∧x<(n:Int))):=by unfold Au;rw[List.all_append];simp
theorem C9{n:Nat}{l:List Int}{k:Nat}{x:Int}(h:l[k]?=some x):Au n (l.take (k+1))=(Au n (l.take k) && decide (0≤x∧x<(n:Int))):=by
 rw[List.take_add_one,h];exact Is _ _ _
theorem Cf{n:Nat}{l:List Int}{k:Nat}{x:Int}(h:l[k]?=some x)(hx:¬ (0≤x∧x<(n:Int))):Au n l=false:=by
 unfold Au;rw[List.all_eq_false];exact⟨x,List.mem_of_getElem? h,by simp;omega⟩
attribute [local irreducible] Au
theorem MU(n:Nat)(x:Option Addr)(m c:Nat)(l:List Int)(w:World)(hn:l.length=m)(hm:m≤9223372036854775807)(hl:AF 1 AO w x l) :
 Calls Tryz.prog 83 #[.int .i64 (n:Int),.slice x m c] w fun e w'=>e = .returned (.bool (Au n l))∧w=w':=by
 have HN:=hid hn;clear hn;go_enter Tryz.func83,Tryz.ntmps83;go_wp2_with fail;go_loopg [6,9] m (fun g _ i wr=>∃ k:Nat,k+g=m∧i = .int .i64 (k:Int)∧Au n (l.take k)=true∧w=wr)
 case atStart=>exact⟨0,by omega,rfl,by unfold Au;rfl,rfl⟩
 case round=>
  obtain⟨k,hk,rfl,hb,rfl⟩:=hrel;have HB:=hid hb;clear hb;by_cases hlt:k<m
  ·obtain⟨y,hy⟩:∃ y,l[k]?=some y:=⟨_,List.getElem?_eq_getElem (by rw[HN.out];exact hlt)⟩;rcases hl with rfl | ⟨b,off,rfl,hc⟩
   ·simp at hy
   have z0:=hc k y hy 0 _ rfl;rw[Nat.add_zero,Nat.mul_one] at z0;have HY:=hid hy;have d1:(0:Int)≤k:=by omega
   have d2:(k:Int)<m:=by omega
   have e1:wrap64 ((k:Int)+1)=(k:Int)+1:=by unfold wrap64;omega
   have HK:=hid hk;clear hc hy hk;by_cases h1:y<0
   ·have HF:=hid (Cf (n:=n) HY.out (by omega));go_wp2_with fail;go_ret;exact⟨by rw[HF.out];rfl,rfl⟩
   by_cases h2:(n:Int)≤y
   ·have HF:=hid (Cf (n:=n) HY.out (by omega));go_wp2_with fail;go_ret;exact⟨by rw[HF.out];rfl,rfl⟩
   ·have HT:Hid (Au n (l.take (k+1))=true):=hid (by rw[C9 HY.out,HB.out,decide_eq_true (by omega)];rfl);go_wp2_with fail;go_roundg (m - (k+1))
    case rel=>exact⟨k+1,by have:=HK.out;omega,by go_num,HT.out,rfl⟩
    case measure=>have:=HK.out;omega
  ·obtain rfl:k=m:=by omega
   have HT:Hid (Au n l=true):=hid (by have:=HB.out;rwa [List.take_of_length_le (by rw[HN.out];exact Nat.le_refl _)] at this);go_wp2_with fail;go_ret;exact⟨by rw[HT.out];rfl,rfl⟩
end Go.Proofs.YtpohoannggdbjaaGreat
namespace Go.Proofs.YtpohoannggdbjaaGreat
open Lib (hid)
open Go.RowKit
set_option maxRecDepth 100000
def Cc(n:Nat)(l:List (Int × Bool)):Bool:=decide (l.length≤16) && Au n (l.map (·.1))
def D9(pre:List BA)(s:BA):Bool:=pre.any fun x=>decide (x=s)
theorem DP{pre:List BA}{s:BA}:D9 pre s=true↔s∈pre:=by
 unfold D9;rw[List.any_eq_true];constructor
 ·rintro⟨x,hx,h⟩;have:=of_decide_eq_true h;subst this;exact hx
 ·exact fun h=>⟨s,h,decide_eq_true rfl⟩
def CL(pre:List BA)(s:BA):Bool:=C3 s && !D9 pre s
def AG:List BA→List BA→Bool
 | _,[]=>true
 | pre,s :: t=>CL pre s && AG (pre ++ [s]) t
def Bv(pre:List BA)(n:Nat)(l:List (BA × Int)):Bool:=AG pre (l.map (·.1)) && Au n (l.map (·.2))
def ES(S P:Nat)(r:Rt):Bool:=decide (r.pa.l.length≤16) && decide (r.ov.l.length≤16) && Au S r.pa.l && Au S r.ov.l && (Cc P r.po.l && Cc P r.fl.l)
def BE(pre:List BA)(G S P:Nat)(l:List Rt):Bool:=AG pre (l.map (·.nm)) && Au G (l.map (·.sg)) && l.all (ES S P)
def AM.n1(L:AM):List BA:=L.se.l
def AM.n2(L:AM):List BA:=L.se.l ++ L.po.l.map (·.1)
def AM.n3(L:AM):List BA:=L.n2 ++ L.sg.l.map (·.1)
def AM.small(L:AM):Bool:=decide (L.se.l.length≤64∧L.po.l.length≤32∧L.sg.l.length≤32∧L.rt.l.length≤64)
def AQ(L:AM):Bool:=L.small && (AG [] L.se.l && Bv L.n1 L.se.l.length L.po.l && Bv L.n2 L.se.l.length L.sg.l && BE L.n3 L.sg.l.length L.se.l.length L.po.l.length L.rt.l)
theorem N5(s:BA):∀(l pre:List BA),AG pre (l ++ [s])=(AG pre l && CL (pre ++ l) s):=by
 intro l
 induction l with
 | nil=>intro pre;simp[AG]
 | cons a l ih=>intro pre;simp[AG,ih,Bool.and_assoc]
theorem DG:∀(l m pre:List BA),AG pre (l ++ m)=(AG pre l && AG (pre ++ l) m):=by
 intro l
 induction l with
 | nil=>intro m pre;simp[AG]
 | cons a l ih=>intro m pre;simp[AG,ih,Bool.and_assoc]
theorem Dz{pre l:List BA}{k:Nat}{s:BA}(h:l[k]?=some s):AG pre (l.take (k+1))=(AG pre (l.take k) && CL (pre ++ l.take k) s):=by
 rw[List.take_add_one,h];exact N5 _ _ _
theorem CJ{α β:Type}{f:α→β}{l:List α}{k:Nat}:(l.take k).map f=(l.map f).take k:=List.map_take
theorem CD{α β:Type}{f:α→β}{l:List α}{k:Nat}{c:α}(h:l[k]?=some c):(l.map f)[k]?=some (f c):=by rw[List.getElem?_map,h];rfl
theorem FW{pre:List BA}{n:Nat}{l:List (BA × Int)}{k:Nat}{c:BA × Int}(h:l[k]?=some c):Bv pre n (l.take (k+1))=(Bv pre n (l.take k) && (CL (pre ++ (l.take k).map (·.1)) c.1 && decide (0≤c.2∧c.2<(n:Int)))):=by
 unfold Bv;rw[CJ,CJ,Dz (CD h),C9 (CD h),CJ,CJ];cases AG pre ((l.map (·.1)).take k)<;>cases Au n ((l.map (·.2)).take k)<;>simp
theorem EQ{pre:List BA}{G S P:Nat}{l:List Rt}{k:Nat}{c:Rt}(h:l[k]?=some c):BE pre G S P (l.take (k+1))=(BE pre G S P (l.take k) && (CL (pre ++ (l.take k).map (·.nm)) c.nm && decide (0≤c.sg∧c.sg<(G:Int)) && ES S P c)):=by
 have ha:(l.take (k+1)).all (ES S P)=((l.take k).all (ES S P) && ES S P c):=by rw[List.take_add_one,h,List.all_append];simp
 unfold BE;rw[ha,CJ,CJ,Dz (CD h),C9 (CD h),CJ,CJ];cases AG pre ((l.map (·.nm)).take k)<;>cases Au G ((l.map (·.sg)).take k)<;>cases (l.take k).all (ES S P)<;>simp
theorem FB(n:Nat)(x:Int):Au n [x]=decide (0≤x∧x<(n:Int)):=by unfold Au;simp
theorem CK(b:Bool)(s:BA)(w:World)(hs:s.size≤maxLen)(h:C3 s=b):Calls Tryz.prog 81 #[.string s] w fun e w'=>e = .returned (.bool b)∧Below w.heap.size w w':=h ▸ LZ s w hs
theorem Dv(B:Bool)(n:Nat)(x:Option Addr)(m c:Nat)(l:List Int)(w:World)(hB:Au n l=B)(hn:l.length=m)(hm:m≤9223372036854775807)(hl:AF 1 AO w x l) :
 Calls Tryz.prog 83 #[.int .i64 (n:Int),.slice x m c] w fun e w'=>e = .returned (.bool B)∧w=w':=hB ▸ MU n x m c l w hn hm hl
theorem Ky{w:World}{g:Nat}{x:Int}{t:TypeId}{fr:Nat × Nat}(h:w.heap[g]?=some (.cells #[.int .i64 x] t fr)):AF 1 AO w (some ⟨g,0,none⟩) [x]:=by
 refine .inr ⟨g,0,rfl,fun i c hi j v hv=>?_⟩;have hi1:i<1:=(List.getElem?_eq_some_iff.1 hi).1;have hj1:j<1:=(List.getElem?_eq_some_iff.1 hv).1;obtain rfl:i=0:=by omega
 obtain rfl:j=0:=by omega
 simp at hi hv;subst hi;simp[AO] at hv;subst hv;exact A4 h 0 _ rfl
theorem Ea(n:Nat)(x:Int)(w:World)(g:Nat)(t:TypeId)(fr:Nat × Nat)(h:w.heap[g]?=some (.cells #[.int .i64 x] t fr)):Calls Tryz.prog 83 #[.int .i64 (n:Int),.slice (some ⟨g,0,none⟩) 1 1] w fun e w'=>e = .returned (.bool (decide (0≤x∧x<(n:Int))))∧w=w':=
 Dv _ n _ 1 1 [x] _ (FB n x) rfl (by omega) (Ky h)
theorem Ll{n:Nat}{l:List (Int × Bool)}(h:¬ l.length≤16):Cc n l=false:=by unfold Cc;rw[decide_eq_false h];rfl
theorem Nx{n:Nat}{l:List (Int × Bool)}{k:Nat}{c:Int × Bool}(h:l[k]?=some c)(hx:¬ (0≤c.1∧c.1<(n:Int))):Cc n l=false:=by
 unfold Cc;rw[Cf (CD h) hx,Bool.and_false]
attribute [local irreducible] Au Cc CL AG
set_option maxHeartbeats 1000000 in
theorem Qn(p:Nat)(x:Option Addr)(m c:Nat)(l:List (Int × Bool))(w:World)(hn:l.length=m)(hm:m≤9223372036854775807)(hl:AF 2 Cz w x l) :
 Calls Tryz.prog 84 #[.slice x m c,.int .i64 (p:Int)] w fun e w'=>e = .returned (.bool (Cc p l))∧Below w.heap.size w w':=by
 have HN:=hid hn;clear hn;go_enter Tryz.func84,Tryz.ntmps84;go_wp2_with fail;go_loopg [5,6,9] m (fun g _ _ i wr=>∃ k:Nat,k+g=m∧k≤16∧i = .int .i64 (k:Int)∧Au p ((l.map (·.1)).take k)=true∧Below w.heap.size w wr)
 case atStart=>exact⟨0,by omega,by omega,rfl,by unfold Au;rfl,Below.refl _ _⟩
 case round=>
  obtain⟨k,hk,hk16,rfl,hb,hbw⟩:=hrel;have HB:=hid hb;clear hb;by_cases hlt:k<m
  ·obtain⟨y,hy⟩:∃ y,l[k]?=some y:=⟨_,List.getElem?_eq_getElem (by rw[HN.out];exact hlt)⟩;have hl2:=hl.below hbw;rcases hl2 with rfl | ⟨b,off,rfl,hc⟩
   ·simp at hy
   obtain⟨y0,y1⟩:=y;have z0:=hc k _ hy 0 _ rfl;have z1:=hc k _ hy 1 _ rfl;rw[Nat.add_zero] at z0;dsimp only at z0 z1;have HY:=hid hy;have d1:(0:Int)≤k:=by omega
   have d2:(k:Int)<m:=by omega
   have e1:wrap64 ((k:Int)+1)=(k:Int)+1:=by unfold wrap64;omega
   have HK:=hid hk;have HBW:=hid hbw;clear hc hy hk hbw;by_cases h16:k=16
   ·have HF:Hid (Cc p l=false):=hid (Ll (by have:=HN.out;omega));have h3:(16:Int)≤k:=by omega
    clear hk16 h16;go_wp2_with fail;go_ret;refine⟨by rw[HF.out];rfl,?_⟩;exact A8 HBW.out (Ac _ _)
   have h3:¬ (16:Int)≤k:=by omega
   have HK16:=hid (show k+1≤16 by omega);clear hk16 h16;obtain⟨D,hD⟩:∃ D,decide (0≤y0∧y0<(p:Int))=D:=⟨_,rfl⟩;have HKK:Hid (∀(W:World) (g:Nat),W.heap[g]?=some (.cells #[.int .i64 y0] 3)→Calls Tryz.prog 83 #[.int .i64 (p:Int),.slice (some ⟨g,0,none⟩) 1 1] W fun e w'=>e = .returned (.bool D)∧W=w'):=hid (fun W g h=>hD ▸ Ea p y0 W g 3 (0,0) h);cases D with
   | true=>
     have HT:Hid (Au p ((l.map (·.1)).take (k+1))=true):=hid (by rw[C9 (CD HY.out),HB.out,hD];rfl);clear hD;go_wp2_with fail;refine(HKK.out _ _ (De wr _ _).2).mono ?_;rintro e w7 ⟨rfl,rfl⟩;go_wp2_with fail;go_roundg (m - (k+1))
     case rel=>exact⟨k+1,by have:=HK.out;omega,HK16.out,by go_num,HT.out,A8 HBW.out (C1 wr _ _)⟩
     case measure=>have:=HK.out;omega
   | false=>
     have HF:Hid (Cc p l=false):=hid (Nx HY.out (by dsimp only;exact of_decide_eq_false hD));clear hD;go_wp2_with fail;refine(HKK.out _ _ (De wr _ _).2).mono ?_;rintro e w7 ⟨rfl,rfl⟩;go_wp2_with fail;go_ret;exact⟨by rw[HF.out];rfl,A8 HBW.out (C1 wr _ _)⟩
  ·obtain rfl:k=m:=by omega
   have HT:Hid (Cc p l=true):=hid (by
    have h1:=HB.out;rw[List.take_of_length_le (by rw[List.length_map,HN.out];exact Nat.le_refl _)] at h1;have h2:=HN.out;unfold Cc;rw[h1,decide_eq_true (by omega)];rfl)
   have HBW:=hid hbw;clear hbw;go_wp2_with fail;go_ret;exact⟨by rw[HT.out];rfl,HBW.out⟩
theorem Hf(B:Bool)(p:Nat)(x:Option Addr)(m c:Nat)(l:List (Int × Bool))(w:World)(hB:Cc p l=B)(hn:l.length=m)(hm:m≤9223372036854775807)(hl:AF 2 Cz w x l) :
 Calls Tryz.prog 84 #[.slice x m c,.int .i64 (p:Int)] w fun e w'=>e = .returned (.bool B)∧Below w.heap.size w w':=hB ▸ Qn p x m c l w hn hm hl
end Go.Proofs.YtpohoannggdbjaaGreat
namespace Go.Proofs.YtpohoannggdbjaaGreat
open Lib (hid)
open Go.RowKit
set_option maxRecDepth 100000
structure Ga(w0 w:World)(gl gb r:Nat)(L:AM):Prop where
 lay:w.heap[gl]?=some (.cells #[L.se.v,L.po.v,L.sg.v,L.rt.v] 27)
 o1:w0.heap.size≤gl
 o2:gl<r
 o3:r<gb
 o4:gb<w.heap.size
 below:Below w0.heap.size w0 w
theorem Ga.step{w0 w w':World}{gl gb r:Nat}{L:AM}(h:Ga w0 w gl gb r L)(hb:Below w.heap.size w w'):Ga w0 w' gl gb r L:=⟨A5 hb h.lay,h.o1,h.o2,h.o3,Nat.lt_of_lt_of_le h.o4 hb.size,h.below.trans (hb.mono h.below.size)⟩
theorem Ga.only{w0 w w':World}{gl gb r:Nat}{L:AM}(h:Ga w0 w gl gb r L)(ho:Ag r w w'):Ga w0 w' gl gb r L:=by
 obtain⟨h1,o1,o2,o3,o4,bl⟩:=h;exact⟨ho.keep (by omega) h1,o1,o2,o3,Nat.lt_of_lt_of_le o4 ho.size,Ag.below bl (by omega) bl.size ho⟩
theorem Fu{pre:List BA}{s:BA}(h:D9 pre s=false):s ∉ pre:=fun hm=>by rw[DP.2 hm] at h;exact absurd h (by decide)
theorem G6{pre:List BA}{s:BA}(h:C3 s=false):CL pre s=false:=by unfold CL;rw[h];rfl
theorem Hd{pre:List BA}{s:BA}(h:D9 pre s=true):CL pre s=false:=by unfold CL;rw[h];simp
theorem Ie{pre:List BA}{s:BA}(h1:C3 s=true)(h2:D9 pre s=false):CL pre s=true:=by unfold CL;rw[h1,h2];rfl
theorem DA{P:Program}{c:Code}{Q:Exit→Act→World→Prop}{a:Act}{w:World}(h:∀ W,W=w→c.wp P Q a W):c.wp P Q a w:=h w rfl
theorem RI{l:List BA}{k:Nat}{s:BA}(h:l[k]?=some s)(hs:AG [] (l.take k)=false):AG [] (l.take (k+1))=false:=by rw[Dz h,hs];rfl
theorem Nu{l:List BA}{k:Nat}{s:BA}{b:Bool}(h:l[k]?=some s)(hs:AG [] (l.take k)=true)(hb:CL (l.take k) s=b):AG [] (l.take (k+1))=b:=by rw[Dz h,hs,List.nil_append,hb];rfl
theorem PO{A:Bool}{pre:List BA}{n:Nat}{l:List (BA × Int)}{k:Nat}{c:BA × Int}(h:l[k]?=some c)(hs:(A && Bv pre n (l.take k))=false):(A && Bv pre n (l.take (k+1)))=false:=by rw[FW h,← Bool.and_assoc,hs];rfl
theorem Kx{A:Bool}{pre:List BA}{n:Nat}{l:List (BA × Int)}{k:Nat}{c:BA × Int}(h:l[k]?=some c)(hb:CL (pre ++ (l.take k).map (·.1)) c.1=false):(A && Bv pre n (l.take (k+1)))=false:=by rw[FW h,hb];simp
theorem PU{A:Bool}{pre:List BA}{n:Nat}{l:List (BA × Int)}{k:Nat}{c:BA × Int}{d:Bool}(h:l[k]?=some c)(hs:(A && Bv pre n (l.take k))=true)(hb:CL (pre ++ (l.take k).map (·.1)) c.1=true)(hd:decide (0≤c.2∧c.2<(n:Int))=d):(A && Bv pre n (l.take (k+1)))=d:=by rw[FW h,← Bool.and_assoc,hs,hb,hd];simp
theorem Rq{A:Bool}{pre:List BA}{G S P:Nat}{l:List Rt}{k:Nat}{c:Rt}(h:l[k]?=some c)(hs:(A && BE pre G S P (l.take k))=false):(A && BE pre G S P (l.take (k+1)))=false:=by rw[EQ h,← Bool.and_assoc,hs];rfl
theorem PS{A:Bool}{pre:List BA}{G S P:Nat}{l:List Rt}{k:Nat}{c:Rt}(h:l[k]?=some c)(hb:CL (pre ++ (l.take k).map (·.nm)) c.nm=false):(A && BE pre G S P (l.take (k+1)))=false:=by rw[EQ h,hb];simp
theorem RC{A:Bool}{pre:List BA}{G S P:Nat}{l:List Rt}{k:Nat}{c:Rt}(h:l[k]?=some c)(hb:decide (0≤c.sg∧c.sg<(G:Int))=false):(A && BE pre G S P (l.take (k+1)))=false:=by rw[EQ h,hb];simp
theorem Ry{A:Bool}{pre:List BA}{G S P:Nat}{l:List Rt}{k:Nat}{c:Rt}{e:Bool}(h:l[k]?=some c)(hs:(A && BE pre G S P (l.take k))=true)(hb:CL (pre ++ (l.take k).map (·.nm)) c.nm=true)(hd:decide (0≤c.sg∧c.sg<(G:Int))=true)(he:ES S P c=e):(A && BE pre G S P (l.take (k+1)))=e:=by rw[EQ h,← Bool.and_assoc,hs,hb,hd,he];simp
theorem RJ{S P:Nat}{c:Rt}(h:¬ c.pa.l.length≤16):ES S P c=false:=by unfold ES;rw[decide_eq_false h];rfl
theorem RZ{S P:Nat}{c:Rt}(h:¬ c.ov.l.length≤16):ES S P c=false:=by unfold ES;rw[decide_eq_false h];simp
theorem S6{S P:Nat}{c:Rt}(h:Au S c.pa.l=false):ES S P c=false:=by unfold ES;rw[h];simp
theorem Ro{S P:Nat}{c:Rt}(h:Au S c.ov.l=false):ES S P c=false:=by unfold ES;rw[h];simp
theorem Rl{S P:Nat}{c:Rt}(h:Cc P c.po.l=false):ES S P c=false:=by unfold ES;rw[h];simp
theorem Rn{S P:Nat}{c:Rt}(h:Cc P c.fl.l=false):ES S P c=false:=by unfold ES;rw[h];simp
theorem RP{S P:Nat}{c:Rt}(h1:c.pa.l.length≤16)(h2:c.ov.l.length≤16)(h3:Au S c.pa.l=true)(h4:Au S c.ov.l=true)(h5:Cc P c.po.l=true)(h6:Cc P c.fl.l=true):ES S P c=true:=by
 unfold ES;rw[decide_eq_true h1,decide_eq_true h2,h3,h4,h5,h6];rfl
theorem Om{L:AM}{A2 A3 b:Bool}(h0:L.small=true)(h2:(AG [] L.se.l && Bv L.n1 L.se.l.length L.po.l)=A2)(h3:(A2 && Bv L.n2 L.se.l.length L.sg.l)=A3)(h4:(A3 && BE L.n3 L.sg.l.length L.se.l.length L.po.l.length L.rt.l)=b):AQ L=b:=by
 unfold AQ;rw[h0,← h4,← h3,← h2];rfl
theorem EI{L:AM}(h0:L.small=false):AQ L=false:=by unfold AQ;rw[h0];rfl
theorem Cw{L:AM}(h:¬ (L.se.l.length≤64∧L.po.l.length≤32∧L.sg.l.length≤32∧L.rt.l.length≤64)):L.small=false:=decide_eq_false h
theorem GY{L:AM}(h1:L.se.l.length≤64)(h2:L.po.l.length≤32)(h3:L.sg.l.length≤32)(h4:L.rt.l.length≤64):L.small=true:=decide_eq_true ⟨h1,h2,h3,h4⟩
theorem PH(L:AM):L.n1 ++ L.po.l.map (·.1)=L.n2:=rfl
theorem PN(L:AM):L.n2 ++ L.sg.l.map (·.1)=L.n3:=rfl
theorem Px(L:AM):L.se.l=L.n1:=rfl
theorem Km(pre:List BA)(n:Nat):Bv pre n []=true:=by unfold Bv Au;rfl
theorem Oa(pre:List BA)(G S P:Nat):BE pre G S P []=true:=by unfold BE Au;rfl
theorem Pa:AG [] []=true:=rfl
theorem CU{α:Type}{a:Option Addr}{c:Nat}{l:List α}{n:Nat}(h:l.length=n):Sl.v (⟨a,c,l⟩:Sl α) = .slice a n c:=by unfold Sl.v;rw[h]
theorem Ak{α:Type}{s:Sl α}{n:Nat}(h:s.l.length=n):s.v = .slice s.a n s.c:=by unfold Sl.v;rw[h]
theorem DD{α:Type}{f:α→BA}{l:List α}{k:Nat}{c:α}(h:l[k]?=some c):(l.take (k+1)).map f=(l.take k).map f ++ [f c]:=by rw[List.take_add_one,h,List.map_append];rfl
theorem Ow{l:List BA}{k:Nat}{c:BA}(h:l[k]?=some c):l.take (k+1)=l.take k ++ [c]:=by rw[List.take_add_one,h];rfl
attribute [local irreducible] Au Cc CL AG Bv BE ES D9 C3 AQ AM.small AM.n1 AM.n2 AM.n3 Sl.v
set_option maxRecDepth 100000 in
set_option maxHeartbeats 200000000 in
theorem JU(L:AM)(w:World)(hL:B5 w L):Calls Tryz.prog 46 #[.agg #[L.se.v,L.po.v,L.sg.v,L.rt.v]] w fun e w'=>e = .returned (.bool (AQ L))∧Below w.heap.size w w':=by
 have HA:=hid hL;obtain⟨n1,hn1⟩:∃ n,L.se.l.length=n:=⟨_,rfl⟩;obtain⟨n2,hn2⟩:∃ n,L.po.l.length=n:=⟨_,rfl⟩;obtain⟨n3,hn3⟩:∃ n,L.sg.l.length=n:=⟨_,rfl⟩;obtain⟨n4,hn4⟩:∃ n,L.rt.l.length=n:=⟨_,rfl⟩;have v1:=Ak hn1;have v2:=Ak hn2;have v3:=Ak hn3;have v4:=Ak hn4;have R1:=hid hL.se.row;have R2:=hid hL.po.row;have R3:=hid hL.sg.row;have R4:=hid hL.rt.row;obtain⟨a1,ha1⟩:∃ a,L.se.a=a:=⟨_,rfl⟩;obtain⟨a2,ha2⟩:∃ a,L.po.a=a:=⟨_,rfl⟩;obtain⟨a3,ha3⟩:∃ a,L.sg.a=a:=⟨_,rfl⟩;obtain⟨a4,ha4⟩:∃ a,L.rt.a=a:=⟨_,rfl⟩;obtain⟨c1,hc1⟩:∃ c,L.se.c=c:=⟨_,rfl⟩;obtain⟨c2,hc2⟩:∃ c,L.po.c=c:=⟨_,rfl⟩;obtain⟨c3,hc3⟩:∃ c,L.sg.c=c:=⟨_,rfl⟩;obtain⟨c4,hc4⟩:∃ c,L.rt.c=c:=⟨_,rfl⟩;rw[ha1,hc1] at v1;rw[ha2,hc2] at v2;rw[ha3,hc3] at v3;rw[ha4,hc4] at v4;rw[ha1] at R1;rw[ha2] at R2;rw[ha3] at R3;rw[ha4] at R4;rw[v1,v2,v3,v4];have N1:=hid hn1;have N2:=hid hn2;have N3:=hid hn3;have N4:=hid hn4;have HV:=hid (And.intro v1 (And.intro v2 (And.intro v3 v4)));clear hn1 hn2 hn3 hn4 ha1 ha2 ha3 ha4 hc1 hc2 hc3 hc4 v1 v2 v3 v4 hL;obtain⟨gl,hgl⟩:∃ g,g=w.heap.size:=⟨_,rfl⟩;by_cases x1:64<n1
 ·have HF:Hid (AQ L=false):=hid (EI (Cw (by have:=N1.out;have:=N2.out;have:=N3.out;have:=N4.out;omega)));have y1:(64:Int)<(n1:Nat):=by omega
  clear x1;go_enter Tryz.func46,Tryz.ntmps46;go_wp2_with fail;go_quiet (fail);go_wp2_with fail;go_ret;exact⟨by rw[HF.out];rfl,below_drewN (Ac _ _) _⟩
 have y1:¬ (64:Int)<(n1:Nat):=by omega
 by_cases x2:32<n2
 ·have HF:Hid (AQ L=false):=hid (EI (Cw (by have:=N1.out;have:=N2.out;have:=N3.out;have:=N4.out;omega)));have y1:(32:Int)<(n2:Nat):=by omega
  clear x2;go_enter Tryz.func46,Tryz.ntmps46;go_wp2_with fail;go_quiet (fail);go_wp2_with fail;go_ret;exact⟨by rw[HF.out];rfl,below_drewN (Ac _ _) _⟩
 have y2:¬ (32:Int)<(n2:Nat):=by omega
 by_cases x3:32<n3
 ·have HF:Hid (AQ L=false):=hid (EI (Cw (by have:=N1.out;have:=N2.out;have:=N3.out;have:=N4.out;omega)));have y1:(32:Int)<(n3:Nat):=by omega
  clear x3;go_enter Tryz.func46,Tryz.ntmps46;go_wp2_with fail;go_quiet (fail);go_wp2_with fail;go_ret;exact⟨by rw[HF.out];rfl,below_drewN (Ac _ _) _⟩
 have y3:¬ (32:Int)<(n3:Nat):=by omega
 by_cases x4:64<n4
 ·have HF:Hid (AQ L=false):=hid (EI (Cw (by have:=N1.out;have:=N2.out;have:=N3.out;have:=N4.out;omega)));have y1:(64:Int)<(n4:Nat):=by omega
  clear x4;go_enter Tryz.func46,Tryz.ntmps46;go_wp2_with fail;go_quiet (fail);go_wp2_with fail;go_ret;exact⟨by rw[HF.out];rfl,below_drewN (Ac _ _) _⟩
 have y4:¬ (64:Int)<(n4:Nat):=by omega
 have hmm:∀(t:TypeId) (w:World),(Instr.makeMap t none).run Tryz.prog w = .ok (.map (some w.heap.size)) (w.alloc (.map #[] 0)):=fun t w=>by simp[Instr.makeMap,Result.andThen]
 have HSM:=hid (GY (L:=L) (by have:=N1.out;omega) (by have:=N2.out;omega) (by have:=N3.out;omega) (by have:=N4.out;omega));have x1:n1≤64:=by omega
 have x2:n2≤32:=by omega
 have x3:n3≤32:=by omega
 have x4:n4≤64:=by omega
 have HXX:=hid (And.intro x1 (And.intro x2 (And.intro x3 x4)));clear x1 x2 x3 x4;go_enter Tryz.func46,Tryz.ntmps46;go_wp2_with fail;go_quiet (fail);obtain⟨W2,hW2⟩:∃ W',W'=(w.alloc (.cells #[.slice a1 n1 c1,.slice a2 n2 c2,.slice a3 n3 c3,.slice a4 n4 c4] 27)).drewN nq:=⟨_,rfl⟩;have hB2:=below_drewN (Ac w (.cells #[.slice a1 n1 c1,.slice a2 n2 c2,.slice a3 n3 c3,.slice a4 n4 c4] 27)) nq;have hl2:W2.heap[w.heap.size]?=some (.cells #[.slice a1 n1 c1,.slice a2 n2 c2,.slice a3 n3 c3,.slice a4 n4 c4] 27):=by rw[hW2];exact Ao w _ (below_drewN (Below.refl _ _) nq)
 rw[← hW2] at hB2 ⊢;rw[← hgl] at hl2 ⊢;clear hW2;have HB2:=hid hB2;have HL2:=hid hl2;have HGL:=hid hgl;clear hgl hB2;obtain⟨l0,l1,l2,l3⟩:W2.cell? ⟨gl,0,none⟩=some (.slice a1 n1 c1)∧W2.cell? ⟨gl,1,none⟩=some (.slice a2 n2 c2)∧W2.cell? ⟨gl,2,none⟩=some (.slice a3 n3 c3)∧W2.cell? ⟨gl,3,none⟩=some (.slice a4 n4 c4):=⟨A4 hl2 0 _ rfl,A4 hl2 1 _ rfl,A4 hl2 2 _ rfl,A4 hl2 3 _ rfl⟩;clear hl2 l0 l1 l2 l3;go_upto_region 6 with fail
 refine DA ?_;intro W3 hW3;obtain⟨r,hr⟩:∃ r,r=W2.heap.size:=⟨_,rfl⟩;obtain⟨gb,hgb⟩:∃ g,g=r+1:=⟨_,rfl⟩;have hM:Ga w W3 gl gb r L:=by
  obtain⟨q1,q2⟩:=De W2 (.map #[] 0) (.cells #[.slice none 0 0,.slice none 0 0,.slice none 0 0,.slice none 0 0,.map (some W2.heap.size)] 140);rw[hW3];refine⟨?_,by rw[HGL.out];exact Nat.le_refl _,by rw[hr];exact Af HL2.out,by omega,by rw[hgb,hr];exact Af q2,A8 HB2.out (C1 W2 _ _)⟩;rw[HV.out.1,HV.out.2.1,HV.out.2.2.1,HV.out.2.2.2];exact A5 (C1 W2 _ _) HL2.out
 have hK:Ch W3 gb r []:=by
  obtain⟨q1,q2⟩:=De W2 (.map #[] 0) (.cells #[.slice none 0 0,.slice none 0 0,.slice none 0 0,.slice none 0 0,.map (some W2.heap.size)] 140);rw[hW3,hgb,hr];exact⟨⟨_,_,_,_,q2⟩,⟨_,_,q1,rfl⟩,by omega⟩
 rw[← hr,← hgb];have HM:=hid hM;have HBK:=hid hK;clear hW3 hr hgb hM hK HL2 HB2 hmm;obtain⟨l0,l1,l2,l3⟩:W3.cell? ⟨gl,0,none⟩=some (.slice a1 n1 c1)∧W3.cell? ⟨gl,1,none⟩=some (.slice a2 n2 c2)∧W3.cell? ⟨gl,2,none⟩=some (.slice a3 n3 c3)∧W3.cell? ⟨gl,3,none⟩=some (.slice a4 n4 c4):=by
  obtain⟨v1,v2,v3,v4⟩:=HV.out;rw[← v1,← v2,← v3,← v4];have q:=HM.out.lay;exact⟨A4 q 0 _ rfl,A4 q 1 _ rfl,A4 q 2 _ rfl,A4 q 3 _ rfl⟩
 go_wp2_with fail;clear l0 l1 l2 l3;go_loopg [8,9,10,49] n1 (fun g ok _ _ i wr=>∃(k:Nat) (okv:Bool),k+g=n1∧ok = .bool okv∧i = .int .i64 (k:Int)∧AG [] (L.se.l.take k)=okv∧(okv=true→Ch wr gb r (L.se.l.take k))∧Ga w wr gl gb r L)
 case atStart=>exact⟨0,true,by omega,rfl,rfl,Pa,fun _=>by rw[List.take_zero];exact HBK.out,HM.out⟩
 case round=>
  obtain⟨k,okv,hk,rfl,rfl,hst,hbk,hM⟩:=hrel;clear HM HBK;have HM:=hid hM;have HS:=hid hst;have HBK:=hid hbk;clear hst hbk hM;by_cases hlt:k<n1
  ·obtain⟨y,hy⟩:∃ y,L.se.l[k]?=some y:=⟨_,List.getElem?_eq_getElem (by rw[N1.out];exact hlt)⟩;rcases R1.out.below HM.out.below with hnil | ⟨xb,off,rfl,hc⟩
   ·rw[hnil] at hy;simp at hy
   have z0:=hc k _ hy 0 _ rfl;rw[Nat.add_zero,Nat.mul_one] at z0;have HN:=hid (HA.out.sn y (List.mem_of_getElem? hy));have HY:=hid hy;have d1:(0:Int)≤k:=by omega
   have d2:(k:Int)<n1:=by omega
   have e1:wrap64 ((k:Int)+1)=(k:Int)+1:=by have:=HXX.out;unfold wrap64;omega
   have HK:=hid hk;clear hc hy hk;cases okv with
   | false=>
     have HX:=hid (RI HY.out HS.out);go_wp2_with fail;go_roundg (n1 - (k+1))
     case rel=>exact⟨k+1,false,by have:=HK.out;omega,rfl,by go_num,HX.out,fun h=>absurd h (by decide),HM.out⟩
     case measure=>have:=HK.out;omega
   | true=>
     have HM4:=HM;have HBK4:=hid (HBK.out rfl);rcases Bool.eq_false_or_eq_true (C3 y) with hr | hr
     ·have HRR:=hid hr;clear hr;go_wp2_with fail
      skip
      refine(CK true y _ HN.out HRR.out).mono ?_;rintro e w5 ⟨rfl,hb5⟩;have HM5:=hid (HM4.out.step hb5);have HBK5:=hid (HBK4.out.below hb5);clear hb5;rcases Bool.eq_false_or_eq_true (D9 (L.se.l.take k) y) with hh | hh
      ·have HX:=hid (Nu HY.out HS.out (Hd hh));have HH:=hid (DP.1 hh);clear hh;go_wp2_with fail;refine(Ev gb r _ y _ _ HBK5.out HH.out).mono ?_;rintro e w6 ⟨rfl,rfl⟩;go_wp2_with fail;go_roundg (n1 - (k+1))
       case rel=>exact⟨k+1,false,by have:=HK.out;omega,rfl,by go_num,HX.out,fun h=>absurd h (by decide),HM5.out⟩
       case measure=>have:=HK.out;omega
      ·have HO:=hid (Ie HRR.out hh);have HH:=hid (Fu hh);clear hh;go_wp2_with fail;refine(Eg gb r _ y _ _ HBK5.out HH.out).mono ?_;rintro e w6 ⟨rfl,hbk6,ho6⟩;have HM6:=hid (HM5.out.only ho6);have HBK6:Hid (Ch w6 gb r (L.se.l.take (k+1))):=hid (Ow HY.out ▸ hbk6);have HX:=hid (Nu HY.out HS.out HO.out);clear hbk6 ho6;go_wp2_with fail;go_roundg (n1 - (k+1))
       case rel=>exact⟨k+1,true,by have:=HK.out;omega,rfl,by go_num,HX.out,fun _=>HBK6.out,HM6.out⟩
       case measure=>have:=HK.out;omega
     ·have HX:=hid (Nu HY.out HS.out (G6 hr));have HRR:=hid hr;clear hr;go_wp2_with fail
      skip
      refine(CK false y _ HN.out HRR.out).mono ?_;rintro e w5 ⟨rfl,hb5⟩;have HM5:=hid (HM4.out.step hb5);clear hb5;go_wp2_with fail;go_roundg (n1 - (k+1))
      case rel=>exact⟨k+1,false,by have:=HK.out;omega,rfl,by go_num,HX.out,fun h=>absurd h (by decide),HM5.out⟩
      case measure=>have:=HK.out;omega
  ·have hkn:n1=k:=by omega
   subst hkn;have hfull:L.se.l.take n1=L.se.l:=List.take_of_length_le (by rw[N1.out];exact Nat.le_refl _);rw[hfull] at HS HBK;clear hfull;obtain⟨wq2,hwq⟩:∃ W,W=wr:=⟨_,rfl⟩;rw[← hwq] at HM HBK ⊢;clear hwq;rw[Px] at HBK;obtain⟨A1,hA1⟩:∃ A,okv=A:=⟨_,rfl⟩;rw[hA1] at HS HBK ⊢;have HS1:=HS;clear HS hA1;obtain⟨l0,l1,l2,l3⟩:wq2.cell? ⟨gl,0,none⟩=some (.slice a1 n1 c1)∧wq2.cell? ⟨gl,1,none⟩=some (.slice a2 n2 c2)∧wq2.cell? ⟨gl,2,none⟩=some (.slice a3 n3 c3)∧wq2.cell? ⟨gl,3,none⟩=some (.slice a4 n4 c4):=by
    obtain⟨v1,v2,v3,v4⟩:=HV.out;rw[← v1,← v2,← v3,← v4];have q:=HM.out.lay;exact⟨A4 q 0 _ rfl,A4 q 1 _ rfl,A4 q 2 _ rfl,A4 q 3 _ rfl⟩
   go_wp2_with fail;clear l0 l1 l2 l3;go_loopg [8,11,12,70] n2 (fun g ok _ _ i wr=>∃(k:Nat) (okv:Bool),k+g=n2∧ok = .bool okv∧i = .int .i64 (k:Int)∧(A1 && Bv L.n1 n1 (L.po.l.take k))=okv∧(okv=true→Ch wr gb r (L.n1 ++ (L.po.l.take k).map (·.1)))∧Ga w wr gl gb r L)
   case atStart=>exact⟨0,A1,by omega,rfl,rfl,by rw[List.take_zero,Km,Bool.and_true],by rw[List.take_zero,List.map_nil,List.append_nil];exact HBK.out,HM.out⟩
   case round=>
    obtain⟨k,okv,hk,rfl,rfl,hst,hbk,hM⟩:=hrel;clear HM HBK;have HM:=hid hM;have HS:=hid hst;have HBK:=hid hbk;clear hst hbk hM;by_cases hlt:k<n2
    ·obtain⟨y,hy⟩:∃ y,L.po.l[k]?=some y:=⟨_,List.getElem?_eq_getElem (by rw[N2.out];exact hlt)⟩;rcases R2.out.below HM.out.below with hnil | ⟨xb,off,rfl,hc⟩
     ·rw[hnil] at hy;simp at hy
     obtain⟨y0,y1⟩:=y;have z0:=hc k _ hy 0 _ rfl;have z1:=hc k _ hy 1 _ rfl;rw[Nat.add_zero] at z0;have HN:=hid (HA.out.pn _ (List.mem_of_getElem? hy));dsimp only at z0 z1 HN;have HY:=hid hy;have d1:(0:Int)≤k:=by omega
     have d2:(k:Int)<n2:=by omega
     have e1:wrap64 ((k:Int)+1)=(k:Int)+1:=by have:=HXX.out;unfold wrap64;omega
     have HK:=hid hk;clear hc hy hk;cases okv with
     | false=>
       have HX:=hid (PO HY.out HS.out);go_wp2_with fail;go_roundg (n2 - (k+1))
       case rel=>exact⟨k+1,false,by have:=HK.out;omega,rfl,by go_num,HX.out,fun h=>absurd h (by decide),HM.out.step (Ac _ _)⟩
       case measure=>have:=HK.out;omega
     | true=>
       have hb4:=Ac wr (.cells #[.string y0,.int .i64 y1] 68);have HM4:=hid (HM.out.step hb4);have HBK4:=hid ((HBK.out rfl).below hb4);have hk4:(wr.alloc (.cells #[.string y0,.int .i64 y1] 68)).heap[wr.heap.size]?=some (.cells #[.string y0,.int .i64 y1] 68):=Ao wr _ (Below.refl _ _);have HK4:=hid hk4;have HGX:=hid (show wr.heap.size≠r by have:=HM.out.o3;have:=HM.out.o4;omega);obtain⟨gx,hgx⟩:∃ g,g=wr.heap.size:=⟨_,rfl⟩;rw[← hgx] at HK4 HGX;have HGG:=hid hgx;clear hb4 hk4 hgx;rcases Bool.eq_false_or_eq_true (C3 y0) with hr | hr
       ·have HRR:=hid hr;clear hr;go_wp2_with fail;rw[← HGG.out];refine(CK true y0 _ HN.out HRR.out).mono ?_;rintro e w5 ⟨rfl,hb5⟩;have HM5:=hid (HM4.out.step hb5);have HBK5:=hid (HBK4.out.below hb5);have HK5:=hid (A5 hb5 HK4.out);clear hb5;have k0:=A4 HK5.out 0 _ rfl;have k1:=A4 HK5.out 1 _ rfl;rcases Bool.eq_false_or_eq_true (D9 (L.n1 ++ (L.po.l.take k).map (·.1)) y0) with hh | hh
        ·have HX:=hid (Kx (A:=A1) (pre:=L.n1) (n:=n1) HY.out (Hd hh));have HH:=hid (DP.1 hh);clear hh;go_wp2_with fail;refine(Ev gb r _ y0 _ _ HBK5.out HH.out).mono ?_;rintro e w6 ⟨rfl,rfl⟩;go_wp2_with fail;go_roundg (n2 - (k+1))
         case rel=>exact⟨k+1,false,by have:=HK.out;omega,rfl,by go_num,HX.out,fun h=>absurd h (by decide),HM5.out⟩
         case measure=>have:=HK.out;omega
        ·have HO:=hid (Ie HRR.out hh);have HH:=hid (Fu hh);clear hh;go_wp2_with fail;refine(Eg gb r _ y0 _ _ HBK5.out HH.out).mono ?_;rintro e w6 ⟨rfl,hbk6,ho6⟩;have HM6:=hid (HM5.out.only ho6);have HK6:=hid (ho6.keep HGX.out HK5.out);have HBK6:Hid (Ch w6 gb r (L.n1 ++ (L.po.l.take (k+1)).map (·.1))):=hid (by rw[DD HY.out,← List.append_assoc];exact hbk6);clear hbk6 ho6;clear k0 k1;have k0:=A4 HK6.out 0 _ rfl;have k1:=A4 HK6.out 1 _ rfl;obtain⟨D,hD⟩:∃ D,decide (0≤y1∧y1<(n1:Int))=D:=⟨_,rfl⟩;have HKK:Hid (∀(W:World) (g:Nat),W.heap[g]?=some (.cells #[.int .i64 y1] 3)→Calls Tryz.prog 83 #[.int .i64 (n1:Int),.slice (some ⟨g,0,none⟩) 1 1] W fun e w'=>e = .returned (.bool D)∧W=w'):=hid (fun W g h=>hD ▸ Ea n1 y1 W g 3 (0,0) h);have HD:=hid hD;clear hD;have HM7:=hid (HM6.out.step (Ac w6 (.cells #[.int .i64 y1] 3)));have HBK7:=hid (HBK6.out.below (Ac w6 (.cells #[.int .i64 y1] 3)));have HK7:=hid (A5 (Ac w6 (.cells #[.int .i64 y1] 3)) HK6.out);go_wp2_with fail;refine(HKK.out _ _ (Ao w6 _ (Below.refl _ _))).mono ?_;rintro e w7 ⟨rfl,rfl⟩;have HX:=hid (PU HY.out HS.out HO.out HD.out);go_wp2_with fail;go_roundg (n2 - (k+1))
         case rel=>exact⟨k+1,D,by have:=HK.out;omega,rfl,by go_num,HX.out,fun _=>HBK7.out,HM7.out⟩
         case measure=>have:=HK.out;omega
       ·have HX:=hid (Kx (A:=A1) (pre:=L.n1) (n:=n1) HY.out (G6 hr));have HRR:=hid hr;clear hr;go_wp2_with fail;rw[← HGG.out];refine(CK false y0 _ HN.out HRR.out).mono ?_;rintro e w5 ⟨rfl,hb5⟩;have HM5:=hid (HM4.out.step hb5);clear hb5;go_wp2_with fail;go_roundg (n2 - (k+1))
        case rel=>exact⟨k+1,false,by have:=HK.out;omega,rfl,by go_num,HX.out,fun h=>absurd h (by decide),HM5.out⟩
        case measure=>have:=HK.out;omega
    ·have hkn:n2=k:=by omega
     subst hkn;have hfull:L.po.l.take n2=L.po.l:=List.take_of_length_le (by rw[N2.out];exact Nat.le_refl _);rw[hfull] at HS HBK;clear hfull;obtain⟨wq3,hwq⟩:∃ W,W=wr:=⟨_,rfl⟩;rw[← hwq] at HM HBK ⊢;clear hwq;rw[PH] at HBK;obtain⟨A2,hA2⟩:∃ A,okv=A:=⟨_,rfl⟩;rw[hA2] at HS HBK ⊢;have HS2:=HS;clear HS hA2;obtain⟨l0,l1,l2,l3⟩:wq3.cell? ⟨gl,0,none⟩=some (.slice a1 n1 c1)∧wq3.cell? ⟨gl,1,none⟩=some (.slice a2 n2 c2)∧wq3.cell? ⟨gl,2,none⟩=some (.slice a3 n3 c3)∧wq3.cell? ⟨gl,3,none⟩=some (.slice a4 n4 c4):=by
      obtain⟨v1,v2,v3,v4⟩:=HV.out;rw[← v1,← v2,← v3,← v4];have q:=HM.out.lay;exact⟨A4 q 0 _ rfl,A4 q 1 _ rfl,A4 q 2 _ rfl,A4 q 3 _ rfl⟩
     go_wp2_with fail;clear l0 l1 l2 l3;go_loopg [8,13,14,100] n3 (fun g ok _ _ i wr=>∃(k:Nat) (okv:Bool),k+g=n3∧ok = .bool okv∧i = .int .i64 (k:Int)∧(A2 && Bv L.n2 n1 (L.sg.l.take k))=okv∧(okv=true→Ch wr gb r (L.n2 ++ (L.sg.l.take k).map (·.1)))∧Ga w wr gl gb r L)
     case atStart=>exact⟨0,A2,by omega,rfl,rfl,by rw[List.take_zero,Km,Bool.and_true],by rw[List.take_zero,List.map_nil,List.append_nil];exact HBK.out,HM.out⟩
     case round=>
      obtain⟨k,okv,hk,rfl,rfl,hst,hbk,hM⟩:=hrel;clear HM HBK;have HM:=hid hM;have HS:=hid hst;have HBK:=hid hbk;clear hst hbk hM;by_cases hlt:k<n3
      ·obtain⟨y,hy⟩:∃ y,L.sg.l[k]?=some y:=⟨_,List.getElem?_eq_getElem (by rw[N3.out];exact hlt)⟩;rcases R3.out.below HM.out.below with hnil | ⟨xb,off,rfl,hc⟩
       ·rw[hnil] at hy;simp at hy
       obtain⟨y0,y1⟩:=y;have z0:=hc k _ hy 0 _ rfl;have z1:=hc k _ hy 1 _ rfl;rw[Nat.add_zero] at z0;have HN:=hid (HA.out.gn _ (List.mem_of_getElem? hy));dsimp only at z0 z1 HN;have HY:=hid hy;have d1:(0:Int)≤k:=by omega
       have d2:(k:Int)<n3:=by omega
       have e1:wrap64 ((k:Int)+1)=(k:Int)+1:=by have:=HXX.out;unfold wrap64;omega
       have HK:=hid hk;clear hc hy hk;cases okv with
       | false=>
         have HX:=hid (PO HY.out HS.out);go_wp2_with fail;go_roundg (n3 - (k+1))
         case rel=>exact⟨k+1,false,by have:=HK.out;omega,rfl,by go_num,HX.out,fun h=>absurd h (by decide),HM.out.step (Ac _ _)⟩
         case measure=>have:=HK.out;omega
       | true=>
         have hb4:=Ac wr (.cells #[.string y0,.int .i64 y1] 69);have HM4:=hid (HM.out.step hb4);have HBK4:=hid ((HBK.out rfl).below hb4);have hk4:(wr.alloc (.cells #[.string y0,.int .i64 y1] 69)).heap[wr.heap.size]?=some (.cells #[.string y0,.int .i64 y1] 69):=Ao wr _ (Below.refl _ _);have HK4:=hid hk4;have HGX:=hid (show wr.heap.size≠r by have:=HM.out.o3;have:=HM.out.o4;omega);obtain⟨gx,hgx⟩:∃ g,g=wr.heap.size:=⟨_,rfl⟩;rw[← hgx] at HK4 HGX;have HGG:=hid hgx;clear hb4 hk4 hgx;rcases Bool.eq_false_or_eq_true (C3 y0) with hr | hr
         ·have HRR:=hid hr;clear hr;go_wp2_with fail;rw[← HGG.out];refine(CK true y0 _ HN.out HRR.out).mono ?_;rintro e w5 ⟨rfl,hb5⟩;have HM5:=hid (HM4.out.step hb5);have HBK5:=hid (HBK4.out.below hb5);have HK5:=hid (A5 hb5 HK4.out);clear hb5;have k0:=A4 HK5.out 0 _ rfl;have k1:=A4 HK5.out 1 _ rfl;rcases Bool.eq_false_or_eq_true (D9 (L.n2 ++ (L.sg.l.take k).map (·.1)) y0) with hh | hh
          ·have HX:=hid (Kx (A:=A2) (pre:=L.n2) (n:=n1) HY.out (Hd hh));have HH:=hid (DP.1 hh);clear hh;go_wp2_with fail;refine(Ev gb r _ y0 _ _ HBK5.out HH.out).mono ?_;rintro e w6 ⟨rfl,rfl⟩;go_wp2_with fail;go_roundg (n3 - (k+1))
           case rel=>exact⟨k+1,false,by have:=HK.out;omega,rfl,by go_num,HX.out,fun h=>absurd h (by decide),HM5.out⟩
           case measure=>have:=HK.out;omega
          ·have HO:=hid (Ie HRR.out hh);have HH:=hid (Fu hh);clear hh;go_wp2_with fail;refine(Eg gb r _ y0 _ _ HBK5.out HH.out).mono ?_;rintro e w6 ⟨rfl,hbk6,ho6⟩;have HM6:=hid (HM5.out.only ho6);have HK6:=hid (ho6.keep HGX.out HK5.out);have HBK6:Hid (Ch w6 gb r (L.n2 ++ (L.sg.l.take (k+1)).map (·.1))):=hid (by rw[DD HY.out,← List.append_assoc];exact hbk6);clear hbk6 ho6;clear k0 k1;have k0:=A4 HK6.out 0 _ rfl;have k1:=A4 HK6.out 1 _ rfl;obtain⟨D,hD⟩:∃ D,decide (0≤y1∧y1<(n1:Int))=D:=⟨_,rfl⟩;have HKK:Hid (∀(W:World) (g:Nat),W.heap[g]?=some (.cells #[.int .i64 y1] 3)→Calls Tryz.prog 83 #[.int .i64 (n1:Int),.slice (some ⟨g,0,none⟩) 1 1] W fun e w'=>e = .returned (.bool D)∧W=w'):=hid (fun W g h=>hD ▸ Ea n1 y1 W g 3 (0,0) h);have HD:=hid hD;clear hD;have HM7:=hid (HM6.out.step (Ac w6 (.cells #[.int .i64 y1] 3)));have HBK7:=hid (HBK6.out.below (Ac w6 (.cells #[.int .i64 y1] 3)));have HK7:=hid (A5 (Ac w6 (.cells #[.int .i64 y1] 3)) HK6.out);go_wp2_with fail;refine(HKK.out _ _ (Ao w6 _ (Below.refl _ _))).mono ?_;rintro e w7 ⟨rfl,rfl⟩;have HX:=hid (PU HY.out HS.out HO.out HD.out);go_wp2_with fail;go_roundg (n3 - (k+1))
           case rel=>exact⟨k+1,D,by have:=HK.out;omega,rfl,by go_num,HX.out,fun _=>HBK7.out,HM7.out⟩
           case measure=>have:=HK.out;omega
         ·have HX:=hid (Kx (A:=A2) (pre:=L.n2) (n:=n1) HY.out (G6 hr));have HRR:=hid hr;clear hr;go_wp2_with fail;rw[← HGG.out];refine(CK false y0 _ HN.out HRR.out).mono ?_;rintro e w5 ⟨rfl,hb5⟩;have HM5:=hid (HM4.out.step hb5);clear hb5;go_wp2_with fail;go_roundg (n3 - (k+1))
          case rel=>exact⟨k+1,false,by have:=HK.out;omega,rfl,by go_num,HX.out,fun h=>absurd h (by decide),HM5.out⟩
          case measure=>have:=HK.out;omega
      ·have hkn:n3=k:=by omega
       subst hkn;have hfull:L.sg.l.take n3=L.sg.l:=List.take_of_length_le (by rw[N3.out];exact Nat.le_refl _);rw[hfull] at HS HBK;clear hfull;obtain⟨wq4,hwq⟩:∃ W,W=wr:=⟨_,rfl⟩;rw[← hwq] at HM HBK ⊢;clear hwq;rw[PN] at HBK;obtain⟨A3,hA3⟩:∃ A,okv=A:=⟨_,rfl⟩;rw[hA3] at HS HBK ⊢;have HS3:=HS;clear HS hA3;obtain⟨l0,l1,l2,l3⟩:wq4.cell? ⟨gl,0,none⟩=some (.slice a1 n1 c1)∧wq4.cell? ⟨gl,1,none⟩=some (.slice a2 n2 c2)∧wq4.cell? ⟨gl,2,none⟩=some (.slice a3 n3 c3)∧wq4.cell? ⟨gl,3,none⟩=some (.slice a4 n4 c4):=by
        obtain⟨v1,v2,v3,v4⟩:=HV.out;rw[← v1,← v2,← v3,← v4];have q:=HM.out.lay;exact⟨A4 q 0 _ rfl,A4 q 1 _ rfl,A4 q 2 _ rfl,A4 q 3 _ rfl⟩
       go_wp2_with fail;clear l0 l1 l2 l3;go_loopg [8,15,16,130] n4 (fun g ok _ _ i wr=>∃(k:Nat) (okv:Bool),k+g=n4∧ok = .bool okv∧i = .int .i64 (k:Int)∧(A3 && BE L.n3 n3 n1 n2 (L.rt.l.take k))=okv∧(okv=true→Ch wr gb r (L.n3 ++ (L.rt.l.take k).map (·.nm)))∧Ga w wr gl gb r L)
       case atStart=>exact⟨0,A3,by omega,rfl,rfl,by rw[List.take_zero,Oa,Bool.and_true],by rw[List.take_zero,List.map_nil,List.append_nil];exact HBK.out,HM.out⟩
       case round=>
        obtain⟨k,okv,hk,rfl,rfl,hst,hbk,hM⟩:=hrel;clear HM HBK;have HM:=hid hM;have HS:=hid hst;have HBK:=hid hbk;clear hst hbk hM;by_cases hlt:k<n4
        ·obtain⟨y,hy⟩:∃ y,L.rt.l[k]?=some y:=⟨_,List.getElem?_eq_getElem (by rw[N4.out];exact hlt)⟩;rcases R4.out.below HM.out.below with hnil | ⟨xb,off,rfl,hc⟩
         ·rw[hnil] at hy;simp at hy
         have z0:=hc k _ hy 0 _ rfl;have z1:=hc k _ hy 1 _ rfl;have z2:=hc k _ hy 2 _ rfl;have z3:=hc k _ hy 3 _ rfl;have z4:=hc k _ hy 4 _ rfl;have z5:=hc k _ hy 5 _ rfl;rw[Nat.add_zero] at z0;have HR:=hid (HA.out.rn y (List.mem_of_getElem? hy));obtain⟨nm,sg,⟨pa,pc,pl⟩,⟨oa,oc,ol⟩,⟨va,vc,vl⟩,⟨fa,fc,fl⟩⟩:=y;have HN:=hid HR.out.nm;dsimp only at z0 z1 z2 z3 z4 z5 HN;obtain⟨m1,hm1⟩:∃ m,pl.length=m:=⟨_,rfl⟩;obtain⟨m2,hm2⟩:∃ m,ol.length=m:=⟨_,rfl⟩;obtain⟨m3,hm3⟩:∃ m,vl.length=m:=⟨_,rfl⟩;obtain⟨m4,hm4⟩:∃ m,fl.length=m:=⟨_,rfl⟩;rw[CU hm1] at z2;rw[CU hm2] at z3;rw[CU hm3] at z4;rw[CU hm4] at z5;have HMM:=hid (And.intro hm1 (And.intro hm2 (And.intro hm3 hm4)));clear hm1 hm2 hm3 hm4;have HY:=hid hy;have d1:(0:Int)≤k:=by omega
         have d2:(k:Int)<n4:=by omega
         have e1:wrap64 ((k:Int)+1)=(k:Int)+1:=by have:=HXX.out;unfold wrap64;omega
         have HK:=hid hk;clear hc hy hk;cases okv with
         | false=>
           have HX:=hid (Rq HY.out HS.out);go_wp2_with fail;go_roundg (n4 - (k+1))
           case rel=>exact⟨k+1,false,by have:=HK.out;omega,rfl,by go_num,HX.out,fun h=>absurd h (by decide),HM.out.step (Ac _ _)⟩
           case measure=>have:=HK.out;omega
         | true=>
           have hb4:=Ac wr (.cells #[.string nm,.int .i64 sg,.slice pa m1 pc,.slice oa m2 oc,.slice va m3 vc,.slice fa m4 fc] 52);have HM4:=hid (HM.out.step hb4);have HBK4:=hid ((HBK.out rfl).below hb4);have hk4:(wr.alloc (.cells #[.string nm,.int .i64 sg,.slice pa m1 pc,.slice oa m2 oc,.slice va m3 vc,.slice fa m4 fc] 52)).heap[wr.heap.size]?=some (.cells #[.string nm,.int .i64 sg,.slice pa m1 pc,.slice oa m2 oc,.slice va m3 vc,.slice fa m4 fc] 52):=Ao wr _ (Below.refl _ _);have HK4:=hid hk4;have HGX:=hid (show wr.heap.size≠r by have:=HM.out.o3;have:=HM.out.o4;omega);obtain⟨gx,hgx⟩:∃ g,g=wr.heap.size:=⟨_,rfl⟩;rw[← hgx] at HK4 HGX;have HGG:=hid hgx;clear hb4 hk4 hgx;rcases Bool.eq_false_or_eq_true (C3 nm) with hr | hr
           ·have HRR:=hid hr;clear hr;go_wp2_with fail;rw[← HGG.out];refine(CK true nm _ HN.out HRR.out).mono ?_;rintro e w5 ⟨rfl,hb5⟩;have HM5:=hid (HM4.out.step hb5);have HBK5:=hid (HBK4.out.below hb5);have HK5:=hid (A5 hb5 HK4.out);clear hb5;have k0:=A4 HK5.out 0 _ rfl;have k1:=A4 HK5.out 1 _ rfl;have k2:=A4 HK5.out 2 _ rfl;have k3:=A4 HK5.out 3 _ rfl;have k4:=A4 HK5.out 4 _ rfl;have k5:=A4 HK5.out 5 _ rfl;rcases Bool.eq_false_or_eq_true (D9 (L.n3 ++ (L.rt.l.take k).map (·.nm)) nm) with hh | hh
            ·have HX:=hid (PS (A:=A3) (pre:=L.n3) (G:=n3) (S:=n1) (P:=n2) HY.out (Hd hh));have HH:=hid (DP.1 hh);clear hh;go_wp2_with fail;refine(Ev gb r _ nm _ _ HBK5.out HH.out).mono ?_;rintro e w6 ⟨rfl,rfl⟩;go_wp2_with fail;go_roundg (n4 - (k+1))
             case rel=>exact⟨k+1,false,by have:=HK.out;omega,rfl,by go_num,HX.out,fun h=>absurd h (by decide),HM5.out⟩
             case measure=>have:=HK.out;omega
            ·have HO:=hid (Ie HRR.out hh);have HH:=hid (Fu hh);clear hh;go_wp2_with fail;refine(Eg gb r _ nm _ _ HBK5.out HH.out).mono ?_;rintro e w6 ⟨rfl,hbk6,ho6⟩;have HM6:=hid (HM5.out.only ho6);have HK6:=hid (ho6.keep HGX.out HK5.out);have HBK6:Hid (Ch w6 gb r (L.n3 ++ (L.rt.l.take (k+1)).map (·.nm))):=hid (by rw[DD HY.out,← List.append_assoc];exact hbk6);clear hbk6 ho6;clear k0 k1 k2 k3 k4 k5;have k0:=A4 HK6.out 0 _ rfl;have k1:=A4 HK6.out 1 _ rfl;have k2:=A4 HK6.out 2 _ rfl;have k3:=A4 HK6.out 3 _ rfl;have k4:=A4 HK6.out 4 _ rfl;have k5:=A4 HK6.out 5 _ rfl;obtain⟨D,hD⟩:∃ D,decide (0≤sg∧sg<(n3:Int))=D:=⟨_,rfl⟩;have HKK:Hid (∀(W:World) (g:Nat),W.heap[g]?=some (.cells #[.int .i64 sg] 3)→Calls Tryz.prog 83 #[.int .i64 (n3:Int),.slice (some ⟨g,0,none⟩) 1 1] W fun e w'=>e = .returned (.bool D)∧W=w'):=hid (fun W g h=>hD ▸ Ea n3 sg W g 3 (0,0) h);have HD:=hid hD;clear hD;have HM7:=hid (HM6.out.step (Ac w6 (.cells #[.int .i64 sg] 3)));have HBK7:=hid (HBK6.out.below (Ac w6 (.cells #[.int .i64 sg] 3)));have HK7:=hid (A5 (Ac w6 (.cells #[.int .i64 sg] 3)) HK6.out);cases D with
             | false=>
               have HX:=hid (RC (A:=A3) (pre:=L.n3) (S:=n1) (P:=n2) HY.out HD.out);go_wp2_with fail;refine(HKK.out _ _ (Ao w6 _ (Below.refl _ _))).mono ?_;rintro e w7 ⟨rfl,rfl⟩;go_wp2_with fail;go_roundg (n4 - (k+1))
               case rel=>exact⟨k+1,false,by have:=HK.out;omega,rfl,by go_num,HX.out,fun h=>absurd h (by decide),HM7.out⟩
               case measure=>have:=HK.out;omega
             | true=>
               have HX:=hid (fun(e:Bool) (he:ES n1 n2 ⟨nm,sg,⟨pa,pc,pl⟩,⟨oa,oc,ol⟩,⟨va,vc,vl⟩,⟨fa,fc,fl⟩⟩=e)=>Ry HY.out HS.out HO.out HD.out he);go_upto_region 24 with fail
               go_wp2_with fail;refine(HKK.out _ _ (Ao w6 _ (Below.refl _ _))).mono ?_;rintro e w7 ⟨rfl,rfl⟩;obtain⟨W7,hW7⟩:∃ W,W=w6.alloc (.cells #[.int .i64 sg] 3):=⟨_,rfl⟩;rw[← hW7] at HM7 HBK7 HK7 ⊢;clear hW7 HKK;clear k0 k1 k2 k3 k4 k5;have k0:=A4 HK7.out 0 _ rfl;have k1:=A4 HK7.out 1 _ rfl;have k2:=A4 HK7.out 2 _ rfl;have k3:=A4 HK7.out 3 _ rfl;have k4:=A4 HK7.out 4 _ rfl;have k5:=A4 HK7.out 5 _ rfl;by_cases t1:(m1:Int)≤16
               case neg=>
                have HE:=hid (HX.out false (RJ (by dsimp only;rw[HMM.out.1];omega)));go_wp2_with fail;go_roundg (n4 - (k+1))
                case rel=>exact⟨k+1,false,by have:=HK.out;omega,rfl,by go_num,HE.out,fun h=>absurd h (by decide),HM7.out⟩
                case measure=>have:=HK.out;omega
               by_cases t2:(m3:Int)≤16
               case neg=>
                have HE:=hid (HX.out false (RZ (by dsimp only;rw[HMM.out.2.2.1];omega)));go_wp2_with fail;go_roundg (n4 - (k+1))
                case rel=>exact⟨k+1,false,by have:=HK.out;omega,rfl,by go_num,HE.out,fun h=>absurd h (by decide),HM7.out⟩
                case measure=>have:=HK.out;omega
               have q1:=hid (HR.out.pa.row.below HM7.out.below);have q3:=hid (HR.out.ov.row.below HM7.out.below);dsimp only at q1 q3;rcases Bool.eq_false_or_eq_true (Au n1 pl) with b1 | b1
               case inr=>
                have HE:=hid (HX.out false (S6 b1));have B1:=hid b1;clear b1;go_wp2_with fail;refine(Dv false n1 pa m1 pc pl _ B1.out HMM.out.1 (by omega) q1.out).mono ?_;rintro e w8 ⟨rfl,rfl⟩;go_wp2_with fail;go_roundg (n4 - (k+1))
                case rel=>exact⟨k+1,false,by have:=HK.out;omega,rfl,by go_num,HE.out,fun h=>absurd h (by decide),HM7.out⟩
                case measure=>have:=HK.out;omega
               have B1:=hid b1;clear b1;rcases Bool.eq_false_or_eq_true (Au n1 vl) with b2 | b2
               case inr=>
                have HE:=hid (HX.out false (Ro b2));have B2:=hid b2;clear b2;go_wp2_with fail;refine(Dv true n1 pa m1 pc pl _ B1.out HMM.out.1 (by omega) q1.out).mono ?_;rintro e w8 ⟨rfl,rfl⟩;go_wp2_with fail;refine(Dv false n1 va m3 vc vl _ B2.out HMM.out.2.2.1 (by omega) q3.out).mono ?_;rintro e w8 ⟨rfl,rfl⟩;go_wp2_with fail;go_roundg (n4 - (k+1))
                case rel=>exact⟨k+1,false,by have:=HK.out;omega,rfl,by go_num,HE.out,fun h=>absurd h (by decide),HM7.out⟩
                case measure=>have:=HK.out;omega
               have B2:=hid b2;clear b2;go_wp2_with fail;refine(Dv true n1 pa m1 pc pl _ B1.out HMM.out.1 (by omega) q1.out).mono ?_;rintro e w8 ⟨rfl,rfl⟩;go_wp2_with fail;refine(Dv true n1 va m3 vc vl _ B2.out HMM.out.2.2.1 (by omega) q3.out).mono ?_;rintro e w8 ⟨rfl,rfl⟩;have HT:=hid (And.intro t1 t2);have M24:=hid (show m2≤9223372036854775807∧m4≤9223372036854775807 by have h2:=HR.out.po.len;have h4:=HR.out.fl.len;have g2:=HR.out.po.cap;have g4:=HR.out.fl.cap;have:=HMM.out;dsimp only at h2 h4 g2 g4;unfold maxLen at g2 g4;omega);clear t1 t2;rcases Bool.eq_false_or_eq_true (Cc n2 ol) with b3 | b3
               case inr=>
                have HE:=hid (HX.out false (Rl b3));have B3:=hid b3;clear b3;go_wp2_with fail;refine(Hf false n2 oa m2 oc ol _ B3.out HMM.out.2.1 M24.out.1 (HR.out.po.row.below HM7.out.below)).mono ?_;rintro e w8 ⟨rfl,hb8⟩;have HM8:=hid (HM7.out.step hb8);clear hb8;go_wp2_with fail;go_roundg (n4 - (k+1))
                case rel=>exact⟨k+1,false,by have:=HK.out;omega,rfl,by go_num,HE.out,fun h=>absurd h (by decide),HM8.out⟩
                case measure=>have:=HK.out;omega
               have B3:=hid b3;clear b3;go_wp2_with fail;refine(Hf true n2 oa m2 oc ol _ B3.out HMM.out.2.1 M24.out.1 (HR.out.po.row.below HM7.out.below)).mono ?_;rintro e w8 ⟨rfl,hb8⟩;have HM8:=hid (HM7.out.step hb8);have HBK8:=hid (HBK7.out.below hb8);have HK8:=hid (A5 hb8 HK7.out);clear hb8;clear k0 k1 k2 k3 k4 k5;have k0:=A4 HK8.out 0 _ rfl;have k1:=A4 HK8.out 1 _ rfl;have k2:=A4 HK8.out 2 _ rfl;have k3:=A4 HK8.out 3 _ rfl;have k4:=A4 HK8.out 4 _ rfl;have k5:=A4 HK8.out 5 _ rfl;rcases Bool.eq_false_or_eq_true (Cc n2 fl) with b4 | b4
               case inr=>
                have HE:=hid (HX.out false (Rn b4));have B4:=hid b4;clear b4;go_wp2_with fail;refine(Hf false n2 fa m4 fc fl _ B4.out HMM.out.2.2.2 M24.out.2 (HR.out.fl.row.below HM8.out.below)).mono ?_;rintro e w9 ⟨rfl,hb9⟩;have HM9:=hid (HM8.out.step hb9);clear hb9;go_wp2_with fail;go_roundg (n4 - (k+1))
                case rel=>exact⟨k+1,false,by have:=HK.out;omega,rfl,by go_num,HE.out,fun h=>absurd h (by decide),HM9.out⟩
                case measure=>have:=HK.out;omega
               have HE:=hid (HX.out true (RP (by dsimp only;rw[HMM.out.1];have:=HT.out;omega) (by dsimp only;rw[HMM.out.2.2.1];have:=HT.out;omega) B1.out B2.out B3.out b4));have B4:=hid b4;clear b4;go_wp2_with fail;refine(Hf true n2 fa m4 fc fl _ B4.out HMM.out.2.2.2 M24.out.2 (HR.out.fl.row.below HM8.out.below)).mono ?_;rintro e w9 ⟨rfl,hb9⟩;have HM9:=hid (HM8.out.step hb9);have HBK9:=hid (HBK8.out.below hb9);clear hb9;go_wp2_with fail;go_roundg (n4 - (k+1))
               case rel=>exact⟨k+1,true,by have:=HK.out;omega,rfl,by go_num,HE.out,fun _=>HBK9.out,HM9.out⟩
               case measure=>have:=HK.out;omega
           ·have HX:=hid (PS (A:=A3) (pre:=L.n3) (G:=n3) (S:=n1) (P:=n2) HY.out (G6 hr));have HRR:=hid hr;clear hr;go_wp2_with fail;rw[← HGG.out];refine(CK false nm _ HN.out HRR.out).mono ?_;rintro e w5 ⟨rfl,hb5⟩;have HM5:=hid (HM4.out.step hb5);clear hb5;go_wp2_with fail;go_roundg (n4 - (k+1))
            case rel=>exact⟨k+1,false,by have:=HK.out;omega,rfl,by go_num,HX.out,fun h=>absurd h (by decide),HM5.out⟩
            case measure=>have:=HK.out;omega
        ·have hkn:n4=k:=by omega
         subst hkn;have hfull:L.rt.l.take n4=L.rt.l:=List.take_of_length_le (by rw[N4.out];exact Nat.le_refl _);rw[hfull] at HS HBK;clear hfull;obtain⟨wq5,hwq⟩:∃ W,W=wr:=⟨_,rfl⟩;rw[← hwq] at HM HBK ⊢;clear hwq;go_wp2_with fail;go_ret;have hE:AQ L=okv:=by
          refine Om (A2:=A2) (A3:=A3) HSM.out ?_ ?_ ?_
          ·rw[N1.out,HS1.out];exact HS2.out
          ·rw[N1.out];exact HS3.out
          ·rw[N1.out,N2.out,N3.out];exact HS.out
         exact⟨by rw[hE];rfl,HM.out.below⟩
end Go.Proofs.YtpohoannggdbjaaGreat
namespace Go.Proofs.YtpohoannggdbjaaGreat
open Lib (hid)
open Go.RowKit
set_option maxRecDepth 100000
section
variable {α:Type} {sz:Nat} {f:α→List Value}
theorem C2(hf:∀ c,(f c).length=sz):∀ l:List α,(l.flatMap f).length=l.length*sz:=by
 intro l
 induction l with
 | nil=>simp
 | cons c l ih=>rw[List.flatMap_cons,List.length_append,hf,ih,List.length_cons,Nat.add_mul,Nat.one_mul,Nat.add_comm]
theorem FT(hf:∀ c,(f c).length=sz):∀(l:List α) (i:Nat) (c:α) (j:Nat) (v:Value),l[i]?=some c→(f c)[j]?=some v→(l.flatMap f)[i*sz+j]?=some v:=by
 intro l
 induction l with
 | nil=>intro i c j v h;simp at h
 | cons d l ih=>
   intro i c j v h hj;have hjs:j<sz:=by rw[← hf c];exact(List.getElem?_eq_some_iff.1 hj).1
   cases i with
   | zero=>
     simp at h;subst h;rw[List.flatMap_cons,Nat.zero_mul,Nat.zero_add,List.getElem?_append_left (by rw[hf];exact hjs)];exact hj
   | succ i=>
     have:=ih i c j v (by simpa using h) hj;rw[List.flatMap_cons,List.getElem?_append_right (by rw[hf,Nat.add_mul];omega),hf];rw[show(i+1)*sz+j - sz=i*sz+j by rw[Nat.add_mul];omega];exact this
theorem OB(hf:∀ c,(f c).length=sz)(l:List α)(j:Nat)(v:Value)(h:(l.flatMap f)[j]?=some v):∃ i c k,l[i]?=some c∧(f c)[k]?=some v∧j=i*sz+k:=by
 have hj:j<l.length*sz:=by rw[← C2 hf];exact(List.getElem?_eq_some_iff.1 h).1
 have hpos:0<sz:=by
  rcases Nat.eq_zero_or_pos sz with h0 | h0
  ·rw[h0,Nat.mul_zero] at hj;omega
  ·exact h0
 have hi:j / sz<l.length:=Nat.div_lt_of_lt_mul (by rw[Nat.mul_comm];exact hj);have hk:j % sz<sz:=Nat.mod_lt _ hpos;have hjj:j=j / sz*sz+j % sz:=by rw[Nat.mul_comm];exact(Nat.div_add_mod j sz).symm
 have g1:l[j / sz]?=some (l[j / sz]'hi):=List.getElem?_eq_getElem _;have g2:(f (l[j / sz]'hi))[j % sz]?=some ((f (l[j / sz]'hi))[j % sz]'(by rw[hf];exact hk)):=List.getElem?_eq_getElem _;have g3:=FT hf l _ _ _ _ g1 g2;rw[← hjj,h] at g3;refine⟨_,_,_,g1,?_,hjj⟩;rw[g2];exact g3.symm
theorem Er{w:World}{base:Nat}{e:TypeId}{v:Value}{n:Nat}{l:List α}(hf:∀ c,(f c).length=sz)(hn:l.length=n)(h:w.ownsRow base e sz v n (l.flatMap f)) :
 ∃ a c,v = .slice a n c∧B8 sz f w ⟨a,c,l⟩:=by
 rcases h.2 with ⟨rfl,rfl⟩ | ⟨g,cap,cur,rfl,hg,hheap,hncap,hcm,hsz,htake⟩
 ·obtain rfl:=List.eq_nil_of_length_eq_zero hn;exact⟨none,0,rfl,.inl rfl,Nat.le_refl _,Nat.zero_le _,fun _=>rfl⟩
 ·refine⟨some ⟨g,0,none⟩,cap,rfl,.inr ⟨g,0,rfl,fun i c hi j v hv=>?_⟩,by dsimp only;omega,hcm,fun h=>by cases h⟩;have hg2:=FT hf l i c j v hi hv;have hlt:i*sz+j<n*sz:=by rw[← hn,← C2 hf];exact(List.getElem?_eq_some_iff.1 hg2).1
  rw[Nat.zero_add];refine A4 hheap _ v ?_;rw[← Array.getElem?_toList,← hg2,← htake,List.getElem?_take,if_pos hlt]
theorem DJ{w:World}{s:Sl α}(hf:∀ c,(f c).length=sz)(h1:∀ c,∀ u∈f c,u.oneCell'=true)(h:B8 sz f w s):Co w s.a s.c (s.l.flatMap f):=by
 refine⟨fun ha=>⟨h.capNil ha,?_⟩,?_,?_⟩
 ·rcases h.row with hl | ⟨b,off,hb,_⟩
  ·rw[hl];rfl
  ·rw[ha] at hb;cases hb
 ·intro u hu;obtain⟨c,_,hc⟩:=List.mem_flatMap.1 hu;exact h1 c u hc
 ·intro ad had j u hu;rcases h.row with hl | ⟨b,off,hb,hc⟩
  ·rw[hl] at hu;simp at hu
  ·rw[had] at hb;obtain rfl:=Option.some.inj hb;obtain⟨i,c,k,g1,g2,rfl⟩:=OB hf _ _ _ hu;rw[Addr.add_lit,← Nat.add_assoc];exact hc i c g1 k u g2
end
theorem BZ(c:Int):(AO c).length=1:=rfl
theorem Ft(c:BA):(Da c).length=1:=rfl
theorem D7(c:Int × Bool):(Cz c).length=2:=rfl
theorem Fo(c:Int):∀ u∈AO c,u.oneCell'=true:=by intro u h;simp[AO] at h;subst h;rfl
theorem P8(c:BA):∀ u∈Da c,u.oneCell'=true:=by intro u h;simp[Da] at h;subst h;rfl
theorem I6(c:Int × Bool):∀ u∈Cz c,u.oneCell'=true:=by
 intro u h;simp[Cz] at h;rcases h with rfl | rfl<;>rfl
theorem Qi(a b:BA):(a.toList == b.toList)=decide (a=b):=by
 by_cases h:a=b
 ·subst h;simp
 ·rw[decide_eq_false h];cases hx:(a.toList == b.toList) with
  | false=>rfl
  | true=>exact absurd ((Lib.bytes_beq_iff a b).1 hx) h
attribute [local irreducible] D9 Au Cc
def fI:Nat→List BA→BA→Int
 | _,[],_=>-1
 | k,y :: t,s=>if y=s then (k:Int) else fI (k+1) t s
theorem R8:∀(l:List BA) (k:Nat) (s:BA),(0≤fI k l s∧D9 l s=true)∨(fI k l s<0∧D9 l s=false):=by
 intro l
 induction l with
 | nil=>intro k s;exact .inr ⟨by unfold fI;decide,by unfold D9;rfl⟩
 | cons y l ih=>
   intro k s;by_cases h:y=s
   ·exact .inl ⟨by unfold fI;rw[if_pos h];omega,by unfold D9;simp[h]⟩
   ·have e1:fI k (y :: l) s=fI (k+1) l s:=by
     show(if y=s then (k:Int) else fI (k+1) l s)=_;rw[if_neg h]
    have e2:D9 (y :: l) s=D9 l s:=by unfold D9;simp[h]
    rw[e1,e2];exact ih (k+1) s
theorem Ox{l:List BA}{s y:BA}{k:Nat}(h:l[k]?=some y)(hy:y≠s):fI k (l.drop k) s=fI (k+1) (l.drop (k+1)) s:=by
 have hk:k<l.length:=(List.getElem?_eq_some_iff.1 h).1;rw[List.drop_eq_getElem_cons hk,(List.getElem?_eq_some_iff.1 h).2];show(if y=s then (k:Int) else fI (k+1) (l.drop (k+1)) s)=_;rw[if_neg hy]
theorem Qm{l:List BA}{s y:BA}{k:Nat}(h:l[k]?=some y)(hy:y=s):fI k (l.drop k) s=k:=by
 have hk:k<l.length:=(List.getElem?_eq_some_iff.1 h).1;rw[List.drop_eq_getElem_cons hk,(List.getElem?_eq_some_iff.1 h).2];show(if y=s then (k:Int) else fI (k+1) (l.drop (k+1)) s)=_;rw[if_pos hy]
theorem Q7{l:List BA}{s:BA}{k:Nat}(h:l.length=k):fI k (l.drop k) s = -1:=by rw[List.drop_eq_nil_of_le (by omega)];rfl
attribute [local irreducible] fI
theorem KP(x:Option Addr)(m c:Nat)(l:List BA)(s:BA)(w:World)(hn:l.length=m)(hm:m≤9223372036854775807)(hl:AF 1 Da w x l) :
 Calls Tryz.prog 65 #[.slice x m c,.string s] w fun e w'=>e = .returned (.int .i64 (fI 0 l s))∧w=w':=by
 have HN:=hid hn;clear hn;go_enter Tryz.func65,Tryz.ntmps65;go_wp2_with fail;go_loopg [5] m (fun g i wr=>∃ k:Nat,k+g=m∧i = .int .i64 (k:Int)∧fI k (l.drop k) s=fI 0 l s∧w=wr)
 case atStart=>exact⟨0,by omega,rfl,rfl,rfl⟩
 case round=>
  obtain⟨k,hk,rfl,hb,rfl⟩:=hrel;have HB:=hid hb;clear hb;by_cases hlt:k<m
  ·obtain⟨y,hy⟩:∃ y,l[k]?=some y:=⟨_,List.getElem?_eq_getElem (by rw[HN.out];exact hlt)⟩;rcases hl with rfl | ⟨b,off,rfl,hc⟩
   ·simp at hy
   have z0:=hc k y hy 0 _ rfl;rw[Nat.add_zero,Nat.mul_one] at z0;have HY:=hid hy;have d1:(0:Int)≤k:=by omega
   have d2:(k:Int)<m:=by omega
   have e1:wrap64 ((k:Int)+1)=(k:Int)+1:=by unfold wrap64;omega
   have HK:=hid hk;clear hc hy hk;have hbe:=Qi y s;by_cases hys:y=s
   ·have HF:Hid (fI 0 l s=k):=hid (HB.out.symm.trans (Qm HY.out hys));rw[decide_eq_true hys] at hbe;clear hys;go_wp2_with fail;go_ret;exact⟨by rw[HF.out];rfl,rfl⟩
   ·have HT:Hid (fI (k+1) (l.drop (k+1)) s=fI 0 l s):=hid ((Ox HY.out hys).symm.trans HB.out);rw[decide_eq_false hys] at hbe;clear hys;go_wp2_with fail;go_roundg (m - (k+1))
    case rel=>exact⟨k+1,by have:=HK.out;omega,by go_num,HT.out,rfl⟩
    case measure=>have:=HK.out;omega
  ·have hkm:m=k:=by omega
   subst hkm;have HF:Hid (fI 0 l s = -1):=hid (HB.out.symm.trans (Q7 HN.out));go_wp2_with fail;go_ret;exact⟨by rw[HF.out];rfl,rfl⟩
def Gj(n:Nat)(l:List Int):Bool:=decide (l.length≤16) && Au n l
theorem J6{n:Nat}{l:List Int}(h:¬ l.length≤16):Gj n l=false:=by unfold Gj;rw[decide_eq_false h];rfl
theorem Kv{n:Nat}{l:List Int}{k:Nat}{y:Int}(h:l[k]?=some y)(hx:¬ (0≤y∧y<(n:Int))):Gj n l=false:=by unfold Gj;rw[Cf h hx,Bool.and_false]
set_option maxHeartbeats 1000000 in
theorem Qa(n:Nat)(x:Option Addr)(m c:Nat)(l:List Int)(w:World)(hn:l.length=m)(hm:m≤9223372036854775807)(hl:AF 1 AO w x l) :
 Calls Tryz.prog 66 #[.slice x m c,.int .i64 (n:Int)] w fun e w'=>e = .returned (.bool (Gj n l))∧w=w':=by
 have HN:=hid hn;clear hn;go_enter Tryz.func66,Tryz.ntmps66;go_wp2_with fail;go_loopg [5] m (fun g i wr=>∃ k:Nat,k+g=m∧k≤17∧i = .int .i64 (k:Int)∧Au n (l.take k)=true∧w=wr)
 case atStart=>exact⟨0,by omega,by omega,rfl,by unfold Au;rfl,rfl⟩
 case round=>
  obtain⟨k,hk,hk17,rfl,hb,rfl⟩:=hrel;have HB:=hid hb;clear hb;by_cases hlt:k<m
  ·by_cases h17:k<17
   ·obtain⟨y,hy⟩:∃ y,l[k]?=some y:=⟨_,List.getElem?_eq_getElem (by rw[HN.out];exact hlt)⟩;rcases hl with rfl | ⟨b,off,rfl,hc⟩
    ·simp at hy
    have z0:=hc k y hy 0 _ rfl;rw[Nat.add_zero,Nat.mul_one] at z0;have HY:=hid hy;have d1:(0:Int)≤k:=by omega
    have d2:(k:Int)<m:=by omega
    have d3:(k:Int)<17:=by omega
    have e1:wrap64 ((k:Int)+1)=(k:Int)+1:=by unfold wrap64;omega
    have HK:=hid hk;clear hc hy hk hk17 h17;by_cases h1:y<0
    ·have HF:=hid (Kv (n:=n) HY.out (by omega));go_wp2_with fail;go_ret;exact⟨by rw[HF.out];rfl,rfl⟩
    by_cases h2:(n:Int)≤y
    ·have HF:=hid (Kv (n:=n) HY.out (by omega));go_wp2_with fail;go_ret;exact⟨by rw[HF.out];rfl,rfl⟩
    ·have HT:Hid (Au n (l.take (k+1))=true):=hid (by rw[C9 HY.out,HB.out,decide_eq_true (by omega)];rfl);go_wp2_with fail;go_roundg (m - (k+1))
     case rel=>exact⟨k+1,by have:=HK.out;omega,by omega,by go_num,HT.out,rfl⟩
     case measure=>have:=HK.out;omega
   ·have HF:=hid (J6 (n:=n) (l:=l) (by rw[HN.out];omega));have d2:(k:Int)<m:=by omega
    have d3:¬ (k:Int)<17:=by omega
    have d4:¬ (m:Int)≤16:=by omega
    clear hk17 h17;go_wp2_with fail;go_ret;exact⟨by rw[HF.out];rfl,rfl⟩
  ·have hkm:m=k:=by omega
   subst hkm;have hT:Au n l=true:=by have:=HB.out;rwa [List.take_of_length_le (by rw[HN.out];exact Nat.le_refl _)] at this
   by_cases h16:m≤16
   ·have HF:Hid (Gj n l=true):=hid (by unfold Gj;rw[hT,HN.out,decide_eq_true h16];rfl);have d4:(m:Int)≤16:=by omega
    clear hT;go_wp2_with fail;go_ret;exact⟨by rw[HF.out];rfl,rfl⟩
   ·have HF:=hid (J6 (n:=n) (l:=l) (by rw[HN.out];omega));have d4:¬ (m:Int)≤16:=by omega
    clear hT;go_wp2_with fail;go_ret;exact⟨by rw[HF.out];rfl,rfl⟩
theorem FD(B:Bool)(n:Nat)(x:Option Addr)(m c:Nat)(l:List Int)(w:World)(hB:Gj n l=B)(hn:l.length=m)(hm:m≤9223372036854775807)(hl:AF 1 AO w x l) :
 Calls Tryz.prog 66 #[.slice x m c,.int .i64 (n:Int)] w fun e w'=>e = .returned (.bool B)∧w=w':=hB ▸ Qa n x m c l w hn hm hl
theorem NG(n:Nat)(x:Int):Gj n [x]=decide (0≤x∧x<(n:Int)):=by unfold Gj;rw[FB];rfl
theorem ER(n:Nat)(x:Int)(w:World)(g:Nat)(t:TypeId)(fr:Nat × Nat)(h:w.heap[g]?=some (.cells #[.int .i64 x] t fr)):Calls Tryz.prog 66 #[.slice (some ⟨g,0,none⟩) 1 1,.int .i64 (n:Int)] w fun e w'=>e = .returned (.bool (decide (0≤x∧x<(n:Int))))∧w=w':=
 FD _ n _ 1 1 [x] _ (NG n x) rfl (by omega) (Ky h)
theorem Dx:(Tryz.prog.info? 3).map (fun i=>(i.zero,i.size,i.bytes))=some (some (.int .i64 0),1,8):=by kernel_rfl
theorem Nd:(Tryz.prog.info? 9).map (fun i=>(i.zero,i.size,i.bytes))=some (some (.string ⟨#[]⟩),1,16):=by kernel_rfl
theorem DE{w:World}{g:Nat}{t:TypeId}{fr:Nat × Nat}{u:Value}(h1:u.oneCell'=true)(h:w.heap[g]?=some (.cells #[u] t fr)):Co w (some ⟨g,0,none⟩) 1 [u]:=by
 refine⟨fun h=>(by cases h),fun v hv=>?_,fun ad had j v hv=>?_⟩
 ·simp at hv;subst hv;exact h1
 ·obtain rfl:=Option.some.inj had;have hj:j<1:=(List.getElem?_eq_some_iff.1 hv).1;obtain rfl:j=0:=by omega
  simp at hv;subst hv;rw[Addr.add_lit];exact A4 h 0 _ rfl
end Go.Proofs.YtpohoannggdbjaaGreat
