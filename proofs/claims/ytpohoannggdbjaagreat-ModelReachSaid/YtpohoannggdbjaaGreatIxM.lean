/- Ours: MoF; IxM. -/
import Derived.Test.YtpohoannggdbjaaGreatMoE
import Derived.Great.BuildSlice
import Derived.Test.YtpohoannggdbjaaGreatMoC
import Derived.Test.YtpohoannggdbjaaGreatMC
import Derived.Test.YtpohoannggdbjaaGreatCoF
set_option maxRecDepth 100000
set_option maxHeartbeats 200000000
namespace Go.Proofs.YtpohoannggdbjaaGreat
open Lib (hid)
open Go.RowKit
section
open Go.RowKit Go.Shelf
attribute [local go_sem] Oper.semAt_some
theorem OG(l:List Value):∀(k:Nat) (c:Array Value),k+l.length≤c.size→∀ j,((l.zipIdx k).foldl (fun(cs:Array Value) (x:Value × Nat)=>cs.setIfInBounds (0+x.2) x.1) c)[j]?=if k≤j∧j<k+l.length then l[j - k]? else c[j]?:=by
 induction l with
 | nil=>intro k c hk j;simp only[List.zipIdx_nil,Wj,WQ];rw[if_neg (by omega)]
 | cons x l ih=>
   intro k c hk j;simp only[WK] at hk;simp only[List.zipIdx_cons,Wi,WK];rw[ih (k+1) _ (by rw[Array.size_setIfInBounds];omega) j];by_cases h1:k+1≤j∧j<k+1+l.length
   ·rw[if_pos h1,if_pos (by omega),show j - k=(j - (k+1))+1 by omega,List.getElem?_cons_succ]
   ·rw[if_neg h1,Array.getElem?_setIfInBounds];by_cases h2:k=j
    ·subst h2;rw[if_pos (by omega),if_pos (by omega),if_pos (by omega)];simp
    ·rw[if_neg (by omega),if_neg (by omega)]
theorem OE(l:List Value)(c:Array Value)(h1:l.length=68)(h2:c.size=68):Instr.fill (fun i=>some (i*68,68)) c [(0,.agg l.toArray)]=some l.toArray:=by
 have hc:(Value.agg l.toArray).cells=l.toArray:=rfl;have hf:(l.toArray.zipIdx.foldl (fun(cs:Array Value) (x:Value × Nat)=>cs.setIfInBounds (0+x.2) x.1) c)=l.toArray:=by
  apply Array.ext_getElem?
  intro j;have:=OG l 0 c (by omega) j;have e:l.toArray.zipIdx.foldl (fun(cs:Array Value) (x:Value × Nat)=>cs.setIfInBounds (0+x.2) x.1) c=(l.zipIdx 0).foldl (fun(cs:Array Value) (x:Value × Nat)=>cs.setIfInBounds (0+x.2) x.1) c:=by
   rw[← Array.foldl_toList];simp
  rw[e,this];by_cases hj:j<l.length
  ·rw[if_pos (by omega)];simp
  ·rw[if_neg (by omega),Array.getElem?_eq_none (by omega),Array.getElem?_eq_none (by rw[Wn];omega)]
 unfold Instr.fill;simp only[hc,Nat.zero_mul];rw[if_neg (by simp[h1,h2])];unfold Instr.fill;exact congrArg some hf
theorem Ew:(Tryz.prog.info? 65).map (fun i=>(i.zero,i.size,i.bytes))=some (some (.agg (Af zS).toArray),68,96):=by kernel_rfl
theorem Ee(s:St)(w:World):(Instr.buildSlice 37 1 #[(0,.agg (Af s).toArray)]).run Tryz.prog w = .ok (.slice (some ⟨w.heap.size,0,none⟩) 1 1) (w.alloc (.cells (Af s).toArray 65)):=by
 obtain⟨i,hi,hz0,hz1,hz2⟩:=info_parts Ew;refine run_buildSlice w 37 65 1 _ _ i _ Tryz.underlying37 hi hz0 (by rw[hz1];decide) (by rw[hz1];decide) ?_;rw[hz1];exact OE (Af s) _ (AS s) (by simp)
theorem MZ(w:World)(l:List Value)(t:TypeId):∀(j:Nat) u,l[j]?=some u→(w.alloc (.cells l.toArray t)).cell? ((⟨w.heap.size,0,none⟩:Addr).add j)=some u:=by
 intro j u hj;have h:=A4 (Al w (.cells l.toArray t) (VU _ _)) (0+j) u (by rw[Wq,WG];exact hj);rw[Wq] at h;have e:(⟨w.heap.size,0,none⟩:Addr).add j=⟨w.heap.size,j,none⟩:=by
  unfold Addr.add;by_cases hj0:j=0
  ·subst hj0;rfl
  ·simp[hj0]
 rw[e];exact h
theorem FH{F:Fence}{n:Nat}{P:Program}{ops:Array Oper}{rest:List Oper}{op:Oper}{a:Act}{w:World}{Q:Exit→Act→World→Prop}(hgd:op.guard=none)(t:TypeId)(x:Operand)(ho:op.op = .buildSlice t 1 #[(0,x)])(vx v:Value)(hx:a.eval x=vx)(w':World)
 (hr:(Instr.buildSlice t 1 #[(0,vx)]).run P w = .ok v w') (h:wpListIn F n P ops Q rest (a.put op.dst v) w'):wpListIn F n P ops Q (op :: rest) a w:=
 wpListIn_plain hgd fun K hK=>by
  unfold Oper.wpIn;refine⟨?_,?_⟩
  ·simp[Oper.about,ho]
  ·rw[Oper.semAt_plain F _ _ (by rw[ho];intro c hc';cases hc')];unfold execOp;simp only[ho,hx,List.map_toArray,List.map_cons,List.map_nil,Sem.run_bind,hr,Result.andThen_ok,Sem.run_pure];exact hK _ _ h
attribute [local irreducible] Sl.v Aa pw Ab Aw Af CD El Bq Bs BV C6 BS Ay AN
theorem MW(n:Nat)(hn:4≤n)(Bm r:Nat)(K:List St)(w:World)(hK:K.length≤100000)(hB:w.heap[Bm]?=some (.cells #[.map (some r)] 78))(hms:CH w r K) :
 CallsIn Fence.wide n Tryz.prog 37 #[.slice none 0 0,.func (.func 38) #[] #[.pointer (some ⟨Bm,0,none⟩)]] w fun e W'=>
  ∃(v:Value) (ss:List St),e = .returned v∧ss.Perm K∧W'.ownsRow w.heap.size 65 68 v ss.length (ss.flatMap Af)∧Below w.heap.size w W':=by
 have h1:1≤n:=by omega
 obtain⟨i0,hi,hz0,hz1,hz2⟩:=info_parts Ew;have HK:=hid hK;refine callsIn_of_wp_marks Tryz.func37 rfl trivial ?_ rfl;simp only[Tryz.ntmps37,Wn,WK,WQ,Nat.reduceAdd,Nat.reduceSub,Array.replicate_succ,Array.replicate_zero,List.push_toArray,List.append_toArray,WC,List.cons_append];gi_wp2;have bO:=Boxed.new w 37 (.slice none 0 0);have hB0:Below w.heap.size w (w.alloc (.cells #[.slice none 0 0] 37)):=(VU _ w).alloc (Wc _) _;refine wpIn_rangeFunc_ownH rfl h1 (gf:=38) (lb := #[.pointer (some ⟨Bm,0,none⟩)]) rfl trivial (enters_of Tryz.func38 (by kernel_rfl) rfl)
  (Ll (n - 1) (by omega) Bm r K _ (A5 hB0 hB) (hms.below hB0)) walksK_t (fun W l o o' hl ho hc hw=>walksK_b (w:=w) W l o o' (by simp at hl;omega) ho hc hw) (VU _ _) (fun _=>rfl)
  (fun(pre:List St) W=>(∃ v,Boxed W w.heap.size 37 v∧W.ownsRow w.heap.size 65 68 v pre.length (pre.flatMap Af)∧True)∧Below w.heap.size w W)
  (fun _ _ _=>False)
  (OwnFrom.and (Own.from (holdsRow_own w.heap.size w.heap.size 37 65 68 (fun pre:List St=>pre.length) (fun pre:List St=>pre.flatMap Af) (fun(_:List St) (_:Value)=>True)) _) (ownFrom_below (Wc _) (by simp)))
  (fun _ _ _ _ _ hs _ _=>hs)
  ⟨⟨_,bO,Wz _ _ _ _,trivial⟩,hB0⟩
  (fun x a' W=>∃ g,a'={ tmps := #[.slice none 0 0,.func (.func 38) #[] #[.pointer (some ⟨Bm,0,none⟩)],.pointer (some ⟨w.heap.size,0,none⟩),undef,.slice none 0 0,.pointer (some ⟨g,0,none⟩),.func (.func 38) #[] #[.pointer (some ⟨Bm,0,none⟩)],.agg (Af x).toArray,undef,undef,undef,undef,undef],defers:=[] }∧W.heap[g]?=some (.cells (Af x).toArray 65))
  ?hAx ?assign ?body ?done ?stop
 case hAx=>
  rintro x a' s W W' row ⟨g,ha,hg⟩ hgr hr;refine⟨g,ha,(hgr.block g (Aj hg) (fun e=>?_)).trans hg⟩;obtain⟨_,o,ho,hc⟩:=hr g e.symm;rw[hg] at ho;injection ho with ho
  rw[← ho] at hc;cases hc
 case assign=>
  rintro l pre x W KK ⟨⟨v,hv,hrow,_⟩,hB⟩ hKK;obtain⟨hst,hq,hbb⟩:=IV W x;have HST:=hid hst;have hfin:=hKK _ _ ((show KeepsOthers W _ from⟨hbb.size,fun j o hj _=>A5 hbb hj⟩).from _) (G9 hbb) ⟨⟨v,A5 hbb hv,hrow.kept (Fk hbb) (by cases hv2:v.ownBlock<;>simp),trivial⟩,hB.trans (hbb.mono hB.size)⟩ ⟨W.heap.size,rfl,hq⟩;have HF:=hid hfin;clear hst hfin hq hbb hKK hv hrow hB;gi_wp2_with (first
   | rw[Bz]
   | ((with_reducible refine DJ (op:=⟨none,.store 65 _ _,_,_,_,_⟩) rfl 65 _ _ rfl _ _ ?_ ?_ _ HST.o ?_);(· rfl);(· rfl)))
  exact HF.o
 case body=>
  rintro l pre x a' W hl hrec ⟨⟨v,hv,hrow,_⟩,hB⟩ ⟨g,rfl,hg⟩ hlt;have hc:=hv.cell;have HLD:=hid (Au hg);have HBU:=hid (Ee x W);gi_wp2_with (first
   | ((with_reducible refine E2 (op:=⟨some 9,_,_,_,_,_⟩) rfl 65 _ rfl _ _ ?_ HLD.o ?_);(· rfl))
   | ((with_reducible refine FH (op:=⟨some 10,_,_,_,_,_⟩) rfl 37 _ rfl _ _ ?_ _ HBU.o ?_);(· rfl))
   | (gi_at_builtin;refine wpListIn_append_own _ rfl _ _ 37 rfl w.heap.size 65 i0 (.agg (Af zS).toArray) 68 96 Tryz.underlying37 hi hz0 hz1 hz2 (by rw[Value.cells,Wn,AS]) (by decide) _ _ _ rfl (hrow.alloc _) ⟨W.heap.size,0,none⟩ 1 1 (Af x) rfl (AS x) (MZ _ _ _) (JI x) (by have:=HK.o;unfold maxLen;omega) (by have:=HK.o;omega) (by have:=hB.size;simp;omega) ?_;intro v' w1 hown' hgrow _;obtain⟨g',cap',rfl⟩:=ownsRow_succ hown';obtain⟨hv1,hv2,hr2,hk2,hb2⟩:=hv.appended (by decide) hrow hB.size (Wc _) hown' hgrow;have hc1:=hv1.cell;have hf1:=hv1.frozen))
  refine⟨hk2.from _,hk2.walks,⟨_,hv2,?_⟩,hB.trans hb2⟩;rw[WA,WI,WO,Wt,show(pre ++ [x]).length=pre.length+1 by rw[Wh];rfl];first
   | exact hr2
   | exact⟨hr2,trivial⟩
 case done=>
  rintro D ys W hD hys ⟨⟨v,hv,hrow,_⟩,hB⟩ hK;have hc:=hv.cell;gi_wp2;refine⟨by simp,.inl ⟨_,_,rfl,run_takeDeferred hK,?_⟩⟩;exact⟨_,results_tmp rfl _ _ _,v,ys,rfl,hys,ownsRow_putObj hrow _ hK rfl,hB.trans (belowK_b (w:=w) (Wc _) W D _ _ (by simp at hD;omega) hK rfl rfl)⟩
 case stop=>
  rintro D c pre W _ _ h _;exact h.elim
theorem La(n:Nat)(hn:5≤n)(Bm r:Nat)(K:List St)(w:World)(hK:K.length≤100000)(hB:w.heap[Bm]?=some (.cells #[.map (some r)] 78))(hms:CH w r K) :
 CallsIn Fence.wide n Tryz.prog 22 #[.func (.func 38) #[] #[.pointer (some ⟨Bm,0,none⟩)]] w fun e W'=>
  ∃(v:Value) (ss:List St),e = .returned v∧ss.Perm K∧W'.ownsRow w.heap.size 65 68 v ss.length (ss.flatMap Af)∧Below w.heap.size w W':=by
 have h1:1≤n:=by omega
 refine callsIn_of_wp Tryz.func22 rfl trivial ?_ rfl;simp only[Tryz.ntmps22,Wn,WK,WQ,Nat.reduceAdd,Nat.reduceSub,Array.replicate_succ,Array.replicate_zero,List.push_toArray,List.append_toArray,WC,List.cons_append];gi_wp2;refine⟨trivial,?_⟩;refine(MW (n - 1) (by omega) Bm r K _ hK hB hms).mono ?_;rintro e w' ⟨v,ss,rfl,hss,hrow,hb⟩;gi_wp2;go_ret;exact⟨v,ss,rfl,hss,hrow,hb⟩
theorem JZ(Bm r:Nat)(K:List St)(w:World)(hK:K.length≤100000)(hB:w.heap[Bm]?=some (.cells #[.map (some r)] 78))(hms:CH w r K) :
 Calls Tryz.prog 22 #[.func (.func 38) #[] #[.pointer (some ⟨Bm,0,none⟩)]] w fun e W'=>∃(v:Value) (ss:List St),e = .returned v∧ss.Perm K∧W'.ownsRow w.heap.size 65 68 v ss.length (ss.flatMap Af)∧Below w.heap.size w W':=
 callsIn_wide.1 (La 5 (by omega) Bm r K w hK hB hms)
theorem P6(r:Nat)(w:World):Calls Tryz.prog 23 #[.map (some r)] w fun e w'=>e = .returned (.func (.func 38) #[] #[.pointer (some ⟨w.heap.size,0,none⟩)])∧w'=w.alloc (.cells #[.map (some r)] 78):=by
 go_enter Tryz.func23,Tryz.ntmps23;go_wp2_with fail;go_ret;exact⟨rfl,rfl⟩
end
section
def CY(L:AL)(i:Nat)(r:Rt):Rw:=⟨r.pa.l.headD 0,Bt L r.sg,r.tr,r.nd,BO L (i:Int)⟩
def AW(L:AL):Tb:=⟨L.rt.l.mapIdx (CY L),L.po.l.map (fun p=>p.2)⟩
theorem D5(L:AL):(AW L).rw.length=L.rt.l.length:=by simp[AW]
theorem DO(L:AL):(AW L).li.length=L.po.l.length:=by simp[AW]
theorem DN{L:AL}{i:Nat}{r:Rt}(h:L.rt.l[i]?=some r):(AW L).rw[i]?=some (CY L i r):=by
 unfold AW;show(L.rt.l.mapIdx (CY L))[i]?=_;rw[List.getElem?_mapIdx,h];rfl
theorem PS{L:AL}{i:Nat}{r:Rt}(h:L.rt.l[i]?=some r):(AW L).rw.take (i+1)=(AW L).rw.take i ++ [CY L i r]:=by rw[Wp,DN h];rfl
theorem PQ{L:AL}{k:Nat}{p:BA × Int}(h:L.po.l[k]?=some p):(AW L).li[k]?=some p.2:=by
 unfold AW;show(L.po.l.map (fun p=>p.2))[k]?=_;rw[List.getElem?_map,h];rfl
theorem Si{L:AL}{k:Nat}{p:BA × Int}(h:L.po.l[k]?=some p):(AW L).li.take (k+1)=(AW L).li.take k ++ [p.2]:=by rw[Wp,PQ h];rfl
theorem Hs{L:AL}(h:(Ap L).1=0):∀ r∈L.rt.l,At L r=true:=by
 refine O9.1 ?_;by_cases hb:0≤Eo L
 ·rw[Lf (B6 h) rfl hb] at h;cases h
 ·omega
theorem U9{L:AL}{r:Rt}(h:At L r=true):r.pa.l≠[]:=by
 intro he;rw[Tt (by rw[he];rfl)] at h;cases h
theorem KZ{L:AL}(h:AX L=true):(∀ p∈L.po.l,0≤p.2∧p.2<(L.se.l.length:Int))∧(∀ p∈L.sg.l,0≤p.2∧p.2<(L.se.l.length:Int)):=by
 unfold AX BK at h;simp only[Wl] at h;obtain⟨_,⟨⟨_,_,h1⟩,_,h2⟩,_⟩:=h;exact⟨fun p hp=>CI h1 p.2 (List.mem_map.2 ⟨p,hp,rfl⟩),fun p hp=>CI h2 p.2 (List.mem_map.2 ⟨p,hp,rfl⟩)⟩
theorem NX{L:AL}(h:AX L=true):∀ r∈L.rt.l,∀ n∈r.nd,0≤n.1∧n.1<(L.po.l.length:Int):=by
 intro r hr n hn;have o:=Bv h r hr;unfold Rt.nd at hn;rcases WE.1 hn with hn | hn
 ·exact CI o.qb n.1 (List.mem_map.2 ⟨n,hn,rfl⟩)
 ·exact CI o.fb n.1 (List.mem_map.2 ⟨n,hn,rfl⟩)
theorem NY{L:AL}(h:AX L=true):∀ r∈L.rt.l,∀ n∈r.tr,0≤n∧n<(L.se.l.length:Int):=by
 intro r hr n hn;have o:=Bv h r hr;unfold Rt.tr at hn;rcases WE.1 hn with hn | hn
 ·exact CI o.pb n hn
 ·exact CI o.ob n hn
theorem VJ{L:AL}(h:AX L=true):∀ r∈L.rt.l,0≤Bt L r.sg∧Bt L r.sg<(L.se.l.length:Int):=by
 intro r hr;have o:=Bv h r hr;obtain⟨k,hk⟩:∃ k:Nat,r.sg=k:=⟨r.sg.toNat,by have:=o.s0;omega⟩;have hl:k<L.sg.l.length:=by have:=o.s1;omega
 rw[hk,EF (Wb hl)];exact(KZ h).2 _ (List.getElem_mem hl)
theorem IZ{L:AL}{n k:Int}:k∈BO L n↔∃ m:Nat,k=m∧m<min L.rt.l.length 64∧C9 L n (m:Int)=true:=by
 unfold BO Ds;simp only[List.mem_map,List.mem_filter,List.mem_range];exact⟨fun⟨m,⟨h1,h2⟩,h3⟩=>⟨m,h3.symm,h1,h2⟩,fun⟨m,h3,h1,h2⟩=>⟨m,⟨h1,h2⟩,h3.symm⟩⟩
theorem Ua{L:AL}{x:Rw}(hx:x∈(AW L).rw):∃(i:Nat) (r:Rt),L.rt.l[i]?=some r∧x=CY L i r:=by
 obtain⟨i,hi,rfl⟩:=List.getElem_of_mem hx;have hl:i<L.rt.l.length:=by rw[D5] at hi;exact hi
 refine⟨i,_,Wb hl,?_⟩;have:=DN (L:=L) (Wb hl);rw[Wb hi] at this;exact Option.some.inj this
theorem G4{L:AL}(h:(Ap L).1=0):Dc (AW L):=by
 have hm:=B6 h;obtain⟨z1,z2,z3,z4⟩:=AE hm;refine⟨by rw[D5];exact z4,by rw[DO];exact z2,fun x hx=>?_,fun s hs=>?_⟩
 ·obtain⟨i,r,hr,rfl⟩:=Ua hx;have hmem:=Wf hr;have hf:=U9 (Hs h r hmem);refine⟨?_,?_,fun s hs=>?_,fun n hn=>?_,fun k hk=>?_⟩
  ·have:=NY hm r hmem (r.pa.l.headD 0) (by
    unfold Rt.tr;refine List.mem_append_left _ ?_;cases hp:r.pa.l with
    | nil=>exact absurd hp hf
    | cons a l=>exact WM)
   show 0≤r.pa.l.headD 0∧r.pa.l.headD 0≤63;omega
  ·have:=VJ hm r hmem;show 0≤Bt L r.sg∧Bt L r.sg≤63;omega
  ·have:=NY hm r hmem s hs;omega
  ·rw[DO];exact NX hm r hmem n hn
  ·rw[D5];obtain⟨m,rfl,h1,_⟩:=IZ.1 hk;omega
 ·unfold AW at hs;obtain⟨p,hp,rfl⟩:=List.mem_map.1 hs;have:=(KZ hm).1 p hp;omega
end
end Go.Proofs.YtpohoannggdbjaaGreat
