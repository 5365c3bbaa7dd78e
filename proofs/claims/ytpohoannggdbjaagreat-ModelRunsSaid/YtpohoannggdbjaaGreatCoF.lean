/- Ours: ME; CoF. -/
import Derived.Test.YtpohoannggdbjaaGreatMC
namespace Go.Proofs.YtpohoannggdbjaaGreat
open Lib (hid)
open Go.RowKit
structure WX(X:Nat→Prop)(w w':World):Prop where
 os:w'.os=w.os
 tape:w'.tape=w.tape
 output:w'.output=w.output
 size:w.heap.size≤w'.heap.size
 block:∀ k,k<w.heap.size→¬ X k→w'.heap[k]?=w.heap[k]?
theorem WX.refl(X:Nat→Prop)(w:World):WX X w w:=⟨rfl,rfl,rfl,Nat.le_refl _,fun _ _ _=>rfl⟩
theorem WX.of_below{X:Nat→Prop}{w w':World}(h:Below w.heap.size w w'):WX X w w':=⟨h.os,h.tape,h.output,h.size,fun k hk _=>h.block k hk⟩
theorem WX.of_only{X:Nat→Prop}{g:Nat}{w w':World}(h:Ag g w w')(hg:X g):WX X w w':=⟨h.os,h.tape,h.output,h.size,fun k hk hx=>h.block k hk (fun e=>hx (e ▸ hg))⟩
theorem WX.set{X:Nat→Prop}{w:World}{g:Nat}(hg:X g)(i:Nat)(v:Value):WX X w (w.setCell ⟨g,i,none⟩ v):=WX.of_only ((Ag.refl g w).setCell rfl v) hg
theorem WX.of_grown{X:Nat→Prop}{w w':World}{row:Option Nat}(h:w.grownBy w' row)(hr:∀ k,row=some k→X k):WX X w w':=⟨h.os,h.tape,h.output,h.size,fun k hk hx=>h.block k hk (fun e=>hx (hr k e.symm))⟩
theorem WX.trans{X:Nat→Prop}{a b c:World}(h:WX X a b)(k:WX X b c):WX X a c:=
 ⟨k.os.trans h.os,k.tape.trans h.tape,k.output.trans h.output,Nat.le_trans h.size k.size,fun i hi hx=>(k.block i (Nat.lt_of_lt_of_le hi h.size) hx).trans (h.block i hi hx)⟩
theorem WX.mono{X Y:Nat→Prop}{w w':World}(h:WX X w w')(hxy:∀ b,X b→Y b):WX Y w w':=⟨h.os,h.tape,h.output,h.size,fun k hk hy=>h.block k hk (fun e=>hy (hxy k e))⟩
theorem WX.keep{X:Nat→Prop}{w w':World}{k:Nat}{o:Obj}(h:WX X w w')(hk:¬ X k)(hb:w.heap[k]?=some o):w'.heap[k]?=some o:=by rw[h.block k (Af hb) hk,hb]
theorem WX.below{X:Nat→Prop}{w0 w w':World}(h:Below w0.heap.size w0 w)(k:WX X w w')(hx:∀ b,X b→w0.heap.size≤b):Below w0.heap.size w0 w':=
 ⟨k.os.trans h.os,k.tape.trans h.tape,k.output.trans h.output,Nat.le_trans h.size k.size,fun i hi=>(k.block i (Nat.lt_of_lt_of_le hi h.size) (fun e=>by have:=hx i e;omega)).trans (h.block i hi)⟩
theorem WX.own{X:Nat→Prop}{w w':World}{base:Nat}{e:TypeId}{sz:Nat}{v:Value}{n:Nat}{xs:List Value}(h:WX X w w')(ho:w.ownsRow base e sz v n xs)(hx:∀ k,v.ownBlock=some k→¬ X k):w'.ownsRow base e sz v n xs:=by
 refine⟨ho.1,ho.2.imp id ?_⟩;rintro⟨g,cap,cur,h1,h2,h3,h4⟩;exact⟨g,cap,cur,h1,h2,h.keep (hx g (by rw[h1];rfl)) h3,h4⟩
structure Fc{α:Type}(sz:Nat)(f:α→List Value)(X:Nat→Prop)(w:World)(s:Sl α):Prop where
 at_:B8 sz f w s
 off:s.l=[]∨∃ b off,s.a=some ⟨b,off,none⟩∧b<w.heap.size∧¬ X b
 fr:s.l=[]∨∃ b off,s.a=some ⟨b,off,none⟩∧∀ i,w.frozen? ⟨b,i,none⟩=false
theorem Fc.step{α:Type}{sz:Nat}{f:α→List Value}{X:Nat→Prop}{w w':World}{s:Sl α}(h:Fc sz f X w s)(k:WX X w w'):Fc sz f X w' s:=by
 refine⟨⟨?_,h.at_.len,h.at_.cap,h.at_.capNil⟩,h.off.imp id ?_,?_⟩
 ·rcases h.off with h0 | ⟨b,off,h1,h2,h3⟩
  ·exact .inl h0
  ·rcases h.at_.row with hl | ⟨b',off',hb,hc⟩
   ·exact .inl hl
   ·rw[h1] at hb;injection hb with hb
    injection hb with hb hoff
    subst hb;subst hoff;refine .inr ⟨b,off,h1,fun i c hi j v hv=>?_⟩;rw[World.cell?_of_block (w:=w) (a:=⟨b,off+i*sz+j,none⟩) (k.block b h2 h3)];exact hc i c hi j v hv
 ·rintro⟨b,off,h1,h2,h3⟩;exact⟨b,off,h1,Nat.lt_of_lt_of_le h2 k.size,h3⟩
 ·rcases h.off with h0 | ⟨b,off,h1,h2,h3⟩
  ·exact .inl h0
  ·refine h.fr.imp id ?_;rintro⟨b',off',h1',hf⟩;rw[h1] at h1';cases h1';exact⟨b,off,h1,fun i=>by rw[World.frozen?_of_block (w:=w) (a:=⟨b,i,none⟩) (k.block b h2 h3)];exact hf i⟩
theorem Fc.weak{α:Type}{sz:Nat}{f:α→List Value}{X Y:Nat→Prop}{w:World}{s:Sl α}(h:Fc sz f X w s)(hy:∀ b,b<w.heap.size→Y b→X b):Fc sz f Y w s:=by
 refine⟨h.at_,h.off.imp id ?_,h.fr⟩;rintro⟨b,off,h1,h2,h3⟩;exact⟨b,off,h1,h2,fun e=>h3 (hy b h2 e)⟩
theorem Fc.nil{α:Type}{sz:Nat}{f:α→List Value}{X:Nat→Prop}{w:World}:Fc sz f X w ⟨none,0,[]⟩:=⟨Eh,.inl rfl,.inl rfl⟩
theorem QJ{α:Type}{f:α→List Value}{sz:Nat}{w:World}{base:Nat}{e:TypeId}{v:Value}{n:Nat}{l:List α}{a:Option Addr}{c:Nat}(hn:l.length=n)(hv:v = .slice a n c)(h:w.ownsRow base e sz v n (l.flatMap f)):l=[]∨∃ b off,a=some ⟨b,off,none⟩∧∀ i,w.frozen? ⟨b,i,none⟩=false:=by
 rcases h.2 with ⟨_,h0⟩ | ⟨g,cap,cur,h1,_,hheap,_⟩
 ·exact .inl (List.eq_nil_of_length_eq_zero (hn.trans h0))
 ·rw[hv] at h1;cases h1;exact .inr ⟨g,0,rfl,fun i=>An hheap i⟩
theorem KH{α:Type}{f:α→List Value}{sz:Nat}{X:Nat→Prop}{w:World}{base:Nat}{e:TypeId}{v:Value}{n:Nat}{l:List α}(hf:∀ c,(f c).length=sz)(hn:l.length=n)(h:w.ownsRow base e sz v n (l.flatMap f))(hx:∀ b,X b→b<base) :
 ∃ a c,v = .slice a n c∧Fc sz f X w ⟨a,c,l⟩:=by
 obtain⟨a,c,hv,hs,hm⟩:=E8 hf hn h;refine⟨a,c,hv,hs,?_,?_⟩
 ·rcases hm with h0 | ⟨g,cs,t,h1,h2,h3,h4⟩
  ·exact .inl (List.eq_nil_of_length_eq_zero (hn.trans h0))
  ·exact .inr ⟨g,0,h1,Af h3,fun e=>by have:=hx g e;omega⟩
 ·exact QJ hn hv h
structure Pr(X:Nat→Prop)(w:World)(r:Rt):Prop where
 nm:r.nm.size≤maxLen
 pa:Fc 1 AO X w r.pa
 po:Fc 2 Cz X w r.po
 ov:Fc 1 AO X w r.ov
 fl:Fc 2 Cz X w r.fl
theorem Pr.step{X:Nat→Prop}{w w':World}{r:Rt}(h:Pr X w r)(k:WX X w w'):Pr X w' r:=⟨h.nm,h.pa.step k,h.po.step k,h.ov.step k,h.fl.step k⟩
theorem Pr.weak{X Y:Nat→Prop}{w:World}{r:Rt}(h:Pr X w r)(hy:∀ b,b<w.heap.size→Y b→X b):Pr Y w r:=⟨h.nm,h.pa.weak hy,h.po.weak hy,h.ov.weak hy,h.fl.weak hy⟩
theorem Pr.at_{X:Nat→Prop}{w:World}{r:Rt}(h:Pr X w r):Cq w r:=⟨h.nm,h.pa.at_,h.po.at_,h.ov.at_,h.fl.at_⟩
structure IB(X:Nat→Prop)(w:World)(L:AM):Prop where
 se:Fc 1 Da X w L.se
 po:Fc 2 LQ X w L.po
 sg:Fc 2 LQ X w L.sg
 rt:Fc 6 NE X w L.rt
 sn:∀ s∈L.se.l,s.size≤maxLen
 pn:∀ p∈L.po.l,p.1.size≤maxLen
 gn:∀ p∈L.sg.l,p.1.size≤maxLen
 rn:∀ r∈L.rt.l,Pr X w r
theorem IB.at_{X:Nat→Prop}{w:World}{L:AM}(h:IB X w L):B5 w L:=⟨h.se.at_,h.po.at_,h.sg.at_,h.rt.at_,h.sn,h.pn,h.gn,fun r hr=>(h.rn r hr).at_⟩
theorem IB.step{X:Nat→Prop}{w w':World}{L:AM}(h:IB X w L)(k:WX X w w'):IB X w' L:=⟨h.se.step k,h.po.step k,h.sg.step k,h.rt.step k,h.sn,h.pn,h.gn,fun r hr=>(h.rn r hr).step k⟩
theorem IB.weak{X Y:Nat→Prop}{w:World}{L:AM}(h:IB X w L)(hy:∀ b,b<w.heap.size→Y b→X b):IB Y w L:=⟨h.se.weak hy,h.po.weak hy,h.sg.weak hy,h.rt.weak hy,h.sn,h.pn,h.gn,fun r hr=>(h.rn r hr).weak hy⟩
def rc(r:Rt):BA × Int × List Int × List (Int × Bool) × List Int × List (Int × Bool):=(r.nm,r.sg,r.pa.l,r.po.l,r.ov.l,r.fl.l)
theorem Ha{w:World}{g:Nat}{cs:Array Value}{t:TypeId}{fr:Nat × Nat}{l:List Value}{c:Nat}(h:w.heap[g]?=some (.cells cs t fr))(hl:cs.toList=l)(h1:∀ u∈l,u.oneCell'=true):Co w (some ⟨g,0,none⟩) c l:=by
 refine⟨fun e=>(by cases e),h1,fun ad had j u hu=>?_⟩;injection had with had
 subst had;rw[Addr.add_lit,Nat.zero_add];exact A4 h j u (by rw[← Array.getElem?_toList,hl];exact hu)
end Go.Proofs.YtpohoannggdbjaaGreat
namespace Go.Proofs.YtpohoannggdbjaaGreat
open Lib (hid)
open Go.RowKit
structure Mg(r r':Rt):Prop where
 nm:r'.nm=r.nm
 sg:r'.sg=r.sg
 pa:r'.pa.l.Perm r.pa.l
 po:r'.po.l=r.po.l
 ov:r'.ov.l=r.ov.l
 fl:r'.fl.l=r.fl.l
theorem Mg.refl(r:Rt):Mg r r:=⟨rfl,rfl,List.Perm.refl _,rfl,rfl,rfl⟩
theorem LY{L:AM}:DR L<0↔∀ r∈L.rt.l,As L r=true:=by
 have h:=Dh (fun r=>!As L r) L.rt.l 0;constructor
 ·intro hb r hr;rcases h with ⟨h1,_⟩ | ⟨_,h2⟩
  ·unfold DR at hb;omega
  ·rw[List.any_eq_false] at h2;have:=h2 r hr;simpa using this
 ·intro hf;rcases h with ⟨_,h2⟩ | ⟨h1,_⟩
  ·rw[List.any_eq_true] at h2;obtain⟨r,hr,h3⟩:=h2;rw[hf r hr] at h3;cases h3
  ·exact h1
end Go.Proofs.YtpohoannggdbjaaGreat
namespace Go.Proofs.YtpohoannggdbjaaGreat
open Lib (hid)
open Go.RowKit Go.Shelf
set_option maxRecDepth 100000
attribute [local go_sem] Oper.semAt_some
attribute [local irreducible] LL Sl.v
theorem JB{β:Type}{B gm:Nat}{f:β→Int→Option Bool}(hB:gm<B):OwnFrom B (fun(s:β) W=>DH W gm (f s)):=by
 rintro s W W' row ⟨es,clock,K,h1,h2⟩ hg hr;refine⟨es,clock,K,(hg.block gm (Af h1) (fun e=>?_)).trans h1,h2⟩;have:=(hr gm e.symm).1;omega
def ME(pre:List (Nat × (Int × Bool)))(p:Int):Option Bool:=At ((pre.map (·.2)).reverse) p
theorem Nn(pre:List (Nat × (Int × Bool)))(x:Nat × (Int × Bool))(p:Int):ME (pre ++ [x]) p=if p=x.2.1 then some x.2.2 else ME pre p:=by
 unfold ME;rw[List.map_append,List.reverse_append];show(if x.2.1=p then some x.2.2 else At ((pre.map (·.2)).reverse) p)=_;by_cases h:p=x.2.1
 ·rw[if_pos h,if_pos h.symm]
 ·rw[if_neg h,if_neg (fun e=>h e.symm)]
theorem O1(l:List (Int × Bool))(p:Int):ME (LL l) p=At l p:=by
 unfold ME LL;rw[List.map_reverse,List.reverse_reverse,List.map_map]
 congr 1
 show List.map (fun p=>p.1) l.zipIdx=l;exact List.zipIdx_map_fst 0 l
set_option maxHeartbeats 4000000 in
theorem Jc(r:Rt)(w:World)(hr:Cq w r)(hle:r.po.l.length+r.fl.l.length≤100000) :
 Calls Tryz.prog 108 #[.agg #[.string r.nm,.int .i64 r.sg,r.pa.v,r.po.v,r.ov.v,r.fl.v]] w fun e w'=>∃ g,e = .returned (.map (some g))∧DH w' g (At r.nd)∧Below w.heap.size w w':=by
 have HND:Hid (∀ W,Below w.heap.size w W→Calls Tryz.prog 30 #[.agg #[.string r.nm,.int .i64 r.sg,r.pa.v,r.po.v,r.ov.v,r.fl.v]] W fun e w'=>∃ a n c,e = .returned (.slice a n c)∧n=r.po.l.length+r.fl.l.length∧B8 2 Cz w' ⟨a,c,r.nd⟩∧Below W.heap.size W w'):=hid (fun W hb=>Jf r W (hr.below hb) hle);obtain⟨m1,hm1⟩:∃ n,r.pa.l.length=n:=⟨_,rfl⟩;obtain⟨m2,hm2⟩:∃ n,r.po.l.length=n:=⟨_,rfl⟩;obtain⟨m3,hm3⟩:∃ n,r.ov.l.length=n:=⟨_,rfl⟩;obtain⟨m4,hm4⟩:∃ n,r.fl.l.length=n:=⟨_,rfl⟩;obtain⟨m,hm⟩:∃ m,m2+m4=m:=⟨_,rfl⟩;have HNL:Hid (r.nd.length=m):=hid (by rw[← hm,← hm2,← hm4];exact List.length_append);have HML:Hid (m≤100000):=hid (by omega);rw[hm2,hm4,hm] at HND;rw[Ak hm1,Ak hm2,Ak hm3,Ak hm4] at HND ⊢;clear hm1 hm2 hm3 hm4 hr hle hm;have hmm:∀(t:TypeId) (w:World),(Instr.makeMap t none).run Tryz.prog w = .ok (.map (some w.heap.size)) (w.alloc (.map #[] 0)):=fun t w=>by simp[Instr.makeMap,Result.andThen]
 obtain⟨gr,hgr⟩:∃ g,g=w.heap.size:=⟨_,rfl⟩;refine(callsIn_wide (n:=6)).1 ?_;refine callsIn_of_wp_marks Tryz.func108 rfl trivial ?_ rfl;simp only[Tryz.ntmps108,List.size_toArray,List.length_cons,List.length_nil,Nat.reduceAdd,Nat.reduceSub,Array.replicate_succ,Array.replicate_zero,List.push_toArray,List.append_toArray,List.nil_append,List.cons_append];gi_wp2;refine⟨trivial,?_⟩;obtain⟨W0,hW0⟩:∃ W,W=((w.alloc (.cells #[.string r.nm,.int .i64 r.sg,.slice r.pa.a m1 r.pa.c,.slice r.po.a m2 r.po.c,.slice r.ov.a m3 r.ov.c,.slice r.fl.a m4 r.fl.c] 52)).alloc (.map #[] 0)).alloc (.cells #[.map (some (w.heap.size+1))] 166):=⟨_,rfl⟩;rw[← hW0];have at_:=Dy [.cells #[.string r.nm,.int .i64 r.sg,.slice r.pa.a m1 r.pa.c,.slice r.po.a m2 r.po.c,.slice r.ov.a m3 r.ov.c,.slice r.fl.a m4 r.fl.c] 52,.map #[] 0,.cells #[.map (some (w.heap.size+1))] 166] w;have bl_:=Cd [.cells #[.string r.nm,.int .i64 r.sg,.slice r.pa.a m1 r.pa.c,.slice r.po.a m2 r.po.c,.slice r.ov.a m3 r.ov.c,.slice r.fl.a m4 r.fl.c] 52,.map #[] 0,.cells #[.map (some (w.heap.size+1))] 166] w;rw[show List.foldl World.alloc w [.cells #[.string r.nm,.int .i64 r.sg,.slice r.pa.a m1 r.pa.c,.slice r.po.a m2 r.po.c,.slice r.ov.a m3 r.ov.c,.slice r.fl.a m4 r.fl.c] 52,.map #[] 0,.cells #[.map (some (w.heap.size+1))] 166]=W0 by rw[hW0];rfl] at at_ bl_;have q1:=at_ 1 _ rfl;have q2:=at_ 2 _ rfl;obtain⟨gm,hgm⟩:∃ g,g=w.heap.size+1:=⟨_,rfl⟩;obtain⟨gb,hgb⟩:∃ g,g=gm+1:=⟨_,rfl⟩;rw[← hgm] at q1 q2;rw[show w.heap.size+2=gb by omega] at q2;rw[← hgm,← hgb];have HG:=hid (show w.heap.size<gm∧gm<gb by omega);have HQ1:Hid (DH W0 gm (ME [])):=hid ⟨_,_,[],q1,rfl,List.nodup_nil,fun p=>rfl⟩;have HQ2:=hid q2;have HB0:=hid bl_;clear at_ bl_ q1 q2 hgm hgb hW0 hgr hmm;refine(callsIn_wide.2 (HND.out _ HB0.out)).mono ?_;rintro e w1 ⟨na,nn,nc,rfl,hn,hs,hb⟩;obtain rfl:m=nn:=hn.symm;have HS:=hid hs.row;have HQ1:=hid (HQ1.out.below hb);have HQ2:=hid (A5 hb HQ2.out);have HB1:=hid (A8 HB0.out hb);clear hs hb HND HB0;gi_wp2;refine⟨trivial,?_⟩;refine(callsIn_wide.2 (Hs na m nc _)).mono ?_;rintro e w' ⟨rfl,rfl⟩;have hbn:=Ac w1 (.cells #[.slice na m nc] 50);have hqn:=Ao w1 (.cells #[.slice na m nc] 50) (Below.refl _ _);obtain⟨w2,hw2⟩:∃ W,W=w1.alloc (.cells #[.slice na m nc] 50):=⟨_,rfl⟩;rw[← hw2] at hbn hqn ⊢;obtain⟨gn,hgn⟩:∃ g,g=w1.heap.size:=⟨_,rfl⟩;rw[← hgn] at hqn ⊢;have HQ1:=hid (HQ1.out.below hbn);have HQ2:=hid (A5 hbn HQ2.out);have HB2:=hid (A8 HB1.out hbn);have HS2:=hid (HS.out.below hbn);have HQN:=hid hqn;have HLT:Hid (gm<w2.heap.size∧gb<w2.heap.size):=hid ⟨by have:=Af HQ2.out;have:=HG.out;omega,Af HQ2.out⟩;clear hbn hqn hw2 hgn HB1 HS;gi_wp2;refine wpIn_rangeFunc_ownH rfl (by omega) (gf:=113) (lb := #[.pointer (some ⟨gn,0,none⟩)]) rfl trivial (enters_of Tryz.func113 (by kernel_rfl) rfl)
  (Jv 5 (by omega) gn m nc na r.nd w2 HNL.out HML.out HS2.out HQN.out) S4 (fun W l o o' _ hl ho _=>RG W l o o' hl ho) (Below.refl _ _) (fun _=>rfl)
  (fun(pre:List (Nat × (Int × Bool))) W=>(DH W gm (ME pre)∧Boxed W gb 166 (.map (some gm)))∧Below w.heap.size w W)
  (fun _ _ _=>False)
  (OwnFrom.and (OwnFrom.and (JB HLT.out.1) (Own.from (boxed_own gb _ (fun(_:List (Nat × (Int × Bool)))=>Value.map (some gm))) _)) (ownFrom_below (Nat.le_refl _) HB2.out.size))
  (fun _ _ _ _ _ hs _ _=>hs)
  ⟨⟨HQ1.out,HQ2.out⟩,HB2.out⟩
  (fun x a' W=>∃ g,gm≠g∧a'={ tmps := #[.agg #[.string r.nm,.int .i64 r.sg,.slice r.pa.a m1 r.pa.c,.slice r.po.a m2 r.po.c,.slice r.ov.a m3 r.ov.c,.slice r.fl.a m4 r.fl.c],.pointer (some ⟨w.heap.size,0,none⟩),.map none,.pointer (some ⟨gb,0,none⟩),undef,.pointer (some ⟨g,0,none⟩),.map (some gm),.agg #[.string r.nm,.int .i64 r.sg,.slice r.pa.a m1 r.pa.c,.slice r.po.a m2 r.po.c,.slice r.ov.a m3 r.ov.c,.slice r.fl.a m4 r.fl.c],.slice na m nc,.func (.func 113) #[] #[.pointer (some ⟨gn,0,none⟩)],.int .i64 (x.1:Int),.agg #[.int .i64 x.2.1,.bool x.2.2],undef,undef,undef,undef,undef,undef],defers:=[] }∧W.heap[g]?=some (.cells #[.int .i64 x.2.1,.bool x.2.2] 71))
  ?hAx ?assign ?body ?done ?stop
 case hAx=>
  rintro x a' s W W' row ⟨g,hne,ha,hg⟩ hgr hr;refine⟨g,hne,ha,(hgr.block g (Af hg) (fun e=>?_)).trans hg⟩;obtain⟨_,o,ho,hc⟩:=hr g e.symm;rw[hg] at ho;injection ho with ho
  rw[← ho] at hc;cases hc
 case assign=>
  rintro l pre ⟨k,y0,y1⟩ W K ⟨⟨h1,h2⟩,h3⟩ hK;have hlt:=h2.lt;simp only[Q0];gi_wp2;have hb:=Ac W (.cells #[.int .i64 y0,.bool y1] 71);refine hK _ _ ((KeepsOthers.alloc W _).from _) (CC hb) ⟨⟨h1.below hb,A5 hb h2⟩,A8 h3 hb⟩ ⟨W.heap.size,?_,rfl,Ao W _ (Below.refl _ _)⟩;have:=HG.out;omega
 case body=>
  rintro l pre ⟨k,y0,y1⟩ a' W hl hrec ⟨⟨h1,h2⟩,h3⟩ ⟨g,hne,rfl,hg⟩ hlen;have e2:=h2.cell;have g0:=A4 hg 0 _ rfl;have g1:=A4 hg 1 _ rfl;obtain⟨W1,hup,hs,ho⟩:=Jr (p:=y0) y1 h1;have hnm:∀ cs t fr,W.heap[gm]? ≠ some (Obj.cells cs t fr):=by
   obtain⟨es,clock,K0,hh,_⟩:=h1;intro cs t fr e;rw[hh] at e;cases e
  have hsf:DH W1 gm (ME (pre ++ [(k,(y0,y1))])):=by
   have:(fun q=>if q=y0 then some y1 else ME pre q)=ME (pre ++ [(k,(y0,y1))]):=by
    funext q
    rw[Nn]
   rw[← this];exact hs
  have hgs:=HG.out;have hlt:=HLT.out;have hfin:KeepsFrom w2.heap.size W W1∧LP W W1∧((DH W1 gm (ME (pre ++ [(k,(y0,y1))]))∧Boxed W1 gb 166 (.map (some gm)))∧Below w.heap.size w W1):=
   ⟨⟨ho.size,fun j o hB hj _=>ho.keep (by omega) hj⟩,fun j cs t fr hj=>ho.keep (fun e=>by subst e;exact hnm _ _ _ hj) hj,⟨hsf,ho.keep (by omega) h2⟩,Ag.below h3 (by omega) h3.size ho⟩
  have HF:=hid hfin;clear hs ho hnm hsf hfin h1 h2 h3 hg;gi_wp2;exact HF.out
 case done=>
  rintro D ys W hD rfl ⟨⟨h1,h2⟩,h3⟩ hK;have hc:=h2.cell;have hlt:=HLT.out;gi_wp2;refine⟨by simp,.inl ⟨_,_,rfl,run_takeDeferred hK,?_⟩⟩;refine⟨_,results_tmp rfl _ _ _,gm,rfl,?_,h3.trans (belowK_b (w:=w) (Nat.le_refl _) W D _ _ (by have:=HB2.out.size;omega) hK rfl rfl)⟩;obtain⟨es,clock,K0,hh,hp,hnd,hf⟩:=h1;refine⟨es,clock,K0,(World.putObj_heap_other (by omega)).trans hh,hp,hnd,fun p=>?_⟩;rw[hf p,O1]
 case stop=>
  rintro D c pre W _ _ h _;exact h.elim
end Go.Proofs.YtpohoannggdbjaaGreat
