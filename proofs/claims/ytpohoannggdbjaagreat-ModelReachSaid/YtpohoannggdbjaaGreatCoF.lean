/- Ours: ME; CoF. -/
import Derived.Test.YtpohoannggdbjaaGreatMC
set_option maxRecDepth 100000
set_option maxHeartbeats 200000000
namespace Go.Proofs.YtpohoannggdbjaaGreat
open Lib (hid)
open Go.RowKit
section
structure WX(X:Nat→Prop)(w w':World):Prop where
 os:w'.os=w.os
 tape:w'.tape=w.tape
 output:w'.output=w.output
 size:w.heap.size≤w'.heap.size
 block:∀ k,k<w.heap.size→¬ X k→w'.heap[k]?=w.heap[k]?
theorem WX.refl(X:Nat→Prop)(w:World):WX X w w:=⟨rfl,rfl,rfl,Wc _,fun _ _ _=>rfl⟩
theorem WX.of_below{X:Nat→Prop}{w w':World}(h:Below w.heap.size w w'):WX X w w':=⟨h.os,h.tape,h.output,h.size,fun k hk _=>h.block k hk⟩
theorem WX.of_only{X:Nat→Prop}{g:Nat}{w w':World}(h:Ai g w w')(hg:X g):WX X w w':=⟨h.os,h.tape,h.output,h.size,fun k hk hx=>h.block k hk (fun e=>hx (e ▸ hg))⟩
theorem WX.set{X:Nat→Prop}{w:World}{g:Nat}(hg:X g)(i:Nat)(v:Value):WX X w (w.setCell ⟨g,i,none⟩ v):=WX.of_only ((Ai.refl g w).setCell rfl v) hg
theorem WX.of_grown{X:Nat→Prop}{w w':World}{row:Option Nat}(h:w.grownBy w' row)(hr:∀ k,row=some k→X k):WX X w w':=⟨h.os,h.tape,h.output,h.size,fun k hk hx=>h.block k hk (fun e=>hx (hr k e.symm))⟩
theorem WX.trans{X:Nat→Prop}{a b c:World}(h:WX X a b)(k:WX X b c):WX X a c:=
 ⟨k.os.trans h.os,k.tape.trans h.tape,k.output.trans h.output,Wd h.size k.size,fun i hi hx=>(k.block i (Wv hi h.size) hx).trans (h.block i hi hx)⟩
theorem WX.mono{X Y:Nat→Prop}{w w':World}(h:WX X w w')(hxy:∀ b,X b→Y b):WX Y w w':=⟨h.os,h.tape,h.output,h.size,fun k hk hy=>h.block k hk (fun e=>hy (hxy k e))⟩
theorem WX.keep{X:Nat→Prop}{w w':World}{k:Nat}{o:Obj}(h:WX X w w')(hk:¬ X k)(hb:w.heap[k]?=some o):w'.heap[k]?=some o:=by rw[h.block k (Aj hb) hk,hb]
theorem WX.below{X:Nat→Prop}{w0 w w':World}(h:Below w0.heap.size w0 w)(k:WX X w w')(hx:∀ b,X b→w0.heap.size≤b):Below w0.heap.size w0 w':=
 ⟨k.os.trans h.os,k.tape.trans h.tape,k.output.trans h.output,Wd h.size k.size,fun i hi=>(k.block i (Wv hi h.size) (fun e=>by have:=hx i e;omega)).trans (h.block i hi)⟩
theorem WX.own{X:Nat→Prop}{w w':World}{base:Nat}{e:TypeId}{sz:Nat}{v:Value}{n:Nat}{xs:List Value}(h:WX X w w')(ho:w.ownsRow base e sz v n xs)(hx:∀ k,v.ownBlock=some k→¬ X k):w'.ownsRow base e sz v n xs:=by
 refine⟨ho.1,ho.2.imp id ?_⟩;rintro⟨g,cap,cur,h1,h2,h3,h4⟩;exact⟨g,cap,cur,h1,h2,h.keep (hx g (by rw[h1];rfl)) h3,h4⟩
structure En{α:Type}(sz:Nat)(f:α→List Value)(X:Nat→Prop)(w:World)(s:Sl α):Prop where
 at_:B7 sz f w s
 off:s.l=[]∨∃ b off,s.a=some ⟨b,off,none⟩∧b<w.heap.size∧¬ X b
 fr:s.l=[]∨∃ b off,s.a=some ⟨b,off,none⟩∧∀ i,w.frozen? ⟨b,i,none⟩=false
theorem En.step{α:Type}{sz:Nat}{f:α→List Value}{X:Nat→Prop}{w w':World}{s:Sl α}(h:En sz f X w s)(k:WX X w w'):En sz f X w' s:=by
 refine⟨⟨?_,h.at_.len,h.at_.cap,h.at_.capNil⟩,h.off.imp id ?_,?_⟩
 ·rcases h.off with h0 | ⟨b,off,h1,h2,h3⟩
  ·exact .inl h0
  ·rcases h.at_.row with hl | ⟨b',off',hb,hc⟩
   ·exact .inl hl
   ·rw[h1] at hb;injection hb with hb
    injection hb with hb hoff
    subst hb;subst hoff;refine .inr ⟨b,off,h1,fun i c hi j v hv=>?_⟩;rw[World.cell?_of_block (w:=w) (a:=⟨b,off+i*sz+j,none⟩) (k.block b h2 h3)];exact hc i c hi j v hv
 ·rintro⟨b,off,h1,h2,h3⟩;exact⟨b,off,h1,Wv h2 k.size,h3⟩
 ·rcases h.off with h0 | ⟨b,off,h1,h2,h3⟩
  ·exact .inl h0
  ·refine h.fr.imp id ?_;rintro⟨b',off',h1',hf⟩;rw[h1] at h1';cases h1';exact⟨b,off,h1,fun i=>by rw[World.frozen?_of_block (w:=w) (a:=⟨b,i,none⟩) (k.block b h2 h3)];exact hf i⟩
theorem En.weak{α:Type}{sz:Nat}{f:α→List Value}{X Y:Nat→Prop}{w:World}{s:Sl α}(h:En sz f X w s)(hy:∀ b,b<w.heap.size→Y b→X b):En sz f Y w s:=by
 refine⟨h.at_,h.off.imp id ?_,h.fr⟩;rintro⟨b,off,h1,h2,h3⟩;exact⟨b,off,h1,h2,fun e=>h3 (hy b h2 e)⟩
theorem En.nil{α:Type}{sz:Nat}{f:α→List Value}{X:Nat→Prop}{w:World}:En sz f X w ⟨none,0,[]⟩:=⟨CU,.inl rfl,.inl rfl⟩
theorem TP{α:Type}{f:α→List Value}{sz:Nat}{w:World}{base:Nat}{e:TypeId}{v:Value}{n:Nat}{l:List α}{a:Option Addr}{c:Nat}(hn:l.length=n)(hv:v = .slice a n c)(h:w.ownsRow base e sz v n (l.flatMap f)):l=[]∨∃ b off,a=some ⟨b,off,none⟩∧∀ i,w.frozen? ⟨b,i,none⟩=false:=by
 rcases h.2 with ⟨_,h0⟩ | ⟨g,cap,cur,h1,_,hheap,_⟩
 ·exact .inl (List.eq_nil_of_length_eq_zero (hn.trans h0))
 ·rw[hv] at h1;cases h1;exact .inr ⟨g,0,rfl,fun i=>Aq hheap i⟩
theorem My{α:Type}{f:α→List Value}{sz:Nat}{X:Nat→Prop}{w:World}{base:Nat}{e:TypeId}{v:Value}{n:Nat}{l:List α}(hf:∀ c,(f c).length=sz)(hn:l.length=n)(h:w.ownsRow base e sz v n (l.flatMap f))(hx:∀ b,X b→b<base) :
 ∃ a c,v = .slice a n c∧En sz f X w ⟨a,c,l⟩:=by
 obtain⟨a,c,hv,hs,hm⟩:=EU hf hn h;refine⟨a,c,hv,hs,?_,?_⟩
 ·rcases hm with h0 | ⟨g,cs,t,h1,h2,h3,h4⟩
  ·exact .inl (List.eq_nil_of_length_eq_zero (hn.trans h0))
  ·exact .inr ⟨g,0,h1,Aj h3,fun e=>by have:=hx g e;omega⟩
 ·exact TP hn hv h
structure LO(X:Nat→Prop)(w:World)(r:Rt):Prop where
 nm:r.nm.size≤maxLen
 pa:En 1 AT X w r.pa
 po:En 2 CX X w r.po
 ov:En 1 AT X w r.ov
 fl:En 2 CX X w r.fl
theorem LO.step{X:Nat→Prop}{w w':World}{r:Rt}(h:LO X w r)(k:WX X w w'):LO X w' r:=⟨h.nm,h.pa.step k,h.po.step k,h.ov.step k,h.fl.step k⟩
theorem LO.weak{X Y:Nat→Prop}{w:World}{r:Rt}(h:LO X w r)(hy:∀ b,b<w.heap.size→Y b→X b):LO Y w r:=⟨h.nm,h.pa.weak hy,h.po.weak hy,h.ov.weak hy,h.fl.weak hy⟩
theorem LO.at_{X:Nat→Prop}{w:World}{r:Rt}(h:LO X w r):CM w r:=⟨h.nm,h.pa.at_,h.po.at_,h.ov.at_,h.fl.at_⟩
structure IQ(X:Nat→Prop)(w:World)(L:AL):Prop where
 se:En 1 Dz X w L.se
 po:En 2 O3 X w L.po
 sg:En 2 O3 X w L.sg
 rt:En 6 Qj X w L.rt
 sn:∀ s∈L.se.l,s.size≤maxLen
 pn:∀ p∈L.po.l,p.1.size≤maxLen
 gn:∀ p∈L.sg.l,p.1.size≤maxLen
 rn:∀ r∈L.rt.l,LO X w r
theorem IQ.at_{X:Nat→Prop}{w:World}{L:AL}(h:IQ X w L):AO w L:=⟨h.se.at_,h.po.at_,h.sg.at_,h.rt.at_,h.sn,h.pn,h.gn,fun r hr=>(h.rn r hr).at_⟩
theorem IQ.step{X:Nat→Prop}{w w':World}{L:AL}(h:IQ X w L)(k:WX X w w'):IQ X w' L:=⟨h.se.step k,h.po.step k,h.sg.step k,h.rt.step k,h.sn,h.pn,h.gn,fun r hr=>(h.rn r hr).step k⟩
theorem IQ.weak{X Y:Nat→Prop}{w:World}{L:AL}(h:IQ X w L)(hy:∀ b,b<w.heap.size→Y b→X b):IQ Y w L:=⟨h.se.weak hy,h.po.weak hy,h.sg.weak hy,h.rt.weak hy,h.sn,h.pn,h.gn,fun r hr=>(h.rn r hr).weak hy⟩
def rc(r:Rt):BA × Int × List Int × List (Int × Bool) × List Int × List (Int × Bool):=(r.nm,r.sg,r.pa.l,r.po.l,r.ov.l,r.fl.l)
theorem F1{w:World}{g:Nat}{cs:Array Value}{t:TypeId}{fr:Nat × Nat}{l:List Value}{c:Nat}(h:w.heap[g]?=some (.cells cs t fr))(hl:cs.toList=l)(h1:∀ u∈l,u.oneCell'=true):C1 w (some ⟨g,0,none⟩) c l:=by
 refine⟨fun e=>(by cases e),h1,fun ad had j u hu=>?_⟩;injection had with had
 subst had;rw[Addr.add_lit,Wq];exact A4 h j u (by rw[← WW,hl];exact hu)
end
section
structure O6(r r':Rt):Prop where
 nm:r'.nm=r.nm
 sg:r'.sg=r.sg
 pa:r'.pa.l.Perm r.pa.l
 po:r'.po.l=r.po.l
 ov:r'.ov.l=r.ov.l
 fl:r'.fl.l=r.fl.l
theorem O6.refl(r:Rt):O6 r r:=⟨rfl,rfl,List.Perm.refl _,rfl,rfl,rfl⟩
theorem O9{L:AL}:Eo L<0↔∀ r∈L.rt.l,At L r=true:=by
 have h:=DF (fun r=>!At L r) L.rt.l 0;constructor
 ·intro hb r hr;rcases h with ⟨h1,_⟩ | ⟨_,h2⟩
  ·unfold Eo at hb;omega
  ·rw[WU] at h2;have:=h2 r hr;simpa using this
 ·intro hf;rcases h with ⟨_,h2⟩ | ⟨h1,_⟩
  ·rw[WF] at h2;obtain⟨r,hr,h3⟩:=h2;rw[hf r hr] at h3;cases h3
  ·exact h1
end
section
open Go.RowKit Go.Shelf
attribute [local go_sem] Oper.semAt_some
attribute [local irreducible] MX Sl.v
theorem Lr{β:Type}{B gm:Nat}{f:β→Int→Option Bool}(hB:gm<B):OwnFrom B (fun(s:β) W=>E4 W gm (f s)):=by
 rintro s W W' row ⟨es,clock,K,h1,h2⟩ hg hr;refine⟨es,clock,K,(hg.block gm (Aj h1) (fun e=>?_)).trans h1,h2⟩;have:=(hr gm e.symm).1;omega
def PH(pre:List (Nat × (Int × Bool)))(p:Int):Option Bool:=Av ((pre.map (·.2)).reverse) p
theorem PI(pre:List (Nat × (Int × Bool)))(x:Nat × (Int × Bool))(p:Int):PH (pre ++ [x]) p=if p=x.2.1 then some x.2.2 else PH pre p:=by
 unfold PH;rw[List.map_append,List.reverse_append];show(if x.2.1=p then some x.2.2 else Av ((pre.map (·.2)).reverse) p)=_;by_cases h:p=x.2.1
 ·rw[if_pos h,if_pos h.symm]
 ·rw[if_neg h,if_neg (fun e=>h e.symm)]
theorem S8(l:List (Int × Bool))(p:Int):PH (MX l) p=Av l p:=by
 unfold PH MX;rw[List.map_reverse,List.reverse_reverse,List.map_map]
 congr 1
 show List.map (fun p=>p.1) l.zipIdx=l;exact List.zipIdx_map_fst 0 l
theorem KU(r:Rt)(w:World)(hr:CM w r)(hle:r.po.l.length+r.fl.l.length≤100000) :
 Calls Tryz.prog 108 #[.agg #[.string r.nm,.int .i64 r.sg,r.pa.v,r.po.v,r.ov.v,r.fl.v]] w fun e w'=>∃ g,e = .returned (.map (some g))∧E4 w' g (Av r.nd)∧Below w.heap.size w w':=by
 have HND:Hid (∀ W,Below w.heap.size w W→Calls Tryz.prog 30 #[.agg #[.string r.nm,.int .i64 r.sg,r.pa.v,r.po.v,r.ov.v,r.fl.v]] W fun e w'=>∃ a n c,e = .returned (.slice a n c)∧n=r.po.l.length+r.fl.l.length∧B7 2 CX w' ⟨a,c,r.nd⟩∧Below W.heap.size W w'):=hid (fun W hb=>Ko r W (hr.below hb) hle);obtain⟨m1,hm1⟩:=WY r.pa.l.length;obtain⟨m2,hm2⟩:=WY r.po.l.length;obtain⟨m3,hm3⟩:=WY r.ov.l.length;obtain⟨m4,hm4⟩:=WY r.fl.l.length;obtain⟨m,hm⟩:=WY (m2+m4);have HNL:Hid (r.nd.length=m):=hid (by rw[← hm,← hm2,← hm4];exact Wh);have HML:Hid (m≤100000):=hid (by omega);rw[hm2,hm4,hm] at HND;rw[Ak hm1,Ak hm2,Ak hm3,Ak hm4] at HND ⊢;clear hm1 hm2 hm3 hm4 hr hle hm;have hmm:∀(t:TypeId) (w:World),(Instr.makeMap t none).run Tryz.prog w = .ok (.map (some w.heap.size)) (w.alloc (.map #[] 0)):=fun t w=>by simp[Instr.makeMap,Result.andThen]
 obtain⟨gr,hgr⟩:=X0 w.heap.size;refine(callsIn_wide (n:=6)).1 ?_;refine callsIn_of_wp_marks Tryz.func108 rfl trivial ?_ rfl;simp only[Tryz.ntmps108,Wn,WK,WQ,Nat.reduceAdd,Nat.reduceSub,Array.replicate_succ,Array.replicate_zero,List.push_toArray,List.append_toArray,WC,List.cons_append];gi_wp2;refine⟨trivial,?_⟩;obtain⟨W0,hW0⟩:=X0 (((w.alloc (.cells #[.string r.nm,.int .i64 r.sg,.slice r.pa.a m1 r.pa.c,.slice r.po.a m2 r.po.c,.slice r.ov.a m3 r.ov.c,.slice r.fl.a m4 r.fl.c] 52)).alloc (.map #[] 0)).alloc (.cells #[.map (some (w.heap.size+1))] 166));rw[← hW0];have at_:=DP [.cells #[.string r.nm,.int .i64 r.sg,.slice r.pa.a m1 r.pa.c,.slice r.po.a m2 r.po.c,.slice r.ov.a m3 r.ov.c,.slice r.fl.a m4 r.fl.c] 52,.map #[] 0,.cells #[.map (some (w.heap.size+1))] 166] w;have bl_:=Cs [.cells #[.string r.nm,.int .i64 r.sg,.slice r.pa.a m1 r.pa.c,.slice r.po.a m2 r.po.c,.slice r.ov.a m3 r.ov.c,.slice r.fl.a m4 r.fl.c] 52,.map #[] 0,.cells #[.map (some (w.heap.size+1))] 166] w;rw[show List.foldl World.alloc w [.cells #[.string r.nm,.int .i64 r.sg,.slice r.pa.a m1 r.pa.c,.slice r.po.a m2 r.po.c,.slice r.ov.a m3 r.ov.c,.slice r.fl.a m4 r.fl.c] 52,.map #[] 0,.cells #[.map (some (w.heap.size+1))] 166]=W0 by rw[hW0];rfl] at at_ bl_;have q1:=at_ 1 _ rfl;have q2:=at_ 2 _ rfl;obtain⟨gm,hgm⟩:=X0 (w.heap.size+1);obtain⟨gb,hgb⟩:=X0 (gm+1);rw[← hgm] at q1 q2;rw[show w.heap.size+2=gb by omega] at q2;rw[← hgm,← hgb];have HG:=hid (show w.heap.size<gm∧gm<gb by omega);have HQ1:Hid (E4 W0 gm (PH [])):=hid ⟨_,_,[],q1,rfl,List.nodup_nil,fun p=>rfl⟩;have HQ2:=hid q2;have HB0:=hid bl_;clear at_ bl_ q1 q2 hgm hgb hW0 hgr hmm;refine(callsIn_wide.2 (HND.o _ HB0.o)).mono ?_;rintro e w1 ⟨na,nn,nc,rfl,hn,hs,hb⟩;obtain rfl:m=nn:=hn.symm;have HS:=hid hs.row;have HQ1:=hid (HQ1.o.below hb);have HQ2:=hid (A5 hb HQ2.o);have HB1:=hid (A6 HB0.o hb);clear hs hb HND HB0;gi_wp2;refine⟨trivial,?_⟩;refine(callsIn_wide.2 (IU na m nc _)).mono ?_;rintro e w' ⟨rfl,rfl⟩;have hbn:=Ac w1 (.cells #[.slice na m nc] 50);have hqn:=Al w1 (.cells #[.slice na m nc] 50) (VU _ _);obtain⟨w2,hw2⟩:=X0 (w1.alloc (.cells #[.slice na m nc] 50));rw[← hw2] at hbn hqn ⊢;obtain⟨gn,hgn⟩:=X0 w1.heap.size;rw[← hgn] at hqn ⊢;have HQ1:=hid (HQ1.o.below hbn);have HQ2:=hid (A5 hbn HQ2.o);have HB2:=hid (A6 HB1.o hbn);have HS2:=hid (HS.o.below hbn);have HQN:=hid hqn;have HLT:Hid (gm<w2.heap.size∧gb<w2.heap.size):=hid ⟨by have:=Aj HQ2.o;have:=HG.o;omega,Aj HQ2.o⟩;clear hbn hqn hw2 hgn HB1 HS;gi_wp2;refine wpIn_rangeFunc_ownH rfl (by omega) (gf:=113) (lb := #[.pointer (some ⟨gn,0,none⟩)]) rfl trivial (enters_of Tryz.func113 (by kernel_rfl) rfl)
  (L6 5 (by omega) gn m nc na r.nd w2 HNL.o HML.o HS2.o HQN.o) UO (fun W l o o' _ hl ho _=>UN W l o o' hl ho) (VU _ _) (fun _=>rfl)
  (fun(pre:List (Nat × (Int × Bool))) W=>(E4 W gm (PH pre)∧Boxed W gb 166 (.map (some gm)))∧Below w.heap.size w W)
  (fun _ _ _=>False)
  (OwnFrom.and (OwnFrom.and (Lr HLT.o.1) (Own.from (boxed_own gb _ (fun(_:List (Nat × (Int × Bool)))=>Value.map (some gm))) _)) (ownFrom_below (Wc _) HB2.o.size))
  (fun _ _ _ _ _ hs _ _=>hs)
  ⟨⟨HQ1.o,HQ2.o⟩,HB2.o⟩
  (fun x a' W=>∃ g,gm≠g∧a'={ tmps := #[.agg #[.string r.nm,.int .i64 r.sg,.slice r.pa.a m1 r.pa.c,.slice r.po.a m2 r.po.c,.slice r.ov.a m3 r.ov.c,.slice r.fl.a m4 r.fl.c],.pointer (some ⟨w.heap.size,0,none⟩),.map none,.pointer (some ⟨gb,0,none⟩),undef,.pointer (some ⟨g,0,none⟩),.map (some gm),.agg #[.string r.nm,.int .i64 r.sg,.slice r.pa.a m1 r.pa.c,.slice r.po.a m2 r.po.c,.slice r.ov.a m3 r.ov.c,.slice r.fl.a m4 r.fl.c],.slice na m nc,.func (.func 113) #[] #[.pointer (some ⟨gn,0,none⟩)],.int .i64 (x.1:Int),.agg #[.int .i64 x.2.1,.bool x.2.2],undef,undef,undef,undef,undef,undef],defers:=[] }∧W.heap[g]?=some (.cells #[.int .i64 x.2.1,.bool x.2.2] 71))
  ?hAx ?assign ?body ?done ?stop
 case hAx=>
  rintro x a' s W W' row ⟨g,hne,ha,hg⟩ hgr hr;refine⟨g,hne,ha,(hgr.block g (Aj hg) (fun e=>?_)).trans hg⟩;obtain⟨_,o,ho,hc⟩:=hr g e.symm;rw[hg] at ho;injection ho with ho
  rw[← ho] at hc;cases hc
 case assign=>
  rintro l pre ⟨k,y0,y1⟩ W K ⟨⟨h1,h2⟩,h3⟩ hK;have hlt:=h2.lt;simp only[Tn];gi_wp2;have hb:=Ac W (.cells #[.int .i64 y0,.bool y1] 71);refine hK _ _ ((KeepsOthers.alloc W _).from _) (D1 hb) ⟨⟨h1.below hb,A5 hb h2⟩,A6 h3 hb⟩ ⟨W.heap.size,?_,rfl,Al W _ (VU _ _)⟩;have:=HG.o;omega
 case body=>
  rintro l pre ⟨k,y0,y1⟩ a' W hl hrec ⟨⟨h1,h2⟩,h3⟩ ⟨g,hne,rfl,hg⟩ hlen;have e2:=h2.cell;have g0:=A4 hg 0 _ rfl;have g1:=A4 hg 1 _ rfl;obtain⟨W1,hup,hs,ho⟩:=LG (p:=y0) y1 h1;have hnm:∀ cs t fr,W.heap[gm]? ≠ some (Obj.cells cs t fr):=by
   obtain⟨es,clock,K0,hh,_⟩:=h1;intro cs t fr e;rw[hh] at e;cases e
  have hsf:E4 W1 gm (PH (pre ++ [(k,(y0,y1))])):=by
   have:(fun q=>if q=y0 then some y1 else PH pre q)=PH (pre ++ [(k,(y0,y1))]):=by
    funext q
    rw[PI]
   rw[← this];exact hs
  have hgs:=HG.o;have hlt:=HLT.o;have hfin:KeepsFrom w2.heap.size W W1∧O2 W W1∧((E4 W1 gm (PH (pre ++ [(k,(y0,y1))]))∧Boxed W1 gb 166 (.map (some gm)))∧Below w.heap.size w W1):=
   ⟨⟨ho.size,fun j o hB hj _=>ho.keep (by omega) hj⟩,fun j cs t fr hj=>ho.keep (fun e=>by subst e;exact hnm _ _ _ hj) hj,⟨hsf,ho.keep (by omega) h2⟩,Ai.below h3 (by omega) h3.size ho⟩
  have HF:=hid hfin;clear hs ho hnm hsf hfin h1 h2 h3 hg;gi_wp2;exact HF.o
 case done=>
  rintro D ys W hD rfl ⟨⟨h1,h2⟩,h3⟩ hK;have hc:=h2.cell;have hlt:=HLT.o;gi_wp2;refine⟨by simp,.inl ⟨_,_,rfl,run_takeDeferred hK,?_⟩⟩;refine⟨_,results_tmp rfl _ _ _,gm,rfl,?_,h3.trans (belowK_b (w:=w) (Wc _) W D _ _ (by have:=HB2.o.size;omega) hK rfl rfl)⟩;obtain⟨es,clock,K0,hh,hp,hnd,hf⟩:=h1;refine⟨es,clock,K0,(World.putObj_heap_other (by omega)).trans hh,hp,hnd,fun p=>?_⟩;rw[hf p,S8]
 case stop=>
  rintro D c pre W _ _ h _;exact h.elim
end
end Go.Proofs.YtpohoannggdbjaaGreat
