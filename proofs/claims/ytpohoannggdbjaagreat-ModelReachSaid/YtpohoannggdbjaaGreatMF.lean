/- Merged: CoH, CoL, CoMa. -/
import Derived.Test.YtpohoannggdbjaaGreatCoG
import Derived.Test.YtpohoannggdbjaaGreatMC
import Derived.Test.YtpohoannggdbjaaGreatMA
import Derived.Test.YtpohoannggdbjaaGreatCoC
set_option maxRecDepth 100000
set_option maxHeartbeats 200000000
namespace Go.Proofs.YtpohoannggdbjaaGreat
open Lib (hid)
open Go.RowKit
section
open Go.RowKit Go.Shelf
attribute [local go_sem] Oper.semAt_some
attribute [local irreducible] AB Av Sl.v AR Rt.tr Rt.nd Bj AC
theorem Of(L:AL)(a b:Rt):AC L a b=(Bj L a b).any id:=by unfold AC;rfl
theorem KH(L:AL)(a b:Rt)(n1 n2 n3 n4 a1 a2 a3 a4 b1 b2 b3 b4:Nat)(w:World) :
 Calls Tryz.prog 93 #[.agg #[.slice L.se.a n1 L.se.c,.slice L.po.a n2 L.po.c,.slice L.sg.a n3 L.sg.c,.slice L.rt.a n4 L.rt.c],.agg #[.string a.nm,.int .i64 a.sg,.slice a.pa.a a1 a.pa.c,.slice a.po.a a2 a.po.c,.slice a.ov.a a3 a.ov.c,.slice a.fl.a a4 a.fl.c],.agg #[.string b.nm,.int .i64 b.sg,.slice b.pa.a b1 b.pa.c,.slice b.po.a b2 b.po.c,.slice b.ov.a b3 b.ov.c,.slice b.fl.a b4 b.fl.c]] w fun e w'=>e = .returned (.func (.func 107) #[] #[.pointer (some ⟨w.heap.size+1,0,none⟩),.pointer (some ⟨w.heap.size+1+1,0,none⟩),.pointer (some ⟨w.heap.size,0,none⟩)])∧w'=((w.alloc (.cells #[.slice L.se.a n1 L.se.c,.slice L.po.a n2 L.po.c,.slice L.sg.a n3 L.sg.c,.slice L.rt.a n4 L.rt.c] 27)).alloc (.cells #[.string a.nm,.int .i64 a.sg,.slice a.pa.a a1 a.pa.c,.slice a.po.a a2 a.po.c,.slice a.ov.a a3 a.ov.c,.slice a.fl.a a4 a.fl.c] 52)).alloc (.cells #[.string b.nm,.int .i64 b.sg,.slice b.pa.a b1 b.pa.c,.slice b.po.a b2 b.po.c,.slice b.ov.a b3 b.ov.c,.slice b.fl.a b4 b.fl.c] 52):=by
 go_enter Tryz.func93,Tryz.ntmps93;go_wp2_with fail;go_ret;exact⟨rfl,rfl⟩
theorem K3(L:AL)(a b:Rt)(w:World)(hL:AO w L)(ha:CM w a)(hb:CM w b)(hl2:L.po.l.length≤100000)(hla:a.pa.l.length+a.ov.l.length≤100000∧a.po.l.length+a.fl.l.length≤100000)(hlb:b.pa.l.length+b.ov.l.length≤100000∧b.po.l.length+b.fl.l.length≤100000) :
 Calls Tryz.prog 52 #[.agg #[L.se.v,L.po.v,L.sg.v,L.rt.v],.agg #[.string a.nm,.int .i64 a.sg,a.pa.v,a.po.v,a.ov.v,a.fl.v],.agg #[.string b.nm,.int .i64 b.sg,b.pa.v,b.po.v,b.ov.v,b.fl.v]] w fun e w'=>e = .returned (.bool (AC L a b))∧Below w.heap.size w w':=by
 obtain⟨n1,hn1⟩:=WY L.se.l.length;obtain⟨n2,hn2⟩:=WY L.po.l.length;obtain⟨n3,hn3⟩:=WY L.sg.l.length;obtain⟨n4,hn4⟩:=WY L.rt.l.length;obtain⟨a1,ha1⟩:=WY a.pa.l.length;obtain⟨a2,ha2⟩:=WY a.po.l.length;obtain⟨a3,ha3⟩:=WY a.ov.l.length;obtain⟨a4,ha4⟩:=WY a.fl.l.length;obtain⟨b1,hb1⟩:=WY b.pa.l.length;obtain⟨b2,hb2⟩:=WY b.po.l.length;obtain⟨b3,hb3⟩:=WY b.ov.l.length;obtain⟨b4,hb4⟩:=WY b.fl.l.length;rw[Ak hn1,Ak hn2,Ak hn3,Ak hn4,Ak ha1,Ak ha2,Ak ha3,Ak ha4,Ak hb1,Ak hb2,Ak hb3,Ak hb4];rw[ha1,ha2,ha3,ha4] at hla;rw[hb1,hb2,hb3,hb4] at hlb;rw[hn2] at hl2;have HL:=hid hL;have HRA:=hid ha;have HRB:=hid hb;clear hL ha hb;refine(callsIn_wide (n:=6)).1 ?_;refine callsIn_of_wp_marks Tryz.func52 rfl trivial ?_ rfl;simp only[Tryz.ntmps52,Wn,WK,WQ,Nat.reduceAdd,Nat.reduceSub,Array.replicate_succ,Array.replicate_zero,List.push_toArray,List.append_toArray,WC,List.cons_append];gi_wp2;refine⟨trivial,?_⟩;refine(callsIn_wide.2 (KH L a b n1 n2 n3 n4 a1 a2 a3 a4 b1 b2 b3 b4 _)).mono ?_;rintro e w' ⟨rfl,rfl⟩;obtain⟨w4,hw4⟩:=X0 ((((w.alloc (.cells #[.slice L.se.a n1 L.se.c,.slice L.po.a n2 L.po.c,.slice L.sg.a n3 L.sg.c,.slice L.rt.a n4 L.rt.c] 27)).alloc (.cells #[.string a.nm,.int .i64 a.sg,.slice a.pa.a a1 a.pa.c,.slice a.po.a a2 a.po.c,.slice a.ov.a a3 a.ov.c,.slice a.fl.a a4 a.fl.c] 52)).alloc (.cells #[.string b.nm,.int .i64 b.sg,.slice b.pa.a b1 b.pa.c,.slice b.po.a b2 b.po.c,.slice b.ov.a b3 b.ov.c,.slice b.fl.a b4 b.fl.c] 52)).alloc (.cells #[.bool false] 4));have at4:=DP [.cells #[.slice L.se.a n1 L.se.c,.slice L.po.a n2 L.po.c,.slice L.sg.a n3 L.sg.c,.slice L.rt.a n4 L.rt.c] 27,.cells #[.string a.nm,.int .i64 a.sg,.slice a.pa.a a1 a.pa.c,.slice a.po.a a2 a.po.c,.slice a.ov.a a3 a.ov.c,.slice a.fl.a a4 a.fl.c] 52,.cells #[.string b.nm,.int .i64 b.sg,.slice b.pa.a b1 b.pa.c,.slice b.po.a b2 b.po.c,.slice b.ov.a b3 b.ov.c,.slice b.fl.a b4 b.fl.c] 52,.cells #[.bool false] 4] w;have bl4:=Cs [.cells #[.slice L.se.a n1 L.se.c,.slice L.po.a n2 L.po.c,.slice L.sg.a n3 L.sg.c,.slice L.rt.a n4 L.rt.c] 27,.cells #[.string a.nm,.int .i64 a.sg,.slice a.pa.a a1 a.pa.c,.slice a.po.a a2 a.po.c,.slice a.ov.a a3 a.ov.c,.slice a.fl.a a4 a.fl.c] 52,.cells #[.string b.nm,.int .i64 b.sg,.slice b.pa.a b1 b.pa.c,.slice b.po.a b2 b.po.c,.slice b.ov.a b3 b.ov.c,.slice b.fl.a b4 b.fl.c] 52,.cells #[.bool false] 4] w;rw[show List.foldl World.alloc w [.cells #[.slice L.se.a n1 L.se.c,.slice L.po.a n2 L.po.c,.slice L.sg.a n3 L.sg.c,.slice L.rt.a n4 L.rt.c] 27,.cells #[.string a.nm,.int .i64 a.sg,.slice a.pa.a a1 a.pa.c,.slice a.po.a a2 a.po.c,.slice a.ov.a a3 a.ov.c,.slice a.fl.a a4 a.fl.c] 52,.cells #[.string b.nm,.int .i64 b.sg,.slice b.pa.a b1 b.pa.c,.slice b.po.a b2 b.po.c,.slice b.ov.a b3 b.ov.c,.slice b.fl.a b4 b.fl.c] 52,.cells #[.bool false] 4]=w4 by rw[hw4];rfl] at at4 bl4;rw[← hw4];have qres:=at4 3 _ rfl;have hs4:w4.heap.size=w.heap.size+4:=by rw[hw4];simp
 obtain⟨w5,hw5⟩:=X0 (((w4.alloc (.cells #[.slice L.se.a n1 L.se.c,.slice L.po.a n2 L.po.c,.slice L.sg.a n3 L.sg.c,.slice L.rt.a n4 L.rt.c] 27)).alloc (.cells #[.string a.nm,.int .i64 a.sg,.slice a.pa.a a1 a.pa.c,.slice a.po.a a2 a.po.c,.slice a.ov.a a3 a.ov.c,.slice a.fl.a a4 a.fl.c] 52)).alloc (.cells #[.string b.nm,.int .i64 b.sg,.slice b.pa.a b1 b.pa.c,.slice b.po.a b2 b.po.c,.slice b.ov.a b3 b.ov.c,.slice b.fl.a b4 b.fl.c] 52));have at5:=DP [.cells #[.slice L.se.a n1 L.se.c,.slice L.po.a n2 L.po.c,.slice L.sg.a n3 L.sg.c,.slice L.rt.a n4 L.rt.c] 27,.cells #[.string a.nm,.int .i64 a.sg,.slice a.pa.a a1 a.pa.c,.slice a.po.a a2 a.po.c,.slice a.ov.a a3 a.ov.c,.slice a.fl.a a4 a.fl.c] 52,.cells #[.string b.nm,.int .i64 b.sg,.slice b.pa.a b1 b.pa.c,.slice b.po.a b2 b.po.c,.slice b.ov.a b3 b.ov.c,.slice b.fl.a b4 b.fl.c] 52] w4;have bl5:=Cs [.cells #[.slice L.se.a n1 L.se.c,.slice L.po.a n2 L.po.c,.slice L.sg.a n3 L.sg.c,.slice L.rt.a n4 L.rt.c] 27,.cells #[.string a.nm,.int .i64 a.sg,.slice a.pa.a a1 a.pa.c,.slice a.po.a a2 a.po.c,.slice a.ov.a a3 a.ov.c,.slice a.fl.a a4 a.fl.c] 52,.cells #[.string b.nm,.int .i64 b.sg,.slice b.pa.a b1 b.pa.c,.slice b.po.a b2 b.po.c,.slice b.ov.a b3 b.ov.c,.slice b.fl.a b4 b.fl.c] 52] w4;rw[show List.foldl World.alloc w4 [.cells #[.slice L.se.a n1 L.se.c,.slice L.po.a n2 L.po.c,.slice L.sg.a n3 L.sg.c,.slice L.rt.a n4 L.rt.c] 27,.cells #[.string a.nm,.int .i64 a.sg,.slice a.pa.a a1 a.pa.c,.slice a.po.a a2 a.po.c,.slice a.ov.a a3 a.ov.c,.slice a.fl.a a4 a.fl.c] 52,.cells #[.string b.nm,.int .i64 b.sg,.slice b.pa.a b1 b.pa.c,.slice b.po.a b2 b.po.c,.slice b.ov.a b3 b.ov.c,.slice b.fl.a b4 b.fl.c] 52]=w5 by rw[hw5];rfl] at at5 bl5;rw[← hw5];have q0:=at5 0 _ rfl;have q1:=at5 1 _ rfl;have q2:=at5 2 _ rfl;rw[Wa] at q0;have hbw:=A6 bl4 bl5;have qres:=A5 bl5 qres;have hs5:w5.heap.size=w4.heap.size+3:=by rw[hw5];simp
 clear at4 at5 hw4 hw5;rw[hs4] at q0 q1 q2;have hRe:L4 w5 (w.heap.size+4+1) (w.heap.size+4+1+1) (w.heap.size+4) L a b n2 (.slice L.se.a n1 L.se.c) (.slice L.sg.a n3 L.sg.c) (.slice L.rt.a n4 L.rt.c) #[.string a.nm,.int .i64 a.sg,.slice a.pa.a a1 a.pa.c,.slice a.po.a a2 a.po.c,.slice a.ov.a a3 a.ov.c,.slice a.fl.a a4 a.fl.c] #[.string b.nm,.int .i64 b.sg,.slice b.pa.a b1 b.pa.c,.slice b.po.a b2 b.po.c,.slice b.ov.a b3 b.ov.c,.slice b.fl.a b4 b.fl.c]:=⟨q1,q2,q0,HL.o.po.row.below hbw,HRA.o.below hbw,HRB.o.below hbw⟩;have hlt5:w.heap.size+3<w5.heap.size:=Aj qres;have HRE:=hid hRe;have HB5:=hid hbw;have HQR:=hid qres;have HS5:=hid (show w.heap.size≤w5.heap.size from hbw.size);have HL5:=hid hlt5;clear q0 q1 q2 hRe hbw qres bl4 bl5 hs5 hlt5;gi_wp2;refine wpIn_rangeFunc_ownG rfl (by omega) (gf:=107) (lb := #[.pointer (some ⟨w.heap.size+4+1,0,none⟩),.pointer (some ⟨w.heap.size+4+1+1,0,none⟩),.pointer (some ⟨w.heap.size+4,0,none⟩)]) rfl trivial (enters_of Tryz.func107 (by kernel_rfl) rfl)
  (I6 5 (by omega) _ _ _ L a b n2 _ _ _ a1 a2 a3 a4 b1 b2 b3 b4 w5 HRE.o hn2 hl2 ha1 ha2 ha3 ha4 hb1 hb2 hb3 hb4 ⟨hla.1,hla.2⟩ ⟨hlb.1,hlb.2⟩) (fun h k=>h.t k) (fun W l o o' _ hl ho hw=>UM W l o o' hl ho hw) (VU _ _) (fun _=>rfl)
  (fun(pre:List Bool) W=>(Boxed W (w.heap.size+3) 4 (.bool false)∧pre.any id=false)∧Below w.heap.size w W)
  (fun c pre W=>((c=Code.ret∧pre.any id=true)∧Boxed W (w.heap.size+3) 4 (.bool true))∧Below w.heap.size w W)
  (OwnFrom.and (OwnFrom.and (Own.from (boxed_own _ _ (fun(_:List Bool)=>Value.bool false)) _) (fun _ _ _ _ hs _ _=>hs)) (ownFrom_below (Wc _) HS5.o))
  (fun c=>OwnFrom.and (OwnFrom.and (fun _ _ _ _ hs _ _=>hs) (Own.from (boxed_own _ _ (fun(_:List Bool)=>Value.bool true)) _)) (ownFrom_below (Wc _) HS5.o))
  ⟨⟨HQR.o,rfl⟩,HB5.o⟩
  (fun m=>{ tmps := #[.agg #[.slice L.se.a n1 L.se.c,.slice L.po.a n2 L.po.c,.slice L.sg.a n3 L.sg.c,.slice L.rt.a n4 L.rt.c],.agg #[.string a.nm,.int .i64 a.sg,.slice a.pa.a a1 a.pa.c,.slice a.po.a a2 a.po.c,.slice a.ov.a a3 a.ov.c,.slice a.fl.a a4 a.fl.c],.agg #[.string b.nm,.int .i64 b.sg,.slice b.pa.a b1 b.pa.c,.slice b.po.a b2 b.po.c,.slice b.ov.a b3 b.ov.c,.slice b.fl.a b4 b.fl.c],.pointer (some ⟨w.heap.size,0,none⟩),.pointer (some ⟨w.heap.size+1,0,none⟩),.pointer (some ⟨w.heap.size+1+1,0,none⟩),.pointer (some ⟨w.heap.size+1+1+1,0,none⟩),.bool m,.agg #[.slice L.se.a n1 L.se.c,.slice L.po.a n2 L.po.c,.slice L.sg.a n3 L.sg.c,.slice L.rt.a n4 L.rt.c],.agg #[.string a.nm,.int .i64 a.sg,.slice a.pa.a a1 a.pa.c,.slice a.po.a a2 a.po.c,.slice a.ov.a a3 a.ov.c,.slice a.fl.a a4 a.fl.c],.agg #[.string b.nm,.int .i64 b.sg,.slice b.pa.a b1 b.pa.c,.slice b.po.a b2 b.po.c,.slice b.ov.a b3 b.ov.c,.slice b.fl.a b4 b.fl.c],.func (.func 107) #[] #[.pointer (some ⟨w.heap.size+4+1,0,none⟩),.pointer (some ⟨w.heap.size+4+1+1,0,none⟩),.pointer (some ⟨w.heap.size+4,0,none⟩)],.bool m,undef],defers:=[] }) ?assign ?body ?done ?stop
 case assign=>
  intro l m W K hK;gi_wp2;exact hK
 case body=>
  rintro l0 pre m W ⟨⟨hb,hp⟩,hB⟩ hlen;have e0:=hb.cell;have e1:=hb.frozen;cases m with
  | false=>
    gi_wp2;exact⟨(KeepsOthers.refl _).from _,Nx (VU _ _),⟨⟨hb,by simp[hp]⟩,hB⟩⟩
  | true=>
    gi_wp2;exact⟨(KeepsOthers.setCell _ _ _).from _,⟨⟨rfl,by simp⟩,hb.set _⟩,hB.setCell (p:=⟨w.heap.size+3,0,none⟩) (by simp) _⟩
 case done=>
  rintro D ys W hD rfl ⟨⟨hb,hp⟩,hB⟩ hK;have e0:=hb.cell;have e1:=hb.frozen;have hne:D≠w.heap.size+3:=(by have:=HL5.o;omega);have hK1:(W.setCell ⟨w.heap.size+3,0,none⟩ (.bool false)).heap[D]?=some (.deferred (some [])):=(Below.heap_setCell _ _ _ _ (fun e=>hne e)).trans hK;have hbs:=hb.set (.bool false);have hfin:∀ o',((W.setCell ⟨w.heap.size+3,0,none⟩ (.bool false)).putObj D o').cell? ⟨w.heap.size+3,0,none⟩=some (.bool false):=fun o'=>(World.cell?_of_block (World.putObj_heap_other (fun e=>hne e.symm))).trans hbs.cell
  have HB1:=hid (hB.setCell (p:=⟨w.heap.size+3,0,none⟩) (by simp) (.bool false));have HF:=hid (show AC L a b=false by rw[Of];exact hp);have HD2:=hid (show w.heap.size≤D by have:=HL5.o;omega);have HK1:=hid hK1;have HFIN:=hid hfin;clear hK1 hfin hbs hne;gi_wp2;refine⟨by simp,.inl ⟨_,_,rfl,run_takeDeferred HK1.o,?_⟩⟩;have hc:=HFIN.o (.deferred none);exact⟨.bool false,by simp[results,Tryz.results52,go_sem,hc],by rw[HF.o],HB1.o.trans (belowK_b (w:=w) (Wc _) _ D _ _ HD2.o HK1.o rfl rfl)⟩
 case stop=>
  rintro D c pre W hD hpre ⟨⟨⟨rfl,hp⟩,hb⟩,hB⟩ hK;have e0:=hb.cell;have hne:D≠w.heap.size+3:=(by have:=HL5.o;omega);have hfin:∀ o',(W.putObj D o').cell? ⟨w.heap.size+3,0,none⟩=some (.bool true):=fun o'=>(World.cell?_of_block (World.putObj_heap_other (fun e=>hne e.symm))).trans hb.cell
  have HF:=hid (show AC L a b=true by
   rw[Of];obtain⟨t,ht⟩:=hpre;rw[← ht,List.any_append,hp];rfl)
  have HD2:=hid (show w.heap.size≤D by have:=HL5.o;omega);have HFIN:=hid hfin;clear hfin hne;gi_wp2;refine⟨by simp,.inl ⟨_,_,rfl,run_takeDeferred hK,?_⟩⟩;have hc:=HFIN.o (.deferred none);exact⟨.bool true,by simp[results,Tryz.results52,go_sem,hc],by rw[HF.o],hB.trans (belowK_b (w:=w) (Wc _) _ D _ _ HD2.o hK rfl rfl)⟩
end
section
end
section
theorem Vv{k n:Nat}(h:k<n)(hn:n≤64):wrap64 ((k:Int)+1)=(k:Int)+1:=by unfold wrap64;omega
theorem B6{L:AL}(h:(Ap L).1=0):AX L=true:=by
 cases hm:AX L with
 | true=>rfl
 | false=>rw[Oo hm] at h;cases h
theorem J1(L:AL)(x y:Rt)(W:World)(hmay:AX L=true)(hL:AO W L)(hx:x∈L.rt.l)(hy:y∈L.rt.l) :
 Calls Tryz.prog 52 #[.agg #[L.se.v,L.po.v,L.sg.v,L.rt.v],.agg #[.string x.nm,.int .i64 x.sg,x.pa.v,x.po.v,x.ov.v,x.fl.v],.agg #[.string y.nm,.int .i64 y.sg,y.pa.v,y.po.v,y.ov.v,y.fl.v]] W fun e w'=>e = .returned (.bool (AC L x y))∧Below W.heap.size W w':=by
 have ox:=Bv hmay x hx;have oy:=Bv hmay y hy;have hx1:x.pa.l.length+x.ov.l.length≤100000:=by have:=ox.pa;have:=ox.ov;omega
 have hx2:x.po.l.length+x.fl.l.length≤100000:=by have:=ox.po;have:=ox.fl;omega
 have hy1:y.pa.l.length+y.ov.l.length≤100000:=by have:=oy.pa;have:=oy.ov;omega
 have hy2:y.po.l.length+y.fl.l.length≤100000:=by have:=oy.po;have:=oy.fl;omega
 exact K3 L x y W hL (hL.rn x hx) (hL.rn y hy) (by have:=AE hmay;omega) ⟨hx1,hx2⟩ ⟨hy1,hy2⟩
theorem I5(L:AL)(x y:Rt)(W:World)(hmay:AX L=true)(hL:AO W L)(hx:x∈L.rt.l)(hy:y∈L.rt.l) :
 Calls Tryz.prog 100 #[.agg #[L.se.v,L.po.v,L.sg.v,L.rt.v],.agg #[.string x.nm,.int .i64 x.sg,x.pa.v,x.po.v,x.ov.v,x.fl.v],.agg #[.string y.nm,.int .i64 y.sg,y.pa.v,y.po.v,y.ov.v,y.fl.v]] W fun e w'=>e = .returned (.bool (AC L x y))∧Below W.heap.size W w':=by
 have ox:=Bv hmay x hx;have oy:=Bv hmay y hy;have hx1:x.pa.l.length+x.ov.l.length≤100000:=by have:=ox.pa;have:=ox.ov;omega
 have hx2:x.po.l.length+x.fl.l.length≤100000:=by have:=ox.po;have:=ox.fl;omega
 have hy1:y.pa.l.length+y.ov.l.length≤100000:=by have:=oy.pa;have:=oy.ov;omega
 have hy2:y.po.l.length+y.fl.l.length≤100000:=by have:=oy.po;have:=oy.fl;omega
 exact Jw L x y W hL (hL.rn x hx) (hL.rn y hy) hx1 hx2 hy1 hy2
theorem Fd{A B:World}{row:Option Nat}{k:Nat}{o:Obj}(h:A.grownBy B row)(hk:A.heap[k]?=some o)(hne:row≠some k):B.heap[k]?=some o:=(h.block k (Aj hk) (fun e=>hne e.symm)).trans hk
end
end Go.Proofs.YtpohoannggdbjaaGreat
