/- Ours: MF; IxA. -/
import Derived.Test.YtpohoannggdbjaaGreatCoG
import Derived.Test.YtpohoannggdbjaaGreatMC
import Derived.Test.YtpohoannggdbjaaGreatMA
import Derived.Test.YtpohoannggdbjaaGreatCoC
import Derived.Test.YtpohoannggdbjaaGreatCoF
import Derived.Deep.QuietTactic
namespace Go.Proofs.YtpohoannggdbjaaGreat
open Lib (hid)
open Go.RowKit Go.Shelf
set_option maxRecDepth 100000
attribute [local go_sem] Oper.semAt_some
attribute [local irreducible] Av At Sl.v AJ Rt.tr Rt.nd AZ Aw
theorem Ni(L:AM)(a b:Rt):Aw L a b=(AZ L a b).any id:=by unfold Aw;rfl
theorem IK(L:AM)(a b:Rt)(n1 n2 n3 n4 a1 a2 a3 a4 b1 b2 b3 b4:Nat)(w:World) :
 Calls Tryz.prog 93 #[.agg #[.slice L.se.a n1 L.se.c,.slice L.po.a n2 L.po.c,.slice L.sg.a n3 L.sg.c,.slice L.rt.a n4 L.rt.c],.agg #[.string a.nm,.int .i64 a.sg,.slice a.pa.a a1 a.pa.c,.slice a.po.a a2 a.po.c,.slice a.ov.a a3 a.ov.c,.slice a.fl.a a4 a.fl.c],.agg #[.string b.nm,.int .i64 b.sg,.slice b.pa.a b1 b.pa.c,.slice b.po.a b2 b.po.c,.slice b.ov.a b3 b.ov.c,.slice b.fl.a b4 b.fl.c]] w fun e w'=>e = .returned (.func (.func 107) #[] #[.pointer (some ⟨w.heap.size+1,0,none⟩),.pointer (some ⟨w.heap.size+1+1,0,none⟩),.pointer (some ⟨w.heap.size,0,none⟩)])∧w'=((w.alloc (.cells #[.slice L.se.a n1 L.se.c,.slice L.po.a n2 L.po.c,.slice L.sg.a n3 L.sg.c,.slice L.rt.a n4 L.rt.c] 27)).alloc (.cells #[.string a.nm,.int .i64 a.sg,.slice a.pa.a a1 a.pa.c,.slice a.po.a a2 a.po.c,.slice a.ov.a a3 a.ov.c,.slice a.fl.a a4 a.fl.c] 52)).alloc (.cells #[.string b.nm,.int .i64 b.sg,.slice b.pa.a b1 b.pa.c,.slice b.po.a b2 b.po.c,.slice b.ov.a b3 b.ov.c,.slice b.fl.a b4 b.fl.c] 52):=by
 go_enter Tryz.func93,Tryz.ntmps93;go_wp2_with fail;go_ret;exact⟨rfl,rfl⟩
set_option maxHeartbeats 4000000 in
theorem IN(L:AM)(a b:Rt)(w:World)(hL:B5 w L)(ha:Cq w a)(hb:Cq w b)(hl2:L.po.l.length≤100000)(hla:a.pa.l.length+a.ov.l.length≤100000∧a.po.l.length+a.fl.l.length≤100000)(hlb:b.pa.l.length+b.ov.l.length≤100000∧b.po.l.length+b.fl.l.length≤100000) :
 Calls Tryz.prog 52 #[.agg #[L.se.v,L.po.v,L.sg.v,L.rt.v],.agg #[.string a.nm,.int .i64 a.sg,a.pa.v,a.po.v,a.ov.v,a.fl.v],.agg #[.string b.nm,.int .i64 b.sg,b.pa.v,b.po.v,b.ov.v,b.fl.v]] w fun e w'=>e = .returned (.bool (Aw L a b))∧Below w.heap.size w w':=by
 obtain⟨n1,hn1⟩:∃ n,L.se.l.length=n:=⟨_,rfl⟩;obtain⟨n2,hn2⟩:∃ n,L.po.l.length=n:=⟨_,rfl⟩;obtain⟨n3,hn3⟩:∃ n,L.sg.l.length=n:=⟨_,rfl⟩;obtain⟨n4,hn4⟩:∃ n,L.rt.l.length=n:=⟨_,rfl⟩;obtain⟨a1,ha1⟩:∃ n,a.pa.l.length=n:=⟨_,rfl⟩;obtain⟨a2,ha2⟩:∃ n,a.po.l.length=n:=⟨_,rfl⟩;obtain⟨a3,ha3⟩:∃ n,a.ov.l.length=n:=⟨_,rfl⟩;obtain⟨a4,ha4⟩:∃ n,a.fl.l.length=n:=⟨_,rfl⟩;obtain⟨b1,hb1⟩:∃ n,b.pa.l.length=n:=⟨_,rfl⟩;obtain⟨b2,hb2⟩:∃ n,b.po.l.length=n:=⟨_,rfl⟩;obtain⟨b3,hb3⟩:∃ n,b.ov.l.length=n:=⟨_,rfl⟩;obtain⟨b4,hb4⟩:∃ n,b.fl.l.length=n:=⟨_,rfl⟩;rw[Ak hn1,Ak hn2,Ak hn3,Ak hn4,Ak ha1,Ak ha2,Ak ha3,Ak ha4,Ak hb1,Ak hb2,Ak hb3,Ak hb4];rw[ha1,ha2,ha3,ha4] at hla;rw[hb1,hb2,hb3,hb4] at hlb;rw[hn2] at hl2;have HL:=hid hL;have HRA:=hid ha;have HRB:=hid hb;clear hL ha hb;refine(callsIn_wide (n:=6)).1 ?_;refine callsIn_of_wp_marks Tryz.func52 rfl trivial ?_ rfl;simp only[Tryz.ntmps52,List.size_toArray,List.length_cons,List.length_nil,Nat.reduceAdd,Nat.reduceSub,Array.replicate_succ,Array.replicate_zero,List.push_toArray,List.append_toArray,List.nil_append,List.cons_append];gi_wp2;refine⟨trivial,?_⟩;refine(callsIn_wide.2 (IK L a b n1 n2 n3 n4 a1 a2 a3 a4 b1 b2 b3 b4 _)).mono ?_;rintro e w' ⟨rfl,rfl⟩;obtain⟨w4,hw4⟩:∃ V,V=(((w.alloc (.cells #[.slice L.se.a n1 L.se.c,.slice L.po.a n2 L.po.c,.slice L.sg.a n3 L.sg.c,.slice L.rt.a n4 L.rt.c] 27)).alloc (.cells #[.string a.nm,.int .i64 a.sg,.slice a.pa.a a1 a.pa.c,.slice a.po.a a2 a.po.c,.slice a.ov.a a3 a.ov.c,.slice a.fl.a a4 a.fl.c] 52)).alloc (.cells #[.string b.nm,.int .i64 b.sg,.slice b.pa.a b1 b.pa.c,.slice b.po.a b2 b.po.c,.slice b.ov.a b3 b.ov.c,.slice b.fl.a b4 b.fl.c] 52)).alloc (.cells #[.bool false] 4):=⟨_,rfl⟩;have at4:=Dy [.cells #[.slice L.se.a n1 L.se.c,.slice L.po.a n2 L.po.c,.slice L.sg.a n3 L.sg.c,.slice L.rt.a n4 L.rt.c] 27,.cells #[.string a.nm,.int .i64 a.sg,.slice a.pa.a a1 a.pa.c,.slice a.po.a a2 a.po.c,.slice a.ov.a a3 a.ov.c,.slice a.fl.a a4 a.fl.c] 52,.cells #[.string b.nm,.int .i64 b.sg,.slice b.pa.a b1 b.pa.c,.slice b.po.a b2 b.po.c,.slice b.ov.a b3 b.ov.c,.slice b.fl.a b4 b.fl.c] 52,.cells #[.bool false] 4] w;have bl4:=Cd [.cells #[.slice L.se.a n1 L.se.c,.slice L.po.a n2 L.po.c,.slice L.sg.a n3 L.sg.c,.slice L.rt.a n4 L.rt.c] 27,.cells #[.string a.nm,.int .i64 a.sg,.slice a.pa.a a1 a.pa.c,.slice a.po.a a2 a.po.c,.slice a.ov.a a3 a.ov.c,.slice a.fl.a a4 a.fl.c] 52,.cells #[.string b.nm,.int .i64 b.sg,.slice b.pa.a b1 b.pa.c,.slice b.po.a b2 b.po.c,.slice b.ov.a b3 b.ov.c,.slice b.fl.a b4 b.fl.c] 52,.cells #[.bool false] 4] w;rw[show List.foldl World.alloc w [.cells #[.slice L.se.a n1 L.se.c,.slice L.po.a n2 L.po.c,.slice L.sg.a n3 L.sg.c,.slice L.rt.a n4 L.rt.c] 27,.cells #[.string a.nm,.int .i64 a.sg,.slice a.pa.a a1 a.pa.c,.slice a.po.a a2 a.po.c,.slice a.ov.a a3 a.ov.c,.slice a.fl.a a4 a.fl.c] 52,.cells #[.string b.nm,.int .i64 b.sg,.slice b.pa.a b1 b.pa.c,.slice b.po.a b2 b.po.c,.slice b.ov.a b3 b.ov.c,.slice b.fl.a b4 b.fl.c] 52,.cells #[.bool false] 4]=w4 by rw[hw4];rfl] at at4 bl4;rw[← hw4];have qres:=at4 3 _ rfl;have hs4:w4.heap.size=w.heap.size+4:=by rw[hw4];simp
 obtain⟨w5,hw5⟩:∃ V,V=((w4.alloc (.cells #[.slice L.se.a n1 L.se.c,.slice L.po.a n2 L.po.c,.slice L.sg.a n3 L.sg.c,.slice L.rt.a n4 L.rt.c] 27)).alloc (.cells #[.string a.nm,.int .i64 a.sg,.slice a.pa.a a1 a.pa.c,.slice a.po.a a2 a.po.c,.slice a.ov.a a3 a.ov.c,.slice a.fl.a a4 a.fl.c] 52)).alloc (.cells #[.string b.nm,.int .i64 b.sg,.slice b.pa.a b1 b.pa.c,.slice b.po.a b2 b.po.c,.slice b.ov.a b3 b.ov.c,.slice b.fl.a b4 b.fl.c] 52):=⟨_,rfl⟩;have at5:=Dy [.cells #[.slice L.se.a n1 L.se.c,.slice L.po.a n2 L.po.c,.slice L.sg.a n3 L.sg.c,.slice L.rt.a n4 L.rt.c] 27,.cells #[.string a.nm,.int .i64 a.sg,.slice a.pa.a a1 a.pa.c,.slice a.po.a a2 a.po.c,.slice a.ov.a a3 a.ov.c,.slice a.fl.a a4 a.fl.c] 52,.cells #[.string b.nm,.int .i64 b.sg,.slice b.pa.a b1 b.pa.c,.slice b.po.a b2 b.po.c,.slice b.ov.a b3 b.ov.c,.slice b.fl.a b4 b.fl.c] 52] w4;have bl5:=Cd [.cells #[.slice L.se.a n1 L.se.c,.slice L.po.a n2 L.po.c,.slice L.sg.a n3 L.sg.c,.slice L.rt.a n4 L.rt.c] 27,.cells #[.string a.nm,.int .i64 a.sg,.slice a.pa.a a1 a.pa.c,.slice a.po.a a2 a.po.c,.slice a.ov.a a3 a.ov.c,.slice a.fl.a a4 a.fl.c] 52,.cells #[.string b.nm,.int .i64 b.sg,.slice b.pa.a b1 b.pa.c,.slice b.po.a b2 b.po.c,.slice b.ov.a b3 b.ov.c,.slice b.fl.a b4 b.fl.c] 52] w4;rw[show List.foldl World.alloc w4 [.cells #[.slice L.se.a n1 L.se.c,.slice L.po.a n2 L.po.c,.slice L.sg.a n3 L.sg.c,.slice L.rt.a n4 L.rt.c] 27,.cells #[.string a.nm,.int .i64 a.sg,.slice a.pa.a a1 a.pa.c,.slice a.po.a a2 a.po.c,.slice a.ov.a a3 a.ov.c,.slice a.fl.a a4 a.fl.c] 52,.cells #[.string b.nm,.int .i64 b.sg,.slice b.pa.a b1 b.pa.c,.slice b.po.a b2 b.po.c,.slice b.ov.a b3 b.ov.c,.slice b.fl.a b4 b.fl.c] 52]=w5 by rw[hw5];rfl] at at5 bl5;rw[← hw5];have q0:=at5 0 _ rfl;have q1:=at5 1 _ rfl;have q2:=at5 2 _ rfl;rw[Nat.add_zero] at q0;have hbw:=A8 bl4 bl5;have qres:=A5 bl5 qres;have hs5:w5.heap.size=w4.heap.size+3:=by rw[hw5];simp
 clear at4 at5 hw4 hw5;rw[hs4] at q0 q1 q2;have hRe:JG w5 (w.heap.size+4+1) (w.heap.size+4+1+1) (w.heap.size+4) L a b n2 (.slice L.se.a n1 L.se.c) (.slice L.sg.a n3 L.sg.c) (.slice L.rt.a n4 L.rt.c) #[.string a.nm,.int .i64 a.sg,.slice a.pa.a a1 a.pa.c,.slice a.po.a a2 a.po.c,.slice a.ov.a a3 a.ov.c,.slice a.fl.a a4 a.fl.c] #[.string b.nm,.int .i64 b.sg,.slice b.pa.a b1 b.pa.c,.slice b.po.a b2 b.po.c,.slice b.ov.a b3 b.ov.c,.slice b.fl.a b4 b.fl.c]:=⟨q1,q2,q0,HL.out.po.row.below hbw,HRA.out.below hbw,HRB.out.below hbw⟩;have hlt5:w.heap.size+3<w5.heap.size:=Af qres;have HRE:=hid hRe;have HB5:=hid hbw;have HQR:=hid qres;have HS5:=hid (show w.heap.size≤w5.heap.size from hbw.size);have HL5:=hid hlt5;clear q0 q1 q2 hRe hbw qres bl4 bl5 hs5 hlt5;gi_wp2;refine wpIn_rangeFunc_ownG rfl (by omega) (gf:=107) (lb := #[.pointer (some ⟨w.heap.size+4+1,0,none⟩),.pointer (some ⟨w.heap.size+4+1+1,0,none⟩),.pointer (some ⟨w.heap.size+4,0,none⟩)]) rfl trivial (enters_of Tryz.func107 (by kernel_rfl) rfl)
  (Gl 5 (by omega) _ _ _ L a b n2 _ _ _ a1 a2 a3 a4 b1 b2 b3 b4 w5 HRE.out hn2 hl2 ha1 ha2 ha3 ha4 hb1 hb2 hb3 hb4 ⟨hla.1,hla.2⟩ ⟨hlb.1,hlb.2⟩) (fun h k=>h.t k) (fun W l o o' _ hl ho hw=>Ru W l o o' hl ho hw) (Below.refl _ _) (fun _=>rfl)
  (fun(pre:List Bool) W=>(Boxed W (w.heap.size+3) 4 (.bool false)∧pre.any id=false)∧Below w.heap.size w W)
  (fun c pre W=>((c=Code.ret∧pre.any id=true)∧Boxed W (w.heap.size+3) 4 (.bool true))∧Below w.heap.size w W)
  (OwnFrom.and (OwnFrom.and (Own.from (boxed_own _ _ (fun(_:List Bool)=>Value.bool false)) _) (fun _ _ _ _ hs _ _=>hs)) (ownFrom_below (Nat.le_refl _) HS5.out))
  (fun c=>OwnFrom.and (OwnFrom.and (fun _ _ _ _ hs _ _=>hs) (Own.from (boxed_own _ _ (fun(_:List Bool)=>Value.bool true)) _)) (ownFrom_below (Nat.le_refl _) HS5.out))
  ⟨⟨HQR.out,rfl⟩,HB5.out⟩
  (fun m=>{ tmps := #[.agg #[.slice L.se.a n1 L.se.c,.slice L.po.a n2 L.po.c,.slice L.sg.a n3 L.sg.c,.slice L.rt.a n4 L.rt.c],.agg #[.string a.nm,.int .i64 a.sg,.slice a.pa.a a1 a.pa.c,.slice a.po.a a2 a.po.c,.slice a.ov.a a3 a.ov.c,.slice a.fl.a a4 a.fl.c],.agg #[.string b.nm,.int .i64 b.sg,.slice b.pa.a b1 b.pa.c,.slice b.po.a b2 b.po.c,.slice b.ov.a b3 b.ov.c,.slice b.fl.a b4 b.fl.c],.pointer (some ⟨w.heap.size,0,none⟩),.pointer (some ⟨w.heap.size+1,0,none⟩),.pointer (some ⟨w.heap.size+1+1,0,none⟩),.pointer (some ⟨w.heap.size+1+1+1,0,none⟩),.bool m,.agg #[.slice L.se.a n1 L.se.c,.slice L.po.a n2 L.po.c,.slice L.sg.a n3 L.sg.c,.slice L.rt.a n4 L.rt.c],.agg #[.string a.nm,.int .i64 a.sg,.slice a.pa.a a1 a.pa.c,.slice a.po.a a2 a.po.c,.slice a.ov.a a3 a.ov.c,.slice a.fl.a a4 a.fl.c],.agg #[.string b.nm,.int .i64 b.sg,.slice b.pa.a b1 b.pa.c,.slice b.po.a b2 b.po.c,.slice b.ov.a b3 b.ov.c,.slice b.fl.a b4 b.fl.c],.func (.func 107) #[] #[.pointer (some ⟨w.heap.size+4+1,0,none⟩),.pointer (some ⟨w.heap.size+4+1+1,0,none⟩),.pointer (some ⟨w.heap.size+4,0,none⟩)],.bool m,undef],defers:=[] }) ?assign ?body ?done ?stop
 case assign=>
  intro l m W K hK;gi_wp2;exact hK
 case body=>
  rintro l0 pre m W ⟨⟨hb,hp⟩,hB⟩ hlen;have e0:=hb.cell;have e1:=hb.frozen;cases m with
  | false=>
    gi_wp2;exact⟨(KeepsOthers.refl _).from _,Lf (Below.refl _ _),⟨⟨hb,by simp[hp]⟩,hB⟩⟩
  | true=>
    gi_wp2;exact⟨(KeepsOthers.setCell _ _ _).from _,⟨⟨rfl,by simp⟩,hb.set _⟩,hB.setCell (p:=⟨w.heap.size+3,0,none⟩) (by simp) _⟩
 case done=>
  rintro D ys W hD rfl ⟨⟨hb,hp⟩,hB⟩ hK;have e0:=hb.cell;have e1:=hb.frozen;have hne:D≠w.heap.size+3:=by have:=HL5.out;omega
  have hK1:(W.setCell ⟨w.heap.size+3,0,none⟩ (.bool false)).heap[D]?=some (.deferred (some [])):=(Below.heap_setCell _ _ _ _ (fun e=>hne e)).trans hK;have hbs:=hb.set (.bool false);have hfin:∀ o',((W.setCell ⟨w.heap.size+3,0,none⟩ (.bool false)).putObj D o').cell? ⟨w.heap.size+3,0,none⟩=some (.bool false):=fun o'=>(World.cell?_of_block (World.putObj_heap_other (fun e=>hne e.symm))).trans hbs.cell
  have HB1:=hid (hB.setCell (p:=⟨w.heap.size+3,0,none⟩) (by simp) (.bool false));have HF:=hid (show Aw L a b=false by rw[Ni];exact hp);have HD2:=hid (show w.heap.size≤D by have:=HL5.out;omega);have HK1:=hid hK1;have HFIN:=hid hfin;clear hK1 hfin hbs hne;gi_wp2;refine⟨by simp,.inl ⟨_,_,rfl,run_takeDeferred HK1.out,?_⟩⟩;have hc:=HFIN.out (.deferred none);exact⟨.bool false,by simp[results,Tryz.results52,go_sem,hc],by rw[HF.out],HB1.out.trans (belowK_b (w:=w) (Nat.le_refl _) _ D _ _ HD2.out HK1.out rfl rfl)⟩
 case stop=>
  rintro D c pre W hD hpre ⟨⟨⟨rfl,hp⟩,hb⟩,hB⟩ hK;have e0:=hb.cell;have hne:D≠w.heap.size+3:=by have:=HL5.out;omega
  have hfin:∀ o',(W.putObj D o').cell? ⟨w.heap.size+3,0,none⟩=some (.bool true):=fun o'=>(World.cell?_of_block (World.putObj_heap_other (fun e=>hne e.symm))).trans hb.cell
  have HF:=hid (show Aw L a b=true by
   rw[Ni];obtain⟨t,ht⟩:=hpre;rw[← ht,List.any_append,hp];rfl)
  have HD2:=hid (show w.heap.size≤D by have:=HL5.out;omega);have HFIN:=hid hfin;clear hfin hne;gi_wp2;refine⟨by simp,.inl ⟨_,_,rfl,run_takeDeferred hK,?_⟩⟩;have hc:=HFIN.out (.deferred none);exact⟨.bool true,by simp[results,Tryz.results52,go_sem,hc],by rw[HF.out],hB.trans (belowK_b (w:=w) (Nat.le_refl _) _ D _ _ HD2.out hK rfl rfl)⟩
end Go.Proofs.YtpohoannggdbjaaGreat
namespace Go.Proofs.YtpohoannggdbjaaGreat
open Lib (hid)
open Go.RowKit
end Go.Proofs.YtpohoannggdbjaaGreat
namespace Go.Proofs.YtpohoannggdbjaaGreat
open Lib (hid)
open Go.RowKit
set_option maxRecDepth 100000
theorem S0{k n:Nat}(h:k<n)(hn:n≤64):wrap64 ((k:Int)+1)=(k:Int)+1:=by unfold wrap64;omega
theorem AP{L:AM}(h:(Aq L).1=0):AQ L=true:=by
 cases hm:AQ L with
 | true=>rfl
 | false=>rw[Mm hm] at h;cases h
theorem Hi(L:AM)(x y:Rt)(W:World)(hmay:AQ L=true)(hL:B5 W L)(hx:x∈L.rt.l)(hy:y∈L.rt.l) :
 Calls Tryz.prog 52 #[.agg #[L.se.v,L.po.v,L.sg.v,L.rt.v],.agg #[.string x.nm,.int .i64 x.sg,x.pa.v,x.po.v,x.ov.v,x.fl.v],.agg #[.string y.nm,.int .i64 y.sg,y.pa.v,y.po.v,y.ov.v,y.fl.v]] W fun e w'=>e = .returned (.bool (Aw L x y))∧Below W.heap.size W w':=by
 have ox:=Bn hmay x hx;have oy:=Bn hmay y hy;have hx1:x.pa.l.length+x.ov.l.length≤100000:=by have:=ox.pa;have:=ox.ov;omega
 have hx2:x.po.l.length+x.fl.l.length≤100000:=by have:=ox.po;have:=ox.fl;omega
 have hy1:y.pa.l.length+y.ov.l.length≤100000:=by have:=oy.pa;have:=oy.ov;omega
 have hy2:y.po.l.length+y.fl.l.length≤100000:=by have:=oy.po;have:=oy.fl;omega
 exact IN L x y W hL (hL.rn x hx) (hL.rn y hy) (by have:=Ay hmay;omega) ⟨hx1,hx2⟩ ⟨hy1,hy2⟩
theorem Gp(L:AM)(x y:Rt)(W:World)(hmay:AQ L=true)(hL:B5 W L)(hx:x∈L.rt.l)(hy:y∈L.rt.l) :
 Calls Tryz.prog 100 #[.agg #[L.se.v,L.po.v,L.sg.v,L.rt.v],.agg #[.string x.nm,.int .i64 x.sg,x.pa.v,x.po.v,x.ov.v,x.fl.v],.agg #[.string y.nm,.int .i64 y.sg,y.pa.v,y.po.v,y.ov.v,y.fl.v]] W fun e w'=>e = .returned (.bool (Aw L x y))∧Below W.heap.size W w':=by
 have ox:=Bn hmay x hx;have oy:=Bn hmay y hy;have hx1:x.pa.l.length+x.ov.l.length≤100000:=by have:=ox.pa;have:=ox.ov;omega
 have hx2:x.po.l.length+x.fl.l.length≤100000:=by have:=ox.po;have:=ox.fl;omega
 have hy1:y.pa.l.length+y.ov.l.length≤100000:=by have:=oy.pa;have:=oy.ov;omega
 have hy2:y.po.l.length+y.fl.l.length≤100000:=by have:=oy.po;have:=oy.fl;omega
 exact I7 L x y W hL (hL.rn x hx) (hL.rn y hy) hx1 hx2 hy1 hy2
theorem Ep{A B:World}{row:Option Nat}{k:Nat}{o:Obj}(h:A.grownBy B row)(hk:A.heap[k]?=some o)(hne:row≠some k):B.heap[k]?=some o:=(h.block k (Af hk) (fun e=>hne e.symm)).trans hk
end Go.Proofs.YtpohoannggdbjaaGreat
namespace Go.Proofs.YtpohoannggdbjaaGreat
open Lib (hid)
open Go.RowKit
set_option maxRecDepth 100000
theorem Bp{k n:Nat}(h:k<n)(hn:n≤9223372036854775807):wrap64 ((k:Int)+1)=(k:Int)+1:=by unfold wrap64;omega
theorem AK{i g m:Nat}(h:i+g=m)(hi:i<m):i+1+(m - (i+1))=m:=by omega
theorem AL{i g m:Nat}(h:i+g=m)(hi:i<m):m - (i+1)<g:=by omega
theorem PF{w:World}{g:Nat}{a b c d:Value}{t:TypeId}{fr:Nat × Nat}(h:w.heap[g]?=some (.cells #[a,b,c,d] t fr)):w.cell? ⟨g,0,none⟩=some a∧w.cell? ⟨g,1,none⟩=some b∧w.cell? ⟨g,2,none⟩=some c∧w.cell? ⟨g,3,none⟩=some d:=
 ⟨A4 h 0 _ rfl,A4 h 1 _ rfl,A4 h 2 _ rfl,A4 h 3 _ rfl⟩
theorem RX{w:World}{base:Nat}{e:TypeId}{sz:Nat}{v:Value}{n:Nat}{xs:List Value}(h:w.ownsRow base e sz v n xs):∃ a c,v = .slice a n c:=by
 rcases h.2 with ⟨h1,h2⟩ | ⟨g,cap,cur,h1,_⟩
 ·exact⟨none,0,by rw[h1,h2]⟩
 ·exact⟨_,_,h1⟩
theorem MN{α:Type}{f:α→List Value}{w:World}{B sz:Nat}{e:TypeId}{v:Value}{R:List α}{x:α}{X:List Value}(hX:X=f x)(h:w.ownsRow B e sz v (R.length+1) (R.flatMap f ++ X)):w.ownsRow B e sz v (R ++ [x]).length ((R ++ [x]).flatMap f):=by
 rw[List.flatMap_append,List.length_append];show w.ownsRow B e sz v (R.length+1) (R.flatMap f ++ (f x ++ []));rw[List.append_nil,← hX];exact h
attribute [local irreducible] BH Sl.v pw Aa Ab
theorem Fp{k g n:Nat}(h:k+g=n)(hlt:k<n):k+1+(n - (k+1))=n:=by omega
theorem Fs{k g n:Nat}(h:k+g=n)(hlt:k<n):n - (k+1)<g:=by omega
theorem I0{k n:Nat}(h:k<n)(hn:n≤9223372036854775807):wrap64 ((k:Int)+1)=(k:Int)+1:=by unfold wrap64;omega
theorem Dd(b:Bool)(x n:Nat)(w:World)(hn:n≤63)(hx:x<18446744073709551616)(hb:Aa x n=b) :
 Calls Tryz.prog 53 #[.int .u64 (x:Int),.int .i64 (n:Int)] w fun e w'=>e = .returned (.bool b)∧w=w':=by
 have h:=(MT x n hx).trans hb;have h0:(0:Int)≤n:=by omega
 have h1:min n 64=n:=by omega
 have h2:¬ (64:Int)≤n:=by omega
 clear hb hx hn;go_enter Tryz.func53,Tryz.ntmps53;go_wp2_with fail;go_ret;exact⟨by first | rfl | (rw[h]) | (simp only[h]),rfl⟩
theorem Lx(o n r:Nat)(a:Option Addr)(len cap:Nat)(w:World) :
 Calls Tryz.prog 59 #[.agg #[.int .u64 (o:Int),.int .u32 (n:Int),.int .u32 (r:Int),.slice a len cap]] w
  fun e w'=>e = .returned (.tuple #[.int .u32 (bits .andNot .u32 n r),.int .u32 (bits .andNot .u32 r n)])∧Below w.heap.size w w':=by
 go_enter Tryz.func59,Tryz.ntmps59;go_wp2;go_quiet (fail);go_wp2;go_ret2;exact⟨rfl,below_drewN (Ac _ _) _⟩
theorem He(o n r:Nat)(a:Option Addr)(len cap:Nat)(w:World) :
 Calls Tryz.prog 80 #[.agg #[.int .u64 (o:Int),.int .u32 (n:Int),.int .u32 (r:Int),.slice a len cap]] w
  fun e w'=>e = .returned (.tuple #[.int .u32 (bits .andNot .u32 n r),.int .u32 (bits .andNot .u32 r n)])∧Below w.heap.size w w':=by
 go_enter Tryz.func80,Tryz.ntmps80;go_wp2;go_quiet (fail);go_wp2;go_ret2;exact⟨rfl,below_drewN (Ac _ _) _⟩
set_option maxHeartbeats 2000000 in
theorem Mw(g1:Nat)(p:Int→Bool)(x:Option Addr)(m c:Nat)(l:List Int)(w:World)(hn:l.length=m)(hm:m≤9223372036854775807)(hl:AF 1 AO w x l)
 (hp:∀ W,Below w.heap.size w W→∀ y∈l,Calls Tryz.prog 96 #[.int .i64 y,.pointer (some ⟨g1,0,none⟩)] W fun e w'=>e = .returned (.bool (p y))∧Below W.heap.size W w') :
 Calls Tryz.prog 109 #[.slice x m c,.func (.func 96) #[] #[.pointer (some ⟨g1,0,none⟩)]] w fun e w'=>e = .returned (.int .i64 (BH p 0 l))∧Below w.heap.size w w':=by
 have HN:=hid hn;have HP:=hid hp;have HR:=hid hl;have HM:=hid hm;clear hn hp hl hm;go_enter Tryz.func109,Tryz.ntmps109;go_wp2_with fail;go_loopg [5,8] m (fun g _ i wr=>∃ k:Nat,k+g=m∧i = .int .i64 (k:Int)∧BH p k (l.drop k)=BH p 0 l∧Below w.heap.size w wr)
 case atStart=>exact⟨0,by omega,rfl,rfl,Below.refl _ _⟩
 case round=>
  obtain⟨k,hk,rfl,hb,hbw⟩:=hrel;have HB:=hid hb;have HBW:=hid hbw;have HK:=hid hk;clear hb hbw hk;by_cases hlt:k<m
  ·obtain⟨y,hy⟩:∃ y,l[k]?=some y:=⟨_,List.getElem?_eq_getElem (by rw[HN.out];exact hlt)⟩;rcases HR.out.below HBW.out with hnil | ⟨b,off,rfl,hc⟩
   ·rw[hnil] at hy;simp at hy
   have z0:=hc k _ hy 0 _ rfl;rw[Nat.add_zero,Nat.mul_one] at z0;have hd:=Ci (p:=p) hy;have d1:(0:Int)≤k:=by omega
   have d2:(k:Int)<m:=by omega
   have e1:=I0 hlt HM.out;have HLT:=hid hlt;have hcall:=HP.out wr HBW.out y (List.mem_of_getElem? hy);obtain⟨D,hD⟩:∃ D,p y=D:=⟨_,rfl⟩;rw[hD] at hcall hd;have HC:=hid hcall;clear hc hy hcall hD hlt;cases D with
   | true=>
     have HF:Hid (BH p 0 l=k):=hid (HB.out.symm.trans (by rw[hd,if_pos rfl]));clear hd;go_wp2_with fail;refine HC.out.mono ?_;rintro e w5 ⟨rfl,hb5⟩;have HB5:=hid (A8 HBW.out hb5);clear hb5;go_wp2_with fail;go_ret;exact⟨by rw[HF.out];rfl,HB5.out⟩
   | false=>
     have HT:Hid (BH p (k+1) (l.drop (k+1))=BH p 0 l):=hid (Eq.trans (by rw[hd,if_neg (by decide)]) HB.out);clear hd;go_wp2_with fail;refine HC.out.mono ?_;rintro e w5 ⟨rfl,hb5⟩;have HB5:=hid (A8 HBW.out hb5);clear hb5;go_wp2_with fail;go_roundg (m - (k+1))
     case rel=>exact⟨k+1,Fp HK.out HLT.out,by go_num,HT.out,HB5.out⟩
     case measure=>exact Fs HK.out HLT.out
  ·have hkm:m=k:=by have:=HK.out;omega
   subst hkm;have HF:Hid (BH p 0 l = -1):=hid (HB.out.symm.trans (CV HN.out));go_wp2_with fail;go_ret;exact⟨by rw[HF.out];rfl,HBW.out⟩
theorem KY(b:Bool)(g1:Nat)(p:Int→Bool)(x:Option Addr)(m c:Nat)(l:List Int)(w:World)(hb:l.any p=b)(hn:l.length=m)(hm:m≤9223372036854775807)(hl:AF 1 AO w x l)
 (hp:∀ W,Below w.heap.size w W→∀ y∈l,Calls Tryz.prog 96 #[.int .i64 y,.pointer (some ⟨g1,0,none⟩)] W fun e w'=>e = .returned (.bool (p y))∧Below W.heap.size W w') :
 Calls Tryz.prog 94 #[.slice x m c,.func (.func 96) #[] #[.pointer (some ⟨g1,0,none⟩)]] w fun e w'=>e = .returned (.bool b)∧Below w.heap.size w w':=by
 have hc:=Mw g1 p x m c l w hn hm hl hp;have hi:=Dh p l 0;obtain⟨z,hz⟩:∃ z,BH p 0 l=z:=⟨_,rfl⟩;rw[hz,hb] at hi;rw[hz] at hc;have HC:=hid hc;clear hz hb hn hm hl hp hc;rcases hi with ⟨h1,rfl⟩ | ⟨h1,rfl⟩
 ·go_enter Tryz.func94,Tryz.ntmps94;go_wp2_with fail;refine HC.out.mono ?_;rintro e w1 ⟨rfl,hb1⟩;have HB:=hid hb1;clear hb1;go_wp2_with fail;go_ret;exact⟨rfl,HB.out⟩
 ·have h2:¬ 0≤z:=by omega
  go_enter Tryz.func94,Tryz.ntmps94;go_wp2_with fail;refine HC.out.mono ?_;rintro e w1 ⟨rfl,hb1⟩;have HB:=hid hb1;clear hb1;go_wp2_with fail;go_ret;exact⟨by show Ending.returned (.bool (decide (0≤z)))=_;rw[decide_eq_false (by omega)],HB.out⟩
set_option maxHeartbeats 2000000 in
theorem Mk(g1:Nat)(p:Int→Bool)(x:Option Addr)(m c:Nat)(l:List Int)(w:World)(hn:l.length=m)(hm:m≤9223372036854775807)(hl:AF 1 AO w x l)
 (hp:∀ W,Below w.heap.size w W→∀ y∈l,Calls Tryz.prog 34 #[.pointer (some ⟨g1,0,none⟩),.int .i64 y] W fun e w'=>e = .returned (.bool (p y))∧Below W.heap.size W w') :
 Calls Tryz.prog 109 #[.slice x m c,.func (.func 34) #[.pointer (some ⟨g1,0,none⟩)] #[]] w fun e w'=>e = .returned (.int .i64 (BH p 0 l))∧Below w.heap.size w w':=by
 have HN:=hid hn;have HP:=hid hp;have HR:=hid hl;have HM:=hid hm;clear hn hp hl hm;go_enter Tryz.func109,Tryz.ntmps109;go_wp2_with fail;go_loopg [5,8] m (fun g _ i wr=>∃ k:Nat,k+g=m∧i = .int .i64 (k:Int)∧BH p k (l.drop k)=BH p 0 l∧Below w.heap.size w wr)
 case atStart=>exact⟨0,by omega,rfl,rfl,Below.refl _ _⟩
 case round=>
  obtain⟨k,hk,rfl,hb,hbw⟩:=hrel;have HB:=hid hb;have HBW:=hid hbw;have HK:=hid hk;clear hb hbw hk;by_cases hlt:k<m
  ·obtain⟨y,hy⟩:∃ y,l[k]?=some y:=⟨_,List.getElem?_eq_getElem (by rw[HN.out];exact hlt)⟩;rcases HR.out.below HBW.out with hnil | ⟨b,off,rfl,hc⟩
   ·rw[hnil] at hy;simp at hy
   have z0:=hc k _ hy 0 _ rfl;rw[Nat.add_zero,Nat.mul_one] at z0;have hd:=Ci (p:=p) hy;have d1:(0:Int)≤k:=by omega
   have d2:(k:Int)<m:=by omega
   have e1:=I0 hlt HM.out;have HLT:=hid hlt;have hcall:=HP.out wr HBW.out y (List.mem_of_getElem? hy);obtain⟨D,hD⟩:∃ D,p y=D:=⟨_,rfl⟩;rw[hD] at hcall hd;have HC:=hid hcall;clear hc hy hcall hD hlt;cases D with
   | true=>
     have HF:Hid (BH p 0 l=k):=hid (HB.out.symm.trans (by rw[hd,if_pos rfl]));clear hd;go_wp2_with fail;refine HC.out.mono ?_;rintro e w5 ⟨rfl,hb5⟩;have HB5:=hid (A8 HBW.out hb5);clear hb5;go_wp2_with fail;go_ret;exact⟨by rw[HF.out];rfl,HB5.out⟩
   | false=>
     have HT:Hid (BH p (k+1) (l.drop (k+1))=BH p 0 l):=hid (Eq.trans (by rw[hd,if_neg (by decide)]) HB.out);clear hd;go_wp2_with fail;refine HC.out.mono ?_;rintro e w5 ⟨rfl,hb5⟩;have HB5:=hid (A8 HBW.out hb5);clear hb5;go_wp2_with fail;go_roundg (m - (k+1))
     case rel=>exact⟨k+1,Fp HK.out HLT.out,by go_num,HT.out,HB5.out⟩
     case measure=>exact Fs HK.out HLT.out
  ·have hkm:m=k:=by have:=HK.out;omega
   subst hkm;have HF:Hid (BH p 0 l = -1):=hid (HB.out.symm.trans (CV HN.out));go_wp2_with fail;go_ret;exact⟨by rw[HF.out];rfl,HBW.out⟩
theorem L3(b:Bool)(g1:Nat)(p:Int→Bool)(x:Option Addr)(m c:Nat)(l:List Int)(w:World)(hb:l.any p=b)(hn:l.length=m)(hm:m≤9223372036854775807)(hl:AF 1 AO w x l)
 (hp:∀ W,Below w.heap.size w W→∀ y∈l,Calls Tryz.prog 34 #[.pointer (some ⟨g1,0,none⟩),.int .i64 y] W fun e w'=>e = .returned (.bool (p y))∧Below W.heap.size W w') :
 Calls Tryz.prog 94 #[.slice x m c,.func (.func 34) #[.pointer (some ⟨g1,0,none⟩)] #[]] w fun e w'=>e = .returned (.bool b)∧Below w.heap.size w w':=by
 have hc:=Mk g1 p x m c l w hn hm hl hp;have hi:=Dh p l 0;obtain⟨z,hz⟩:∃ z,BH p 0 l=z:=⟨_,rfl⟩;rw[hz,hb] at hi;rw[hz] at hc;have HC:=hid hc;clear hz hb hn hm hl hp hc;rcases hi with ⟨h1,rfl⟩ | ⟨h1,rfl⟩
 ·go_enter Tryz.func94,Tryz.ntmps94;go_wp2_with fail;refine HC.out.mono ?_;rintro e w1 ⟨rfl,hb1⟩;have HB:=hid hb1;clear hb1;go_wp2_with fail;go_ret;exact⟨rfl,HB.out⟩
 ·have h2:¬ 0≤z:=by omega
  go_enter Tryz.func94,Tryz.ntmps94;go_wp2_with fail;refine HC.out.mono ?_;rintro e w1 ⟨rfl,hb1⟩;have HB:=hid hb1;clear hb1;go_wp2_with fail;go_ret;exact⟨by show Ending.returned (.bool (decide (0≤z)))=_;rw[decide_eq_false (by omega)],HB.out⟩
set_option maxHeartbeats 2000000 in
theorem MR(g1:Nat)(p:(Int × Bool)→Bool)(x:Option Addr)(m c:Nat)(l:List (Int × Bool))(w:World)(hn:l.length=m)(hm:m≤9223372036854775807)(hl:AF 2 Cz w x l)
 (hp:∀ W,Below w.heap.size w W→∀ y∈l,Calls Tryz.prog 95 #[.agg #[.int .i64 y.1,.bool y.2],.pointer (some ⟨g1,0,none⟩)] W fun e w'=>e = .returned (.bool (p y))∧Below W.heap.size W w') :
 Calls Tryz.prog 97 #[.slice x m c,.func (.func 95) #[] #[.pointer (some ⟨g1,0,none⟩)]] w fun e w'=>e = .returned (.int .i64 (BH p 0 l))∧Below w.heap.size w w':=by
 have HN:=hid hn;have HP:=hid hp;have HR:=hid hl;have HM:=hid hm;clear hn hp hl hm;go_enter Tryz.func97,Tryz.ntmps97;go_wp2_with fail;go_loopg [5,8] m (fun g _ i wr=>∃ k:Nat,k+g=m∧i = .int .i64 (k:Int)∧BH p k (l.drop k)=BH p 0 l∧Below w.heap.size w wr)
 case atStart=>exact⟨0,by omega,rfl,rfl,Below.refl _ _⟩
 case round=>
  obtain⟨k,hk,rfl,hb,hbw⟩:=hrel;have HB:=hid hb;have HBW:=hid hbw;have HK:=hid hk;clear hb hbw hk;by_cases hlt:k<m
  ·obtain⟨y,hy⟩:∃ y,l[k]?=some y:=⟨_,List.getElem?_eq_getElem (by rw[HN.out];exact hlt)⟩;rcases HR.out.below HBW.out with hnil | ⟨b,off,rfl,hc⟩
   ·rw[hnil] at hy;simp at hy
   have z0:=hc k _ hy 0 _ rfl;have z1:=hc k _ hy 1 _ rfl;rw[Nat.add_zero] at z0;have hd:=Ci (p:=p) hy;have d1:(0:Int)≤k:=by omega
   have d2:(k:Int)<m:=by omega
   have e1:=I0 hlt HM.out;have HLT:=hid hlt;have hcall:=HP.out wr HBW.out y (List.mem_of_getElem? hy);obtain⟨D,hD⟩:∃ D,p y=D:=⟨_,rfl⟩;rw[hD] at hcall hd;have HC:=hid hcall;clear hc hy hcall hD hlt;cases D with
   | true=>
     have HF:Hid (BH p 0 l=k):=hid (HB.out.symm.trans (by rw[hd,if_pos rfl]));clear hd;go_wp2_with fail;refine HC.out.mono ?_;rintro e w5 ⟨rfl,hb5⟩;have HB5:=hid (A8 HBW.out hb5);clear hb5;go_wp2_with fail;go_ret;exact⟨by rw[HF.out];rfl,HB5.out⟩
   | false=>
     have HT:Hid (BH p (k+1) (l.drop (k+1))=BH p 0 l):=hid (Eq.trans (by rw[hd,if_neg (by decide)]) HB.out);clear hd;go_wp2_with fail;refine HC.out.mono ?_;rintro e w5 ⟨rfl,hb5⟩;have HB5:=hid (A8 HBW.out hb5);clear hb5;go_wp2_with fail;go_roundg (m - (k+1))
     case rel=>exact⟨k+1,Fp HK.out HLT.out,by go_num,HT.out,HB5.out⟩
     case measure=>exact Fs HK.out HLT.out
  ·have hkm:m=k:=by have:=HK.out;omega
   subst hkm;have HF:Hid (BH p 0 l = -1):=hid (HB.out.symm.trans (CV HN.out));go_wp2_with fail;go_ret;exact⟨by rw[HF.out];rfl,HBW.out⟩
theorem LN(b:Bool)(g1:Nat)(p:(Int × Bool)→Bool)(x:Option Addr)(m c:Nat)(l:List (Int × Bool))(w:World)(hb:l.any p=b)(hn:l.length=m)(hm:m≤9223372036854775807)(hl:AF 2 Cz w x l)
 (hp:∀ W,Below w.heap.size w W→∀ y∈l,Calls Tryz.prog 95 #[.agg #[.int .i64 y.1,.bool y.2],.pointer (some ⟨g1,0,none⟩)] W fun e w'=>e = .returned (.bool (p y))∧Below W.heap.size W w') :
 Calls Tryz.prog 60 #[.slice x m c,.func (.func 95) #[] #[.pointer (some ⟨g1,0,none⟩)]] w fun e w'=>e = .returned (.bool b)∧Below w.heap.size w w':=by
 have hc:=MR g1 p x m c l w hn hm hl hp;have hi:=Dh p l 0;obtain⟨z,hz⟩:∃ z,BH p 0 l=z:=⟨_,rfl⟩;rw[hz,hb] at hi;rw[hz] at hc;have HC:=hid hc;clear hz hb hn hm hl hp hc;rcases hi with ⟨h1,rfl⟩ | ⟨h1,rfl⟩
 ·go_enter Tryz.func60,Tryz.ntmps60;go_wp2_with fail;refine HC.out.mono ?_;rintro e w1 ⟨rfl,hb1⟩;have HB:=hid hb1;clear hb1;go_wp2_with fail;go_ret;exact⟨rfl,HB.out⟩
 ·have h2:¬ 0≤z:=by omega
  go_enter Tryz.func60,Tryz.ntmps60;go_wp2_with fail;refine HC.out.mono ?_;rintro e w1 ⟨rfl,hb1⟩;have HB:=hid hb1;clear hb1;go_wp2_with fail;go_ret;exact⟨by show Ending.returned (.bool (decide (0≤z)))=_;rw[decide_eq_false (by omega)],HB.out⟩
set_option maxHeartbeats 2000000 in
theorem Na(g1 g2:Nat)(p:(Int × Bool)→Bool)(x:Option Addr)(m c:Nat)(l:List (Int × Bool))(w:World)(hn:l.length=m)(hm:m≤9223372036854775807)(hl:AF 2 Cz w x l)
 (hp:∀ W,Below w.heap.size w W→∀ y∈l,Calls Tryz.prog 61 #[.agg #[.int .i64 y.1,.bool y.2],.pointer (some ⟨g1,0,none⟩),.pointer (some ⟨g2,0,none⟩)] W fun e w'=>e = .returned (.bool (p y))∧Below W.heap.size W w') :
 Calls Tryz.prog 97 #[.slice x m c,.func (.func 61) #[] #[.pointer (some ⟨g1,0,none⟩),.pointer (some ⟨g2,0,none⟩)]] w fun e w'=>e = .returned (.int .i64 (BH p 0 l))∧Below w.heap.size w w':=by
 have HN:=hid hn;have HP:=hid hp;have HR:=hid hl;have HM:=hid hm;clear hn hp hl hm;go_enter Tryz.func97,Tryz.ntmps97;go_wp2_with fail;go_loopg [5,8] m (fun g _ i wr=>∃ k:Nat,k+g=m∧i = .int .i64 (k:Int)∧BH p k (l.drop k)=BH p 0 l∧Below w.heap.size w wr)
 case atStart=>exact⟨0,by omega,rfl,rfl,Below.refl _ _⟩
 case round=>
  obtain⟨k,hk,rfl,hb,hbw⟩:=hrel;have HB:=hid hb;have HBW:=hid hbw;have HK:=hid hk;clear hb hbw hk;by_cases hlt:k<m
  ·obtain⟨y,hy⟩:∃ y,l[k]?=some y:=⟨_,List.getElem?_eq_getElem (by rw[HN.out];exact hlt)⟩;rcases HR.out.below HBW.out with hnil | ⟨b,off,rfl,hc⟩
   ·rw[hnil] at hy;simp at hy
   have z0:=hc k _ hy 0 _ rfl;have z1:=hc k _ hy 1 _ rfl;rw[Nat.add_zero] at z0;have hd:=Ci (p:=p) hy;have d1:(0:Int)≤k:=by omega
   have d2:(k:Int)<m:=by omega
   have e1:=I0 hlt HM.out;have HLT:=hid hlt;have hcall:=HP.out wr HBW.out y (List.mem_of_getElem? hy);obtain⟨D,hD⟩:∃ D,p y=D:=⟨_,rfl⟩;rw[hD] at hcall hd;have HC:=hid hcall;clear hc hy hcall hD hlt;cases D with
   | true=>
     have HF:Hid (BH p 0 l=k):=hid (HB.out.symm.trans (by rw[hd,if_pos rfl]));clear hd;go_wp2_with fail;refine HC.out.mono ?_;rintro e w5 ⟨rfl,hb5⟩;have HB5:=hid (A8 HBW.out hb5);clear hb5;go_wp2_with fail;go_ret;exact⟨by rw[HF.out];rfl,HB5.out⟩
   | false=>
     have HT:Hid (BH p (k+1) (l.drop (k+1))=BH p 0 l):=hid (Eq.trans (by rw[hd,if_neg (by decide)]) HB.out);clear hd;go_wp2_with fail;refine HC.out.mono ?_;rintro e w5 ⟨rfl,hb5⟩;have HB5:=hid (A8 HBW.out hb5);clear hb5;go_wp2_with fail;go_roundg (m - (k+1))
     case rel=>exact⟨k+1,Fp HK.out HLT.out,by go_num,HT.out,HB5.out⟩
     case measure=>exact Fs HK.out HLT.out
  ·have hkm:m=k:=by have:=HK.out;omega
   subst hkm;have HF:Hid (BH p 0 l = -1):=hid (HB.out.symm.trans (CV HN.out));go_wp2_with fail;go_ret;exact⟨by rw[HF.out];rfl,HBW.out⟩
theorem KX(b:Bool)(g1 g2:Nat)(p:(Int × Bool)→Bool)(x:Option Addr)(m c:Nat)(l:List (Int × Bool))(w:World)(hb:l.any p=b)(hn:l.length=m)(hm:m≤9223372036854775807)(hl:AF 2 Cz w x l)
 (hp:∀ W,Below w.heap.size w W→∀ y∈l,Calls Tryz.prog 61 #[.agg #[.int .i64 y.1,.bool y.2],.pointer (some ⟨g1,0,none⟩),.pointer (some ⟨g2,0,none⟩)] W fun e w'=>e = .returned (.bool (p y))∧Below W.heap.size W w') :
 Calls Tryz.prog 60 #[.slice x m c,.func (.func 61) #[] #[.pointer (some ⟨g1,0,none⟩),.pointer (some ⟨g2,0,none⟩)]] w fun e w'=>e = .returned (.bool b)∧Below w.heap.size w w':=by
 have hc:=Na g1 g2 p x m c l w hn hm hl hp;have hi:=Dh p l 0;obtain⟨z,hz⟩:∃ z,BH p 0 l=z:=⟨_,rfl⟩;rw[hz,hb] at hi;rw[hz] at hc;have HC:=hid hc;clear hz hb hn hm hl hp hc;rcases hi with ⟨h1,rfl⟩ | ⟨h1,rfl⟩
 ·go_enter Tryz.func60,Tryz.ntmps60;go_wp2_with fail;refine HC.out.mono ?_;rintro e w1 ⟨rfl,hb1⟩;have HB:=hid hb1;clear hb1;go_wp2_with fail;go_ret;exact⟨rfl,HB.out⟩
 ·have h2:¬ 0≤z:=by omega
  go_enter Tryz.func60,Tryz.ntmps60;go_wp2_with fail;refine HC.out.mono ?_;rintro e w1 ⟨rfl,hb1⟩;have HB:=hid hb1;clear hb1;go_wp2_with fail;go_ret;exact⟨by show Ending.returned (.bool (decide (0≤z)))=_;rw[decide_eq_false (by omega)],HB.out⟩
end Go.Proofs.YtpohoannggdbjaaGreat
