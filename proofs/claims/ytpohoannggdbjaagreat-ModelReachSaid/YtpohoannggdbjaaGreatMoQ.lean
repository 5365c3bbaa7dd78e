/- Layer 28: the document's choice. -/
import Derived.Test.YtpohoannggdbjaaGreatMoP
set_option maxRecDepth 100000
set_option maxHeartbeats 200000000
namespace Go.Proofs.YtpohoannggdbjaaGreat
open Lib (hid)
open Go.RowKit
theorem Dh{P:Program}{fn:Func}{p u:Tmp}{ty:TypeId}(h:fn.results = #[.cell p ty,.tmp u])(tmps:Array Value)(w:World)(g:Nat)(t:TypeId)(cs:Array Value)(fr:Nat × Nat)(d:TypeDesc)(v:Value)
 (hp:tmps.getD p undef = .pointer (some ⟨g,0,none⟩)) (hg:w.heap[g]?=some (.cells cs t fr))
 (hu:P.underlying ty=some d) (hd:(match d with | .struct _ | .array _ _=>true | _=>false)=true) (hi:(P.info? ty).map (·.size)=some cs.size) (hv:tmps.getD u undef=v) :
 (results fn tmps).run P w = .ok (.tuple #[.agg cs,v]) w:=by
 rw[results_cell_tmp h,hp,hv];simp[asAddr,run_loadVar_row w g t ty cs fr d hg hu hd hi,Result.andThen]
theorem RK(k1 k2 n1 n2:Int)(w:World):(binOp .neq 44 (.agg #[.int .u64 k1,.int .u32 n1]) (.agg #[.int .u64 k2,.int .u32 n2])).run Tryz.prog w = .ok (.bool (!(k1 == k2 && n1 == n2))) w:=by
 rw[run_neq_struct,FW];rfl
theorem LV{T:Tb}{X:List Iv}{Y:List Sh}{b i n:Nat}(h:DC T X Y b (i+1)=none)(hn:i<n):DC T X Y b n=none:=by
 obtain⟨d,rfl⟩:∃ d,n=i+1+d:=⟨n - (i+1),by omega⟩;exact IX h d
theorem LW{T:Tb}{X:List Iv}{Y:List Sh}{b i:Nat}{s:St}{x:Iv}{y:Sh}(h:DC T X Y b i=some s)(hx:X[i]?=some x)(hy:Y[i]?=some y)(hb:Aa b i=false):DC T X Y b (i+1)=if y.st then some s else none:=by rw[Fl h hx hy,hb];rfl
theorem L9{T:Tb}{X:List Iv}{Y:List Sh}{b i:Nat}{s t:St}{x:Iv}{y:Sh}{P Q:Nat}(h:DC T X Y b i=some s)(hx:X[i]?=some x)(hy:Y[i]?=some y)(hb:Aa b i=true)(ht:Ay T x s=t)(hP:Bq T t x.oc x.no x.re=P)(hQ:t.pt=Q):DC T X Y b (i+1)=if y.st || (P == y.p && Q == y.q) then some t else none:=by
 rw[Fl h hx hy,hb];show(if BS T x y s then some (Ay T x s) else none)=_;unfold BS;rw[ht,hP,hQ]
theorem No(s n:Nat)(hs:s<9223372036854775808):(bits .and .i64 ((s:Int) / 2 ^ n) 1 == 0) = !Aa s n:=by
 have h1:s / pw n<9223372036854775808:=Wr (Nat.div_le_self _ _) hs;rw[Hp,show(1:Int)=((1:Nat):Int) from rfl,Gb _ 1 h1 (by omega),Nat.and_one_is_mod];unfold Aa;rw[Ww];simp;omega
attribute [local irreducible] Sl.v Aa pw Ab Aw C8 Af BC CD Bi Bg B9 CB BQ AU Bp BB BG Bh Bd BP Bo BL BF BN AI AY AV Be Bw Bq C4 Mc.tb BZ AX Ap B5
attribute [local irreducible] Bs BV C6 BS Ay AN
attribute [local irreducible] AW CY Bt BO zS FL BX FN FM D8 DC
theorem Ls(L:AL)(ra:Option Addr)(n rc:Nat)(sa:Option Addr)(sc b:Nat)(X:List Iv)(Y:List Sh)(w:World)(hL:AO w L)(hX:As 4 DV w ra X)(hxn:X.length=n)(hxo:∀ x∈X,Ci w x∧x.len≤100000)(hY:As 3 Cx w sa Y)(hyn:Y.length=n)(h11:n≤11)(hb4:b<4096)(hc:(Ap L).1=0)(R:Option St)(hR:DC (AW L) X Y b n=R) :
 Calls Tryz.prog 25 #[.agg #[L.se.v,L.po.v,L.sg.v,L.rt.v],.slice ra n rc,.slice sa n sc,.int .i64 (b:Int)] w fun e w'=>∃ s:St,e = .returned (.tuple #[.agg (Af s).toArray,.bool R.isSome])∧(∀ t,R=some t→t=s)∧s.ok∧Below w.heap.size w w':=by
 have KD:Hid (∀ V,Below w.heap.size w V→∀(s:St),s.ok→∀(x:Iv),Ci V x→x.len≤100000→Calls Tryz.prog 27 #[.agg #[L.se.v,L.po.v,L.sg.v,L.rt.v],.agg (Af s).toArray,.agg #[.int .u64 (x.oc:Int),.int .u32 (x.no:Int),.int .u32 (x.re:Int),.slice x.a x.len x.cap]] V fun e w'=>e = .returned (.tuple #[.agg (Af (Ay (AW L) x s)).toArray,.agg #[.int .u64 (Bq (AW L) (Ay (AW L) x s) x.oc x.no x.re:Int),.int .u32 ((Ay (AW L) x s).pt:Int)]])∧Below V.heap.size V w'):=hid (fun V hV s hs x hx hn=>Ov (hL.below hV) hc s hs x hx hn);obtain⟨T,hT⟩:=WY (AW L);have HTB:Hid (Dc T):=hid (hT ▸ G4 hc);rw[hT] at KD hR;have HXR:=hid hX;have HXN:=hid hxn;have HXO:=hid hxo;have HYR:=hid hY;have HYN:=hid hyn;have HN11:=hid h11;have HB4:=hid hb4;have HR:=hid hR;clear hc hX hxn hxo hY hyn h11 hb4 hR hT;obtain⟨n1,hn1⟩:=WY L.se.l.length;obtain⟨n2,hn2⟩:=WY L.po.l.length;obtain⟨n3,hn3⟩:=WY L.sg.l.length;obtain⟨n4,hn4⟩:=WY L.rt.l.length;rw[Ak hn1,Ak hn2,Ak hn3,Ak hn4] at KD ⊢;clear hn1 hn2 hn3 hn4 hL;go_enter Tryz.func25,Tryz.ntmps25;go_upto_region 1 with rw[Bz]
 refine Ao (os:=[.cells #[.slice L.se.a n1 L.se.c,.slice L.po.a n2 L.po.c,.slice L.sg.a n3 L.sg.c,.slice L.rt.a n4 L.rt.c] 27,.cells (Af zS).toArray 65]) (w0:=w) rfl ?_;intro W hat hbw;obtain⟨gl,hgl⟩:=X0 w.heap.size;have q0:=hat 0 _ rfl;obtain⟨g8,hg8⟩:=X0 (gl+1);have q1:=hat 1 _ rfl;rw[Wa,← hgl] at q0;rw[← hgl,← hg8] at q1;rw[← hgl,← hg8];have HQl:=hid q0;have HQ8:=hid q1;have HB0:=hid hbw;have HG8:Hid (w.heap.size≤g8):=hid (by omega);clear hat hbw q0 q1 hgl hg8;have ha:=Al W (.cells (Af zS).toArray 65) (VU _ _);have hk:=Ac W (.cells (Af zS).toArray 65);obtain⟨hst,hq9,ho9⟩:=AH (s':=zS) ha;have HST:=hid hst;have HG0:=hid hq9;have HB40:Hid (Below W.heap.size W ((W.alloc (.cells (Af zS).toArray 65)).setCells W.heap.size 0 (Af zS))):=hid (Ai.below hk (Wc _) hk.size ho9);obtain⟨V4,hV4⟩:∃ V',V'=(W.alloc (.cells (Af zS).toArray 65)).setCells W.heap.size 0 (Af zS):=⟨_,rfl⟩;rw[← hV4] at HST HG0 HB40;clear ha hk hst hq9 ho9 hV4;go_upto_region 2 with (first
  | rw[Bz]
  | ((with_reducible refine CG (op:=⟨some 14,_,_,_,_,_⟩) rfl 65 rfl _ E7 ?_))
  | ((with_reducible refine Ag (op:=⟨none,.store 65 _ _,_,_,_,_⟩) rfl 65 _ _ rfl _ _ ?_ ?_ _ HST.o ?_);(· rfl);(· rfl)))
 (try simp only[Act.put])
 obtain⟨gs,hgs⟩:=X0 W.heap.size;have HGS1:Hid (W.heap.size≤gs):=hid (by omega);rw[← hgs] at HG0 ⊢;clear hgs HST;go_upto_region 3 with fail
 go_loopg [11] n (fun g v wr=>∃(i:Nat) (S:St),i+g=n∧v = .int .i64 (i:Int)∧DC T X Y b i=some S∧wr.heap[gs]?=some (.cells (Af S).toArray 65)∧S.ok∧Below W.heap.size W wr)
 case atStart=>exact⟨0,FL,by omega,rfl,Qx _ _ _ _,by rw[JN];exact HG0.o,JO,HB40.o⟩
 case round=>
  obtain⟨i,S,hi,rfl,hch,hgs,hso,hbw⟩:=hrel;have HI:=hid hi;have HCH:=hid hch;have HGS:=hid hgs;have HSO:=hid hso;have HB:=hid hbw;clear hi hch hgs hso hbw;by_cases hlt:i<n
  ·skip
   have d1:(0:Int)≤i:=(by omega);have d2:(i:Int)<n:=(by omega);have e1:=B8 hlt (Wd HN11.o (by decide));have HLT:=hid hlt;have HD:=hid (And.intro d1 d2);obtain⟨x,hxi⟩:∃ x,X[i]?=some x:=⟨_,Wb (by rw[HXN.o];exact hlt)⟩;obtain⟨y,hyi⟩:∃ y,Y[i]?=some y:=⟨_,Wb (by rw[HYN.o];exact hlt)⟩;have HXI:=hid hxi;have HYI:=hid hyi;have HXO1:=hid (HXO.o x (Wf hxi));rcases HXR.o with hnil | ⟨rb,ro,hra,hc⟩
   ·rw[hnil] at hxi;cases hxi
   rcases HYR.o with hnil | ⟨sb,so,hsa,hcy⟩
   ·rw[hnil] at hyi;cases hyi
   have hbo:=A6 HB0.o HB.o;have z0:=VY hbo (hc i _ hxi 0 _ rfl);have z1:=VY hbo (hc i _ hxi 1 _ rfl);have z2:=VY hbo (hc i _ hxi 2 _ rfl);have z3:=VY hbo (hc i _ hxi 3 _ rfl);rw[Wa] at z0;have HZX:=hid (And.intro z0 (And.intro z1 (And.intro z2 z3)));have y0:=hcy i _ hyi 0 _ rfl;have y1:=hcy i _ hyi 1 _ rfl;have y2:=hcy i _ hyi 2 _ rfl;rw[Wa] at y0;have HZY:=hid (And.intro y0 (And.intro y1 y2));clear z0 z1 z2 z3 y0 y1 y2;obtain⟨NS,hNS⟩:=WY (Ay T x S);obtain⟨OP,hOP⟩:=WY (Bq T NS x.oc x.no x.re);obtain⟨PT,hPT⟩:=WY NS.pt;have HNO:Hid NS.ok:=hid (hNS ▸ Hr HTB.o HSO.o x);have KST:Hid (∀ V,Below W.heap.size W V→Calls Tryz.prog 27 #[.agg #[.slice L.se.a n1 L.se.c,.slice L.po.a n2 L.po.c,.slice L.sg.a n3 L.sg.c,.slice L.rt.a n4 L.rt.c],.agg (Af S).toArray,.agg #[.int .u64 (x.oc:Int),.int .u32 (x.no:Int),.int .u32 (x.re:Int),.slice x.a x.len x.cap]] V fun e w'=>e = .returned (.tuple #[.agg (Af NS).toArray,.agg #[.int .u64 (OP:Int),.int .u32 (PT:Int)]])∧Below V.heap.size V w'):=hid (fun V hV=>by
    have h:=KD.o V (A6 HB0.o hV) S HSO.o x (HXO1.o.1.below (A6 HB0.o hV)) HXO1.o.2;rw[hNS,hOP,hPT] at h;exact h)
   have HNSE:=hid hNS;have HOPE:=hid hOP;have HPTE:=hid hPT;have HGLl:=hid (A5 HB.o HQl.o);subst hra;subst hsa;obtain⟨bt,hbt⟩:=WY (Aa b i);have HBT:=hid hbt;have e64:(i:Int)<64:=(by have:=HN11.o;omega);have m1:min i 64=i:=(by have:=HN11.o;omega);have m2:¬ (64:Int)≤(i:Int):=(by omega);have hb1:=No b i (by have:=HB4.o;omega);rw[hbt] at hb1;clear hlt hxi hyi hc hcy hbo hNS hOP hPT hbt;cases bt with
   | false=>
     have hb1:(bits .and .i64 ((b:Int) / 2 ^ i) 1 == 0)=true:=hb1;obtain⟨t,ht⟩:=WY y.st;have hzy:=HZY.o;rw[ht] at hzy;have y0:=VY (A6 HB0.o HB.o) hzy.1;have HYT:=hid ht;clear hzy ht;go_upto_region 6 with fail
     clear hb1 e64 m1 m2;cases t with
     | true=>
       have HSN:Hid (DC T X Y b (i+1)=some S):=hid (by rw[LW HCH.o HXI.o HYI.o HBT.o,HYT.o];rfl);go_wp2_with fail;clear y0;go_roundg (n - (i+1))
       case rel=>exact⟨i+1,S,AA HI.o HLT.o,by go_num,HSN.o,HGS.o,HSO.o,HB.o⟩
       case measure=>exact Az HI.o HLT.o
     | false=>
       have H8r:=hid (A5 HB.o HQ8.o);have HBr:Hid (Below w.heap.size w wr):=hid (A6 HB0.o HB.o);go_upto_region 7 with fail
       clear y0 d1 d2;have hR:R=none:=(by rw[← HR.o];exact LV (by rw[LW HCH.o HXI.o HYI.o HBT.o,HYT.o];rfl) HLT.o);subst hR;have HLDr:=hid (Au HGS.o);obtain⟨hst,hq9,ho9⟩:=AH (s':=S) H8r.o;have HST:=hid hst;have HQ9:=hid hq9;have HBE:Hid (Below w.heap.size w (wr.setCells g8 0 (Af S))):=hid (Ai.below HBr.o HG8.o HBr.o.size ho9);clear hst hq9 ho9;go_wp2_with (first
        | ((with_reducible refine Ah (op:=⟨some 32,_,_,_,_,_⟩) rfl 65 _ rfl _ _ ?_ HLDr.o ?_);(· rfl))
        | ((with_reducible refine Ag (op:=⟨none,.store 65 _ _,_,_,_,_⟩) rfl 65 _ _ rfl _ _ ?_ ?_ _ HST.o ?_);(· rfl);(· rfl)))
       (try simp only[Exit.inBlock,Exit.then])
       refine bodyPost_ret (Dh (g:=g8) rfl _ _ 65 (Af S).toArray (0,0) _ (.bool false) rfl HQ9.o Tryz.underlying65 rfl (by rw[Wn,AS];exact Bf) rfl) rfl ?_;exact⟨S,rfl,fun _ h=>(nomatch h),HSO.o,HBE.o⟩
   | true=>
     have hb1:(bits .and .i64 ((b:Int) / 2 ^ i) 1 == 0)=false:=hb1;go_upto_region 8 with fail
     clear hb1 e64 m1 m2 d1 d2;refine EP (by kernel_rfl) [12,13] 16 [0,1,2,3,4,5,6,7,8,9,10,11] [34,35,36,37,38,39,40,33,41,42,12,13] #[true,true,true,true,true,true,true,true,true,true,true,true,false,false] #[true,true,true,true,true,true,true,true,true,false,true,true,false,false] 2 [(fun v _=>v = .agg #[.slice L.se.a n1 L.se.c,.slice L.po.a n2 L.po.c,.slice L.sg.a n3 L.sg.c,.slice L.rt.a n4 L.rt.c]),(fun v _=>v = .agg (Af S).toArray),(fun v _=>v = .slice (some ⟨rb,ro,none⟩) n rc),(fun v _=>v = .int .i64 (i:Int)),(fun v _=>v = .pointer (some ⟨rb,ro+i*4,none⟩)),(fun v _=>v = .agg #[.int .u64 (x.oc:Int),.int .u32 (x.no:Int),.int .u32 (x.re:Int),.slice x.a x.len x.cap]),(fun v _=>v = .tuple #[.agg (Af NS).toArray,.agg #[.int .u64 (OP:Int),.int .u32 (PT:Int)]]),(fun v _=>v = .tuple #[.agg (Af NS).toArray,.agg #[.int .u64 (OP:Int),.int .u32 (PT:Int)]]),(fun v _=>v = .agg (Af NS).toArray),(fun v _=>v = .agg #[.int .u64 (OP:Int),.int .u32 (PT:Int)]),(fun v V=>∃ g,v = .pointer (some ⟨g,0,none⟩)∧wr.heap.size≤g∧V.heap[g]?=some (.cells (Af zS).toArray 65)),(fun v V=>∃ g,v = .pointer (some ⟨g,0,none⟩)∧wr.heap.size≤g∧V.heap[g]?=some (.cells #[.int .u64 0,.int .u32 0] 44)),(fun _ _=>True),(fun _ _=>True)] 9 42 (.agg #[.int .u64 (OP:Int),.int .u32 (PT:Int)]) (ou:=⟨some 42,_,_,_,_,_⟩) rfl rfl rfl (by kernel_rfl) (by kernel_rfl) (by kernel_rfl) (by kernel_rfl) (fun _ _ _ h=>h) (fun _=>rfl) ?_ (by kernel_rfl) (by kernel_rfl) (by kernel_rfl) (by kernel_rfl) (by kernel_rfl) rfl (by kernel_rfl) rfl rfl (by kernel_rfl) rfl rfl (by kernel_rfl) ?_ ?_ ?_
     ·intro a V hx;have h7:a.eval (.tmp 33) = .tuple #[.agg (Af NS).toArray,.agg #[.int .u64 (OP:Int),.int .u32 (PT:Int)]]:=hx 7 33 rfl rfl;have h7':a.tmps[33]?.getD undef = .tuple #[.agg (Af NS).toArray,.agg #[.int .u64 (OP:Int),.int .u32 (PT:Int)]]:=(by rw[← h7];simp[Act.eval,Array.getD_eq_getD_getElem?]);clear hx;exact Or.inl ⟨by rfl,fun w=>by go_simp⟩
     ·exact⟨A8 _,A8 _,A8 _,A8 _,A8 _,A8 _,A8 _,A8 _,A8 _,A8 _,(fun v W W2 h hb=>by obtain⟨g,h1,h2,h3⟩:=h;exact⟨g,h1,h2,A5 hb h3⟩),(fun v W W2 h hb=>by obtain⟨g,h1,h2,h3⟩:=h;exact⟨g,h1,h2,A5 hb h3⟩),An,An,trivial⟩
     ·refine⟨?_,?_,?_,?_,?_,?_,?_,?_,?_,?_,?_,?_,trivial⟩
      ·refine A7 (o:=⟨some 34,_,_,_,_,_⟩) rfl (fun r V hc hf hg hs hb hd=>?_);have x4:r (.tmp 4) = .pointer (some ⟨gl,0,none⟩):=hs 4 (by kernel_rfl);clear hs hd hg;have l0:=A4 (A5 hb HGLl.o) 0 _ rfl;have l1:=A4 (A5 hb HGLl.o) 1 _ rfl;have l2:=A4 (A5 hb HGLl.o) 2 _ rfl;have l3:=A4 (A5 hb HGLl.o) 3 _ rfl;go_simp;exact X1
      ·refine A7 (o:=⟨some 35,_,_,_,_,_⟩) rfl (fun r V hc hf hg hs hb hd=>?_);have x10:r (.tmp 10) = .pointer (some ⟨gs,0,none⟩):=hs 10 (by kernel_rfl);clear hs hd hg;exact KI 65 _ rfl _ _ x10 (Au (A5 hb HGS.o)) rfl
      ·refine A7 (o:=⟨some 36,_,_,_,_,_⟩) rfl (fun r V hc hf hg hs hb hd=>?_);have x1:r (.tmp 1) = .slice (some ⟨rb,ro,none⟩) n rc:=hs 1 (by kernel_rfl);clear hs hd hg;go_simp;exact X1
      ·refine A7 (o:=⟨some 37,_,_,_,_,_⟩) rfl (fun r V hc hf hg hs hb hd=>?_);have x11:r (.tmp 11) = .int .i64 (i:Int):=hs 11 (by kernel_rfl);clear hs hd hg;go_simp;exact X1
      ·refine A7 (o:=⟨some 38,_,_,_,_,_⟩) rfl (fun r V hc hf hg hs hb hd=>?_);have h2:r (.tmp 36) = .slice (some ⟨rb,ro,none⟩) n rc:=hd 2 36 rfl (by kernel_rfl);have h3:r (.tmp 37) = .int .i64 (i:Int):=hd 3 37 rfl (by kernel_rfl);clear hs hd hg;have e1:=HD.o.1;have e2:=HD.o.2;go_simp;exact X1
      ·refine A7 (o:=⟨some 39,_,_,_,_,_⟩) rfl (fun r V hc hf hg hs hb hd=>?_);have h4:r (.tmp 38) = .pointer (some ⟨rb,ro+i*4,none⟩):=hd 4 38 rfl (by kernel_rfl);clear hs hd hg;have z0:=VY hb HZX.o.1;have z1:=VY hb HZX.o.2.1;have z2:=VY hb HZX.o.2.2.1;have z3:=VY hb HZX.o.2.2.2;go_simp;exact X1
      ·refine A7 (o:=⟨some 40,_,_,_,_,_⟩) rfl (fun r V hc hf hg hs hb hd=>?_);have h0:r (.tmp 34) = .agg #[.slice L.se.a n1 L.se.c,.slice L.po.a n2 L.po.c,.slice L.sg.a n3 L.sg.c,.slice L.rt.a n4 L.rt.c]:=hd 0 34 rfl (by kernel_rfl);have h1:r (.tmp 35) = .agg (Af S).toArray:=hd 1 35 rfl (by kernel_rfl);have h5:r (.tmp 39) = .agg #[.int .u64 (x.oc:Int),.int .u32 (x.no:Int),.int .u32 (x.re:Int),.slice x.a x.len x.cap]:=hd 5 39 rfl (by kernel_rfl);clear hs hd hg;go_simp;refine(KST.o V (A6 HB.o hb)).mono ?_;rintro e w' ⟨rfl,h3⟩;exact⟨_,rfl,h3,rfl⟩
      ·refine A7 (o:=⟨some 33,_,_,_,_,_⟩) rfl (fun r V hc hf hg hs hb hd=>?_);have h6:r (.tmp 40) = .tuple #[.agg (Af NS).toArray,.agg #[.int .u64 (OP:Int),.int .u32 (PT:Int)]]:=hd 6 40 rfl (by kernel_rfl);clear hs hd hg;go_simp;exact X1
      ·refine A7 (o:=⟨some 41,_,_,_,_,_⟩) rfl (fun r V hc hf hg hs hb hd=>?_);have h7:r (.tmp 33) = .tuple #[.agg (Af NS).toArray,.agg #[.int .u64 (OP:Int),.int .u32 (PT:Int)]]:=hd 7 33 rfl (by kernel_rfl);clear hs hd hg;go_simp;exact X1
      ·refine A7 (o:=⟨some 42,_,_,_,_,_⟩) rfl (fun r V hc hf hg hs hb hd=>?_);have h7:r (.tmp 33) = .tuple #[.agg (Af NS).toArray,.agg #[.int .u64 (OP:Int),.int .u32 (PT:Int)]]:=hd 7 33 rfl (by kernel_rfl);clear hs hd hg;go_simp;exact X1
      ·refine A7 (o:=⟨some 12,_,_,_,_,_⟩) rfl (fun r V hc hf hg hs hb hd=>?_);clear hs hd hg;have hs:=hb.size;go_simp;rw[Bz];exact⟨Ac V _,⟨_,rfl,hs,Al V _ (VU _ _)⟩⟩
      ·refine A7 (o:=⟨some 13,_,_,_,_,_⟩) rfl (fun r V hc hf hg hs hb hd=>?_);clear hs hd hg;have hs:=hb.size;go_simp;exact⟨Ac V _,⟨_,rfl,hs,Al V _ (VU _ _)⟩⟩
     ·intro a V hb hx;have h0:a.eval (.tmp 34) = .agg #[.slice L.se.a n1 L.se.c,.slice L.po.a n2 L.po.c,.slice L.sg.a n3 L.sg.c,.slice L.rt.a n4 L.rt.c]:=hx 0 34 rfl rfl;have h1:a.eval (.tmp 35) = .agg (Af S).toArray:=hx 1 35 rfl rfl;have h2:a.eval (.tmp 36) = .slice (some ⟨rb,ro,none⟩) n rc:=hx 2 36 rfl rfl;have h3:a.eval (.tmp 37) = .int .i64 (i:Int):=hx 3 37 rfl rfl;have h4:a.eval (.tmp 38) = .pointer (some ⟨rb,ro+i*4,none⟩):=hx 4 38 rfl rfl;have h5:a.eval (.tmp 39) = .agg #[.int .u64 (x.oc:Int),.int .u32 (x.no:Int),.int .u32 (x.re:Int),.slice x.a x.len x.cap]:=hx 5 39 rfl rfl;have h6:a.eval (.tmp 40) = .tuple #[.agg (Af NS).toArray,.agg #[.int .u64 (OP:Int),.int .u32 (PT:Int)]]:=hx 6 40 rfl rfl;have h7:a.eval (.tmp 33) = .tuple #[.agg (Af NS).toArray,.agg #[.int .u64 (OP:Int),.int .u32 (PT:Int)]]:=hx 7 33 rfl rfl;have h8:a.eval (.tmp 41) = .agg (Af NS).toArray:=hx 8 41 rfl rfl;have h9:a.eval (.tmp 42) = .agg #[.int .u64 (OP:Int),.int .u32 (PT:Int)]:=hx 9 42 rfl rfl;have h10:(fun v V=>∃ g,v = .pointer (some ⟨g,0,none⟩)∧wr.heap.size≤g∧V.heap[g]?=some (.cells (Af zS).toArray 65)) (a.eval (.tmp 12)) V:=hx 10 12 rfl rfl;obtain⟨v12,e12⟩:=WY (a.eval (.tmp 12));rw[e12] at h10;have h11:(fun v V=>∃ g,v = .pointer (some ⟨g,0,none⟩)∧wr.heap.size≤g∧V.heap[g]?=some (.cells #[.int .u64 0,.int .u32 0] 44)) (a.eval (.tmp 13)) V:=hx 11 13 rfl rfl;obtain⟨v13,e13⟩:=WY (a.eval (.tmp 13));rw[e13] at h11;unfold AD;simp only[Wi,Wj,h0,h1,h2,h3,h4,h5,h6,h7,h8,h9,e12,e13,Act.put,VW,VX,VV];clear h0 h1 h2 h3 h4 h5 h6 h7 h8 h9 e12 e13 hx;obtain⟨g9,k9,hg9,q9⟩:=h10;obtain⟨gx,kx,hgx,qx⟩:=h11;subst k9;subst kx;have hne:g9≠gx:=Jl q9 qx (by decide);obtain⟨hst,hq9,ho9⟩:=AH (s':=NS) q9;have HV9:Hid (Below wr.heap.size wr (V.setCells g9 0 (Af NS))):=hid (Ai.below hb hg9 hb.size ho9);have HX9:=hid (Ai.keep ho9 (fun e=>hne e.symm) qx);have HT9:=hid hq9;have HGX:=hid (And.intro hg9 (And.intro hgx hne));refine wpAny_ready (rs:=[12]) (by kernel_rfl) (by simp) (AllReady.cons (o:=⟨none,_,_,_,_,_⟩) rfl (fun K hK=>?_) AllReady.nil);refine Gk 65 _ _ rfl _ _ rfl rfl _ hst ?_;refine Bc ?_;intro VA hVA;rw[← hVA] at HV9 HX9 HT9;refine hK _ _ ?_;clear hK K hst hq9 ho9 hVA hne hg9 hgx q9 qx hb;refine wpAny_ready (rs:=[13]) (by kernel_rfl) (by simp) (AllReady.cons (o:=⟨none,_,_,_,_,_⟩) rfl (fun K hK=>?_) AllReady.nil);have c0:=A4 HX9.o 0 _ rfl;have c1:=A4 HX9.o 1 _ rfl;have f0:=Aq HX9.o 0;have f1:=Aq HX9.o 1;have hl:=Aj HX9.o;go_simp;clear c0 c1 f0 f1 hl;refine Bc ?_;intro VB hVB;have ho:Ai gx VA VB:=(by rw[hVB];exact((Ai.refl gx VA).setCell rfl _).setCell rfl _);have HXB:Hid (VB.heap[gx]?=some (.cells #[.int .u64 (OP:Int),.int .u32 (PT:Int)] 44)):=hid (by rw[hVB];exact AG (AG HX9.o 0 _) 1 _);have HTB9:=hid (Ai.keep ho HGX.o.2.2 HT9.o);have HVB:Hid (Below wr.heap.size wr VB):=hid (Ai.below HV9.o HGX.o.2.1 HV9.o.size ho);refine hK _ _ ?_;clear hK K hVB ho HX9 HT9 HV9;refine wpAny_done (by kernel_rfl) ?_ _;have HBQ:Hid (Below W.heap.size W VB):=hid (A6 HB.o HVB.o);have HYB:Hid (Below w.heap.size w VB):=hid (A6 HB0.o HBQ.o);have H8B:=hid (A5 HBQ.o HQ8.o);have HGSB:=hid (A5 HVB.o HGS.o);clear KST;have d1:=HD.o.1;have d2:=HD.o.2;obtain⟨t,ht⟩:=WY y.st;have HYT:=hid ht;have hzy:=HZY.o;rw[ht] at hzy;have HZY:=hid hzy;clear hzy ht;cases t with
      | true=>
        have y0:=VY HYB.o HZY.o.1;go_upto_region 9 with fail
        go_quiet (fail);obtain⟨w7,h7⟩:=X0 (VB.drewN nq);have HV7:Hid (Below VB.heap.size VB w7):=hid (by rw[h7];exact below_drewN (VU _ _) nq);rw[← h7];clear h7 y0 d1 d2;have HSN:Hid (DC T X Y b (i+1)=some NS):=hid (by rw[L9 HCH.o HXI.o HYI.o HBT.o HNSE.o HOPE.o HPTE.o,HYT.o];rfl);have HLD:=hid (Au (A5 HV7.o HTB9.o));obtain⟨hst,hq9,ho9⟩:=AH (s':=NS) (A5 HV7.o (A5 HVB.o HGS.o));have HST:=hid hst;have HQ9:=hid hq9;have HOZ:Hid (Ai gs w7 (w7.setCells gs 0 (Af NS))):=hid ho9;obtain⟨VZ,hVZ⟩:∃ V',V'=w7.setCells gs 0 (Af NS):=⟨_,rfl⟩;rw[← hVZ] at HST HQ9 HOZ;clear hst hq9 ho9 hVZ;have HBZ:Hid (Below W.heap.size W VZ):=hid (by
         have h:=A6 HB.o (A6 HVB.o HV7.o);exact Ai.below h HGS1.o h.size HOZ.o)
        go_wp2_with (first
         | ((with_reducible refine Ah (op:=⟨some 59,_,_,_,_,_⟩) rfl 65 _ rfl _ _ ?_ HLD.o ?_);(· rfl))
         | ((with_reducible refine Ag (op:=⟨none,.store 65 _ _,_,_,_,_⟩) rfl 65 _ _ rfl _ _ ?_ ?_ _ HST.o ?_);(· rfl);(· rfl)))
        (try simp only[Act.put])
        go_roundg (n - (i+1))
        case rel=>exact⟨i+1,NS,AA HI.o HLT.o,by go_num,HSN.o,HQ9.o,HNO.o,HBZ.o⟩
        case measure=>exact Az HI.o HLT.o
      | false=>
        obtain⟨q,hq⟩:=WY (((OP:Int) ==(y.p:Int) && (PT:Int) ==(y.q:Int)));have hneq:=fun w=>(RK OP y.p PT y.q w).trans (by rw[hq])
        have HQQ:Hid ((OP == y.p && PT == y.q)=q):=hid (by
         rw[← hq,Ww];simp only[Wl,WH];omega)
        clear hq;go_upto_region 9 with fail
        cases q with
        | true=>
          refine Ad (by kernel_rfl) ?_ ?_
          ·kernel_rfl
          repeat first
           | go_big_quiet_skip
           | (go_big_quiet_want;go_big_quiet_op;go_big_quiet_on)
           | (with_reducible apply wpQuiet_step
              intro K hK;go_simp;first
               | (refine hK _ ?_;clear hK K)
               | (apply Exists.intro
                  refine⟨fun w' hw'=>?_,hK _ ?_⟩
                  ·
                   (first
                    | (have y0:=VY (A6 HYB.o hw') HZY.o.1
                       go_simp;first | done | with_reducible exact rfl | with_reducible exact⟨rfl,rfl⟩)
                    | (have o0:=A4 (A5 hw' HXB.o) 0 _ rfl
                       have o1:=A4 (A5 hw' HXB.o) 1 _ rfl;go_simp;first | done | with_reducible exact rfl | with_reducible exact⟨rfl,rfl⟩)
                    | (have y1:=VY (A6 HYB.o hw') HZY.o.2.1
                       have y2:=VY (A6 HYB.o hw') HZY.o.2.2;go_simp;first | done | with_reducible exact rfl | with_reducible exact⟨rfl,rfl⟩))
                  clear hK K))
          refine wpQuiet_nil ?_;intro w7 hw7;have HV7:=hid hw7;clear hw7;clear hneq d1 d2;have HSN:Hid (DC T X Y b (i+1)=some NS):=hid (by rw[L9 HCH.o HXI.o HYI.o HBT.o HNSE.o HOPE.o HPTE.o,HYT.o,HQQ.o];rfl);have HLD:=hid (Au (A5 HV7.o HTB9.o));obtain⟨hst,hq9,ho9⟩:=AH (s':=NS) (A5 HV7.o (A5 HVB.o HGS.o));have HST:=hid hst;have HQ9:=hid hq9;have HOZ:Hid (Ai gs w7 (w7.setCells gs 0 (Af NS))):=hid ho9;obtain⟨VZ,hVZ⟩:∃ V',V'=w7.setCells gs 0 (Af NS):=⟨_,rfl⟩;rw[← hVZ] at HST HQ9 HOZ;clear hst hq9 ho9 hVZ;have HBZ:Hid (Below W.heap.size W VZ):=hid (by
           have h:=A6 HB.o (A6 HVB.o HV7.o);exact Ai.below h HGS1.o h.size HOZ.o)
          go_wp2_with (first
           | ((with_reducible refine Ah (op:=⟨some 59,_,_,_,_,_⟩) rfl 65 _ rfl _ _ ?_ HLD.o ?_);(· rfl))
           | ((with_reducible refine Ag (op:=⟨none,.store 65 _ _,_,_,_,_⟩) rfl 65 _ _ rfl _ _ ?_ ?_ _ HST.o ?_);(· rfl);(· rfl)))
          (try simp only[Act.put])
          go_roundg (n - (i+1))
          case rel=>exact⟨i+1,NS,AA HI.o HLT.o,by go_num,HSN.o,HQ9.o,HNO.o,HBZ.o⟩
          case measure=>exact Az HI.o HLT.o
        | false=>
          refine Ad (by kernel_rfl) ?_ ?_
          ·kernel_rfl
          repeat first
           | go_big_quiet_skip
           | (go_big_quiet_want;go_big_quiet_op;go_big_quiet_on)
           | (with_reducible apply wpQuiet_step
              intro K hK;go_simp;first
               | (refine hK _ ?_;clear hK K)
               | (apply Exists.intro
                  refine⟨fun w' hw'=>?_,hK _ ?_⟩
                  ·
                   (first
                    | (have y0:=VY (A6 HYB.o hw') HZY.o.1
                       go_simp;first | done | with_reducible exact rfl | with_reducible exact⟨rfl,rfl⟩)
                    | (have o0:=A4 (A5 hw' HXB.o) 0 _ rfl
                       have o1:=A4 (A5 hw' HXB.o) 1 _ rfl;go_simp;first | done | with_reducible exact rfl | with_reducible exact⟨rfl,rfl⟩)
                    | (have y1:=VY (A6 HYB.o hw') HZY.o.2.1
                       have y2:=VY (A6 HYB.o hw') HZY.o.2.2;go_simp;first | done | with_reducible exact rfl | with_reducible exact⟨rfl,rfl⟩))
                  clear hK K))
          refine wpQuiet_nil ?_;intro w7 hw7;have HB7:=hid (A6 HYB.o hw7);have HV7:=hid hw7;clear hw7;clear hneq d1 d2;have HG7:=hid (A5 HV7.o HGSB.o);have H87:=hid (A5 HV7.o H8B.o);have hR:R=none:=(by rw[← HR.o];exact LV (by rw[L9 HCH.o HXI.o HYI.o HBT.o HNSE.o HOPE.o HPTE.o,HYT.o,HQQ.o];rfl) HLT.o);subst hR;have HLDr:=hid (Au HG7.o);obtain⟨hst,hq9,ho9⟩:=AH (s':=S) H87.o;have HST:=hid hst;have HQ9:=hid hq9;have HBE:Hid (Below w.heap.size w (w7.setCells g8 0 (Af S))):=hid (Ai.below HB7.o HG8.o HB7.o.size ho9);clear hst hq9 ho9;go_wp2_with (first
           | ((with_reducible refine Ah (op:=⟨some 58,_,_,_,_,_⟩) rfl 65 _ rfl _ _ ?_ HLDr.o ?_);(· rfl))
           | ((with_reducible refine Ag (op:=⟨none,.store 65 _ _,_,_,_,_⟩) rfl 65 _ _ rfl _ _ ?_ ?_ _ HST.o ?_);(· rfl);(· rfl)))
          (try simp only[Exit.inBlock,Exit.then])
          refine bodyPost_ret (Dh (g:=g8) rfl _ _ 65 (Af S).toArray (0,0) _ (.bool false) rfl HQ9.o Tryz.underlying65 rfl (by rw[Wn,AS];exact Bf) rfl) rfl ?_;exact⟨S,rfl,fun _ h=>(nomatch h),HSO.o,HBE.o⟩
  ·have d2:¬ ((i:Int)<(n:Int)):=(by omega);obtain rfl:i=n:=(by have:=HI.o;omega);have hR:R=some S:=(by rw[← HR.o];exact HCH.o);have H8r:=hid (A5 HB.o HQ8.o);have HBr:Hid (Below w.heap.size w wr):=hid (A6 HB0.o HB.o);subst hR;clear hlt;have HLDr:=hid (Au HGS.o);obtain⟨hst,hq9,ho9⟩:=AH (s':=S) H8r.o;have HST:=hid hst;have HQ9:=hid hq9;have HBE:Hid (Below w.heap.size w (wr.setCells g8 0 (Af S))):=hid (Ai.below HBr.o HG8.o HBr.o.size ho9);clear hst hq9 ho9;go_wp2_with (first
    | ((with_reducible refine Ah (op:=⟨some 60,_,_,_,_,_⟩) rfl 65 _ rfl _ _ ?_ HLDr.o ?_);(· rfl))
    | ((with_reducible refine Ag (op:=⟨none,.store 65 _ _,_,_,_,_⟩) rfl 65 _ _ rfl _ _ ?_ ?_ _ HST.o ?_);(· rfl);(· rfl)))
   (try simp only[Exit.inBlock,Exit.then])
   refine bodyPost_ret (Dh (g:=g8) rfl _ _ 65 (Af S).toArray (0,0) _ (.bool true) rfl HQ9.o Tryz.underlying65 rfl (by rw[Wn,AS];exact Bf) rfl) rfl ?_;exact⟨S,rfl,by first | rfl | exact(fun _ h=>(Option.some.inj h).symm),HSO.o,HBE.o⟩
end Go.Proofs.YtpohoannggdbjaaGreat
