/- A region that draws its order, as XRel's, where the last operations do not wait for one that is pure (u): it is taken where all others have come up. -/
import Derived.Test.YtpohoannggdbjaaGreatMA
import Derived.Orders
set_option maxRecDepth 100000
set_option maxHeartbeats 200000000
namespace Go.Proofs.YtpohoannggdbjaaGreat
open Lib (hid)
open Go.RowKit
section
section
variable {P:Program} {ops:Array Oper} {Q:Exit→Act→World→Prop} {T:List Nat} {a0:Act} {w0:World} {F:Nat→Value→World→Prop}
theorem Py(u:Nat)(hB:Lv ops T=true){k:Nat}(hK:Jf ops T k u=true)(hsz:(List.range ops.size).all (fun i=>T.contains i || ((BM ops i).map (fun d=>decide (d<a0.tmps.size))).getD false)=true)
 (hF:∀ i v w w',F i v w→Below w.heap.size w w'→F i v w') (H:∀ i,i<ops.size→T.contains i=false→Iy P ops T a0 w0 F i)
 (hend:∀(fuel:Nat) (listed:Array Bool) (a:Act) (w:World),listed.toList.count true+fuel=ops.size→Dr ops T a0 w0 F listed a w→(∀ i,i<ops.size→T.contains i=false→i≠u→listed.getD i false=true)→wpAny P .any ops Q fuel listed a w) :
 ∀(fuel:Nat) (listed:Array Bool) (a:Act) (w:World),listed.toList.count true+fuel=ops.size→Dr ops T a0 w0 F listed a w→wpAny P .any ops Q fuel listed a w:=by
 intro fuel
 induction fuel with
 | zero=>
   intro listed a w hc h;exact hend 0 listed a w hc h (fun i hi _ _=>by
    have h1:listed.toList.count true=listed.toList.length:=(by rw[Array.length_toList,h.size];omega);have h2:=List.count_eq_length.1 h1;have hlt:i<listed.size:=(by rw[h.size];exact hi);have h3:=h2 listed[i] (by simp);rw[Array.getD_eq_getD_getElem?,Array.getElem?_eq_getElem hlt,← h3];rfl)
 | succ fuel ih=>
   intro listed a w hc h;by_cases hall:∀ i,i<ops.size→T.contains i=false→i≠u→listed.getD i false=true
   ·exact hend (fuel+1) listed a w hc h hall
   refine⟨fun hr=>?_,fun i hi=>?_⟩
   ·exfalso;apply hall
    suffices key:∀ i,i<ops.size→T.contains i=false→listed.getD i false=true from fun i hi hT _=>key i hi hT
    intro i
    induction i using Nat.strongRecOn with
    | ind i ihi=>
      intro hi hT;cases hg:listed.getD i false with
      | true=>rfl
      | false=>
        have hin:i∈Region.ready .any ops listed:=by
         refine mem_ready.2 ⟨?_,ops[i],Array.getElem?_eq_getElem hi,fun e he hb=>?_⟩
         ·have hlt:i<listed.size:=(by rw[h.size];exact hi);rw[Array.getD_eq_getD_getElem?,Array.getElem?_eq_getElem hlt] at hg ⊢;exact hg
         ·have hd:DK ops i e.on=true:=(D7 (Array.getElem?_eq_getElem hi)).2 ⟨e,he,hb,rfl⟩;have hu:=Wm.1 hB i (List.mem_range.2 hi);rw[hT,Bool.false_or,Wl] at hu;by_cases hlt:e.on<ops.size
          ·have:=Wm.1 hu.2 e.on (List.mem_range.2 hlt);rw[hd] at this;simp at this;exact ihi e.on this.1.1 hlt (by simpa using this.1.2)
          ·have hx:e.on<i:=by
            have h5:=hu.1;rw[Wl,Array.getElem?_eq_getElem hi] at h5;have h6:=h5.2;simp only[Option.map_some,Option.getD_some,Wl] at h6;have h7:=(Array.all_eq_true_iff_forall_mem.1 h6.2) e he;rw[hb] at h7;simpa using h7
           omega
        rw[hr] at hin;cases hin
   ·obtain⟨hun,o,ho,hdeps⟩:=mem_ready.1 hi;have hlt:i<ops.size:=(Array.getElem?_eq_some_iff.1 ho).1;have hdep:∀ j,DK ops i j=true→listed.getD j false=true:=fun j hj=>by
     obtain⟨e,he,hb,rfl⟩:=(D7 ho).1 hj;exact hdeps e he hb
    cases hT:T.contains i with
    | true=>
      exfalso;apply hall;intro m hm hmT hmu;have h1:=Wm.1 (Wm.1 hK i (List.contains_iff_mem.1 hT)) m (List.mem_range.2 hm);have hne:(m == u)=false:=(by simpa using hmu);rw[hmT,hne,Bool.false_or,Bool.false_or] at h1;exact Fj h.closed k _ (fun j hj=>hdep j (List.mem_filter.1 hj).2) m (List.contains_iff_mem.1 h1)
    | false=>
      have hu:=Wm.1 hB i (List.mem_range.2 hlt);rw[hT,Bool.false_or,Wl,Wl,ho] at hu;have hgu:o.guard=none:=(by have h8:=hu.1.2;simp only[Option.map_some,Option.getD_some,Wl] at h8;simpa using h8.1);obtain⟨d,hd⟩:=Option.isSome_iff_exists.1 hu.1.1;have hod:o.dst=some d:=(by unfold BM at hd;rw[ho] at hd;exact hd);have hob:=H i hlt hT o ho a.eval w (fun _=>rfl) (fun _=>rfl) (fun _=>rfl) h.frame h.below (fun j s hs hj=>h.facts j s hs (hdep j hj));have hcnt:(listed.setIfInBounds i true).toList.count true+fuel=ops.size:=by
       rw[Array.toList_setIfInBounds,List.count_set (by rw[Array.length_toList,h.size];exact hlt)];have hx:listed.toList[i]'(by rw[Array.length_toList,h.size];exact hlt)=false:=by
        have hl:i<listed.size:=(by rw[h.size];exact hlt);rw[Array.getD_eq_getD_getElem?,Array.getElem?_eq_getElem hl] at hun;simpa using hun
       rw[hx,if_neg (by decide),if_pos (by decide)];omega
      unfold wpOp;rw[ho];dsimp only;rw[if_pos (by simp[Region.wanted,hgu])];left;unfold Oper.wp;have hnext:∀ v w',Below w.heap.size w w'→F i v w'→wpAny P .any ops Q fuel (listed.setIfInBounds i true) (a.put o.dst v) w':=fun v w' hb hv=>by
       rw[hod];exact ih _ _ _ hcnt (h.step hB hsz hF hlt hT hd hdep hb hv)
      generalize (execOp a.eval o).run P w=res at *;cases res with
      | ok n w'=>
        cases n<;>simp only[CF] at hob<;>simp only[Oper.upon]
        case value v=>exact hnext v w' hob.1 hob.2
        case enter f args=>
         refine Calls.mono hob fun e w'' he=>?_
         obtain⟨v,rfl,hb,hv⟩:=he;exact hnext v w'' hb hv
      | halt x w'=>simp only[CF] at hob
theorem Il{listed LI:Array Bool}(h1:listed.size=LI.size)(h:∀ i,i<LI.size→listed.getD i false=LI.getD i false):listed=LI:=by
 refine Array.ext h1 fun i h2 h3=>?_
 have:=h i h3;rw[Array.getD_eq_getD_getElem?,Array.getD_eq_getD_getElem?,Array.getElem?_eq_getElem h2,Array.getElem?_eq_getElem h3] at this;exact this
theorem EP{id:Nat}(hm:P.follows .mixedOrders=true)(T:List Nat)(k:Nat)(L:List Nat)(D:List Nat)(LI LJ:Array Bool)(n':Nat)(G:List (Value→World→Prop))(u d:Nat)(v:Value){ou:Oper}
 (hu:ops[u]?=some ou) (hud:ou.dst=some d) (hdu:BM ops u=some d) (huT:T.contains u=false) (hs:Region.noSelect ops=true) (hf:Region.free .any ops LJ u=true) (hr:(Region.ready .any ops LJ).contains u=true)
 (hQ:∀ c a w,Q (.panic c) (a.put ou.dst v) w→Q (.panic c) a w) (hvu:∀ w,G.getD u (fun _ _=>True) v w)
 (hy:∀ a w,(∀ i s,BM ops i=some s→LJ.getD i false=true→G.getD i (fun _ _=>True) (a.eval (.tmp s)) w)→Yields P ops ou v a)
 (hB:Lv ops T=true) (hK:Jf ops T k u=true) (hsz:(List.range ops.size).all (fun i=>T.contains i || ((BM ops i).map (fun d=>decide (d<a0.tmps.size))).getD false)=true)
 (hL:(List.range ops.size).all (fun i=>T.contains i || L.contains i)=true) (hD:(List.range a0.tmps.size).all (fun s=>D.contains s || NH ops T s)=true)
 (hL1:LI.size=ops.size) (hL2:((List.range ops.size).all fun i=>LI.getD i false == !T.contains i)=true) (hL3:LI.toList.count true+n'=ops.size)
 (hJ1:LJ.size=ops.size) (hJ2:((List.range ops.size).all fun i=>LJ.getD i false ==(!T.contains i && i != u))=true) (hJ3:LJ.toList.count true+(n'+1)=ops.size) (hJ4:LJ.setIfInBounds u true=LI) (hJ5:(List.range ops.size).all (fun j=>!DK ops u j || LJ.getD j false)=true)
 (hG:EJ G) (H:Hg P ops T a0 w0 (fun i=>G.getD i (fun _ _=>True)) L)
 (hend:∀ a w,Below w0.heap.size w0 w→(∀ i s,BM ops i=some s→LI.getD i false=true→G.getD i (fun _ _=>True) (a.eval (.tmp s)) w)→wpAny P .any ops Q n' LI (AD a D a0) w) :
 (Code.region id ops true).wp P Q a0 w0:=by
 have hF:∀ i v w w',G.getD i (fun _ _=>True) v w→Below w.heap.size w w'→G.getD i (fun _ _=>True) v w':=fun i v w w' h hb=>FF hG i v w w' h hb
 have hult:u<ops.size:=(Array.getElem?_eq_some_iff.1 hu).1;have fin:∀ a w,Dr ops T a0 w0 (fun i=>G.getD i (fun _ _=>True)) LI a w→wpAny P .any ops Q n' LI a w:=fun a w h=>by
  have he:a=AD a D a0:=by
   obtain⟨f1,f2⟩:=ER a D a0;refine IR (h.tmps.trans f1.symm) (h.defers.trans f2.symm) fun s hs=>?_
   have hs':s<a0.tmps.size:=(by rw[← h.tmps];exact hs);rw[EQ a D a0 hs'];split
   ·rfl
   ·rename_i hn
    have:=Wm.1 hD s (List.mem_range.2 hs');rw[Bool.or_eq_true] at this;exact h.frame s (this.resolve_left hn)
  have h2:=hend a w h.below h.facts;rw[← he] at h2;exact h2
 refine wp_region_any hm (Py (w0:=w0) u hB hK hsz hF (fun i hi hT=>?_) (fun fuel listed a w hc h hall=>?_) ops.size (Array.replicate ops.size false) a0 _ ?_ (Iz w0 _))
 ·have:=Wm.1 hL i (List.mem_range.2 hi);rw[hT,Bool.false_or] at this;exact EV H i (List.contains_iff_mem.1 this)
 ·cases hlu:listed.getD u false with
  | true=>
    have he:listed=LI:=Il (h.size.trans hL1.symm) (fun i hi=>by
     have hi:i<ops.size:=(by rw[← hL1];exact hi);have h3:=Wm.1 hL2 i (List.mem_range.2 hi);rw[WH] at h3;rw[h3];cases hT:T.contains i with
     | true=>
       cases hg:listed.getD i false with
       | false=>rfl
       | true=>rw[h.none i hg] at hT;cases hT
     | false=>
       by_cases hiu:i=u
       ·rw[hiu];exact hlu
       ·exact hall i hi hT hiu)
    subst he;have:fuel=n':=(by omega);subst this;exact fin a w h
  | false=>
    have he:listed=LJ:=Il (h.size.trans hJ1.symm) (fun i hi=>by
     have hi:i<ops.size:=(by rw[← hJ1];exact hi);have h3:=Wm.1 hJ2 i (List.mem_range.2 hi);rw[WH] at h3;rw[h3];by_cases hiu:i=u
     ·rw[hiu,hlu];simp
     have hne:(i != u)=true:=(by simpa using hiu);rw[hne];cases hT:T.contains i with
     | true=>
       cases hg:listed.getD i false with
       | false=>rfl
       | true=>rw[h.none i hg] at hT;cases hT
     | false=>exact hall i hi hT hiu)
    subst he;have:fuel=n'+1:=(by omega);subst this;have hdep:∀ j,DK ops u j=true→listed.getD j false=true:=fun j hj=>by
     by_cases hjl:j<ops.size
     ·have:=Wm.1 hJ5 j (List.mem_range.2 hjl);rw[hj] at this;simpa using this
     ·exfalso;obtain⟨e,he,hb,rfl⟩:=(D7 hu).1 hj;have hB1:=Wm.1 hB u (List.mem_range.2 hult);rw[huT,Bool.false_or,Wl,Wl,hu] at hB1;have h8:=hB1.1.2;simp only[Option.map_some,Option.getD_some,Wl] at h8;have h9:=(Array.all_eq_true_iff_forall_mem.1 h8.2) e he;have h10:e.on<u:=(by rw[hb] at h9;simpa using h9);omega
    have h1:=Dr.step hB hsz hF h hult huT hdu hdep (VU _ w) (hvu w);rw[hJ4] at h1;refine wpAny_take hu hs hf hr hQ (hy a w h.facts) ?_;rw[hJ4,hud];exact fin _ _ h1
 ·rw[Array.toList_replicate,List.count_replicate,if_neg (by decide),Wq]
end
end
end Go.Proofs.YtpohoannggdbjaaGreat
