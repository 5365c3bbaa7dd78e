/- Layer 28: ranges over maps of states. -/
import Derived.Test.YtpohoannggdbjaaGreatMoA
import Derived.Maps.RangeRun
set_option maxRecDepth 100000
set_option maxHeartbeats 200000000
namespace Go.Proofs.YtpohoannggdbjaaGreat
open Lib (hid)
open Go.RowKit
open Go.ChangeMaps (setBlock)
def Fh(w:World)(it m:Nat)(K L:List St):Prop:=∃ es clock since seen c0,w.heap[it]?=some (.mapIter (some m) since seen c0)∧w.heap[m]?=some (.map es clock)∧es.toList.map (fun e=>(e.key,e.val))=K.map (fun s=>(BC s,Value.bool true))∧(es.toList.map (·.born)).Nodup∧(∀ x∈es.toList,x.born<since)∧since≤c0∧since≤clock∧(leftOf es seen).toList.map (·.key)=L.map BC
theorem Fh.keep{w w':World}{it m:Nat}{K L:List St}(h:Fh w it m K L)(h1:w'.heap[it]?=w.heap[it]?)(h2:w'.heap[m]?=w.heap[m]?):Fh w' it m K L:=by
 obtain⟨es,clock,since,seen,c0,a1,a2,a3⟩:=h;exact⟨es,clock,since,seen,c0,by rw[h1];exact a1,by rw[h2];exact a2,a3⟩
theorem Fh.lt{w:World}{it m:Nat}{K L:List St}(h:Fh w it m K L):it<w.heap.size∧m<w.heap.size∧it≠m:=by
 obtain⟨es,clock,since,seen,c0,a1,a2,_⟩:=h;refine⟨Aj a1,Aj a2,?_⟩;rintro rfl;rw[a1] at a2;cases a2
theorem Ny(es:Array MapEntry):(leftOf es #[]).toList=es.toList:=by
 unfold leftOf;rw[Array.toList_filter];exact List.filter_eq_self.2 (fun x _=>by simp)
theorem Nz(es:Array MapEntry)(seen:Array Nat)(b:Nat):(leftOf es (seen.push b)).toList=(leftOf es seen).toList.filter (fun e=>e.born != b):=by
 unfold leftOf;rw[Array.toList_filter,Array.toList_filter,List.filter_filter]
 congr 1
 funext e
 rw[Ww];simp only[Bool.not_eq_true',Wl,WJ,ne_eq,← Bool.not_eq_true,Array.contains_iff_mem,Array.mem_push,not_or];exact And.comm
theorem FB{w:World}{m:Nat}{K:List St}(h:CH w m K) :
 ∃ o,(Instr.range 78 (.map (some m))).run Tryz.prog w = .ok (.pointer (some ⟨w.heap.size,0,none⟩)) (w.alloc o)∧Fh (w.alloc o) w.heap.size m K K:=by
 obtain⟨es,clock,h1,h2,h3,h4,h5⟩:=h;refine⟨.mapIter (some m) clock #[] clock,?_,es,clock,clock,#[],clock,Al w _ (VU _ _),A5 (Ac w _) h1,h2,h4,h5,Wc _,Wc _,?_⟩
 ·exact run_range_map w 78 65 4 m es clock Tryz.underlying78 h1
 ·rw[Ny];have h6:=congrArg (List.map Prod.fst) h2;rw[List.map_map,List.map_map] at h6;exact h6
theorem Fn:∀ {l:List MapEntry} {j:Nat} {e:MapEntry},l[j]?=some e→(l.map (·.born)).Nodup→l.filter (fun x=>x.born != e.born)=l.eraseIdx j
 | [],j,e,h,_=>by simp at h
 | a :: l,0,e,h,hn=>by
   rw[List.map_cons,List.nodup_cons] at hn;have he:a=e:=(by simpa using h);subst he;rw[List.filter_cons,if_neg (by simp),List.eraseIdx_cons_zero];refine List.filter_eq_self.2 (fun x hx=>?_);simp only[WJ,ne_eq];intro h;exact hn.1 (List.mem_map.2 ⟨x,hx,h⟩)
 | a :: l,j+1,e,h,hn=>by
   rw[List.map_cons,List.nodup_cons] at hn;have h:l[j]?=some e:=(by simpa using h);have hne:a.born≠e.born:=fun hh=>hn.1 (List.mem_map.2 ⟨e,Wf h,hh.symm⟩)
   rw[List.filter_cons,if_pos (by simpa using hne),List.eraseIdx_cons_succ,Fn h hn.2]
theorem FR{α β:Type}(f:α→β):∀(l:List α) (j:Nat),(l.eraseIdx j).map f=(l.map f).eraseIdx j
 | [],j=>by simp
 | a :: l,0=>rfl
 | a :: l,j+1=>by rw[List.eraseIdx_cons_succ,List.map_cons,List.map_cons,List.eraseIdx_cons_succ,FR f l j]
theorem GJ{α:Type}:∀ {l:List α} {j:Nat} {s:α},l[j]?=some s→l.Perm (s :: l.eraseIdx j)
 | [],j,s,h=>by simp at h
 | a :: l,0,s,h=>by
   have h:a=s:=(by simpa using h);rw[h];exact List.Perm.refl _
 | a :: l,j+1,s,h=>by
   have h:l[j]?=some s:=(by simpa using h);exact((GJ h).cons a).trans (List.Perm.swap s a _)
theorem Gg{w:World}{it m:Nat}{K L:List St}(ty:TypeId)(h:Fh w it m K L) :
 (L=[]∧(Instr.next (.pointer (some ⟨it,0,none⟩)) false ty).run Tryz.prog w = .ok (.tuple #[.bool false]) w)∨
 ∃ s L' w',L.Perm (s :: L')∧(Instr.next (.pointer (some ⟨it,0,none⟩)) false ty).run Tryz.prog w = .ok (.tuple #[.bool true,BC s,.bool true]) w'∧Fh w' it m K L'∧Ai it w w'∧w'.heap.size=w.heap.size∧(Instr.entry (.pointer (some ⟨it,0,none⟩))).run Tryz.prog w' = .ok (.tuple #[BC s,.bool true]) w':=by
 have hlt:=h.lt;obtain⟨es,clock,since,seen,c0,a1,a2,a3,a4,a5,a6,a7,a8⟩:=h;rcases run_next_at (P:=Tryz.prog) w ty it m since c0 seen es clock a1 a2 a5 a6 with ⟨h0,hr⟩ | ⟨e,he,w1,hw1,hr⟩
 ·refine .inl ⟨?_,hr⟩;have hl:(leftOf es seen).toList=[]:=by
   apply List.eq_nil_of_length_eq_zero;rw[Array.length_toList];exact h0
  rw[hl] at a8;cases L with
  | nil=>rfl
  | cons _ _=>simp at a8
 ·right;have hsub:(leftOf es seen).toList.Sublist es.toList:=(by unfold leftOf;rw[Array.toList_filter];exact List.filter_sublist);have hmem:e∈es.toList:=hsub.subset he;have hn:((leftOf es seen).toList.map (·.born)).Nodup:=(hsub.map _).nodup a4;obtain⟨j,hj⟩:=List.getElem?_of_mem he;have hkj:((leftOf es seen).toList.map (·.key))[j]?=some e.key:=(by rw[List.getElem?_map,hj];rfl);rw[a8,List.getElem?_map] at hkj;obtain⟨s,hsL,hsk⟩:∃ s,L[j]?=some s∧BC s=e.key:=by
   cases hl:L[j]? with
   | none=>rw[hl] at hkj;cases hkj
   | some s=>rw[hl] at hkj;exact⟨s,rfl,Option.some.inj hkj⟩
  have hev:e.val = .bool true:=by
   have h1:(e.key,e.val)∈es.toList.map (fun e=>(e.key,e.val)):=List.mem_map.2 ⟨e,hmem,rfl⟩;rw[a3] at h1;obtain⟨t,_,ht⟩:=List.mem_map.1 h1;injection ht with h2 h3
   exact h3.symm
  have hM:(leftOf es (seen.push e.born)).toList.map (·.key)=(L.eraseIdx j).map BC:=by
   rw[Nz,Fn hj hn,FR,a8,FR]
  have hP:L.Perm (s :: L.eraseIdx j):=GJ hsL;have hw1b:∀ k:Nat,w1.heap[k]?=w.heap[k]?:=fun k=>by rcases hw1 with rfl | rfl<;>rfl
  have hwsz:w1.heap.size=w.heap.size:=by rcases hw1 with rfl | rfl<;>rfl
  have b1:(setBlock w1 it (.mapIter (some m) since (seen.push e.born) clock)).heap[it]?=some (.mapIter (some m) since (seen.push e.born) clock):=by
   show(w1.heap.setIfInBounds it _)[it]?=_;rw[Array.getElem?_setIfInBounds_self_of_lt (by rw[hwsz];exact hlt.1)]
  have b2:(setBlock w1 it (.mapIter (some m) since (seen.push e.born) clock)).heap[m]?=some (.map es clock):=by
   show(w1.heap.setIfInBounds it _)[m]?=_;rw[Array.getElem?_setIfInBounds_ne hlt.2.2,hw1b];exact a2
  have hen:=run_entry_at (P:=Tryz.prog) _ it m since seen es clock e b1 b2 hmem a4;rw[← hsk,hev] at hr hen;refine⟨s,L.eraseIdx j,_,hP,hr,⟨es,clock,since,seen.push e.born,clock,b1,b2,a3,a4,a5,a7,a7,hM⟩,?_,?_,hen⟩
  ·refine⟨by rcases hw1 with rfl | rfl<;>rfl,by rcases hw1 with rfl | rfl<;>rfl,by rcases hw1 with rfl | rfl<;>rfl,?_,fun k _ hk=>?_⟩
   ·show w.heap.size≤(w1.heap.setIfInBounds it _).size;rw[Array.size_setIfInBounds,hwsz];exact Wc _
   ·show(w1.heap.setIfInBounds it _)[k]?=_;rw[Array.getElem?_setIfInBounds_ne (fun e=>hk e.symm),hw1b]
  ·show(w1.heap.setIfInBounds it _).size=_;rw[Array.size_setIfInBounds,hwsz]
end Go.Proofs.YtpohoannggdbjaaGreat
