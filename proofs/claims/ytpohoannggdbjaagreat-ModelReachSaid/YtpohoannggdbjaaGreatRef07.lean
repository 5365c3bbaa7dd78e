/- Ours: MoU; Ref07. -/
import Derived.Test.YtpohoannggdbjaaGreatMoN
import Derived.Test.YtpohoannggdbjaaGreatProg
import Derived.Test.YtpohoannggdbjaaGreatMA
set_option maxRecDepth 100000
set_option maxHeartbeats 200000000
namespace Go.Proofs.YtpohoannggdbjaaGreat
open Lib (hid)
open Go.RowKit
section
def DL(Z:List Nat)(i:Nat):Bool:=match Z[i]? with
 | some z=>!(z % 3 == 2)
 | none=>true
def H2(Z:List Nat)(i:Nat):Bool:=match Z[i]? with
 | some z=>z % 3 == 1
 | none=>false
theorem It{Z:List Nat}{i z:Nat}(h:Z[i]?=some z):DL Z i = !(z % 3 == 2):=by unfold DL;rw[h]
theorem Is{Z:List Nat}{i:Nat}(h:Z[i]?=none):DL Z i=true:=by unfold DL;rw[h]
theorem NL{Z:List Nat}{i z:Nat}(h:Z[i]?=some z):H2 Z i=(z % 3 == 1):=by unfold H2;rw[h]
theorem NK{Z:List Nat}{i:Nat}(h:Z[i]?=none):H2 Z i=false:=by unfold H2;rw[h]
def AF(X:List Iv)(Z:List Nat):Nat→List Iv
 | 0=>[]
 | i+1=>match X[i]? with
   | some x=>if DL Z i then AF X Z i ++ [x] else AF X Z i
   | none=>AF X Z i
theorem G3(X:List Iv)(Z:List Nat):AF X Z 0=[]:=rfl
theorem DZ{X:List Iv}{Z:List Nat}{i:Nat}{x:Iv}(hx:X[i]?=some x)(h:DL Z i=true):AF X Z (i+1)=AF X Z i ++ [x]:=by
 show(match X[i]? with
  | some x=>if DL Z i then AF X Z i ++ [x] else AF X Z i
  | none=>AF X Z i)=_
 rw[hx,h];rfl
theorem JG{X:List Iv}{Z:List Nat}{i:Nat}(h:DL Z i=false):AF X Z (i+1)=AF X Z i:=by
 show(match X[i]? with
  | some x=>if DL Z i then AF X Z i ++ [x] else AF X Z i
  | none=>AF X Z i)=_
 split
 ·rw[h];rfl
 ·rfl
theorem EH{X:List Iv}{Z:List Nat}:∀ i,∀ x∈AF X Z i,x∈X
 | 0,x,h=>by cases h
 | i+1,x,h=>by
   have h:x∈(match X[i]? with
    | some x=>if DL Z i then AF X Z i ++ [x] else AF X Z i
    | none=>AF X Z i):=h
   split at h
   ·next y hy=>
    split at h
    ·rcases WE.1 h with h | h
     ·exact EH i x h
     ·rw[Wy] at h;rw[h];exact Wf hy
    ·exact EH i x h
   ·exact EH i x h
theorem EG(X:List Iv)(Z:List Nat):∀ i,(AF X Z i).length≤i
 | 0=>Wc _
 | i+1=>by
   have ih:=EG X Z i;show(match X[i]? with
    | some x=>if DL Z i then AF X Z i ++ [x] else AF X Z i
    | none=>AF X Z i).length≤i+1
   split
   ·split
    ·rw[Wh];show _+1≤_;omega
    ·omega
   ·omega
theorem KV(X:List Iv)(Z:List Nat)(i:Nat):∀ d,∃ t,AF X Z (i+d)=AF X Z i ++ t
 | 0=>⟨[],(Wt _).symm⟩
 | d+1=>by
   obtain⟨t,ht⟩:=KV X Z i d;show∃ t,(match X[i+d]? with
    | some x=>if DL Z (i+d) then AF X Z (i+d) ++ [x] else AF X Z (i+d)
    | none=>AF X Z (i+d))=_
   split
   ·next y _=>
    split
    ·exact⟨t ++ [y],by rw[ht,Wx]⟩
    ·exact⟨t,ht⟩
   ·exact⟨t,ht⟩
theorem JF{X:List Iv}{Z:List Nat}{i n:Nat}{x:Iv}(hi:i<n)(hx:X[i]?=some x)(h:DL Z i=true):(AF X Z n)[(AF X Z i).length]?=some x:=by
 obtain⟨d,rfl⟩:∃ d,n=i+1+d:=⟨n - (i+1),by omega⟩;obtain⟨t,ht⟩:=KV X Z (i+1) d;rw[ht,DZ hx h,Wx,WT (Wc _),Nat.sub_self];rfl
def GZ(T:Tb)(X:List Iv)(m:Nat):Nat:=match X[m]? with
 | some x=>Bq T (BX T X (m+1)) x.oc x.no x.re
 | none=>0
def Jt(T:Tb)(X:List Iv)(m:Nat):Nat:=match X[m]? with
 | some _=>(BX T X (m+1)).pt
 | none=>0
theorem Js(T:Tb)(X:List Iv)(m:Nat):D8 T X m=[.int .u64 (GZ T X m:Int),.int .u32 (Jt T X m:Int)]:=by
 unfold D8 GZ Jt;cases X[m]?<;>rfl
def Dw(T:Tb)(X:List Iv)(Z:List Nat)(n i:Nat):Sh:=if DL Z i then ⟨H2 Z i,GZ T (AF X Z n) (AF X Z i).length,Jt T (AF X Z n) (AF X Z i).length⟩ else ⟨true,0,0⟩
theorem SV{T:Tb}{X:List Iv}{Z:List Nat}{n i:Nat}(h:DL Z i=false):Dw T X Z n i=⟨true,0,0⟩:=by unfold Dw;rw[h];rfl
theorem LH{T:Tb}{X:List Iv}{Z:List Nat}{n i:Nat}(h:DL Z i=true):Dw T X Z n i=⟨H2 Z i,GZ T (AF X Z n) (AF X Z i).length,Jt T (AF X Z n) (AF X Z i).length⟩:=by unfold Dw;rw[h];rfl
def MM(T:Tb)(X:List Iv)(Z:List Nat)(n:Nat):List Sh:=(List.range n).map (Dw T X Z n)
theorem JD(T:Tb)(X:List Iv)(Z:List Nat)(n:Nat):(MM T X Z n).length=n:=by unfold MM;rw[Ws,List.length_range]
theorem U4{T:Tb}{X:List Iv}{Z:List Nat}{n i:Nat}(h:i<n):(MM T X Z n)[i]?=some (Dw T X Z n i):=by
 unfold MM;rw[List.getElem?_map,List.getElem?_range h];rfl
theorem FX{T:Tb}{X:List Iv}{Z:List Nat}{n:Nat}(hn:X.length=n):∀ i,i≤n→BX T (AF X Z n) (AF X Z i).length∈AN T X (MM T X Z n) i
 | 0,_=>by
   rw[G3,Hf];exact Wy.2 rfl
 | i+1,h=>by
   have ih:=FX (T:=T) (X:=X) (Z:=Z) hn i (by omega);obtain⟨x,hx⟩:∃ x,X[i]?=some x:=⟨_,Wb (by omega)⟩;rw[Ed hx (U4 (by omega))];unfold BV;refine List.mem_flatMap.2 ⟨_,ih,?_⟩;unfold C6;rw[WE];cases hk:DL Z i with
   | false=>
     rw[JG hk,SV hk];exact .inl (by rw[if_pos rfl];exact Wy.2 rfl)
   | true=>
     have hat:=JF (n:=n) (by omega) hx hk;have hr:=FC (T:=T) hat;have hP:GZ T (AF X Z n) (AF X Z i).length=Bq T (Ay T x (BX T (AF X Z n) (AF X Z i).length)) x.oc x.no x.re:=(by unfold GZ;rw[hat,hr]);have hQ:Jt T (AF X Z n) (AF X Z i).length=(Ay T x (BX T (AF X Z n) (AF X Z i).length)).pt:=(by unfold Jt;rw[hat,hr]);rw[DZ hx hk,LH hk,Wh,show[x].length=1 from rfl,hr,hP,hQ];right;rw[if_pos (by unfold BS;simp)];exact Wy.2 rfl
theorem Pm{L:AL}{X:List Iv}{Z:List Nat}{n:Nat}(hc:(Ap L).1=0)(hn:X.length=n):BH L X (MM (AW L) X Z n)=true:=by
 rw[DD hc (by rw[JD,hn]),hn,Bool.not_eq_true'];cases he:(AN (AW L) X (MM (AW L) X Z n) n).isEmpty with
 | false=>rfl
 | true=>
   have h:=FX (T:=AW L) (X:=X) (Z:=Z) hn n (Wc _);rw[List.isEmpty_iff.1 he] at h;cases h
theorem NM{L:AL}{X:List Iv}{Z:List Nat}{n:Nat}{ss:List St}(hn:X.length=n)(h:AP ss (AN (AW L) X (MM (AW L) X Z n) n)):ss.any (fun t=>C4 t (BX (AW L) (AF X Z n) (AF X Z n).length))=true:=by
 have h1:=FX (T:=AW L) (X:=X) (Z:=Z) hn n (Wc _);obtain⟨t,ht,hv⟩:=List.mem_map.1 ((h _).2 (List.mem_map.2 ⟨_,h1,rfl⟩));exact WF.2 ⟨t,ht,Ck.2 hv⟩
end
section
attribute [local irreducible] pw Aa Ab
theorem Iw(n:Nat)(w:World)(hn:n≤63) :
 Calls Tryz.prog 77 #[.int .i64 n] w fun e w'=>e = .returned (.int .u64 (pw n:Int))∧w=w':=by
 go_enter Tryz.func77,Tryz.ntmps77;go_wp2;go_loop [3,4] (fun p i=>∃ k x:Nat,k≤n∧i = .int .i64 k∧x=pw k∧p = .int .u64 x) (fun _ i=>n - (intOf i).toNat)
 case atStart=>exact⟨0,1,by omega,rfl,Jv.symm,rfl⟩
 case round=>
  obtain⟨k,x,hk,rfl,hx,rfl⟩:=hrel;by_cases hlt:k<n
  ·have hw:IntKind.u64.wrap ((x:Int)*2)=(pw (k+1):Int):=(by rw[hx];exact RV k (by omega));obtain⟨y,hy⟩:=X0 (pw (k+1));rw[← hy] at hw;have HY:=hid hy;clear hx hy;go_wp2;go_round
   case rel=>exact⟨k+1,y,by omega,by go_num,HY.o,rfl⟩
   case measure=>simp[intOf];omega
  ·obtain rfl:k=n:=(by omega);have HX:=hid hx;clear hx;go_wp2;go_ret;refine⟨?_,rfl⟩;rw[← HX.o];rfl
theorem Me(s n:Nat)(w:World)(hn:n≤63)(hs:s<18446744073709551616) :
 Calls Tryz.prog 43 #[.int .u64 s,.int .i64 n] w fun e w'=>e = .returned (.bool (Aa s n))∧w=w':=by
 have hp:=Du n;have HV:=hid (R8 s n hs);clear hs;go_enter Tryz.func43,Tryz.ntmps43;go_wp2_with fail;refine(Iw n _ hn).mono ?_;rintro e w' ⟨rfl,rfl⟩;go_wp2_with fail;go_ret;exact⟨BW HV.o,rfl⟩
theorem Q6(s n:Nat)(w:World)(hn:n≤63)(hs:s<18446744073709551616) :
 Calls Tryz.prog 99 #[.int .u64 s,.int .i64 n] w fun e w'=>e = .returned (.int .u64 ((Ab s n:Nat):Int))∧w=w':=by
 go_enter Tryz.func99,Tryz.ntmps99;go_wp2_with fail;refine(Me s n _ hn hs).mono ?_;rintro e w' ⟨rfl,rfl⟩;have HS:=hid hs;clear hs;cases hb:Aa s n
 ·have HW:=hid (Q7 s n hn HS.o hb);have HB:Hid (Ab s n=s+pw n):=hid (by rw[Ab,hb];rfl);clear hb;go_wp2_with fail;refine(Iw n _ hn).mono ?_;rintro e w' ⟨rfl,rfl⟩;go_wp2_with fail;go_ret;refine⟨?_,rfl⟩;rw[HB.o,← HW.o];rfl
 ·have HB:Hid (Ab s n=s):=hid (by rw[Ab,hb];rfl);clear hb;go_wp2_with fail;go_ret;refine⟨?_,rfl⟩;rw[HB.o];rfl
theorem DS(n:Int)(T:Nat)(w:World)(hT:(T:Int)=max 0 (min n 64)) :
 Calls Tryz.prog 72 #[.int .i64 n] w fun e w'=>e = .returned (.int .u64 ((pw T - 1:Nat):Int))∧w=w':=by
 have HT:=hid hT;have hT64:T≤64:=by omega
 clear hT;go_enter Tryz.func72,Tryz.ntmps72;go_wp2;go_loop [3,4] (fun s i=>∃ k x:Nat,k≤T∧i = .int .i64 k∧x=pw k - 1∧s = .int .u64 x) (fun _ i=>T - (intOf i).toNat)
 case atStart=>exact⟨0,0,by omega,rfl,by rw[Jv],rfl⟩
 case round=>
  obtain⟨k,x,hk,rfl,hx,rfl⟩:=hrel;have HX:=hid hx;by_cases hlt:k<T
  ·have h1:(k:Int)<n:=(by have:=HT.o;omega);have h2:(k:Int)<64:=(by omega);have hxl:x<18446744073709551616:=by
    rw[hx];have:=Kx (n:=k) (by omega);omega
   obtain⟨y,hy⟩:=X0 (Ab x k);have HY:Hid (y=pw (k+1) - 1):=hid (by rw[hy,hx,I7]);have HV:=hid hy;clear hx hy;go_wp2_with fail;refine(Q6 x k _ (by omega) hxl).mono ?_;rintro e w' ⟨rfl,rfl⟩;rw[← HV.o];clear h1 h2;go_wp2_with fail;go_round
   case rel=>exact⟨k+1,y,by omega,by go_num,HY.o,rfl⟩
   case measure=>simp[intOf];omega
  ·obtain rfl:k=T:=(by omega);clear hx;by_cases h1:(k:Int)<n
   ·have h2:¬ (k:Int)<64:=(by have:=HT.o;omega);go_wp2_with fail;go_ret;refine⟨?_,rfl⟩;rw[← HX.o];rfl
   ·go_wp2_with fail;go_ret;refine⟨?_,rfl⟩;rw[← HX.o];rfl
end
end Go.Proofs.YtpohoannggdbjaaGreat
