import Derived.ProofKit
import Derived.ChangeArms
import Derived.DataReads
import Derived.Test.YtbcgocpihobjnaaGreatDoorCL25
set_option linter.all false
namespace Go.Proofs.YtbcgocpihobjnaaGreatDoor
open Go Go.ChangeShapes Go.WideShapes Go.ChangeAt Go.WideMaps Go.WideElems Go.RowKit
theorem EI(s:ByteArray):∃ l:List Nat,s=aB l/\(∀ y∈l,y<256)/\l.length=s.size:=by
 refine⟨s.data.toList.map UInt8.toNat,?_,fun y hy=>?_,by simp⟩
 ·unfold aB
  rw[List.map_map]
  have:(UInt8.ofNat ∘ UInt8.toNat)=id:=by funext x;simp
  rw[this,List.map_id]
 ·obtain⟨x,_,rfl⟩:=List.mem_map.1 hy
  exact x.toNat_lt
theorem EJ{w:World}{P:Nat->Prop}:∀ (ks:List Prd) (g off:Nat),(∀ i p,ks[i]?=some p->∃ vs,cK w P p vs/\dD w g (off+i*5) vs)->gE w P ks g off
 | [],_,_,_=>by unfold gE;trivial
 | p::ps,g,off,h=>by
  unfold gE;refine⟨by simpa using h 0 p rfl,EJ ps g (off+5) (fun i q hq=>?_)⟩;have:=h (i+1) q (by simpa using hq)
  rwa [show off+(i+1)*5=off+5+i*5 by omega] at this
theorem Sw{α:Type}[Inhabited α](n:Nat)(R:Nat->α->Prop)(h:∀ i,i<n->∃ a,R i a):∃ l:List α,l.length=n/\∀ (i:Nat) (a:α),l[i]?=some a->R i a:=by
 have h2:∀ i,∃ a,i<n->R i a:=fun i=>by
  by_cases hi:i<n
  ·obtain⟨a,ha⟩:=h i hi;exact⟨a,fun _=>ha⟩
  ·exact⟨default,fun hh=>absurd hh hi⟩
 obtain⟨f,hf⟩:=Classical.axiomOfChoice h2;refine⟨(List.range n).map f,by simp,fun i a ha=>?_⟩;rw[List.getElem?_map] at ha;obtain⟨j,hj,rfl⟩:=Option.map_eq_some_iff.1 ha;obtain⟨hi,nJ⟩:=List.getElem?_eq_some_iff.1 hj;simp at nJ;subst nJ;exact hf i (by simpa using hi)
instance:Inhabited Prd:=⟨y_⟩
instance:Inhabited Bnd:=⟨⟨[],0⟩⟩
theorem cI:Tryz.prog.cellsOf 3=1:=by kernel_rfl
theorem cS:Tryz.prog.cellsOf 9=1:=by kernel_rfl
theorem cL:Tryz.prog.cellsOf 22=1:=by kernel_rfl
theorem cP:Tryz.prog.cellsOf 54=5:=by kernel_rfl
theorem cB:Tryz.prog.cellsOf 164=2:=by kernel_rfl
theorem WW{w:World}{a:Addr}{v:Value}(h:w.cell? a=some v):∃ b off,a=⟨b,off,none⟩/\b<w.heap.size:=by
 obtain⟨b,off,spot⟩:=a;have Xm:spot=none:=World.cell?_spot h;subst Xm;exact⟨b,off,rfl,World.block_lt_of_cell? w ⟨b,off,none⟩ h⟩
section
variable {H:Type} {enc:TypeId×Value->H} {W:World}
theorem Sx{t e:TypeId}{k:Nat}{fuel:Nat}{c:Value}{x:DataW H×List MemPlace}(ht:Tryz.prog.underlying t=some (.slice e))(hk:Tryz.prog.cellsOf e=k)(yV:0<k)(h:DataW.trod enc Tryz.prog W 0 (fun _=>true) true fuel t [c]=some x) :
  ∃ (ao:Option Addr) (n cap:Nat),c = .slice ao n cap/\n<=cap/\cap<=maxLen/\(n=0\/∃ g off n',ao=some ⟨g,off,none⟩/\g<W.heap.size/\n'<fuel/\∀ i,i<n->∃ cs y,cs.length=k/\dD W g (off+i*k) cs/\DataW.trod enc Tryz.prog W 0 (fun _=>true) true n' e cs=some y):=by
 rcases DataW.trod_slice ht h with ⟨h1,_⟩ | ⟨a,len,cap,elems,rest,n',hn,hc,_,_,hl,hm,aQ,nN,_,_⟩
 ·injection h1 with h1 _
  exact⟨none,0,0,h1,Nat.le_refl _,Nat.zero_le _,.inl rfl⟩
 ·injection hc with hc _
  refine⟨some a,len,cap,hc,hl,hm,?_⟩;by_cases h0:len=0
  ·exact .inl h0
  ·right
   have key:∀ i,i<len->∃ cs y,W.cells? 0 (a.add (i*k)) k=some cs/\DataW.trod enc Tryz.prog W 0 (fun _=>true) true n' e cs=some y:=fun i hi=>by
    have h1:=nN i hi;rw[List.getElem?_eq_getElem (by omega),hk] at h1;obtain⟨cs,h2,h3⟩:=Option.bind_eq_some_iff.1 h1;exact⟨cs,_,h2,h3⟩
   obtain⟨cs0,y0,h2,h3⟩:=key 0 (by omega);obtain⟨_,kW,sN⟩:=World.cells?_some h2;have eK:=sN 0 yV;obtain⟨b,off,ha,hb⟩:=WW (eK.trans (List.getElem?_eq_getElem (by omega)))
   have sn:a=⟨b,off,none⟩:=by
    obtain⟨ab,ao,asp⟩:=a;simp only[Addr.add,Nat.zero_mul,Nat.add_zero,Addr.mk.injEq] at ha;obtain⟨rfl,rfl,rfl⟩:=ha;rfl
   subst sn;refine⟨b,off,n',rfl,hb,by omega,fun i hi=>?_⟩;obtain⟨cs,y,h4,h5⟩:=key i hi;obtain⟨_,qC,Mc⟩:=World.cells?_some h4;refine⟨cs,y,qC,fun j u hj=>?_,h5⟩;have pF:=(List.getElem?_eq_some_iff.1 hj).1;have:=Mc j (by omega);rw[hj] at this;rw[Go.WideShapes.add_plain,Go.WideShapes.add_plain] at this;exact this
end
end Go.Proofs.YtbcgocpihobjnaaGreatDoor
