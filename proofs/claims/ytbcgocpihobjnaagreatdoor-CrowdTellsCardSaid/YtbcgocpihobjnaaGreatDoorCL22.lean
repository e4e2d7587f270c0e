import Derived.Deep.Quiet
import Derived.Lib.QuietBelow
import Derived.Test.YtbcgocpihobjnaaGreatDoorCL21
import Derived.Test.YtbcgocpihobjnaaGreatDoorCL13
import Derived.Test.YtbcgocpihobjnaaGreatDoorCL0
import Derived.Test.YtbcgocpihobjnaaGreatDoorCL16
set_option linter.all false
namespace Go.Proofs.YtbcgocpihobjnaaGreatDoor
section
open Go.RowKit Go.Sort
theorem UA{f:FuncId}{args:Array Value}{v:Value}(w:World)(h:∀ W:World,Below w.heap.size w W->Calls Tryz.prog f args W fun e w'=>e = .returned v/\Below W.heap.size W w')(d:Nat)(os:Array Obj) :
  Calls Tryz.prog f args (grow (redrawn w d) os) fun e w''=>e = .returned v/\∃ p:Regrown,w''=grow (redrawn w p.d) p.os :=
 Calls.regrown_of (h _ (below_regrown w d os))
end
section
open Go.RowKit Go.Sort
section
variable {α:Type}
def Vu(EL:World->(Nat->Prop)->α->List Value->Prop):Prop :=
 ∀ (w w':World) (P P':Nat->Prop) (x:α) (vs:List Value),(∀ g,P g->g<w.heap.size->w'.heap[g]?=w.heap[g]?)->w.heap.size<=w'.heap.size->(∀ g,P g->g<w.heap.size->P' g)->EL w P x vs->EL w' P' x vs
structure RowM (EL:World->(Nat->Prop)->α->List Value->Prop) (k base:Nat) (wr:World) (lo:Nat) (bad:Nat->Prop) (ao:Option Addr) (n cp:Nat) (xs:List α) (vss:List (List Value)):Prop where
 own:OwnK wr lo k n cp vss.flatten ao
 len:vss.length=xs.length
 cnt:n=xs.length
 elk:∀ vs∈vss,vs.length=k
 each:∀ (i:Nat) (x:α) (vs:List Value),xs[i]?=some x->vss[i]?=some vs->EL wr (fun g=>base<=g/\¬ bad g/\blk ao≠some g) x vs
variable {EL:World->(Nat->Prop)->α->List Value->Prop} {k base:Nat}
theorem RowM.nil(wr:World)(lo:Nat)(bad:Nat->Prop):RowM EL k base wr lo bad none 0 0 [] [] :=
 ⟨.nil rfl rfl rfl,rfl,rfl,fun vs h=>absurd h List.not_mem_nil,fun i x vs h=>by simp at h⟩
theorem RowM.turn (hE:Vu EL) {wr w':World} {lo:Nat} {bad:Nat->Prop} {ao:Option Addr} {n cp:Nat} {xs:List α} {vss:List (List Value)} (h:RowM EL k base wr lo bad ao n cp xs vss) {p:Nat->Prop} (hb:Only wr w' p)
  (hp:∀ g,p g->bad g\/g<base) (ho:∀ g,blk ao=some g->¬ p g):RowM EL k base w' lo bad ao n cp xs vss:=by
 refine⟨h.own.of_block (fun g e hl=>hb.block g hl (ho g e)) hb.size,h.len,h.cnt,h.elk,fun i x vs hx hv=>hE _ _ _ _ _ _ (fun g hg hl=>hb.block g hl (fun hh=>?_)) hb.size (fun g hg _=>hg) (h.each i x vs hx hv)⟩;rcases hp g hh with h1 | h1
 ·exact hg.2.1 h1
 ·have:=hg.1;omega
theorem RowM.step(hE:Vu EL){wr w':World}{lo:Nat}{bad:Nat->Prop}{ao:Option Addr}{n cp:Nat}{xs:List α}{vss:List (List Value)}(h:RowM EL k base wr lo bad ao n cp xs vss)(hb:Below wr.heap.size wr w'):RowM EL k base w' lo bad ao n cp xs vss :=
 h.turn hE (Only.of_below (p:=fun _=>False) hb) (fun g h=>h.elim) (fun g _ h=>h.elim)
theorem RowM.add (hE:Vu EL) {w0 w2 wa:World} {lo:Nat} {bad:Nat->Prop} {ao:Option Addr} {n cp g5 off5 c5:Nat} {xs:List α} {vss:List (List Value)} {x:α} {vs:List Value} (h:RowM EL k base w2 lo bad ao n cp xs vss)
  (bI:∀ g,blk ao=some g->g<w0.heap.size) (nL:base<=w0.heap.size) (rp:∀ g,bad g->g<w0.heap.size)
  (hx:EL w2 (fun g=>w0.heap.size<=g) x vs) (hk:vs.length=k) (ho:OwnK wa lo k (n+1) c5 (vss.flatten++vs) (some ⟨g5,off5,none⟩)) (hg:w2.grownBy wa (blk ao)) (gM:blk ao=some g5\/w2.heap.size<=g5) :
  RowM EL k base wa lo bad (some ⟨g5,off5,none⟩) (n+1) c5 (xs++[x]) (vss++[vs]):=by
 have jX:∀ g,blk ao≠some g->g<w2.heap.size->blk (some (⟨g5,off5,none⟩:Addr))≠some g:=fun g hb hl e=>by
  have e':g5=g:=Option.some.inj e;subst e';rcases gM with h1 | h1
  ·exact hb h1
  ·omega
 refine⟨by rw[List.flatten_append];simpa using ho,by rw[List.length_append,List.length_append,h.len];rfl,by rw[List.length_append,<- h.cnt];rfl,fun us hu=>?_,?_⟩
 ·rcases List.mem_append.1 hu with hu | hu
  ·exact h.elk us hu
  ·rw[List.mem_singleton] at hu;subst hu;exact hk
 intro i y us hq hu;have aQ:=h.len;by_cases hi:i<xs.length
 ·rw[List.getElem?_append_left hi] at hq
  rw[List.getElem?_append_left (by omega)] at hu;exact hE w2 wa (fun g=>base<=g/\¬ bad g/\blk ao≠some g) _ y us (fun g hx hl=>hg.block g hl (fun e=>hx.2.2 e.symm)) hg.size (fun g hx hl=>⟨hx.1,hx.2.1,jX g hx.2.2 hl⟩) (h.each i y us hq hu)
 ·rw[List.getElem?_append_right (by omega)] at hq hu
  have j3:i=xs.length:=by
   have:=(List.getElem?_eq_some_iff.1 hq).1;simp at this;omega
  subst j3;rw[Nat.sub_self] at hq;rw[aQ,Nat.sub_self] at hu
  obtain rfl:x=y:=by simpa using hq
  obtain rfl:vs=us:=by simpa using hu
  have cT:∀ g,w0.heap.size<=g->blk ao≠some g:=fun g qu e=>by
   have:=bI g e;omega
  exact hE w2 wa (fun g=>w0.heap.size<=g) _ x vs (fun g hx hl=>hg.block g hl (fun e=>cT g hx e.symm)) hg.size (fun g hx hl=>⟨Nat.le_trans nL hx,fun hb=>by have:=rp g hb;omega,jX g (cT g hx) hl⟩) hx
theorem UB(k:Nat):∀ (vss:List (List Value)),(∀ vs∈vss,vs.length=k)->∀ (i j:Nat) (vs:List Value),vss[i]?=some vs->j<k->vss.flatten[i*k+j]?=vs[j]?
 | [],_,i,j,vs,h,_=>by simp at h
 | us::vss,hk,0,j,vs,h,hj=>by
  obtain rfl:us=vs:=by simpa using h
  have:=hk us (List.mem_cons_self ..);rw[List.flatten_cons,List.getElem?_append_left (by omega)]
  congr 1;omega
 | us::vss,hk,i+1,j,vs,h,hj=>by
  have hl:=hk us (List.mem_cons_self ..);rw[List.flatten_cons,List.getElem?_append_right (by rw[hl,Nat.add_mul];omega),hl];rw[<- UB k vss (fun x hx=>hk x (List.mem_cons_of_mem _ hx)) i j vs (by simpa using h) hj]
  congr 1
  rw[Nat.add_mul];omega
theorem RowM.at{wr:World}{lo:Nat}{bad:Nat->Prop}{ao:Option Addr}{n cp:Nat}{xs:List α}{vss:List (List Value)}(h:RowM EL k base wr lo bad ao n cp xs vss)(i:Nat)(x:α)(hx:xs[i]?=some x) :
  ∃ g off vs,ao=some ⟨g,off,none⟩/\g<wr.heap.size/\lo<=g/\vss[i]?=some vs/\vs.length=k/\dD wr g (off+i*k) vs/\EL wr (fun g=>base<=g/\¬ bad g/\blk ao≠some g) x vs:=by
 have hi:=(List.getElem?_eq_some_iff.1 hx).1
 have vY:i<vss.length:=by rw[h.len];exact hi
 have hv:vss[i]?=some vss[i]:=List.getElem?_eq_getElem vY;have hk:=h.elk vss[i] (List.getElem_mem vY);have hO:=h.own
 cases bI:ao with
 | none =>
  rw[bI] at hO
  cases hO with
  | nil h1 h2 h3=>have:=h.cnt;omega
 | some a =>
  rw[bI] at hO;obtain⟨g,off,si⟩:=a
  cases hO with
  | «at» g off h1 h2 h3 h4 =>
   refine⟨g,off,vss[i],rfl,h1.lt,h1.own,hv,hk,fun j u hj=>?_,bI ▸ h.each i x _ hx hv⟩;have Bo:=(List.getElem?_eq_some_iff.1 hj).1;have:=h1.cells (i*k+j) u (by rw[UB k vss h.elk i j _ hv (by omega)];exact hj)
   rwa [<- Nat.add_assoc] at this
end
structure Chc where
 need:Int
 atoms:List Prd
end
section
def leI(a b:Int):Bool:=decide (a<=b)
end
end Go.Proofs.YtbcgocpihobjnaaGreatDoor
