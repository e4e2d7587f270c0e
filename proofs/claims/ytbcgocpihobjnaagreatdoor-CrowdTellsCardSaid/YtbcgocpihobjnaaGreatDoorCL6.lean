import Derived.Test.YtbcgocpihobjnaaGreatDoorCL4
import Derived.Test.YtbcgocpihobjnaaGreatDoorCL5
import Derived.Test.YtbcgocpihobjnaaGreatDoorCL0
set_option linter.all false
namespace Go.Proofs.YtbcgocpihobjnaaGreatDoor
section
open Go.RowKit
structure Only (w w':World) (p:Nat->Prop):Prop where
 os:w'.os=w.os
 tape:w'.tape=w.tape
 output:w'.output=w.output
 size:w.heap.size<=w'.heap.size
 block:∀ g,g<w.heap.size->¬ p g->w'.heap[g]?=w.heap[g]?
theorem Only.refl(w:World)(p:Nat->Prop):Only w w p:=⟨rfl,rfl,rfl,Nat.le_refl _,fun _ _ _=>rfl⟩
theorem Only.trans{w w' w'':World}{p:Nat->Prop}(h:Only w w' p)(h':Only w' w'' p):Only w w'' p :=
 ⟨h'.os.trans h.os,h'.tape.trans h.tape,h'.output.trans h.output,Nat.le_trans h.size h'.size,fun g hg hp=>(h'.block g (Nat.lt_of_lt_of_le hg h.size) hp).trans (h.block g hg hp)⟩
theorem Only.of_below{w w':World}{p:Nat->Prop}(h:Below w.heap.size w w'):Only w w' p:=⟨h.os,h.tape,h.output,h.size,fun g hg _=>h.block g hg⟩
theorem Only.step{w w' w'':World}{p:Nat->Prop}(h:Only w w' p)(h':Below w'.heap.size w' w''):Only w w'' p:=h.trans (.of_below h')
theorem DK(w:World)(a:Addr)(g:Nat)(v:Value)(h:g≠a.block):(w.setCell a v).heap[g]?=w.heap[g]?:=Below.heap_setCell _ _ _ _ h
theorem Only.setCell{w w':World}{p:Nat->Prop}(h:Only w w' p){a:Addr}(v:Value)(ha:p a.block):Only w (w'.setCell a v) p :=
 h.trans ⟨rfl,rfl,rfl,by rw[World.size_setCell];exact Nat.le_refl _,fun g _ hp=>DK w' a g v (fun e=>hp (e ▸ ha))⟩
theorem Only.mono{w w':World}{p p':Nat->Prop}(h:Only w w' p)(hp:∀ g,g<w.heap.size->p g->p' g):Only w w' p' :=
 ⟨h.os,h.tape,h.output,h.size,fun g hg hn=>h.block g hg (fun hh=>hn (hp g hg hh))⟩
theorem Only.below{w w':World}{p:Nat->Prop}{B:Nat}(h:Only w w' p)(hB:B<=w.heap.size)(hp:∀ g,p g->B<=g):Below B w w' :=
 ⟨h.os,h.tape,h.output,h.size,fun g hg=>h.block g (by omega) (fun hh=>by have:=hp g hh;omega)⟩
theorem Only.later{w0 w w':World}{p:Nat->Prop}(h0:Below w0.heap.size w0 w)(h:Only w w' p)(hp:∀ g,p g->w0.heap.size<=g):Below w0.heap.size w0 w' :=
 h0.trans (h.below h0.size hp)
theorem Fi{α:Type}(f:α->List Value)(k:Nat)(hf:∀ x,(f x).length=k):∀ l:List α,(l.flatMap f).length=l.length*k
 | []=>by simp
 | x::l=>by rw[List.flatMap_cons,List.length_append,hf,Fi f k hf l,List.length_cons,Nat.add_mul];omega
theorem Ho{α:Type}(f:α->List Value)(k:Nat)(hf:∀ x,(f x).length=k):∀ (l:List α) (i j:Nat) (x:α),l[i]?=some x->j<k->(l.flatMap f)[i*k+j]?=(f x)[j]?
 | [],i,j,x,h,_=>by simp at h
 | y::l,0,j,x,h,hj=>by
  obtain rfl:y=x:=by simpa using h
  rw[List.flatMap_cons,List.getElem?_append_left (by rw[hf];omega)]
  congr 1;omega
 | y::l,i+1,j,x,h,hj=>by
  rw[List.flatMap_cons,List.getElem?_append_right (by rw[hf,Nat.add_mul];omega),hf];rw[<- Ho f k hf l i j x (by simpa using h) hj]
  congr 1
  rw[Nat.add_mul];omega
mutual
def cK(w:World)(P:Nat->Prop):Prd->List Value->Prop
 | .mk k l r c ks,vs=>∃ ao cap,vs=[.int .i64 k,.string (aB l),.string (aB r),.int .i64 c,.slice ao ks.length cap]/\(ks=[]\/∃ g off,ao=some ⟨g,off,none⟩/\P g/\g<w.heap.size/\gE w P ks g off)
def gE(w:World)(P:Nat->Prop):List Prd->Nat->Nat->Prop
 | [],_,_=>True
 | p::ps,g,off=>(∃ vs,cK w P p vs/\dD w g off vs)/\gE w P ps g (off+5)
end
mutual
theorem cK.keep{w w':World}{P P':Nat->Prop}(hb:∀ g,P g->g<w.heap.size->w'.heap[g]?=w.heap[g]?)(hs:w.heap.size<=w'.heap.size)(hP:∀ g,P g->g<w.heap.size->P' g):∀ (p:Prd) (vs:List Value),cK w P p vs->cK w' P' p vs
 | .mk k l r c ks,vs,h=>by
  unfold cK at h ⊢;obtain⟨ao,cap,hv,hk⟩:=h;refine⟨ao,cap,hv,?_⟩;rcases hk with hk | ⟨g,off,ha,hp,hl,hk⟩
  ·exact .inl hk
  ·exact .inr ⟨g,off,ha,hP g hp hl,Nat.lt_of_lt_of_le hl hs,gE.keep hb hs hP ks g off hp hl hk⟩
theorem gE.keep{w w':World}{P P':Nat->Prop}(hb:∀ g,P g->g<w.heap.size->w'.heap[g]?=w.heap[g]?)(hs:w.heap.size<=w'.heap.size)(hP:∀ g,P g->g<w.heap.size->P' g):∀ (ks:List Prd) (g off:Nat),P g->g<w.heap.size->gE w P ks g off->gE w' P' ks g off
 | [],_,_,_,_,_=>by unfold gE;trivial
 | p::ps,g,off,hp,hl,h=>by
  unfold gE at h ⊢;obtain⟨⟨vs,h1,h2⟩,h3⟩:=h;exact⟨⟨vs,cK.keep hb hs hP p vs h1,h2.of_block (hb g hp hl)⟩,gE.keep hb hs hP ps g (off+5) hp hl h3⟩
end
theorem cK.below{w w':World}{P:Nat->Prop}{p:Prd}{vs:List Value}(h:cK w P p vs)(hb:Below w.heap.size w w'):cK w' P p vs :=
 cK.keep (fun g _ hg=>hb.block g hg) hb.size (fun _ h _=>h) p vs h
theorem gE.at{w:World}{P:Nat->Prop}:∀ (ks:List Prd) (g off i:Nat) (p:Prd),ks[i]?=some p->gE w P ks g off->∃ vs,cK w P p vs/\dD w g (off+i*5) vs
 | [],_,_,_,_,h,_=>by simp at h
 | q::ps,g,off,0,p,h,hk=>by
  obtain rfl:q=p:=by simpa using h
  unfold gE at hk;simpa using hk.1
 | q::ps,g,off,i+1,p,h,hk=>by
  unfold gE at hk;have:=gE.at ps g (off+5) i p (by simpa using h) hk.2
  rwa [show off+5+i*5=off+(i+1)*5 by omega] at this
end
section
open Go.RowKit
theorem Nq(l:List Nat):(aB l).toList=l.map UInt8.ofNat:=by rw[ByteArray.toList_eq];simp[aB]
theorem ef:∀ (a b:List Nat),(∀ y∈a,y<256)->(∀ y∈b,y<256)->a.map UInt8.ofNat=b.map UInt8.ofNat->a=b
 | [],[],_,_,_=>rfl
 | [],y::b,_,_,h=>by simp at h
 | x::a,[],_,_,h=>by simp at h
 | x::a,y::b,ha,hb,h=>by
  rw[List.map_cons,List.map_cons,List.cons.injEq] at h;have hx:=ha x (by simp);have hy:=hb y (by simp)
  have h1:x=y:=by
   have:=congrArg UInt8.toNat h.1;simp at this;omega
  rw[h1,ef a b (fun y hy=>ha y (List.mem_cons_of_mem _ hy)) (fun y hy=>hb y (List.mem_cons_of_mem _ hy)) h.2]
end
section
open Go.RowKit
theorem VC(l:List Nat)(i:Nat)(hi:i<=l.length)(w:World) :
  (Instr.slice 9 (.string (aB l)) (some (.int .i64 (i:Int))) none none).run Tryz.prog w = .ok (.string (aB (l.drop i))) w:=by
 rw[run_slice_string_l (ht:=Tryz.underlying9) (kl:=.i64) (l:=(i:Int)) (h0:=by omega) (h1:=by rw[tH];omega),Int.toNat_natCast,VZ]
theorem VD(l:List Nat)(i:Nat)(hi:i<=l.length)(w:World) :
  (Instr.slice 9 (.string (aB l)) none (some (.int .i64 (i:Int))) none).run Tryz.prog w = .ok (.string (aB (l.take i))) w:=by
 rw[run_slice_string_h (ht:=Tryz.underlying9) (kh:=.i64) (h:=(i:Int)) (h0:=by omega) (h2:=by rw[tH];omega),Int.toNat_natCast,VY _ _ hi]
end
end Go.Proofs.YtbcgocpihobjnaaGreatDoor
