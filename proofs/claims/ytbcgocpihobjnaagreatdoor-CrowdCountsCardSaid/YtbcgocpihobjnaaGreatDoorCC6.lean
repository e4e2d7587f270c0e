import Derived.Test.YtbcgocpihobjnaaGreatDoorCC4
import Derived.Test.YtbcgocpihobjnaaGreatDoorCC5
import Derived.Test.YtbcgocpihobjnaaGreatDoorCC0
set_option linter.all false
namespace Go.Proofs.YtbcgocpihobjnaaGreatDoor
section
open Go.RowKit
structure Only (w w':World) (p:Nat->Prop):Prop where
 os:w'.os=w.os
 tape:w'.tape=w.tape
 output:w'.output=w.output
 size:w.heap.size<=w'.heap.size
 block:∀ g,g<w.heap.size->¬ p g->w'.heap[g]?=w.heap[g]?
theorem Only.refl(w:World)(p:Nat->Prop):Only w w p:=⟨rfl,rfl,rfl,Nat.le_refl _,fun _ _ _=>rfl⟩
theorem Only.trans{w w' w'':World}{p:Nat->Prop}(h:Only w w' p)(h':Only w' w'' p):Only w w'' p :=
 ⟨h'.os.trans h.os,h'.tape.trans h.tape,h'.output.trans h.output,Nat.le_trans h.size h'.size,fun g hg hp=>(h'.block g (Nat.lt_of_lt_of_le hg h.size) hp).trans (h.block g hg hp)⟩
theorem Only.of_below{w w':World}{p:Nat->Prop}(h:Below w.heap.size w w'):Only w w' p:=⟨h.os,h.tape,h.output,h.size,fun g hg _=>h.block g hg⟩
theorem Only.step{w w' w'':World}{p:Nat->Prop}(h:Only w w' p)(h':Below w'.heap.size w' w''):Only w w'' p:=h.trans (.of_below h')
theorem Zc4(w:World)(a:Addr)(g:Nat)(v:Value)(h:g≠a.block):(w.setCell a v).heap[g]?=w.heap[g]?:=Below.heap_setCell _ _ _ _ h
theorem Only.setCell{w w':World}{p:Nat->Prop}(h:Only w w' p){a:Addr}(v:Value)(ha:p a.block):Only w (w'.setCell a v) p :=
 h.trans ⟨rfl,rfl,rfl,by rw[World.size_setCell];exact Nat.le_refl _,fun g _ hp=>Zc4 w' a g v (fun e=>hp (e ▸ ha))⟩
theorem Only.mono{w w':World}{p p':Nat->Prop}(h:Only w w' p)(hp:∀ g,g<w.heap.size->p g->p' g):Only w w' p' :=
 ⟨h.os,h.tape,h.output,h.size,fun g hg hn=>h.block g hg (fun hh=>hn (hp g hg hh))⟩
theorem Only.below{w w':World}{p:Nat->Prop}{B:Nat}(h:Only w w' p)(hB:B<=w.heap.size)(hp:∀ g,p g->B<=g):Below B w w' :=
 ⟨h.os,h.tape,h.output,h.size,fun g hg=>h.block g (by omega) (fun hh=>by have:=hp g hh;omega)⟩
theorem Only.later{w0 w w':World}{p:Nat->Prop}(h0:Below w0.heap.size w0 w)(h:Only w w' p)(hp:∀ g,p g->w0.heap.size<=g):Below w0.heap.size w0 w' :=
 h0.trans (h.below h0.size hp)
theorem Only.drewN{w w':World}{p:Nat->Prop}(h:Only w w' p)(m:Nat):Only w (w'.drewN m) p:=⟨h.os,h.tape,h.output,h.size,h.block⟩
theorem Only.cell{w w':World}{p:Nat->Prop}(h:Only w w' p){a:Addr}(ha:a.block<w.heap.size)(hp:¬ p a.block):w'.cell? a=w.cell? a:=World.cell?_of_block (w:=w) (h.block a.block ha hp)
theorem Only.frozen{w w':World}{p:Nat->Prop}(h:Only w w' p){a:Addr}(ha:a.block<w.heap.size)(hp:¬ p a.block):w'.frozen? a=w.frozen? a:=World.frozen?_of_block (w:=w) (h.block a.block ha hp)
theorem Zb9{α:Type}(f:α->List Value)(k:Nat)(hf:∀ x,(f x).length=k):∀ l:List α,(l.flatMap f).length=l.length*k
 | []=>by simp
 | x::l=>by rw[List.flatMap_cons,List.length_append,hf,Zb9 f k hf l,List.length_cons,Nat.add_mul];omega
theorem Zdg{α:Type}(f:α->List Value)(k:Nat)(hf:∀ x,(f x).length=k):∀ (l:List α) (i j:Nat) (x:α),l[i]?=some x->j<k->(l.flatMap f)[i*k+j]?=(f x)[j]?
 | [],i,j,x,h,_=>by simp at h
 | y::l,0,j,x,h,hj=>by
  obtain rfl:y=x:=by simpa using h
  rw[List.flatMap_cons,List.getElem?_append_left (by rw[hf];omega)]
  congr 1;omega
 | y::l,i+1,j,x,h,hj=>by
  rw[List.flatMap_cons,List.getElem?_append_right (by rw[hf,Nat.add_mul];omega),hf];rw[<- Zdg f k hf l i j x (by simpa using h) hj]
  congr 1
  rw[Nat.add_mul];omega
mutual
def Zao(w:World)(P:Nat->Prop):Prd->List Value->Prop
 | .mk k l r c ks,vs=>∃ ao cap,vs=[.int .i64 k,.string (Zad l),.string (Zad r),.int .i64 c,.slice ao ks.length cap]/\(ks=[]\/∃ g off,ao=some ⟨g,off,none⟩/\P g/\g<w.heap.size/\Zbe w P ks g off)
def Zbe(w:World)(P:Nat->Prop):List Prd->Nat->Nat->Prop
 | [],_,_=>True
 | p::ps,g,off=>(∃ vs,Zao w P p vs/\Zav w g off vs)/\Zbe w P ps g (off+5)
end
mutual
theorem Zao.keep{w w':World}{P P':Nat->Prop}(hb:∀ g,P g->g<w.heap.size->w'.heap[g]?=w.heap[g]?)(hs:w.heap.size<=w'.heap.size)(hP:∀ g,P g->g<w.heap.size->P' g):∀ (p:Prd) (vs:List Value),Zao w P p vs->Zao w' P' p vs
 | .mk k l r c ks,vs,h=>by
  unfold Zao at h ⊢;obtain⟨ao,cap,hv,hk⟩:=h;refine⟨ao,cap,hv,?_⟩;rcases hk with hk | ⟨g,off,ha,hp,hl,hk⟩
  ·exact .inl hk
  ·exact .inr ⟨g,off,ha,hP g hp hl,Nat.lt_of_lt_of_le hl hs,Zbe.keep hb hs hP ks g off hp hl hk⟩
theorem Zbe.keep{w w':World}{P P':Nat->Prop}(hb:∀ g,P g->g<w.heap.size->w'.heap[g]?=w.heap[g]?)(hs:w.heap.size<=w'.heap.size)(hP:∀ g,P g->g<w.heap.size->P' g):∀ (ks:List Prd) (g off:Nat),P g->g<w.heap.size->Zbe w P ks g off->Zbe w' P' ks g off
 | [],_,_,_,_,_=>by unfold Zbe;trivial
 | p::ps,g,off,hp,hl,h=>by
  unfold Zbe at h ⊢;obtain⟨⟨vs,h1,h2⟩,h3⟩:=h;exact⟨⟨vs,Zao.keep hb hs hP p vs h1,h2.of_block (hb g hp hl)⟩,Zbe.keep hb hs hP ps g (off+5) hp hl h3⟩
end
theorem Zao.below{w w':World}{P:Nat->Prop}{p:Prd}{vs:List Value}(h:Zao w P p vs)(hb:Below w.heap.size w w'):Zao w' P p vs :=
 Zao.keep (fun g _ hg=>hb.block g hg) hb.size (fun _ h _=>h) p vs h
theorem Zao.len{w:World}{P:Nat->Prop}{p:Prd}{vs:List Value}(h:Zao w P p vs):vs.length=5:=by
 cases p with
 | mk k l r c ks =>
  unfold Zao at h;obtain⟨ao,cap,rfl,_⟩:=h;rfl
theorem Zbe.at{w:World}{P:Nat->Prop}:∀ (ks:List Prd) (g off i:Nat) (p:Prd),ks[i]?=some p->Zbe w P ks g off->∃ vs,Zao w P p vs/\Zav w g (off+i*5) vs
 | [],_,_,_,_,h,_=>by simp at h
 | q::ps,g,off,0,p,h,hk=>by
  obtain rfl:q=p:=by simpa using h
  unfold Zbe at hk;simpa using hk.1
 | q::ps,g,off,i+1,p,h,hk=>by
  unfold Zbe at hk;have:=Zbe.at ps g (off+5) i p (by simpa using h) hk.2
  rwa [show off+5+i*5=off+(i+1)*5 by omega] at this
theorem Zbe.of{w:World}{P:Nat->Prop}:∀ (ks:List Prd) (vss:List (List Value)) (g off:Nat),vss.length=ks.length->(∀ (i:Nat) (p:Prd) (vs:List Value),ks[i]?=some p->vss[i]?=some vs->Zao w P p vs)->Zav w g off vss.flatten->Zbe w P ks g off
 | [],_,_,_,_,_,_=>by unfold Zbe;trivial
 | p::ps,[],_,_,h,_,_=>by simp at h
 | p::ps,vs::vss,g,off,h,h1,h2=>by
  unfold Zbe;have hp:=h1 0 p vs rfl rfl;have hl:=hp.len;refine⟨⟨vs,hp,?_⟩,Zbe.of ps vss g (off+5) (by simpa using h) (fun i q us hq hu=>h1 (i+1) q us (by simpa using hq) (by simpa using hu)) ?_⟩
  ·intro j u hj
   refine h2 j u ?_;rw[List.flatten_cons,List.getElem?_append_left (List.getElem?_eq_some_iff.1 hj).1];exact hj
  ·intro j u hj
   have:=h2 (5+j) u (by rw[List.flatten_cons,List.getElem?_append_right (by omega),hl];rwa [show 5+j-5=j by omega])
   rwa [show off+(5+j)=off+5+j by omega] at this
end
section
open Go.RowKit
theorem Zca(l:List Nat):(Zad l).toList=l.map UInt8.ofNat:=by rw[ByteArray.toList_eq];simp[Zad]
theorem Ze2:∀ (a b:List Nat),(∀ y∈a,y<256)->(∀ y∈b,y<256)->a.map UInt8.ofNat=b.map UInt8.ofNat->a=b
 | [],[],_,_,_=>rfl
 | [],y::b,_,_,h=>by simp at h
 | x::a,[],_,_,h=>by simp at h
 | x::a,y::b,ha,hb,h=>by
  rw[List.map_cons,List.map_cons,List.cons.injEq] at h;have hx:=ha x (by simp);have hy:=hb y (by simp)
  have h1:x=y:=by
   have:=congrArg UInt8.toNat h.1;simp at this;omega
  rw[h1,Ze2 a b (fun y hy=>ha y (List.mem_cons_of_mem _ hy)) (fun y hy=>hb y (List.mem_cons_of_mem _ hy)) h.2]
end
section
open Go.RowKit
theorem Zso(l:List Nat)(i:Nat)(hi:i<=l.length)(w:World) :
  (Instr.slice 9 (.string (Zad l)) (some (.int .i64 (i:Int))) none none).run Tryz.prog w = .ok (.string (Zad (l.drop i))) w:=by
 rw[run_slice_string_l (ht:=Tryz.underlying9) (kl:=.i64) (l:=(i:Int)) (h0:=by omega) (h1:=by rw[Zbc];omega),Int.toNat_natCast,Zo8]
theorem Zsp(l:List Nat)(i:Nat)(hi:i<=l.length)(w:World) :
  (Instr.slice 9 (.string (Zad l)) none (some (.int .i64 (i:Int))) none).run Tryz.prog w = .ok (.string (Zad (l.take i))) w:=by
 rw[run_slice_string_h (ht:=Tryz.underlying9) (kh:=.i64) (h:=(i:Int)) (h0:=by omega) (h2:=by rw[Zbc];omega),Int.toNat_natCast,Zo9 _ _ hi]
end
end Go.Proofs.YtbcgocpihobjnaaGreatDoor
