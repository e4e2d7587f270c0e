import Derived.Test.YtmkdfbelbcocpaaGreatDoorCD2
import Derived.Test.YtmkdfbelbcocpaaGreatDoorCD3
import Derived.Test.YtmkdfbelbcocpaaGreatDoorCD0
set_option linter.unusedVariables false
set_option linter.unusedSimpArgs false
set_option maxHeartbeats 2000000
set_option maxRecDepth 100000
namespace Go.Proofs.YtmkdfbelbcocpaaGreatDoor
section
open Go.RowKit
structure Only (w w':World) (p:Nat→Prop):Prop where
 os:w'.os=w.os
 tape:w'.tape=w.tape
 output:w'.output=w.output
 size:w.heap.size≤w'.heap.size
 block:∀ g,g<w.heap.size→¬ p g→w'.heap[g]?=w.heap[g]?
theorem Only.refl (w:World) (p:Nat→Prop):Only w w p:=⟨rfl,rfl,rfl,Nat.le_refl _,fun _ _ _=>rfl⟩
theorem Only.trans {w w' w'':World} {p:Nat→Prop} (h:Only w w' p) (h':Only w' w'' p):Only w w'' p :=
 ⟨h'.os.trans h.os,h'.tape.trans h.tape,h'.output.trans h.output,Nat.le_trans h.size h'.size,fun g hg hp=>(h'.block g (Nat.lt_of_lt_of_le hg h.size) hp).trans (h.block g hg hp)⟩
theorem Only.of_below {w w':World} {p:Nat→Prop} (h:Below w.heap.size w w'):Only w w' p:=⟨h.os,h.tape,h.output,h.size,fun g hg _=>h.block g hg⟩
theorem Only.step {w w' w'':World} {p:Nat→Prop} (h:Only w w' p) (h':Below w'.heap.size w' w''):Only w w'' p:=h.trans (.of_below h')
theorem Zci (w:World) (a:Addr) (g:Nat) (v:Value) (h:g≠a.block):(w.setCell a v).heap[g]?=w.heap[g]?:=Below.heap_setCell _ _ _ _ h
theorem Only.setCell {w w':World} {p:Nat→Prop} (h:Only w w' p) {a:Addr} (v:Value) (ha:p a.block):Only w (w'.setCell a v) p :=
 h.trans ⟨rfl,rfl,rfl,by rw[World.size_setCell];exact Nat.le_refl _,fun g _ hp=>Zci w' a g v (fun e=>hp (e ▸ ha))⟩
theorem Only.mono {w w':World} {p p':Nat→Prop} (h:Only w w' p) (hp:∀ g,g<w.heap.size→p g→p' g):Only w w' p' :=
 ⟨h.os,h.tape,h.output,h.size,fun g hg hn=>h.block g hg (fun hh=>hn (hp g hg hh))⟩
theorem Only.below {w w':World} {p:Nat→Prop} {B:Nat} (h:Only w w' p) (hB:B≤w.heap.size) (hp:∀ g,p g→B≤g):Below B w w' :=
 ⟨h.os,h.tape,h.output,h.size,fun g hg=>h.block g (by omega) (fun hh=>by have:=hp g hh;omega)⟩
theorem Only.later {w0 w w':World} {p:Nat→Prop} (h0:Below w0.heap.size w0 w) (h:Only w w' p) (hp:∀ g,p g→w0.heap.size≤g):Below w0.heap.size w0 w' :=
 h0.trans (h.below h0.size hp)
theorem Zbd {α:Type} (f:α→List Value) (k:Nat) (hf:∀ x,(f x).length=k):∀ l:List α,(l.flatMap f).length=l.length*k
 | []=>by simp
 | x::l=>by rw[List.flatMap_cons,List.length_append,hf,Zbd f k hf l,List.length_cons,Nat.add_mul];omega
theorem Zby {α:Type} (f:α→List Value) (k:Nat) (hf:∀ x,(f x).length=k):∀ (l:List α) (i j:Nat) (x:α),l[i]?=some x→j<k→(l.flatMap f)[i*k+j]?=(f x)[j]?
 | [],i,j,x,h,_=>by simp at h
 | y::l,0,j,x,h,hj=>by
  obtain rfl:y=x:=by simpa using h
  rw[List.flatMap_cons,List.getElem?_append_left (by rw[hf];omega)]
  congr 1;omega
 | y::l,i+1,j,x,h,hj=>by
  rw[List.flatMap_cons,List.getElem?_append_right (by rw[hf,Nat.add_mul];omega),hf]
  rw[← Zby f k hf l i j x (by simpa using h) hj]
  congr 1
  rw[Nat.add_mul];omega
def Zbw (t:Tok):List Value:=[.int .i64 t.k,.string (Zad t.t),.int .i64 t.n,.int .i64 t.p]
theorem Zi7 (t:Tok):(Zbw t).length=4:=rfl
theorem Z01 {w:World} {g off:Nat} {ts:List Tok} (h:Za3 w g off (ts.flatMap Zbw)) (i:Nat) (t:Tok) (ht:ts[i]?=some t) :
  w.cell? ⟨g,off+i*4,none⟩=some (.int .i64 t.k)∧w.cell? ⟨g,off+i*4+1,none⟩=some (.string (Zad t.t))∧w.cell? ⟨g,off+i*4+2,none⟩=some (.int .i64 t.n)∧w.cell? ⟨g,off+i*4+3,none⟩=some (.int .i64 t.p):=by
 refine⟨?_,?_,?_,?_⟩
 ·exact h (i*4+0) _ (by rw[Zby Zbw 4 Zi7 ts i 0 t ht (by omega)];rfl)
 ·exact h (i*4+1) _ (by rw[Zby Zbw 4 Zi7 ts i 1 t ht (by omega)];rfl)
 ·exact h (i*4+2) _ (by rw[Zby Zbw 4 Zi7 ts i 2 t ht (by omega)];rfl)
 ·exact h (i*4+3) _ (by rw[Zby Zbw 4 Zi7 ts i 3 t ht (by omega)];rfl)
mutual
def Zai (w:World) (P:Nat→Prop):Prd→List Value→Prop
 | .mk k l r c ks,vs=>∃ ao cap,vs=[.int .i64 k,.string (Zad l),.string (Zad r),.int .i64 c,.slice ao ks.length cap]∧(ks=[]∨∃ g off,ao=some ⟨g,off,none⟩∧P g∧g<w.heap.size∧Za1 w P ks g off)
def Za1 (w:World) (P:Nat→Prop):List Prd→Nat→Nat→Prop
 | [],_,_=>True
 | p::ps,g,off=>(∃ vs,Zai w P p vs∧Za3 w g off vs)∧Za1 w P ps g (off+5)
end
mutual
theorem Zai.keep {w w':World} {P P':Nat→Prop} (hb:∀ g,P g→g<w.heap.size→w'.heap[g]?=w.heap[g]?) (hs:w.heap.size≤w'.heap.size) (hP:∀ g,P g→g<w.heap.size→P' g):∀ (p:Prd) (vs:List Value),Zai w P p vs→Zai w' P' p vs
 | .mk k l r c ks,vs,h=>by
  unfold Zai at h ⊢
  obtain⟨ao,cap,hv,hk⟩:=h
  refine⟨ao,cap,hv,?_⟩
  rcases hk with hk | ⟨g,off,ha,hp,hl,hk⟩
  ·exact .inl hk
  ·exact .inr ⟨g,off,ha,hP g hp hl,Nat.lt_of_lt_of_le hl hs,Za1.keep hb hs hP ks g off hp hl hk⟩
theorem Za1.keep {w w':World} {P P':Nat→Prop} (hb:∀ g,P g→g<w.heap.size→w'.heap[g]?=w.heap[g]?) (hs:w.heap.size≤w'.heap.size) (hP:∀ g,P g→g<w.heap.size→P' g):∀ (ks:List Prd) (g off:Nat),P g→g<w.heap.size→Za1 w P ks g off→Za1 w' P' ks g off
 | [],_,_,_,_,_=>by unfold Za1;trivial
 | p::ps,g,off,hp,hl,h=>by
  unfold Za1 at h ⊢
  obtain⟨⟨vs,h1,h2⟩,h3⟩:=h
  exact⟨⟨vs,Zai.keep hb hs hP p vs h1,h2.of_block (hb g hp hl)⟩,Za1.keep hb hs hP ps g (off+5) hp hl h3⟩
end
theorem Zai.below {w w':World} {P:Nat→Prop} {p:Prd} {vs:List Value} (h:Zai w P p vs) (hb:Below w.heap.size w w'):Zai w' P p vs :=
 Zai.keep (fun g _ hg=>hb.block g hg) hb.size (fun _ h _=>h) p vs h
theorem Zai.len {w:World} {P:Nat→Prop} {p:Prd} {vs:List Value} (h:Zai w P p vs):vs.length=5:=by
 cases p with
 | mk k l r c ks =>
  unfold Zai at h
  obtain⟨ao,cap,rfl,_⟩:=h
  rfl
theorem Za1.at {w:World} {P:Nat→Prop}:∀ (ks:List Prd) (g off i:Nat) (p:Prd),ks[i]?=some p→Za1 w P ks g off→∃ vs,Zai w P p vs∧Za3 w g (off+i*5) vs
 | [],_,_,_,_,h,_=>by simp at h
 | q::ps,g,off,0,p,h,hk=>by
  obtain rfl:q=p:=by simpa using h
  unfold Za1 at hk
  simpa using hk.1
 | q::ps,g,off,i+1,p,h,hk=>by
  unfold Za1 at hk
  have:=Za1.at ps g (off+5) i p (by simpa using h) hk.2
  rwa [show off+5+i*5=off+(i+1)*5 by omega] at this
theorem Za1.of {w:World} {P:Nat→Prop}:∀ (ks:List Prd) (vss:List (List Value)) (g off:Nat),vss.length=ks.length→(∀ (i:Nat) (p:Prd) (vs:List Value),ks[i]?=some p→vss[i]?=some vs→Zai w P p vs)→Za3 w g off vss.flatten→Za1 w P ks g off
 | [],_,_,_,_,_,_=>by unfold Za1;trivial
 | p::ps,[],_,_,h,_,_=>by simp at h
 | p::ps,vs::vss,g,off,h,h1,h2=>by
  unfold Za1
  have hp:=h1 0 p vs rfl rfl
  have hl:=hp.len
  refine⟨⟨vs,hp,?_⟩,Za1.of ps vss g (off+5) (by simpa using h) (fun i q us hq hu=>h1 (i+1) q us (by simpa using hq) (by simpa using hu)) ?_⟩
  ·intro j u hj
   refine h2 j u ?_
   rw[List.flatten_cons,List.getElem?_append_left (List.getElem?_eq_some_iff.1 hj).1];exact hj
  ·intro j u hj
   have:=h2 (5+j) u (by rw[List.flatten_cons,List.getElem?_append_right (by omega),hl];rwa [show 5+j-5=j by omega])
   rwa [show off+(5+j)=off+5+j by omega] at this
end
section
open Go.RowKit
theorem Zmu {k:IntKind} {a b:Int} {c d:Bool} (h:a=b) (h2:c=d):Ending.returned (.tuple #[.int k a,.bool c]) = .returned (.tuple #[.int k b,.bool d]):=by rw[h,h2]
theorem Zb6 (l:List Nat):(Zad l).toList=l.map UInt8.ofNat:=by rw[ByteArray.toList_eq];simp[Zad]
theorem Zd3:∀ (a b:List Nat),(∀ y∈a,y<256)→(∀ y∈b,y<256)→a.map UInt8.ofNat=b.map UInt8.ofNat→a=b
 | [],[],_,_,_=>rfl
 | [],y::b,_,_,h=>by simp at h
 | x::a,[],_,_,h=>by simp at h
 | x::a,y::b,ha,hb,h=>by
  rw[List.map_cons,List.map_cons,List.cons.injEq] at h
  have hx:=ha x (by simp)
  have hy:=hb y (by simp)
  have h1:x=y:=by
   have:=congrArg UInt8.toNat h.1
   simp at this
   omega
  rw[h1,Zd3 a b (fun y hy=>ha y (List.mem_cons_of_mem _ hy)) (fun y hy=>hb y (List.mem_cons_of_mem _ hy)) h.2]
theorem Ztj (l:List Nat) (hb:∀ y∈l,y<256) (h:l.map UInt8.ofNat=[48]):l=[48]:=Zd3 l [48] hb (by simp) h
theorem Zw0 (w:World) :
  Calls Tryz.prog 200 #[.string (Zad [])] w fun e w'=>e = .returned (.tuple #[.int .i64 (Zxa []:Nat),.bool (Zeu [])])∧w=w':=by
 have hne:=Zf2
 go_enter Tryz.func200,Tryz.ntmps200
 go_wp2
 go_ret2
 exact⟨rfl,rfl⟩
theorem Ztk (l:List Nat) (h0:0<l.length) (w:World) (hl:l.length≤1000000) (hb:∀ y∈l,y<256) :
  Calls Tryz.prog 200 #[.string (Zad l)] w fun e w'=>e = .returned (.tuple #[.int .i64 (Zxa l:Nat),.bool (Zeu l)])∧w=w':=by
 have SZ:=ħ (Zaq l)
 have HX:Hid (∀ i:Nat,i<l.length→∀ w,(Instr.index 9 (.string (Zad l)) (.int .i64 (i:Int))).run Tryz.prog w = .ok (.int .u8 ((l.getD i 0:Nat):Int)) w):=ħ (fun i hi w=>Zf1 l i hi hb w)
 have hx:∀ w,(Instr.index 9 (.string (Zad l)) (.int .i64 0)).run Tryz.prog w = .ok (.int .u8 ((l.getD 0 0:Nat):Int)) w:=fun w=>Zf1 l 0 h0 hb w
 have HR:=ħ (fun w=>Zqn l w hl hb)
 have hne:=Zgg l (by omega)
 obtain⟨v,hv⟩:∃ v,l.getD 0 0=v:=⟨_,rfl⟩
 rw[hv] at hx
 have HV:=ħ hv
 have HT:=ħ (Zb6 l)
 have HB:=ħ hb
 clear hv hb
 generalize Zad l=t at *
 go_enter Tryz.func200,Tryz.ntmps200
 go_wp2_with fail
 refine (HR.o w).mono ?_
 rintro e w1 ⟨rfl,rfl⟩
 have hsz:=SZ.o
 by_cases hr:Zax Zd7 l=l.length
 ·have r1:((Zax Zd7 l:Nat):Int)=l.length:=by omega
  have r2:((((Zax Zd7 l:Nat):Int)) != (l.length:Int))=false:=by rw[r1];simp
  have hrb:(Zax Zd7 l != l.length)=false:=by rw[hr];simp
  have hD:=Zs2 l hr
  have hle:(l==[])=false:=by cases l with
   | nil=>simp at h0
   | cons c l=>rfl
  by_cases h13:l.length≤13
  ·have i13:¬ ((13:Int)<l.length):=by omega
   have hdb:decide (13<l.length)=false:=by simp;omega
   by_cases h48:v=48
   ·have v1:((v:Int)==48)=true:=by rw[beq_iff_eq];omega
    by_cases hq:l=[48]
    ·have q1:t.toList=[48]:=HT.o.trans (by rw[hq];rfl)
     have HOK:Hid (((l==[])||(Zax Zd7 l != l.length)||((l.getD 0 0==48)&&(l != [48]))||decide (13<l.length))=false):=ħ (by rw[hle,hrb,hdb,hq];rfl)
     clear hrb hle hdb hq
     go_wp2_with fail
     go_loop [4,31] (fun a c=>∃ i:Nat,a = .int .i64 (Zkg (l.take i):Nat)∧c = .int .i64 i∧i≤l.length) (fun _ c=>(l.length-intOf c).toNat)
     case atStart=>exact⟨0,rfl,rfl,by omega⟩
     case round =>
      obtain⟨i,rfl,rfl,hi⟩:=hrel
      have e2:IntKind.i64.wrap ((i:Int)+1)=((i+1:Nat):Int):=IntWalk.i64_in _ (by omega)
      by_cases hlt:i<l.length
      ·have hx:=HX.o i hlt
       have ii:(i:Int)<l.length:=by omega
       have HVV:=ħ (Zl5 l i hlt)
       have hd:=Zs0 (hD i hlt)
       have hp:(10:Nat)^i≤10^12:=Nat.pow_le_pow_right (by omega) (by omega)
       have hlv:=Zs1 l i (by omega) (fun j hj=>hD j (by omega))
       generalize Zkg (l.take i)=U at *
       generalize l.getD i 0=c at *
       have hU:(U:Int)<1000000000000:=by omega
       clear hp hlv
       have f1:IntKind.i64.wrap (10*(U:Int))=10*U:=IntWalk.i64_in _ (by omega)
       have f2:IntKind.u8.wrap ((c:Int)-48)=(c:Int)-48:=IntWalk.u8_in _ (by omega)
       have f3:IntKind.i64.wrap ((c:Int)-48)=(c:Int)-48:=IntWalk.i64_in _ (by omega)
       have f4:IntKind.i64.wrap (10*(U:Int)+((c:Int)-48))=((10*U+(c-48):Nat):Int):=by rw[IntWalk.i64_in _ (by omega)];omega
       go_wp2
       go_round
       case rel=>exact⟨i+1,congrArg (Value.int .i64) (by rw[HVV.o];omega),rfl,by omega⟩
       case measure=>simp[intOf];omega
      ·obtain rfl:i=l.length:=by omega
       rw[List.take_length] at *
       by_cases hmx:Zkg l≤1099511627776
       ·have i1:¬ ((1099511627776:Int)<Zkg l):=by omega
        go_wp2
        go_ret2
        exact⟨Zmu (by unfold Zxa Zeu;rw[HOK.o];simp[hmx]) (by unfold Zeu;rw[HOK.o];simp[hmx]),rfl⟩
       ·have i1:((1099511627776:Int)<Zkg l):=by omega
        go_wp2
        go_ret2
        exact⟨Zmu (by unfold Zxa Zeu;rw[HOK.o];simp[hmx]) (by unfold Zeu;rw[HOK.o];simp[hmx]),rfl⟩
    ·have q1:¬ (t.toList=[48]):=by
      intro e
      exact hq (Ztj l (HB.o) (HT.o.symm.trans e))
     go_wp2
     go_ret2
     have hq2:(l != [48])=true:=by rw[bne_iff_ne];exact hq
     have hn:Zeu l=false:=by unfold Zeu;rw[HV.o,h48,hq2];simp
     exact⟨Zmu (by unfold Zxa;rw[hn];rfl) hn.symm,rfl⟩
   ·have v1:((v:Int)==48)=false:=by rw[beq_eq_false_iff_ne];omega
    have HOK:Hid (((l==[])||(Zax Zd7 l != l.length)||((l.getD 0 0==48)&&(l != [48]))||decide (13<l.length))=false):=ħ (by rw[hle,hrb,hdb,HV.o,show (v==48)=false from beq_eq_false_iff_ne.mpr h48];rfl)
    clear hrb hle hdb
    go_wp2_with fail
    go_loop [4,31] (fun a c=>∃ i:Nat,a = .int .i64 (Zkg (l.take i):Nat)∧c = .int .i64 i∧i≤l.length) (fun _ c=>(l.length-intOf c).toNat)
    case atStart=>exact⟨0,rfl,rfl,by omega⟩
    case round =>
     obtain⟨i,rfl,rfl,hi⟩:=hrel
     have e2:IntKind.i64.wrap ((i:Int)+1)=((i+1:Nat):Int):=IntWalk.i64_in _ (by omega)
     by_cases hlt:i<l.length
     ·have hx:=HX.o i hlt
      have ii:(i:Int)<l.length:=by omega
      have HVV:=ħ (Zl5 l i hlt)
      have hd:=Zs0 (hD i hlt)
      have hp:(10:Nat)^i≤10^12:=Nat.pow_le_pow_right (by omega) (by omega)
      have hlv:=Zs1 l i (by omega) (fun j hj=>hD j (by omega))
      generalize Zkg (l.take i)=U at *
      generalize l.getD i 0=c at *
      have hU:(U:Int)<1000000000000:=by omega
      clear hp hlv
      have f1:IntKind.i64.wrap (10*(U:Int))=10*U:=IntWalk.i64_in _ (by omega)
      have f2:IntKind.u8.wrap ((c:Int)-48)=(c:Int)-48:=IntWalk.u8_in _ (by omega)
      have f3:IntKind.i64.wrap ((c:Int)-48)=(c:Int)-48:=IntWalk.i64_in _ (by omega)
      have f4:IntKind.i64.wrap (10*(U:Int)+((c:Int)-48))=((10*U+(c-48):Nat):Int):=by rw[IntWalk.i64_in _ (by omega)];omega
      go_wp2
      go_round
      case rel=>exact⟨i+1,congrArg (Value.int .i64) (by rw[HVV.o];omega),rfl,by omega⟩
      case measure=>simp[intOf];omega
     ·obtain rfl:i=l.length:=by omega
      rw[List.take_length] at *
      by_cases hmx:Zkg l≤1099511627776
      ·have i1:¬ ((1099511627776:Int)<Zkg l):=by omega
       go_wp2
       go_ret2
       exact⟨Zmu (by unfold Zxa Zeu;rw[HOK.o];simp[hmx]) (by unfold Zeu;rw[HOK.o];simp[hmx]),rfl⟩
      ·have i1:((1099511627776:Int)<Zkg l):=by omega
       go_wp2
       go_ret2
       exact⟨Zmu (by unfold Zxa Zeu;rw[HOK.o];simp[hmx]) (by unfold Zeu;rw[HOK.o];simp[hmx]),rfl⟩
  ·have i13:((13:Int)<l.length):=by omega
   have hn:Zeu l=false:=by unfold Zeu;rw[show decide (13<l.length)=true by simp;omega];simp
   go_wp2
   all_goals
    go_ret2
    exact⟨Zmu (by unfold Zxa;rw[hn];rfl) hn.symm,rfl⟩
 ·have r2:((((Zax Zd7 l:Nat):Int)) != (l.length:Int))=true:=by rw[bne_iff_ne];omega
  go_wp2
  go_ret2
  have hn:Zeu l=false:=by unfold Zeu;rw[show (Zax Zd7 l != l.length)=true by rw[bne_iff_ne];exact hr];simp
  exact⟨Zmu (by unfold Zxa;rw[hn];rfl) hn.symm,rfl⟩
theorem Zw1 (l:List Nat) (w:World) (hl:l.length≤1000000) (hb:∀ y∈l,y<256) :
  Calls Tryz.prog 200 #[.string (Zad l)] w fun e w'=>e = .returned (.tuple #[.int .i64 (Zxa l:Nat),.bool (Zeu l)])∧w=w':=by
 cases l with
 | nil=>exact Zw0 w
 | cons c l=>exact Ztk (c::l) (by simp) w hl hb
end
section
open Go.RowKit
theorem Zvl (l:List Nat) (i:Nat) (hi:i≤l.length) (w:World) :
  (Instr.slice 9 (.string (Zad l)) (some (.int .i64 (i:Int))) none none).run Tryz.prog w = .ok (.string (Zad (l.drop i))) w:=by
 rw[run_slice_string_l (ht:=Tryz.underlying9) (kl:=.i64) (l:=(i:Int)) (h0:=by omega) (h1:=by rw[Zaq];omega),Int.toNat_natCast,Zqp]
theorem Zpr (l:List Nat) (i:Nat) (hi:i≤l.length) (w:World) :
  (Instr.slice 9 (.string (Zad l)) none (some (.int .i64 (i:Int))) none).run Tryz.prog w = .ok (.string (Zad (l.take i))) w:=by
 rw[run_slice_string_h (ht:=Tryz.underlying9) (kh:=.i64) (h:=(i:Int)) (h0:=by omega) (h2:=by rw[Zaq];omega),Int.toNat_natCast,Zqq _ _ hi]
theorem Z7b (l:List Nat) (w:World) (hl:l.length≤1000000) (hb:∀ y∈l,y<256) :
  Calls Tryz.prog 133 #[.string (Zad l)] w fun e w'=>e = .returned (.int .i64 (Zgr l:Nat))∧w=w':=by
 have SZ:=ħ (Zaq l)
 have HX:Hid (∀ i:Nat,i<l.length→∀ w,(Instr.index 9 (.string (Zad l)) (.int .i64 (i:Int))).run Tryz.prog w = .ok (.int .u8 ((l.getD i 0:Nat):Int)) w):=ħ (fun i hi w=>Zf1 l i hi hb w)
 have HS:Hid (∀ i:Nat,i≤l.length→∀ w,(Instr.slice 9 (.string (Zad l)) (some (.int .i64 (i:Int))) none none).run Tryz.prog w = .ok (.string (Zad (l.drop i))) w):=ħ (fun i hi w=>Zvl l i hi w)
 have HR:=ħ (fun (i:Nat) (w:World)=>Zqo (l.drop i) w (by rw[List.length_drop];omega) (fun y hy=>hb y (List.mem_of_mem_drop hy)))
 have HR0:=ħ (Zqo l w hl hb)
 clear hb
 generalize Zad l=t at *
 go_enter Tryz.func133,Tryz.ntmps133
 go_wp2_with fail
 refine HR0.o.mono ?_
 rintro e w1 ⟨rfl,rfl⟩
 go_wp2_with fail
 go_loop [3] (fun c=>∃ i:Nat,c = .int .i64 i∧i≤l.length∧Hid (Zgr l=i+Zct false (l.drop i))∧Hid (i<l.length→Zjg (l.getD i 0)=false)) (fun c=>(l.length-intOf c).toNat)
 case atStart =>
  have h:=Zsz l 0
  simp only[List.drop_zero,Nat.zero_add] at h
  exact⟨Zax Zjg l,rfl,Zgc _ _,ħ h.1,ħ h.2⟩
 case round =>
  obtain⟨i,rfl,hi,hz,hn⟩:=hrel
  have hsz:=SZ.o
  by_cases hlt:i<l.length
  ·have hx:=HX.o i hlt
   have ii:(i:Int)<l.length:=by omega
   obtain⟨v,hv⟩:∃ v,l.getD i 0=v:=⟨_,rfl⟩
   rw[hv] at hx
   have HV:=ħ hv
   clear hv
   by_cases h35:v=35
   ·have c1:((v:Int)==35)=true:=by rw[beq_iff_eq];omega
    go_wp2_with fail
    go_loop [3] (fun c=>∃ j:Nat,c = .int .i64 j∧i≤j∧j≤l.length∧Hid (Zgr l=j+Zct true (l.drop j))) (fun c=>(l.length-intOf c).toNat)
    case atStart=>exact⟨i,rfl,Nat.le_refl _,hi,ħ (by rw[← Z20 l i hlt (HV.o.trans h35)];exact hz.o)⟩
    case round =>
     obtain⟨j,rfl,hij,hj,hy⟩:=hrel
     clear hx
     have e2:IntKind.i64.wrap ((j:Int)+1)=((j+1:Nat):Int):=IntWalk.i64_in _ (by omega)
     have hout:(j<l.length→l.getD j 0=10)→i<j:=fun h=>by
      rcases Nat.lt_or_ge i j with h2 | h2
      ·exact h2
      ·obtain rfl:i=j:=by omega
       have:=h hlt
       have:=HV.o
       omega
     have HOUT:=ħ hout
     clear hout
     have hrn:j+Zax Zjg (l.drop j)≤l.length:=by
      have:=Zgc Zjg (l.drop j)
      rw[List.length_drop] at this
      omega
     have e3:IntKind.i64.wrap ((j:Int)+(Zax Zjg (l.drop j):Nat))=((j+Zax Zjg (l.drop j):Nat):Int):=by rw[IntWalk.i64_in _ (by omega)];omega
     have HS1:=HS.o j hj
     by_cases hjl:j<l.length
     ·have hx:=HX.o j hjl
      have jj:(j:Int)<l.length:=by omega
      obtain⟨u,hu⟩:∃ v,l.getD j 0=v:=⟨_,rfl⟩
      rw[hu] at hx
      have HU:=ħ hu
      clear hu
      by_cases h10:u=10
      ·have c2:((u:Int) != 10)=false:=by rw[h10];rfl
       have hlast:=HOUT.o (fun _=>HU.o.trans h10)
       go_wp2_with fail
       refine (HR.o j _).mono ?_
       rintro e w1 ⟨rfl,rfl⟩
       go_wp2
       go_round
       case rel =>
        have h:=Zsz l j
        exact⟨j+Zax Zjg (l.drop j),rfl,hrn,ħ (by rw[hy.o,Zuj l j (fun _=>HU.o.trans h10)];omega),ħ h.2⟩
       case measure=>simp[intOf];omega
      ·have c2:((u:Int) != 10)=true:=by rw[bne_iff_ne];omega
       go_wp2
       go_round
       case rel=>exact⟨j+1,rfl,by omega,by omega,ħ (by rw[hy.o,Z73 l j hjl (by rw[HU.o];exact h10)];omega)⟩
       case measure=>simp[intOf];omega
     ·have jj:¬ ((j:Int)<l.length):=by omega
      have hlast:=HOUT.o (fun h=>absurd h hjl)
      go_wp2_with fail
      refine (HR.o j _).mono ?_
      rintro e w1 ⟨rfl,rfl⟩
      go_wp2
      go_round
      case rel =>
       have h:=Zsz l j
       exact⟨j+Zax Zjg (l.drop j),rfl,hrn,ħ (by rw[hy.o,Zuj l j (fun h=>absurd h hjl)];omega),ħ h.2⟩
      case measure=>simp[intOf];omega
   ·have c1:((v:Int)==35)=false:=by rw[beq_eq_false_iff_ne];omega
    go_wp2
    go_ret
    exact⟨Za2 (by rw[hz.o,Zyf l i hn.o (fun _=>by rw[HV.o];exact h35)];rfl),rfl⟩
  ·obtain rfl:i=l.length:=by omega
   go_wp2
   go_ret
   exact⟨Za2 (by rw[hz.o,Zyf l l.length hn.o (fun h=>absurd h (Nat.lt_irrefl _))];rfl),rfl⟩
end
end Go.Proofs.YtmkdfbelbcocpaaGreatDoor
