import Derived.Deep.CutBlock
import Derived.Deep.DeepCutAuto
import Derived.Test.YtmkdfbelbcocpaaGreatDoorHP15
set_option linter.unusedVariables false
set_option linter.unusedSimpArgs false
set_option maxHeartbeats 16000000
set_option maxRecDepth 100000
namespace Go.Proofs.YtmkdfbelbcocpaaGreatDoor
section
open Go.RowKit
def iv64 (l:List Nat):List Value:=l.map (fun (n:Nat)=>Value.int .i64 (n:Int))
theorem iv64_add (l:List Nat) (n:Nat):iv64 l++[Value.int .i64 (n:Int)]=iv64 (l++[n]):=by simp[iv64]
theorem made0 (w:World) (T:TypeId) (k:Nat):OwnK (w.alloc (.cells #[] T)) w.heap.size k 0 0 [] (some ⟨w.heap.size,0,none⟩) :=
 .at w.heap.size 0 ⟨Nat.le_refl _,by simp,by simp,fun j u hj=>by simp at hj,fun j hj=>by omega,fun j hj=>by omega⟩ (by simp) (by decide) (Nat.le_refl _)
structure PairW (w:World) (B n c1 c2:Nat) (a1 a2:Option Addr) (acc:List (Nat×Nat)):Prop where
 lo:OwnK w B 1 n c1 (iv64 (acc.map Prod.fst)) a1
 hi:OwnK w B 1 n c2 (iv64 (acc.map Prod.snd)) a2
 ne:blk a2≠blk a1∨blk a2=none
theorem PairW.step {w w':World} {B n c1 c2:Nat} {a1 a2:Option Addr} {acc:List (Nat×Nat)} (h:PairW w B n c1 c2 a1 a2 acc) (hb:Below w.heap.size w w'):PairW w' B n c1 c2 a1 a2 acc:=⟨h.lo.below hb,h.hi.below hb,h.ne⟩
theorem ownK_only {w w':World} {B k n cap R:Nat} {xs:List Value} {ao:Option Addr} (h:OwnK w B k n cap xs ao) (hb:Only w w' (· = R)) (hR:R<B):OwnK w' B k n cap xs ao :=
 h.of_block (fun g e hl=>hb.block g hl (fun e'=>by have:=(h.blk_lt e).1;omega)) hb.size
theorem PairW.only {w w':World} {B n c1 c2 R:Nat} {a1 a2:Option Addr} {acc:List (Nat×Nat)} (h:PairW w B n c1 c2 a1 a2 acc) (hb:Only w w' (· = R)) (hR:R<B):PairW w' B n c1 c2 a1 a2 acc:=⟨ownK_only h.lo hb hR,ownK_only h.hi hb hR,h.ne⟩
theorem PairW.upd {w w':World} {B n c1 c2 g:Nat} {a1 a2:Option Addr} {acc:List (Nat×Nat)} (h:PairW w B n c1 c2 a1 a2 acc) (hu:Upd w w' g) (hg:g<B):PairW w' B n c1 c2 a1 a2 acc :=
 ⟨h.lo.of_block (fun x e hl=>hu.block x (fun e'=>by have:=(h.lo.blk_lt e).1;omega)) (Nat.le_of_eq hu.size.symm),h.hi.of_block (fun x e hl=>hu.block x (fun e'=>by have:=(h.hi.blk_lt e).1;omega)) (Nat.le_of_eq hu.size.symm),h.ne⟩
theorem PairW.len {w:World} {B n c1 c2:Nat} {a1 a2:Option Addr} {acc:List (Nat×Nat)} (h:PairW w B n c1 c2 a1 a2 acc):acc.length=n:=by
 have:=h.lo.count
 simp[iv64] at this
 exact this
theorem PairW.step1 {wd w':World} {B n c1 c2 c' g off:Nat} {a1 a2:Option Addr} {acc:List (Nat×Nat)} {xs:List Value} (h:PairW wd B n c1 c2 a1 a2 acc) (o:OwnK w' B 1 (n+1) c' xs (some ⟨g,off,none⟩)) (gr:wd.grownBy w' (blk a1)) (hor:blk a1=some g∨wd.heap.size≤g) :
  OwnK w' B 1 n c2 (iv64 (acc.map Prod.snd)) a2∧(blk a2≠some g∨blk a2=none):=by
 refine⟨h.hi.grown gr h.ne,?_⟩
 rcases h.ne with h1 | h1
 ·left
  intro e
  rcases hor with h2 | h2
  ·exact h1 (e.trans h2.symm)
  ·have:=(h.hi.blk_lt e).2;omega
 ·exact .inr h1
theorem PairW.step2 {w1 w2:World} {B n c1' c2' g off g2 off2 m k:Nat} {a2:Option Addr} {acc:List (Nat×Nat)} (o1:OwnK w1 B 1 (n+1) c1' (iv64 (acc.map Prod.fst)++[Value.int .i64 (m:Int)]) (some ⟨g,off,none⟩)) (ne:blk a2≠some g∨blk a2=none)
  (o2:OwnK w2 B 1 (n+1) c2' (iv64 (acc.map Prod.snd)++[Value.int .i64 (k:Int)]) (some ⟨g2,off2,none⟩)) (gr:w1.grownBy w2 (blk a2)) (hor:blk a2=some g2∨w1.heap.size≤g2) :
  PairW w2 B (n+1) c1' c2' (some ⟨g,off,none⟩) (some ⟨g2,off2,none⟩) (acc++[(m,k)]):=by
 have hg:g<w1.heap.size:=(o1.blk_lt rfl).2
 refine⟨?_,?_,.inl ?_⟩
 ·rw[List.map_append]
  show OwnK w2 B 1 (n+1) c1' (iv64 (acc.map Prod.fst++[m])) _
  rw[← iv64_add]
  exact o1.of_block (fun x e hl=>gr.block x hl (fun e'=>by
   obtain rfl:g=x:=Option.some.inj e
   rcases ne with h1 | h1
   ·exact h1 e'.symm
   ·rw[h1] at e';cases e')) gr.size
 ·rw[List.map_append]
  show OwnK w2 B 1 (n+1) c2' (iv64 (acc.map Prod.snd++[k])) _
  rw[← iv64_add]
  exact o2
 ·intro e
  obtain rfl:g2=g:=Option.some.inj e
  rcases hor with h1 | h1
  ·rcases ne with h2 | h2
   ·exact h2 h1
   ·rw[h2] at h1;cases h1
  ·omega
def PairC (w:World) (lo K n:Nat) (a1 a2:Option Addr) (acc:List (Nat×Nat)):Prop:=∀ i,i<n→∃ g1 o1 g2 o2 p,a1=some ⟨g1,o1,none⟩∧a2=some ⟨g2,o2,none⟩∧acc[i]?=some p∧lo≤g1∧g1<K∧lo≤g2∧g2<K ∧
 w.cell? ⟨g1,o1+i,none⟩=some (.int .i64 (p.1:Int))∧w.cell? ⟨g2,o2+i,none⟩=some (.int .i64 (p.2:Int))
theorem PairC.keep {w w':World} {lo K n:Nat} {a1 a2:Option Addr} {acc:List (Nat×Nat)} (h:PairC w lo K n a1 a2 acc) (hb:∀ g,lo≤g→g<K→w'.heap[g]?=w.heap[g]?):PairC w' lo K n a1 a2 acc:=by
 intro i hi
 obtain⟨g1,o1,g2,o2,p,h1,h2,h3,h4,h5,h6,h7,h8,h9⟩:=h i hi
 exact⟨g1,o1,g2,o2,p,h1,h2,h3,h4,h5,h6,h7,by rw[← h8];unfold World.cell?;rw[hb g1 h4 h5],by rw[← h9];unfold World.cell?;rw[hb g2 h6 h7]⟩
theorem PairW.read {w:World} {B n c1 c2:Nat} {a1 a2:Option Addr} {acc:List (Nat×Nat)} (h:PairW w B n c1 c2 a1 a2 acc):PairC w B w.heap.size n a1 a2 acc:=by
 intro i hi
 have hl:=h.len
 obtain⟨p,hp⟩:∃ p,acc[i]?=some p:=⟨_,List.getElem?_eq_getElem (by omega)⟩
 obtain⟨lo,hh,hne⟩:=h
 cases lo with
 | nil h0 h1 h2=>omega
 | «at» g1 o1 q1 k1 l1 m1 =>
  cases hh with
  | nil h0 h1 h2=>omega
  | «at» g2 o2 q2 k2 l2 m2 =>
   exact⟨g1,o1,g2,o2,p,rfl,rfl,hp,q1.own,q1.lt,q2.own,q2.lt,q1.cells i _ (by simp[iv64,hp]),q2.cells i _ (by simp[iv64,hp])⟩
theorem rng_round (ts:List Tok) (sz f j:Nat) (acc:List (Nat×Nat)) (m n:Nat) (s2:StP) (hm:nmbV (numP ts sz j)=m)
  (h:(isS ts [46,46] (nxS (numP ts sz j))=false∧n=m∧s2=nxS (numP ts sz j))∨(∃ q,nxS (numP ts sz j) = .ok q∧isP ts [46,46] q=true∧n=nmbV (numP ts sz (q+1))∧s2=nxS (numP ts sz (q+1)))) :
  rangesP ts sz (f+1) j acc=(if n<m then failS ts sz 3 j s2 else s2).bind (fun k=>if isP ts [44] k=true then rangesP ts sz f (k+1) (acc++[(m,n)]) else .ok (acc++[(m,n)],k)):=by
 rw[rangesP]
 cases hr:numP ts sz j with
 | error z =>
  rw[hr] at h hm
  rcases h with ⟨h1,rfl,rfl⟩ | ⟨q,h1,-⟩
  ·rw[if_neg (Nat.lt_irrefl _)];rfl
  ·cases h1
 | ok p =>
  rw[hr] at h hm
  have hm':p.1=m:=hm
  rcases h with ⟨h1,rfl,rfl⟩ | ⟨q,h1,h2,rfl,rfl⟩
  ·have h1':isP ts [46,46] p.2=false:=h1
   rw[if_neg (Nat.lt_irrefl _),ok_bind,if_neg (by rw[h1'];simp),ok_bind,if_neg (Nat.lt_irrefl _),hm']
   rfl
  ·have hq:p.2=q:=by injection h1
   subst hq
   rw[ok_bind,if_pos h2]
   cases hr2:numP ts sz (p.2+1) with
   | error z =>
    show Except.error z=_
    by_cases hh:nmbV (.error z:PR Nat)<m
    ·rw[if_pos hh];rfl
    ·rw[if_neg hh];rfl
   | ok p2 =>
    rw[ok_bind]
    show (if p2.1<p.1 then _ else _)=(if p2.1<m then _ else _:StP).bind _
    rw[← hm']
    by_cases hh:p2.1<p.1
    ·rw[if_pos hh,if_pos hh];rfl
    ·rw[if_neg hh,if_neg hh];rfl
theorem nmb_le {ts:List Tok} {sz:Nat} (hts:∀ t∈ts,TokOk t) (j:Nat):nmbV (numP ts sz j)≤1099511627776:=by
 unfold numP
 by_cases h:isNumP ts j=true
 ·rw[if_pos h];exact valP_le hts j
 ·rw[if_neg h];exact Nat.zero_le _
def RngE (RG:PR (List (Nat×Nat))) (s:StP) (acc:List (Nat×Nat)):Prop:=(∀ q,RG = .ok q→q.1=acc)∧nxS RG=s
theorem rng_stop (ts:List Tok) (f:Nat→StP→PR (List (Nat×Nat))) (s:StP) (acc:List (Nat×Nat)) (g:Nat→PR (List (Nat×Nat))) (hw:isS ts [44] s=false):RngE (s.bind (fun k=>if isP ts [44] k=true then g k else .ok (acc,k))) s acc:=by
 cases s with
 | error z=>exact⟨(fun q hq=>by cases hq),rfl⟩
 | ok k =>
  have h:isP ts [44] k=false:=hw
  rw[ok_bind,if_neg (by rw[h];simp)]
  exact⟨(fun q hq=>by cases hq;rfl),rfl⟩
def memE (ts:List Tok) (sz:Nat) (a:SumV) (u:Nat) (s:StP) (acc:List (Nat×Nat)):PR Prd:=(s.bind (takeP ts sz [125])).bind (fun k=>if acc.all (rngOk a)=true then .ok (oneP 2 (acc.map (rngP a)),k) else .error (3,offP ts sz u))
theorem mem_split (ts:List Tok) (sz:Nat) (a:SumV) (u:Nat) (st s:StP) (acc:List (Nat×Nat)) (h:RngE ((st.bind (takeP ts sz [123])).bind (fun j=>rangesP ts sz (ts.length+1) j [])) s acc):st.bind (memberP ts sz a u)=memE ts sz a u s acc:=by
 have e:st.bind (memberP ts sz a u)=((st.bind (takeP ts sz [123])).bind (fun j=>rangesP ts sz (ts.length+1) j [])).bind (fun r=>(takeP ts sz [125] r.2).bind (fun k=>if r.1.all (rngOk a)=true then (.ok (oneP 2 (r.1.map (rngP a)),k):PR Prd) else .error (3,offP ts sz u))):=by
  cases st with
  | error z=>rfl
  | ok i =>
   simp only[ok_bind]
   unfold memberP
   generalize takeP ts sz [123] i=t1
   cases t1 with
   | error z=>rfl
   | ok j=>rfl
 rw[e]
 obtain⟨h1,h2⟩:=h
 unfold memE
 generalize (st.bind (takeP ts sz [123])).bind (fun j=>rangesP ts sz (ts.length+1) j [])=RG at *
 cases RG with
 | error z=>rw[← h2];rfl
 | ok q=>rw[← h2,← h1 q rfl];rfl
def memS (ts:List Tok) (sz:Nat) (a:SumV) (u k:Nat) (l:List (Nat×Nat)):StP:=if l.all (rngOk a)=true then .ok k else .error (3,offP ts sz u)
theorem memS_step (ts:List Tok) (sz:Nat) (a:SumV) (u k i:Nat) (acc:List (Nat×Nat)) (p:Nat×Nat) (hp:acc[i]?=some p) :
  memS ts sz a u k (acc.take (i+1))=atS ts sz u (mostP a ([],(p.2:Int)) 0) (atS ts sz u (mostP ([],(p.1:Int)) a 0) (memS ts sz a u k (acc.take i))):=by
 have e:acc.take (i+1)=acc.take i++[p]:=by rw[List.take_add_one,hp];rfl
 unfold memS atS failS
 rw[e,List.all_append]
 have e2:[p].all (rngOk a)=(inP (mostP ([],(p.1:Int)) a 0)&&inP (mostP a ([],(p.2:Int)) 0)):=by simp[rngOk]
 rw[e2]
 cases h1:(acc.take i).all (rngOk a)<;>cases h2:inP (mostP ([],(p.1:Int)) a 0)<;>cases h3:inP (mostP a ([],(p.2:Int)) 0)<;>rfl
theorem smember_any (w:World) (R:Nat) (ao:Option Addr) (cap:Nat) (ts:List Tok) (sz:Nat) (st:StP) (u:Nat) (a:SumV) (h:SrcS w R ao cap ts sz st) (hn:ts.length≤1000000) (hts:∀ t∈ts,TokOk t) (hu:u≤ts.length) (ha:∀ i,st = .ok i→SumOk a) :
  Calls Tryz.prog 252 #[.pointer (some ⟨R,0,none⟩),.string (strN a.1),.int .i64 a.2,.int .i64 (u:Int)] w fun e w'=>PrdQ w R ao cap ts sz (st.bind (memberP ts sz a u)) e w':=by
 obtain⟨RR,hRR⟩:∃ RR,st.bind (memberP ts sz a u)=RR:=⟨_,rfl⟩
 rw[hRR]
 have HSP:Hid (∀ s acc,RngE ((st.bind (takeP ts sz [123])).bind (fun j=>rangesP ts sz (ts.length+1) j [])) s acc→RR=memE ts sz a u s acc):=ħ (fun s acc h=>by rw[← hRR];exact mem_split ts sz a u st s acc h)
 have HN:=ħ hn
 have HTS:=ħ hts
 have HT1:=ħ (fun W (hW:SrcS W R ao cap ts sz st)=>take_s W R ao cap ts sz st [123] hW hn hts (by decide))
 obtain⟨s1,hs1⟩:∃ s,st.bind (takeP ts sz [123])=s:=⟨_,rfl⟩
 rw[hs1] at HT1 HSP
 have HAA:Hid (∀ j,s1 = .ok j→SumOk a):=ħ (fun j hj=>by obtain⟨i,h1,-⟩:=take_from (hs1.trans hj);exact ha i h1)
 obtain⟨RG,hRG⟩:∃ r,s1.bind (fun j=>rangesP ts sz (ts.length+1) j [])=r:=⟨_,rfl⟩
 rw[hRG] at HSP
 have HRG:=ħ hRG
 have H0:=ħ h
 have RL:=ħ h.lt
 have HU:=ħ hu
 have HAT:Hid (∀ (w:World) (P:Nat→Prop) (g m n:Nat) (D1 D2:Int),a.2-(m:Int)-0=D1→(n:Int)-a.2-0=D2→P g→g<w.heap.size→Reads w g 0 (atomC [] a.1 D1++atomC a.1 [] D2)→PredC w P (rngP a (m,n)) (kidV 1 0 (some ⟨g,0,none⟩) 2 2)):=ħ (fun w P g m n D1 D2 h1 h2 hP hg hr=>by
  subst h1 h2
  unfold rngP PredC
  refine⟨_,_,rfl,.inr ⟨g,0,rfl,hP,hg,KidsC.of _ [atomC [] a.1 (a.2-(m:Int)-0),atomC a.1 [] ((n:Int)-a.2-0)] g 0 rfl (fun i p vs hp hv=>?_) (by simpa using hr)⟩⟩
  match i,hp,hv with
  | 0,hp,hv=>cases hp;cases hv;exact atomC_pred _ _ _ _ _
  | 1,hp,hv=>cases hp;cases hv;exact atomC_pred _ _ _ _ _
  | i+2,hp,hv=>simp at hp)
 have HA1:Hid (∀ D,(atomC [] a.1 D).toArray=#[.int .i64 0,.string ⟨#[]⟩,.string (strN a.1),.int .i64 D,.slice none 0 0]):=ħ (fun D=>rfl)
 have HA2:Hid (∀ D,(atomC a.1 [] D).toArray=#[.int .i64 0,.string (strN a.1),.string ⟨#[]⟩,.int .i64 D,.slice none 0 0]):=ħ (fun D=>rfl)
 have HA3:Hid (∀ D1 D2,atomC [] a.1 D1++atomC a.1 [] D2=[.int .i64 0,.string ⟨#[]⟩,.string (strN a.1),.int .i64 D1,.slice none 0 0,.int .i64 0,.string (strN a.1),.string ⟨#[]⟩,.int .i64 D2,.slice none 0 0]):=ħ (fun D1 D2=>rfl)
 have HM1:Hid (SumOk a→∀ (m:Nat) (s:StP) (W:World),m≤1099511627776→SrcS W R ao cap ts sz s→Calls Tryz.prog 296 #[.pointer (some ⟨R,0,none⟩),.string ⟨#[]⟩,.int .i64 (m:Int),.string (strN a.1),.int .i64 a.2,.int .i64 0,.int .i64 (u:Int)] W fun e w'=>e = .returned (.agg (atomC [] a.1 (a.2-(m:Int)-0)).toArray)∧SrcS w' R ao cap ts sz (atS ts sz u (mostP ([],(m:Int)) a 0) s)∧Only W w' (· = R)) :=
  ħ (fun hsa m s W hm hW=>satom_any W R ao cap ts sz s u ([],(m:Int)) a 0 hW hn hu ⟨by simp only;omega,by simp only;omega,by simp,by simp⟩ hsa (by decide) (by decide))
 have HM2:Hid (SumOk a→∀ (m:Nat) (s:StP) (W:World),m≤1099511627776→SrcS W R ao cap ts sz s→Calls Tryz.prog 296 #[.pointer (some ⟨R,0,none⟩),.string (strN a.1),.int .i64 a.2,.string ⟨#[]⟩,.int .i64 (m:Int),.int .i64 0,.int .i64 (u:Int)] W fun e w'=>e = .returned (.agg (atomC a.1 [] ((m:Int)-a.2-0)).toArray)∧SrcS w' R ao cap ts sz (atS ts sz u (mostP a ([],(m:Int)) 0) s)∧Only W w' (· = R)) :=
  ħ (fun hsa m s W hm hW=>satom_any W R ao cap ts sz s u a ([],(m:Int)) 0 hW hn hu hsa ⟨by simp only;omega,by simp only;omega,by simp,by simp⟩ (by decide) (by decide))
 simp only[HA1.o] at HM1
 simp only[HA2.o] at HM2
 simp only[HA3.o] at HAT
 clear HA1 HA2 HA3 h hn hts ha hu hRR hs1 hRG
 generalize hx:strN a.1=x at *
 generalize ha2:a.2=a2 at *
 clear hx ha2
 have B0:=ħ ((((Below.refl w.heap.size w).alloc (Nat.le_refl _) (.cells #[.int .i64 0,.string ⟨#[]⟩,.string ⟨#[]⟩,.int .i64 0,.slice none 0 0] 25)).alloc (by simp) (.cells #[] 3)).alloc (by simp;omega) (.cells #[] 3))
 have X0:Hid (HasV (((w.alloc (.cells #[.int .i64 0,.string ⟨#[]⟩,.string ⟨#[]⟩,.int .i64 0,.slice none 0 0] 25)).alloc (.cells #[] 3)).alloc (.cells #[] 3)) w.heap.size 25 zP):=ħ (heap_alloc3_old w _ _ _)
 have Q0:Hid (PairW (((w.alloc (.cells #[.int .i64 0,.string ⟨#[]⟩,.string ⟨#[]⟩,.int .i64 0,.slice none 0 0] 25)).alloc (.cells #[] 3)).alloc (.cells #[] 3)) (w.heap.size+1) 0 0 0 (some ⟨w.heap.size+1,0,none⟩) (some ⟨w.heap.size+1+1,0,none⟩) []):=ħ (by
  have h1:=made0 (w.alloc (.cells #[.int .i64 0,.string ⟨#[]⟩,.string ⟨#[]⟩,.int .i64 0,.slice none 0 0] 25)) 3 1
  have h2:=made0 ((w.alloc (.cells #[.int .i64 0,.string ⟨#[]⟩,.string ⟨#[]⟩,.int .i64 0,.slice none 0 0] 25)).alloc (.cells #[] 3)) 3 1
  rw[show (w.alloc (.cells #[.int .i64 0,.string ⟨#[]⟩,.string ⟨#[]⟩,.int .i64 0,.slice none 0 0] 25)).heap.size=w.heap.size+1 by simp] at h1
  rw[show ((w.alloc (.cells #[.int .i64 0,.string ⟨#[]⟩,.string ⟨#[]⟩,.int .i64 0,.slice none 0 0] 25)).alloc (.cells #[] 3)).heap.size=w.heap.size+1+1 by simp] at h2
  exact⟨h1.below ((Below.refl _ _).alloc (Nat.le_refl _) _),h2.lower (by omega),.inl (fun e=>by have:=Option.some.inj e;simp only at this;omega)⟩)
 have H1:=ħ (H0.o.step B0.o)
 have O1:=ħ (Only.of_below (p:=(· = R)) B0.o)
 clear B0
 go_enter Tryz.func252,Tryz.ntmps252
 go_wp2_with fail
 generalize (((w.alloc (.cells #[.int .i64 0,.string ⟨#[]⟩,.string ⟨#[]⟩,.int .i64 0,.slice none 0 0] 25)).alloc (.cells #[] 3)).alloc (.cells #[] 3))=w1 at *
 refine (HT1.o w1 H1.o).mono ?_
 rintro e w2 ⟨rfl,h2,o2⟩
 have H2:=ħ h2
 have O2:=ħ (O1.o.trans o2)
 have X2:=ħ (X0.o.only o2 (by have:=RL.o;omega))
 have Q2:=ħ (Q0.o.only o2 (by have:=RL.o;omega))
 clear h2 o2 H1 O1 X0 Q0 HT1
 have RV:Hid (RG=s1.bind (fun j=>rangesP ts sz (ts.length+1) j [])):=ħ HRG.o.symm
 clear HRG
 go_upto_block 0 with (fail)
 go_cut [9,10] (fun lo hi wx=>∃ (s:StP) (n c1 c2:Nat) (a1 a2:Option Addr) (acc:List (Nat×Nat)),lo = .slice a1 n c1∧hi = .slice a2 n c2∧n≤ts.length+1∧Hid (PairW wx (w.heap.size+1) n c1 c2 a1 a2 acc)∧Hid (HasV wx w.heap.size 25 zP)∧Hid (SrcS wx R ao cap ts sz s)∧Hid (Only w wx (· = R)) ∧
   Hid (RngE RG s acc)∧Hid (∀ p∈acc,p.1≤1099511627776∧p.2≤1099511627776)∧Hid ((∃ j,s = .ok j)→SumOk a))
 case first =>
  go_wp2_with fail
  go_loopw [9,10] (fun lo hi wr=>∃ (s:StP) (f n c1 c2:Nat) (a1 a2:Option Addr) (acc:List (Nat×Nat)),lo = .slice a1 n c1∧hi = .slice a2 n c2∧n≤ts.length+1∧Hid (PairW wr (w.heap.size+1) n c1 c2 a1 a2 acc)∧Hid (HasV wr w.heap.size 25 zP)∧Hid (SrcS wr R ao cap ts sz s)∧Hid (Only w wr (· = R)) ∧
    Hid (RG=s.bind (fun j=>rangesP ts sz f j acc))∧Hid (∀ j,s = .ok j→n≤j∧j≤ts.length∧ts.length-j<f∧SumOk a)∧Hid (∀ p∈acc,p.1≤1099511627776∧p.2≤1099511627776)) (fun _ _ wr=>mS wr R ts.length)
  case atStart=>exact⟨s1,ts.length+1,0,0,0,_,_,[],rfl,rfl,by omega,Q2,X2,H2,O2,RV,ħ (fun j hj=>by
   have hh:=H2.o
   rw[hj] at hh
   exact⟨Nat.zero_le _,hh.1,by have:=hh.1;omega,HAA.o j hj⟩),ħ (fun p hp=>by simp at hp)⟩
  case round =>
   clear Q2 X2 H2 O2 RV
   obtain⟨s,f,n,c1,c2,a1,a2',acc,rfl,rfl,hnl,hpw,hz,hp,ho,hv,hj,hbd⟩:=hrel
   cases s with
   | error z =>
    have HE:Hid (RngE RG (.error z) acc):=ħ ⟨(fun q hq=>by rw[hv.o] at hq;cases hq),by rw[hv.o];rfl⟩
    obtain⟨hz0,i4,hi4,hs4⟩:=hp.o
    have hzb:(z.1==0)=false:=beq_eq_false_iff_ne.mpr hz0
    obtain⟨d0,d1,d2,d3,d4⟩:=hs4.cells
    clear d0 d1 d2 d4 hs4 hz0 hi4 hv hj
    go_wp2_with fail
    go_meet
    case rel=>exact⟨.error z,n,c1,c2,a1,a2',acc,rfl,rfl,hnl,hpw,hz,hp,ho,HE,hbd,ħ (fun ⟨j,hh⟩=>by cases hh)⟩
   | ok j =>
    have HJ:=ħ (hj.o j rfl)
    have HID:Hid (mS wr R ts.length=ts.length+2-j):=ħ (mS_ok hp.o)
    have HFF:Hid (∃ f',f=f'+1):=ħ ⟨f-1,by have:=HJ.o.2.2.1;omega⟩
    obtain⟨f',hf'⟩:=HFF.o
    subst hf'
    rw[ok_bind] at hv
    have HRD:=ħ (fun m n s2 hm hh=>rng_round ts sz f' j acc m n s2 hm hh)
    obtain⟨y,hy⟩:=hp.o.at
    obtain⟨d0,d1,d2,d3,d4⟩:=hy.cells
    have HN1:=ħ (fun W (hW:SrcS W R ao cap ts sz (.ok j))=>num_s W R ao cap ts sz (.ok j) hW HN.o)
    simp only[ok_bind] at HN1
    have HM:=ħ (nmb_le (sz:=sz) HTS.o j)
    have HQ1:Hid (∀ q,nxS (numP ts sz j) = .ok q→q=j+1∧q≤ts.length):=ħ (fun q hq=>by
     obtain⟨i,h1,rfl⟩:=numb_from (s:=.ok j) hq
     cases h1
     unfold numP at hq
     by_cases hb:isNumP ts j=true
     ·exact⟨rfl,isNumP_lt hb⟩
     ·rw[if_neg hb] at hq;cases hq)
    obtain⟨m,hm⟩:∃ m,nmbV (numP ts sz j)=m:=⟨_,rfl⟩
    obtain⟨sA,hsA⟩:∃ s,nxS (numP ts sz j)=s:=⟨_,rfl⟩
    rw[hm] at HN1 HM HRD
    rw[hsA] at HN1 HQ1 HRD
    have HRD2:=ħ (fun n s2 hh=>HRD.o m n s2 rfl hh)
    have HIS:=ħ (fun W (hW:SrcS W R ao cap ts sz sA)=>is_s W R ao cap ts sz sA [46,46] hW HN.o HTS.o (by decide))
    clear d0 d2 d4 hy hj HRD hm hsA
    go_wp2_with fail
    refine (HN1.o wr hp.o).mono ?_
    rintro e w4 ⟨rfl,h4,o4⟩
    have H4:=ħ h4
    have O4:=ħ (ho.o.trans o4)
    have Z4:=ħ (hz.o.only o4 (by have:=RL.o;omega))
    have Q4:=ħ (hpw.o.only o4 (by have:=RL.o;omega))
    clear h4 o4 ho hz hpw d1 d3 HN1 hp
    obtain⟨b,hb⟩:∃ b,isS ts [46,46] sA=b:=⟨_,rfl⟩
    rw[hb] at HIS
    have HB:=ħ hb
    clear hb
    go_wp2_with fail
    refine (HIS.o w4 H4.o).mono ?_
    rintro e w5 ⟨rfl,b5⟩
    have H5:=ħ (H4.o.step b5)
    have O5:=ħ (O4.o.step b5)
    have Z5:=ħ (Z4.o.step b5)
    have Q5:=ħ (Q4.o.step b5)
    clear b5 H4 O4 Z4 Q4 HIS
    cases b with
    | false =>
     have HV2:Hid (RG=sA.bind (fun k=>if isP ts [44] k=true then rangesP ts sz f' (k+1) (acc++[(m,m)]) else .ok (acc++[(m,m)],k))):=ħ (by
      rw[hv.o,HRD2.o m sA (.inl ⟨HB.o,rfl,rfl⟩),if_neg (Nat.lt_irrefl _)])
     have HK2:Hid (∀ q,sA = .ok q→j+1≤q∧q≤ts.length):=ħ (fun q hq=>by have:=HQ1.o q hq;omega)
     have HMM:Hid (m≤1099511627776):=HM
     clear hv HRD2 HQ1
     go_upto_region 13 with (fail)
     have hln:=HJ.o
     have hnn:=HN.o
     go_upto_region 14 with (at_builtin;refine app_k 60 3 (.int .i64 0) 1 8 Tryz.underlying60 info_int rfl (by omega) (by omega) w5 (w.heap.size+1) rfl (.tmp 49) (.tmp 51) rfl a1 c1 n (iv64 (acc.map Prod.fst)) ?q1 Q5.o.lo (Z5.o.lt) 1 1 #[.int .i64 (m:Int)] 3 ?q2 rfl (by omega) ?q3 ?q4 ?_;(case q1=>rfl);(case q2=>rfl);(case q3=>simp[Value.oneCell']);(case q4=>omega);intro g5 off5 c5 wa o8 gr8 b8 or8;have O8:=ħ o8;have T8:=ħ (Q5.o.step1 o8 gr8 or8);have B8:=ħ b8;clear o8 gr8 b8 or8)
     go_upto_region 15 with (at_builtin;refine app_k 60 3 (.int .i64 0) 1 8 Tryz.underlying60 info_int rfl (by omega) (by omega) wa (w.heap.size+1) rfl (.tmp 53) (.tmp 55) rfl a2' c2 n (iv64 (acc.map Prod.snd)) ?r1 T8.o.1 (by have:=Z5.o.lt;have:=B8.o.size;omega) 1 1 #[.int .i64 (m:Int)] 3 ?r2 rfl (by omega) ?r3 ?r4 ?_;(case r1=>rfl);(case r2=>rfl);(case r3=>simp[Value.oneCell']);(case r4=>omega);intro g6 off6 c6 wb o9 gr9 b9 or9;have Q9:=ħ (PairW.step2 (m:=m) (k:=m) O8.o T8.o.2 o9 gr9 or9);have B9:=ħ (B8.o.trans b9);clear o9 gr9 b9 or9)
     have BB:=ħ (B9.o.mono (B':=w.heap.size) (Nat.le_succ _))
     have Z9:=ħ (Z5.o.below B9.o (Nat.lt_succ_self _))
     have H9:=ħ (H0.o.belowB H5.o BB.o)
     have O9:=ħ (O5.o.belowB BB.o)
     have HBD9:Hid (∀ p∈acc++[(m,m)],p.1≤1099511627776∧p.2≤1099511627776):=ħ (fun p hp=>by
      rcases List.mem_append.1 hp with h1 | h1
      ·exact hbd.o p h1
      ·simp only[List.mem_singleton] at h1;rw[h1];exact⟨HM.o,HMM.o⟩)
     have HIT:=ħ (is_s wb R ao cap ts sz sA [44] H9.o HN.o HTS.o (by decide))
     clear O8 T8 B8 B9 BB Q5 Z5 H5 O5 hbd
     obtain⟨bc,hbc⟩:∃ b,isS ts [44] sA=b:=⟨_,rfl⟩
     rw[hbc] at HIT
     have HBC:=ħ hbc
     clear hbc
     go_wp2_with fail
     refine HIT.o.mono ?_
     rintro e wg ⟨rfl,bg⟩
     have QG:=ħ (Q9.o.step bg)
     have ZG:=ħ (Z9.o.step bg)
     have HG:=ħ (H9.o.step bg)
     have OG:=ħ (O9.o.step bg)
     clear bg Q9 Z9 H9 O9 HIT
     cases bc with
     | false =>
      have HE:Hid (RngE RG sA (acc++[(m,m)])):=ħ (by rw[HV2.o];exact rng_stop ts (fun _ _=>.error (0,0)) sA _ _ HBC.o)
      go_wp2_with fail
      go_meet
      case rel=>exact⟨sA,n+1,c5,c6,_,_,acc++[(m,m)],rfl,rfl,by omega,QG,ZG,HG,OG,HE,HBD9,ħ (fun _=>HJ.o.2.2.2)⟩
     | true =>
      obtain⟨k,hk,hkl,hkp⟩:=isS_ok HBC.o
      have HKK:=ħ (HK2.o k hk)
      have HKL:=ħ hkl
      have HV3:Hid (RG=(.ok (k+1):StP).bind (fun j=>rangesP ts sz f' j (acc++[(m,m)]))):=ħ (by rw[HV2.o,hk,ok_bind,if_pos hkp];rfl)
      rw[hk] at HG
      have e9:IntKind.i64.wrap ((k:Int)+1)=(k:Int)+1:=IntWalk.i64_in _ (by omega)
      obtain⟨y,hy⟩:=HG.o.at
      obtain⟨d0,d1,d2,d3,d4⟩:=hy.cells
      have f1:=hy.warm 1
      clear d0 d2 d3 d4 hy hk hkl hkp HV2 HBC
      go_wp2_with fail
      have H6:Hid (SrcS (wg.setCell ⟨R,1,none⟩ (.int .i64 ((k:Int)+1))) R ao cap ts sz (.ok (k+1))):=ħ (HG.o.next HKL.o)
      have QZ:Only wg (wg.setCell ⟨R,1,none⟩ (.int .i64 ((k:Int)+1))) (· = R):=SrcW.nextOnly R 1 _
      have O6:=ħ (OG.o.trans QZ)
      have Z6:=ħ (ZG.o.only QZ (by have:=RL.o;omega))
      have Q6:=ħ (QG.o.only QZ (by have:=RL.o;omega))
      clear QZ HG OG ZG QG d1 f1 e9
      generalize wg.setCell ⟨R,1,none⟩ (.int .i64 ((k:Int)+1))=wh at *
      go_roundw
      case rel=>exact⟨.ok (k+1),f',n+1,c5,c6,_,_,acc++[(m,m)],rfl,rfl,by omega,Q6,Z6,H6,O6,HV3,ħ (fun j2 hj2=>by
       cases hj2
       have:=HKK.o;have:=HKL.o;have:=HJ.o
       exact⟨by omega,by omega,by omega,HJ.o.2.2.2⟩),HBD9⟩
      case measure=>rw[HID.o,mS_ok H6.o];have:=HKK.o;omega
    | true =>
     obtain⟨q,hq,hql,hqp⟩:=isS_ok HB.o
     have HQQ:=ħ (HQ1.o q hq)
     have HQL:=ħ hql
     have HQP:=ħ hqp
     subst hq
     have e2:IntKind.i64.wrap ((q:Int)+1)=(q:Int)+1:=IntWalk.i64_in _ (by have:=HN.o;omega)
     obtain⟨y,hy⟩:=H5.o.at
     obtain⟨d0,d1,d2,d3,d4⟩:=hy.cells
     have f1:=hy.warm 1
     clear d0 d2 d3 d4 hy hql hqp HB
     have HN2:=ħ (fun W (hW:SrcS W R ao cap ts sz (.ok (q+1)))=>num_s W R ao cap ts sz (.ok (q+1)) hW HN.o)
     simp only[ok_bind] at HN2
     have HMM:=ħ (nmb_le (sz:=sz) HTS.o (q+1))
     have HK1:Hid (∀ k,nxS (numP ts sz (q+1)) = .ok k→j+1≤k∧k≤ts.length):=ħ (fun k hk=>by
      obtain⟨i,h1,rfl⟩:=numb_from (s:=.ok (q+1)) hk
      cases h1
      unfold numP at hk
      by_cases hb:isNumP ts (q+1)=true
      ·exact⟨by have:=HQQ.o;omega,isNumP_lt hb⟩
      ·rw[if_neg hb] at hk;cases hk)
     have HRD3:=ħ (fun n s2 h1 h2=>HRD2.o n s2 (.inr ⟨q,rfl,HQP.o,h1,h2⟩))
     obtain⟨m2,hm2⟩:∃ m,nmbV (numP ts sz (q+1))=m:=⟨_,rfl⟩
     obtain⟨sB,hsB⟩:∃ s,nxS (numP ts sz (q+1))=s:=⟨_,rfl⟩
     rw[hm2] at HN2 HMM HRD3
     rw[hsB] at HN2 HK1 HRD3
     have HRD4:=ħ (HRD3.o m2 sB rfl rfl)
     clear HRD2 HRD3 hm2 hsB HQ1
     go_wp2_with fail
     have H6:Hid (SrcS (w5.setCell ⟨R,1,none⟩ (.int .i64 ((q:Int)+1))) R ao cap ts sz (.ok (q+1))):=ħ (H5.o.next HQL.o)
     have QQ:Only w5 (w5.setCell ⟨R,1,none⟩ (.int .i64 ((q:Int)+1))) (· = R):=SrcW.nextOnly R 1 _
     have O6:=ħ (O5.o.trans QQ)
     have Z6:=ħ (Z5.o.only QQ (by have:=RL.o;omega))
     have Q6:=ħ (Q5.o.only QQ (by have:=RL.o;omega))
     clear QQ H5 O5 Z5 Q5 d1 f1 e2
     generalize w5.setCell ⟨R,1,none⟩ (.int .i64 ((q:Int)+1))=w6 at *
     refine (HN2.o w6 H6.o).mono ?_
     rintro e w7 ⟨rfl,h7,o7⟩
     have H7:=ħ h7
     have O7:=ħ (O6.o.trans o7)
     have Z7:=ħ (Z6.o.only o7 (by have:=RL.o;omega))
     have Q7:=ħ (Q6.o.only o7 (by have:=RL.o;omega))
     clear h7 o7 H6 O6 Z6 Q6 HN2
     by_cases hmn:m2<m
     ·have i1:(m2:Int)<(m:Int):=by omega
      have HFL:=ħ (fun W (hW:SrcS W R ao cap ts sz sB)=>fail_s W R ao cap ts sz sB j 3 hW (by decide) HJ.o.2.1 HN.o)
      have HFS:Hid (∀ q,failS ts sz 3 j sB ≠ .ok q):=ħ (fun q hq=>by unfold failS at hq;cases sB<;>cases hq)
      have HV2:Hid (RG=(failS ts sz 3 j sB).bind (fun k=>if isP ts [44] k=true then rangesP ts sz f' (k+1) (acc++[(m,m2)]) else .ok (acc++[(m,m2)],k))):=ħ (by rw[hv.o,HRD4.o,if_pos hmn])
      clear hmn HRD4 hv
      generalize failS ts sz 3 j sB=sC at *
      go_wp2_with fail
      refine (HFL.o w7 H7.o).mono ?_
      rintro e w5 ⟨rfl,h8,o8⟩
      have H5:=ħ h8
      have O5:=ħ (O7.o.trans o8)
      have Z5:=ħ (Z7.o.only o8 (by have:=RL.o;omega))
      have Q5:=ħ (Q7.o.only o8 (by have:=RL.o;omega))
      clear h8 o8 H7 O7 Z7 Q7 HFL
      have HK2:Hid (∀ q,sC = .ok q→j+1≤q∧q≤ts.length):=ħ (fun q hq=>absurd hq (HFS.o q))
      go_upto_region 13 with (fail)
      have hln:=HJ.o
      have hnn:=HN.o
      go_upto_region 14 with (at_builtin;refine app_k 60 3 (.int .i64 0) 1 8 Tryz.underlying60 info_int rfl (by omega) (by omega) w5 (w.heap.size+1) rfl (.tmp 49) (.tmp 51) rfl a1 c1 n (iv64 (acc.map Prod.fst)) ?q1 Q5.o.lo (Z5.o.lt) 1 1 #[.int .i64 (m:Int)] 3 ?q2 rfl (by omega) ?q3 ?q4 ?_;(case q1=>rfl);(case q2=>rfl);(case q3=>simp[Value.oneCell']);(case q4=>omega);intro g5 off5 c5 wa o8 gr8 b8 or8;have O8:=ħ o8;have T8:=ħ (Q5.o.step1 o8 gr8 or8);have B8:=ħ b8;clear o8 gr8 b8 or8)
      go_upto_region 15 with (at_builtin;refine app_k 60 3 (.int .i64 0) 1 8 Tryz.underlying60 info_int rfl (by omega) (by omega) wa (w.heap.size+1) rfl (.tmp 53) (.tmp 55) rfl a2' c2 n (iv64 (acc.map Prod.snd)) ?r1 T8.o.1 (by have:=Z5.o.lt;have:=B8.o.size;omega) 1 1 #[.int .i64 (m2:Int)] 3 ?r2 rfl (by omega) ?r3 ?r4 ?_;(case r1=>rfl);(case r2=>rfl);(case r3=>simp[Value.oneCell']);(case r4=>omega);intro g6 off6 c6 wb o9 gr9 b9 or9;have Q9:=ħ (PairW.step2 (m:=m) (k:=m2) O8.o T8.o.2 o9 gr9 or9);have B9:=ħ (B8.o.trans b9);clear o9 gr9 b9 or9)
      have BB:=ħ (B9.o.mono (B':=w.heap.size) (Nat.le_succ _))
      have Z9:=ħ (Z5.o.below B9.o (Nat.lt_succ_self _))
      have H9:=ħ (H0.o.belowB H5.o BB.o)
      have O9:=ħ (O5.o.belowB BB.o)
      have HBD9:Hid (∀ p∈acc++[(m,m2)],p.1≤1099511627776∧p.2≤1099511627776):=ħ (fun p hp=>by
       rcases List.mem_append.1 hp with h1 | h1
       ·exact hbd.o p h1
       ·simp only[List.mem_singleton] at h1;rw[h1];exact⟨HM.o,HMM.o⟩)
      have HIT:=ħ (is_s wb R ao cap ts sz sC [44] H9.o HN.o HTS.o (by decide))
      clear O8 T8 B8 B9 BB Q5 Z5 H5 O5 hbd
      obtain⟨bc,hbc⟩:∃ b,isS ts [44] sC=b:=⟨_,rfl⟩
      rw[hbc] at HIT
      have HBC:=ħ hbc
      clear hbc
      go_wp2_with fail
      refine HIT.o.mono ?_
      rintro e wg ⟨rfl,bg⟩
      have QG:=ħ (Q9.o.step bg)
      have ZG:=ħ (Z9.o.step bg)
      have HG:=ħ (H9.o.step bg)
      have OG:=ħ (O9.o.step bg)
      clear bg Q9 Z9 H9 O9 HIT
      cases bc with
      | false =>
       have HE:Hid (RngE RG sC (acc++[(m,m2)])):=ħ (by rw[HV2.o];exact rng_stop ts (fun _ _=>.error (0,0)) sC _ _ HBC.o)
       go_wp2_with fail
       go_meet
       case rel=>exact⟨sC,n+1,c5,c6,_,_,acc++[(m,m2)],rfl,rfl,by omega,QG,ZG,HG,OG,HE,HBD9,ħ (fun _=>HJ.o.2.2.2)⟩
      | true =>
       obtain⟨k,hk,hkl,hkp⟩:=isS_ok HBC.o
       have HKK:=ħ (HK2.o k hk)
       have HKL:=ħ hkl
       have HV3:Hid (RG=(.ok (k+1):StP).bind (fun j=>rangesP ts sz f' j (acc++[(m,m2)]))):=ħ (by rw[HV2.o,hk,ok_bind,if_pos hkp];rfl)
       rw[hk] at HG
       have e9:IntKind.i64.wrap ((k:Int)+1)=(k:Int)+1:=IntWalk.i64_in _ (by omega)
       obtain⟨y,hy⟩:=HG.o.at
       obtain⟨d0,d1,d2,d3,d4⟩:=hy.cells
       have f1:=hy.warm 1
       clear d0 d2 d3 d4 hy hk hkl hkp HV2 HBC
       go_wp2_with fail
       have H6:Hid (SrcS (wg.setCell ⟨R,1,none⟩ (.int .i64 ((k:Int)+1))) R ao cap ts sz (.ok (k+1))):=ħ (HG.o.next HKL.o)
       have QZ:Only wg (wg.setCell ⟨R,1,none⟩ (.int .i64 ((k:Int)+1))) (· = R):=SrcW.nextOnly R 1 _
       have O6:=ħ (OG.o.trans QZ)
       have Z6:=ħ (ZG.o.only QZ (by have:=RL.o;omega))
       have Q6:=ħ (QG.o.only QZ (by have:=RL.o;omega))
       clear QZ HG OG ZG QG d1 f1 e9
       generalize wg.setCell ⟨R,1,none⟩ (.int .i64 ((k:Int)+1))=wh at *
       go_roundw
       case rel=>exact⟨.ok (k+1),f',n+1,c5,c6,_,_,acc++[(m,m2)],rfl,rfl,by omega,Q6,Z6,H6,O6,HV3,ħ (fun j2 hj2=>by
        cases hj2
        have:=HKK.o;have:=HKL.o;have:=HJ.o
        exact⟨by omega,by omega,by omega,HJ.o.2.2.2⟩),HBD9⟩
       case measure=>rw[HID.o,mS_ok H6.o];have:=HKK.o;omega
     ·have i1:¬ ((m2:Int)<(m:Int)):=by omega
      have HV2:Hid (RG=sB.bind (fun k=>if isP ts [44] k=true then rangesP ts sz f' (k+1) (acc++[(m,m2)]) else .ok (acc++[(m,m2)],k))):=ħ (by rw[hv.o,HRD4.o,if_neg hmn])
      have HK2:=HK1
      clear hmn HRD4 hv HK1
      go_upto_region 13 with (fail)
      have hln:=HJ.o
      have hnn:=HN.o
      go_upto_region 14 with (at_builtin;refine app_k 60 3 (.int .i64 0) 1 8 Tryz.underlying60 info_int rfl (by omega) (by omega) w7 (w.heap.size+1) rfl (.tmp 49) (.tmp 51) rfl a1 c1 n (iv64 (acc.map Prod.fst)) ?q1 Q7.o.lo (Z7.o.lt) 1 1 #[.int .i64 (m:Int)] 3 ?q2 rfl (by omega) ?q3 ?q4 ?_;(case q1=>rfl);(case q2=>rfl);(case q3=>simp[Value.oneCell']);(case q4=>omega);intro g5 off5 c5 wa o8 gr8 b8 or8;have O8:=ħ o8;have T8:=ħ (Q7.o.step1 o8 gr8 or8);have B8:=ħ b8;clear o8 gr8 b8 or8)
      go_upto_region 15 with (at_builtin;refine app_k 60 3 (.int .i64 0) 1 8 Tryz.underlying60 info_int rfl (by omega) (by omega) wa (w.heap.size+1) rfl (.tmp 53) (.tmp 55) rfl a2' c2 n (iv64 (acc.map Prod.snd)) ?r1 T8.o.1 (by have:=Z7.o.lt;have:=B8.o.size;omega) 1 1 #[.int .i64 (m2:Int)] 3 ?r2 rfl (by omega) ?r3 ?r4 ?_;(case r1=>rfl);(case r2=>rfl);(case r3=>simp[Value.oneCell']);(case r4=>omega);intro g6 off6 c6 wb o9 gr9 b9 or9;have Q9:=ħ (PairW.step2 (m:=m) (k:=m2) O8.o T8.o.2 o9 gr9 or9);have B9:=ħ (B8.o.trans b9);clear o9 gr9 b9 or9)
      have BB:=ħ (B9.o.mono (B':=w.heap.size) (Nat.le_succ _))
      have Z9:=ħ (Z7.o.below B9.o (Nat.lt_succ_self _))
      have H9:=ħ (H0.o.belowB H7.o BB.o)
      have O9:=ħ (O7.o.belowB BB.o)
      have HBD9:Hid (∀ p∈acc++[(m,m2)],p.1≤1099511627776∧p.2≤1099511627776):=ħ (fun p hp=>by
       rcases List.mem_append.1 hp with h1 | h1
       ·exact hbd.o p h1
       ·simp only[List.mem_singleton] at h1;rw[h1];exact⟨HM.o,HMM.o⟩)
      have HIT:=ħ (is_s wb R ao cap ts sz sB [44] H9.o HN.o HTS.o (by decide))
      clear O8 T8 B8 B9 BB Q7 Z7 H7 O7 hbd
      obtain⟨bc,hbc⟩:∃ b,isS ts [44] sB=b:=⟨_,rfl⟩
      rw[hbc] at HIT
      have HBC:=ħ hbc
      clear hbc
      go_wp2_with fail
      refine HIT.o.mono ?_
      rintro e wg ⟨rfl,bg⟩
      have QG:=ħ (Q9.o.step bg)
      have ZG:=ħ (Z9.o.step bg)
      have HG:=ħ (H9.o.step bg)
      have OG:=ħ (O9.o.step bg)
      clear bg Q9 Z9 H9 O9 HIT
      cases bc with
      | false =>
       have HE:Hid (RngE RG sB (acc++[(m,m2)])):=ħ (by rw[HV2.o];exact rng_stop ts (fun _ _=>.error (0,0)) sB _ _ HBC.o)
       go_wp2_with fail
       go_meet
       case rel=>exact⟨sB,n+1,c5,c6,_,_,acc++[(m,m2)],rfl,rfl,by omega,QG,ZG,HG,OG,HE,HBD9,ħ (fun _=>HJ.o.2.2.2)⟩
      | true =>
       obtain⟨k,hk,hkl,hkp⟩:=isS_ok HBC.o
       have HKK:=ħ (HK2.o k hk)
       have HKL:=ħ hkl
       have HV3:Hid (RG=(.ok (k+1):StP).bind (fun j=>rangesP ts sz f' j (acc++[(m,m2)]))):=ħ (by rw[HV2.o,hk,ok_bind,if_pos hkp];rfl)
       rw[hk] at HG
       have e9:IntKind.i64.wrap ((k:Int)+1)=(k:Int)+1:=IntWalk.i64_in _ (by omega)
       obtain⟨y,hy⟩:=HG.o.at
       obtain⟨d0,d1,d2,d3,d4⟩:=hy.cells
       have f1:=hy.warm 1
       clear d0 d2 d3 d4 hy hk hkl hkp HV2 HBC
       go_wp2_with fail
       have H6:Hid (SrcS (wg.setCell ⟨R,1,none⟩ (.int .i64 ((k:Int)+1))) R ao cap ts sz (.ok (k+1))):=ħ (HG.o.next HKL.o)
       have QZ:Only wg (wg.setCell ⟨R,1,none⟩ (.int .i64 ((k:Int)+1))) (· = R):=SrcW.nextOnly R 1 _
       have O6:=ħ (OG.o.trans QZ)
       have Z6:=ħ (ZG.o.only QZ (by have:=RL.o;omega))
       have Q6:=ħ (QG.o.only QZ (by have:=RL.o;omega))
       clear QZ HG OG ZG QG d1 f1 e9
       generalize wg.setCell ⟨R,1,none⟩ (.int .i64 ((k:Int)+1))=wh at *
       go_roundw
       case rel=>exact⟨.ok (k+1),f',n+1,c5,c6,_,_,acc++[(m,m2)],rfl,rfl,by omega,Q6,Z6,H6,O6,HV3,ħ (fun j2 hj2=>by
        cases hj2
        have:=HKK.o;have:=HKL.o;have:=HJ.o
        exact⟨by omega,by omega,by omega,HJ.o.2.2.2⟩),HBD9⟩
       case measure=>rw[HID.o,mS_ok H6.o];have:=HKK.o;omega
 case rest =>
  clear Q2 X2 H2 O2 RV
  obtain⟨s,n,c1,c2,a1,a2',acc,rfl,rfl,hnl,hpw,hz,hp,ho,hv,hbd,hsa⟩:=hcut
  have HRR:Hid (RR=memE ts sz a u s acc):=ħ (HSP.o s acc hv.o)
  unfold memE at HRR
  have HT5:=ħ (fun W (hW:SrcS W R ao cap ts sz s)=>take_s W R ao cap ts sz s [125] hW HN.o HTS.o (by decide))
  have HSA:Hid (∀ k,s.bind (takeP ts sz [125]) = .ok k→SumOk a):=ħ (fun k hk=>by obtain⟨i,h1,-⟩:=take_from hk;exact hsa.o ⟨i,h1⟩)
  generalize s.bind (takeP ts sz [125])=s7 at *
  clear hv hsa HSP HAA
  go_wp2_with fail
  refine (HT5.o _ hp.o).mono ?_
  rintro e w6 ⟨rfl,h6,o6⟩
  have P6:=ħ h6
  have O6:=ħ (ho.o.trans o6)
  have Z6:=ħ (hz.o.only o6 (by have:=RL.o;omega))
  have Q6:=ħ (hpw.o.only o6 (by have:=RL.o;omega))
  clear h6 o6 hp ho hz hpw HT5
  cases s7 with
  | error z =>
   have HF2:Hid (RR = .error z):=ħ HRR.o
   obtain⟨hz0,i4,hi4,hs4⟩:=P6.o
   have hzb:(z.1==0)=false:=beq_eq_false_iff_ne.mpr hz0
   obtain⟨d0,d1,d2,d3,d4⟩:=hs4.cells
   clear d0 d1 d2 d4 hs4 hz0 hi4
   go_wp2_with (refine wpList_store_abs rfl 25 (.tmp 8) (.tmp 74) rfl w.heap.size zP.toArray ?s1 ?s2 25 _ Z6.o (inf_pred _ rfl) rfl (by simp[Value.oneCell']) ?_;(case s1=>rfl);(case s2=>rfl);intro W9 s9 u9;have S9:=ħ s9;have U9:=ħ u9;clear s9 u9)
   exact bodyPost_ret (results_cell_row (p:=8) (by kernel_rfl) _ _ w.heap.size 25 zP.toArray (0,0) _ rfl S9.o Tryz.underlying25 rfl (inf_pred _ rfl)) rfl ⟨⟨prd0,zP,rfl,atomC_pred _ _ [] [] 0,wd_leaf _ _ _ _,fun q hq=>by rw[HF2.o] at hq;cases hq⟩,by rw[HF2.o];exact H0.o.upd P6.o U9.o (Nat.le_refl _),O6.o.updNew U9.o (Nat.le_refl _)⟩
  | ok k7 =>
   have SA:Hid (SumOk a):=ħ (HSA.o k7 rfl)
   have HRE:Hid (RR=if acc.all (rngOk a)=true then .ok (oneP 2 (acc.map (rngP a)),k7) else .error (3,offP ts sz u)):=ħ HRR.o
   have HM1':=ħ (HM1.o SA.o)
   have HM2':=ħ (HM2.o SA.o)
   obtain⟨y,hy⟩:=P6.o.at
   obtain⟨d0,d1,d2,d3,d4⟩:=hy.cells
   have HLN:=ħ Q6.o.len
   clear d0 d1 d2 d4 hy HSA HRR HM1 HM2
   have S7:Hid (HasV (w6.alloc (.cells #[.int .i64 2,.string ⟨#[]⟩,.string ⟨#[]⟩,.int .i64 0,.slice none 0 0] 25)) w6.heap.size 25 (kidV 2 0 none 0 0)):=ħ (heap_alloc_new w6 _)
   have b7:=(Below.refl w6.heap.size w6).alloc (Nat.le_refl _) (.cells #[.int .i64 2,.string ⟨#[]⟩,.string ⟨#[]⟩,.int .i64 0,.slice none 0 0] 25)
   have P7:=ħ (P6.o.step b7)
   have Z7:=ħ (Z6.o.step b7)
   have O7:=ħ (O6.o.step b7)
   have C7:=ħ (Q6.o.read.keep (fun g _ hg=>b7.block g hg))
   have HG:Hid (w.heap.size<w6.heap.size):=ħ Z6.o.lt
   clear b7 P6 Z6 O6 Q6
   go_wp2_with fail
   generalize w6.alloc (.cells #[.int .i64 2,.string ⟨#[]⟩,.string ⟨#[]⟩,.int .i64 0,.slice none 0 0] 25)=w7 at *
   generalize w6.heap.size=A at *
   clear w6 d3
   have RA:Hid (R<A):=ħ (by have:=RL.o;have:=HG.o;omega)
   have M0:Hid (SrcS w7 R ao cap ts sz (memS ts sz a u k7 (acc.take 0))):=ħ P7.o
   go_loopw [15] (fun c wr=>∃ (i cp:Nat) (ao2:Option Addr) (vss:List (List Value)),c = .int .i64 i∧i≤n∧Hid (HasV wr A 25 (kidV 2 0 ao2 i cp))∧Hid (HasV wr w.heap.size 25 zP)∧Hid (PairC wr (w.heap.size+1) A n a1 a2' acc) ∧
     Hid (KidsM w wr (A+1) (fun g=>g=w.heap.size∨g=A) ao2 i cp ((acc.take i).map (rngP a)) vss)∧Hid (SrcS wr R ao cap ts sz (memS ts sz a u k7 (acc.take i)))∧Hid (Only w wr (· = R))) (fun c _=>(n-intOf c).toNat)
   case atStart=>exact⟨0,0,none,[],rfl,by omega,S7,Z7,C7,ħ (KidsM.nil _ _ _ _),M0,O7⟩
   case round =>
    clear S7 Z7 C7 M0 O7 P7
    obtain⟨i,cp,ao2,vss,rfl,hi,hs,hz,hc,hk,hp,ho⟩:=hrel
    have e2:IntKind.i64.wrap ((i:Int)+1)=((i+1:Nat):Int):=IntWalk.i64_in _ (by have:=HN.o;omega)
    have c4:=hs.o.cell 4 _ rfl
    by_cases hlt:i<n
    ·have ii:(i:Int)<n:=by omega
     obtain⟨g1,o1,g2,o2,p,ha1,ha2,hp1,hg1,hg2,hg3,hg4,hc1,hc2⟩:=hc.o i hlt
     have HPI:=ħ hp1
     have HBD:=ħ (hbd.o p (List.mem_of_getElem? hp1))
     have HGG:Hid (w.heap.size+1≤g1∧g1<A∧w.heap.size+1≤g2∧g2<A):=ħ ⟨hg1,hg2,hg3,hg4⟩
     have HST:=ħ (memS_step ts sz a u k7 i acc p hp1)
     obtain⟨lo,hi2⟩:=p
     have HCELL:Hid (∀ w':World,w'.cell? ⟨A,4,none⟩=some (.slice ao2 i cp)→(∀ g,w.heap.size+1≤g→g<A→w'.heap[g]?=wr.heap[g]?)→w'.cell? ⟨A,4,none⟩=some (.slice ao2 i cp)∧w'.cell? ⟨g1,o1+i,none⟩=some (.int .i64 (lo:Int))∧w'.cell? ⟨g2,o2+i,none⟩=some (.int .i64 (hi2:Int))):=ħ (fun w' h1 h2=>⟨h1,by rw[← hc1];unfold World.cell?;rw[h2 g1 hg1 hg2],by rw[← hc2];unfold World.cell?;rw[h2 g2 hg3 hg4]⟩)
     clear hp1 hg1 hg2 hg3 hg4
     subst ha1 ha2
     go_upto_region 24 with (fail)
     refine wp_region_pick [0,1,2,3,4,5,6,7,8,9,11,12,13,14,15,16,17,18] [10,19,20,21,22,23,24,25] (fun w'=>w'.cell? ⟨A,4,none⟩=some (.slice ao2 i cp)∧w'.cell? ⟨g1,o1+i,none⟩=some (.int .i64 (lo:Int))∧w'.cell? ⟨g2,o2+i,none⟩=some (.int .i64 (hi2:Int))) (by kernel_rfl) (by kernel_rfl) (by kernel_rfl) (fun _ _ d _ _ h=>by cases d<;>exact h) ⟨c4,hc1,hc2⟩ ?_
     simp only[pickI,List.filterMap_cons,List.filterMap_nil,List.getElem?_cons_zero,List.getElem?_cons_succ,Option.map_some,List.map_cons,List.map_nil]
     apply Exists.intro
     refine⟨?hh,?ht⟩
     case hh =>
      intro w' hw'
      obtain⟨q0,q1,q2⟩:=hw'
      repeat still_step
      exact wpStill_nil rfl
     case ht =>
      have BD:Below wr.heap.size wr wr.drew:=(Below.refl wr.heap.size wr).drew
      have hs1:=ħ (hs.o.step BD)
      have hz1:=ħ (hz.o.step BD)
      have hc3:=ħ (hc.o.keep (w':=wr.drew) (fun g _ _=>rfl))
      have hk1:=ħ (hk.o.step BD)
      have hp1:=ħ (hp.o.step BD)
      have ho1:=ħ (ho.o.step BD)
      have HC2:Hid (∀ w':World,w'.cell? ⟨A,4,none⟩=some (.slice ao2 i cp)→(∀ g,w.heap.size+1≤g→g<A→w'.heap[g]?=wr.drew.heap[g]?)→w'.cell? ⟨A,4,none⟩=some (.slice ao2 i cp)∧w'.cell? ⟨g1,o1+i,none⟩=some (.int .i64 (lo:Int))∧w'.cell? ⟨g2,o2+i,none⟩=some (.int .i64 (hi2:Int))):=ħ HCELL.o
      clear BD hs hz hc hk hp ho c4 hc1 hc2 HCELL
      generalize wr.drew=wd at *
      have WD:Hid (A<wd.heap.size):=ħ hs1.o.lt
      obtain⟨D1,hD1⟩:∃ D,a2-(lo:Int)-0=D:=⟨_,rfl⟩
      obtain⟨D2,hD2⟩:∃ D,(hi2:Int)-a2-0=D:=⟨_,rfl⟩
      obtain⟨sX,hsX⟩:∃ s,memS ts sz a u k7 (acc.take i)=s:=⟨_,rfl⟩
      rw[hsX] at hp1 HST
      obtain⟨sY,hsY⟩:∃ s,atS ts sz u (mostP ([],(lo:Int)) a 0) sX=s:=⟨_,rfl⟩
      have M1:=ħ (fun W hW=>HM1'.o lo sX W HBD.o.1 hW)
      have M2:=ħ (fun W hW=>HM2'.o hi2 sY W HBD.o.2 hW)
      simp only at HST
      rw[hsY] at M1 HST
      rw[← HST.o] at M2
      generalize hZ:memS ts sz a u k7 (acc.take (i+1))=sZ at *
      have HZ:=ħ hZ
      clear hZ
      rw[hD1] at M1
      rw[hD2] at M2
      have HD1:=ħ hD1
      have HD2:=ħ hD2
      clear hD1 hD2 hsX hsY HST
      refine wpTailT_cons ?_
      go_wp2_with fail
      refine (M1.o wd hp1.o).mono ?_
      rintro e wa ⟨rfl,ha,oa⟩
      have PA:=ħ ha
      have OA:=ħ oa
      have SA1:=ħ (hs1.o.only oa (by have:=RA.o;omega))
      have CA:=ħ (HC2.o wa (SA1.o.cell 4 _ rfl) (fun g hg hl=>oa.block g (by have:=WD.o;omega) (by have:=RL.o;omega)))
      clear ha oa
      go_wp2_with fail
      refine postOf_normal ⟨CA.o,?_⟩
      refine wpTailT_cons ?_
      go_wp2_with fail
      refine (M2.o wa PA.o).mono ?_
      rintro e wb ⟨rfl,hb,ob⟩
      have OB:=ħ (OA.o.trans ob)
      have PB:=ħ hb
      have SB:=ħ (SA1.o.only ob (by have:=RA.o;omega))
      have CB:=ħ (HC2.o wb (SB.o.cell 4 _ rfl) (fun g hg hl=>OB.o.block g (by have:=WD.o;omega) (by have:=RL.o;omega)))
      clear hb ob OA PA SA1 CA
      go_wp2_with fail
      refine postOf_normal ⟨CB.o,?_⟩
      refine wpTailT_cons ?_
      have bc:=(Below.refl wb.heap.size wb).alloc (Nat.le_refl _) (.cells #[.int .i64 0,.string ⟨#[]⟩,.string x,.int .i64 D1,.slice none 0 0,.int .i64 0,.string x,.string ⟨#[]⟩,.int .i64 D2,.slice none 0 0] 25)
      have NC:Hid (HasV (wb.alloc (.cells #[.int .i64 0,.string ⟨#[]⟩,.string x,.int .i64 D1,.slice none 0 0,.int .i64 0,.string x,.string ⟨#[]⟩,.int .i64 D2,.slice none 0 0] 25)) wb.heap.size 25 [.int .i64 0,.string ⟨#[]⟩,.string x,.int .i64 D1,.slice none 0 0,.int .i64 0,.string x,.string ⟨#[]⟩,.int .i64 D2,.slice none 0 0]):=ħ (heap_alloc_new wb _)
      have LB:Hid (wd.heap.size≤wb.heap.size):=ħ OB.o.size
      have OC:=ħ (OB.o.trans (Only.of_below bc))
      have SC:=ħ (SB.o.step bc)
      have PC0:=ħ (PB.o.step bc)
      clear bc SB PB CB OB
      go_wp2_with fail
      generalize wb.alloc (.cells #[.int .i64 0,.string ⟨#[]⟩,.string x,.int .i64 D1,.slice none 0 0,.int .i64 0,.string x,.string ⟨#[]⟩,.int .i64 D2,.slice none 0 0] 25)=wc at *
      have CC:=ħ (HC2.o wc (SC.o.cell 4 _ rfl) (fun g hg hl=>OC.o.block g (by have:=WD.o;omega) (by have:=RL.o;omega)))
      refine postOf_normal ⟨CC.o,?_⟩
      refine wpTailT_cons ?_
      go_wp2_with fail
      refine postOf_normal ⟨CC.o,?_⟩
      refine wpTailT_cons ?_
      have PC:Hid (PredC wc (fun g=>wd.heap.size≤g) (rngP a (lo,hi2)) (kidV 1 0 (some ⟨wb.heap.size,0,none⟩) 2 2)):=ħ (HAT.o wc _ wb.heap.size lo hi2 D1 D2 HD1.o HD2.o LB.o NC.o.lt (fun q y hq=>by rw[Nat.zero_add];exact NC.o.cell q y hq))
      have S6:=SC
      have Z6:=ħ (hz1.o.only OC.o (by have:=RL.o;omega))
      have K6:=ħ (hk1.o.only OC.o RL.o (by have:=HG.o;omega))
      have P6:=PC0
      have O6:=ħ (ho1.o.trans OC.o)
      have WO:Hid (w.heap.size≤wd.heap.size):=ħ ho1.o.size
      clear SC PC0 M1 M2
      go_wp2_with fail
      refine postOf_normal ⟨HC2.o _ ((S6.o.step ((Below.refl wc.heap.size wc).alloc (Nat.le_refl _) _)).cell 4 _ rfl) (fun g hg hl=>by
       rw[((Below.refl wc.heap.size wc).alloc (Nat.le_refl _) _).block g (by have:=S6.o.lt;omega)]
       exact OC.o.block g (by have:=WD.o;omega) (by have:=RL.o;omega)),?_⟩
      refine wpTailT_cons ?_
      generalize wb.heap.size=BL at *
      have hnn:=HN.o
      go_wp2_with (at_builtin;refine app_k 23 25 predZ 5 72 Tryz.underlying23 info_pred rfl (by omega) (by omega) wc (A+1) rfl (.tmp 83) (.tmp 104) rfl ao2 cp i vss.flatten ?q1 K6.o.own S6.o.lt 1 1 (kidV 1 0 (some ⟨BL,0,none⟩) 2 2).toArray 25 ?q2 rfl (by omega) PC.o.ones ?q4 ?_;(case q1=>rfl);(case q2=>rfl);(case q4=>omega);intro g5 off5 c5 we o8 gr8 b8 or8;have O8:=ħ o8;have GR8:=ħ gr8;have B8:=ħ b8;have OR8:=ħ or8;clear o8 gr8 b8 or8)
      have KA:=ħ (KidsM.add hk1.o K6.o WO.o (fun g hg=>by have:=WD.o;have:=HG.o;rcases hg with h | h<;>omega) PC.o O8.o GR8.o OR8.o)
      have SA:=ħ (S6.o.below B8.o (Nat.lt_succ_self A))
      have ZA:=ħ (Z6.o.below B8.o (by have:=HG.o;omega))
      have BB8:=ħ (B8.o.mono (B':=w.heap.size) (by have:=HG.o;omega))
      have PA:=ħ (H0.o.belowB P6.o BB8.o)
      have OA:=ħ (O6.o.belowB BB8.o)
      have KEEP:Hid (∀ g,w.heap.size+1≤g→g<A→we.heap[g]?=wd.heap[g]?):=ħ (fun g hg hl=>by
       rw[B8.o.block g (by omega)]
       exact OC.o.block g (by have:=WD.o;omega) (by have:=RL.o;omega))
      have CE:=ħ (HC2.o we (SA.o.cell 4 _ rfl) KEEP.o)
      clear K6 S6 Z6 P6 O6 GR8 OR8 B8 BB8 hs1 hz1 hk1 hp1 ho1 PC NC CC OC
      refine postOf_normal ⟨CE.o,?_⟩
      refine wpTailT_cons ?_
      go_wp2_with fail
      refine postOf_normal ⟨CE.o,?_⟩
      refine wpTailT_one ?_
      have m4:=SA.o.cell 4 _ rfl
      have f4:=SA.o.warm 4
      go_wp2_with fail
      clear m4 f4 CE
      have U5:=ħ (upd_setCell we ⟨A,4,none⟩ (.slice (some ⟨g5,off5,none⟩) (i+1) c5))
      have S5:Hid (HasV (we.setCell ⟨A,4,none⟩ (.slice (some ⟨g5,off5,none⟩) (i+1) c5)) A 25 (kidV 2 0 (some ⟨g5,off5,none⟩) (i+1) c5)):=ħ (SA.o.set 4 _)
      have Z5:=ħ (ZA.o.upd U5.o (by show w.heap.size≠A;have:=HG.o;omega))
      have K5:=ħ (KA.o.upd U5.o (.inr rfl) (fun e=>by have:=(KA.o.own.blk_lt e).1;have:A+1≤A:=this;omega))
      have P5:=ħ (H0.o.upd PA.o U5.o (by show w.heap.size≤A;have:=HG.o;omega))
      have O5:=ħ (OA.o.updNew U5.o (by show w.heap.size≤A;have:=HG.o;omega))
      have C5:=ħ (hc3.o.keep (w':=we.setCell ⟨A,4,none⟩ (.slice (some ⟨g5,off5,none⟩) (i+1) c5)) (fun g hg hl=>by
       rw[U5.o.block g (by show g≠A;omega)]
       exact KEEP.o g hg hl))
      have HTK:Hid ((acc.take (i+1)).map (rngP a)=(acc.take i).map (rngP a)++[rngP a (lo,hi2)]):=ħ (by rw[List.take_add_one,HPI.o,List.map_append];rfl)
      clear SA ZA KA PA OA U5 O8 KEEP hc3
      generalize we.setCell ⟨A,4,none⟩ (.slice (some ⟨g5,off5,none⟩) (i+1) c5)=wf at *
      go_wp2_with fail
      go_roundw
      case rel=>exact⟨i+1,c5,some ⟨g5,off5,none⟩,vss++[kidV 1 0 (some ⟨BL,0,none⟩) 2 2],by go_num,by omega,S5,Z5,C5,ħ (by rw[HTK.o];exact K5.o),ħ (by rw[HZ.o];exact P5.o),O5⟩
      case measure=>simp only[intOf];omega
    ·have ii:¬ ((i:Int)<n):=by omega
     have hin:i=n:=by omega
     subst hin
     have HTA:Hid (acc.take i=acc):=ħ (List.take_of_length_le (by rw[HLN.o];exact Nat.le_refl _))
     rw[HTA.o] at hk hp
     have HEND:Hid ((∀ q,RR = .ok q→q.1=oneP 2 (acc.map (rngP a)))∧nxS RR=memS ts sz a u k7 acc):=ħ (by
      rw[HRE.o]
      unfold memS
      by_cases hh:acc.all (rngOk a)=true
      ·rw[if_pos hh,if_pos hh];exact⟨fun q hq=>by cases hq;rfl,rfl⟩
      ·rw[if_neg hh,if_neg hh];exact⟨(fun q hq=>by cases hq),rfl⟩)
     have HWP:Hid (WdP (oneP 2 (acc.map (rngP a)))):=ħ (wd_one (fun q hq=>by
      obtain⟨p,-,rfl⟩:=List.mem_map.1 hq
      exact wd_two _ _ _ _ (wd_most _ _ _) (wd_most _ _ _)) (by have:=HLN.o;have:=HN.o;simp;omega))
     rw[← HEND.o.2] at hp
     have HCN:=ħ hk.o.cnt
     generalize acc.map (rngP a)=ps at *
     by_cases hk1:i=1
     ·subst hk1
      have HP1:Hid (∃ p,ps=[p]):=ħ (by
       have:=HCN.o
       cases ps with
       | nil=>simp at this
       | cons p l=>cases l with
        | nil=>exact⟨p,rfl⟩
        | cons q l=>simp at this)
      obtain⟨p1,hps⟩:=HP1.o
      clear HP1
      subst hps
      obtain⟨us,g,off,hvs,rfl,hrd,hpc,hl5⟩:=hk.o.one
      have HRD:=ħ hrd
      have HPC:=ħ hpc
      have HL5:=ħ hl5
      clear hvs hrd hpc hl5
      go_wp2_with (first
       | (refine wpList_load_cells rfl 25 (.tmp 113) rfl g off ?x1 us _ HRD.o Tryz.underlying25 rfl ?x2 ?_;(case x1=>rfl);(case x2=>(have h5:=inf_pred us HL5.o;rw[List.size_toArray] at h5;exact h5)))
       | (refine wpList_store_abs rfl 25 (.tmp 8) (.tmp 114) rfl w.heap.size us.toArray ?s1 ?s2 25 _ hz.o (inf_pred _ HL5.o) ?s3 (HPC.o.one) ?_;(case s1=>rfl);(case s2=>rfl);(case s3=>rw[List.size_toArray,List.size_toArray,HL5.o];rfl);intro w9 s9 u9;have S9:=ħ s9;have U9:=ħ u9;clear s9 u9))
      exact bodyPost_ret (results_cell_row (p:=8) (by kernel_rfl) _ _ w.heap.size 25 us.toArray (0,0) _ rfl S9.o Tryz.underlying25 rfl (inf_pred _ HL5.o)) rfl ⟨⟨p1,us,rfl,(HPC.o.upd U9.o (fun hh=>hh.2.1 (.inl rfl))).mono (fun g hg _=>hg.1),HWP.o,HEND.o.1⟩,H0.o.upd hp.o U9.o (Nat.le_refl _),ho.o.updNew U9.o (Nat.le_refl _)⟩
     ·have HK1:Hid (oneP 2 ps = .mk 2 [] [] 0 ps):=ħ (by
       have:=HCN.o
       cases ps with
       | nil=>rfl
       | cons p l=>cases l with
        | nil=>simp at this;omega
        | cons q l=>rfl)
      rw[HK1.o] at HEND HWP
      have k1:((i:Int)==1)=false:=by rw[beq_eq_false_iff_ne];omega
      have k2:¬ ((i:Int)=1):=by omega
      clear hk1 HK1
      go_wp2_with (first
       | (refine wpList_load_row rfl 25 (.tmp 14) rfl A ?x1 25 (kidV 2 0 ao2 i cp).toArray (0,0) _ hs.o Tryz.underlying25 rfl (inf_pred _ rfl) ?_;(case x1=>rfl))
       | (refine wpList_store_abs rfl 25 (.tmp 8) (.tmp 115) rfl w.heap.size (kidV 2 0 ao2 i cp).toArray ?s1 ?s2 25 _ hz.o (inf_pred _ rfl) rfl (kidV_one _ _ _ _ _) ?_;(case s1=>rfl);(case s2=>rfl);intro w9 s9 u9;have S9:=ħ s9;have U9:=ħ u9;clear s9 u9))
      have K9:=hk.o.upd U9.o (.inl rfl) (fun e=>by have:=(hk.o.own.blk_lt e).1;have:=HG.o;omega)
      exact bodyPost_ret (results_cell_row (p:=8) (by kernel_rfl) _ _ w.heap.size 25 (kidV 2 0 ao2 i cp).toArray (0,0) _ rfl S9.o Tryz.underlying25 rfl (inf_pred _ rfl)) rfl ⟨⟨_,_,rfl,K9.predV (by have:=HG.o;omega) 2 0,HWP.o,HEND.o.1⟩,H0.o.upd hp.o U9.o (Nat.le_refl _),ho.o.updNew U9.o (Nat.le_refl _)⟩
end
section
open Go.RowKit
theorem sopp_any (κ:Int) (l r:List Nat) (c:Int) (x:Value) (hx:x.oneCell'=true) (w:World) :
  Calls Tryz.prog 294 #[.agg #[.int .i64 κ,.string (strN l),.string (strN r),.int .i64 c,x]] w fun e w'=>e = .returned (.agg (atomC r l (w64 (w64 (-c)-1))).toArray)∧Below w.heap.size w w':=by
 have e1:IntKind.i64.wrap (-c)=w64 (-c):=by rw[IntKind.wrap_i64];rfl
 have e2:IntKind.i64.wrap (w64 (-c)-1)=w64 (w64 (-c)-1):=by rw[IntKind.wrap_i64];rfl
 unfold atomC
 generalize strN l=y at *
 generalize strN r=z at *
 generalize w64 (w64 (-c)-1)=d at *
 generalize w64 (-c)=d1 at *
 go_enter Tryz.func294,Tryz.ntmps294
 go_wp2
 exact bodyPost_ret (results_cell_row (p:=2) (by kernel_rfl) _ _ (w.heap.size+1) 25 _ (0,0) _ rfl (heap_alloc2_new _ _ _) Tryz.underlying25 rfl (inf_pred _ rfl)) rfl ⟨rfl,((Below.refl _ w).alloc (Nat.le_refl _) _).alloc (by simp) _⟩
theorem sneg_atom (w:World) (l r:List Nat) (c:Int) (ks:List Prd) (a:Option Addr) (n cap:Nat) :
  Calls Tryz.prog 249 #[.agg #[.int .i64 0,.string (strN l),.string (strN r),.int .i64 c,.slice a n cap]] w fun e w'=>NegR w (negP (.mk 0 l r c ks)) e w':=by
 have HN:Hid (negP (.mk 0 l r c ks) = .mk 0 r l (w64 (w64 (-c)-1)) []):=ħ (by unfold negP;rw[if_pos rfl])
 rw[HN.o]
 clear HN
 generalize hd:w64 (w64 (-c)-1)=d at *
 have HD:=ħ hd
 clear hd
 have K1:=ħ (fun (w:World)=>sopp_any 0 l r c (.slice a n cap) rfl w)
 rw[HD.o] at K1
 generalize strN l=y at *
 generalize strN r=z at *
 have Z1:Hid (HasV ((w.alloc (.cells #[.int .i64 0,.string y,.string z,.int .i64 c,.slice a n cap] 25)).alloc (.cells #[.int .i64 0,.string ⟨#[]⟩,.string ⟨#[]⟩,.int .i64 0,.slice none 0 0] 25)) (w.heap.size+1) 25 pred0):=ħ (heap_alloc2_new w _ _)
 have D1:=ħ (((Below.refl w.heap.size w).alloc (Nat.le_refl _) (.cells #[.int .i64 0,.string y,.string z,.int .i64 c,.slice a n cap] 25)).alloc (by simp) (.cells #[.int .i64 0,.string ⟨#[]⟩,.string ⟨#[]⟩,.int .i64 0,.slice none 0 0] 25))
 have SZ:Hid (((w.alloc (.cells #[.int .i64 0,.string y,.string z,.int .i64 c,.slice a n cap] 25)).alloc (.cells #[.int .i64 0,.string ⟨#[]⟩,.string ⟨#[]⟩,.int .i64 0,.slice none 0 0] 25)).heap.size=w.heap.size+2):=ħ (by simp)
 go_enter Tryz.func249,Tryz.ntmps249
 go_wp2_with fail
 generalize (w.alloc (.cells #[.int .i64 0,.string y,.string z,.int .i64 c,.slice a n cap] 25)).alloc (.cells #[.int .i64 0,.string ⟨#[]⟩,.string ⟨#[]⟩,.int .i64 0,.slice none 0 0] 25)=w0 at *
 refine (K1.o _).mono ?_
 rintro e w1 ⟨rfl,b1⟩
 have Z4:=ħ (Z1.o.step b1)
 have D4:=ħ (D1.o.trans (b1.mono D1.o.size))
 clear b1 Z1 D1
 go_wp2_with (refine wpList_store_abs rfl 25 (.tmp 2) (.tmp 9) rfl (w.heap.size+1) (atomC r l d).toArray ?s1 ?s2 25 _ Z4.o (inf_pred _ rfl) rfl (by simp[atomC,Value.oneCell']) ?_;(case s1=>rfl);(case s2=>rfl);intro w9 s9 u9;have S9:=ħ s9;have U9:=ħ u9;clear s9 u9)
 exact bodyPost_ret (results_cell_row (p:=2) (by kernel_rfl) _ _ (w.heap.size+1) 25 (atomC r l d).toArray (0,0) _ rfl S9.o Tryz.underlying25 rfl (inf_pred _ rfl)) rfl ⟨⟨_,rfl,_,rfl,atomC_pred _ _ _ _ _⟩,U9.o.below D4.o (Nat.le_succ _)⟩
theorem sneg_node (w:World) (P:Nat→Prop) (κ:Int) (l r:List Nat) (c:Int) (ks:List Prd) (ao:Option Addr) (n cap:Nat) (hn:n=ks.length) (hκ:κ≠0) (hbig:n≤1000001)
  (hk:ks=[]∨∃ g off,ao=some ⟨g,off,none⟩∧P g∧g<w.heap.size∧KidsC w P ks g off)
  (ih:∀ (q:Prd) (w:World) (vs:List Value),q∈ks→PredC w P q vs→Calls Tryz.prog 249 #[.agg vs.toArray] w fun e w'=>NegR w (negP q) e w') :
  Calls Tryz.prog 249 #[.agg #[.int .i64 κ,.string (strN l),.string (strN r),.int .i64 c,.slice ao n cap]] w fun e w'=>NegR w (negP (.mk κ l r c ks)) e w':=by
 rw[negP_node hκ]
 have HK:=ħ hk
 have IH:=ħ ih
 have HN:=ħ hn
 have HLEN:Hid ((ks.length:Int)=(n:Int)):=ħ (by rw[hn])
 clear hk ih hn
 generalize strN l=y at *
 generalize strN r=z at *
 have X1:Hid (HasV (((w.alloc (.cells #[.int .i64 κ,.string y,.string z,.int .i64 c,.slice ao n cap] 25)).alloc (.cells #[.int .i64 0,.string ⟨#[]⟩,.string ⟨#[]⟩,.int .i64 0,.slice none 0 0] 25)).alloc (.cells #[.int .i64 κ,.string ⟨#[]⟩,.string ⟨#[]⟩,.int .i64 0,.slice none 0 0] 25)) w.heap.size 25 [.int .i64 κ,.string y,.string z,.int .i64 c,.slice ao n cap]):=ħ (heap_alloc3_old _ _ _ _)
 have Z1:Hid (HasV (((w.alloc (.cells #[.int .i64 κ,.string y,.string z,.int .i64 c,.slice ao n cap] 25)).alloc (.cells #[.int .i64 0,.string ⟨#[]⟩,.string ⟨#[]⟩,.int .i64 0,.slice none 0 0] 25)).alloc (.cells #[.int .i64 κ,.string ⟨#[]⟩,.string ⟨#[]⟩,.int .i64 0,.slice none 0 0] 25)) (w.heap.size+1) 25 pred0):=ħ (heap_alloc3_mid _ _ _ _)
 have S1:Hid (HasV (((w.alloc (.cells #[.int .i64 κ,.string y,.string z,.int .i64 c,.slice ao n cap] 25)).alloc (.cells #[.int .i64 0,.string ⟨#[]⟩,.string ⟨#[]⟩,.int .i64 0,.slice none 0 0] 25)).alloc (.cells #[.int .i64 κ,.string ⟨#[]⟩,.string ⟨#[]⟩,.int .i64 0,.slice none 0 0] 25)) (w.heap.size+1+1) 25 (kidV κ 0 none 0 0)):=ħ (heap_alloc3_new _ _ _ _)
 have D1:=ħ ((((Below.refl w.heap.size w).alloc (Nat.le_refl _) (.cells #[.int .i64 κ,.string y,.string z,.int .i64 c,.slice ao n cap] 25)).alloc (by simp) (.cells #[.int .i64 0,.string ⟨#[]⟩,.string ⟨#[]⟩,.int .i64 0,.slice none 0 0] 25)).alloc (by simp;omega) (.cells #[.int .i64 κ,.string ⟨#[]⟩,.string ⟨#[]⟩,.int .i64 0,.slice none 0 0] 25))
 have κ0:(κ==0)=false:=by rw[beq_eq_false_iff_ne];exact hκ
 go_enter Tryz.func249,Tryz.ntmps249
 go_upto_region 4 with (fail)
 generalize ((w.alloc (.cells #[.int .i64 κ,.string y,.string z,.int .i64 c,.slice ao n cap] 25)).alloc (.cells #[.int .i64 0,.string ⟨#[]⟩,.string ⟨#[]⟩,.int .i64 0,.slice none 0 0] 25)).alloc (.cells #[.int .i64 κ,.string ⟨#[]⟩,.string ⟨#[]⟩,.int .i64 0,.slice none 0 0] 25)=w1 at *
 obtain⟨A,hA⟩:∃ A,w.heap.size+1+1=A:=⟨_,rfl⟩
 rw[hA] at S1 ⊢
 have HA:Hid (A=w.heap.size+2):=ħ (by omega)
 clear hA
 by_cases h1:κ=1
 ·have HNK:Hid (nkP κ=2):=ħ (by unfold nkP;rw[if_pos h1])
  have HNC:Hid (ncP κ ks.length c=0):=ħ (by unfold ncP;rw[if_neg (by omega)])
  have c1:(κ==1)=true:=by rw[h1];rfl
  have c2:(κ==2)=false:=by rw[h1];rfl
  have c3:(κ==3)=false:=by rw[h1];rfl
  clear h1
  have m:=S1.o.cell 0 _ rfl
  have f:=S1.o.warm 0
  have k0:=X1.o.cell 0 _ rfl
  have k3:=X1.o.cell 3 _ rfl
  have k4:=X1.o.cell 4 _ rfl
  go_upto_region 6 with (fail)
  clear m f k0 k3 k4
  have U8:=ħ (upd_setCell w1 ⟨A,0,none⟩ (.int .i64 2))
  have S2:Hid (HasV (w1.setCell ⟨A,0,none⟩ (.int .i64 2)) A 25 (kidV 2 0 none 0 0)):=ħ (S1.o.set 0 _)
  have Z2:=ħ (Z1.o.upd U8.o (by show w.heap.size+1≠A;have:=HA.o;omega))
  have X2:=ħ (X1.o.upd U8.o (by show w.heap.size≠A;have:=HA.o;omega))
  have D2:=ħ (U8.o.below D1.o (by show w.heap.size≤A;have:=HA.o;omega))
  clear U8 S1 Z1 X1 D1
  generalize w1.setCell ⟨A,0,none⟩ (.int .i64 2)=w2 at *
  have S1:=S2
  have Z1:=Z2
  have X1:=X2
  have D1:=D2
  clear S2 Z2 X2 D2
  have k0:=X1.o.cell 0 _ rfl
  go_wp2_with fail
  clear k0
  clear c1 c2 c3
  go_loopw [4] (fun cc wr=>∃ (i cp:Nat) (ao2:Option Addr) (vss:List (List Value)),cc = .int .i64 i∧i≤n ∧
    Hid (HasV wr w.heap.size 25 [.int .i64 κ,.string y,.string z,.int .i64 c,.slice ao n cap])∧Hid (HasV wr (w.heap.size+1) 25 pred0)∧Hid (HasV wr A 25 (kidV 2 0 ao2 i cp)) ∧
    Hid (KidsM w wr (A+1) (fun g=>g=w.heap.size+1∨g=A) ao2 i cp (negL (ks.take i)) vss)∧Hid (Below w.heap.size w wr)) (fun c _=>(n-intOf c).toNat)
  case atStart=>exact⟨0,0,none,[],rfl,by omega,X1,Z1,S1,ħ (KidsM.nil _ _ _ _),D1⟩
  case round =>
   clear X1 Z1 S1 D1
   obtain⟨i,cp,ao2,vss,rfl,hi,hx,hz,hs,hkm,hw⟩:=hrel
   have e2:IntKind.i64.wrap ((i:Int)+1)=((i+1:Nat):Int):=IntWalk.i64_in _ (by omega)
   have k4:=hx.o.cell 4 _ rfl
   by_cases hlt:i<n
   ·have ii:(i:Int)<n:=by omega
    have HQ:Hid (∃ q,ks[i]?=some q∧∃ g off,ao=some ⟨g,off,none⟩∧g<w.heap.size∧∃ vs,PredC wr P q vs∧Reads wr g (off+i*5) vs):=ħ (by
     have hl:i<ks.length:=by rw[← HN.o];exact hlt
     refine⟨ks[i],List.getElem?_eq_getElem hl,?_⟩
     rcases HK.o with h | ⟨g,off,h1,h2,h3,h4⟩
     ·rw[h] at hl;exact absurd hl (Nat.not_lt_zero _)
     ·obtain⟨vs,hv1,hv2⟩:=KidsC.at ks g off i _ (List.getElem?_eq_getElem hl) h4
      exact⟨g,off,h1,h3,vs,hv1.below hw.o,hv2.of_block (hw.o.block g h3)⟩)
    obtain⟨q,hq,g,off,hao,hg,vs,hpc,hrd⟩:=HQ.o
    clear HQ
    have HQI:=ħ hq
    obtain⟨xa,xn,xc,hvf,-⟩:=hpc.form
    rw[hvf] at hrd hpc
    have PC:=ħ hpc
    have HG:=ħ hg
    have HRD:=ħ hrd
    clear hrd hpc hvf vs hq hg
    have HAO:=ħ hao
    subst hao
    generalize q.k=q0 at *
    generalize strN q.l=q1 at *
    generalize strN q.r=q2 at *
    generalize q.c=q3 at *
    have AL:Hid (A<wr.heap.size):=ħ hs.o.lt
    have HSS:Hid (∀ w':World,HasV w' A 25 (kidV 2 0 ao2 i cp)→HasV w' w.heap.size 25 [.int .i64 κ,.string y,.string z,.int .i64 c,.slice (some ⟨g,off,none⟩) n cap]→w'.heap[g]?=wr.heap[g]?→(w'.cell? ⟨A,4,none⟩=some (.slice ao2 i cp)∧w'.cell? ⟨w.heap.size,4,none⟩=some (.slice (some ⟨g,off,none⟩) n cap) ∧
      w'.cell? ⟨g,off+i*5,none⟩=some (.int .i64 q0)∧w'.cell? ⟨g,off+i*5+1,none⟩=some (.string q1)∧w'.cell? ⟨g,off+i*5+2,none⟩=some (.string q2)∧w'.cell? ⟨g,off+i*5+3,none⟩=some (.int .i64 q3)∧w'.cell? ⟨g,off+i*5+4,none⟩=some (.slice xa xn xc))):=ħ (fun w' h1 h2 h3=>by
     have hr:Reads w' g (off+i*5) [.int .i64 q0,.string q1,.string q2,.int .i64 q3,.slice xa xn xc]:=HRD.o.of_block h3
     exact⟨h1.cell 4 _ rfl,h2.cell 4 _ rfl,by have:=hr 0 _ rfl;rw[Nat.add_zero] at this;exact this,hr 1 _ rfl,hr 2 _ rfl,hr 3 _ rfl,hr 4 _ rfl⟩)
    go_upto_region 13 with (fail)
    clear k4
    refine wp_region_pick [0,1,2,3,4,5,6] [7,8,9,10,11] (fun w'=>w'.cell? ⟨A,4,none⟩=some (.slice ao2 i cp)∧w'.cell? ⟨w.heap.size,4,none⟩=some (.slice (some ⟨g,off,none⟩) n cap) ∧
      w'.cell? ⟨g,off+i*5,none⟩=some (.int .i64 q0)∧w'.cell? ⟨g,off+i*5+1,none⟩=some (.string q1)∧w'.cell? ⟨g,off+i*5+2,none⟩=some (.string q2)∧w'.cell? ⟨g,off+i*5+3,none⟩=some (.int .i64 q3)∧w'.cell? ⟨g,off+i*5+4,none⟩=some (.slice xa xn xc)) (by kernel_rfl) (by kernel_rfl) (by kernel_rfl) (fun _ _ d _ _ h=>by cases d<;>exact h) (HSS.o wr hs.o hx.o rfl) ?_
    simp only[pickI,List.filterMap_cons,List.filterMap_nil,List.getElem?_cons_zero,List.getElem?_cons_succ,Option.map_some,List.map_cons,List.map_nil]
    apply Exists.intro
    refine⟨?hh,?ht⟩
    case hh =>
     intro w' hw'
     obtain⟨c4',c5',y0,y1,y2,y3,y4⟩:=hw'
     repeat still_step
     exact wpStill_nil rfl
    case ht =>
     have BD:Below wr.heap.size wr wr.drew:=(Below.refl wr.heap.size wr).drew
     have hx3:=ħ (hx.o.step BD)
     have hz3:=ħ (hz.o.step BD)
     have hs3:=ħ (hs.o.step BD)
     have hk3:=ħ (hkm.o.step BD)
     have hw3:=ħ (hw.o.trans (BD.mono hw.o.size))
     have PX3:=ħ (PC.o.below BD)
     have XL3:Hid (wr.drew.heap.size=wr.heap.size):=ħ rfl
     have HG3:Hid (g<wr.drew.heap.size∧wr.drew.heap[g]?=wr.heap[g]?):=ħ ⟨Nat.lt_of_lt_of_le HG.o hw.o.size,rfl⟩
     clear BD hx hz hs hkm hw PC
     generalize wr.drew=wd at *
     refine wpTailT_cons ?_
     go_wp2_with fail
     refine (IH.o q wd _ (List.mem_of_getElem? HQI.o) PX3.o).mono ?_
     rintro e w2 ⟨⟨v,rfl,vs,rfl,hpc⟩,b2⟩
     have PC:=ħ hpc
     have B2:=ħ b2
     have S2:=ħ (hs3.o.step b2)
     have Z2:=ħ (hz3.o.step b2)
     have X2:=ħ (hx3.o.step b2)
     have K2:=ħ (hk3.o.step b2)
     have W2:=ħ (hw3.o.trans (b2.mono hw3.o.size))
     have GG:Hid (∀ w':World,Below wd.heap.size wd w'→w'.heap[g]?=wr.heap[g]?):=ħ (fun w' hb=>(hb.block g HG3.o.1).trans HG3.o.2)
     clear hpc b2
     go_wp2_with fail
     refine postOf_normal ⟨HSS.o w2 S2.o X2.o (GG.o w2 B2.o),?_⟩
     refine wpTailT_cons ?_
     have hl5:vs.length=5:=PC.o.len
     have hfd:=fold5 #[.int .i64 0,.string ⟨#[]⟩,.string ⟨#[]⟩,.int .i64 0,.slice none 0 0] rfl vs hl5
     go_wp2_with fail
     refine postOf_normal ⟨HSS.o _ (hs3.o.step (B2.o.alloc B2.o.size _)) (hx3.o.step (B2.o.alloc B2.o.size _)) (GG.o _ (B2.o.alloc B2.o.size _)),?_⟩
     refine wpTailT_cons ?_
     go_wp2_with (at_builtin;refine app_k 23 25 predZ 5 72 Tryz.underlying23 info_pred rfl (by omega) (by omega) w2 (A+1) rfl (.tmp 40) (.tmp 47) rfl ao2 cp i vss.flatten ?q1 K2.o.own S2.o.lt 1 1 vs.toArray 25 ?q2 ?q6 (by omega) PC.o.ones ?q4 ?_;(case q1=>rfl);(case q2=>rfl);(case q6=>rw[List.size_toArray,hl5]);(case q4=>omega);intro g5 off5 c5 wa o8 gr8 b8 or8;have O8:=ħ o8;have GR8:=ħ gr8;have B8:=ħ b8;have OR8:=ħ or8;clear o8 gr8 b8 or8)
     have KA:=ħ (KidsM.add hk3.o K2.o hw3.o.size (fun g hg=>by have:=hs3.o.lt;have:=HA.o;rcases hg with h | h<;>omega) PC.o O8.o GR8.o OR8.o)
     have SA:=ħ (S2.o.below B8.o (Nat.lt_succ_self A))
     have ZA:=ħ (Z2.o.below B8.o (by have:=HA.o;omega))
     have XA:=ħ (X2.o.below B8.o (by have:=HA.o;omega))
     have WA:=ħ (W2.o.trans (B8.o.mono (by have:=HA.o;omega)))
     have GA:Hid (wa.heap[g]?=wr.heap[g]?):=ħ (by rw[B8.o.block g (by have:=HA.o;have:=HG.o;omega)];exact GG.o w2 B2.o)
     refine postOf_normal ⟨HSS.o wa SA.o XA.o GA.o,?_⟩
     refine wpTailT_cons ?_
     go_wp2_with fail
     refine postOf_normal ⟨HSS.o wa SA.o XA.o GA.o,?_⟩
     refine wpTailT_one ?_
     have m4:=SA.o.cell 4 _ rfl
     have f4:=SA.o.warm 4
     have U5:=ħ (upd_setCell wa ⟨A,4,none⟩ (.slice (some ⟨g5,off5,none⟩) (i+1) c5))
     have S5:Hid (HasV (wa.setCell ⟨A,4,none⟩ (.slice (some ⟨g5,off5,none⟩) (i+1) c5)) A 25 (kidV 2 0 (some ⟨g5,off5,none⟩) (i+1) c5)):=ħ (SA.o.set 4 _)
     have X5:=ħ (XA.o.upd U5.o (by show w.heap.size≠A;have:=HA.o;omega))
     have Z5:=ħ (ZA.o.upd U5.o (by show w.heap.size+1≠A;have:=HA.o;omega))
     have K5:=ħ (KA.o.upd U5.o (.inr rfl) (fun e=>by have:=(KA.o.own.blk_lt e).1;have:A+1≤A:=this;omega))
     have W5:=ħ (U5.o.below WA.o (by show w.heap.size≤A;have:=HA.o;omega))
     clear SA ZA XA KA WA U5 O8 K2 S2 Z2 X2 W2 GR8 OR8 B8 B2 hs3 hz3 hx3 hk3 hw3 PX3 PC GG GA HSS
     go_wp2_with fail
     go_roundw
     case rel=>exact⟨i+1,c5,some ⟨g5,off5,none⟩,vss++[vs],by go_num,by omega,X5,Z5,S5,ħ (by rw[negL_take ks i q HQI.o];exact K5.o),W5⟩
     case measure=>simp only[intOf];omega
   ·obtain hin:i=n:=by omega
    have ii:¬ ((i:Int)<n):=by omega
    have HIN:Hid (negL (ks.take i)=negL ks):=ħ (by rw[hin,HN.o,List.take_length])
    rw[HIN.o] at hkm
    have S9:=hs
    have Z9:=hz
    have K9:=hkm
    have W9:=hw
    go_wp2_with (first
     | (refine wpList_load_row rfl 25 (.tmp 3) rfl A ?x1 25 (kidV 2 0 ao2 i cp).toArray (0,0) _ S9.o Tryz.underlying25 rfl (inf_pred _ rfl) ?_;(case x1=>rfl))
     | (refine wpList_store_abs rfl 25 (.tmp 2) (.tmp 50) rfl (w.heap.size+1) (kidV 2 0 ao2 i cp).toArray ?s1 ?s2 25 _ Z9.o (inf_pred _ rfl) rfl (kidV_one _ _ _ _ _) ?_;(case s1=>rfl);(case s2=>rfl);intro w9 s9 u9;have SR:=ħ s9;have U9:=ħ u9;clear s9 u9))
    have KR:=K9.o.upd U9.o (.inl rfl) (fun e=>by have:=(K9.o.own.blk_lt e).1;have:=HA.o;omega)
    exact bodyPost_ret (results_cell_row (p:=2) (by kernel_rfl) _ _ (w.heap.size+1) 25 (kidV 2 0 ao2 i cp).toArray (0,0) _ rfl SR.o Tryz.underlying25 rfl (inf_pred _ rfl)) rfl ⟨⟨_,rfl,_,rfl,by rw[HNK.o,HNC.o];exact KR.predV (by have:=HA.o;omega) _ _⟩,U9.o.below W9.o (Nat.le_succ _)⟩
 ·have c1:(κ==1)=false:=by rw[beq_eq_false_iff_ne];exact h1
  by_cases h2:κ=2
  ·have HNK:Hid (nkP κ=1):=ħ (by unfold nkP;rw[if_neg h1,if_pos h2])
   have HNC:Hid (ncP κ ks.length c=0):=ħ (by unfold ncP;rw[if_neg (by omega)])
   have c2:(κ==2)=true:=by rw[h2];rfl
   have c3:(κ==3)=false:=by rw[h2];rfl
   clear h1 h2
   have m:=S1.o.cell 0 _ rfl
   have f:=S1.o.warm 0
   have k0:=X1.o.cell 0 _ rfl
   have k3:=X1.o.cell 3 _ rfl
   have k4:=X1.o.cell 4 _ rfl
   go_upto_region 8 with (fail)
   clear m f k0 k3 k4
   have U8:=ħ (upd_setCell w1 ⟨A,0,none⟩ (.int .i64 1))
   have S2:Hid (HasV (w1.setCell ⟨A,0,none⟩ (.int .i64 1)) A 25 (kidV 1 0 none 0 0)):=ħ (S1.o.set 0 _)
   have Z2:=ħ (Z1.o.upd U8.o (by show w.heap.size+1≠A;have:=HA.o;omega))
   have X2:=ħ (X1.o.upd U8.o (by show w.heap.size≠A;have:=HA.o;omega))
   have D2:=ħ (U8.o.below D1.o (by show w.heap.size≤A;have:=HA.o;omega))
   clear U8 S1 Z1 X1 D1
   generalize w1.setCell ⟨A,0,none⟩ (.int .i64 1)=w2 at *
   have S1:=S2
   have Z1:=Z2
   have X1:=X2
   have D1:=D2
   clear S2 Z2 X2 D2
   have k0:=X1.o.cell 0 _ rfl
   go_wp2_with fail
   clear k0
   clear c1 c2 c3
   go_loopw [4] (fun cc wr=>∃ (i cp:Nat) (ao2:Option Addr) (vss:List (List Value)),cc = .int .i64 i∧i≤n ∧
     Hid (HasV wr w.heap.size 25 [.int .i64 κ,.string y,.string z,.int .i64 c,.slice ao n cap])∧Hid (HasV wr (w.heap.size+1) 25 pred0)∧Hid (HasV wr A 25 (kidV 1 0 ao2 i cp)) ∧
     Hid (KidsM w wr (A+1) (fun g=>g=w.heap.size+1∨g=A) ao2 i cp (negL (ks.take i)) vss)∧Hid (Below w.heap.size w wr)) (fun c _=>(n-intOf c).toNat)
   case atStart=>exact⟨0,0,none,[],rfl,by omega,X1,Z1,S1,ħ (KidsM.nil _ _ _ _),D1⟩
   case round =>
    clear X1 Z1 S1 D1
    obtain⟨i,cp,ao2,vss,rfl,hi,hx,hz,hs,hkm,hw⟩:=hrel
    have e2:IntKind.i64.wrap ((i:Int)+1)=((i+1:Nat):Int):=IntWalk.i64_in _ (by omega)
    have k4:=hx.o.cell 4 _ rfl
    by_cases hlt:i<n
    ·have ii:(i:Int)<n:=by omega
     have HQ:Hid (∃ q,ks[i]?=some q∧∃ g off,ao=some ⟨g,off,none⟩∧g<w.heap.size∧∃ vs,PredC wr P q vs∧Reads wr g (off+i*5) vs):=ħ (by
      have hl:i<ks.length:=by rw[← HN.o];exact hlt
      refine⟨ks[i],List.getElem?_eq_getElem hl,?_⟩
      rcases HK.o with h | ⟨g,off,h1,h2,h3,h4⟩
      ·rw[h] at hl;exact absurd hl (Nat.not_lt_zero _)
      ·obtain⟨vs,hv1,hv2⟩:=KidsC.at ks g off i _ (List.getElem?_eq_getElem hl) h4
       exact⟨g,off,h1,h3,vs,hv1.below hw.o,hv2.of_block (hw.o.block g h3)⟩)
     obtain⟨q,hq,g,off,hao,hg,vs,hpc,hrd⟩:=HQ.o
     clear HQ
     have HQI:=ħ hq
     obtain⟨xa,xn,xc,hvf,-⟩:=hpc.form
     rw[hvf] at hrd hpc
     have PC:=ħ hpc
     have HG:=ħ hg
     have HRD:=ħ hrd
     clear hrd hpc hvf vs hq hg
     have HAO:=ħ hao
     subst hao
     generalize q.k=q0 at *
     generalize strN q.l=q1 at *
     generalize strN q.r=q2 at *
     generalize q.c=q3 at *
     have AL:Hid (A<wr.heap.size):=ħ hs.o.lt
     have HSS:Hid (∀ w':World,HasV w' A 25 (kidV 1 0 ao2 i cp)→HasV w' w.heap.size 25 [.int .i64 κ,.string y,.string z,.int .i64 c,.slice (some ⟨g,off,none⟩) n cap]→w'.heap[g]?=wr.heap[g]?→(w'.cell? ⟨A,4,none⟩=some (.slice ao2 i cp)∧w'.cell? ⟨w.heap.size,4,none⟩=some (.slice (some ⟨g,off,none⟩) n cap) ∧
       w'.cell? ⟨g,off+i*5,none⟩=some (.int .i64 q0)∧w'.cell? ⟨g,off+i*5+1,none⟩=some (.string q1)∧w'.cell? ⟨g,off+i*5+2,none⟩=some (.string q2)∧w'.cell? ⟨g,off+i*5+3,none⟩=some (.int .i64 q3)∧w'.cell? ⟨g,off+i*5+4,none⟩=some (.slice xa xn xc))):=ħ (fun w' h1 h2 h3=>by
      have hr:Reads w' g (off+i*5) [.int .i64 q0,.string q1,.string q2,.int .i64 q3,.slice xa xn xc]:=HRD.o.of_block h3
      exact⟨h1.cell 4 _ rfl,h2.cell 4 _ rfl,by have:=hr 0 _ rfl;rw[Nat.add_zero] at this;exact this,hr 1 _ rfl,hr 2 _ rfl,hr 3 _ rfl,hr 4 _ rfl⟩)
     go_upto_region 13 with (fail)
     clear k4
     refine wp_region_pick [0,1,2,3,4,5,6] [7,8,9,10,11] (fun w'=>w'.cell? ⟨A,4,none⟩=some (.slice ao2 i cp)∧w'.cell? ⟨w.heap.size,4,none⟩=some (.slice (some ⟨g,off,none⟩) n cap) ∧
       w'.cell? ⟨g,off+i*5,none⟩=some (.int .i64 q0)∧w'.cell? ⟨g,off+i*5+1,none⟩=some (.string q1)∧w'.cell? ⟨g,off+i*5+2,none⟩=some (.string q2)∧w'.cell? ⟨g,off+i*5+3,none⟩=some (.int .i64 q3)∧w'.cell? ⟨g,off+i*5+4,none⟩=some (.slice xa xn xc)) (by kernel_rfl) (by kernel_rfl) (by kernel_rfl) (fun _ _ d _ _ h=>by cases d<;>exact h) (HSS.o wr hs.o hx.o rfl) ?_
     simp only[pickI,List.filterMap_cons,List.filterMap_nil,List.getElem?_cons_zero,List.getElem?_cons_succ,Option.map_some,List.map_cons,List.map_nil]
     apply Exists.intro
     refine⟨?hh,?ht⟩
     case hh =>
      intro w' hw'
      obtain⟨c4',c5',y0,y1,y2,y3,y4⟩:=hw'
      repeat still_step
      exact wpStill_nil rfl
     case ht =>
      have BD:Below wr.heap.size wr wr.drew:=(Below.refl wr.heap.size wr).drew
      have hx3:=ħ (hx.o.step BD)
      have hz3:=ħ (hz.o.step BD)
      have hs3:=ħ (hs.o.step BD)
      have hk3:=ħ (hkm.o.step BD)
      have hw3:=ħ (hw.o.trans (BD.mono hw.o.size))
      have PX3:=ħ (PC.o.below BD)
      have XL3:Hid (wr.drew.heap.size=wr.heap.size):=ħ rfl
      have HG3:Hid (g<wr.drew.heap.size∧wr.drew.heap[g]?=wr.heap[g]?):=ħ ⟨Nat.lt_of_lt_of_le HG.o hw.o.size,rfl⟩
      clear BD hx hz hs hkm hw PC
      generalize wr.drew=wd at *
      refine wpTailT_cons ?_
      go_wp2_with fail
      refine (IH.o q wd _ (List.mem_of_getElem? HQI.o) PX3.o).mono ?_
      rintro e w2 ⟨⟨v,rfl,vs,rfl,hpc⟩,b2⟩
      have PC:=ħ hpc
      have B2:=ħ b2
      have S2:=ħ (hs3.o.step b2)
      have Z2:=ħ (hz3.o.step b2)
      have X2:=ħ (hx3.o.step b2)
      have K2:=ħ (hk3.o.step b2)
      have W2:=ħ (hw3.o.trans (b2.mono hw3.o.size))
      have GG:Hid (∀ w':World,Below wd.heap.size wd w'→w'.heap[g]?=wr.heap[g]?):=ħ (fun w' hb=>(hb.block g HG3.o.1).trans HG3.o.2)
      clear hpc b2
      go_wp2_with fail
      refine postOf_normal ⟨HSS.o w2 S2.o X2.o (GG.o w2 B2.o),?_⟩
      refine wpTailT_cons ?_
      have hl5:vs.length=5:=PC.o.len
      have hfd:=fold5 #[.int .i64 0,.string ⟨#[]⟩,.string ⟨#[]⟩,.int .i64 0,.slice none 0 0] rfl vs hl5
      go_wp2_with fail
      refine postOf_normal ⟨HSS.o _ (hs3.o.step (B2.o.alloc B2.o.size _)) (hx3.o.step (B2.o.alloc B2.o.size _)) (GG.o _ (B2.o.alloc B2.o.size _)),?_⟩
      refine wpTailT_cons ?_
      go_wp2_with (at_builtin;refine app_k 23 25 predZ 5 72 Tryz.underlying23 info_pred rfl (by omega) (by omega) w2 (A+1) rfl (.tmp 40) (.tmp 47) rfl ao2 cp i vss.flatten ?q1 K2.o.own S2.o.lt 1 1 vs.toArray 25 ?q2 ?q6 (by omega) PC.o.ones ?q4 ?_;(case q1=>rfl);(case q2=>rfl);(case q6=>rw[List.size_toArray,hl5]);(case q4=>omega);intro g5 off5 c5 wa o8 gr8 b8 or8;have O8:=ħ o8;have GR8:=ħ gr8;have B8:=ħ b8;have OR8:=ħ or8;clear o8 gr8 b8 or8)
      have KA:=ħ (KidsM.add hk3.o K2.o hw3.o.size (fun g hg=>by have:=hs3.o.lt;have:=HA.o;rcases hg with h | h<;>omega) PC.o O8.o GR8.o OR8.o)
      have SA:=ħ (S2.o.below B8.o (Nat.lt_succ_self A))
      have ZA:=ħ (Z2.o.below B8.o (by have:=HA.o;omega))
      have XA:=ħ (X2.o.below B8.o (by have:=HA.o;omega))
      have WA:=ħ (W2.o.trans (B8.o.mono (by have:=HA.o;omega)))
      have GA:Hid (wa.heap[g]?=wr.heap[g]?):=ħ (by rw[B8.o.block g (by have:=HA.o;have:=HG.o;omega)];exact GG.o w2 B2.o)
      refine postOf_normal ⟨HSS.o wa SA.o XA.o GA.o,?_⟩
      refine wpTailT_cons ?_
      go_wp2_with fail
      refine postOf_normal ⟨HSS.o wa SA.o XA.o GA.o,?_⟩
      refine wpTailT_one ?_
      have m4:=SA.o.cell 4 _ rfl
      have f4:=SA.o.warm 4
      have U5:=ħ (upd_setCell wa ⟨A,4,none⟩ (.slice (some ⟨g5,off5,none⟩) (i+1) c5))
      have S5:Hid (HasV (wa.setCell ⟨A,4,none⟩ (.slice (some ⟨g5,off5,none⟩) (i+1) c5)) A 25 (kidV 1 0 (some ⟨g5,off5,none⟩) (i+1) c5)):=ħ (SA.o.set 4 _)
      have X5:=ħ (XA.o.upd U5.o (by show w.heap.size≠A;have:=HA.o;omega))
      have Z5:=ħ (ZA.o.upd U5.o (by show w.heap.size+1≠A;have:=HA.o;omega))
      have K5:=ħ (KA.o.upd U5.o (.inr rfl) (fun e=>by have:=(KA.o.own.blk_lt e).1;have:A+1≤A:=this;omega))
      have W5:=ħ (U5.o.below WA.o (by show w.heap.size≤A;have:=HA.o;omega))
      clear SA ZA XA KA WA U5 O8 K2 S2 Z2 X2 W2 GR8 OR8 B8 B2 hs3 hz3 hx3 hk3 hw3 PX3 PC GG GA HSS
      go_wp2_with fail
      go_roundw
      case rel=>exact⟨i+1,c5,some ⟨g5,off5,none⟩,vss++[vs],by go_num,by omega,X5,Z5,S5,ħ (by rw[negL_take ks i q HQI.o];exact K5.o),W5⟩
      case measure=>simp only[intOf];omega
    ·obtain hin:i=n:=by omega
     have ii:¬ ((i:Int)<n):=by omega
     have HIN:Hid (negL (ks.take i)=negL ks):=ħ (by rw[hin,HN.o,List.take_length])
     rw[HIN.o] at hkm
     have S9:=hs
     have Z9:=hz
     have K9:=hkm
     have W9:=hw
     go_wp2_with (first
      | (refine wpList_load_row rfl 25 (.tmp 3) rfl A ?x1 25 (kidV 1 0 ao2 i cp).toArray (0,0) _ S9.o Tryz.underlying25 rfl (inf_pred _ rfl) ?_;(case x1=>rfl))
      | (refine wpList_store_abs rfl 25 (.tmp 2) (.tmp 50) rfl (w.heap.size+1) (kidV 1 0 ao2 i cp).toArray ?s1 ?s2 25 _ Z9.o (inf_pred _ rfl) rfl (kidV_one _ _ _ _ _) ?_;(case s1=>rfl);(case s2=>rfl);intro w9 s9 u9;have SR:=ħ s9;have U9:=ħ u9;clear s9 u9))
     have KR:=K9.o.upd U9.o (.inl rfl) (fun e=>by have:=(K9.o.own.blk_lt e).1;have:=HA.o;omega)
     exact bodyPost_ret (results_cell_row (p:=2) (by kernel_rfl) _ _ (w.heap.size+1) 25 (kidV 1 0 ao2 i cp).toArray (0,0) _ rfl SR.o Tryz.underlying25 rfl (inf_pred _ rfl)) rfl ⟨⟨_,rfl,_,rfl,by rw[HNK.o,HNC.o];exact KR.predV (by have:=HA.o;omega) _ _⟩,U9.o.below W9.o (Nat.le_succ _)⟩
  ·have HNK:Hid (nkP κ=κ):=ħ (by unfold nkP;rw[if_neg h1,if_neg h2])
   have c2:(κ==2)=false:=by rw[beq_eq_false_iff_ne];exact h2
   by_cases h3:κ=3
   ·have c3:(κ==3)=true:=by rw[h3];rfl
    obtain⟨D,hD⟩:∃ D,w64 (w64 ((n:Int)-c)+1)=D:=⟨_,rfl⟩
    have HNC:Hid (ncP κ ks.length c=D):=ħ (by unfold ncP;rw[if_pos h3,HLEN.o];exact hD)
    have e3:IntKind.i64.wrap ((n:Int)-c)=w64 ((n:Int)-c):=by rw[IntKind.wrap_i64];rfl
    have e4:IntKind.i64.wrap (w64 ((n:Int)-c)+1)=D:=by rw[IntKind.wrap_i64];exact hD
    generalize w64 ((n:Int)-c)=D1' at *
    clear h1 h2 h3 hD
    have m:=S1.o.cell 3 _ rfl
    have f:=S1.o.warm 3
    have k0:=X1.o.cell 0 _ rfl
    have k3:=X1.o.cell 3 _ rfl
    have k4:=X1.o.cell 4 _ rfl
    go_upto_region 10 with (fail)
    clear m f k0 k3 k4
    have U8:=ħ (upd_setCell w1 ⟨A,3,none⟩ (.int .i64 D))
    have S2:Hid (HasV (w1.setCell ⟨A,3,none⟩ (.int .i64 D)) A 25 (kidV κ D none 0 0)):=ħ (S1.o.set 3 _)
    have Z2:=ħ (Z1.o.upd U8.o (by show w.heap.size+1≠A;have:=HA.o;omega))
    have X2:=ħ (X1.o.upd U8.o (by show w.heap.size≠A;have:=HA.o;omega))
    have D2:=ħ (U8.o.below D1.o (by show w.heap.size≤A;have:=HA.o;omega))
    clear U8 S1 Z1 X1 D1
    generalize w1.setCell ⟨A,3,none⟩ (.int .i64 D)=w2 at *
    have S1:=S2
    have Z1:=Z2
    have X1:=X2
    have D1:=D2
    clear S2 Z2 X2 D2
    have k0:=X1.o.cell 0 _ rfl
    go_wp2_with fail
    clear k0
    clear c1 c2 c3 e3 e4
    go_loopw [4] (fun cc wr=>∃ (i cp:Nat) (ao2:Option Addr) (vss:List (List Value)),cc = .int .i64 i∧i≤n ∧
      Hid (HasV wr w.heap.size 25 [.int .i64 κ,.string y,.string z,.int .i64 c,.slice ao n cap])∧Hid (HasV wr (w.heap.size+1) 25 pred0)∧Hid (HasV wr A 25 (kidV κ D ao2 i cp)) ∧
      Hid (KidsM w wr (A+1) (fun g=>g=w.heap.size+1∨g=A) ao2 i cp (negL (ks.take i)) vss)∧Hid (Below w.heap.size w wr)) (fun c _=>(n-intOf c).toNat)
    case atStart=>exact⟨0,0,none,[],rfl,by omega,X1,Z1,S1,ħ (KidsM.nil _ _ _ _),D1⟩
    case round =>
     clear X1 Z1 S1 D1
     obtain⟨i,cp,ao2,vss,rfl,hi,hx,hz,hs,hkm,hw⟩:=hrel
     have e2:IntKind.i64.wrap ((i:Int)+1)=((i+1:Nat):Int):=IntWalk.i64_in _ (by omega)
     have k4:=hx.o.cell 4 _ rfl
     by_cases hlt:i<n
     ·have ii:(i:Int)<n:=by omega
      have HQ:Hid (∃ q,ks[i]?=some q∧∃ g off,ao=some ⟨g,off,none⟩∧g<w.heap.size∧∃ vs,PredC wr P q vs∧Reads wr g (off+i*5) vs):=ħ (by
       have hl:i<ks.length:=by rw[← HN.o];exact hlt
       refine⟨ks[i],List.getElem?_eq_getElem hl,?_⟩
       rcases HK.o with h | ⟨g,off,h1,h2,h3,h4⟩
       ·rw[h] at hl;exact absurd hl (Nat.not_lt_zero _)
       ·obtain⟨vs,hv1,hv2⟩:=KidsC.at ks g off i _ (List.getElem?_eq_getElem hl) h4
        exact⟨g,off,h1,h3,vs,hv1.below hw.o,hv2.of_block (hw.o.block g h3)⟩)
      obtain⟨q,hq,g,off,hao,hg,vs,hpc,hrd⟩:=HQ.o
      clear HQ
      have HQI:=ħ hq
      obtain⟨xa,xn,xc,hvf,-⟩:=hpc.form
      rw[hvf] at hrd hpc
      have PC:=ħ hpc
      have HG:=ħ hg
      have HRD:=ħ hrd
      clear hrd hpc hvf vs hq hg
      have HAO:=ħ hao
      subst hao
      generalize q.k=q0 at *
      generalize strN q.l=q1 at *
      generalize strN q.r=q2 at *
      generalize q.c=q3 at *
      have AL:Hid (A<wr.heap.size):=ħ hs.o.lt
      have HSS:Hid (∀ w':World,HasV w' A 25 (kidV κ D ao2 i cp)→HasV w' w.heap.size 25 [.int .i64 κ,.string y,.string z,.int .i64 c,.slice (some ⟨g,off,none⟩) n cap]→w'.heap[g]?=wr.heap[g]?→(w'.cell? ⟨A,4,none⟩=some (.slice ao2 i cp)∧w'.cell? ⟨w.heap.size,4,none⟩=some (.slice (some ⟨g,off,none⟩) n cap) ∧
        w'.cell? ⟨g,off+i*5,none⟩=some (.int .i64 q0)∧w'.cell? ⟨g,off+i*5+1,none⟩=some (.string q1)∧w'.cell? ⟨g,off+i*5+2,none⟩=some (.string q2)∧w'.cell? ⟨g,off+i*5+3,none⟩=some (.int .i64 q3)∧w'.cell? ⟨g,off+i*5+4,none⟩=some (.slice xa xn xc))):=ħ (fun w' h1 h2 h3=>by
       have hr:Reads w' g (off+i*5) [.int .i64 q0,.string q1,.string q2,.int .i64 q3,.slice xa xn xc]:=HRD.o.of_block h3
       exact⟨h1.cell 4 _ rfl,h2.cell 4 _ rfl,by have:=hr 0 _ rfl;rw[Nat.add_zero] at this;exact this,hr 1 _ rfl,hr 2 _ rfl,hr 3 _ rfl,hr 4 _ rfl⟩)
      go_upto_region 13 with (fail)
      clear k4
      refine wp_region_pick [0,1,2,3,4,5,6] [7,8,9,10,11] (fun w'=>w'.cell? ⟨A,4,none⟩=some (.slice ao2 i cp)∧w'.cell? ⟨w.heap.size,4,none⟩=some (.slice (some ⟨g,off,none⟩) n cap) ∧
        w'.cell? ⟨g,off+i*5,none⟩=some (.int .i64 q0)∧w'.cell? ⟨g,off+i*5+1,none⟩=some (.string q1)∧w'.cell? ⟨g,off+i*5+2,none⟩=some (.string q2)∧w'.cell? ⟨g,off+i*5+3,none⟩=some (.int .i64 q3)∧w'.cell? ⟨g,off+i*5+4,none⟩=some (.slice xa xn xc)) (by kernel_rfl) (by kernel_rfl) (by kernel_rfl) (fun _ _ d _ _ h=>by cases d<;>exact h) (HSS.o wr hs.o hx.o rfl) ?_
      simp only[pickI,List.filterMap_cons,List.filterMap_nil,List.getElem?_cons_zero,List.getElem?_cons_succ,Option.map_some,List.map_cons,List.map_nil]
      apply Exists.intro
      refine⟨?hh,?ht⟩
      case hh =>
       intro w' hw'
       obtain⟨c4',c5',y0,y1,y2,y3,y4⟩:=hw'
       repeat still_step
       exact wpStill_nil rfl
      case ht =>
       have BD:Below wr.heap.size wr wr.drew:=(Below.refl wr.heap.size wr).drew
       have hx3:=ħ (hx.o.step BD)
       have hz3:=ħ (hz.o.step BD)
       have hs3:=ħ (hs.o.step BD)
       have hk3:=ħ (hkm.o.step BD)
       have hw3:=ħ (hw.o.trans (BD.mono hw.o.size))
       have PX3:=ħ (PC.o.below BD)
       have XL3:Hid (wr.drew.heap.size=wr.heap.size):=ħ rfl
       have HG3:Hid (g<wr.drew.heap.size∧wr.drew.heap[g]?=wr.heap[g]?):=ħ ⟨Nat.lt_of_lt_of_le HG.o hw.o.size,rfl⟩
       clear BD hx hz hs hkm hw PC
       generalize wr.drew=wd at *
       refine wpTailT_cons ?_
       go_wp2_with fail
       refine (IH.o q wd _ (List.mem_of_getElem? HQI.o) PX3.o).mono ?_
       rintro e w2 ⟨⟨v,rfl,vs,rfl,hpc⟩,b2⟩
       have PC:=ħ hpc
       have B2:=ħ b2
       have S2:=ħ (hs3.o.step b2)
       have Z2:=ħ (hz3.o.step b2)
       have X2:=ħ (hx3.o.step b2)
       have K2:=ħ (hk3.o.step b2)
       have W2:=ħ (hw3.o.trans (b2.mono hw3.o.size))
       have GG:Hid (∀ w':World,Below wd.heap.size wd w'→w'.heap[g]?=wr.heap[g]?):=ħ (fun w' hb=>(hb.block g HG3.o.1).trans HG3.o.2)
       clear hpc b2
       go_wp2_with fail
       refine postOf_normal ⟨HSS.o w2 S2.o X2.o (GG.o w2 B2.o),?_⟩
       refine wpTailT_cons ?_
       have hl5:vs.length=5:=PC.o.len
       have hfd:=fold5 #[.int .i64 0,.string ⟨#[]⟩,.string ⟨#[]⟩,.int .i64 0,.slice none 0 0] rfl vs hl5
       go_wp2_with fail
       refine postOf_normal ⟨HSS.o _ (hs3.o.step (B2.o.alloc B2.o.size _)) (hx3.o.step (B2.o.alloc B2.o.size _)) (GG.o _ (B2.o.alloc B2.o.size _)),?_⟩
       refine wpTailT_cons ?_
       go_wp2_with (at_builtin;refine app_k 23 25 predZ 5 72 Tryz.underlying23 info_pred rfl (by omega) (by omega) w2 (A+1) rfl (.tmp 40) (.tmp 47) rfl ao2 cp i vss.flatten ?q1 K2.o.own S2.o.lt 1 1 vs.toArray 25 ?q2 ?q6 (by omega) PC.o.ones ?q4 ?_;(case q1=>rfl);(case q2=>rfl);(case q6=>rw[List.size_toArray,hl5]);(case q4=>omega);intro g5 off5 c5 wa o8 gr8 b8 or8;have O8:=ħ o8;have GR8:=ħ gr8;have B8:=ħ b8;have OR8:=ħ or8;clear o8 gr8 b8 or8)
       have KA:=ħ (KidsM.add hk3.o K2.o hw3.o.size (fun g hg=>by have:=hs3.o.lt;have:=HA.o;rcases hg with h | h<;>omega) PC.o O8.o GR8.o OR8.o)
       have SA:=ħ (S2.o.below B8.o (Nat.lt_succ_self A))
       have ZA:=ħ (Z2.o.below B8.o (by have:=HA.o;omega))
       have XA:=ħ (X2.o.below B8.o (by have:=HA.o;omega))
       have WA:=ħ (W2.o.trans (B8.o.mono (by have:=HA.o;omega)))
       have GA:Hid (wa.heap[g]?=wr.heap[g]?):=ħ (by rw[B8.o.block g (by have:=HA.o;have:=HG.o;omega)];exact GG.o w2 B2.o)
       refine postOf_normal ⟨HSS.o wa SA.o XA.o GA.o,?_⟩
       refine wpTailT_cons ?_
       go_wp2_with fail
       refine postOf_normal ⟨HSS.o wa SA.o XA.o GA.o,?_⟩
       refine wpTailT_one ?_
       have m4:=SA.o.cell 4 _ rfl
       have f4:=SA.o.warm 4
       have U5:=ħ (upd_setCell wa ⟨A,4,none⟩ (.slice (some ⟨g5,off5,none⟩) (i+1) c5))
       have S5:Hid (HasV (wa.setCell ⟨A,4,none⟩ (.slice (some ⟨g5,off5,none⟩) (i+1) c5)) A 25 (kidV κ D (some ⟨g5,off5,none⟩) (i+1) c5)):=ħ (SA.o.set 4 _)
       have X5:=ħ (XA.o.upd U5.o (by show w.heap.size≠A;have:=HA.o;omega))
       have Z5:=ħ (ZA.o.upd U5.o (by show w.heap.size+1≠A;have:=HA.o;omega))
       have K5:=ħ (KA.o.upd U5.o (.inr rfl) (fun e=>by have:=(KA.o.own.blk_lt e).1;have:A+1≤A:=this;omega))
       have W5:=ħ (U5.o.below WA.o (by show w.heap.size≤A;have:=HA.o;omega))
       clear SA ZA XA KA WA U5 O8 K2 S2 Z2 X2 W2 GR8 OR8 B8 B2 hs3 hz3 hx3 hk3 hw3 PX3 PC GG GA HSS
       go_wp2_with fail
       go_roundw
       case rel=>exact⟨i+1,c5,some ⟨g5,off5,none⟩,vss++[vs],by go_num,by omega,X5,Z5,S5,ħ (by rw[negL_take ks i q HQI.o];exact K5.o),W5⟩
       case measure=>simp only[intOf];omega
     ·obtain hin:i=n:=by omega
      have ii:¬ ((i:Int)<n):=by omega
      have HIN:Hid (negL (ks.take i)=negL ks):=ħ (by rw[hin,HN.o,List.take_length])
      rw[HIN.o] at hkm
      have S9:=hs
      have Z9:=hz
      have K9:=hkm
      have W9:=hw
      go_wp2_with (first
       | (refine wpList_load_row rfl 25 (.tmp 3) rfl A ?x1 25 (kidV κ D ao2 i cp).toArray (0,0) _ S9.o Tryz.underlying25 rfl (inf_pred _ rfl) ?_;(case x1=>rfl))
       | (refine wpList_store_abs rfl 25 (.tmp 2) (.tmp 50) rfl (w.heap.size+1) (kidV κ D ao2 i cp).toArray ?s1 ?s2 25 _ Z9.o (inf_pred _ rfl) rfl (kidV_one _ _ _ _ _) ?_;(case s1=>rfl);(case s2=>rfl);intro w9 s9 u9;have SR:=ħ s9;have U9:=ħ u9;clear s9 u9))
      have KR:=K9.o.upd U9.o (.inl rfl) (fun e=>by have:=(K9.o.own.blk_lt e).1;have:=HA.o;omega)
      exact bodyPost_ret (results_cell_row (p:=2) (by kernel_rfl) _ _ (w.heap.size+1) 25 (kidV κ D ao2 i cp).toArray (0,0) _ rfl SR.o Tryz.underlying25 rfl (inf_pred _ rfl)) rfl ⟨⟨_,rfl,_,rfl,by rw[HNK.o,HNC.o];exact KR.predV (by have:=HA.o;omega) _ _⟩,U9.o.below W9.o (Nat.le_succ _)⟩
   ·have c3:(κ==3)=false:=by rw[beq_eq_false_iff_ne];exact h3
    have HNC:Hid (ncP κ ks.length c=0):=ħ (by unfold ncP;rw[if_neg h3])
    clear h1 h2 h3
    have k0:=X1.o.cell 0 _ rfl
    go_wp2_with fail
    clear k0 c1 c2 c3
    go_loopw [4] (fun cc wr=>∃ (i cp:Nat) (ao2:Option Addr) (vss:List (List Value)),cc = .int .i64 i∧i≤n ∧
      Hid (HasV wr w.heap.size 25 [.int .i64 κ,.string y,.string z,.int .i64 c,.slice ao n cap])∧Hid (HasV wr (w.heap.size+1) 25 pred0)∧Hid (HasV wr A 25 (kidV κ 0 ao2 i cp)) ∧
      Hid (KidsM w wr (A+1) (fun g=>g=w.heap.size+1∨g=A) ao2 i cp (negL (ks.take i)) vss)∧Hid (Below w.heap.size w wr)) (fun c _=>(n-intOf c).toNat)
    case atStart=>exact⟨0,0,none,[],rfl,by omega,X1,Z1,S1,ħ (KidsM.nil _ _ _ _),D1⟩
    case round =>
     clear X1 Z1 S1 D1
     obtain⟨i,cp,ao2,vss,rfl,hi,hx,hz,hs,hkm,hw⟩:=hrel
     have e2:IntKind.i64.wrap ((i:Int)+1)=((i+1:Nat):Int):=IntWalk.i64_in _ (by omega)
     have k4:=hx.o.cell 4 _ rfl
     by_cases hlt:i<n
     ·have ii:(i:Int)<n:=by omega
      have HQ:Hid (∃ q,ks[i]?=some q∧∃ g off,ao=some ⟨g,off,none⟩∧g<w.heap.size∧∃ vs,PredC wr P q vs∧Reads wr g (off+i*5) vs):=ħ (by
       have hl:i<ks.length:=by rw[← HN.o];exact hlt
       refine⟨ks[i],List.getElem?_eq_getElem hl,?_⟩
       rcases HK.o with h | ⟨g,off,h1,h2,h3,h4⟩
       ·rw[h] at hl;exact absurd hl (Nat.not_lt_zero _)
       ·obtain⟨vs,hv1,hv2⟩:=KidsC.at ks g off i _ (List.getElem?_eq_getElem hl) h4
        exact⟨g,off,h1,h3,vs,hv1.below hw.o,hv2.of_block (hw.o.block g h3)⟩)
      obtain⟨q,hq,g,off,hao,hg,vs,hpc,hrd⟩:=HQ.o
      clear HQ
      have HQI:=ħ hq
      obtain⟨xa,xn,xc,hvf,-⟩:=hpc.form
      rw[hvf] at hrd hpc
      have PC:=ħ hpc
      have HG:=ħ hg
      have HRD:=ħ hrd
      clear hrd hpc hvf vs hq hg
      have HAO:=ħ hao
      subst hao
      generalize q.k=q0 at *
      generalize strN q.l=q1 at *
      generalize strN q.r=q2 at *
      generalize q.c=q3 at *
      have AL:Hid (A<wr.heap.size):=ħ hs.o.lt
      have HSS:Hid (∀ w':World,HasV w' A 25 (kidV κ 0 ao2 i cp)→HasV w' w.heap.size 25 [.int .i64 κ,.string y,.string z,.int .i64 c,.slice (some ⟨g,off,none⟩) n cap]→w'.heap[g]?=wr.heap[g]?→(w'.cell? ⟨A,4,none⟩=some (.slice ao2 i cp)∧w'.cell? ⟨w.heap.size,4,none⟩=some (.slice (some ⟨g,off,none⟩) n cap) ∧
        w'.cell? ⟨g,off+i*5,none⟩=some (.int .i64 q0)∧w'.cell? ⟨g,off+i*5+1,none⟩=some (.string q1)∧w'.cell? ⟨g,off+i*5+2,none⟩=some (.string q2)∧w'.cell? ⟨g,off+i*5+3,none⟩=some (.int .i64 q3)∧w'.cell? ⟨g,off+i*5+4,none⟩=some (.slice xa xn xc))):=ħ (fun w' h1 h2 h3=>by
       have hr:Reads w' g (off+i*5) [.int .i64 q0,.string q1,.string q2,.int .i64 q3,.slice xa xn xc]:=HRD.o.of_block h3
       exact⟨h1.cell 4 _ rfl,h2.cell 4 _ rfl,by have:=hr 0 _ rfl;rw[Nat.add_zero] at this;exact this,hr 1 _ rfl,hr 2 _ rfl,hr 3 _ rfl,hr 4 _ rfl⟩)
      go_upto_region 13 with (fail)
      clear k4
      refine wp_region_pick [0,1,2,3,4,5,6] [7,8,9,10,11] (fun w'=>w'.cell? ⟨A,4,none⟩=some (.slice ao2 i cp)∧w'.cell? ⟨w.heap.size,4,none⟩=some (.slice (some ⟨g,off,none⟩) n cap) ∧
        w'.cell? ⟨g,off+i*5,none⟩=some (.int .i64 q0)∧w'.cell? ⟨g,off+i*5+1,none⟩=some (.string q1)∧w'.cell? ⟨g,off+i*5+2,none⟩=some (.string q2)∧w'.cell? ⟨g,off+i*5+3,none⟩=some (.int .i64 q3)∧w'.cell? ⟨g,off+i*5+4,none⟩=some (.slice xa xn xc)) (by kernel_rfl) (by kernel_rfl) (by kernel_rfl) (fun _ _ d _ _ h=>by cases d<;>exact h) (HSS.o wr hs.o hx.o rfl) ?_
      simp only[pickI,List.filterMap_cons,List.filterMap_nil,List.getElem?_cons_zero,List.getElem?_cons_succ,Option.map_some,List.map_cons,List.map_nil]
      apply Exists.intro
      refine⟨?hh,?ht⟩
      case hh =>
       intro w' hw'
       obtain⟨c4',c5',y0,y1,y2,y3,y4⟩:=hw'
       repeat still_step
       exact wpStill_nil rfl
      case ht =>
       have BD:Below wr.heap.size wr wr.drew:=(Below.refl wr.heap.size wr).drew
       have hx3:=ħ (hx.o.step BD)
       have hz3:=ħ (hz.o.step BD)
       have hs3:=ħ (hs.o.step BD)
       have hk3:=ħ (hkm.o.step BD)
       have hw3:=ħ (hw.o.trans (BD.mono hw.o.size))
       have PX3:=ħ (PC.o.below BD)
       have XL3:Hid (wr.drew.heap.size=wr.heap.size):=ħ rfl
       have HG3:Hid (g<wr.drew.heap.size∧wr.drew.heap[g]?=wr.heap[g]?):=ħ ⟨Nat.lt_of_lt_of_le HG.o hw.o.size,rfl⟩
       clear BD hx hz hs hkm hw PC
       generalize wr.drew=wd at *
       refine wpTailT_cons ?_
       go_wp2_with fail
       refine (IH.o q wd _ (List.mem_of_getElem? HQI.o) PX3.o).mono ?_
       rintro e w2 ⟨⟨v,rfl,vs,rfl,hpc⟩,b2⟩
       have PC:=ħ hpc
       have B2:=ħ b2
       have S2:=ħ (hs3.o.step b2)
       have Z2:=ħ (hz3.o.step b2)
       have X2:=ħ (hx3.o.step b2)
       have K2:=ħ (hk3.o.step b2)
       have W2:=ħ (hw3.o.trans (b2.mono hw3.o.size))
       have GG:Hid (∀ w':World,Below wd.heap.size wd w'→w'.heap[g]?=wr.heap[g]?):=ħ (fun w' hb=>(hb.block g HG3.o.1).trans HG3.o.2)
       clear hpc b2
       go_wp2_with fail
       refine postOf_normal ⟨HSS.o w2 S2.o X2.o (GG.o w2 B2.o),?_⟩
       refine wpTailT_cons ?_
       have hl5:vs.length=5:=PC.o.len
       have hfd:=fold5 #[.int .i64 0,.string ⟨#[]⟩,.string ⟨#[]⟩,.int .i64 0,.slice none 0 0] rfl vs hl5
       go_wp2_with fail
       refine postOf_normal ⟨HSS.o _ (hs3.o.step (B2.o.alloc B2.o.size _)) (hx3.o.step (B2.o.alloc B2.o.size _)) (GG.o _ (B2.o.alloc B2.o.size _)),?_⟩
       refine wpTailT_cons ?_
       go_wp2_with (at_builtin;refine app_k 23 25 predZ 5 72 Tryz.underlying23 info_pred rfl (by omega) (by omega) w2 (A+1) rfl (.tmp 40) (.tmp 47) rfl ao2 cp i vss.flatten ?q1 K2.o.own S2.o.lt 1 1 vs.toArray 25 ?q2 ?q6 (by omega) PC.o.ones ?q4 ?_;(case q1=>rfl);(case q2=>rfl);(case q6=>rw[List.size_toArray,hl5]);(case q4=>omega);intro g5 off5 c5 wa o8 gr8 b8 or8;have O8:=ħ o8;have GR8:=ħ gr8;have B8:=ħ b8;have OR8:=ħ or8;clear o8 gr8 b8 or8)
       have KA:=ħ (KidsM.add hk3.o K2.o hw3.o.size (fun g hg=>by have:=hs3.o.lt;have:=HA.o;rcases hg with h | h<;>omega) PC.o O8.o GR8.o OR8.o)
       have SA:=ħ (S2.o.below B8.o (Nat.lt_succ_self A))
       have ZA:=ħ (Z2.o.below B8.o (by have:=HA.o;omega))
       have XA:=ħ (X2.o.below B8.o (by have:=HA.o;omega))
       have WA:=ħ (W2.o.trans (B8.o.mono (by have:=HA.o;omega)))
       have GA:Hid (wa.heap[g]?=wr.heap[g]?):=ħ (by rw[B8.o.block g (by have:=HA.o;have:=HG.o;omega)];exact GG.o w2 B2.o)
       refine postOf_normal ⟨HSS.o wa SA.o XA.o GA.o,?_⟩
       refine wpTailT_cons ?_
       go_wp2_with fail
       refine postOf_normal ⟨HSS.o wa SA.o XA.o GA.o,?_⟩
       refine wpTailT_one ?_
       have m4:=SA.o.cell 4 _ rfl
       have f4:=SA.o.warm 4
       have U5:=ħ (upd_setCell wa ⟨A,4,none⟩ (.slice (some ⟨g5,off5,none⟩) (i+1) c5))
       have S5:Hid (HasV (wa.setCell ⟨A,4,none⟩ (.slice (some ⟨g5,off5,none⟩) (i+1) c5)) A 25 (kidV κ 0 (some ⟨g5,off5,none⟩) (i+1) c5)):=ħ (SA.o.set 4 _)
       have X5:=ħ (XA.o.upd U5.o (by show w.heap.size≠A;have:=HA.o;omega))
       have Z5:=ħ (ZA.o.upd U5.o (by show w.heap.size+1≠A;have:=HA.o;omega))
       have K5:=ħ (KA.o.upd U5.o (.inr rfl) (fun e=>by have:=(KA.o.own.blk_lt e).1;have:A+1≤A:=this;omega))
       have W5:=ħ (U5.o.below WA.o (by show w.heap.size≤A;have:=HA.o;omega))
       clear SA ZA XA KA WA U5 O8 K2 S2 Z2 X2 W2 GR8 OR8 B8 B2 hs3 hz3 hx3 hk3 hw3 PX3 PC GG GA HSS
       go_wp2_with fail
       go_roundw
       case rel=>exact⟨i+1,c5,some ⟨g5,off5,none⟩,vss++[vs],by go_num,by omega,X5,Z5,S5,ħ (by rw[negL_take ks i q HQI.o];exact K5.o),W5⟩
       case measure=>simp only[intOf];omega
     ·obtain hin:i=n:=by omega
      have ii:¬ ((i:Int)<n):=by omega
      have HIN:Hid (negL (ks.take i)=negL ks):=ħ (by rw[hin,HN.o,List.take_length])
      rw[HIN.o] at hkm
      have S9:=hs
      have Z9:=hz
      have K9:=hkm
      have W9:=hw
      go_wp2_with (first
       | (refine wpList_load_row rfl 25 (.tmp 3) rfl A ?x1 25 (kidV κ 0 ao2 i cp).toArray (0,0) _ S9.o Tryz.underlying25 rfl (inf_pred _ rfl) ?_;(case x1=>rfl))
       | (refine wpList_store_abs rfl 25 (.tmp 2) (.tmp 50) rfl (w.heap.size+1) (kidV κ 0 ao2 i cp).toArray ?s1 ?s2 25 _ Z9.o (inf_pred _ rfl) rfl (kidV_one _ _ _ _ _) ?_;(case s1=>rfl);(case s2=>rfl);intro w9 s9 u9;have SR:=ħ s9;have U9:=ħ u9;clear s9 u9))
      have KR:=K9.o.upd U9.o (.inl rfl) (fun e=>by have:=(K9.o.own.blk_lt e).1;have:=HA.o;omega)
      exact bodyPost_ret (results_cell_row (p:=2) (by kernel_rfl) _ _ (w.heap.size+1) 25 (kidV κ 0 ao2 i cp).toArray (0,0) _ rfl SR.o Tryz.underlying25 rfl (inf_pred _ rfl)) rfl ⟨⟨_,rfl,_,rfl,by rw[HNK.o,HNC.o];exact KR.predV (by have:=HA.o;omega) _ _⟩,U9.o.below W9.o (Nat.le_succ _)⟩
theorem snegate_any:∀ (N:Nat) (p:Prd) (w:World) (P:Nat→Prop) (vs:List Value),cntP p≤N→WdP p→PredC w P p vs →
  Calls Tryz.prog 249 #[.agg vs.toArray] w fun e w'=>NegR w (negP p) e w'
 | 0,p,w,P,vs,hN,_,_=>by have:=cnt_pos p;omega
 | N+1,.mk κ l r c ks,w,P,vs,hN,hM,h=>by
  have hc:cntL ks≤N:=by unfold cntP at hN;omega
  obtain⟨hl,hw⟩:=wd_kids hM
  unfold PredC at h
  obtain⟨ao,cap,rfl,hk⟩:=h
  by_cases hκ:κ=0
  ·subst hκ
   exact sneg_atom w l r c ks ao ks.length cap
  ·exact sneg_node w P κ l r c ks ao ks.length cap rfl hκ hl hk (fun q w' us hq hp=>snegate_any N q w' P us (by
    obtain⟨i,hi⟩:=List.mem_iff_getElem?.1 hq
    have:=cnt_kid ks i q hi
    omega) (hw q hq) hp)
theorem wd_negL:∀ ks,(∀ q∈ks,WdP (negP q))→∀ q∈negL ks,WdP q
 | [],_,q,hq=>by cases hq
 | p::ps,h,q,hq=>by
  unfold negL at hq
  rcases List.mem_cons.1 hq with rfl | hq
  ·exact h p (List.mem_cons_self ..)
  ·exact wd_negL ps (fun x hx=>h x (List.mem_cons_of_mem _ hx)) q hq
theorem wd_neg:∀ (N:Nat) (p:Prd),cntP p≤N→WdP p→WdP (negP p)
 | 0,p,hN,_=>by have:=cnt_pos p;omega
 | N+1,.mk κ l r c ks,hN,h=>by
  have hc:cntL ks≤N:=by unfold cntP at hN;omega
  obtain⟨hl,hw⟩:=wd_kids h
  by_cases hκ:κ=0
  ·subst hκ
   unfold negP
   rw[if_pos rfl]
   exact wd_leaf _ _ _ _
  ·rw[negP_node hκ]
   exact wd_list _ _ _ _ (wd_negL ks (fun q hq=>wd_neg N q (by
    obtain⟨i,hi⟩:=List.mem_iff_getElem?.1 hq
    have:=cnt_kid ks i q hi
    omega) (hw q hq))) (by rw[negL_length];exact hl)
end
section
open Go.RowKit
theorem is_yes {ts:List Tok} {s:List Nat} {st:StP} {u:Nat} (hk:∀ k,st = .ok k→k=u) (h:isS ts s st=true):st = .ok u∧u<ts.length∧isP ts s u=true:=by
 obtain⟨i,h1,h2,h3⟩:=isS_ok h
 have:=hk i h1
 subst this
 exact⟨h1,h2,h3⟩
theorem is_not {ts:List Tok} {s:List Nat} {st:StP} (h:isS ts s st=false):∀ k,st = .ok k→isP ts s k=false:=fun k hk=>by rw[hk] at h;exact h
def restU (ts:List Tok) (sz u:Nat) (a:SumV×Nat):PR Prd:=if isP ts [105,110] a.2=true then memberP ts sz a.1 u (a.2+1) else compareP ts sz a.1 u a.2
theorem unit_not {ts:List Tok} {sz f u:Nat} (h:isP ts [110,111,116] u=true):unitP ts sz (f+1) u=(unitP ts sz f (u+1)).bind (fun p=>.ok (negP p.1,p.2)):=by rw[unitP,if_pos h]
theorem unit_open {ts:List Tok} {sz f u:Nat} (h1:isP ts [110,111,116] u=false) (h:isP ts [40] u=true):unitP ts sz (f+1) u=(someP ts (unitP ts sz f) (u+1)).bind (fun p=>(takeP ts sz [41] p.2).bind (fun j=>.ok (p.1,j))):=by rw[unitP,if_neg (by rw[h1];simp),if_pos h]
theorem unit_at {ts:List Tok} {sz f u:Nat} (h1:isP ts [110,111,116] u=false) (h2:isP ts [40] u=false) (h:isP ts [97,116] u=true):unitP ts sz (f+1) u=leastP ts sz (unitP ts sz f) u (u+1):=by rw[unitP,if_neg (by rw[h1];simp),if_neg (by rw[h2];simp),if_pos h]
theorem unit_sum {ts:List Tok} {sz f u:Nat} {st:StP} (hk:∀ k,st = .ok k→k=u) (h1:isS ts [110,111,116] st=false) (h2:isS ts [40] st=false) (h3:isS ts [97,116] st=false):st.bind (unitP ts sz (f+1))=(st.bind (sumP ts sz)).bind (restU ts sz u):=by
 cases st with
 | error z=>rfl
 | ok k =>
  obtain rfl:=hk k rfl
  have g1:isP ts [110,111,116] k=false:=h1
  have g2:isP ts [40] k=false:=h2
  have g3:isP ts [97,116] k=false:=h3
  show unitP ts sz (f+1) k=(sumP ts sz k).bind _
  rw[unitP,if_neg (by rw[g1];simp),if_neg (by rw[g2];simp),if_neg (by rw[g3];simp)]
  rfl
theorem rest_in {ts:List Tok} {sz u j:Nat} {r:PR SumV} {a:SumV} (ha:∀ q,r = .ok q→q.1=a) (hj:nxS r = .ok j) (h:isP ts [105,110] j=true):r.bind (restU ts sz u)=memberP ts sz a u (j+1):=by
 cases r with
 | error z=>cases hj
 | ok q =>
  have e1:=ha q rfl
  have e2:q.2=j:=by injection hj
  show restU ts sz u q=_
  unfold restU
  rw[e2,e1,if_pos h]
theorem rest_cmp {ts:List Tok} {sz u:Nat} {r:PR SumV} {a:SumV} (ha:∀ q,r = .ok q→q.1=a) (h:isS ts [105,110] (nxS r)=false):r.bind (restU ts sz u)=(nxS r).bind (compareP ts sz a u):=by
 cases r with
 | error z=>rfl
 | ok q =>
  have e1:=ha q rfl
  have h2:isP ts [105,110] q.2=false:=h
  show restU ts sz u q=compareP ts sz a u q.2
  unfold restU
  rw[e1,if_neg (by rw[h2];simp)]
theorem sunit_step (w:World) (R:Nat) (ao:Option Addr) (cap:Nat) (ts:List Tok) (sz f:Nat) (st:StP) (h:SrcS w R ao cap ts sz st) (hn:ts.length≤1000000) (hts:∀ t∈ts,TokOk t)
  (ih:∀ u,st = .ok u→∀ (W:World) (s:StP),(∀ k,s = .ok k→u+1≤k)→SrcS W R ao cap ts sz s→Calls Tryz.prog 209 #[.pointer (some ⟨R,0,none⟩)] W fun e w'=>PrdQ W R ao cap ts sz (s.bind (unitP ts sz f)) e w') :
  Calls Tryz.prog 209 #[.pointer (some ⟨R,0,none⟩)] w fun e w'=>PrdQ w R ao cap ts sz (st.bind (unitP ts sz (f+1))) e w':=by
 obtain⟨RR,hRR⟩:∃ RR,st.bind (unitP ts sz (f+1))=RR:=⟨_,rfl⟩
 rw[hRR]
 have HRR:=ħ hRR
 have HN:=ħ hn
 have HTS:=ħ hts
 have IH:=ħ ih
 have H0:=ħ h
 have RL:=ħ h.lt
 obtain⟨u,yy,hul,hsw,hku,hzz⟩:=h.get
 have HU:=ħ hul
 have HKU:=ħ hku
 have B0:=ħ ((Below.refl w.heap.size w).alloc (Nat.le_refl _) (.cells #[.int .i64 0,.string ⟨#[]⟩,.string ⟨#[]⟩,.int .i64 0,.slice none 0 0] 25))
 have Z0:Hid (HasV (w.alloc (.cells #[.int .i64 0,.string ⟨#[]⟩,.string ⟨#[]⟩,.int .i64 0,.slice none 0 0] 25)) w.heap.size 25 pred0):=ħ (HasV.new w _ pred0)
 have P0:=ħ (h.step B0.o)
 have Q0:=ħ (Only.refl (w.alloc (.cells #[.int .i64 0,.string ⟨#[]⟩,.string ⟨#[]⟩,.int .i64 0,.slice none 0 0] 25)) (· = R))
 have BO:=ħ (Only.of_below (p:=(· = R)) B0.o)
 obtain⟨q0,q1,q2,q3,q4⟩:=(hsw.step B0.o).cells
 have HI1:=ħ (is_s _ R ao cap ts sz st [110,111,116] P0.o hn hts (by decide))
 clear h hn hts ih hRR hul hsw hku hzz B0 q0 q2 q3 q4
 obtain⟨b1,hb1⟩:∃ b,isS ts [110,111,116] st=b:=⟨_,rfl⟩
 rw[hb1] at HI1
 have HB1:=ħ hb1
 clear hb1
 go_enter Tryz.func209,Tryz.ntmps209
 go_wp2_with fail
 generalize w.alloc (.cells #[.int .i64 0,.string ⟨#[]⟩,.string ⟨#[]⟩,.int .i64 0,.slice none 0 0] 25)=w0 at *
 refine HI1.o.mono ?_
 rintro e w1 ⟨rfl,bb1⟩
 have P1:=ħ (P0.o.step bb1)
 have Q1:=ħ (Q0.o.step bb1)
 have Z1:=ħ (Z0.o.step bb1)
 clear bb1 P0 Q0 Z0 HI1 q1
 cases b1 with
 | true =>
  obtain⟨hst,hlt,hip⟩:=is_yes HKU.o HB1.o
  have HUL:=ħ hlt
  have IHU:=ħ (IH.o u hst)
  have HV:Hid (RR=(unitP ts sz f (u+1)).bind (fun p=>.ok (negP p.1,p.2))):=ħ (by rw[← HRR.o,hst];exact unit_not hip)
  rw[hst] at P1
  clear hst hlt hip HRR HKU HB1 IH
  have e2:IntKind.i64.wrap ((u:Int)+1)=(u:Int)+1:=IntWalk.i64_in _ (by have:=HN.o;have:=HU.o;omega)
  obtain⟨y,hy⟩:=P1.o.at
  obtain⟨d0,d1,d2,d3,d4⟩:=hy.cells
  have f1:=hy.warm 1
  clear d0 d2 d3 d4 hy
  go_wp2_with fail
  have P2:Hid (SrcS (w1.setCell ⟨R,1,none⟩ (.int .i64 ((u:Int)+1))) R ao cap ts sz (.ok (u+1))):=ħ (P1.o.next HUL.o)
  have QQ:Only w1 (w1.setCell ⟨R,1,none⟩ (.int .i64 ((u:Int)+1))) (· = R):=SrcW.nextOnly R 1 _
  have Q2:=ħ (Q1.o.trans QQ)
  have Z2:=ħ (Z1.o.only QQ (by have:=RL.o;omega))
  clear QQ P1 Q1 Z1 d1 f1 e2
  generalize w1.setCell ⟨R,1,none⟩ (.int .i64 ((u:Int)+1))=w2 at *
  refine (IHU.o w2 (.ok (u+1)) (fun k hk=>by cases hk;exact Nat.le_refl _) P2.o).mono ?_
  rintro e w3 hq
  obtain⟨p,vs,rfl,hpc,hwd,hvq,hsrc,hon⟩:=hq.get
  have HP0:=ħ hpc
  have HW0:=ħ hwd
  have HQ0:=ħ hvq
  have P3:=ħ hsrc
  have Q3:=ħ (Q2.o.trans hon)
  have Z3:=ħ (Z2.o.only hon (by have:=RL.o;omega))
  clear hq hpc hwd hvq hsrc hon P2 Q2 Z2 IHU
  go_wp2_with fail
  refine (snegate_any _ p w3 _ vs (Nat.le_refl _) HW0.o HP0.o).mono ?_
  rintro e w4 ⟨⟨v,rfl,vs,rfl,hpc⟩,b3⟩
  have PC:=ħ (hpc.mono (P':=fun g=>w.heap.size<g) (fun g hg _=>by have:=Z3.o.lt;omega))
  have HL5:=ħ hpc.len
  have ONE:=ħ hpc.one
  have P4:=ħ (P3.o.step b3)
  have Q4:=ħ (Q3.o.step b3)
  have Z4:=ħ (Z3.o.step b3)
  have HWD:=ħ (wd_neg _ p (Nat.le_refl _) HW0.o)
  have HVQ:Hid (∀ q,RR = .ok q→q.1=negP p):=ħ (fun q hq=>by
   rw[HV.o] at hq
   cases hr:unitP ts sz f (u+1) with
   | error z=>rw[hr] at hq;cases hq
   | ok x =>
    rw[hr] at hq
    have:=HQ0.o x hr
    cases hq
    rw[← this])
  have HNX:Hid (nxS RR=nxS ((Except.ok (u+1):StP).bind (unitP ts sz f))):=ħ (by
   rw[HV.o,ok_bind]
   cases unitP ts sz f (u+1)<;>rfl)
  clear hpc b3 P3 Q3 Z3 HP0 HW0 HQ0 HV
  go_wp2_with (first
   | (refine wpList_store_abs rfl 25 (.tmp 2) (.tmp 22) rfl w.heap.size vs.toArray ?s1 ?s2 25 _ Z4.o (inf_pred _ HL5.o) ?s3 (ONE.o) ?_;(case s1=>rfl);(case s2=>rfl);(case s3=>rw[List.size_toArray,List.size_toArray,HL5.o];rfl);intro w9 s9 u9;have S9:=ħ s9;have U9:=ħ u9;clear s9 u9))
  exact bodyPost_ret (results_cell_row (p:=2) (by kernel_rfl) _ _ w.heap.size 25 vs.toArray (0,0) _ rfl S9.o Tryz.underlying25 rfl (inf_pred _ HL5.o)) rfl ⟨⟨negP p,vs,rfl,(PC.o.upd U9.o (Nat.lt_irrefl _)).mono (fun g hg _=>Nat.le_of_lt hg),HWD.o,HVQ.o⟩,(by rw[HNX.o];exact H0.o.upd P4.o U9.o (Nat.le_refl _)),(BO.o.trans Q4.o).updNew U9.o (Nat.le_refl _)⟩
 | false =>
  have HI2:=ħ (is_s w1 R ao cap ts sz st [40] P1.o HN.o HTS.o (by decide))
  obtain⟨b2,hb2⟩:∃ b,isS ts [40] st=b:=⟨_,rfl⟩
  rw[hb2] at HI2
  have HB2:=ħ hb2
  clear hb2
  go_wp2_with fail
  refine HI2.o.mono ?_
  rintro e w2 ⟨rfl,bb2⟩
  have P2:=ħ (P1.o.step bb2)
  have Q2:=ħ (Q1.o.step bb2)
  have Z2:=ħ (Z1.o.step bb2)
  clear bb2 P1 Q1 Z1 HI2
  cases b2 with
  | true =>
   obtain⟨hst,hlt,hip⟩:=is_yes HKU.o HB2.o
   have HUL:=ħ hlt
   have IHU:=ħ (IH.o u hst)
   have HV:Hid (RR=(someP ts (unitP ts sz f) (u+1)).bind (fun p=>(takeP ts sz [41] p.2).bind (fun j=>.ok (p.1,j)))):=ħ (by rw[← HRR.o,hst];exact unit_open (is_not HB1.o u hst) hip)
   rw[hst] at P2
   clear hst hlt hip HRR HKU HB1 HB2 IH
   have e2:IntKind.i64.wrap ((u:Int)+1)=(u:Int)+1:=IntWalk.i64_in _ (by have:=HN.o;have:=HU.o;omega)
   obtain⟨y,hy⟩:=P2.o.at
   obtain⟨d0,d1,d2,d3,d4⟩:=hy.cells
   have f1:=hy.warm 1
   clear d0 d2 d3 d4 hy
   go_wp2_with fail
   have P3:Hid (SrcS (w2.setCell ⟨R,1,none⟩ (.int .i64 ((u:Int)+1))) R ao cap ts sz (.ok (u+1))):=ħ (P2.o.next HUL.o)
   have QQ:Only w2 (w2.setCell ⟨R,1,none⟩ (.int .i64 ((u:Int)+1))) (· = R):=SrcW.nextOnly R 1 _
   have Q3:=ħ (Q2.o.trans QQ)
   have Z3:=ħ (Z2.o.only QQ (by have:=RL.o;omega))
   clear QQ P2 Q2 Z2 d1 f1 e2
   generalize w2.setCell ⟨R,1,none⟩ (.int .i64 ((u:Int)+1))=w3 at *
   have HSM:=ħ (ssome_any w3 R ao cap ts sz (.ok (u+1)) (allP ts (unitP ts sz f)) (u+1) P3.o HN.o HTS.o (fun k hk=>by cases hk;exact Nat.le_refl _) (allP_ok (unitP_ok HTS.o f)) (fun W s hs hW=>by
    have:=sall_any W R ao cap ts sz s (unitP ts sz f) (u+1) hW HN.o HTS.o hs (unitP_ok HTS.o f) (fun W' s' hs' hW'=>IHU.o W' s' hs' hW')
    cases s with
    | error z=>exact this
    | ok k=>exact this))
   refine HSM.o.mono ?_
   rintro e w4 hq
   obtain⟨p,vs,rfl,hpc,hwd,hvq,hsrc,hon⟩:=hq.get
   have PC:=ħ (hpc.mono (P':=fun g=>w.heap.size<g) (fun g hg _=>by have:=Z3.o.lt;omega))
   have HL5:=ħ hpc.len
   have ONE:=ħ hpc.one
   have HWD:=ħ hwd
   have HQ0:Hid (∀ q,someP ts (unitP ts sz f) (u+1) = .ok q→q.1=p):=ħ hvq
   have P4:Hid (SrcS w4 R ao cap ts sz (nxS (someP ts (unitP ts sz f) (u+1)))):=ħ hsrc
   have Q4:=ħ (Q3.o.trans hon)
   have Z4:=ħ (Z3.o.only hon (by have:=RL.o;omega))
   clear hq hpc hwd hvq hsrc hon P3 Q3 Z3 IHU HSM
   obtain⟨s4,hs4⟩:∃ s,nxS (someP ts (unitP ts sz f) (u+1))=s:=⟨_,rfl⟩
   rw[hs4] at P4
   have HVQ:Hid (∀ q,RR = .ok q→q.1=p):=ħ (fun q hq=>by
    rw[HV.o] at hq
    cases hr:someP ts (unitP ts sz f) (u+1) with
    | error z=>rw[hr] at hq;cases hq
    | ok x =>
     rw[hr,ok_bind] at hq
     cases ht:takeP ts sz [41] x.2 with
     | error z=>rw[ht] at hq;cases hq
     | ok j=>rw[ht] at hq;cases hq;exact HQ0.o x hr)
   have HNX:Hid (nxS RR=s4.bind (takeP ts sz [41])):=ħ (by
    rw[HV.o,← hs4]
    cases someP ts (unitP ts sz f) (u+1) with
    | error z=>rfl
    | ok x =>
     show nxS ((takeP ts sz [41] x.2).bind _)=takeP ts sz [41] x.2
     cases takeP ts sz [41] x.2<;>rfl)
   clear hs4 HQ0 HV
   have A5:=ħ ((Below.refl w4.heap.size w4).alloc (Nat.le_refl _) (.cells pred0.toArray 25))
   go_wp2_with (refine wpList_store_abs rfl 25 (.tmp 4) (.tmp 33) rfl w4.heap.size vs.toArray ?s1 ?s2 25 _ (heap_alloc_new w4 _) (inf_pred _ HL5.o) ?s3 (ONE.o) ?_;(case s1=>rfl);(case s2=>rfl);(case s3=>rw[List.size_toArray,List.size_toArray,HL5.o];rfl);intro w5 s5 u5;have S5:Hid (HasV w5 w4.heap.size 25 vs):=ħ s5;have C5:=ħ (u5.below A5.o (Nat.le_refl _));clear s5 u5)
   have P5:=ħ (P4.o.step C5.o)
   have Q5:=ħ (Q4.o.step C5.o)
   have Z5:=ħ (Z4.o.step C5.o)
   have PC5:=ħ (PC.o.below C5.o)
   have G4:Hid (w.heap.size<w4.heap.size):=ħ Z4.o.lt
   clear P4 Q4 Z4 A5 C5 PC
   generalize w4.heap.size=X at *
   have HT:=ħ (take_s w5 R ao cap ts sz s4 [41] P5.o HN.o HTS.o (by decide))
   refine HT.o.mono ?_
   rintro e w6 ⟨rfl,h6,o6⟩
   have P6:=ħ h6
   have Q6:=ħ (Q5.o.trans o6)
   have Z6:=ħ (Z5.o.only o6 (by have:=RL.o;omega))
   have S6:=ħ (S5.o.only o6 (by have:=RL.o;have:=G4.o;omega))
   have PC6:=ħ (PredC.keep (P':=fun g=>w.heap.size<g) (fun g hg hl=>o6.block g hl (by have:=RL.o;omega)) o6.size (fun g hg _=>hg) p vs PC5.o)
   clear h6 o6 P5 Q5 Z5 S5 PC5 HT
   go_wp2_with (first
    | (refine wpList_load_row rfl 25 (.tmp 4) rfl X ?y1 25 vs.toArray (0,0) _ S6.o Tryz.underlying25 rfl (inf_pred _ HL5.o) ?_;(case y1=>rfl))
    | (refine wpList_store_abs rfl 25 (.tmp 2) (.tmp 36) rfl w.heap.size vs.toArray ?s1 ?s2 25 _ Z6.o (inf_pred _ HL5.o) ?s3 (ONE.o) ?_;(case s1=>rfl);(case s2=>rfl);(case s3=>rw[List.size_toArray,List.size_toArray,HL5.o];rfl);intro w9 s9 u9;have S9:=ħ s9;have U9:=ħ u9;clear s9 u9))
   exact bodyPost_ret (results_cell_row (p:=2) (by kernel_rfl) _ _ w.heap.size 25 vs.toArray (0,0) _ rfl S9.o Tryz.underlying25 rfl (inf_pred _ HL5.o)) rfl ⟨⟨p,vs,rfl,(PC6.o.upd U9.o (Nat.lt_irrefl _)).mono (fun g hg _=>Nat.le_of_lt hg),HWD.o,HVQ.o⟩,(by rw[HNX.o];exact H0.o.upd P6.o U9.o (Nat.le_refl _)),(BO.o.trans Q6.o).updNew U9.o (Nat.le_refl _)⟩
  | false =>
   have HI3:=ħ (is_s w2 R ao cap ts sz st [97,116] P2.o HN.o HTS.o (by decide))
   obtain⟨b3,hb3⟩:∃ b,isS ts [97,116] st=b:=⟨_,rfl⟩
   rw[hb3] at HI3
   have HB3:=ħ hb3
   clear hb3
   go_wp2_with fail
   refine HI3.o.mono ?_
   rintro e w3 ⟨rfl,bb3⟩
   have P3:=ħ (P2.o.step bb3)
   have Q3:=ħ (Q2.o.step bb3)
   have Z3:=ħ (Z2.o.step bb3)
   clear bb3 P2 Q2 Z2 HI3
   cases b3 with
   | true =>
    obtain⟨hst,hlt,hip⟩:=is_yes HKU.o HB3.o
    have HUL:=ħ hlt
    have IHU:=ħ (IH.o u hst)
    have HV:Hid (RR=leastQ ts sz (someP ts (unitP ts sz f)) u (u+1)):=ħ (by rw[← HRR.o,hst,← leastP_eq];exact unit_at (is_not HB1.o u hst) (is_not HB2.o u hst) hip)
    rw[hst] at P3
    clear hst hlt hip HRR HKU HB1 HB2 HB3 IH
    have e2:IntKind.i64.wrap ((u:Int)+1)=(u:Int)+1:=IntWalk.i64_in _ (by have:=HN.o;have:=HU.o;omega)
    obtain⟨y,hy⟩:=P3.o.at
    obtain⟨d0,d1,d2,d3,d4⟩:=hy.cells
    have f1:=hy.warm 1
    clear d0 d2 d3 d4 hy
    go_wp2_with fail
    have P4:Hid (SrcS (w3.setCell ⟨R,1,none⟩ (.int .i64 ((u:Int)+1))) R ao cap ts sz (.ok (u+1))):=ħ (P3.o.next HUL.o)
    have QQ:Only w3 (w3.setCell ⟨R,1,none⟩ (.int .i64 ((u:Int)+1))) (· = R):=SrcW.nextOnly R 1 _
    have Q4:=ħ (Q3.o.trans QQ)
    have Z4:=ħ (Z3.o.only QQ (by have:=RL.o;omega))
    clear QQ P3 Q3 Z3 d1 f1 e2
    generalize w3.setCell ⟨R,1,none⟩ (.int .i64 ((u:Int)+1))=w4 at *
    have HSM:=ħ (sleast_any w4 R ao cap ts sz (.ok (u+1)) (someP ts (unitP ts sz f)) (u+1) u P4.o HN.o HU.o HTS.o (fun k hk=>by cases hk;exact Nat.le_refl _) (someP_ok (unitP_ok HTS.o f)) (fun W s hs hW=>by
     have:=ssome_any W R ao cap ts sz s (allP ts (unitP ts sz f)) (u+1) hW HN.o HTS.o hs (allP_ok (unitP_ok HTS.o f)) (fun W s hs hW=>by
      have:=sall_any W R ao cap ts sz s (unitP ts sz f) (u+1) hW HN.o HTS.o hs (unitP_ok HTS.o f) (fun W' s' hs' hW'=>IHU.o W' s' hs' hW')
      cases s with
      | error z=>exact this
      | ok k=>exact this)
     cases s with
     | error z=>exact this
     | ok k=>exact this))
    refine HSM.o.mono ?_
    rintro e w5 hq
    obtain⟨p,vs,rfl,hpc,hwd,hvq,hsrc,hon⟩:=hq.get
    have PC:=ħ (hpc.mono (P':=fun g=>w.heap.size<g) (fun g hg _=>by have:=Z4.o.lt;omega))
    have HL5:=ħ hpc.len
    have ONE:=ħ hpc.one
    have HWD:=ħ hwd
    have HVQ:Hid (∀ q,RR = .ok q→q.1=p):=ħ (fun q hq=>hvq q (by rw[← hq,HV.o];rfl))
    have HNX:Hid (nxS RR=nxS ((Except.ok (u+1):StP).bind (leastQ ts sz (someP ts (unitP ts sz f)) u))):=ħ (by rw[HV.o];rfl)
    have P5:=ħ hsrc
    have Q5:=ħ (Q4.o.trans hon)
    have Z5:=ħ (Z4.o.only hon (by have:=RL.o;omega))
    clear hq hpc hwd hvq hsrc hon P4 Q4 Z4 IHU HSM HV
    go_wp2_with (first
     | (refine wpList_store_abs rfl 25 (.tmp 2) (.tmp 48) rfl w.heap.size vs.toArray ?s1 ?s2 25 _ Z5.o (inf_pred _ HL5.o) ?s3 (ONE.o) ?_;(case s1=>rfl);(case s2=>rfl);(case s3=>rw[List.size_toArray,List.size_toArray,HL5.o];rfl);intro w9 s9 u9;have S9:=ħ s9;have U9:=ħ u9;clear s9 u9))
    exact bodyPost_ret (results_cell_row (p:=2) (by kernel_rfl) _ _ w.heap.size 25 vs.toArray (0,0) _ rfl S9.o Tryz.underlying25 rfl (inf_pred _ HL5.o)) rfl ⟨⟨p,vs,rfl,(PC.o.upd U9.o (Nat.lt_irrefl _)).mono (fun g hg _=>Nat.le_of_lt hg),HWD.o,HVQ.o⟩,(by rw[HNX.o];exact H0.o.upd P5.o U9.o (Nat.le_refl _)),(BO.o.trans Q5.o).updNew U9.o (Nat.le_refl _)⟩
   | false =>
    have HV:Hid (RR=(st.bind (sumP ts sz)).bind (restU ts sz u)):=ħ (by rw[← HRR.o];exact unit_sum HKU.o HB1.o HB2.o HB3.o)
    have HSU:=ħ (ssum_any w3 R ao cap ts sz st P3.o HN.o HTS.o)
    have HSK:Hid (∀ q,st.bind (sumP ts sz) = .ok q→SumOk q.1):=ħ (fun q hq=>by
     cases st with
     | error z=>cases hq
     | ok k=>exact (sumP_ok HTS.o hq).2.2)
    obtain⟨rs,hrs⟩:∃ r,st.bind (sumP ts sz)=r:=⟨_,rfl⟩
    rw[hrs] at HV HSU HSK
    clear hrs HRR HKU HB1 HB2 HB3 IH
    go_wp2_with fail
    refine HSU.o.mono ?_
    rintro e w4 ⟨⟨a,rfl,ha⟩,h4,o4⟩
    have P4:=ħ h4
    have Q4:=ħ (Q3.o.trans o4)
    have Z4:=ħ (Z3.o.only o4 (by have:=RL.o;omega))
    have HA:=ħ ha
    clear h4 o4 ha P3 Q3 Z3 HSU
    have HI4:=ħ (is_s w4 R ao cap ts sz (nxS rs) [105,110] P4.o HN.o HTS.o (by decide))
    obtain⟨b4,hb4⟩:∃ b,isS ts [105,110] (nxS rs)=b:=⟨_,rfl⟩
    rw[hb4] at HI4
    have HB4:=ħ hb4
    clear hb4
    go_wp2_with fail
    refine HI4.o.mono ?_
    rintro e w5 ⟨rfl,bb5⟩
    have P5:=ħ (P4.o.step bb5)
    have Q5:=ħ (Q4.o.step bb5)
    have Z5:=ħ (Z4.o.step bb5)
    clear bb5 P4 Q4 Z4 HI4
    have HUU:=HU
    cases b4 with
    | true =>
     obtain⟨j,hst,hlt,hip⟩:=isS_ok HB4.o
     have HSA:Hid (SumOk a):=ħ (by
      cases rs with
      | error z=>cases hst
      | ok q=>have h1:=HSK.o q rfl;rw[HA.o q rfl] at h1;exact h1)
     have HUL:=ħ hlt
     have HV2:Hid (RR=memberP ts sz a u (j+1)):=ħ (by rw[HV.o];exact rest_in HA.o hst hip)
     rw[hst] at P5
     clear hst hip HV HSK HA HB4
     have e2:IntKind.i64.wrap ((j:Int)+1)=(j:Int)+1:=IntWalk.i64_in _ (by have:=HN.o;omega)
     clear hlt
     obtain⟨y,hy⟩:=P5.o.at
     obtain⟨d0,d1,d2,d3,d4⟩:=hy.cells
     have f1:=hy.warm 1
     clear d0 d2 d3 d4 hy
     go_wp2_with fail
     have P6:Hid (SrcS (w5.setCell ⟨R,1,none⟩ (.int .i64 ((j:Int)+1))) R ao cap ts sz (.ok (j+1))):=ħ (P5.o.next HUL.o)
     have QQ:Only w5 (w5.setCell ⟨R,1,none⟩ (.int .i64 ((j:Int)+1))) (· = R):=SrcW.nextOnly R 1 _
     have Q6:=ħ (Q5.o.trans QQ)
     have Z6:=ħ (Z5.o.only QQ (by have:=RL.o;omega))
     clear QQ P5 Q5 Z5 d1 f1 e2
     generalize w5.setCell ⟨R,1,none⟩ (.int .i64 ((j:Int)+1))=w6 at *
     have HSM:=ħ (smember_any w6 R ao cap ts sz (.ok (j+1)) u a P6.o HN.o HTS.o HUU.o (fun _ _=>HSA.o))
     refine HSM.o.mono ?_
     rintro e w7 hq
     obtain⟨p,vs,rfl,hpc,hwd,hvq,hsrc,hon⟩:=hq.get
     have PC:=ħ (hpc.mono (P':=fun g=>w.heap.size<g) (fun g hg _=>by have:=Z6.o.lt;omega))
     have HL5:=ħ hpc.len
     have ONE:=ħ hpc.one
     have HWD:=ħ hwd
     have HVQ:Hid (∀ q,RR = .ok q→q.1=p):=ħ (fun q hq=>hvq q (by rw[← hq,HV2.o];rfl))
     have HNX:Hid (nxS RR=nxS ((Except.ok (j+1):StP).bind (memberP ts sz a u))):=ħ (by rw[HV2.o];rfl)
     have P7:=ħ hsrc
     have Q7:=ħ (Q6.o.trans hon)
     have Z7:=ħ (Z6.o.only hon (by have:=RL.o;omega))
     clear hq hpc hwd hvq hsrc hon P6 Q6 Z6 HSM HV2
     go_wp2_with (first
      | (refine wpList_store_abs rfl 25 (.tmp 2) (.tmp 67) rfl w.heap.size vs.toArray ?s1 ?s2 25 _ Z7.o (inf_pred _ HL5.o) ?s3 (ONE.o) ?_;(case s1=>rfl);(case s2=>rfl);(case s3=>rw[List.size_toArray,List.size_toArray,HL5.o];rfl);intro w9 s9 u9;have S9:=ħ s9;have U9:=ħ u9;clear s9 u9))
     exact bodyPost_ret (results_cell_row (p:=2) (by kernel_rfl) _ _ w.heap.size 25 vs.toArray (0,0) _ rfl S9.o Tryz.underlying25 rfl (inf_pred _ HL5.o)) rfl ⟨⟨p,vs,rfl,(PC.o.upd U9.o (Nat.lt_irrefl _)).mono (fun g hg _=>Nat.le_of_lt hg),HWD.o,HVQ.o⟩,(by rw[HNX.o];exact H0.o.upd P7.o U9.o (Nat.le_refl _)),(BO.o.trans Q7.o).updNew U9.o (Nat.le_refl _)⟩
    | false =>
     have HV2:Hid (RR=(nxS rs).bind (compareP ts sz a u)):=ħ (by rw[HV.o];exact rest_cmp HA.o HB4.o)
     have HSA:Hid (∀ k,nxS rs = .ok k→SumOk a):=ħ (fun k hk=>by
      cases rs with
      | error z=>cases hk
      | ok q=>have h1:=HSK.o q rfl;rw[HA.o q rfl] at h1;exact h1)
     generalize nxS rs=s5 at *
     clear HV HSK HA HB4
     go_wp2_with fail
     have HSM:=ħ (scomp_any w5 R ao cap ts sz s5 u a P5.o HN.o HTS.o HUU.o HSA.o)
     refine HSM.o.mono ?_
     rintro e w7 hq
     obtain⟨p,vs,rfl,hpc,hwd,hvq,hsrc,hon⟩:=hq.get
     have PC:=ħ (hpc.mono (P':=fun g=>w.heap.size<g) (fun g hg _=>by have:=Z5.o.lt;omega))
     have HL5:=ħ hpc.len
     have ONE:=ħ hpc.one
     have HWD:=ħ hwd
     have HVQ:Hid (∀ q,RR = .ok q→q.1=p):=ħ (fun q hq=>hvq q (by rw[← hq,HV2.o]))
     have HNX:Hid (nxS RR=nxS (s5.bind (compareP ts sz a u))):=ħ (by rw[HV2.o])
     have P7:=ħ hsrc
     have Q7:=ħ (Q5.o.trans hon)
     have Z7:=ħ (Z5.o.only hon (by have:=RL.o;omega))
     clear hq hpc hwd hvq hsrc hon P5 Q5 Z5 HSM HV2
     go_wp2_with (first
      | (refine wpList_store_abs rfl 25 (.tmp 2) (.tmp 72) rfl w.heap.size vs.toArray ?s1 ?s2 25 _ Z7.o (inf_pred _ HL5.o) ?s3 (ONE.o) ?_;(case s1=>rfl);(case s2=>rfl);(case s3=>rw[List.size_toArray,List.size_toArray,HL5.o];rfl);intro w9 s9 u9;have S9:=ħ s9;have U9:=ħ u9;clear s9 u9))
     exact bodyPost_ret (results_cell_row (p:=2) (by kernel_rfl) _ _ w.heap.size 25 vs.toArray (0,0) _ rfl S9.o Tryz.underlying25 rfl (inf_pred _ HL5.o)) rfl ⟨⟨p,vs,rfl,(PC.o.upd U9.o (Nat.lt_irrefl _)).mono (fun g hg _=>Nat.le_of_lt hg),HWD.o,HVQ.o⟩,(by rw[HNX.o];exact H0.o.upd P7.o U9.o (Nat.le_refl _)),(BO.o.trans Q7.o).updNew U9.o (Nat.le_refl _)⟩
theorem sunit_any (R:Nat) (ao:Option Addr) (cap:Nat) (ts:List Tok) (sz:Nat) (hn:ts.length≤1000000) (hts:∀ t∈ts,TokOk t):∀ (f:Nat) (w:World) (st:StP),(∀ k,st = .ok k→ts.length-k<f)→SrcS w R ao cap ts sz st →
  Calls Tryz.prog 209 #[.pointer (some ⟨R,0,none⟩)] w fun e w'=>PrdQ w R ao cap ts sz (st.bind (unitP ts sz f)) e w'
 | 0,w,st,hf,h=>by
  cases st with
  | ok k=>exact absurd (hf k rfl) (Nat.not_lt_zero _)
  | error z=>exact sunit_step w R ao cap ts sz 0 (.error z) h hn hts (fun u hu=>by cases hu)
 | f+1,w,st,hf,h=>sunit_step w R ao cap ts sz f st h hn hts (fun u hu W s hs hW=>by
  subst hu
  have h1:=hf u rfl
  have h2:=h.1
  exact sunit_any R ao cap ts sz hn hts f W s (fun k hk=>by
   have h3:=hs k hk
   subst hk
   have h4:=hW.1
   omega) hW)
end
end Go.Proofs.YtmkdfbelbcocpaaGreatDoor
