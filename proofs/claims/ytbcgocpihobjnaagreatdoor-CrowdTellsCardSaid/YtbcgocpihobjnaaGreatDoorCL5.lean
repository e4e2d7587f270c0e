import Derived.WalkKit
import Derived.WalkSpells
import Derived.WalkLawsBesides
import Derived.ArgAppend
import Derived.Below
set_option linter.all false
namespace Go.Proofs.YtbcgocpihobjnaaGreatDoor
open Go.RowKit
def dD(w:World)(g off:Nat)(xs:List Value):Prop:=∀ j u,xs[j]?=some u->w.cell? ⟨g,off+j,none⟩=some u
theorem dD.of_block{w w':World}{g off:Nat}{xs:List Value}(h:dD w g off xs)(hb:w'.heap[g]?=w.heap[g]?):dD w' g off xs:=fun j u hj=>by
 rw[World.cell?_of_block (a:=⟨g,off+j,none⟩) hb];exact h j u hj
structure OwnC (w:World) (B g off N:Nat) (xs:List Value):Prop where
 own:B<=g
 lt:g<w.heap.size
 le:xs.length<=N
 cells:dD w g off xs
 room:∀ j,j<N->(w.cell? ⟨g,off+j,none⟩).isSome=true
 warm:∀ j,j<N->w.frozen? ⟨g,off+j,none⟩=false
inductive OwnK (w:World) (B k n cap:Nat) (xs:List Value):Option Addr->Prop
 | nil (h:xs=[]) (hn:n=0) (hc:cap=0):OwnK w B k n cap xs none
 | at (g off:Nat) (h:OwnC w B g off (cap*k) xs) (hn:xs.length=n*k) (hc:cap<=maxLen) (hl:n<=cap):OwnK w B k n cap xs (some ⟨g,off,none⟩)
def blk:Option Addr->Option Nat
 | some a=>some a.block
 | none=>none
theorem OwnC.of_block{w w':World}{B g off N:Nat}{xs:List Value}(h:OwnC w B g off N xs)(hb:w'.heap[g]?=w.heap[g]?)(hs:w.heap.size<=w'.heap.size):OwnC w' B g off N xs :=
 ⟨h.own,Nat.lt_of_lt_of_le h.lt hs,h.le,h.cells.of_block hb,fun j hj=>by rw[World.cell?_of_block (a:=⟨g,off+j,none⟩) hb];exact h.room j hj,
  fun j hj=>by rw[World.frozen?_of_block (a:=⟨g,off+j,none⟩) hb];exact h.warm j hj⟩
theorem OwnC.lower{w:World}{B B' g off N:Nat}{xs:List Value}(h:OwnC w B g off N xs)(hB:B'<=B):OwnC w B' g off N xs:=⟨Nat.le_trans hB h.own,h.lt,h.le,h.cells,h.room,h.warm⟩
theorem OwnK.of_block{w w':World}{B k n cap:Nat}{xs:List Value}{ao:Option Addr}(h:OwnK w B k n cap xs ao)(hb:∀ g,blk ao=some g->g<w.heap.size->w'.heap[g]?=w.heap[g]?)(hs:w.heap.size<=w'.heap.size):OwnK w' B k n cap xs ao:=by
 cases h with
 | nil h hn hc=>exact .nil h hn hc
 | «at» g off h hn hc hl=>exact .at g off (h.of_block (hb g rfl h.lt) hs) hn hc hl
theorem OwnK.lower{w:World}{B B' k n cap:Nat}{xs:List Value}{ao:Option Addr}(h:OwnK w B k n cap xs ao)(hB:B'<=B):OwnK w B' k n cap xs ao:=by
 cases h with
 | nil h hn hc=>exact .nil h hn hc
 | «at» g off h hn hc hl=>exact .at g off (h.lower hB) hn hc hl
theorem OwnK.below{w w':World}{B k n cap:Nat}{xs:List Value}{ao:Option Addr}(h:OwnK w B k n cap xs ao)(hb:Below w.heap.size w w'):OwnK w' B k n cap xs ao :=
 h.of_block (fun g _ hg=>hb.block g hg) hb.size
theorem OwnK.grown{w w':World}{B k n cap:Nat}{xs:List Value}{ao:Option Addr}(h:OwnK w B k n cap xs ao){row:Option Nat}(hg:w.grownBy w' row)(hr:blk ao≠row\/blk ao=none):OwnK w' B k n cap xs ao :=
 h.of_block (fun g e hl=>hg.block g hl (fun e'=>by rcases hr with hr | hr;exact hr (e.trans e');rw[hr] at e;cases e)) hg.size
theorem OwnK.setCell{w:World}{B k n cap:Nat}{xs:List Value}{ao:Option Addr}(h:OwnK w B k n cap xs ao){p:Addr}(u:Value)(hp:blk ao≠some p.block):OwnK (w.setCell p u) B k n cap xs ao :=
 h.of_block (fun g e hl=>Below.heap_setCell _ _ _ _ (fun e'=>hp (by rw[e,e']))) (by simp[World.setCell])
theorem OwnK.count{w:World}{B k n cap:Nat}{xs:List Value}{ao:Option Addr}(h:OwnK w B k n cap xs ao):xs.length=n*k:=by
 cases h with
 | nil h hn hc=>simp[h,hn]
 | «at» g off h hn hc hl=>exact hn
theorem OwnK.len_le{w:World}{B k n cap:Nat}{xs:List Value}{ao:Option Addr}(h:OwnK w B k n cap xs ao):n<=cap/\cap<=maxLen:=by
 cases h with
 | nil h hn hc=>subst hn hc;exact⟨Nat.le_refl _,Nat.zero_le _⟩
 | «at» g off h hn hc hl=>exact⟨hl,hc⟩
theorem d9(b:Nat):∀ (vs:List Value) (o:Nat) (w:World) (k:Nat),k≠b->(w.setCells b o vs).heap[k]?=w.heap[k]?
 | [],_,_,_,_=>rfl
 | v::vs,o,w,k,h=>by
  show((w.setCell ⟨b,o,none⟩ v).setCells b (o+1) vs).heap[k]?=_;rw[d9 b vs (o+1) _ k h,Below.heap_setCell _ _ _ _ h]
theorem GK(b:Nat):∀ (vs:List Value) (o:Nat) (w:World),(w.setCells b o vs).heap.size=w.heap.size
 | [],_,_=>rfl
 | v::vs,o,w=>by
  show((w.setCell ⟨b,o,none⟩ v).setCells b (o+1) vs).heap.size=_;rw[GK b vs (o+1) _];simp[World.setCell]
theorem qg(b:Nat):∀ (vs:List Value) (o:Nat) (w:World),(w.setCells b o vs).os=w.os/\(w.setCells b o vs).tape=w.tape/\(w.setCells b o vs).output=w.output
 | [],_,_=>⟨rfl,rfl,rfl⟩
 | v::vs,o,w=>qg b vs (o+1) (w.setCell ⟨b,o,none⟩ v)
theorem Zio(b:Nat)(vs:List Value)(o:Nat)(w:World):w.grownBy (w.setCells b o vs) (some b) :=
 ⟨(qg b vs o w).1,(qg b vs o w).2.1,(qg b vs o w).2.2,by rw[GK];exact Nat.le_refl _,
  fun k _ hk=>d9 b vs o w k (fun e=>hk (by rw[e]))⟩
theorem OwnC.setCells{w:World}{B g off N:Nat}{xs:List Value}(h:OwnC w B g off N xs)(news:List Value)(hr:xs.length+news.length<=N) :
  OwnC (w.setCells g (off+xs.length) news) B g off N (xs++news):=by
 have aT:∀ j (hj:j<news.length),(w.setCells g (off+xs.length) news).cell? ⟨g,off+xs.length+j,none⟩=some news[j] :=
  World.cell?_setCells_in g news (off+xs.length) w (fun j hj=>by rw[show off+xs.length+j=off+(xs.length+j) by omega];exact h.room _ (by omega))
 refine⟨h.own,by rw[GK];exact h.lt,by simp;omega,?_,?_,?_⟩
 ·intro j u hj
  by_cases aE:j<xs.length
  ·rw[List.getElem?_append_left aE] at hj
   rw[World.cell?_setCells_out g news _ w _ (fun _ _=>.inl (by show off+j<off+xs.length;omega))];exact h.cells j u hj
  ·rw[List.getElem?_append_right (by omega)] at hj
   obtain⟨hl,rfl⟩:=List.getElem?_eq_some_iff.1 hj;have:=aT (j-xs.length) hl
   rwa [show off+xs.length+(j-xs.length)=off+j by omega] at this
 ·intro j hj
  by_cases aE:xs.length<=j/\j<xs.length+news.length
  ·have:=aT (j-xs.length) (by omega)
   rw[show off+xs.length+(j-xs.length)=off+j by omega] at this;rw[this];rfl
  ·rw[World.cell?_setCells_out g news _ w _ (fun _ _=>by show off+j<off+xs.length\/off+xs.length+news.length<=off+j;omega)]
   exact h.room j hj
 ·intro j hj
  rw[World.frozen?_setCells];exact h.warm j hj
theorem OwnK.of_row{w:World}{B k:Nat}{e:TypeId}{v:Value}{n:Nat}{xs:List Value}(h:w.ownsRow B e k v n xs)(hn:0<n) :
  ∃ g cap,v = .slice (some ⟨g,0,none⟩) n cap/\OwnC w B g 0 (cap*k) xs/\xs.length=n*k/\cap<=maxLen/\n<=cap:=by
 obtain⟨hl,⟨_,h0⟩ | ⟨g,cap,cur,rfl,hB,hg,hc,hm,hs,ht⟩⟩:=h
 ·omega
 ·have dG:∀ j,w.cell? ⟨g,0+j,none⟩=cur[j]?:=fun j=>by simp[World.cell?,hg]
  have aE:g<w.heap.size:=by
   rcases Nat.lt_or_ge g w.heap.size with h' | h'
   ·exact h'
   ·simp[Array.getElem?_eq_none h'] at hg
  refine⟨g,cap,rfl,⟨hB,aE,by rw[hl];exact Nat.mul_le_mul_right _ hc,?_,?_,?_⟩,hl,hm,hc⟩
  ·intro j u hj
   rw[dG,<- Array.getElem?_toList];rw[<- ht,List.getElem?_take] at hj
   split at hj<;>simp_all
  ·intro j hj
   rw[dG,Array.getElem?_eq_getElem (by omega)];rfl
  ·intro j hj
   simp[World.frozen?,hg]
theorem FU {P:Program} (w:World) (B k:Nat) (hk:0<k) {ops:Array Oper} {rest:List Oper} {o:Oper} {a:Act} {Q:Exit->Act->World->Prop}
  (hg:o.guard=none) (s x:Operand) (t:TypeId) (jP:o.op=Op.call { callee:=Callee.builtin Builtin.append,args:=#[s,x],argTypes:=#[t,t] })
  (e:TypeId) (i:TypeInfo) (z:Value) (bytes:Nat) (h1:P.underlying t=some (.slice e)) (h2:P.info? e=some i) (h3:i.zero=some z) (h4:i.size=k) (h5:i.bytes=bytes) (h6:z.cells.size=k)
  (ao:Option Addr) (cap:Nat) (olds:List Value) (n:Nat) (hs:a.eval s = .slice ao n cap) (hO:OwnK w B k n cap olds ao) (hB:B<=w.heap.size)
  (ad:Addr) (m c:Nat) (news:List Value) (hx:a.eval x = .slice (some ad) m c) (hm:news.length=m*k) (cN:0<m) (hc:∀ j u,news[j]?=some u->w.cell? (ad.add j)=some u) (h1c:∀ u∈news,u.oneCell'=true)
  (b1:n+m<=maxLen) (b2:(n+m)*bytes<=140737488355328)
  (hK:∀ g off cap' w',OwnK w' B k (n+m) cap' (olds++news) (some ⟨g,off,none⟩)->w.grownBy w' (blk ao)->(blk ao=some g\/w.heap.size<=g)->wpList P ops Q rest (a.put o.dst (.slice (some ⟨g,off,none⟩) (n+m) cap')) w') :
  wpList P ops Q (o::rest) a w:=by
 have dm:=hO.count
 have aS:∀ v' w',w'.ownsRow w.heap.size e k v' (n+m) (olds++news)->w.grownBy w' none ->
   wpList P ops Q rest (a.put o.dst v') w':=by
  intro v' w' ho mE;obtain⟨g,cap',rfl,hw,hl,kX,qB⟩:=OwnK.of_row ho (by omega);refine hK g 0 cap' w' (.at g 0 (hw.lower hB) hl kX qB) ⟨mE.os,mE.tape,mE.output,mE.size,fun k hk _=>mE.block k hk (by simp)⟩ (.inr hw.own)
 cases hO with
 | nil h rB sN =>
  subst h rB sN;refine wpList_append_grows w hg s x t jP e i z k bytes h1 h2 h3 h4 h5 h6 hk none 0 0 [] hs (fun _=>⟨rfl,rfl⟩) (by simp) (fun b hb=>by cases hb) ad m c news hx hm hc h1c (by omega) b1 b2 ?_;intro v' w' ho mE;exact aS v' w' ho mE
 | «at» g off h hn kX hl =>
  refine wpList_append_arg w hg s x t jP e i z k bytes h1 h2 h3 h4 h5 h6 hk g off n cap olds hs hn h.cells ad m c news hx hm hc h1c ?_ b1 b2 ?_ ?_
  ·intro hr j hj
   have qB:n*k+news.length<=cap*k:=by rw[hm,<- Nat.add_mul];exact Nat.mul_le_mul_right _ hr
   rw[show off+n*k+j=off+(n*k+j) by omega];exact⟨h.room _ (by omega),h.warm _ (by omega)⟩
  ·intro hr
   have qB:n*k+news.length<=cap*k:=by rw[hm,<- Nat.add_mul];exact Nat.mul_le_mul_right _ hr
   rw[<- dm] at qB ⊢;exact hK g off cap _ (.at g off (h.setCells news qB) (by rw[List.length_append,dm,hm,Nat.add_mul]) kX hr) (Zio g news _ w) (.inl rfl)
  ·intro _
   exact aS
theorem Zyr(w:World)(cs:Array Value)(t:TypeId)(j:Nat):(w.alloc (.cells cs t)).cell? ((⟨w.heap.size,0,none⟩:Addr).add j)=cs[j]?:=by
 rw[Addr.add_lit];have h:=heap_alloc_new w (.cells cs t);simp only[World.cell?,h,Nat.zero_add];rfl
theorem Zhe {P:Program} (w1:World) (B k:Nat) (hk:0<k) {ops:Array Oper} {rest:List Oper} {o:Oper} {a:Act} {Q:Exit->Act->World->Prop}
  (hg:o.guard=none) (s x:Operand) (t:TypeId) (jP:o.op=Op.call { callee:=Callee.builtin Builtin.append,args:=#[s,x],argTypes:=#[t,t] })
  (e:TypeId) (i:TypeInfo) (z:Value) (bytes:Nat) (h1:P.underlying t=some (.slice e)) (h2:P.info? e=some i) (h3:i.zero=some z) (h4:i.size=k) (h5:i.bytes=bytes) (h6:z.cells.size=k)
  (ao:Option Addr) (cap:Nat) (olds:List Value) (n:Nat) (hs:a.eval s = .slice ao n cap) (hO:OwnK w1 B k n cap olds ao) (hB:B<=w1.heap.size)
  (m c:Nat) (cs:Array Value) (te:TypeId) (hx:a.eval x = .slice (some ⟨w1.heap.size,0,none⟩) m c) (hm:cs.size=m*k) (cN:0<m) (h1c:∀ u∈cs.toList,u.oneCell'=true)
  (b1:n+m<=maxLen) (b2:(n+m)*bytes<=140737488355328)
  (hK:∀ g off cap' w',OwnK w' B k (n+m) cap' (olds++cs.toList) (some ⟨g,off,none⟩)->w1.grownBy w' (blk ao)->Below B w1 w'->(blk ao=some g\/w1.heap.size<=g)->wpList P ops Q rest (a.put o.dst (.slice (some ⟨g,off,none⟩) (n+m) cap')) w') :
  wpList P ops Q (o::rest) a (w1.alloc (.cells cs te)):=by
 have hA:Below w1.heap.size w1 (w1.alloc (.cells cs te)):=(Below.refl _ _).alloc (Nat.le_refl _) _
 refine FU _ B k hk hg s x t jP e i z bytes h1 h2 h3 h4 h5 h6 ao cap olds n hs (hO.below hA) (Nat.le_trans hB hA.size) ⟨w1.heap.size,0,none⟩ m c cs.toList hx (by simpa using hm) cN
  (fun j u hj=>by rw[Zyr,<- Array.getElem?_toList];exact hj) h1c b1 b2 ?_
 intro g off cap' w' h mE gM
 have yJ:w1.grownBy w' (blk ao):=⟨mE.os.trans hA.os,mE.tape.trans hA.tape,mE.output.trans hA.output,Nat.le_trans hA.size mE.size,
  fun k hk hr=>(mE.block k (Nat.lt_of_lt_of_le hk hA.size) hr).trans (hA.block k hk)⟩
 refine hK g off cap' w' h yJ ⟨yJ.os,yJ.tape,yJ.output,yJ.size,fun k hk=>yJ.block k (by omega) (fun e=>?_)⟩ ?_
 ·cases hO with
  | nil=>cases e
  | «at» g' off' h'=>have:=h'.own;have e':g'=k:=Option.some.inj e.symm;omega
 ·rcases gM with h | h
  ·exact .inl h
  ·exact .inr (Nat.le_trans hA.size h)
end Go.Proofs.YtbcgocpihobjnaaGreatDoor
