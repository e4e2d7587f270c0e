import Derived.Laws.Tables
import Derived.Laws.ResultCell
import Derived.Test.YtbcgocpihobjnaaGreatDoorCL7
set_option linter.all false
set_option maxHeartbeats 2000000
set_option maxRecDepth 100000
namespace Go.Proofs.YtbcgocpihobjnaaGreatDoor
section
open Go.RowKit
structure Upd (w w':World) (g:Nat):Prop where
 os:w'.os=w.os
 tape:w'.tape=w.tape
 output:w'.output=w.output
 size:w'.heap.size=w.heap.size
 block:∀ k,k≠g->w'.heap[k]?=w.heap[k]?
theorem Zhz(w:World)(g:Nat)(cs:Array Value)(k:Nat)(h:k≠g):(w.setRow g cs).heap[k]?=w.heap[k]?:=by
 unfold World.setRow;simp only[Array.getElem?_modify];rw[if_neg (fun e=>h e.symm)]
theorem Zur(w:World)(g:Nat)(cs:Array Value):Upd w (w.setRow g cs) g:=⟨rfl,rfl,rfl,by simp,fun k hk=>Zhz w g cs k hk⟩
theorem Upd.below{B g:Nat}{a w w':World}(hu:Upd w w' g)(h:Below B a w)(hg:B<=g):Below B a w' :=
 h.trans ⟨hu.os,hu.tape,hu.output,by rw[hu.size];exact aO _,fun k hk=>hu.block k (by omega)⟩
theorem Upd.only{w w':World}{g:Nat}{p:Nat->Prop}(hu:Upd w w' g)(hg:p g):Only w w' p :=
 ⟨hu.os,hu.tape,hu.output,by rw[hu.size];exact aO _,fun k _ hk=>hu.block k (fun e=>hk (e ▸ hg))⟩
theorem sG {P:Program} {ops:Array Oper} {rest:List Oper} {o:Oper} {a:Act} {w:World} {Q:Exit->Act->World->Prop} (u_:o.guard=none) (ty:TypeId) (x y:Operand) (ho:o.op = .store ty x y)
  (g:Nat) (cells:Array Value) (hx:a.eval x = .pointer (some ⟨g,0,none⟩)) (hy:a.eval y = .agg cells)
  (t:TypeId) (old:Array Value) (hg:w.heap[g]?=some (.cells old t (0,0))) (hi:(P.info? ty).map (·.size)=some cells.size)
  (rA:old.size=cells.size) (h1:cells.all (·.oneCell')=true)
  (h:∀ W',W'.heap[g]?=some (.cells cells t (0,0))->Upd w W' g->wpList P ops Q rest (a.put o.dst undef) W'):wpList P ops Q (o::rest) a w :=
 wpList_store_row u_ ty x y ho g cells hx hy t old hg hi rA h1 (h _ (setRow_heap w g _ _ t _ hg) (Zur w g cells))
structure Tab (w:World) (B:Nat):Prop where
 res:∃ g off cap,g<B/\w.cell? ⟨0,0,none⟩=some (.slice (some ⟨g,off,none⟩) 8 cap)/\dD w g off (tY.map (fun s=>Value.string (aB s)))
 maxl:∃ m:Int,w.cell? ⟨1,0,none⟩=some (.int .i64 m)
 low:2<=B
 size:B<=w.heap.size
theorem Tab.keep{w w':World}{B:Nat}(h:Tab w B)(hb:∀ k,k<B->w'.heap[k]?=w.heap[k]?)(hs:w.heap.size<=w'.heap.size):Tab w' B:=by
 have hl:=h.low;obtain⟨g,off,cap,hg,hc,hr⟩:=h.res;obtain⟨m,hm⟩:=h.maxl;refine⟨⟨g,off,cap,hg,?_,hr.of_block (hb g hg)⟩,⟨m,?_⟩,hl,dQ h.size hs⟩
 ·rw[rJ (w:=w) (a:=⟨0,0,none⟩) (hb _ (by show 0<B;omega))];exact hc
 ·rw[rJ (w:=w) (a:=⟨1,0,none⟩) (hb _ (by show 1<B;omega))];exact hm
theorem Tab.below{w w':World}{B C:Nat}(h:Tab w B)(hb:Below C w w')(hC:B<=C):Tab w' B:=h.keep (fun k hk=>hb.block k (by omega)) hb.size
theorem Tab.step{w w':World}{B:Nat}(h:Tab w B)(hb:Below w.heap.size w w'):Tab w' B:=h.below hb h.size
theorem Nr(a b:List Nat)(ha:∀ y∈a,y<256)(hb:∀ y∈b,y<256):((aB a).toList==(aB b).toList)=(a==b):=by
 rw[Nq,Nq,Bool.eq_iff_iff,beq_iff_eq,beq_iff_eq];exact⟨fun h=>ef a b ha hb h,fun h=>by rw[h]⟩
end
section
open Go.RowKit
theorem T_(w:World)(a:Addr)(v:Value):Upd w (w.setCell a v) a.block:=⟨rfl,rfl,rfl,World.size_setCell w a v,fun k hk=>Below.heap_setCell _ _ _ _ hk⟩
theorem OwnK.upd{w w':World}{B k n cap g:Nat}{xs:List Value}{ao:Option Addr}(h:OwnK w B k n cap xs ao)(hu:Upd w w' g)(hg:blk ao≠some g):OwnK w' B k n cap xs ao :=
 h.of_block (fun g' e _=>hu.block g' (fun e'=>hg (by rw[e,e']))) (by rw[hu.size];exact aO _)
theorem OwnK.blk_lt{w:World}{B k n cap g:Nat}{xs:List Value}{ao:Option Addr}(h:OwnK w B k n cap xs ao)(hg:blk ao=some g):B<=g/\g<w.heap.size:=by
 cases h with
 | nil h hn hc=>cases hg
 | «at» g' off h hn hc hl=>cases hg;exact⟨h.own,h.lt⟩
end
section
open Go.RowKit
def yN(L:List (List Nat))(x:List Nat):Bool:=L.contains x
theorem SE{w:World}{g off:Nat}{L:List (List Nat)}(h:dD w g off (L.map (fun s=>Value.string (aB s))))(j:Nat)(hj:j<L.length):w.cell? ⟨g,off+j,none⟩=some (.string (aB (L.getD j []))) :=
 h j _ (by rw[dK,List.getD,aL hj];rfl)
theorem Zus(g off cp n:Nat)(L:List (List Nat))(x:List Nat)(w:World)(hn:n=L.length)(hl:n<=1000000)(hr:dD w g off (L.map (fun s=>Value.string (aB s))))(hx:∀ y∈x,y<256)(hL:∀ s∈L,∀ y∈s,y<256) :
  Calls Tryz.prog 251 #[.slice (some ⟨g,off,none⟩) n cp,.string (aB x)] w fun e w'=>w=w' /\
   ((∃ i:Nat,e = .returned (.int .i64 i))/\yN L x=true\/(e = .returned (.int .i64 (-1))/\yN L x=false)):=by
 have HA:=I (fun j hj=>SE hr j hj);have HE:Hid (∀ j,j<n->((aB x).toList==(aB (L.getD j [])).toList)=(x==L.getD j [])):=I (fun j hj=>Nr x _ hx (hL _ (by rw[List.getD,aL (by omega)];exact List.getElem_mem _)));have HN:=I hn;clear hr hx hL hn;generalize aB x=t at *
 go_enter Tryz.func251,Tryz.ntmps251
 go_wp2_with fail
 go_loop [8] (fun c=>∃ i:Nat,c = .int .i64 i/\i<=n/\Hid (∀ j,j<i->(x==L.getD j [])=false)) (fun c=>(n-intOf c).toNat)
 case atStart=>exact⟨0,rfl,by omega,I (fun j hj=>absurd hj (jU j))⟩
 case round =>
  obtain⟨i,rfl,hi,hz⟩:=hrel;have e2:IntKind.i64.wrap ((i:Int)+1)=((i+1:Nat):Int):=fU _ (by omega);by_cases aE:i<n
  ·have k1:=HA.o i (by rw[<- HN.o];exact aE)
   have hq:=HE.o i aE
   have ii:(i:Int)<n:=by omega
   obtain⟨q,hv⟩:∃ q,(x==L.getD i [])=q:=⟨_,rfl⟩;rw[hv] at hq;have HV:=I hv;clear hv;generalize aB (L.getD i [])=u at *
   cases q with
   | true =>
    go_wp2
    all_goals
     go_ret;refine⟨rfl,.inl ⟨⟨i,rfl⟩,?_⟩⟩;unfold yN;rw[List.contains_iff_mem];rw[beq_iff_eq.1 HV.o,List.getD,aL (by rw[<- HN.o];exact aE)];exact List.getElem_mem _
   | false =>
    go_wp2
    go_round
    case rel=>exact⟨i+1,rfl,by omega,I (fun j hj=>by
     rcases gQ j i with h | h
     ·exact hz.o j h
     ·obtain rfl:j=i:=by omega
      exact HV.o)⟩
    case measure=>simp[intOf];omega
  ·have ii:¬ ((i:Int)<n):=by omega
   go_wp2
   go_ret;refine⟨rfl,.inr ⟨rfl,?_⟩⟩;unfold yN;rw[Bool.eq_false_iff];intro h;obtain⟨j,hj,he⟩:=List.getElem_of_mem (List.contains_iff_mem.1 h);have:=hz.o j (by rw[HN.o] at hi aE;omega);rw[List.getD,aL hj,Option.getD_some,he] at this;simp at this
theorem Zne(g off cp n:Nat)(L:List (List Nat))(x:List Nat)(w:World)(hn:n=L.length)(hl:n<=1000000)(hr:dD w g off (L.map (fun s=>Value.string (aB s))))(hx:∀ y∈x,y<256)(hL:∀ s∈L,∀ y∈s,y<256) :
  Calls Tryz.prog 212 #[.slice (some ⟨g,off,none⟩) n cp,.string (aB x)] w fun e w'=>e = .returned (.bool (yN L x))/\w=w':=by
 have H:=I (Zus g off cp n L x w hn hl hr hx hL);clear hr hx hL hn;obtain⟨q,hq⟩:∃ q,yN L x=q:=⟨_,rfl⟩;rw[hq] at H ⊢;clear hq;generalize aB x=t at *
 go_enter Tryz.func212,Tryz.ntmps212
 go_wp2_with fail
 refine H.o.mono ?_;rintro e w' ⟨rfl,h⟩;rcases h with ⟨⟨i,rfl⟩,hc⟩ | ⟨rfl,hc⟩
 ·subst hc
  have d:decide ((0:Int)<=i)=true:=decide_eq_true (by omega)
  go_wp2
  go_ret;exact⟨rfl,rfl⟩
 ·subst hc
  go_wp2
  go_ret;exact⟨rfl,rfl⟩
theorem DW:∀ s∈tY,∀ y∈s,y<256:=by decide
theorem UE(l:List Nat)(w:World)(B:Nat)(hT:Tab w B)(hl:l.length<=1000000)(hb:∀ y∈l,y<256) :
  Calls Tryz.prog 180 #[.string (aB l)] w fun e w'=>e = .returned (.bool (gX l))/\w=w':=by
 obtain⟨g,off,cap,hg,hc,hr⟩:=hT.res;have HN:=I (fun w=>WA l w hl hb);have HC:=I (Zne g off cap 8 tY l w rfl (by omega) hr hb DW);obtain⟨q,hq⟩:∃ q,nD l=q:=⟨_,rfl⟩;have HQ:=I hq;clear hr hq hb;generalize aB l=t at *
 go_enter Tryz.func180,Tryz.ntmps180
 go_wp2_with fail
 refine(HN.o _).mono ?_;rintro e w' ⟨rfl,rfl⟩;rw[HQ.o]
 cases q with
 | false =>
  go_wp2
  go_ret;exact⟨aF (by unfold gX;rw[HQ.o];rfl),rfl⟩
 | true =>
  go_wp2_with fail
  refine HC.o.mono ?_;rintro e w' ⟨rfl,rfl⟩
  go_wp2
  go_ret;exact⟨aF (by unfold gX yN;rw[HQ.o];rfl),rfl⟩
end
end Go.Proofs.YtbcgocpihobjnaaGreatDoor
