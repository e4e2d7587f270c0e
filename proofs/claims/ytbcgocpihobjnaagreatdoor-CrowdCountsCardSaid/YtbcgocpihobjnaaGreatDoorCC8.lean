import Derived.Laws.Tables
import Derived.Laws.ResultCell
import Derived.Test.YtbcgocpihobjnaaGreatDoorCC7
set_option linter.all false
set_option maxHeartbeats 2000000
set_option maxRecDepth 100000
namespace Go.Proofs.YtbcgocpihobjnaaGreatDoor
section
open Go.RowKit
structure Upd (w w':World) (g:Nat):Prop where
 os:w'.os=w.os
 tape:w'.tape=w.tape
 output:w'.output=w.output
 size:w'.heap.size=w.heap.size
 block:∀ k,k≠g->w'.heap[k]?=w.heap[k]?
theorem Zh3(w:World)(g:Nat)(cs:Array Value)(k:Nat)(h:k≠g):(w.setRow g cs).heap[k]?=w.heap[k]?:=by
 unfold World.setRow;simp only[Array.getElem?_modify];rw[if_neg (fun e=>h e.symm)]
theorem Zun(w:World)(g:Nat)(cs:Array Value):Upd w (w.setRow g cs) g:=⟨rfl,rfl,rfl,by simp,fun k hk=>Zh3 w g cs k hk⟩
theorem Upd.below{B g:Nat}{a w w':World}(hu:Upd w w' g)(h:Below B a w)(hg:B<=g):Below B a w' :=
 h.trans ⟨hu.os,hu.tape,hu.output,by rw[hu.size];exact đd _,fun k hk=>hu.block k (by omega)⟩
theorem Upd.only{w w':World}{g:Nat}{p:Nat->Prop}(hu:Upd w w' g)(hg:p g):Only w w' p :=
 ⟨hu.os,hu.tape,hu.output,by rw[hu.size];exact đd _,fun k _ hk=>hu.block k (fun e=>hk (e ▸ hg))⟩
theorem Zaq {P:Program} {ops:Array Oper} {rest:List Oper} {o:Oper} {a:Act} {w:World} {Q:Exit->Act->World->Prop} (hgd:o.guard=none) (ty:TypeId) (x y:Operand) (ho:o.op = .store ty x y)
  (g:Nat) (cells:Array Value) (hx:a.eval x = .pointer (some ⟨g,0,none⟩)) (hy:a.eval y = .agg cells)
  (t:TypeId) (old:Array Value) (hg:w.heap[g]?=some (.cells old t (0,0))) (hi:(P.info? ty).map (·.size)=some cells.size)
  (hold:old.size=cells.size) (h1:cells.all (·.oneCell')=true)
  (h:∀ W',W'.heap[g]?=some (.cells cells t (0,0))->Upd w W' g->wpList P ops Q rest (a.put o.dst undef) W'):wpList P ops Q (o::rest) a w :=
 wpList_store_row hgd ty x y ho g cells hx hy t old hg hi hold h1 (h _ (setRow_heap w g _ _ t _ hg) (Zun w g cells))
structure Tab (w:World) (B:Nat):Prop where
 res:∃ g off cap,g<B/\w.cell? ⟨0,0,none⟩=some (.slice (some ⟨g,off,none⟩) 8 cap)/\Zav w g off (Zdh.map (fun s=>Value.string (Zad s)))
 maxl:∃ m:Int,w.cell? ⟨1,0,none⟩=some (.int .i64 m)
 low:2<=B
 size:B<=w.heap.size
theorem Tab.keep{w w':World}{B:Nat}(h:Tab w B)(hb:∀ k,k<B->w'.heap[k]?=w.heap[k]?)(hs:w.heap.size<=w'.heap.size):Tab w' B:=by
 have hl:=h.low;obtain⟨g,off,cap,hg,hc,hr⟩:=h.res;obtain⟨m,hm⟩:=h.maxl;refine⟨⟨g,off,cap,hg,?_,hr.of_block (hb g hg)⟩,⟨m,?_⟩,hl,đo h.size hs⟩
 ·rw[đx (w:=w) (a:=⟨0,0,none⟩) (hb _ (by show 0<B;omega))];exact hc
 ·rw[đx (w:=w) (a:=⟨1,0,none⟩) (hb _ (by show 1<B;omega))];exact hm
theorem Tab.below{w w':World}{B C:Nat}(h:Tab w B)(hb:Below C w w')(hC:B<=C):Tab w' B:=h.keep (fun k hk=>hb.block k (by omega)) hb.size
theorem Tab.step{w w':World}{B:Nat}(h:Tab w B)(hb:Below w.heap.size w w'):Tab w' B:=h.below hb h.size
theorem Tab.only{w w':World}{B:Nat}{p:Nat->Prop}(h:Tab w B)(hb:Only w w' p)(hp:∀ k,p k->B<=k):Tab w' B :=
 h.keep (fun k hk=>hb.block k (đm hk h.size) (fun hh=>by have:=hp k hh;omega)) hb.size
theorem Tab.alloc{w:World}{B:Nat}(h:Tab w B)(o:Obj):Tab (w.alloc o) B:=h.step ((đc _ _).alloc (đd _) o)
theorem Zeg(a b:List Nat)(ha:∀ y∈a,y<256)(hb:∀ y∈b,y<256):((Zad a).toList==(Zad b).toList)=(a==b):=by
 rw[Zca,Zca,Bool.eq_iff_iff,beq_iff_eq,beq_iff_eq];exact⟨fun h=>Ze2 a b ha hb h,fun h=>by rw[h]⟩
end
section
open Go.RowKit
theorem Zqy(w:World)(a:Addr)(v:Value):Upd w (w.setCell a v) a.block:=⟨rfl,rfl,rfl,World.size_setCell w a v,fun k hk=>Below.heap_setCell _ _ _ _ hk⟩
theorem OwnK.upd{w w':World}{B k n cap g:Nat}{xs:List Value}{ao:Option Addr}(h:OwnK w B k n cap xs ao)(hu:Upd w w' g)(hg:blk ao≠some g):OwnK w' B k n cap xs ao :=
 h.of_block (fun g' e _=>hu.block g' (fun e'=>hg (by rw[e,e']))) (by rw[hu.size];exact đd _)
theorem OwnK.blk_lt{w:World}{B k n cap g:Nat}{xs:List Value}{ao:Option Addr}(h:OwnK w B k n cap xs ao)(hg:blk ao=some g):B<=g/\g<w.heap.size:=by
 cases h with
 | nil h hn hc=>cases hg
 | «at» g' off h hn hc hl=>cases hg;exact⟨h.own,h.lt⟩
end
section
open Go.RowKit
def Zqz(L:List (List Nat))(x:List Nat):Bool:=L.contains x
theorem Zpl{w:World}{g off:Nat}{L:List (List Nat)}(h:Zav w g off (L.map (fun s=>Value.string (Zad s))))(j:Nat)(hj:j<L.length):w.cell? ⟨g,off+j,none⟩=some (.string (Zad (L.getD j []))) :=
 h j _ (by rw[đj,List.getD,đb hj];rfl)
theorem Zuo(g off cp n:Nat)(L:List (List Nat))(x:List Nat)(w:World)(hn:n=L.length)(hl:n<=1000000)(hr:Zav w g off (L.map (fun s=>Value.string (Zad s))))(hx:∀ y∈x,y<256)(hL:∀ s∈L,∀ y∈s,y<256) :
  Calls Tryz.prog 251 #[.slice (some ⟨g,off,none⟩) n cp,.string (Zad x)] w fun e w'=>w=w' /\
   ((∃ i:Nat,e = .returned (.int .i64 i))/\Zqz L x=true\/(e = .returned (.int .i64 (-1))/\Zqz L x=false)):=by
 have HA:=ħ (fun j hj=>Zpl hr j hj);have HE:Hid (∀ j,j<n->((Zad x).toList==(Zad (L.getD j [])).toList)=(x==L.getD j [])):=ħ (fun j hj=>Zeg x _ hx (hL _ (by rw[List.getD,đb (by omega)];exact List.getElem_mem _)));have HN:=ħ hn;clear hr hx hL hn;generalize Zad x=t at *
 go_enter Tryz.func251,Tryz.ntmps251
 go_wp2_with fail
 go_loop [8] (fun c=>∃ i:Nat,c = .int .i64 i/\i<=n/\Hid (∀ j,j<i->(x==L.getD j [])=false)) (fun c=>(n-intOf c).toNat)
 case atStart=>exact⟨0,rfl,by omega,ħ (fun j hj=>absurd hj (đu j))⟩
 case round =>
  obtain⟨i,rfl,hi,hz⟩:=hrel;have e2:IntKind.i64.wrap ((i:Int)+1)=((i+1:Nat):Int):=đh _ (by omega);by_cases hlt:i<n
  ·have k1:=HA.o i (by rw[<- HN.o];exact hlt)
   have hq:=HE.o i hlt
   have ii:(i:Int)<n:=by omega
   obtain⟨q,hv⟩:∃ q,(x==L.getD i [])=q:=⟨_,rfl⟩;rw[hv] at hq;have HV:=ħ hv;clear hv;generalize Zad (L.getD i [])=u at *
   cases q with
   | true =>
    go_wp2
    all_goals
     go_ret;refine⟨rfl,.inl ⟨⟨i,rfl⟩,?_⟩⟩;unfold Zqz;rw[List.contains_iff_mem];rw[beq_iff_eq.1 HV.o,List.getD,đb (by rw[<- HN.o];exact hlt)];exact List.getElem_mem _
   | false =>
    go_wp2
    go_round
    case rel=>exact⟨i+1,rfl,by omega,ħ (fun j hj=>by
     rcases đw j i with h | h
     ·exact hz.o j h
     ·obtain rfl:j=i:=by omega
      exact HV.o)⟩
    case measure=>simp[intOf];omega
  ·have ii:¬ ((i:Int)<n):=by omega
   go_wp2
   go_ret;refine⟨rfl,.inr ⟨rfl,?_⟩⟩;unfold Zqz;rw[Bool.eq_false_iff];intro h;obtain⟨j,hj,he⟩:=List.getElem_of_mem (List.contains_iff_mem.1 h);have:=hz.o j (by rw[HN.o] at hi hlt;omega);rw[List.getD,đb hj,Option.getD_some,he] at this;simp at this
theorem Znk(g off cp n:Nat)(L:List (List Nat))(x:List Nat)(w:World)(hn:n=L.length)(hl:n<=1000000)(hr:Zav w g off (L.map (fun s=>Value.string (Zad s))))(hx:∀ y∈x,y<256)(hL:∀ s∈L,∀ y∈s,y<256) :
  Calls Tryz.prog 212 #[.slice (some ⟨g,off,none⟩) n cp,.string (Zad x)] w fun e w'=>e = .returned (.bool (Zqz L x))/\w=w':=by
 have H:=ħ (Zuo g off cp n L x w hn hl hr hx hL);clear hr hx hL hn;obtain⟨q,hq⟩:∃ q,Zqz L x=q:=⟨_,rfl⟩;rw[hq] at H ⊢;clear hq;generalize Zad x=t at *
 go_enter Tryz.func212,Tryz.ntmps212
 go_wp2_with fail
 refine H.o.mono ?_;rintro e w' ⟨rfl,h⟩;rcases h with ⟨⟨i,rfl⟩,hc⟩ | ⟨rfl,hc⟩
 ·subst hc
  have d:decide ((0:Int)<=i)=true:=decide_eq_true (by omega)
  go_wp2
  go_ret;exact⟨rfl,rfl⟩
 ·subst hc
  go_wp2
  go_ret;exact⟨rfl,rfl⟩
theorem Zh4:∀ s∈Zdh,∀ y∈s,y<256:=by decide
theorem Zsq(l:List Nat)(w:World)(B:Nat)(hT:Tab w B)(hl:l.length<=1000000)(hb:∀ y∈l,y<256) :
  Calls Tryz.prog 180 #[.string (Zad l)] w fun e w'=>e = .returned (.bool (Zbz l))/\w=w':=by
 obtain⟨g,off,cap,hg,hc,hr⟩:=hT.res;have HN:=ħ (fun w=>Zsc l w hl hb);have HC:=ħ (Znk g off cap 8 Zdh l w rfl (by omega) hr hb Zh4);obtain⟨q,hq⟩:∃ q,Zdo l=q:=⟨_,rfl⟩;have HQ:=ħ hq;clear hr hq hb;generalize Zad l=t at *
 go_enter Tryz.func180,Tryz.ntmps180
 go_wp2_with fail
 refine(HN.o _).mono ?_;rintro e w' ⟨rfl,rfl⟩;rw[HQ.o]
 cases q with
 | false =>
  go_wp2
  go_ret;exact⟨Zac (by unfold Zbz;rw[HQ.o];rfl),rfl⟩
 | true =>
  go_wp2_with fail
  refine HC.o.mono ?_;rintro e w' ⟨rfl,rfl⟩
  go_wp2
  go_ret;exact⟨Zac (by unfold Zbz Zqz;rw[HQ.o];rfl),rfl⟩
end
end Go.Proofs.YtbcgocpihobjnaaGreatDoor
