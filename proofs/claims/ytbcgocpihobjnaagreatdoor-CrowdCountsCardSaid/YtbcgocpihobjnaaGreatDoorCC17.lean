import Derived.Shelf.SlIter.Collect
import Derived.RangeFuncNested
import Derived.RangeFuncCalls
import Derived.RangeFuncLeaves
import Derived.Test.YtbcgocpihobjnaaGreatDoorCC16
set_option linter.all false
set_option maxHeartbeats 4000000
set_option maxRecDepth 100000
namespace Go.Proofs.YtbcgocpihobjnaaGreatDoor
open Go.RowKit Go.Shelf Go.Sort Go.Maps
def Zpv(D0:DataW Unit)(left:Lit->Bool)(ss:List Ky):Prop:=ss.Nodup/\(∀ x∈ss,KyOk x)/\∀ x,KyOk x->(x∈ss↔(has D0 (Zdj x)=true/\left (Zdj x)=false))
theorem Zpv.start(D0:DataW Unit):Zpv D0 (has D0) []:=⟨List.nodup_nil,fun x hx=>absurd hx List.not_mem_nil,fun x _=>by cases has D0 (Zdj x)<;>simp⟩
theorem Zpv.step{D0:DataW Unit}{left:Lit->Bool}{ss:List Ky}(h:Zpv D0 left ss){x:Ky}(hx:KyOk x){y:DataW Unit}(hlk:left (Zdj x)=true)(hat:∀ zd,D0.atKey (Zdj x) zd=y):Zpv D0 (fun z=>left z&&!z.sameKey (Zdj x)) (ss++[x]):=by
 have hhas:has D0 (Zdj x)=true:=has_true_of_atKey hat
 have hnew:x ∉ ss:=fun hm=>by have:=((h.2.2 x hx).1 hm).2;rw[hlk] at this;cases this
 refine⟨List.nodup_append.2 ⟨h.1,by simp,fun a ha b hb=>by simp at hb;subst hb;exact fun e=>hnew (e ▸ ha)⟩,fun z hz=>?_,fun y hy=>?_⟩
 ·rcases đt.1 hz with hz | hz
  ·exact h.2.1 z hz
  ·rw[List.mem_singleton] at hz;subst hz;exact hx
 ·by_cases he:y=x
  ·subst he
   simp[hhas,WideAt.sameKey_self (Zjn y hy)]
  ·have hs:(Zdj y).sameKey (Zdj x)=false:=by
    cases hq:(Zdj y).sameKey (Zdj x) with
    | false=>rfl
    | true=>exact absurd (Zob y x hy hx (WideAt.sameKey_eq hq)) he
   simp[h.2.2 y hy,he,hs]
theorem Z14{v:Value}{kl:Lit}(h:keyOf Tryz.prog 121 v=some kl):∃ cs:Array Value,v = .agg cs:=by
 unfold keyOf at h;rw[Tryz.underlying121] at h
 have hf:v.formed Tryz.prog 121=true:=by
  by_cases hf:v.formed Tryz.prog 121=true
  ·exact hf
  ·simp[hf] at h
 unfold Value.formed at hf;rw[Tryz.underlying121] at hf;cases v<;>simp at hf;exact⟨_,rfl⟩
theorem Zvn (F:Fence) (n:Nat) (h10:F.fn 183) (hro:F.round=none) (hn:1<=n) (l Bm b nn:Nat) (D0:DataW Unit) (S0:List Ky) (hS0:∀ k∈S0,KyOk k) (hD0:∀ l,has D0 l=true↔∃ k∈S0,Zdj k=l) (J Jx:List Ky->World->Prop)
  (W:World) (hJ:AbidesFrom W.heap.size J)
  (hY:∀ pre x W,J pre W->pre.length<Maps.size D0->YieldAt F (n-1) Tryz.prog l #[.agg (kyC x).toArray] W fun e W'=>(e = .returned (.bool true)/\J (pre++[x]) W'/\KeepsWalks W W')\/(e = .returned (.bool false)/\Jx (pre++[x]) W'))
  (hm:W.cell? ⟨Bm,0,none⟩=some (.map (some b))) (hown:W.ownsMap Tryz.prog 121 (plainElem Tryz.prog 4) b nn D0) (h0:J [] W) :
  CallsIn F n Tryz.prog 183 #[.func (.yield l) #[] #[],.pointer (some ⟨Bm,0,none⟩)] W fun e W'=>(∃ v,e = .returned v)/\((∃ ss:List Ky,(ss.Nodup/\∀ x,x∈ss↔x∈S0)/\J ss W')\/(∃ pre,True/\Jx pre W')):=by
 refine callsIn_of_wp Tryz.func183 rfl h10 ?_ hro;simp only[Tryz.ntmps183,List.size_toArray,List.length_cons,List.length_nil,Nat.reduceAdd,Nat.reduceSub,Array.replicate_succ,Array.replicate_zero,List.push_toArray,List.append_toArray,List.nil_append,List.cons_append]
 gi_wp2_with (first
  | (gi_at_range;refine wpListIn_range_own _ rfl _ 166 rfl 121 4 Zsx Tryz.underlying166 _ b nn _ rfl hown ?_;intro w0 hrg0 hg0 hs0)
  | gi_in)
 go_frame
 gi_loopw [3] (fun _ wr=>∃ (left:Lit->Bool) (cnt:Nat) (ss:List Ky),wr.ranges Tryz.prog 121 (plainElem Tryz.prog 4) b W.heap.size nn D0 left cnt/\ss.length+cnt<=Maps.size D0/\Zpv D0 left ss/\J ss wr)
  (fun _ wr=>wr.rangeLeft b W.heap.size)
 case atStart =>
  exact⟨_,_,[],hrg0,by simp,Zpv.start D0,hJ [] W w0 none h0 hg0 (fun r e=>by cases e)⟩
 case round =>
  obtain⟨left,cnt,ss,hrg,hcs,hC,hJs⟩:=hrel
  gi_wp2_with (first
   | (gi_at_next;refine wpListIn_next_ranges _ rfl _ rfl 121 Zsx (plainElem Tryz.prog 4) Value.agg id (fun key kl hk=>Z14 hk) (fun v _ _=>⟨v,rfl⟩) b W.heap.size nn _ _ _ rfl hrg ?_ ?_)
   | gi_in)
  ·intro hc0 hl0
   gi_wp2
   go_end0
   refine⟨⟨_,rfl⟩,.inl ⟨ss,⟨hC.1,fun x=>?_⟩,hJs⟩⟩;constructor
   ·intro hx
    have hk:=hC.2.1 x hx;have:=((hC.2.2 x hk).1 hx).1;obtain⟨k,hk0,hke⟩:=(hD0 _).1 this;rw[<- Zob k x (hS0 k hk0) hk hke];exact hk0
   ·intro hx
    exact(hC.2.2 x (hS0 x hx)).2 ⟨(hD0 _).2 ⟨x,hx,rfl⟩,hl0 _⟩
  ·intro x c kl yd yp w2 cnt2 hkey hlk hv hat hrg2 hlt hg2 hs2 hen
   obtain⟨k,hk0,hke⟩:=(hD0 kl).1 (has_true_of_atKey hat);have hk:=hS0 k hk0
   have ex:x=(kyC k).toArray:=by
    have:=Zsx.inj hkey (hke ▸ Zg3 k hk);simpa using this
   subst ex;subst hke;have HKO:=ħ hk;have hJ2:J ss w2:=hJ ss wr w2 (some W.heap.size) hJs hg2 (fun r e=>by cases e;exact⟨đd _,hrg.iter_walk⟩);have hrg2':=hrg2.alloc (.cells (kyC k).toArray 121);obtain⟨fn,tmps,assign,body,hy,hR⟩:=hY ss k (w2.alloc (.cells (kyC k).toArray 121)) (hJ ss w2 _ none hJ2 (World.grownBy_alloc w2 _ none) (fun r e=>by cases e)) (by omega);have HST:=ħ (hC.step hk hlk hat);clear hs2 hat hkey hv hC hk;unfold kyC at *;generalize Zad k.l=s1 at *;generalize Zad k.r=s2 at *;generalize k.c=s3 at *
   gi_wp2
   refine hR.mono ?_;rintro e W3 (⟨rfl,hJ3,hk3⟩ | ⟨rfl,hJx3⟩)
   ·gi_wp2
    have hrg3:=hrg2'.of_walks hk3;go_roundw
    case rel=>exact⟨_,cnt2,ss++[k],hrg3,by simp;omega,HST.o,hJ3⟩
    case measure=>rw[hrg3.left_eq,hrg.left_eq];exact hlt
   ·gi_wp2
    refine bodyPost_ret (results_none rfl _ _ _) rfl ?_;exact⟨⟨_,rfl⟩,.inr ⟨_,trivial,hJx3⟩⟩
theorem Zpw(F:Fence)(n:Nat)(h10:F.fn 183)(hro:F.round=none)(hn:1<=n)(Bm b:Nat)(S0:List Ky)(hS0:∀ k∈S0,KyOk k)(w:World)(hBm:Bm<w.heap.size)(hm:w.cell? ⟨Bm,0,none⟩=some (.map (some b)))(h:Zgo w b S0) :
  SeqStopsK F n Tryz.prog 183 #[.pointer (some ⟨Bm,0,none⟩)] (fun k=>#[.agg (kyC k).toArray]) KeepsWalks (fun ss=>ss.Nodup/\∀ x,x∈ss↔x∈S0) (fun _=>True) S0.length w:=by
 obtain⟨D,hown,hD,_⟩:=h;intro l J Jx W hW hJ hJx hY h0;have hb:=hown.lt;have hown':W.ownsMap Tryz.prog 121 (plainElem Tryz.prog 4) b S0.length D:=hown.kept (Zde hW none) (by simp);have hsz:=hown'.size_le;exact Zvn F n h10 hro hn l Bm b S0.length D S0 hS0 hD J Jx W hJ (fun pre x W1 h1 h2=>hY pre x W1 h1 (by omega)) ((hW.cell (p:=⟨Bm,0,none⟩) hBm).trans hm) hown' h0
theorem Zzt(F:Fence)(n:Nat)(h6:F.fn 148)(hro:F.round=none)(b:Nat)(w:World) :
  CallsIn F n Tryz.prog 148 #[.map (some b)] w fun e w'=>e = .returned (.func (.func 183) #[] #[.pointer (some ⟨w.heap.size,0,none⟩)])/\w'=w.alloc (.cells #[.map (some b)] 166):=by
 refine callsIn_of_wp Tryz.func148 rfl h6 ?_ hro;simp only[Tryz.ntmps148,List.size_toArray,List.length_cons,List.length_nil,Nat.reduceAdd,Nat.reduceSub,Array.replicate_succ,Array.replicate_zero,List.push_toArray,List.append_toArray,List.nil_append,List.cons_append]
 gi_wp2
 go_ret;exact⟨rfl,rfl⟩
end Go.Proofs.YtbcgocpihobjnaaGreatDoor
