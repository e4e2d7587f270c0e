import Derived.Shelf.SlIter.Collect
import Derived.RangeFuncNested
import Derived.RangeFuncCalls
import Derived.RangeFuncLeaves
import Derived.Test.YtbcgocpihobjnaaGreatDoorCL16
set_option linter.all false
set_option maxHeartbeats 4000000
set_option maxRecDepth 100000
namespace Go.Proofs.YtbcgocpihobjnaaGreatDoor
open Go.RowKit Go.Shelf Go.Sort Go.Maps
def Sr(D0:DataW Unit)(left:Lit->Bool)(ss:List Ky):Prop:=ss.Nodup/\(∀ x∈ss,KyOk x)/\∀ x,KyOk x->(x∈ss↔(has D0 (mJ x)=true/\left (mJ x)=false))
theorem Sr.start(D0:DataW Unit):Sr D0 (has D0) []:=⟨List.nodup_nil,fun x hx=>absurd hx List.not_mem_nil,fun x _=>by cases has D0 (mJ x)<;>simp⟩
theorem Sr.step{D0:DataW Unit}{left:Lit->Bool}{ss:List Ky}(h:Sr D0 left ss){x:Ky}(hx:KyOk x){y:DataW Unit}(xI:left (mJ x)=true)(rP:∀ zd,D0.atKey (mJ x) zd=y):Sr D0 (fun z=>left z&&!z.sameKey (mJ x)) (ss++[x]):=by
 have qz:has D0 (mJ x)=true:=has_true_of_atKey rP
 have jX:x ∉ ss:=fun hm=>by have:=((h.2.2 x hx).1 hm).2;rw[xI] at this;cases this
 refine⟨List.nodup_append.2 ⟨h.1,by simp,fun a ha b hb=>by simp at hb;subst hb;exact fun e=>jX (e ▸ ha)⟩,fun z hz=>?_,fun y hy=>?_⟩
 ·rcases kI.1 hz with hz | hz
  ·exact h.2.1 z hz
  ·rw[List.mem_singleton] at hz;subst hz;exact hx
 ·by_cases he:y=x
  ·subst he
   simp[qz,WideAt.sameKey_self (DG y hy)]
  ·have hs:(mJ y).sameKey (mJ x)=false:=by
    cases hq:(mJ y).sameKey (mJ x) with
    | false=>rfl
    | true=>exact absurd (TJ y x hy hx (WideAt.sameKey_eq hq)) he
   simp[h.2.2 y hy,he,hs]
theorem Z1z{v:Value}{kl:Lit}(h:keyOf Tryz.prog 121 v=some kl):∃ cs:Array Value,v = .agg cs:=by
 unfold keyOf at h;rw[Tryz.underlying121] at h
 have hf:v.formed Tryz.prog 121=true:=by
  by_cases hf:v.formed Tryz.prog 121=true
  ·exact hf
  ·simp[hf] at h
 unfold Value.formed at hf;rw[Tryz.underlying121] at hf;cases v<;>simp at hf;exact⟨_,rfl⟩
theorem Zvn (F:Fence) (n:Nat) (Pm:F.fn 183) (uN:F.round=none) (hn:1<=n) (l Bm b nn:Nat) (D0:DataW Unit) (S0:List Ky) (hS0:∀ k∈S0,KyOk k) (hD0:∀ l,has D0 l=true↔∃ k∈S0,mJ k=l) (J Jx:List Ky->World->Prop)
  (W:World) (hJ:AbidesFrom W.heap.size J)
  (hY:∀ pre x W,J pre W->pre.length<Maps.size D0->YieldAt F (n-1) Tryz.prog l #[.agg (kyC x).toArray] W fun e W'=>(e = .returned (.bool true)/\J (pre++[x]) W'/\KeepsWalks W W')\/(e = .returned (.bool false)/\Jx (pre++[x]) W'))
  (hm:W.cell? ⟨Bm,0,none⟩=some (.map (some b))) (bD:W.ownsMap Tryz.prog 121 (plainElem Tryz.prog 4) b nn D0) (h0:J [] W) :
  CallsIn F n Tryz.prog 183 #[.func (.yield l) #[] #[],.pointer (some ⟨Bm,0,none⟩)] W fun e W'=>(∃ v,e = .returned v)/\((∃ ss:List Ky,(ss.Nodup/\∀ x,x∈ss↔x∈S0)/\J ss W')\/(∃ pre,True/\Jx pre W')):=by
 refine callsIn_of_wp Tryz.func183 rfl Pm ?_ uN;simp only[Tryz.ntmps183,List.size_toArray,List.length_cons,List.length_nil,Nat.reduceAdd,Nat.reduceSub,Array.replicate_succ,Array.replicate_zero,List.push_toArray,List.append_toArray,List.nil_append,List.cons_append]
 gi_wp2_with (first
  | (gi_at_range;refine wpListIn_range_own _ rfl _ 166 rfl 121 4 Vr Tryz.underlying166 _ b nn _ rfl bD ?_;intro w0 ra i5 Bs)
  | gi_in)
 go_frame
 gi_loopw [3] (fun _ wr=>∃ (left:Lit->Bool) (cnt:Nat) (ss:List Ky),wr.ranges Tryz.prog 121 (plainElem Tryz.prog 4) b W.heap.size nn D0 left cnt/\ss.length+cnt<=Maps.size D0/\Sr D0 left ss/\J ss wr)
  (fun _ wr=>wr.rangeLeft b W.heap.size)
 case atStart =>
  exact⟨_,_,[],ra,by simp,Sr.start D0,hJ [] W w0 none h0 i5 (fun r e=>by cases e)⟩
 case round =>
  obtain⟨left,cnt,ss,rd,lP,hC,hJs⟩:=hrel
  gi_wp2_with (first
   | (gi_at_next;refine wpListIn_next_ranges _ rfl _ rfl 121 Vr (plainElem Tryz.prog 4) Value.agg id (fun key kl hk=>Z1z hk) (fun v _ _=>⟨v,rfl⟩) b W.heap.size nn _ _ _ rfl rd ?_ ?_)
   | gi_in)
  ·intro sN kW
   gi_wp2
   go_end0
   refine⟨⟨_,rfl⟩,.inl ⟨ss,⟨hC.1,fun x=>?_⟩,hJs⟩⟩;constructor
   ·intro hx
    have hk:=hC.2.1 x hx;have:=((hC.2.2 x hk).1 hx).1;obtain⟨k,yV,fy⟩:=(hD0 _).1 this;rw[<- TJ k x (hS0 k yV) hk fy];exact yV
   ·intro hx
    exact(hC.2.2 x (hS0 x hx)).2 ⟨(hD0 _).2 ⟨x,hx,rfl⟩,kW _⟩
  ·intro x c kl yd yp w2 cnt2 jY xI hv rP re aE qF Ph hen
   obtain⟨k,yV,fy⟩:=(hD0 kl).1 (has_true_of_atKey rP);have hk:=hS0 k yV
   have ex:x=(kyC k).toArray:=by
    have:=Vr.inj jY (fy ▸ ed k hk);simpa using this
   subst ex;subst fy;have Wt:=I hk;have hJ2:J ss w2:=hJ ss wr w2 (some W.heap.size) hJs qF (fun r e=>by cases e;exact⟨aO _,rd.iter_walk⟩);have Wv:=re.alloc (.cells (kyC k).toArray 121);obtain⟨fn,tmps,assign,body,hy,hR⟩:=hY ss k (w2.alloc (.cells (kyC k).toArray 121)) (hJ ss w2 _ none hJ2 (World.grownBy_alloc w2 _ none) (fun r e=>by cases e)) (by omega);have bQ:=I (hC.step hk xI rP);clear Ph rP jY hv hC hk;unfold kyC at *;generalize aB k.l=s1 at *;generalize aB k.r=s2 at *;generalize k.c=s3 at *
   gi_wp2
   refine hR.mono ?_;rintro e W3 (⟨rfl,hJ3,Fy⟩ | ⟨rfl,hJx3⟩)
   ·gi_wp2
    have Ww:=Wv.of_walks Fy;go_roundw
    case rel=>exact⟨_,cnt2,ss++[k],Ww,by simp;omega,bQ.o,hJ3⟩
    case measure=>rw[Ww.left_eq,rd.left_eq];exact aE
   ·gi_wp2
    refine bodyPost_ret (results_none rfl _ _ _) rfl ?_;exact⟨⟨_,rfl⟩,.inr ⟨_,trivial,hJx3⟩⟩
theorem Zp2(F:Fence)(n:Nat)(Pm:F.fn 183)(uN:F.round=none)(hn:1<=n)(Bm b:Nat)(S0:List Ky)(hS0:∀ k∈S0,KyOk k)(w:World)(hBm:Bm<w.heap.size)(hm:w.cell? ⟨Bm,0,none⟩=some (.map (some b)))(h:lX w b S0) :
  SeqStopsK F n Tryz.prog 183 #[.pointer (some ⟨Bm,0,none⟩)] (fun k=>#[.agg (kyC k).toArray]) KeepsWalks (fun ss=>ss.Nodup/\∀ x,x∈ss↔x∈S0) (fun _=>True) S0.length w:=by
 obtain⟨D,bD,hD,_⟩:=h;intro l J Jx W hW hJ hJx hY h0;have hb:=bD.lt;have Ls:W.ownsMap Tryz.prog 121 (plainElem Tryz.prog 4) b S0.length D:=bD.kept (mx hW none) (by simp);have iK:=Ls.size_le;exact Zvn F n Pm uN hn l Bm b S0.length D S0 hS0 hD J Jx W hJ (fun pre x W1 h1 h2=>hY pre x W1 h1 (by omega)) ((hW.cell (p:=⟨Bm,0,none⟩) hBm).trans hm) Ls h0
theorem Zzm(F:Fence)(n:Nat)(h6:F.fn 148)(uN:F.round=none)(b:Nat)(w:World) :
  CallsIn F n Tryz.prog 148 #[.map (some b)] w fun e w'=>e = .returned (.func (.func 183) #[] #[.pointer (some ⟨w.heap.size,0,none⟩)])/\w'=w.alloc (.cells #[.map (some b)] 166):=by
 refine callsIn_of_wp Tryz.func148 rfl h6 ?_ uN;simp only[Tryz.ntmps148,List.size_toArray,List.length_cons,List.length_nil,Nat.reduceAdd,Nat.reduceSub,Array.replicate_succ,Array.replicate_zero,List.push_toArray,List.append_toArray,List.nil_append,List.cons_append]
 gi_wp2
 go_ret;exact⟨rfl,rfl⟩
end Go.Proofs.YtbcgocpihobjnaaGreatDoor
