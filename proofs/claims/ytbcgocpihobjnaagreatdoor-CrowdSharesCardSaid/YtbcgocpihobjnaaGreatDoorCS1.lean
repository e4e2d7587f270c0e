import Derived.Test.YtbcgocpihobjnaaGreatDoorCS0
set_option linter.unusedVariables false
set_option linter.unusedSimpArgs false
namespace Go.Proofs.YtbcgocpihobjnaaGreatDoor
section
theorem Zfl (can:Nat→Nat→Bool) (win:Nat→Nat) (M u:Nat) (us:List Nat) (left:Nat→Nat→Nat):Znu can win M (u::us) left=((List.range M).map (fun m=>if can u m=true∧0<left m (win u) then Znu can win M us (Zl2 left m (win u)) else 0)).sum:=rfl
theorem Zgg {can can':Nat→Nat→Bool} {win win':Nat→Nat} {M:Nat}:∀ (us:List Nat) (l l':Nat→Nat→Nat),(∀ u,u∈us→win u=win' u∧∀ m,m<M→can u m=can' u m)→(∀ m w,m<M→l m w=l' m w)→Znu can win M us l=Znu can' win' M us l'
 | [],_,_,_,_=>rfl
 | u::us,l,l',hc,h=>by
  rw[Zfl,Zfl]
  obtain⟨hw,hcu⟩:=hc u (List.mem_cons_self ..)
  refine Zay _ (fun m hm=>?_)
  have hm:=List.mem_range.1 hm
  rw[← hw,← h m (win u) hm,← hcu m hm,Zgg us (Zl2 l m (win u)) (Zl2 l' m (win u)) (fun v hv=>hc v (List.mem_cons_of_mem _ hv)) (fun k v hk=>by
   unfold Zl2
   rw[h m (win u) hm,h k v hk])]
theorem Zr3 {can can':Nat→Nat→Bool} {win:Nat→Nat} {M M':Nat} (hM:M≤M'):∀ (us:List Nat) (l l':Nat→Nat→Nat),(∀ u,u∈us→∀ m,m<M→can u m=true→can' u m=true)→(∀ m w,m<M→l m w≤l' m w)→Znu can win M us l≤Znu can' win M' us l'
 | [],_,_,_,_=>Nat.le_refl _
 | u::us,l,l',hc,h=>by
  rw[Zfl,Zfl]
  have h1:((List.range M).map (fun m=>if can u m=true∧0<l m (win u) then Znu can win M us (Zl2 l m (win u)) else 0)).sum≤((List.range M).map (fun m=>if can' u m=true∧0<l' m (win u) then Znu can' win M' us (Zl2 l' m (win u)) else 0)).sum:=by
   refine Zkz _ (fun m hm=>?_)
   have hm:=List.mem_range.1 hm
   by_cases e:can u m=true∧0<l m (win u)
   ·rw[if_pos e,if_pos ⟨hc u (List.mem_cons_self ..) m hm e.1,Nat.lt_of_lt_of_le e.2 (h m _ hm)⟩]
    refine Zr3 hM us _ _ (fun v hv=>hc v (List.mem_cons_of_mem _ hv)) (fun k v hk=>?_)
    unfold Zl2
    have:=h m (win u) hm
    have:=h k v hk
    split<;>omega
   ·rw[if_neg e];exact Nat.zero_le _
  refine Nat.le_trans h1 ?_
  obtain⟨d,rfl⟩:∃ d,M'=M+d:=⟨M'-M,by omega⟩
  rw[List.range_add,List.map_append,List.sum_append]
  exact Nat.le_add_right _ _
structure LegOn (T:Tbl) (ix:List Nat) (a:Nat→Nat):Prop where
 mem:∀ u,u∈ix→a u<T.M
 can:∀ u,u∈ix→T.can u (a u)=true
 few:∀ m w,ix.countP (fun u=>a u==m&&T.win u==w)≤T.cap m w
theorem Zvn {l:List Nat} {k:Nat} (h:k<l.length):l.getD k 0∈l:=by
 rw[List.getD_eq_getElem?_getD,List.getElem?_eq_getElem h]
 exact List.getElem_mem _
theorem Zo2 {T T':Tbl} (hU:T.U=T'.U) (hM:T.M=T'.M) (hc:∀ u m,u<T.U→m<T.M→T.can u m=T'.can u m) (hw:∀ u,u<T.U→T.win u=T'.win u) (hp:∀ m w,m<T.M→T.cap m w=T'.cap m w):Zhk T=Zhk T':=by
 unfold Zhk
 rw[← hU,← hM]
 exact Zgg _ _ _ (fun u hu=>⟨hw u (List.mem_range.1 hu),fun m hm=>hc u m (List.mem_range.1 hu) hm⟩) (fun m w hm=>hp m w hm)
theorem LegOn.less {T:Tbl} {a:Nat→Nat} {ix ix':List Nat} (hp:ix'.Sublist ix) (h:LegOn T ix a):LegOn T ix' a :=
 ⟨fun u hu=>h.mem u (hp.subset hu),fun u hu=>h.can u (hp.subset hu),fun m w=>Nat.le_trans hp.countP_le (h.few m w)⟩
theorem LegOn.congr {T:Tbl} {a b:Nat→Nat} {ix:List Nat} (he:∀ u,u∈ix→a u=b u) (h:LegOn T ix a):LegOn T ix b :=
 ⟨fun u hu=>by rw[← he u hu];exact h.mem u hu,fun u hu=>by rw[← he u hu];exact h.can u hu,fun m w=>by
  refine Nat.le_trans (Nat.le_of_eq ?_) (h.few m w)
  exact List.countP_congr (fun u hu=>by rw[he u hu])⟩
end
section
theorem Zr4 {T T':Tbl} (hU:T.U=T'.U) (hM:T.M≤T'.M) (hc:∀ u m,u<T.U→m<T.M→T.can u m=true→T'.can u m=true) (hw:∀ u,u<T.U→T.win u=T'.win u) (hp:∀ m w,m<T.M→T.cap m w≤T'.cap m w):Zhk T≤Zhk T':=by
 have h1:Zhk T=Znu T.can T'.win T.M (List.range T.U) T.cap:=Zgg _ _ _ (fun u hu=>⟨hw u (List.mem_range.1 hu),fun _ _=>rfl⟩) (fun _ _ _=>rfl)
 rw[h1]
 unfold Zhk
 rw[← hU]
 exact Zr3 hM _ _ _ (fun u hu m hm h=>hc u m (List.mem_range.1 hu) hm h) (fun m w hm=>hp m w hm)
def Tbl.fixT (T:Tbl) (u m:Nat):Tbl:={ T with can:=fun v k=>if v=u then T.can u m&&decide (k=m) else T.can v k }
theorem Zqc {T:Tbl} {u m:Nat} (hu:u<T.U) (a:Nat→Nat):Legal (T.fixT u m) a↔Legal T a∧a u=m:=by
 have hl:∀ k w,Zjm (T.fixT u m) a k w=Zjm T a k w:=fun _ _=>rfl
 constructor
 ·intro h
  have h1:=h.can u hu
  have h1:(if u=u then T.can u m&&decide (a u=m) else T.can u (a u))=true:=h1
  rw[if_pos rfl,Bool.and_eq_true,decide_eq_true_eq] at h1
  refine⟨⟨h.mem,fun v hv=>?_,fun k w=>h.few k w⟩,h1.2⟩
  have h2:=h.can v hv
  have h2:(if v=u then T.can u m&&decide (a v=m) else T.can v (a v))=true:=h2
  by_cases e:v=u
  ·subst e;rw[h1.2];exact h1.1
  ·rwa [if_neg e] at h2
 ·rintro⟨h,rfl⟩
  refine⟨h.mem,fun v hv=>?_,fun k w=>h.few k w⟩
  show (if v=u then T.can u (a u)&&decide (a v=a u) else T.can v (a v))=true
  by_cases e:v=u
  ·subst e;rw[if_pos rfl,h.can v hv];simp
  ·rw[if_neg e];exact h.can v hv
theorem Zg0 (p:List Nat→Bool) (f:List Nat→Nat) (M:Nat):∀ l:List (List Nat),(∀ x,x∈l→f x<M)→((List.range M).map (fun m=>l.countP (fun x=>p x&&f x==m))).sum=l.countP p
 | [],_=>by
  show ((List.range M).map (fun m=>0)).sum=0
  exact Zdy _
 | x::l,h=>by
  have ih:=Zg0 p f M l (fun y hy=>h y (List.mem_cons_of_mem _ hy))
  have h1:((List.range M).map (fun m=>(x::l).countP (fun x=>p x&&f x==m))).sum=((List.range M).map (fun m=>l.countP (fun x=>p x&&f x==m))).sum+((List.range M).map (fun m=>if (p x&&f x==m)=true then 1 else 0)).sum:=by
   rw[← Zhj]
   exact Zay _ (fun m _=>by rw[List.countP_cons])
  rw[h1,ih,List.countP_cons]
  congr 1
  by_cases e:p x=true
  ·rw[if_pos e]
   have h2:=Zk0 (f x) M
   rw[if_pos (h x (List.mem_cons_self ..))] at h2
   refine Eq.trans (Zay _ (fun m _=>?_)) h2
   rw[e,Bool.true_and]
  ·rw[if_neg e]
   refine Eq.trans ?_ (Zdy (List.range M))
   refine Zay _ (fun m _=>?_)
   rw[if_neg]
   intro h
   rw[Bool.and_eq_true] at h
   exact e h.1
theorem Zr5 {T:Tbl} {u m:Nat} (hu:u<T.U):Zhk (T.fixT u m)=(Zem T.M T.U).countP (fun l=>Zzx T l&&aOf l u==m):=by
 rw[Zgf]
 show (Zem T.M T.U).countP _=_
 refine List.countP_congr (fun l hl=>?_)
 have h1:Zzx (T.fixT u m) l=true↔Legal (T.fixT u m) (aOf l):=Zfj (T:=T.fixT u m) hl
 have h2:Zzx T l=true↔Legal T (aOf l):=Zfj hl
 rw[h1,Zqc hu,Bool.and_eq_true,h2,beq_iff_eq]
theorem Zr6 {T:Tbl} {u:Nat} (hu:u<T.U):((List.range T.M).map (fun m=>Zhk (T.fixT u m))).sum=Zhk T:=by
 rw[Zay _ (fun m _=>Zr5 hu),Zgf]
 refine Zg0 _ (fun l=>aOf l u) T.M _ (fun l hl=>?_)
 obtain⟨h1,h2⟩:=(Zd2 _ _).1 hl
 exact h2 _ (Zvn (by omega))
end
end Go.Proofs.YtbcgocpihobjnaaGreatDoor
