set_option linter.all false
namespace Go.Proofs.YtbcgocpihobjnaaGreatDoor
section
def Znn(c:Nat):Bool:=(decide (97<=c)&&decide (c<=122))||(decide (65<=c)&&decide (c<=90))
def Zy1(c:Nat):Bool:=decide (48<=c)&&decide (c<=57)
def Zf4(c:Nat):Bool:=Znn c||Zy1 c||c==95
theorem Zga{c:Nat}(h:Znn c=true):Zf4 c=true:=by unfold Zf4;rw[h];rfl
def Zbh(p:Nat->Bool)(l:List Nat):Nat:=(l.takeWhile p).length
theorem Zuw(p:Nat->Bool):∀ l,Zbh p l<=l.length
 | []=>Nat.le_refl _
 | c::l=>by
  unfold Zbh;rw[List.takeWhile_cons]
  cases p c with
  | false=>exact Nat.zero_le _
  | true=>exact Nat.succ_le_succ (Zuw p l)
theorem Zq0(p:Nat->Bool):∀ (l:List Nat) (i:Nat),i<Zbh p l->p (l.getD i 0)=true
 | [],i,h=>by simp[Zbh] at h
 | c::l,i,h=>by
  unfold Zbh at h;rw[List.takeWhile_cons] at h
  cases hp:p c with
  | false=>rw[hp] at h;simp at h
  | true =>
   rw[hp] at h
   cases i with
   | zero=>simpa using hp
   | succ i=>simpa using Zq0 p l i (by simpa [Zbh] using h)
theorem Zno(p:Nat->Bool):∀ (l:List Nat),Zbh p l<l.length->p (l.getD (Zbh p l) 0)=false
 | [],h=>by simp at h
 | c::l,h=>by
  unfold Zbh at h ⊢;rw[List.takeWhile_cons] at h ⊢
  cases hp:p c with
  | false=>simpa using hp
  | true =>
   rw[hp] at h;simp only[if_pos,List.length_cons] at h ⊢;have h2:=Zno p l (by unfold Zbh;omega);unfold Zbh at h2;simpa using h2
theorem Zmj(p:Nat->Bool)(l:List Nat)(n:Nat)(hn:n<=l.length)(hy:∀ i,i<n->p (l.getD i 0)=true)(hs:n<l.length->p (l.getD n 0)=false):n=Zbh p l:=by
 rcases Nat.lt_trichotomy n (Zbh p l) with h | h | h
 ·have h1:=Zq0 p l n h
  have h2:=hs (Nat.lt_of_lt_of_le h (Zuw p l));rw[h1] at h2;exact absurd h2 (by simp)
 ·exact h
 ·have h1:=hy _ h
  have h2:=Zno p l (Nat.lt_of_lt_of_le h hn);rw[h1] at h2;exact absurd h2 (by simp)
theorem Zmk(p:Nat->Bool):∀ l:List Nat,(Zbh p l==l.length)=l.all p
 | []=>rfl
 | c::l=>by
  unfold Zbh;rw[List.takeWhile_cons,List.all_cons]
  cases hp:p c with
  | false=>simp
  | true =>
   have:=Zmk p l;unfold Zbh at this;simp only[if_pos,List.length_cons,Bool.true_and];rw[<- this];rw[Bool.eq_iff_iff];simp
def Zdo(l:List Nat):Bool:=(l != [])&&Znn (l.getD 0 0)&&decide (l.length<=20)&&(Zbh Zf4 l==l.length)
def Zih(l:List Nat):Bool:=!(decide (l.length<1)||decide (20<l.length)||!Znn (l.getD 0 0))&&l.tail.all Zf4
theorem Zq1(l:List Nat):Zih l=Zdo l:=by
 unfold Zih Zdo;rw[Zmk]
 cases l with
 | nil=>rfl
 | cons c l =>
  simp only[List.getD_cons_zero,List.tail_cons,List.all_cons,List.length_cons]
  cases hl:Znn c with
  | false=>simp
  | true =>
   rw[Zga hl]
   have h1:decide (l.length+1<1)=false:=by simp
   rw[h1];by_cases h:20<l.length+1
   ·rw[decide_eq_true h,decide_eq_false (by omega:¬ l.length+1<=20)];simp
   ·rw[decide_eq_false h,decide_eq_true (by omega:l.length+1<=20)];simp
def Zdh:List (List Nat):=[[113,117,101,115,116,105,111,110],[97,110,100],[111,114],[110,111,116],[97,116],[108,101,97,115,116],[111,102],[105,110]]
def Zbz(l:List Nat):Bool:=Zdo l&&!Zdh.contains l
def Zai(c:Nat):Bool:=c != 46
def Za5(l:List Nat):Bool:=decide (Zbh Zai l<l.length)&&(Zbz (l.take (Zbh Zai l))&&Zbz (l.drop (Zbh Zai l+1)))
end
section
inductive Prd where
 | mk (k:Int) (l r:List Nat) (c:Int) (ks:List Prd):Prd
namespace Prd
def k:Prd->Int | mk k _ _ _ _=>k
def l:Prd->List Nat | mk _ l _ _ _=>l
def r:Prd->List Nat | mk _ _ r _ _=>r
def c:Prd->Int | mk _ _ _ c _=>c
def ks:Prd->List Prd | mk _ _ _ _ ks=>ks
end Prd
def Z44:Prd:=.mk 0 [] [] 0 []
abbrev PR (α:Type):=Except (Int×Nat) (α×Nat)
mutual
def Zb0:Prd->Nat
 | .mk _ _ _ _ ks=>1+Zb2 ks
def Zb2:List Prd->Nat
 | []=>0
 | p::ps=>Zb0 p+Zb2 ps
end
mutual
def Zi1:Prd->Nat
 | .mk _ _ _ _ ks=>1+Zsr ks
def Zsr:List Prd->Nat
 | []=>0
 | p::ps=>max (Zi1 p) (Zsr ps)
end
def Zc6(p:Prd):Bool:=decide (Zb0 p<=100)&&decide (Zi1 p<=12)
end
section
theorem Zdx:∀ (a b:List Prd),Zb2 (a++b)=Zb2 a+Zb2 b
 | [],b=>by simp[Zb2]
 | p::a,b=>by rw[List.cons_append,Zb2,Zb2,Zdx a b];omega
end
section
def ltL:List Nat->List Nat->Bool
 | _,[]=>false
 | [],_::_=>true
 | x::xs,y::ys=>decide (x<y)||(x==y&&ltL xs ys)
theorem Zcb:∀ a,ltL a a=false
 | []=>rfl
 | x::xs=>by simp[ltL,Zcb xs]
theorem Zi2:∀ a b c,ltL a b=true->ltL b c=true->ltL a c=true
 | [],[],_,h,_=>by simp[ltL] at h
 | [],_::_,[],_,h=>by simp[ltL] at h
 | [],_::_,_::_,_,_=>rfl
 | _::_,[],_,h,_=>by simp[ltL] at h
 | _::_,_::_,[],_,h=>by simp[ltL] at h
 | x::xs,y::ys,z::zs,h1,h2=>by
  simp only[ltL,Bool.or_eq_true,decide_eq_true_eq,Bool.and_eq_true,beq_iff_eq] at *;rcases h1 with h1 | ⟨rfl,h1⟩
  ·rcases h2 with h2 | ⟨rfl,h2⟩
   ·left;omega
   ·left;exact h1
  ·rcases h2 with h2 | ⟨rfl,h2⟩
   ·left;exact h2
   ·right;exact⟨rfl,Zi2 xs ys zs h1 h2⟩
theorem Zfl:∀ a b,ltL a b=true\/a=b\/ltL b a=true
 | [],[]=>.inr (.inl rfl)
 | [],_::_=>.inl rfl
 | _::_,[]=>.inr (.inr rfl)
 | x::xs,y::ys=>by
  simp only[ltL,Bool.or_eq_true,decide_eq_true_eq,Bool.and_eq_true,beq_iff_eq];rcases Nat.lt_trichotomy x y with h | rfl | h
  ·left;left;exact h
  ·rcases Zfl xs ys with h | rfl | h
   ·left;right;exact⟨rfl,h⟩
   ·right;left;rfl
   ·right;right;right;exact⟨rfl,h⟩
  ·right;right;left;exact h
def Zpn(a b:List Nat):Int:=if ltL a b=true then -1 else if ltL b a=true then 1 else 0
theorem Zgq(a b:List Nat):Zpn a b=0↔a=b:=by
 unfold Zpn;rcases Zfl a b with h | rfl | h
 ·rw[if_pos h]
  constructor
  ·intro h;cases h
  ·rintro rfl;rw[Zcb] at h;cases h
 ·rw[Zcb];simp
 ·by_cases h2:ltL a b=true
  ·rw[if_pos h2]
   constructor
   ·intro h;cases h
   ·rintro rfl;rw[Zcb] at h;cases h
  ·rw[if_neg h2,if_pos h]
   constructor
   ·intro h;cases h
   ·rintro rfl;rw[Zcb] at h;cases h
theorem Zux(a b:List Nat):Zpn a b<0↔ltL a b=true:=by
 unfold Zpn;by_cases h:ltL a b=true
 ·rw[if_pos h];exact⟨fun _=>h,fun _=>by decide⟩
 ·rw[if_neg h]
  constructor
  ·intro h2;split at h2<;>exact absurd h2 (by decide)
  ·intro h2;exact absurd h2 h
structure Ky where
 l:List Nat
 r:List Nat
 c:Int
deriving DecidableEq
instance:Inhabited Ky:=⟨⟨[],[],0⟩⟩
def or3(a b c:Int):Int:=if a≠0 then a else if b≠0 then b else c
def Z1o(a b:Int):Int:=if a<b then -1 else if a=b then 0 else 1
def Z20(a b:Ky):Int:=or3 (Zpn a.l b.l) (Zpn a.r b.r) (Z1o a.c b.c)
def ltK(a b:Ky):Bool:=decide (Z20 a b<0)
theorem Zml(a b:Ky):ltK a b=true↔ltL a.l b.l=true\/(a.l=b.l/\(ltL a.r b.r=true\/(a.r=b.r/\a.c<b.c))):=by
 unfold ltK Z20 or3;rw[decide_eq_true_eq];by_cases h1:a.l=b.l
 ·have z1:=(Zgq a.l b.l).2 h1
  rw[if_neg (by simpa using z1)]
  have i1:ltL a.l b.l≠true:=by rw[h1,Zcb];simp
  by_cases h2:a.r=b.r
  ·have z2:=(Zgq a.r b.r).2 h2
   have i2:ltL a.r b.r≠true:=by rw[h2,Zcb];simp
   rw[if_neg (by simpa using z2)];unfold Z1o;constructor
   ·intro h
    right;refine⟨h1,.inr ⟨h2,?_⟩⟩
    by_cases h3:a.c<b.c
    ·exact h3
    ·rw[if_neg h3] at h;split at h<;>exact absurd h (by decide)
   ·rintro (h | ⟨_,h | ⟨_,h⟩⟩)
    ·exact absurd h i1
    ·exact absurd h i2
    ·rw[if_pos h];decide
  ·have z2:Zpn a.r b.r≠0:=fun h=>h2 ((Zgq _ _).1 h)
   rw[if_pos z2,Zux];constructor
   ·intro h;exact .inr ⟨h1,.inl h⟩
   ·rintro (h | ⟨_,h | ⟨h,_⟩⟩)
    ·exact absurd h i1
    ·exact h
    ·exact absurd h h2
 ·have z1:Zpn a.l b.l≠0:=fun h=>h1 ((Zgq _ _).1 h)
  rw[if_pos z1,Zux];constructor
  ·intro h;exact .inl h
  ·rintro (h | ⟨h,_⟩)
   ·exact h
   ·exact absurd h h1
theorem Zfw(a:Ky):ltK a a=false:=by
 rw[Bool.eq_false_iff,Ne,Zml];simp[Zcb]
theorem Zgr(a b c:Ky)(h1:ltK a b=true)(h2:ltK b c=true):ltK a c=true:=by
 rw[Zml] at *;rcases h1 with h1 | ⟨e1,h1⟩
 ·rcases h2 with h2 | ⟨e2,h2⟩
  ·exact .inl (Zi2 _ _ _ h1 h2)
  ·rw[<- e2];exact .inl h1
 ·rcases h2 with h2 | ⟨e2,h2⟩
  ·rw[e1];exact .inl h2
  ·refine .inr ⟨e1.trans e2,?_⟩
   rcases h1 with h1 | ⟨f1,h1⟩
   ·rcases h2 with h2 | ⟨f2,h2⟩
    ·exact .inl (Zi2 _ _ _ h1 h2)
    ·rw[<- f2];exact .inl h1
   ·rcases h2 with h2 | ⟨f2,h2⟩
    ·rw[f1];exact .inl h2
    ·exact .inr ⟨f1.trans f2,by omega⟩
theorem Zi3(a b:Ky):ltK a b=true\/a=b\/ltK b a=true:=by
 rw[Zml,Zml];rcases Zfl a.l b.l with h | h | h
 ·exact .inl (.inl h)
 ·rcases Zfl a.r b.r with h2 | h2 | h2
  ·exact .inl (.inr ⟨h,.inl h2⟩)
  ·rcases Int.lt_trichotomy a.c b.c with h3 | h3 | h3
   ·exact .inl (.inr ⟨h,.inr ⟨h2,h3⟩⟩)
   ·right;left;cases a;cases b;simp_all
   ·exact .inr (.inr (.inr ⟨h.symm,.inr ⟨h2.symm,h3⟩⟩))
  ·exact .inr (.inr (.inr ⟨h.symm,.inl h2⟩))
 ·exact .inr (.inr (.inl h))
theorem Zss(a b c:Ky)(h1:ltK a b=false)(h2:ltK b c=false):ltK a c=false:=by
 rw[Bool.eq_false_iff] at *;intro h;rcases Zi3 a b with h3 | rfl | h3
 ·exact h1 h3
 ·exact h2 h
 ·exact h2 (Zgr _ _ _ h3 h)
def Zyy:List Ky->Ky->List Ky
 | [],x=>[x]
 | y::ys,x=>if x=y then y::ys else if ltK x y=true then x::y::ys else y::Zyy ys x
def Zq2(l:List Ky):Prop:=l.Pairwise (fun a b=>ltK a b=true)
theorem Zmm(x z:Ky):∀ l,z∈Zyy l x↔z=x\/z∈l
 | []=>by simp[Zyy]
 | y::ys=>by
  unfold Zyy;by_cases h:x=y
  ·rw[if_pos h];subst h;simp
  ·rw[if_neg h]
   by_cases h2:ltK x y=true
   ·rw[if_pos h2];simp
   ·rw[if_neg h2,List.mem_cons,Zmm x z ys,List.mem_cons]
    constructor
    ·rintro (h | h | h)<;>simp[h]
    ·rintro (h | h | h)<;>simp[h]
theorem Zq3(x:Ky):∀ l,Zq2 l->Zq2 (Zyy l x)
 | [],_=>by simp[Zyy,Zq2]
 | y::ys,h=>by
  unfold Zyy;have h0:=List.pairwise_cons.1 h;by_cases h1:x=y
  ·rw[if_pos h1];exact h
  ·rw[if_neg h1]
   by_cases h2:ltK x y=true
   ·rw[if_pos h2]
    exact List.pairwise_cons.2 ⟨fun z hz=>by
     rcases List.mem_cons.1 hz with rfl | hz
     ·exact h2
     ·exact Zgr _ _ _ h2 (h0.1 z hz),h⟩
   ·rw[if_neg h2]
    refine List.pairwise_cons.2 ⟨fun z hz=>?_,Zq3 x ys h0.2⟩;rcases (Zmm x z ys).1 hz with rfl | hz
    ·rcases Zi3 z y with h3 | h3 | h3
     ·exact absurd h3 h2
     ·exact absurd h3 h1
     ·exact h3
    ·exact h0.1 z hz
theorem Z24{l l':List Ky}(h:Zq2 l)(h':Zq2 l')(hm:∀ x,x∈l↔x∈l'):l=l':=by
 have nd:∀ {m:List Ky},Zq2 m->m.Nodup:=fun hm=>hm.imp (fun {a b} hab e=>by rw[e,Zfw] at hab;cases hab)
 have hp:l.Perm l':=(List.perm_ext_iff_of_nodup (nd h) (nd h')).2 hm;refine List.Perm.eq_of_pairwise (le:=fun a b=>ltK a b=true) (fun a b _ _ h1 h2=>?_) h h' hp;have:=Zgr _ _ _ h1 h2;rw[Zfw] at this;cases this
mutual
def Zdy:Prd->List Ky
 | .mk k l r c ks=>(if k=0 then [⟨l,r,c⟩] else [])++Zcc ks
def Zcc:List Prd->List Ky
 | []=>[]
 | p::ps=>Zdy p++Zcc ps
end
theorem Znp(a b:List Prd):Zcc (a++b)=Zcc a++Zcc b:=by
 induction a with
 | nil=>rfl
 | cons p ps ih=>simp only[List.cons_append,Zcc,ih,List.append_assoc]
theorem Zi4(x:Ky):∀ ks,x∈Zcc ks↔∃ q∈ks,x∈Zdy q
 | []=>by simp[Zcc]
 | p::ps=>by simp[Zcc,Zi4 x ps]
mutual
theorem Zi5:∀ p:Prd,(Zdy p).length<=Zb0 p
 | .mk k l r c ks=>by
  unfold Zdy Zb0;have:=Zi6 ks;rw[List.length_append];split<;>simp<;>omega
theorem Zi6:∀ ks:List Prd,(Zcc ks).length<=Zb2 ks
 | []=>by simp[Zcc,Zb2]
 | p::ps=>by
  have:=Zi5 p;have:=Zi6 ps;unfold Zcc Zb2;rw[List.length_append];omega
end
def Zc7(p:Prd):List Ky:=(Zdy p).foldl Zyy []
theorem Zi7(x:Ky):∀ (l acc:List Ky),x∈l.foldl Zyy acc↔x∈acc\/x∈l
 | [],acc=>by simp
 | y::ys,acc=>by
  rw[List.foldl_cons,Zi7 x ys,Zmm,List.mem_cons];constructor
  ·rintro ((h | h) | h)<;>simp[h]
  ·rintro (h | h | h)<;>simp[h]
theorem Znq:∀ (l acc:List Ky),Zq2 acc->Zq2 (l.foldl Zyy acc)
 | [],acc,h=>h
 | y::ys,acc,h=>Znq ys _ (Zq3 y acc h)
theorem Zhk(p:Prd)(x:Ky):x∈Zc7 p↔x∈Zdy p:=by unfold Zc7;rw[Zi7];simp
theorem Zlk(p:Prd):Zq2 (Zc7 p):=Znq _ _ .nil
end
section
def Zar{α:Type}(f:Nat->α)(k:Nat)(v:α):Nat->α:=fun i=>if i=k then v else f i
theorem Zag{α:Type}(f:Nat->α)(k:Nat)(v:α):Zar f k v k=v:=by unfold Zar;rw[if_pos rfl]
theorem Zaf{α:Type}(f:Nat->α)(k:Nat)(v:α){i:Nat}(h:i≠k):Zar f k v i=f i:=by unfold Zar;rw[if_neg h]
structure Plc where
 g:Nat->List Nat
 a:Nat->Int
 t:Nat->Bool
 r:List Nat
def Znl(rec:Nat->Plc->Bool×Plc)(m u:Nat):List Nat->Nat->Plc->Bool×Plc
 | [],_,s=>(false,s)
 | o::os,i,s =>
  match rec o s with
  | (true,s2)=>(true,{ s2 with g:=Zar s2.g m ((s2.g m).set i u),a:=Zar s2.a u (m:Int) })
  | (false,s2)=>Znl rec m u os (i+1) s2
def Z25(can:Nat->Nat->Bool)(cap:Nat->Nat)(rec:Nat->Plc->Bool×Plc)(u m:Nat)(s:Plc):Option (Bool×Plc) :=
 if (!can u m||s.t m)=true then none else
 let s1:Plc:={ s with t:=Zar s.t m true }
 if (s.g m).length<cap m then some (true,{ s1 with g:=Zar s.g m (s.g m++[u]),a:=Zar s.a u (m:Int) })
 else some (Znl rec m u (s.g m) 0 s1)
def Zeq(can:Nat->Nat->Bool)(cap:Nat->Nat)(rec:Nat->Plc->Bool×Plc)(u:Nat):List Nat->Plc->Bool×Plc
 | [],s=>(false,s)
 | m::ms,s =>
  match Z25 can cap rec u m s with
  | none=>Zeq can cap rec u ms s
  | some (true,s2)=>(true,s2)
  | some (false,s2)=>Zeq can cap rec u ms s2
def Zfm(can:Nat->Nat->Bool)(cap:Nat->Nat)(M:Nat):Nat->Nat->Plc->Bool×Plc
 | 0,u,s=>Zeq can cap (fun _ s=>(false,s)) u (List.range M) { s with r:=s.r++[u] }
 | f+1,u,s=>Zeq can cap (Zfm can cap M f) u (List.range M) { s with r:=s.r++[u] }
structure PlcOk (can:Nat->Nat->Bool) (cap:Nat->Nat) (M:Nat) (W:Nat->Prop) (s:Plc):Prop where
 few:∀ m,(s.g m).length<=cap m
 own:∀ m u,u∈s.g m->m<M/\can u m=true/\W u/\s.a u=(m:Int)
 nodup:∀ m,(s.g m).Nodup
 told:∀ u m,W u->s.a u=((m:Nat):Int)->u∈s.g m
structure PlcPre (can:Nat->Nat->Bool) (cap:Nat->Nat) (M:Nat) (W:Nat->Prop) (s:Plc):Prop extends PlcOk can cap M W s where
 tried:∀ v,v∈s.r->∀ m,v∈s.g m->s.t m=true
 reach:s.r.Nodup
structure Stuck (can:Nat->Nat->Bool) (cap:Nat->Nat) (M:Nat) (X:Nat->Prop) (s s':Plc):Prop where
 g:s'.g=s.g
 a:s'.a=s.a
 more:∀ m,s.t m=true->s'.t m=true
 old:s.r <+: s'.r
 full:∀ m,s'.t m=true->s.t m=false->cap m<=(s.g m).length/\m<M/\∀ u,u∈s.g m->u∈s'.r
 shut:∀ u,u∈s'.r->u ∉ s.r->∀ m,m<M->can u m=true->s'.t m=true
 newr:∀ v,v∈s'.r->v ∉ s.r->X v\/∃ m,s.t m=false/\s'.t m=true/\v∈s.g m
 reach:s'.r.Nodup
structure Gave (can:Nat->Nat->Bool) (cap:Nat->Nat) (M:Nat) (W:Nat->Prop) (u:Nat) (s s':Plc):Prop where
 kept:∀ m,s.t m=true->s'.g m=s.g m
 few:∀ m,(s'.g m).length<=cap m
 nodup:∀ m,(s'.g m).Nodup
 own:∀ m v,s.t m=false->v∈s'.g m->m<M/\can v m=true/\W v/\s'.a v=(m:Int)
 same:∀ m v,s.t m=true->v∈s.g m->v≠u->s'.a v=s.a v
 told:∀ v m,W v->s'.a v=((m:Nat):Int)->v∈s'.g m
 this:∃ m:Nat,s.t m=false/\s'.a u=(m:Int)
 has:∀ v,v≠u->(0<=s'.a v↔0<=s.a v)
 else_:∀ v,¬ W v->s'.a v=s.a v
section
variable {can:Nat->Nat->Bool} {cap:Nat->Nat} {M:Nat} {W:Nat->Prop}
theorem Stuck.refl{X:Nat->Prop}(s:Plc)(h:s.r.Nodup):Stuck can cap M X s s :=
 ⟨rfl,rfl,fun _ h=>h,List.prefix_refl _,fun m h h'=>(by rw[h] at h';cases h'),fun u h h'=>absurd h h',fun u h h'=>absurd h h',h⟩
theorem Stuck.trans{X Y Z:Nat->Prop}{s s1 s2:Plc}(h:Stuck can cap M X s s1)(h':Stuck can cap M Y s1 s2)(hX:∀ v,X v->Z v\/∃ m,s.t m=false/\s2.t m=true/\v∈s.g m)(hY:∀ v,Y v->Z v\/∃ m,s.t m=false/\s2.t m=true/\v∈s.g m):Stuck can cap M Z s s2:=by
 refine⟨h'.g.trans h.g,h'.a.trans h.a,fun m hm=>h'.more m (h.more m hm),h.old.trans h'.old,fun m h1 h2=>?_,fun u h1 h2 m hm hc=>?_,fun v h1 h2=>?_,h'.reach⟩
 ·by_cases e:s1.t m=true
  ·obtain⟨a,b,c⟩:=h.full m e h2
   exact⟨a,b,fun u hu=>h'.old.subset (c u hu)⟩
  ·obtain⟨a,b,c⟩:=h'.full m h1 (by simpa using e)
   rw[h.g] at a c;exact⟨a,b,c⟩
 ·by_cases e:u∈s1.r
  ·exact h'.more m (h.shut u e h2 m hm hc)
  ·exact h'.shut u h1 e m hm hc
 ·by_cases e:v∈s1.r
  ·rcases h.newr v e h2 with h3 | ⟨m,h3,h4,h5⟩
   ·exact hX v h3
   ·exact .inr ⟨m,h3,h'.more m h4,h5⟩
  ·rcases h'.newr v h1 e with h3 | ⟨m,h3,h4,h5⟩
   ·exact hY v h3
   ·rw[h.g] at h5
    have h6:s.t m=false:=by
     cases hm:s.t m with
     | false=>rfl
     | true=>rw[h.more m hm] at h3;cases h3
    exact .inr ⟨m,h6,h4,h5⟩
theorem PlcOk.one{s:Plc}(h:PlcOk can cap M W s){v m m':Nat}(h1:v∈s.g m)(h2:v∈s.g m'):m=m':=by
 have a:=(h.own m v h1).2.2.2;have b:=(h.own m' v h2).2.2.2;rw[a] at b;exact Int.ofNat.inj b
theorem PlcPre.after{X:Nat->Prop}{s s':Plc}(h:PlcPre can cap M W s)(hs:Stuck can cap M X s s')(hX:∀ v,X v->∀ m,v∈s.g m->s'.t m=true):PlcPre can cap M W s':=by
 refine⟨⟨fun m=>by rw[hs.g];exact h.few m,fun m u hu=>?_,fun m=>by rw[hs.g];exact h.nodup m,fun u m hu ha=>?_⟩,fun v hv m hm=>?_,hs.reach⟩
 ·rw[hs.g] at hu
  rw[hs.a];exact h.own m u hu
 ·rw[hs.a] at ha
  rw[hs.g];exact h.told u m hu ha
 ·rw[hs.g] at hm
  by_cases e:v∈s.r
  ·exact hs.more m (h.tried v e m hm)
  ·rcases hs.newr v hv e with h1 | ⟨m',h1,h2,h3⟩
   ·exact hX v h1 m hm
   ·rw[h.toPlcOk.one hm h3];exact h2
def Zk4(M:Nat)(s:Plc):Nat:=((List.range M).filter (fun m=>!s.t m)).length
theorem Zuy{s s':Plc}(h:∀ m,s.t m=true->s'.t m=true):Zk4 M s'<=Zk4 M s:=by
 unfold Zk4;rw[<- List.countP_eq_length_filter,<- List.countP_eq_length_filter]
 exact List.countP_mono_left (fun m _ hm=>by
  cases e:s.t m with
  | false=>rfl
  | true=>rw[h m e] at hm;exact hm)
theorem Znr{p q:Nat->Bool}{m:Nat}(hq:q m=true)(hp:p m=false)(h:∀ i,p i=true->q i=true):∀ l:List Nat,m∈l->l.countP p<l.countP q
 | [],hm=>by simp at hm
 | x::l,hm=>by
  have hle:l.countP p<=l.countP q:=List.countP_mono_left (fun i _ hi=>h i hi);rw[List.countP_cons,List.countP_cons];by_cases e:x=m
  ·subst e
   rw[hq,hp];simp;omega
  ·have:=Znr hq hp h l (by rcases List.mem_cons.1 hm with h1 | h1;exact absurd h1.symm e;exact h1)
   by_cases hx:p x=true
   ·rw[hx,h x hx];simp;omega
   ·rw[if_neg hx];split<;>omega
theorem Zuz{s s':Plc}(h:∀ m,s.t m=true->s'.t m=true){m:Nat}(hm:m<M)(h1:s.t m=false)(h2:s'.t m=true):Zk4 M s'<Zk4 M s:=by
 unfold Zk4;rw[<- List.countP_eq_length_filter,<- List.countP_eq_length_filter]
 exact Znr (m:=m) (by rw[h1];rfl) (by rw[h2];rfl) (fun i hi=>by
  cases e:s.t i with
  | false=>rfl
  | true=>rw[h i e] at hi;exact hi) _ (List.mem_range.2 hm)
theorem Zst{l:List Nat}(h:l.Nodup){u:Nat}(hu:u ∉ l)(i:Nat):(l.set i u).Nodup:=by
 induction l generalizing i with
 | nil=>simp
 | cons x l ih =>
  rw[List.nodup_cons] at h
  cases i with
  | zero =>
   rw[List.set_cons_zero,List.nodup_cons];exact⟨fun h'=>hu (List.mem_cons_of_mem _ h'),h.2⟩
  | succ i =>
   rw[List.set_cons_succ,List.nodup_cons];refine⟨fun h'=>?_,ih h.2 (fun h'=>hu (List.mem_cons_of_mem _ h')) i⟩;rcases List.mem_or_eq_of_mem_set h' with h1 | h1
   ·exact h.1 h1
   ·exact hu (by rw[h1];exact List.mem_cons_self ..)
theorem Zmn{l:List Nat}{i v u o:Nat}(ho:l[i]?=some o)(hv:v∈l)(hne:v≠o):v∈l.set i u:=by
 obtain⟨j,hj⟩:=List.mem_iff_getElem?.1 hv
 have hji:i≠j:=fun e=>by
  subst e;rw[ho] at hj;exact hne (Option.some.inj hj).symm
 exact List.mem_iff_getElem?.2 ⟨j,by rw[List.getElem?_set_ne hji];exact hj⟩
theorem Zpo{l:List Nat}(hn:l.Nodup){i v u o:Nat}(ho:l[i]?=some o)(hv:v∈l.set i u):v=u\/(v∈l/\v≠o):=by
 obtain⟨j,hj⟩:=List.mem_iff_getElem?.1 hv;rw[List.getElem?_set] at hj;by_cases e:i=j
 ·rw[if_pos e] at hj
  split at hj
  ·exact .inl (Option.some.inj hj).symm
  ·cases hj
 ·rw[if_neg e] at hj
  refine .inr ⟨List.mem_iff_getElem?.2 ⟨j,hj⟩,fun h=>?_⟩;subst h;have h1:=(List.getElem?_eq_some_iff.1 ho).1;exact e ((List.getElem?_inj h1 hn).1 (ho.trans hj.symm))
def Zgb(can:Nat->Nat->Bool)(cap:Nat->Nat)(M:Nat)(W:Nat->Prop)(u:Nat)(s:Plc)(x:Bool×Plc):Prop :=
 match x with
 | (false,s')=>Stuck can cap M (· = u) s s'/\u∈s'.r
 | (true,s')=>Gave can cap M W u s s'
theorem Gave.moved {u m o i:Nat} {s sj s2:Plc} (h:PlcPre can cap M W s) (hW:W u) (hh:∀ m,u∈s.g m->s.t m=true) (hm:m<M) (hc:can u m=true) (ht:s.t m=false)
  (hg:sj.g=s.g) (ha:sj.a=s.a) (hmore:∀ m,s.t m=true->sj.t m=true) (htj:sj.t m=true) (ho:(s.g m)[i]?=some o) (hgv:Gave can cap M W o sj s2) :
  Gave can cap M W u s { s2 with g:=Zar s2.g m ((s2.g m).set i u),a:=Zar s2.a u (m:Int) }:=by
 have hom:o∈s.g m:=List.mem_of_getElem? ho
 have hum:u ∉ s.g m:=fun h'=>by rw[hh m h'] at ht;cases ht
 have huo:u≠o:=fun e=>hum (by rw[e];exact hom)
 have hgm:s2.g m=s.g m:=by rw[hgv.kept m htj,hg]
 have hao:s.a o=(m:Int):=(h.own m o hom).2.2.2;refine⟨fun m' h1=>?_,fun m'=>?_,fun m'=>?_,fun m' v h1 h2=>?_,fun m' v h1 h2 h3=>?_,fun v m' h1 h2=>?_,⟨m,ht,Zag _ _ _⟩,fun v h1=>?_,fun v h1=>?_⟩
 ·have hne:m'≠m:=fun e=>by rw[e,ht] at h1;cases h1
  show Zar s2.g m _ m'=_;rw[Zaf _ _ _ hne,hgv.kept m' (hmore m' h1),hg]
 ·show(Zar s2.g m _ m').length<=_
  by_cases e:m'=m
  ·subst e;rw[Zag,List.length_set];exact hgv.few _
  ·rw[Zaf _ _ _ e];exact hgv.few _
 ·show(Zar s2.g m _ m').Nodup
  by_cases e:m'=m
  ·subst e;rw[Zag,hgm];exact Zst (h.nodup _) hum i
  ·rw[Zaf _ _ _ e];exact hgv.nodup _
 ·change v∈Zar s2.g m _ m' at h2
  show _/\_/\_/\Zar s2.a u _ v=_;by_cases e:m'=m
  ·subst e
   rw[Zag,hgm] at h2;rcases Zpo (h.nodup _) ho h2 with h3 | ⟨h3,h4⟩
   ·subst h3;exact⟨hm,hc,hW,Zag _ _ _⟩
   ·obtain⟨b1,b2,b3,b4⟩:=h.own _ v h3
    have hvu:v≠u:=fun e=>hum (by rw[<- e];exact h3)
    rw[Zaf _ _ _ hvu,hgv.same _ v htj (by rw[hg];exact h3) h4,ha];exact⟨b1,b2,b3,b4⟩
  ·rw[Zaf _ _ _ e] at h2
   cases hj:sj.t m' with
   | true =>
    rw[hgv.kept m' hj,hg] at h2;obtain⟨b1,b2,b3,b4⟩:=h.own _ v h2
    have hvo:v≠o:=fun e'=>e (h.toPlcOk.one h2 (by rw[e'];exact hom))
    have hvu:v≠u:=fun e'=>by rw[hh m' (by rw[<- e'];exact h2)] at h1;cases h1
    rw[Zaf _ _ _ hvu,hgv.same _ v hj (by rw[hg];exact h2) hvo,ha];exact⟨b1,b2,b3,b4⟩
   | false =>
    obtain⟨b1,b2,b3,b4⟩:=hgv.own m' v hj h2
    have hvu:v≠u:=fun e'=>by
     subst e';have h5:=(hgv.has v huo).1 (by rw[b4];omega);rw[ha] at h5;obtain⟨m0,hm0⟩:∃ m0:Nat,s.a v=(m0:Int):=⟨(s.a v).toNat,by omega⟩;have h6:=h.told v m0 hW hm0;have h7:=hmore m0 (hh m0 h6);have h8:=hgv.same m0 v h7 (by rw[hg];exact h6) huo;rw[ha,hm0,b4] at h8;rw[<- Int.ofNat.inj h8,hj] at h7;cases h7
    rw[Zaf _ _ _ hvu];exact⟨b1,b2,b3,b4⟩
 ·show Zar s2.a u _ v=_
  have hne:m'≠m:=fun e=>by rw[e,ht] at h1;cases h1
  have hvo:v≠o:=fun e'=>hne (h.toPlcOk.one h2 (by rw[e'];exact hom))
  rw[Zaf _ _ _ h3,hgv.same m' v (hmore m' h1) (by rw[hg];exact h2) hvo,ha]
 ·change Zar s2.a u _ v=_ at h2
  show v∈Zar s2.g m _ m';by_cases e:v=u
  ·subst e
   rw[Zag] at h2;rw[<- Int.ofNat.inj h2,Zag,hgm];exact List.mem_iff_getElem?.2 ⟨i,List.getElem?_set_self (List.getElem?_eq_some_iff.1 ho).1⟩
  ·rw[Zaf _ _ _ e] at h2
   have h3:=hgv.told v m' h1 h2;by_cases e2:m'=m
   ·subst e2
    rw[Zag];refine Zmn (o:=o) (by rw[hgm];exact ho) h3 (fun e3=>?_);subst e3;obtain⟨m1,h4,h5⟩:=hgv.this;rw[h5] at h2;rw[Int.ofNat.inj h2,htj] at h4;cases h4
   ·rw[Zaf _ _ _ e2];exact h3
 ·show 0<=Zar s2.a u _ v↔_
  rw[Zaf _ _ _ h1];by_cases e:v=o
  ·subst e
   obtain⟨m1,h4,h5⟩:=hgv.this;rw[h5,hao];exact⟨fun _=>by omega,fun _=>by omega⟩
  ·rw[hgv.has v e,ha]
 ·show Zar s2.a u _ v=_
  have hvu:v≠u:=fun e=>h1 (by rw[e];exact hW)
  rw[Zaf _ _ _ hvu,hgv.else_ v h1,ha]
theorem Gave.room {u m:Nat} {s sj:Plc} (h:PlcPre can cap M W s) (hW:W u) (hh:∀ m,u∈s.g m->s.t m=true) (hm:m<M) (hc:can u m=true) (ht:s.t m=false)
  (hg:sj.g=s.g) (ha:sj.a=s.a) (hl:(s.g m).length<cap m) :
  Gave can cap M W u s { sj with g:=Zar sj.g m (sj.g m++[u]),a:=Zar sj.a u (m:Int) }:=by
 have hum:u ∉ s.g m:=fun h'=>by rw[hh m h'] at ht;cases ht
 refine⟨fun m' h1=>?_,fun m'=>?_,fun m'=>?_,fun m' v h1 h2=>?_,fun m' v h1 h2 h3=>?_,fun v m' h1 h2=>?_,⟨m,ht,Zag _ _ _⟩,fun v h1=>?_,fun v h1=>?_⟩
 ·have hne:m'≠m:=fun e=>by rw[e,ht] at h1;cases h1
  show Zar sj.g m _ m'=_;rw[Zaf _ _ _ hne,hg]
 ·show(Zar sj.g m _ m').length<=_
  by_cases e:m'=m
  ·subst e;rw[Zag,hg,List.length_append];exact hl
  ·rw[Zaf _ _ _ e,hg];exact h.few _
 ·show(Zar sj.g m _ m').Nodup
  by_cases e:m'=m
  ·subst e
   rw[Zag,hg,List.nodup_append];exact⟨h.nodup _,by simp,fun a ha b hb=>by rw[List.mem_singleton.1 hb];exact fun e=>hum (by rw[<- e];exact ha)⟩
  ·rw[Zaf _ _ _ e,hg];exact h.nodup _
 ·change v∈Zar sj.g m _ m' at h2
  show _/\_/\_/\Zar sj.a u _ v=_;by_cases hvu:v=u
  ·subst hvu
   by_cases e:m'=m
   ·subst e;exact⟨hm,hc,hW,Zag _ _ _⟩
   ·rw[Zaf _ _ _ e,hg] at h2
    rw[hh m' h2] at h1;cases h1
  ·rw[Zaf _ _ _ hvu,ha]
   by_cases e:m'=m
   ·subst e
    rw[Zag,hg] at h2;rcases List.mem_append.1 h2 with h3 | h3
    ·exact h.own _ v h3
    ·exact absurd (List.mem_singleton.1 h3) hvu
   ·rw[Zaf _ _ _ e,hg] at h2
    exact h.own _ v h2
 ·show Zar sj.a u _ v=_
  rw[Zaf _ _ _ h3,ha]
 ·change Zar sj.a u _ v=_ at h2
  show v∈Zar sj.g m _ m';by_cases e:v=u
  ·subst e
   rw[Zag] at h2;rw[<- Int.ofNat.inj h2,Zag];simp
  ·rw[Zaf _ _ _ e,ha] at h2
   have h3:=h.told v m' h1 h2;by_cases e2:m'=m
   ·subst e2;rw[Zag,hg];exact List.mem_append_left _ h3
   ·rw[Zaf _ _ _ e2,hg];exact h3
 ·show 0<=Zar sj.a u _ v↔_
  rw[Zaf _ _ _ h1,ha]
 ·show Zar sj.a u _ v=_
  have hvu:v≠u:=fun e=>h1 (by rw[e];exact hW)
  rw[Zaf _ _ _ hvu,ha]
structure PlcCall (can:Nat->Nat->Bool) (cap:Nat->Nat) (M:Nat) (W:Nat->Prop) (u:Nat) (s:Plc):Prop extends PlcPre can cap M W s where
 win:W u
 fresh:u ∉ s.r
 held:∀ m,u∈s.g m->s.t m=true
theorem Z26 {n:Nat} {rec:Nat->Plc->Bool×Plc} (hrec:∀ u s,PlcCall can cap M W u s->Zk4 M s<n->Zgb can cap M W u s (rec u s)) {u m:Nat} {s s1:Plc} (h:PlcPre can cap M W s) (hW:W u) (hh:∀ m,u∈s.g m->s.t m=true) (hm:m<M) (hc:can u m=true) (ht:s.t m=false)
  (hs1:s1={ s with t:=Zar s.t m true }) (hn:Zk4 M s<=n):∀ (os:List Nat) (i:Nat) (sj:Plc),(s.g m).drop i=os->Stuck can cap M (fun v=>v∈(s.g m).take i) s1 sj->(∀ v,v∈(s.g m).take i->v∈sj.r) ->
  match Znl rec m u os i sj with
  | (false,s')=>Stuck can cap M (fun v=>v∈s.g m) s1 s'/\∀ v,v∈s.g m->v∈s'.r
  | (true,s')=>Gave can cap M W u s s':=by
 intro os
 induction os with
 | nil =>
  intro i sj hd hst hin;have hl:(s.g m).take i=s.g m:=List.take_of_length_le (by have:=congrArg List.length hd;simp at this;omega);rw[hl] at hst hin;exact⟨hst,hin⟩
 | cons o os ih =>
  intro i sj hd hst hin
  have hlen:i<(s.g m).length:=by
   have:=congrArg List.length hd;simp at this;omega
  rw[List.drop_eq_getElem_cons hlen] at hd;obtain⟨ho,hd2⟩:=List.cons.inj hd
  have ho2:(s.g m)[i]?=some o:=by rw[List.getElem?_eq_getElem hlen,ho]
  have hom:o∈s.g m:=List.mem_of_getElem? ho2
  have hg1:s1.g=s.g:=by rw[hs1]
  have ha1:s1.a=s.a:=by rw[hs1]
  have ht1:s1.t m=true:=by rw[hs1];exact Zag _ _ _
  have hm1:∀ m',s.t m'=true->s1.t m'=true:=fun m' h1=>by
   rw[hs1];show Zar s.t m true m'=true;unfold Zar;split
   ·rfl
   ·exact h1
  have hP1:PlcPre can cap M W s1:=by
   refine⟨⟨fun m=>by rw[hg1];exact h.few m,fun m u hu=>by rw[hg1] at hu;rw[ha1];exact h.own m u hu,fun m=>by rw[hg1];exact h.nodup m,fun u m hu ha=>by rw[ha1] at ha;rw[hg1];exact h.told u m hu ha⟩,fun v hv m' hm'=>?_,by rw[hs1];exact h.reach⟩;rw[hg1] at hm'
   have hv:v∈s.r:=by rw[hs1] at hv;exact hv
   exact hm1 m' (h.tried v hv m' hm')
  have hgj:sj.g=s.g:=hst.g.trans hg1;have haj:sj.a=s.a:=hst.a.trans ha1;have htj:sj.t m=true:=hst.more m ht1
  have hPj:PlcPre can cap M W sj:=hP1.after hst (fun v hv m' hm'=>by
   rw[hg1] at hm'
   rw[h.toPlcOk.one hm' (List.mem_of_mem_take hv)];exact htj)
  have hfr:o ∉ sj.r:=fun hr=>by
   by_cases e:o∈s1.r
   ·have:=h.tried o (by rw[hs1] at e;exact e) m hom
    rw[ht] at this;cases this
   ·rcases hst.newr o hr e with h1 | ⟨m',h1,h2,h3⟩
    ·obtain⟨j,hj⟩:=List.mem_iff_getElem?.1 h1
     have hj2:j<i:=by
      have:=(List.getElem?_eq_some_iff.1 hj).1;rw[List.length_take] at this;omega
     rw[List.getElem?_take_of_lt hj2] at hj;have:=(List.getElem?_inj (by omega) (h.nodup m)).1 (hj.trans ho2.symm);omega
    ·rw[hg1] at h3
     rw[<- h.toPlcOk.one hom h3,ht1] at h1;cases h1
  have hcall:PlcCall can cap M W o sj:=⟨hPj,(h.own m o hom).2.2.1,hfr,fun m' hm'=>by rw[hgj] at hm';rw[h.toPlcOk.one hm' hom];exact htj⟩;have hu:Zk4 M sj<n:=Nat.lt_of_lt_of_le (Zuz (s:=s) (fun m' h1=>hst.more m' (hm1 m' h1)) hm ht htj) hn;have hpost:=hrec o sj hcall hu;unfold Znl
  cases hr:rec o sj with
  | mk b s2 =>
   rw[hr] at hpost
   cases b with
   | true=>exact Gave.moved h hW hh hm hc ht hgj haj (fun m' h1=>hst.more m' (hm1 m' h1)) htj ho2 hpost
   | false =>
    obtain⟨hst2,hor⟩:=hpost
    have hto:(s.g m).take (i+1)=(s.g m).take i++[o]:=by rw[List.take_add_one,ho2];rfl
    refine ih (i+1) s2 hd2 (hst.trans hst2 (fun v hv=>.inl (by rw[hto];exact List.mem_append_left _ hv)) (fun v hv=>.inl (by rw[hto,hv];simp))) (fun v hv=>?_);rw[hto] at hv;rcases List.mem_append.1 hv with h1 | h1
    ·exact hst2.old.subset (hin v h1)
    ·rw[List.mem_singleton.1 h1];exact hor
theorem Z1p{n:Nat}{rec:Nat->Plc->Bool×Plc}(hrec:∀ u s,PlcCall can cap M W u s->Zk4 M s<n->Zgb can cap M W u s (rec u s)){u:Nat}{s0:Plc}(h:PlcPre can cap M W s0)(hW:W u)(hh:∀ m,u∈s0.g m->s0.t m=true)(hn:Zk4 M s0<=n) :
  ∀ (ms:List Nat) (k:Nat) (s:Plc),(List.range M).drop k=ms->Stuck can cap M (fun _=>False) s0 s->(∀ m,m<k->can u m=true->s.t m=true) ->
  match Zeq can cap rec u ms s with
  | (false,s')=>Stuck can cap M (fun _=>False) s0 s'/\∀ m,m<M->can u m=true->s'.t m=true
  | (true,s')=>Gave can cap M W u s0 s':=by
 intro ms
 induction ms with
 | nil =>
  intro k s hd hst hdn;refine⟨hst,fun m hm hc=>hdn m ?_ hc⟩;have:=congrArg List.length hd;simp at this;omega
 | cons m ms ih =>
  intro k s hd hst hdn
  have hlen:k<(List.range M).length:=by
   have:=congrArg List.length hd;simp at this;simp;omega
  rw[List.drop_eq_getElem_cons hlen] at hd;obtain⟨hm,hd2⟩:=List.cons.inj hd;rw[List.getElem_range] at hm;subst hm;rw[List.length_range] at hlen;have hP:PlcPre can cap M W s:=h.after hst (fun v hv=>hv.elim)
  have hh2:∀ m,u∈s.g m->s.t m=true:=fun m hm=>by rw[hst.g] at hm;exact hst.more m (hh m hm)
  unfold Zeq Z25;by_cases hsk:(!can u k||s.t k)=true
  ·rw[if_pos hsk]
   refine ih (k+1) s hd2 hst (fun m hm hc=>?_);by_cases e:m=k
   ·subst e
    rw[hc] at hsk;simpa using hsk
   ·exact hdn m (by omega) hc
  ·rw[if_neg hsk]
   simp only[Bool.or_eq_true,Bool.not_eq_true',not_or,Bool.not_eq_false,Bool.not_eq_true] at hsk;obtain⟨hc,ht⟩:=hsk
   have ht0:s0.t k=false:=by
    cases e:s0.t k with
    | false=>rfl
    | true=>rw[hst.more k e] at ht;cases ht
   by_cases hl:(s.g k).length<cap k
   ·rw[if_pos hl]
    have hl0:(s0.g k).length<cap k:=by rw[<- hst.g];exact hl
    exact Gave.room (sj:={ s with t:=Zar s.t k true }) h hW hh hlen hc ht0 hst.g hst.a hl0
   ·rw[if_neg hl]
    have hs1:Stuck can cap M (fun v=>v∈(s.g k).take 0) { s with t:=Zar s.t k true } { s with t:=Zar s.t k true }:=Stuck.refl _ hP.reach;have key:=Z26 hrec hP hW hh2 hlen hc ht rfl (Nat.le_trans (Zuy hst.more) hn) (s.g k) 0 { s with t:=Zar s.t k true } rfl hs1 (fun v hv=>by simp at hv)
    cases hr:Znl rec k u (s.g k) 0 { s with t:=Zar s.t k true } with
    | mk b s2 =>
     rw[hr] at key
     cases b with
     | true =>
      refine⟨fun m h1=>?_,key.few,key.nodup,fun m v h1 h2=>?_,fun m v h1 h2 h3=>?_,key.told,?_,fun v h1=>?_,fun v h1=>?_⟩
      ·rw[key.kept m (hst.more m h1),hst.g]
      ·cases e:s.t m with
       | false=>exact key.own m v e h2
       | true =>
        rw[key.kept m e] at h2;obtain⟨b1,b2,b3,b4⟩:=hP.own m v h2
        have hvu:v≠u:=fun e2=>by
         subst e2;rw[hst.g] at h2;rw[hh m h2] at h1;cases h1
        exact⟨b1,b2,b3,by rw[key.same m v e h2 hvu];exact b4⟩
      ·rw[key.same m v (hst.more m h1) (by rw[hst.g];exact h2) h3,hst.a]
      ·obtain⟨m1,h4,h5⟩:=key.this
       refine⟨m1,?_,h5⟩
       cases e:s0.t m1 with
       | false=>rfl
       | true=>rw[hst.more m1 e] at h4;cases h4
      ·rw[key.has v h1,hst.a]
      ·rw[key.else_ v h1,hst.a]
     | false =>
      obtain⟨hst2,hall⟩:=key
      have hmid:Stuck can cap M (fun _=>False) s0 s2:=by
       have hk2:s2.t k=true:=hst2.more k (Zag _ _ _);refine⟨hst2.g.trans hst.g,hst2.a.trans hst.a,fun m hm=>hst2.more m ?_,hst.old.trans hst2.old,fun m h1 h2=>?_,fun v h1 h2 m hm hcv=>?_,fun v h1 h2=>?_,hst2.reach⟩
       ·show Zar s.t k true m=true
        unfold Zar;split
        ·rfl
        ·exact hst.more m hm
       ·by_cases e:m=k
        ·subst e
         exact⟨by rw[<- hst.g];omega,hlen,fun v hv=>hall v (by rw[hst.g];exact hv)⟩
        ·by_cases e2:s.t m=true
         ·obtain⟨a,b,c⟩:=hst.full m e2 h2
          exact⟨a,b,fun v hv=>hst2.old.subset (c v hv)⟩
         ·obtain⟨a,b,c⟩:=hst2.full m h1 (by show Zar s.t k true m=false;rw[Zaf _ _ _ e];simpa using e2)
          have hgs:({ s with t:=Zar s.t k true }:Plc).g=s0.g:=hst.g;rw[hgs] at a c;exact⟨a,b,c⟩
       ·by_cases e:v∈s.r
        ·refine hst2.more m ?_
         show Zar s.t k true m=true;unfold Zar;split
         ·rfl
         ·exact hst.shut v e h2 m hm hcv
        ·exact hst2.shut v h1 e m hm hcv
       ·by_cases e:v∈s.r
        ·rcases hst.newr v e h2 with h3 | ⟨m,h3,h4,h5⟩
         ·exact h3.elim
         ·refine .inr ⟨m,h3,hst2.more m ?_,h5⟩
          show Zar s.t k true m=true;unfold Zar;split
          ·rfl
          ·exact h4
        ·rcases hst2.newr v h1 e with h3 | ⟨m,h3,h4,h5⟩
         ·exact .inr ⟨k,ht0,hk2,by rw[<- hst.g];exact h3⟩
         ·have h5:v∈s.g m:=h5
          rw[hst.g] at h5;refine .inr ⟨m,?_,h4,h5⟩;have h3:Zar s.t k true m=false:=h3
          cases e2:s0.t m with
          | false=>rfl
          | true =>
           have:=hst.more m e2;unfold Zar at h3
           split at h3
           ·cases h3
           ·rw[this] at h3;cases h3
      refine ih (k+1) s2 hd2 hmid (fun m hm hcm=>?_);by_cases e:m=k
      ·subst e;exact hst2.more m (Zag _ _ _)
      ·refine hst2.more m ?_
       show Zar s.t k true m=true;rw[Zaf _ _ _ e];exact hdn m (by omega) hcm
theorem Zmo:∀ (f u:Nat) (s:Plc),PlcCall can cap M W u s->Zk4 M s<=f->Zgb can cap M W u s (Zfm can cap M f u s):=by
 have step:∀ (n:Nat) (rec:Nat->Plc->Bool×Plc),(∀ u s,PlcCall can cap M W u s->Zk4 M s<n->Zgb can cap M W u s (rec u s))->∀ u s,PlcCall can cap M W u s->Zk4 M s<=n->Zgb can cap M W u s (Zeq can cap rec u (List.range M) { s with r:=s.r++[u] }):=by
  intro n rec hrec u s h hn
  have h0:PlcPre can cap M W { s with r:=s.r++[u] }:=by
   refine⟨⟨h.few,h.own,h.nodup,h.told⟩,fun v hv m hm=>?_,?_⟩
   ·rcases List.mem_append.1 hv with h1 | h1
    ·exact h.tried v h1 m hm
    ·rw[List.mem_singleton.1 h1] at hm;exact h.held m hm
   ·show(s.r++[u]).Nodup
    rw[List.nodup_append];exact⟨h.reach,by simp,fun a ha b hb=>by rw[List.mem_singleton.1 hb];exact fun e=>h.fresh (by rw[<- e];exact ha)⟩
  have key:=Z1p hrec h0 h.win h.held hn (List.range M) 0 { s with r:=s.r++[u] } rfl (Stuck.refl _ h0.reach) (fun m hm=>absurd hm (Nat.not_lt_zero m));unfold Zgb
  cases hr:Zeq can cap rec u (List.range M) { s with r:=s.r++[u] } with
  | mk b s2 =>
   rw[hr] at key
   cases b with
   | true=>exact⟨key.kept,key.few,key.nodup,key.own,key.same,key.told,key.this,key.has,key.else_⟩
   | false =>
    obtain⟨hst,hsh⟩:=key;have hur:u∈s2.r:=hst.old.subset (by show u∈s.r++[u];simp);refine⟨⟨hst.g,hst.a,hst.more,List.IsPrefix.trans (List.prefix_append _ _) hst.old,hst.full,fun v h1 h2 m hm hc=>?_,fun v h1 h2=>?_,hst.reach⟩,hur⟩
    ·by_cases e:v=u
     ·subst e;exact hsh m hm hc
     ·exact hst.shut v h1 (fun h3=>by
       rcases List.mem_append.1 h3 with h4 | h4
       ·exact h2 h4
       ·exact e (List.mem_singleton.1 h4)) m hm hc
    ·by_cases e:v=u
     ·exact .inl e
     ·rcases hst.newr v h1 (fun h3=>by
       rcases List.mem_append.1 h3 with h4 | h4
       ·exact h2 h4
       ·exact e (List.mem_singleton.1 h4)) with h3 | h3
      ·exact h3.elim
      ·exact .inr h3
 intro f
 induction f with
 | zero=>exact fun u s h hn=>step 0 _ (fun _ _ _ h'=>absurd h' (Nat.not_lt_zero _)) u s h hn
 | succ f ih=>exact fun u s h hn=>step (f+1) _ (fun u' s' h' hn'=>ih u' s' h' (by omega)) u s h hn
end
end
section
structure Tbl where
 U:Nat
 M:Nat
 can:Nat->Nat->Bool
 win:Nat->Nat
 cap:Nat->Nat->Nat
def Z1q(C:Tbl)(set:List Nat)(w:Nat):Nat:=((List.range C.M).map (fun m=>if set.any (fun u=>C.can u m)=true then C.cap m w else 0)).sum
structure Short (C:Tbl) (set:List Nat) (w:Nat):Prop where
 nodup:set.Nodup
 win:∀ u,u∈set->u<C.U/\C.win u=w
 few:Z1q C set w<set.length
theorem Zhl:∀ (l r:List Nat),l.Nodup->(∀ x,x∈l->x∈r)->l.length<=r.length
 | [],_,_,_=>Nat.zero_le _
 | x::l,r,hn,h=>by
  rw[List.nodup_cons] at hn;have hx:=h x (List.mem_cons_self ..);have:=Zhl l (r.erase x) hn.2 (fun y hy=>(List.mem_erase_of_ne (fun e=>hn.1 (by rw[<- e];exact hy))).2 (h y (List.mem_cons_of_mem _ hy)));rw[List.length_erase_of_mem hx] at this;have h0:0<r.length:=List.length_pos_of_mem hx;rw[List.length_cons];omega
theorem Zu0{f g:Nat->Nat}:∀ (l:List Nat),(∀ m,m∈l->f m<=g m)->(l.map f).sum<=(l.map g).sum
 | [],_=>Nat.le_refl _
 | x::l,h=>by
  have h1:=h x (List.mem_cons_self ..);have h2:=Zu0 l (fun m hm=>h m (List.mem_cons_of_mem _ hm));simp only[List.map_cons,List.sum_cons];omega
theorem Zmp(f g:Nat->Nat):∀ (l:List Nat),(l.map (fun m=>f m+g m)).sum=(l.map f).sum+(l.map g).sum
 | []=>rfl
 | x::l=>by
  have:=Zmp f g l;simp only[List.map_cons,List.sum_cons];omega
theorem Zgs:∀ (l:List Nat),(l.map (fun _=>0)).sum=0
 | []=>rfl
 | x::l=>by simp only[List.map_cons,List.sum_cons,Zgs l]
theorem Zq4(x:Nat):∀ n,((List.range n).map (fun m=>if x==m then 1 else 0)).sum=if x<n then 1 else 0
 | 0=>by simp
 | n+1=>by
  rw[List.range_succ,List.map_append,List.sum_append,Zq4 x n];simp only[List.map_cons,List.map_nil,List.sum_cons,List.sum_nil,Nat.add_zero];by_cases h1:x<n
  ·rw[if_pos h1,if_neg (by simp;omega),if_pos (by omega)]
  ·rw[if_neg h1]
   by_cases h2:x=n
   ·rw[if_pos (by simpa using h2),if_pos (by omega)]
   ·rw[if_neg (by simpa using h2),if_neg (by omega)]
theorem Zll(f:Nat->Nat)(n:Nat):∀ l:List Nat,((List.range n).map (fun m=>l.countP (fun u=>f u==m))).sum=l.countP (fun u=>decide (f u<n))
 | []=>by simp only[List.countP_nil];exact Zgs _
 | x::l=>by
  have h:(fun m=>(x::l).countP (fun u=>f u==m))=(fun m=>l.countP (fun u=>f u==m)+if f x==m then 1 else 0):=by
   funext m
   rw[List.countP_cons]
  rw[h,Zmp,Zll f n l,Zq4,List.countP_cons];simp only[decide_eq_true_eq]
structure Mst where
 G:Nat->Nat->List Nat
 a:Nat->Int
def Zy2(C:Tbl)(u:Nat)(s:Mst):Bool×Plc:=Zfm C.can (fun m=>C.cap m (C.win u)) C.M C.M u ⟨s.G (C.win u),s.a,fun _=>false,[]⟩
def Zdz(C:Tbl):Nat->Nat->Mst->Except (List Nat) Mst
 | 0,_,s=>.ok s
 | n+1,u,s =>
  match Zy2 C u s with
  | (true,p)=>Zdz C n (u+1) ⟨Zar s.G (C.win u) p.g,p.a⟩
  | (false,p)=>.error p.r
structure MstOk (C:Tbl) (k:Nat) (s:Mst):Prop where
 ok:∀ w t r,PlcOk C.can (fun m=>C.cap m w) C.M (fun u=>u<C.U/\C.win u=w) ⟨s.G w,s.a,t,r⟩
 done:∀ u,u<k->0<=s.a u
 left:∀ u,k<=u->s.a u<0
theorem Zmq(M:Nat)(g:Nat->List Nat)(a:Nat->Int)(r:List Nat):Zk4 M ⟨g,a,fun _=>false,r⟩<=M:=by
 unfold Zk4;exact Nat.le_trans (List.length_filter_le _ _) (by rw[List.length_range];exact Nat.le_refl _)
theorem MstOk.call{C:Tbl}{k:Nat}{s:Mst}(h:MstOk C k s)(hk:k<C.U):PlcCall C.can (fun m=>C.cap m (C.win k)) C.M (fun u=>u<C.U/\C.win u=C.win k) k ⟨s.G (C.win k),s.a,fun _=>false,[]⟩:=by
 refine⟨⟨h.ok _ _ _,fun v hv=>by simp at hv,List.nodup_nil⟩,⟨hk,rfl⟩,by simp,fun m hm=>?_⟩;have h1:=((h.ok (C.win k) (fun _=>false) []).own m k hm).2.2.2;have h2:=h.left k (Nat.le_refl _);have h1:s.a k=(m:Int):=h1;omega
theorem MstOk.next{C:Tbl}{k:Nat}{s:Mst}(h:MstOk C k s)(hk:k<C.U){p:Plc}(hp:Zy2 C k s=(true,p)):MstOk C (k+1) ⟨Zar s.G (C.win k) p.g,p.a⟩:=by
 have key:=Zmo C.M k _ (h.call hk) (Zmq _ _ _ _);unfold Zy2 at hp;rw[hp] at key;have key:Gave _ _ _ _ _ _ _:=key;refine⟨fun w t r=>?_,fun u hu=>?_,fun u hu=>?_⟩
 ·by_cases e:w=C.win k
  ·subst e
   refine⟨fun m=>?_,fun m u hu=>?_,fun m=>?_,fun u m hu ha=>?_⟩
   ·show(Zar s.G _ p.g _ m).length<=_
    rw[Zag];exact key.few m
   ·change u∈Zar s.G _ p.g _ m at hu
    rw[Zag] at hu;exact key.own m u rfl hu
   ·show(Zar s.G _ p.g _ m).Nodup
    rw[Zag];exact key.nodup m
   ·show u∈Zar s.G _ p.g _ m
    rw[Zag];exact key.told u m hu ha
  ·have hw:=h.ok w t r
   have hne:∀ u,u<C.U/\C.win u=w->p.a u=s.a u:=fun u hu=>key.else_ u (fun h'=>e (hu.2.symm.trans h'.2))
   refine⟨fun m=>?_,fun m u hu=>?_,fun m=>?_,fun u m hu ha=>?_⟩
   ·show(Zar s.G _ p.g w m).length<=_
    rw[Zaf _ _ _ e];exact hw.few m
   ·change u∈Zar s.G _ p.g w m at hu
    rw[Zaf _ _ _ e] at hu;obtain⟨b1,b2,b3,b4⟩:=hw.own m u hu;exact⟨b1,b2,b3,(hne u b3).trans b4⟩
   ·show(Zar s.G _ p.g w m).Nodup
    rw[Zaf _ _ _ e];exact hw.nodup m
   ·show u∈Zar s.G _ p.g w m
    rw[Zaf _ _ _ e];exact hw.told u m hu ((hne u hu).symm.trans ha)
 ·show 0<=p.a u
  by_cases e:u=k
  ·subst e
   obtain⟨m,-,h2⟩:=key.this;rw[h2];omega
  ·exact(key.has u e).2 (h.done u (by omega))
 ·show p.a u<0
  have h1:=h.left u (by omega);have h2:=key.has u (by omega)
  have h3:¬ 0<=s.a u:=by omega
  have h4:¬ 0<=p.a u:=fun h5=>h3 (h2.1 h5)
  omega
theorem MstOk.short{C:Tbl}{k:Nat}{s:Mst}(h:MstOk C k s)(hk:k<C.U){p:Plc}(hp:Zy2 C k s=(false,p)):Short C p.r (C.win k)/\k∈p.r:=by
 have key:=Zmo C.M k _ (h.call hk) (Zmq _ _ _ _);unfold Zy2 at hp;rw[hp] at key;obtain⟨key,hkr⟩:Stuck _ _ _ _ _ _/\_:=key;have hok:=h.ok (C.win k) (fun _=>false) []
 have hmem:∀ v,v∈p.r->v=k\/∃ m,p.t m=true/\v∈s.G (C.win k) m:=fun v hv=>by
  rcases key.newr v hv (by simp) with h1 | ⟨m,-,h2,h3⟩
  ·exact .inl h1
  ·exact .inr ⟨m,h2,h3⟩
 refine⟨⟨key.reach,fun u hu=>?_,?_⟩,hkr⟩
 ·rcases hmem u hu with h1 | ⟨m,h1,h2⟩
  ·subst h1;exact⟨hk,rfl⟩
  ·exact(hok.own m u h2).2.2.1
 ·
  have hlow:=h.left k (Nat.le_refl _)
  let f:Nat->Nat:=fun u=>if s.a u<0 then C.M else(s.a u).toNat
  have h1:=Zll f (C.M+1) p.r;have h2:p.r.countP (fun u=>decide (f u<C.M+1))<=p.r.length:=List.countP_le_length;rw[List.range_succ,List.map_append,List.sum_append] at h1;simp only[List.map_cons,List.map_nil,List.sum_cons,List.sum_nil,Nat.add_zero] at h1;have h3:0<p.r.countP (fun u=>f u==C.M):=List.countP_pos_iff.2 ⟨k,hkr,by show((if s.a k<0 then C.M else _)==C.M)=true;rw[if_pos hlow];simp⟩
  have h4:Z1q C p.r (C.win k)<=((List.range C.M).map (fun m=>p.r.countP (fun u=>f u==m))).sum:=by
   unfold Z1q;refine Zu0 _ (fun m hm=>?_);by_cases e:p.r.any (fun u=>C.can u m)=true
   ·rw[if_pos e]
    obtain⟨u,hu,hc⟩:=List.any_eq_true.1 e;have ht:=key.shut u hu (by simp) m (List.mem_range.1 hm) hc;obtain⟨h5,h6,h7⟩:=key.full m ht rfl;refine Nat.le_trans h5 ?_;rw[List.countP_eq_length_filter];refine Zhl _ _ (hok.nodup m) (fun v hv=>List.mem_filter.2 ⟨h7 v hv,?_⟩);have ha:s.a v=(m:Int):=(hok.own m v hv).2.2.2;show((if s.a v<0 then C.M else(s.a v).toNat)==m)=true;rw[if_neg (by omega),ha];simp
   ·rw[if_neg e];exact Nat.zero_le _
  omega
def Zpp:Mst:=⟨fun _ _=>[],fun _=>-1⟩
theorem Z1r(C:Tbl):MstOk C 0 Zpp :=
 ⟨fun w t r=>⟨fun m=>Nat.zero_le _,fun m u hu=>by simp[Zpp] at hu,fun m=>List.nodup_nil,fun u m hu ha=>by have ha:(-1:Int)=(m:Int):=ha;omega⟩,fun u hu=>absurd hu (Nat.not_lt_zero u),fun u hu=>by show(-1:Int)<0;omega⟩
def Zfn(C:Tbl):Bool:=match Zdz C C.U 0 Zpp with | .ok _=>true | .error _=>false
end
section
section
variable {can:Nat->Nat->Bool} {cap:Nat->Nat} {M:Nat} {W:Nat->Prop}
theorem Zd0(s:Plc)(m:Nat):∀ m',s.t m'=true->Zar s.t m true m'=true:=fun m' h1=>by
 unfold Zar;split
 ·rfl
 ·exact h1
theorem Zy3 {s sj:Plc} {m i o:Nat} (h:PlcPre can cap M W s) (hm:m<M) (ht:s.t m=false)
  (hst:Stuck can cap M (fun v=>v∈(s.g m).take i) { s with t:=Zar s.t m true } sj) (ho2:(s.g m)[i]?=some o):PlcCall can cap M W o sj/\Zk4 M sj<Zk4 M s/\sj.g=s.g/\sj.a=s.a/\sj.t m=true:=by
 have hom:o∈s.g m:=List.mem_of_getElem? ho2;have ht1:Zar s.t m true m=true:=Zag _ _ _;have hm1:=Zd0 s m;have hP1:PlcPre can cap M W { s with t:=Zar s.t m true }:=⟨⟨h.few,h.own,h.nodup,h.told⟩,fun v hv m' hm'=>hm1 m' (h.tried v hv m' hm'),h.reach⟩;have hgj:sj.g=s.g:=hst.g;have haj:sj.a=s.a:=hst.a;have htj:sj.t m=true:=hst.more m ht1
 have hPj:PlcPre can cap M W sj:=hP1.after hst (fun v hv m' hm'=>by
  rw[h.toPlcOk.one hm' (List.mem_of_mem_take hv)];exact htj)
 have hfr:o ∉ sj.r:=fun hr=>by
  by_cases e:o∈s.r
  ·have:=h.tried o e m hom
   rw[ht] at this;cases this
  ·rcases hst.newr o hr e with h1 | ⟨m',h1,h2,h3⟩
   ·obtain⟨j,hj⟩:=List.mem_iff_getElem?.1 h1
    have hj2:j<i:=by
     have:=(List.getElem?_eq_some_iff.1 hj).1;rw[List.length_take] at this;omega
    rw[List.getElem?_take_of_lt hj2] at hj;have hil:=(List.getElem?_eq_some_iff.1 ho2).1;have:=(List.getElem?_inj (by omega) (h.nodup m)).1 (hj.trans ho2.symm);omega
   ·have h3:o∈s.g m':=h3
    have h1:Zar s.t m true m'=false:=h1;rw[<- h.toPlcOk.one hom h3,ht1] at h1;cases h1
 exact⟨⟨hPj,(h.own m o hom).2.2.1,hfr,fun m' hm'=>by rw[hgj] at hm';rw[h.toPlcOk.one hm' hom];exact htj⟩,Zuz (s:=s) (fun m' h1=>hst.more m' (hm1 m' h1)) hm ht htj,hgj,haj,htj⟩
theorem Zy4{s sj s2:Plc}{m i o:Nat}(hst:Stuck can cap M (fun v=>v∈(s.g m).take i) { s with t:=Zar s.t m true } sj)(ho2:(s.g m)[i]?=some o)(hs2:Stuck can cap M (· = o) sj s2) :
  Stuck can cap M (fun v=>v∈(s.g m).take (i+1)) { s with t:=Zar s.t m true } s2:=by
 have hto:(s.g m).take (i+1)=(s.g m).take i++[o]:=by rw[List.take_add_one,ho2];rfl
 exact hst.trans hs2 (fun v hv=>.inl (by rw[hto];exact List.mem_append_left _ hv)) (fun v hv=>.inl (by rw[hto,hv];simp))
theorem Zy5 {s0 s s2:Plc} {k:Nat} (hst:Stuck can cap M (fun _=>False) s0 s) (hk:k<M) (ht:s.t k=false) (hl:¬ (s.g k).length<cap k)
  (hst2:Stuck can cap M (fun v=>v∈s.g k) { s with t:=Zar s.t k true } s2) (hall:∀ v,v∈s.g k->v∈s2.r):Stuck can cap M (fun _=>False) s0 s2:=by
 have ht0:s0.t k=false:=by
  cases e:s0.t k with
  | false=>rfl
  | true=>rw[hst.more k e] at ht;cases ht
 have hk2:s2.t k=true:=hst2.more k (Zag _ _ _);refine⟨hst2.g.trans hst.g,hst2.a.trans hst.a,fun m hm=>hst2.more m (Zd0 s k m (hst.more m hm)),hst.old.trans hst2.old,fun m h1 h2=>?_,fun v h1 h2 m hm hcv=>?_,fun v h1 h2=>?_,hst2.reach⟩
 ·by_cases e:m=k
  ·subst e
   exact⟨by rw[<- hst.g];omega,hk,fun v hv=>hall v (by rw[hst.g];exact hv)⟩
  ·by_cases e2:s.t m=true
   ·obtain⟨a,b,c⟩:=hst.full m e2 h2
    exact⟨a,b,fun v hv=>hst2.old.subset (c v hv)⟩
   ·obtain⟨a,b,c⟩:=hst2.full m h1 (by show Zar s.t k true m=false;rw[Zaf _ _ _ e];simpa using e2)
    have hgs:({ s with t:=Zar s.t k true }:Plc).g=s0.g:=hst.g;rw[hgs] at a c;exact⟨a,b,c⟩
 ·by_cases e:v∈s.r
  ·exact hst2.more m (Zd0 s k m (hst.shut v e h2 m hm hcv))
  ·exact hst2.shut v h1 e m hm hcv
 ·by_cases e:v∈s.r
  ·rcases hst.newr v e h2 with h3 | ⟨m,h3,h4,h5⟩
   ·exact h3.elim
   ·exact .inr ⟨m,h3,hst2.more m (Zd0 s k m h4),h5⟩
  ·rcases hst2.newr v h1 e with h3 | ⟨m,h3,h4,h5⟩
   ·exact .inr ⟨k,ht0,hk2,by rw[<- hst.g];exact h3⟩
   ·have h5:v∈s.g m:=h5
    rw[hst.g] at h5;have h3:Zar s.t k true m=false:=h3;refine .inr ⟨m,?_,h4,h5⟩
    cases e2:s0.t m with
    | false=>rfl
    | true=>rw[Zd0 s k m (hst.more m e2)] at h3;cases h3
theorem PlcPre.enter{s:Plc}{u:Nat}(h:PlcCall can cap M W u s):PlcPre can cap M W { s with r:=s.r++[u] }:=by
 refine⟨⟨h.few,h.own,h.nodup,h.told⟩,fun v hv m hm=>?_,?_⟩
 ·rcases List.mem_append.1 hv with h1 | h1
  ·exact h.tried v h1 m hm
  ·rw[List.mem_singleton.1 h1] at hm;exact h.held m hm
 ·show(s.r++[u]).Nodup
  rw[List.nodup_append];exact⟨h.reach,by simp,fun a ha b hb=>by rw[List.mem_singleton.1 hb];exact fun e=>h.fresh (by rw[<- e];exact ha)⟩
def Zup(can:Nat->Nat->Bool)(cap:Nat->Nat)(M:Nat):Nat->Nat->Plc->Bool×Plc
 | 0=>fun _ s=>(false,s)
 | f+1=>Zfm can cap M f
theorem Zu1(f u:Nat)(s:Plc):Zfm can cap M f u s=Zeq can cap (Zup can cap M f) u (List.range M) { s with r:=s.r++[u] }:=by
 cases f<;>rfl
end
end
section
def Zpq(left:Nat->Nat)(m:Nat):Nat->Nat:=fun k=>if k=m then left m-1 else left k
def Zgc(can:Nat->Nat->Bool)(M:Nat):List Nat->(Nat->Nat)->Nat
 | [],_=>1
 | u::us,left=>((List.range M).map (fun m=>if can u m=true/\0<left m then Zgc can M us (Zpq left m) else 0)).sum
theorem Zb7{f g:Nat->Nat}:∀ (l:List Nat),(∀ m,m∈l->f m=g m)->(l.map f).sum=(l.map g).sum
 | [],_=>rfl
 | x::l,h=>by
  rw[List.map_cons,List.map_cons,List.sum_cons,List.sum_cons,h x (List.mem_cons_self ..),Zb7 l (fun m hm=>h m (List.mem_cons_of_mem _ hm))]
theorem Zb3(f:Nat->Nat)(n:Nat):((List.range (n+1)).map f).sum=((List.range n).map f).sum+f n:=by
 rw[List.range_succ,List.map_append,List.sum_append];simp
theorem Zdv{can:Nat->Nat->Bool}{M:Nat}:∀ (us:List Nat) (l l':Nat->Nat),(∀ m,m<M->l m=l' m)->Zgc can M us l=Zgc can M us l'
 | [],_,_,_=>rfl
 | u::us,l,l',h=>by
  unfold Zgc;refine Zb7 _ (fun m hm=>?_);have hm:=List.mem_range.1 hm;rw[h m hm,Zdv us (Zpq l m) (Zpq l' m) (fun k hk=>by unfold Zpq;split<;>simp_all)]
def Zdi(p:Nat->Bool):List Nat->Nat->(List Nat->Nat)->Nat
 | [],_,f=>f []
 | u::us,room,f=>Zdi p us room (fun r=>f (u::r))+(if p u=true/\0<room then Zdi p us (room-1) f else 0)
theorem Zh6{p:Nat->Bool}:∀ (us:List Nat) (room:Nat) (f g:List Nat->Nat),(∀ r,f r=g r)->Zdi p us room f=Zdi p us room g
 | us,room,f,g,h=>by
  have:f=g:=funext h;rw[this]
theorem Ze3{p:Nat->Bool}:∀ (us:List Nat) (room:Nat),Zdi p us room (fun _=>0)=0
 | [],_=>rfl
 | u::us,room=>by unfold Zdi;rw[Ze3 us,Ze3 us];simp
theorem Zhm{p:Nat->Bool}:∀ (us:List Nat) (room:Nat) (f g:List Nat->Nat),Zdi p us room (fun r=>f r+g r)=Zdi p us room f+Zdi p us room g
 | [],_,_,_=>rfl
 | u::us,room,f,g=>by
  unfold Zdi;rw[Zhm us,Zhm us];split<;>omega
theorem Zlm{p:Nat->Bool}(us:List Nat)(room:Nat)(g:Nat->List Nat->Nat):∀ (l:List Nat),Zdi p us room (fun r=>(l.map (fun m=>g m r)).sum)=(l.map (fun m=>Zdi p us room (g m))).sum
 | []=>by rw[List.map_nil,List.sum_nil];exact Ze3 us room
 | m::l=>by
  rw[List.map_cons,List.sum_cons,<- Zlm us room g l,<- Zhm];exact Zh6 _ _ _ _ (fun r=>by rw[List.map_cons,List.sum_cons])
theorem Zi8(can:Nat->Nat->Bool)(M u:Nat)(us:List Nat)(left:Nat->Nat):Zgc can M (u::us) left=((List.range M).map (fun m=>if can u m=true/\0<left m then Zgc can M us (Zpq left m) else 0)).sum:=rfl
theorem Zi9(p:Nat->Bool)(u:Nat)(us:List Nat)(room:Nat)(f:List Nat->Nat):Zdi p (u::us) room f=Zdi p us room (fun r=>f (u::r))+(if p u=true/\0<room then Zdi p us (room-1) f else 0):=rfl
theorem Zja{can:Nat->Nat->Bool}{M:Nat}:∀ (us:List Nat) (left:Nat->Nat),Zgc can (M+1) us left=Zdi (fun u=>can u M) us (left M) (fun r=>Zgc can M r left)
 | [],_=>rfl
 | u::us,left=>by
  rw[Zi8,Zi9,Zb3]
  congr 1
  ·rw[show(fun r=>Zgc can M (u::r) left)=(fun r=>((List.range M).map (fun m=>(fun m r=>if can u m=true/\0<left m then Zgc can M r (Zpq left m) else 0) m r)).sum) from rfl,Zlm]
   refine Zb7 _ (fun m hm=>?_);have hm:=List.mem_range.1 hm;by_cases e:can u m=true/\0<left m
   ·simp only[if_pos e]
    rw[Zja us (Zpq left m)]
    have:Zpq left m M=left M:=by unfold Zpq;rw[if_neg (by omega)]
    rw[this]
   ·simp only[if_neg e]
    rw[Ze3]
  ·by_cases e:can u M=true/\0<left M
   ·rw[if_pos e,if_pos e,Zja us (Zpq left M)]
    have:Zpq left M M=left M-1:=by unfold Zpq;rw[if_pos rfl]
    rw[this];exact Zh6 _ _ _ _ (fun r=>Zdv r _ _ (fun m hm=>by unfold Zpq;rw[if_neg (by omega)]))
   ·rw[if_neg e,if_neg e]
def Zii:Nat->Nat->Nat
 | 0,_=>0
 | k+1,n=>n%2+Zii k (n/2)
def Zf1(s t:Nat):Bool:=s &&& t==s
theorem Zds{s t:Nat}:Zf1 s t=true↔∀ i,s.testBit i=true->t.testBit i=true:=by
 unfold Zf1;rw[beq_iff_eq];constructor
 ·intro h i hi
  rw[<- h,Nat.testBit_and,Bool.and_eq_true] at hi;exact hi.2
 ·intro h
  apply Nat.eq_of_testBit_eq;intro i;rw[Nat.testBit_and]
  cases hs:s.testBit i with
  | false=>rfl
  | true=>rw[h i hs];rfl
theorem Zfo{s t:Nat}:Zf1 s t=true↔(s%2=1->t%2=1)/\Zf1 (s/2) (t/2)=true:=by
 rw[Zds,Zds];constructor
 ·intro h
  refine⟨fun h1=>?_,fun i hi=>?_⟩
  ·have:=h 0 (by rw[Nat.testBit_zero];simpa using h1)
   rw[Nat.testBit_zero] at this;simpa using this
  ·rw[<- Nat.testBit_succ] at hi ⊢
   exact h _ hi
 ·rintro⟨h0,h1⟩ i hi
  cases i with
  | zero=>rw[Nat.testBit_zero] at hi ⊢;simpa using h0 (by simpa using hi)
  | succ i=>rw[Nat.testBit_succ] at hi ⊢;exact h1 i hi
def Zgd(k can room s t:Nat):Bool:=Zf1 s t&&Zf1 (t ^^^ s) can&&decide (Zii k (t ^^^ s)<=room)
def Znm:List Nat->Nat->List Nat
 | [],_=>[]
 | u::gs,t=>if t%2=1 then u::Znm gs (t/2) else Znm gs (t/2)
theorem Zer(u:Nat)(gs:List Nat)(t:Nat):Znm (u::gs) t=if t%2=1 then u::Znm gs (t/2) else Znm gs (t/2):=rfl
theorem Zns(f:Nat->Nat):∀ n,((List.range (2*n)).map f).sum=((List.range n).map (fun s=>f (2*s)+f (2*s+1))).sum
 | 0=>rfl
 | n+1=>by
  rw[show 2*(n+1)=2*n+1+1 from by omega,Zb3,Zb3,Zb3,Zns f n];omega
theorem Zy6(s t:Nat):(t ^^^ s)/2=(t/2) ^^^ (s/2):=by
 apply Nat.eq_of_testBit_eq;intro i;rw[<- Nat.testBit_succ,Nat.testBit_xor,Nat.testBit_xor,Nat.testBit_succ,Nat.testBit_succ]
theorem Z1s(s t:Nat):(t ^^^ s)%2=(t+s)%2:=by
 have h:(t ^^^ s).testBit 0=((t.testBit 0) ^^ (s.testBit 0)):=Nat.testBit_xor ..;rw[Nat.testBit_zero,Nat.testBit_zero,Nat.testBit_zero] at h;rcases Nat.mod_two_eq_zero_or_one t with h1 | h1<;>rcases Nat.mod_two_eq_zero_or_one s with h2 | h2<;>rcases Nat.mod_two_eq_zero_or_one (t ^^^ s) with h3 | h3<;>simp[h1,h2,h3] at h<;>omega
theorem Zfp{k can room s t:Nat}:Zgd (k+1) can room s t=true↔(s%2=1->t%2=1)/\((s+t)%2=1->can%2=1/\0<room)/\Zgd k (can/2) (room-(s+t)%2) (s/2) (t/2)=true:=by
 unfold Zgd;simp only[Bool.and_eq_true,decide_eq_true_eq];rw[Zfo (s:=s),Zfo (s:=t ^^^ s),show Zii (k+1) (t ^^^ s)=(t ^^^ s)%2+Zii k ((t ^^^ s)/2) from rfl,Zy6,Z1s,Nat.add_comm t s];constructor
 ·rintro⟨⟨⟨h1,h2⟩,⟨h3,h4⟩⟩,h5⟩
  exact⟨h1,fun h=>⟨h3 h,by omega⟩,⟨h2,h4⟩,by omega⟩
 ·rintro⟨h1,h2,⟨h3,h4⟩,h5⟩
  refine⟨⟨⟨h1,h3⟩,⟨fun h=>(h2 h).1,h4⟩⟩,?_⟩;by_cases e:(s+t)%2=1
  ·have:=(h2 e).2;omega
  ·omega
theorem Zmr{p:Nat->Bool}:∀ (gs:List Nat) (can room t:Nat) (F:Nat->Nat) (G:List Nat->Nat),t<2^gs.length->(∀ i,i<gs.length->can.testBit i=p (gs.getD i 0))->(∀ s,s<2^gs.length->F s=G (Znm gs s)) ->
  ((List.range (2^gs.length)).map (fun s=>if Zgd gs.length can room s t=true then F s else 0)).sum=Zdi p (Znm gs t) room G
 | [],can,room,t,F,G,ht,_,hF=>by
  have ht:t<1:=ht
  obtain rfl:t=0:=by omega
  show((if Zgd 0 can room 0 0=true then F 0 else 0)+0)=G []
  have:Zgd 0 can room 0 0=true:=by unfold Zgd Zf1 Zii;simp
  rw[if_pos this,Nat.add_zero];exact hF 0 (by show(0:Nat)<1;omega)
 | u::gs,can,room,t,F,G,ht,hc,hF=>by
  have hL:2^(u::gs).length=2*2^gs.length:=by rw[List.length_cons,Nat.pow_succ];omega
  have hc0:(can%2=1)↔p u=true:=by
   have:=hc 0 (by rw[List.length_cons];omega);rw[Nat.testBit_zero] at this;show can%2=1↔p ((u::gs).getD 0 0)=true;rw[<- this];simp
  have hc1:∀ i,i<gs.length->(can/2).testBit i=p (gs.getD i 0):=fun i hi=>by
   rw[<- Nat.testBit_succ];exact hc (i+1) (by rw[List.length_cons];omega)
  have ht2:t/2<2^gs.length:=by rw[hL] at ht;omega
  have hF0:∀ s,s<2^gs.length->F (2*s)=G (Znm gs s):=fun s hs=>by
   rw[hF (2*s) (by rw[hL];omega)];rw[Zer,if_neg (by omega),show 2*s/2=s from by omega]
  have hF1:∀ s,s<2^gs.length->F (2*s+1)=G (u::Znm gs s):=fun s hs=>by
   rw[hF (2*s+1) (by rw[hL];omega)];rw[Zer,if_pos (by omega),show(2*s+1)/2=s from by omega]
  rw[hL,Zns,Zmp,List.length_cons];by_cases e:t%2=1
  ·have h1:=Zmr gs (can/2) room (t/2) (fun s=>F (2*s+1)) (fun r=>G (u::r)) ht2 hc1 hF1
   have h0:=Zmr gs (can/2) (room-1) (t/2) (fun s=>F (2*s)) G ht2 hc1 hF0
   have he:Znm (u::gs) t=u::Znm gs (t/2):=by
    rw[Zer,if_pos e]
   rw[he,Zi9,<- h1,<- h0,Nat.add_comm]
   congr 1
   ·refine Zb7 _ (fun s _=>?_)
    have:Zgd (gs.length+1) can room (2*s+1) t=true↔Zgd gs.length (can/2) room s (t/2)=true:=by
     rw[Zfp,show(2*s+1+t)%2=0 from by omega,show(2*s+1)/2=s from by omega,Nat.sub_zero];exact⟨fun h=>h.2.2,fun h=>⟨fun _=>e,fun h=>by omega,h⟩⟩
    by_cases e1:Zgd gs.length (can/2) room s (t/2)=true
    ·rw[if_pos e1,if_pos (this.2 e1)]
    ·rw[if_neg e1,if_neg (fun h=>e1 (this.1 h))]
   ·by_cases e2:p u=true/\0<room
    ·rw[if_pos e2]
     refine Zb7 _ (fun s _=>?_)
     have:Zgd (gs.length+1) can room (2*s) t=true↔Zgd gs.length (can/2) (room-1) s (t/2)=true:=by
      rw[Zfp,show(2*s+t)%2=1 from by omega,show(2*s)/2=s from by omega];exact⟨fun h=>h.2.2,fun h=>⟨fun h=>by omega,fun _=>⟨hc0.2 e2.1,e2.2⟩,h⟩⟩
     by_cases e1:Zgd gs.length (can/2) (room-1) s (t/2)=true
     ·rw[if_pos e1,if_pos (this.2 e1)]
     ·rw[if_neg e1,if_neg (fun h=>e1 (this.1 h))]
    ·rw[if_neg e2]
     refine Eq.trans ?_ (Zgs (List.range (2^gs.length)));refine Zb7 _ (fun s _=>?_);rw[if_neg];intro h;have:=(Zfp.1 h).2.1 (by omega);exact e2 ⟨hc0.1 this.1,this.2⟩
  ·have h0:=Zmr gs (can/2) room (t/2) (fun s=>F (2*s)) G ht2 hc1 hF0
   have he:Znm (u::gs) t=Znm gs (t/2):=by
    rw[Zer,if_neg e]
   rw[he,<- h0]
   have hz:((List.range (2^gs.length)).map (fun s=>if Zgd (gs.length+1) can room (2*s+1) t=true then F (2*s+1) else 0)).sum=0:=by
    refine Eq.trans ?_ (Zgs (List.range (2^gs.length)));refine Zb7 _ (fun s _=>?_);rw[if_neg];intro h;exact e ((Zfp.1 h).1 (by omega))
   rw[hz,Nat.add_zero];refine Zb7 _ (fun s _=>?_)
   have:Zgd (gs.length+1) can room (2*s) t=true↔Zgd gs.length (can/2) room s (t/2)=true:=by
    rw[Zfp,show(2*s+t)%2=0 from by omega,show(2*s)/2=s from by omega,Nat.sub_zero];exact⟨fun h=>h.2.2,fun h=>⟨fun h=>by omega,fun h=>by omega,h⟩⟩
   by_cases e1:Zgd gs.length (can/2) room s (t/2)=true
   ·rw[if_pos e1,if_pos (this.2 e1)]
   ·rw[if_neg e1,if_neg (fun h=>e1 (this.1 h))]
def Zat:Nat:=1152921504606846977
def Zy7(L can room:Nat)(now:Nat->Nat)(t:Nat):Nat:=min Zat ((List.range (2^L)).map (fun s=>if Zgd L can room s t=true then now s else 0)).sum
def Zgt(L:Nat)(can room:Nat->Nat):Nat->Nat->Nat
 | 0,t=>if t=0 then 1 else 0
 | m+1,t=>Zy7 L (can m) (room m) (Zgt L can room m) t
theorem Zjb(c:Nat)(f:Nat->Nat):∀ l:List Nat,min c (l.map (fun x=>min c (f x))).sum=min c (l.map f).sum
 | []=>rfl
 | x::l=>by
  have:=Zjb c f l;rw[List.map_cons,List.map_cons,List.sum_cons,List.sum_cons];omega
theorem Znt:∀ (gs:List Nat) (t:Nat),t<2^gs.length->(Znm gs t=[]↔t=0)
 | [],t,ht=>by
  have ht:t<1:=ht;exact⟨fun _=>by omega,fun _=>rfl⟩
 | u::gs,t,ht=>by
  rw[List.length_cons,Nat.pow_succ] at ht;have:=Znt gs (t/2) (by omega);rw[Zer];by_cases e:t%2=1
  ·rw[if_pos e];exact⟨fun h=>(by cases h),fun h=>(by omega)⟩
  ·rw[if_neg e,this];omega
theorem Zu2{can:Nat->Nat->Bool}{left:Nat->Nat}:∀ us:List Nat,Zgc can 0 us left=if us=[] then 1 else 0
 | []=>rfl
 | u::us=>by rw[if_neg (by simp)];rfl
theorem Zu3{can:Nat->Nat->Bool}{left:Nat->Nat}{gs:List Nat}{cm rm:Nat->Nat}:∀ (m:Nat),(∀ j,j<m->(∀ i,i<gs.length->(cm j).testBit i=can (gs.getD i 0) j)/\rm j=left j)->∀ t,t<2^gs.length->Zgt gs.length cm rm m t=min Zat (Zgc can m (Znm gs t) left)
 | 0,_,t,ht=>by
  show(if t=0 then 1 else 0)=_;rw[Zu2];have:=Znt gs t ht;by_cases e:t=0
  ·rw[if_pos e,if_pos (this.2 e)];rfl
  ·rw[if_neg e,if_neg (fun h=>e (this.1 h))];rfl
 | m+1,h,t,ht=>by
  show Zy7 gs.length (cm m) (rm m) (Zgt gs.length cm rm m) t=_;unfold Zy7;obtain⟨hc,hr⟩:=h m (by omega);rw[Zja,<- hr,<- Zmr gs (cm m) (rm m) t (fun s=>Zgc can m (Znm gs s) left) (fun r=>Zgc can m r left) ht hc (fun s _=>rfl)];rw[<- Zjb Zat (fun s=>if Zgd gs.length (cm m) (rm m) s t=true then Zgc can m (Znm gs s) left else 0)]
  congr 1
  refine Zb7 _ (fun s hs=>?_);have hs:=List.mem_range.1 hs;by_cases e:Zgd gs.length (cm m) (rm m) s t=true
  ·rw[if_pos e,if_pos e]
   exact Zu3 m (fun j hj=>h j (by omega)) s hs
  ·rw[if_neg e,if_neg e];rfl
theorem Zq5:∀ gs:List Nat,Znm gs (2^gs.length-1)=gs
 | []=>rfl
 | u::gs=>by
  have h0:0<2^gs.length:=Nat.pow_pos (by omega)
  have h1:(2^(u::gs).length-1)%2=1:=by rw[List.length_cons,Nat.pow_succ];omega
  have h2:(2^(u::gs).length-1)/2=2^gs.length-1:=by rw[List.length_cons,Nat.pow_succ];omega
  rw[Zer,if_pos h1,h2,Zq5 gs]
end
section
def Z3x(left:Nat->Nat->Nat)(m w:Nat):Nat->Nat->Nat:=fun k v=>if k=m/\v=w then left m w-1 else left k v
def Z3y(can:Nat->Nat->Bool)(win:Nat->Nat)(M:Nat):List Nat->(Nat->Nat->Nat)->Nat
 | [],_=>1
 | u::us,left=>((List.range M).map (fun m=>if can u m=true/\0<left m (win u) then Z3y can win M us (Z3x left m (win u)) else 0)).sum
def Zes:Nat->(Nat->Nat)->Nat
 | 0,_=>1
 | k+1,f=>Zes k f*f k
theorem Zge{f g:Nat->Nat}:∀ k,(∀ w,w<k->f w=g w)->Zes k f=Zes k g
 | 0,_=>rfl
 | k+1,h=>by
  show Zes k f*f k=Zes k g*g k;rw[Zge k (fun w hw=>h w (by omega)),h k (by omega)]
theorem Zjc(f:Nat->Nat){w0:Nat}:∀ k,w0<k->Zes k f=f w0*Zes k (Zar f w0 1)
 | 0,h=>absurd h (Nat.not_lt_zero _)
 | k+1,h=>by
  show Zes k f*f k=f w0*(Zes k (Zar f w0 1)*Zar f w0 1 k);by_cases e:w0=k
  ·subst e
   rw[Zag,Nat.mul_one,Nat.mul_comm]
   congr 1
   exact Zge _ (fun w hw=>(Zaf f w0 1 (by omega)).symm)
  ·rw[Zaf f w0 1 (fun h=>e h.symm),Zjc f (w0:=w0) k (by omega),Nat.mul_assoc]
theorem Znu:∀ k,Zes k (fun _=>1)=1
 | 0=>rfl
 | k+1=>by show Zes k (fun _=>1)*1=1;rw[Znu k]
theorem Zln(c:Nat->Prop)[DecidablePred c](x:Nat->Nat)(R:Nat):∀ l:List Nat,(l.map (fun m=>if c m then x m*R else 0)).sum=(l.map (fun m=>if c m then x m else 0)).sum*R
 | []=>by simp
 | m::l=>by
  rw[List.map_cons,List.map_cons,List.sum_cons,List.sum_cons,Zln c x R l,Nat.add_mul]
  congr 1
  split
  ·rfl
  ·simp
theorem Znv{can:Nat->Nat->Bool}{win:Nat->Nat}{M W:Nat}:∀ (us:List Nat) (left:Nat->Nat->Nat),(∀ u,u∈us->win u<W) ->
  Z3y can win M us left=Zes W (fun w=>Zgc can M (us.filter (fun u=>win u==w)) (fun m=>left m w))
 | [],left,_=>by
  show 1=Zes W (fun _=>1);rw[Znu]
 | u::us,left,h=>by
  have hw:=h u (List.mem_cons_self ..);rw[Zjc _ W hw]
  have e0:(u::us).filter (fun v=>win v==win u)=u::us.filter (fun v=>win v==win u):=by rw[List.filter_cons_of_pos (by simp)]
  show((List.range M).map (fun m=>if can u m=true/\0<left m (win u) then Z3y can win M us (Z3x left m (win u)) else 0)).sum=_;rw[e0,Zi8,<- Zln];refine Zb7 _ (fun m _=>?_);by_cases e:can u m=true/\0<left m (win u)
  ·rw[if_pos e,if_pos e,Znv us _ (fun v hv=>h v (List.mem_cons_of_mem _ hv)),Zjc _ W hw]
   congr 1
   ·exact Zdv _ _ _ (fun k _=>by
     unfold Z3x Zpq;by_cases e3:k=m
     ·rw[if_pos ⟨e3,rfl⟩,if_pos e3]
     ·rw[if_neg (fun h=>e3 h.1),if_neg e3])
   ·refine Zge _ (fun w _=>?_)
    by_cases e2:w=win u
    ·subst e2;rw[Zag,Zag]
    ·rw[Zaf _ _ _ e2,Zaf _ _ _ e2]
     have e4:(u::us).filter (fun v=>win v==w)=us.filter (fun v=>win v==w):=by rw[List.filter_cons_of_neg (by simpa using fun h=>e2 h.symm)]
     rw[e4];exact Zdv _ _ _ (fun k _=>by unfold Z3x;rw[if_neg (fun h=>e2 h.2)])
  ·rw[if_neg e,if_neg e]
def Z27(M:Nat):Nat->List (List Nat)
 | 0=>[[]]
 | n+1=>(List.range M).flatMap (fun m=>(Z27 M n).map (fun l=>m::l))
def Z4y(T:Tbl):Nat:=Z3y T.can T.win T.M (List.range T.U) T.cap
def aOf(l:List Nat):Nat->Nat:=fun u=>l.getD u 0
theorem Z1e(l:List Nat):l=(List.range l.length).map (aOf l):=by
 apply List.ext_getElem?;intro i;rw[List.getElem?_map];by_cases hi:i<l.length
 ·rw[List.getElem?_range hi,List.getElem?_eq_getElem hi]
  show _=some (l.getD i 0);rw[List.getD_eq_getElem?_getD,List.getElem?_eq_getElem hi];rfl
 ·rw[List.getElem?_eq_none (by omega),List.getElem?_eq_none (by rw[List.length_range];omega)];rfl
theorem Znw{α β:Type}(f:α->β):∀ l:List α,l.zip (l.map f)=l.map (fun x=>(x,f x))
 | []=>rfl
 | x::l=>by rw[List.map_cons,List.zip_cons_cons,Znw f l,List.map_cons]
end
section
def Zgu(f:Nat->Bool):Nat->Nat
 | 0=>0
 | k+1=>Zgu f k ||| (if f k=true then 2^k else 0)
theorem Zms(f:Nat->Bool):∀ k,Zgu f k<2^k
 | 0=>by show(0:Nat)<1;omega
 | k+1=>by
  have h:=Zms f k
  have hp:2^(k+1)=2*2^k:=by rw[Nat.pow_succ];omega
  show Zgu f k ||| (if f k=true then 2^k else 0)<2^(k+1);refine Nat.or_lt_two_pow (by omega) ?_;have:0<2^k:=Nat.pow_pos (by omega);split<;>omega
theorem Znx(f:Nat->Bool):∀ k i,(Zgu f k).testBit i=(decide (i<k)&&f i)
 | 0,i=>by show(0:Nat).testBit i=_;simp
 | k+1,i=>by
  show(Zgu f k ||| (if f k=true then 2^k else 0)).testBit i=_;rw[Nat.testBit_or,Znx f k i];by_cases e:i=k
  ·subst e
   rw[decide_eq_false (Nat.lt_irrefl i),decide_eq_true (Nat.lt_succ_self i),Bool.false_and,Bool.false_or,Bool.true_and];by_cases hf:f i=true
   ·rw[if_pos hf,hf,Nat.testBit_two_pow_self]
   ·rw[if_neg hf];simp[hf]
  ·have h1:(if f k=true then 2^k else 0).testBit i=false:=by
    split
    ·rw[Nat.testBit_two_pow_of_ne (fun h=>e h.symm)]
    ·simp
   rw[h1,Bool.or_false]
   congr 1
   exact decide_eq_decide.2 (by omega)
def Z28(T:Tbl)(grp:List Nat)(m:Nat):Nat:=Zgu (fun i=>T.can (grp.getD i 0) m) grp.length
def Zij(T:Tbl)(grp:List Nat)(wd:Nat):Nat:=Zgt grp.length (Z28 T grp) (fun m=>T.cap m wd) T.M (2^grp.length-1)
theorem Zu4(T:Tbl)(grp:List Nat)(wd:Nat):Zij T grp wd=min Zat (Zgc T.can T.M grp (fun m=>T.cap m wd)):=by
 unfold Zij
 rw[Zu3 (can:=T.can) (left:=fun m=>T.cap m wd) T.M (fun j hj=>⟨fun i hi=>by
  unfold Z28
  rw[Znx,decide_eq_true hi,Bool.true_and],rfl⟩) _ (by have:0<2^grp.length:=Nat.pow_pos (by omega);omega),Zq5]
def Zcu(T:Tbl)(wd:Nat):List Nat:=(List.range T.U).filter (fun u=>T.win u==wd)
def cntTo'(T:Tbl):Nat->Option Nat
 | 0=>some 1
 | k+1=>match cntTo' T k with
  | none=>none
  | some x=>if Zij T (Zcu T k) k=0 then none else some (min Zat (x*Zij T (Zcu T k) k))
def Zgv(T:Tbl):Nat:=(cntTo' T 16).getD 0
theorem Zpr(c a b:Nat)(ha:0<a)(hb:0<b):min c (min c a*min c b)=min c (a*b):=by
 have h1:a*1<=a*b:=Nat.mul_le_mul_left a hb;have h2:1*b<=a*b:=Nat.mul_le_mul_right b ha;rcases Nat.le_total c a with h3 | h3<;>rcases Nat.le_total c b with h4 | h4
 ·rw[Nat.min_eq_left h3,Nat.min_eq_left h4,Nat.min_eq_left (a:=c) (b:=a*b) (by omega)]
  rcases Nat.eq_zero_or_pos c with rfl | h
  ·rfl
  ·have:c*1<=c*c:=Nat.mul_le_mul_left c h
   omega
 ·rw[Nat.min_eq_left h3,Nat.min_eq_right h4,Nat.min_eq_left (a:=c) (b:=a*b) (by omega)]
  have:c*1<=c*b:=Nat.mul_le_mul_left c hb;omega
 ·rw[Nat.min_eq_right h3,Nat.min_eq_left h4,Nat.min_eq_left (a:=c) (b:=a*b) (by omega)]
  have:1*c<=a*c:=Nat.mul_le_mul_right c ha;omega
 ·rw[Nat.min_eq_right h3,Nat.min_eq_right h4]
theorem Zlo{f:Nat->Nat}{w:Nat}(h:f w=0):∀ k,w<k->Zes k f=0
 | 0,hk=>absurd hk (Nat.not_lt_zero _)
 | k+1,hk=>by
  show Zes k f*f k=0;by_cases e:w=k
  ·subst e;rw[h,Nat.mul_zero]
  ·rw[Zlo h k (by omega),Nat.zero_mul]
theorem Zny{f:Nat->Nat}:∀ k,(∀ w,w<k->0<f w)->0<Zes k f
 | 0,_=>Nat.one_pos
 | k+1,h=>Nat.mul_pos (Zny k (fun w hw=>h w (by omega))) (h k (by omega))
theorem Znz(T:Tbl):∀ k,cntTo' T k=if ∃ w,w<k/\Zgc T.can T.M (Zcu T w) (fun m=>T.cap m w)=0 then none else some (min Zat (Zes k (fun w=>Zgc T.can T.M (Zcu T w) (fun m=>T.cap m w))))
 | 0=>by
  rw[if_neg (fun ⟨w,h,_⟩=>absurd h (Nat.not_lt_zero w))];rfl
 | k+1=>by
  show(match cntTo' T k with | none=>none | some x=>if Zij T (Zcu T k) k=0 then none else some (min Zat (x*Zij T (Zcu T k) k)))=_;rw[Znz T k,Zu4];by_cases e:∃ w,w<k/\Zgc T.can T.M (Zcu T w) (fun m=>T.cap m w)=0
  ·rw[if_pos e,if_pos]
   obtain⟨w,h1,h2⟩:=e;exact⟨w,by omega,h2⟩
  ·rw[if_neg e]
   show(if min Zat (Zgc T.can T.M (Zcu T k) (fun m=>T.cap m k))=0 then none else some (min Zat (min Zat (Zes k (fun w=>Zgc T.can T.M (Zcu T w) (fun m=>T.cap m w)))*min Zat (Zgc T.can T.M (Zcu T k) (fun m=>T.cap m k)))))=_;by_cases e2:Zgc T.can T.M (Zcu T k) (fun m=>T.cap m k)=0
   ·rw[e2,if_pos (by rfl),if_pos ⟨k,by omega,e2⟩]
   ·have hp:0<Zgc T.can T.M (Zcu T k) (fun m=>T.cap m k):=by omega
    rw[if_neg (by have:0<Zat:=(by decide);omega),if_neg,Zpr _ _ _ (Zny k (fun w hw=>Nat.pos_of_ne_zero (fun h=>e ⟨w,hw,h⟩))) hp]
    ·rfl
    ·rintro⟨w,h1,h2⟩
     rcases Nat.lt_or_ge w k with h | h
     ·exact e ⟨w,h,h2⟩
     ·obtain rfl:w=k:=by omega
      exact e2 h2
theorem Z1t(T:Tbl)(hw:∀ u,u<T.U->T.win u<16):Zgv T=min Zat (Z4y T):=by
 unfold Zgv Z4y;rw[Znz,Znv (W:=16) _ _ (fun u hu=>hw u (List.mem_range.1 hu))];show Option.getD (if _ then none else some (min Zat (Zes 16 (fun w=>Zgc T.can T.M (Zcu T w) (fun m=>T.cap m w))))) 0=min Zat (Zes 16 (fun w=>Zgc T.can T.M (Zcu T w) (fun m=>T.cap m w)));by_cases e:∃ w,w<16/\Zgc T.can T.M (Zcu T w) (fun m=>T.cap m w)=0
 ·rw[if_pos e]
  obtain⟨w,h1,h2⟩:=e;rw[Zlo h2 16 h1];rfl
 ·rw[if_neg e];rfl
def Zc9(T:Tbl):Nat×Nat:=if (List.range 16).any (fun w=>decide (12<(Zcu T w).length))=true then(0,6) else if 1152921504606846976<Zgv T then(0,6) else(Zgv T,0)
end
end Go.Proofs.YtbcgocpihobjnaaGreatDoor
