set_option linter.all false
namespace Go.Proofs.YtbcgocpihobjnaaGreatDoor
section
def tX(c:Nat):Bool:=(decide (97<=c)&&decide (c<=122))||(decide (65<=c)&&decide (c<=90))
def Ko(c:Nat):Bool:=decide (48<=c)&&decide (c<=57)
def jR(c:Nat):Bool:=tX c||Ko c||c==95
theorem BK{c:Nat}(h:tX c=true):jR c=true:=by unfold jR;rw[h];rfl
def bL(p:Nat->Bool)(l:List Nat):Nat:=(l.takeWhile p).length
theorem PT(p:Nat->Bool):∀ l,bL p l<=l.length
 | []=>Nat.le_refl _
 | c::l=>by
  unfold bL;rw[List.takeWhile_cons]
  cases p c with
  | false=>exact Nat.zero_le _
  | true=>exact Nat.succ_le_succ (PT p l)
theorem PV(p:Nat->Bool):∀ (l:List Nat) (i:Nat),i<bL p l->p (l.getD i 0)=true
 | [],i,h=>by simp[bL] at h
 | c::l,i,h=>by
  unfold bL at h;rw[List.takeWhile_cons] at h
  cases hp:p c with
  | false=>rw[hp] at h;simp at h
  | true =>
   rw[hp] at h
   cases i with
   | zero=>simpa using hp
   | succ i=>simpa using PV p l i (by simpa [bL] using h)
theorem PW(p:Nat->Bool):∀ (l:List Nat),bL p l<l.length->p (l.getD (bL p l) 0)=false
 | [],h=>by simp at h
 | c::l,h=>by
  unfold bL at h ⊢;rw[List.takeWhile_cons] at h ⊢
  cases hp:p c with
  | false=>simpa using hp
  | true =>
   rw[hp] at h;simp only[if_pos,List.length_cons] at h ⊢;have h2:=PW p l (by unfold bL;omega);unfold bL at h2;simpa using h2
theorem ky(p:Nat->Bool)(l:List Nat)(n:Nat)(hn:n<=l.length)(hy:∀ i,i<n->p (l.getD i 0)=true)(hs:n<l.length->p (l.getD n 0)=false):n=bL p l:=by
 rcases Nat.lt_trichotomy n (bL p l) with h | h | h
 ·have h1:=PV p l n h
  have h2:=hs (Nat.lt_of_lt_of_le h (PT p l));rw[h1] at h2;exact absurd h2 (by simp)
 ·exact h
 ·have h1:=hy _ h
  have h2:=PW p l (Nat.lt_of_lt_of_le h hn);rw[h1] at h2;exact absurd h2 (by simp)
theorem BL(p:Nat->Bool):∀ l:List Nat,(bL p l==l.length)=l.all p
 | []=>rfl
 | c::l=>by
  unfold bL;rw[List.takeWhile_cons,List.all_cons]
  cases hp:p c with
  | false=>simp
  | true =>
   have:=BL p l;unfold bL at this;simp only[if_pos,List.length_cons,Bool.true_and];rw[<- this];rw[Bool.eq_iff_iff];simp
def nD(l:List Nat):Bool:=(l != [])&&tX (l.getD 0 0)&&decide (l.length<=20)&&(bL jR l==l.length)
def zQ(l:List Nat):Bool:=!(decide (l.length<1)||decide (20<l.length)||!tX (l.getD 0 0))&&l.tail.all jR
theorem PY(l:List Nat):zQ l=nD l:=by
 unfold zQ nD;rw[BL]
 cases l with
 | nil=>rfl
 | cons c l =>
  simp only[List.getD_cons_zero,List.tail_cons,List.all_cons,List.length_cons]
  cases hl:tX c with
  | false=>simp
  | true =>
   rw[BK hl]
   have h1:decide (l.length+1<1)=false:=by simp
   rw[h1];by_cases h:20<l.length+1
   ·rw[decide_eq_true h,decide_eq_false (by omega:¬ l.length+1<=20)];simp
   ·rw[decide_eq_false h,decide_eq_true (by omega:l.length+1<=20)];simp
def tY:List (List Nat):=[[113,117,101,115,116,105,111,110],[97,110,100],[111,114],[110,111,116],[97,116],[108,101,97,115,116],[111,102],[105,110]]
def gX(l:List Nat):Bool:=nD l&&!tY.contains l
def bO(c:Nat):Bool:=c != 46
def iG(l:List Nat):Bool:=decide (bL bO l<l.length)&&(gX (l.take (bL bO l))&&gX (l.drop (bL bO l+1)))
end
section
inductive Prd where
 | mk (k:Int) (l r:List Nat) (c:Int) (ks:List Prd):Prd
namespace Prd
def k:Prd->Int | mk k _ _ _ _=>k
def l:Prd->List Nat | mk _ l _ _ _=>l
def r:Prd->List Nat | mk _ _ r _ _=>r
def c:Prd->Int | mk _ _ _ c _=>c
def ks:Prd->List Prd | mk _ _ _ _ ks=>ks
end Prd
def y_:Prd:=.mk 0 [] [] 0 []
abbrev PR (α:Type):=Except (Int×Nat) (α×Nat)
mutual
def cO:Prd->Nat
 | .mk _ _ _ _ ks=>1+cR ks
def cR:List Prd->Nat
 | []=>0
 | p::ps=>cO p+cR ps
end
mutual
def oH:Prd->Nat
 | .mk _ _ _ _ ks=>1+yK ks
def yK:List Prd->Nat
 | []=>0
 | p::ps=>max (oH p) (yK ps)
end
def sA(p:Prd):Bool:=decide (cO p<=100)&&decide (oH p<=12)
end
section
theorem dr:∀ (a b:List Prd),cR (a++b)=cR a+cR b
 | [],b=>by simp[cR]
 | p::a,b=>by rw[List.cons_append,cR,cR,dr a b];omega
end
section
def ltL:List Nat->List Nat->Bool
 | _,[]=>false
 | [],_::_=>true
 | x::xs,y::ys=>decide (x<y)||(x==y&&ltL xs ys)
theorem Kp:∀ a,ltL a a=false
 | []=>rfl
 | x::xs=>by simp[ltL,Kp xs]
theorem BS:∀ a b c,ltL a b=true->ltL b c=true->ltL a c=true
 | [],[],_,h,_=>by simp[ltL] at h
 | [],_::_,[],_,h=>by simp[ltL] at h
 | [],_::_,_::_,_,_=>rfl
 | _::_,[],_,h,_=>by simp[ltL] at h
 | _::_,_::_,[],_,h=>by simp[ltL] at h
 | x::xs,y::ys,z::zs,h1,h2=>by
  simp only[ltL,Bool.or_eq_true,decide_eq_true_eq,Bool.and_eq_true,beq_iff_eq] at *;rcases h1 with h1 | ⟨rfl,h1⟩
  ·rcases h2 with h2 | ⟨rfl,h2⟩
   ·left;omega
   ·left;exact h1
  ·rcases h2 with h2 | ⟨rfl,h2⟩
   ·left;exact h2
   ·right;exact⟨rfl,BS xs ys zs h1 h2⟩
theorem dt:∀ a b,ltL a b=true\/a=b\/ltL b a=true
 | [],[]=>.inr (.inl rfl)
 | [],_::_=>.inl rfl
 | _::_,[]=>.inr (.inr rfl)
 | x::xs,y::ys=>by
  simp only[ltL,Bool.or_eq_true,decide_eq_true_eq,Bool.and_eq_true,beq_iff_eq];rcases Nat.lt_trichotomy x y with h | rfl | h
  ·left;left;exact h
  ·rcases dt xs ys with h | rfl | h
   ·left;right;exact⟨rfl,h⟩
   ·right;left;rfl
   ·right;right;right;exact⟨rfl,h⟩
  ·right;right;left;exact h
def vL(a b:List Nat):Int:=if ltL a b=true then -1 else if ltL b a=true then 1 else 0
theorem kz(a b:List Nat):vL a b=0↔a=b:=by
 unfold vL;rcases dt a b with h | rfl | h
 ·rw[if_pos h]
  constructor
  ·intro h;cases h
  ·rintro rfl;rw[Kp] at h;cases h
 ·rw[Kp];simp
 ·by_cases h2:ltL a b=true
  ·rw[if_pos h2]
   constructor
   ·intro h;cases h
   ·rintro rfl;rw[Kp] at h;cases h
  ·rw[if_neg h2,if_pos h]
   constructor
   ·intro h;cases h
   ·rintro rfl;rw[Kp] at h;cases h
theorem PZ(a b:List Nat):vL a b<0↔ltL a b=true:=by
 unfold vL;by_cases h:ltL a b=true
 ·rw[if_pos h];exact⟨fun _=>h,fun _=>by decide⟩
 ·rw[if_neg h]
  constructor
  ·intro h2;split at h2<;>exact absurd h2 (by decide)
  ·intro h2;exact absurd h2 h
structure Ky where
 l:List Nat
 r:List Nat
 c:Int
deriving DecidableEq
instance:Inhabited Ky:=⟨⟨[],[],0⟩⟩
def or3(a b c:Int):Int:=if a≠0 then a else if b≠0 then b else c
def Sh(a b:Int):Int:=if a<b then -1 else if a=b then 0 else 1
def Vn(a b:Ky):Int:=or3 (vL a.l b.l) (vL a.r b.r) (Sh a.c b.c)
def ltK(a b:Ky):Bool:=decide (Vn a b<0)
theorem la(a b:Ky):ltK a b=true↔ltL a.l b.l=true\/(a.l=b.l/\(ltL a.r b.r=true\/(a.r=b.r/\a.c<b.c))):=by
 unfold ltK Vn or3;rw[decide_eq_true_eq];by_cases h1:a.l=b.l
 ·have z1:=(kz a.l b.l).2 h1
  rw[if_neg (by simpa using z1)]
  have i1:ltL a.l b.l≠true:=by rw[h1,Kp];simp
  by_cases h2:a.r=b.r
  ·have z2:=(kz a.r b.r).2 h2
   have i2:ltL a.r b.r≠true:=by rw[h2,Kp];simp
   rw[if_neg (by simpa using z2)];unfold Sh;constructor
   ·intro h
    right;refine⟨h1,.inr ⟨h2,?_⟩⟩
    by_cases h3:a.c<b.c
    ·exact h3
    ·rw[if_neg h3] at h;split at h<;>exact absurd h (by decide)
   ·rintro (h | ⟨_,h | ⟨_,h⟩⟩)
    ·exact absurd h i1
    ·exact absurd h i2
    ·rw[if_pos h];decide
  ·have z2:vL a.r b.r≠0:=fun h=>h2 ((kz _ _).1 h)
   rw[if_pos z2,PZ];constructor
   ·intro h;exact .inr ⟨h1,.inl h⟩
   ·rintro (h | ⟨_,h | ⟨h,_⟩⟩)
    ·exact absurd h i1
    ·exact h
    ·exact absurd h h2
 ·have z1:vL a.l b.l≠0:=fun h=>h1 ((kz _ _).1 h)
  rw[if_pos z1,PZ];constructor
  ·intro h;exact .inl h
  ·rintro (h | ⟨h,_⟩)
   ·exact h
   ·exact absurd h h1
theorem ld(a:Ky):ltK a a=false:=by
 rw[Bool.eq_false_iff,Ne,la];simp[Kp]
theorem lf(a b c:Ky)(h1:ltK a b=true)(h2:ltK b c=true):ltK a c=true:=by
 rw[la] at *;rcases h1 with h1 | ⟨e1,h1⟩
 ·rcases h2 with h2 | ⟨e2,h2⟩
  ·exact .inl (BS _ _ _ h1 h2)
  ·rw[<- e2];exact .inl h1
 ·rcases h2 with h2 | ⟨e2,h2⟩
  ·rw[e1];exact .inl h2
  ·refine .inr ⟨e1.trans e2,?_⟩
   rcases h1 with h1 | ⟨f1,h1⟩
   ·rcases h2 with h2 | ⟨f2,h2⟩
    ·exact .inl (BS _ _ _ h1 h2)
    ·rw[<- f2];exact .inl h1
   ·rcases h2 with h2 | ⟨f2,h2⟩
    ·rw[f1];exact .inl h2
    ·exact .inr ⟨f1.trans f2,by omega⟩
theorem BT(a b:Ky):ltK a b=true\/a=b\/ltK b a=true:=by
 rw[la,la];rcases dt a.l b.l with h | h | h
 ·exact .inl (.inl h)
 ·rcases dt a.r b.r with h2 | h2 | h2
  ·exact .inl (.inr ⟨h,.inl h2⟩)
  ·rcases Int.lt_trichotomy a.c b.c with h3 | h3 | h3
   ·exact .inl (.inr ⟨h,.inr ⟨h2,h3⟩⟩)
   ·right;left;cases a;cases b;simp_all
   ·exact .inr (.inr (.inr ⟨h.symm,.inr ⟨h2.symm,h3⟩⟩))
  ·exact .inr (.inr (.inr ⟨h.symm,.inl h2⟩))
 ·exact .inr (.inr (.inl h))
theorem z_(a b c:Ky)(h1:ltK a b=false)(h2:ltK b c=false):ltK a c=false:=by
 rw[Bool.eq_false_iff] at *;intro h;rcases BT a b with h3 | rfl | h3
 ·exact h1 h3
 ·exact h2 h
 ·exact h2 (lf _ _ _ h3 h)
def Hf:List Ky->Ky->List Ky
 | [],x=>[x]
 | y::ys,x=>if x=y then y::ys else if ltK x y=true then x::y::ys else y::Hf ys x
def wV(l:List Ky):Prop:=l.Pairwise (fun a b=>ltK a b=true)
theorem BU(x z:Ky):∀ l,z∈Hf l x↔z=x\/z∈l
 | []=>by simp[Hf]
 | y::ys=>by
  unfold Hf;by_cases h:x=y
  ·rw[if_pos h];subst h;simp
  ·rw[if_neg h]
   by_cases h2:ltK x y=true
   ·rw[if_pos h2];simp
   ·rw[if_neg h2,List.mem_cons,BU x z ys,List.mem_cons]
    constructor
    ·rintro (h | h | h)<;>simp[h]
    ·rintro (h | h | h)<;>simp[h]
theorem QA(x:Ky):∀ l,wV l->wV (Hf l x)
 | [],_=>by simp[Hf,wV]
 | y::ys,h=>by
  unfold Hf;have h0:=List.pairwise_cons.1 h;by_cases h1:x=y
  ·rw[if_pos h1];exact h
  ·rw[if_neg h1]
   by_cases h2:ltK x y=true
   ·rw[if_pos h2]
    exact List.pairwise_cons.2 ⟨fun z hz=>by
     rcases List.mem_cons.1 hz with rfl | hz
     ·exact h2
     ·exact lf _ _ _ h2 (h0.1 z hz),h⟩
   ·rw[if_neg h2]
    refine List.pairwise_cons.2 ⟨fun z hz=>?_,QA x ys h0.2⟩;rcases (BU x z ys).1 hz with rfl | hz
    ·rcases BT z y with h3 | h3 | h3
     ·exact absurd h3 h2
     ·exact absurd h3 h1
     ·exact h3
    ·exact h0.1 z hz
theorem A_{l l':List Ky}(h:wV l)(h':wV l')(hm:∀ x,x∈l↔x∈l'):l=l':=by
 have nd:∀ {m:List Ky},wV m->m.Nodup:=fun hm=>hm.imp (fun {a b} uF e=>by rw[e,ld] at uF;cases uF)
 have hp:l.Perm l':=(List.perm_ext_iff_of_nodup (nd h) (nd h')).2 hm;refine List.Perm.eq_of_pairwise (le:=fun a b=>ltK a b=true) (fun a b _ _ h1 h2=>?_) h h' hp;have:=lf _ _ _ h1 h2;rw[ld] at this;cases this
mutual
def oI:Prd->List Ky
 | .mk k l r c ks=>(if k=0 then [⟨l,r,c⟩] else [])++jB ks
def jB:List Prd->List Ky
 | []=>[]
 | p::ps=>oI p++jB ps
end
theorem B_(a b:List Prd):jB (a++b)=jB a++jB b:=by
 induction a with
 | nil=>rfl
 | cons p ps ih=>simp only[List.cons_append,jB,ih,List.append_assoc]
theorem CA(x:Ky):∀ ks,x∈jB ks↔∃ q∈ks,x∈oI q
 | []=>by simp[jB]
 | p::ps=>by simp[jB,CA x ps]
mutual
theorem CC:∀ p:Prd,(oI p).length<=cO p
 | .mk k l r c ks=>by
  unfold oI cO;have:=CE ks;rw[List.length_append];split<;>simp<;>omega
theorem CE:∀ ks:List Prd,(jB ks).length<=cR ks
 | []=>by simp[jB,cR]
 | p::ps=>by
  have:=CC p;have:=CE ps;unfold jB cR;rw[List.length_append];omega
end
def sB(p:Prd):List Ky:=(oI p).foldl Hf []
theorem CG(x:Ky):∀ (l acc:List Ky),x∈l.foldl Hf acc↔x∈acc\/x∈l
 | [],acc=>by simp
 | y::ys,acc=>by
  rw[List.foldl_cons,CG x ys,BU,List.mem_cons];constructor
  ·rintro ((h | h) | h)<;>simp[h]
  ·rintro (h | h | h)<;>simp[h]
theorem QB:∀ (l acc:List Ky),wV acc->wV (l.foldl Hf acc)
 | [],acc,h=>h
 | y::ys,acc,h=>QB ys _ (QA y acc h)
theorem CH(p:Prd)(x:Ky):x∈sB p↔x∈oI p:=by unfold sB;rw[CG];simp
theorem QC(p:Prd):wV (sB p):=QB _ _ .nil
end
section
def aM{α:Type}(f:Nat->α)(k:Nat)(v:α):Nat->α:=fun i=>if i=k then v else f i
theorem cE{α:Type}(f:Nat->α)(k:Nat)(v:α):aM f k v k=v:=by unfold aM;rw[if_pos rfl]
theorem dA{α:Type}(f:Nat->α)(k:Nat)(v:α){i:Nat}(h:i≠k):aM f k v i=f i:=by unfold aM;rw[if_neg h]
structure Plc where
 g:Nat->List Nat
 a:Nat->Int
 t:Nat->Bool
 r:List Nat
def sC(rec:Nat->Plc->Bool×Plc)(m u:Nat):List Nat->Nat->Plc->Bool×Plc
 | [],_,s=>(false,s)
 | o::os,i,s =>
  match rec o s with
  | (true,s2)=>(true,{ s2 with g:=aM s2.g m ((s2.g m).set i u),a:=aM s2.a u (m:Int) })
  | (false,s2)=>sC rec m u os (i+1) s2
def du(can:Nat->Nat->Bool)(cap:Nat->Nat)(rec:Nat->Plc->Bool×Plc)(u m:Nat)(s:Plc):Option (Bool×Plc) :=
 if (!can u m||s.t m)=true then none else
 let s1:Plc:={ s with t:=aM s.t m true }
 if (s.g m).length<cap m then some (true,{ s1 with g:=aM s.g m (s.g m++[u]),a:=aM s.a u (m:Int) })
 else some (sC rec m u (s.g m) 0 s1)
def qM(can:Nat->Nat->Bool)(cap:Nat->Nat)(rec:Nat->Plc->Bool×Plc)(u:Nat):List Nat->Plc->Bool×Plc
 | [],s=>(false,s)
 | m::ms,s =>
  match du can cap rec u m s with
  | none=>qM can cap rec u ms s
  | some (true,s2)=>(true,s2)
  | some (false,s2)=>qM can cap rec u ms s2
def Fd(can:Nat->Nat->Bool)(cap:Nat->Nat)(M:Nat):Nat->Nat->Plc->Bool×Plc
 | 0,u,s=>qM can cap (fun _ s=>(false,s)) u (List.range M) { s with r:=s.r++[u] }
 | f+1,u,s=>qM can cap (Fd can cap M f) u (List.range M) { s with r:=s.r++[u] }
structure PlcOk (can:Nat->Nat->Bool) (cap:Nat->Nat) (M:Nat) (W:Nat->Prop) (s:Plc):Prop where
 few:∀ m,(s.g m).length<=cap m
 own:∀ m u,u∈s.g m->m<M/\can u m=true/\W u/\s.a u=(m:Int)
 nodup:∀ m,(s.g m).Nodup
 told:∀ u m,W u->s.a u=((m:Nat):Int)->u∈s.g m
structure PlcPre (can:Nat->Nat->Bool) (cap:Nat->Nat) (M:Nat) (W:Nat->Prop) (s:Plc):Prop extends PlcOk can cap M W s where
 tried:∀ v,v∈s.r->∀ m,v∈s.g m->s.t m=true
 reach:s.r.Nodup
structure Stuck (can:Nat->Nat->Bool) (cap:Nat->Nat) (M:Nat) (X:Nat->Prop) (s s':Plc):Prop where
 g:s'.g=s.g
 a:s'.a=s.a
 more:∀ m,s.t m=true->s'.t m=true
 old:s.r <+: s'.r
 full:∀ m,s'.t m=true->s.t m=false->cap m<=(s.g m).length/\m<M/\∀ u,u∈s.g m->u∈s'.r
 shut:∀ u,u∈s'.r->u ∉ s.r->∀ m,m<M->can u m=true->s'.t m=true
 newr:∀ v,v∈s'.r->v ∉ s.r->X v\/∃ m,s.t m=false/\s'.t m=true/\v∈s.g m
 reach:s'.r.Nodup
structure Gave (can:Nat->Nat->Bool) (cap:Nat->Nat) (M:Nat) (W:Nat->Prop) (u:Nat) (s s':Plc):Prop where
 kept:∀ m,s.t m=true->s'.g m=s.g m
 few:∀ m,(s'.g m).length<=cap m
 nodup:∀ m,(s'.g m).Nodup
 own:∀ m v,s.t m=false->v∈s'.g m->m<M/\can v m=true/\W v/\s'.a v=(m:Int)
 same:∀ m v,s.t m=true->v∈s.g m->v≠u->s'.a v=s.a v
 told:∀ v m,W v->s'.a v=((m:Nat):Int)->v∈s'.g m
 this:∃ m:Nat,s.t m=false/\s'.a u=(m:Int)
 has:∀ v,v≠u->(0<=s'.a v↔0<=s.a v)
 else_:∀ v,¬ W v->s'.a v=s.a v
section
variable {can:Nat->Nat->Bool} {cap:Nat->Nat} {M:Nat} {W:Nat->Prop}
theorem Stuck.refl{X:Nat->Prop}(s:Plc)(h:s.r.Nodup):Stuck can cap M X s s :=
 ⟨rfl,rfl,fun _ h=>h,List.prefix_refl _,fun m h h'=>(by rw[h] at h';cases h'),fun u h h'=>absurd h h',fun u h h'=>absurd h h',h⟩
theorem Stuck.trans{X Y Z:Nat->Prop}{s s1 s2:Plc}(h:Stuck can cap M X s s1)(h':Stuck can cap M Y s1 s2)(hX:∀ v,X v->Z v\/∃ m,s.t m=false/\s2.t m=true/\v∈s.g m)(hY:∀ v,Y v->Z v\/∃ m,s.t m=false/\s2.t m=true/\v∈s.g m):Stuck can cap M Z s s2:=by
 refine⟨h'.g.trans h.g,h'.a.trans h.a,fun m hm=>h'.more m (h.more m hm),h.old.trans h'.old,fun m h1 h2=>?_,fun u h1 h2 m hm hc=>?_,fun v h1 h2=>?_,h'.reach⟩
 ·by_cases e:s1.t m=true
  ·obtain⟨a,b,c⟩:=h.full m e h2
   exact⟨a,b,fun u hu=>h'.old.subset (c u hu)⟩
  ·obtain⟨a,b,c⟩:=h'.full m h1 (by simpa using e)
   rw[h.g] at a c;exact⟨a,b,c⟩
 ·by_cases e:u∈s1.r
  ·exact h'.more m (h.shut u e h2 m hm hc)
  ·exact h'.shut u h1 e m hm hc
 ·by_cases e:v∈s1.r
  ·rcases h.newr v e h2 with h3 | ⟨m,h3,h4,h5⟩
   ·exact hX v h3
   ·exact .inr ⟨m,h3,h'.more m h4,h5⟩
  ·rcases h'.newr v h1 e with h3 | ⟨m,h3,h4,h5⟩
   ·exact hY v h3
   ·rw[h.g] at h5
    have h6:s.t m=false:=by
     cases hm:s.t m with
     | false=>rfl
     | true=>rw[h.more m hm] at h3;cases h3
    exact .inr ⟨m,h6,h4,h5⟩
theorem PlcOk.one{s:Plc}(h:PlcOk can cap M W s){v m m':Nat}(h1:v∈s.g m)(h2:v∈s.g m'):m=m':=by
 have a:=(h.own m v h1).2.2.2;have b:=(h.own m' v h2).2.2.2;rw[a] at b;exact Int.ofNat.inj b
theorem PlcPre.after{X:Nat->Prop}{s s':Plc}(h:PlcPre can cap M W s)(hs:Stuck can cap M X s s')(hX:∀ v,X v->∀ m,v∈s.g m->s'.t m=true):PlcPre can cap M W s':=by
 refine⟨⟨fun m=>by rw[hs.g];exact h.few m,fun m u hu=>?_,fun m=>by rw[hs.g];exact h.nodup m,fun u m hu ha=>?_⟩,fun v hv m hm=>?_,hs.reach⟩
 ·rw[hs.g] at hu
  rw[hs.a];exact h.own m u hu
 ·rw[hs.a] at ha
  rw[hs.g];exact h.told u m hu ha
 ·rw[hs.g] at hm
  by_cases e:v∈s.r
  ·exact hs.more m (h.tried v e m hm)
  ·rcases hs.newr v hv e with h1 | ⟨m',h1,h2,h3⟩
   ·exact hX v h1 m hm
   ·rw[h.toPlcOk.one hm h3];exact h2
def lM(M:Nat)(s:Plc):Nat:=((List.range M).filter (fun m=>!s.t m)).length
theorem CI{s s':Plc}(h:∀ m,s.t m=true->s'.t m=true):lM M s'<=lM M s:=by
 unfold lM;rw[<- List.countP_eq_length_filter,<- List.countP_eq_length_filter]
 exact List.countP_mono_left (fun m _ hm=>by
  cases e:s.t m with
  | false=>rfl
  | true=>rw[h m e] at hm;exact hm)
theorem QD{p q:Nat->Bool}{m:Nat}(hq:q m=true)(hp:p m=false)(h:∀ i,p i=true->q i=true):∀ l:List Nat,m∈l->l.countP p<l.countP q
 | [],hm=>by simp at hm
 | x::l,hm=>by
  have qB:l.countP p<=l.countP q:=List.countP_mono_left (fun i _ hi=>h i hi);rw[List.countP_cons,List.countP_cons];by_cases e:x=m
  ·subst e
   rw[hq,hp];simp;omega
  ·have:=QD hq hp h l (by rcases List.mem_cons.1 hm with h1 | h1;exact absurd h1.symm e;exact h1)
   by_cases hx:p x=true
   ·rw[hx,h x hx];simp;omega
   ·rw[if_neg hx];split<;>omega
theorem QF{s s':Plc}(h:∀ m,s.t m=true->s'.t m=true){m:Nat}(hm:m<M)(h1:s.t m=false)(h2:s'.t m=true):lM M s'<lM M s:=by
 unfold lM;rw[<- List.countP_eq_length_filter,<- List.countP_eq_length_filter]
 exact QD (m:=m) (by rw[h1];rfl) (by rw[h2];rfl) (fun i hi=>by
  cases e:s.t i with
  | false=>rfl
  | true=>rw[h i e] at hi;exact hi) _ (List.mem_range.2 hm)
theorem C_{l:List Nat}(h:l.Nodup){u:Nat}(hu:u ∉ l)(i:Nat):(l.set i u).Nodup:=by
 induction l generalizing i with
 | nil=>simp
 | cons x l ih =>
  rw[List.nodup_cons] at h
  cases i with
  | zero =>
   rw[List.set_cons_zero,List.nodup_cons];exact⟨fun h'=>hu (List.mem_cons_of_mem _ h'),h.2⟩
  | succ i =>
   rw[List.set_cons_succ,List.nodup_cons];refine⟨fun h'=>?_,ih h.2 (fun h'=>hu (List.mem_cons_of_mem _ h')) i⟩;rcases List.mem_or_eq_of_mem_set h' with h1 | h1
   ·exact h.1 h1
   ·exact hu (by rw[h1];exact List.mem_cons_self ..)
theorem D_{l:List Nat}{i v u o:Nat}(ho:l[i]?=some o)(hv:v∈l)(cT:v≠o):v∈l.set i u:=by
 obtain⟨j,hj⟩:=List.mem_iff_getElem?.1 hv
 have iI:i≠j:=fun e=>by
  subst e;rw[ho] at hj;exact cT (Option.some.inj hj).symm
 exact List.mem_iff_getElem?.2 ⟨j,by rw[List.getElem?_set_ne iI];exact hj⟩
theorem E_{l:List Nat}(hn:l.Nodup){i v u o:Nat}(ho:l[i]?=some o)(hv:v∈l.set i u):v=u\/(v∈l/\v≠o):=by
 obtain⟨j,hj⟩:=List.mem_iff_getElem?.1 hv;rw[List.getElem?_set] at hj;by_cases e:i=j
 ·rw[if_pos e] at hj
  split at hj
  ·exact .inl (Option.some.inj hj).symm
  ·cases hj
 ·rw[if_neg e] at hj
  refine .inr ⟨List.mem_iff_getElem?.2 ⟨j,hj⟩,fun h=>?_⟩;subst h;have h1:=(List.getElem?_eq_some_iff.1 ho).1;exact e ((List.getElem?_inj h1 hn).1 (ho.trans hj.symm))
def Nm(can:Nat->Nat->Bool)(cap:Nat->Nat)(M:Nat)(W:Nat->Prop)(u:Nat)(s:Plc)(x:Bool×Plc):Prop :=
 match x with
 | (false,s')=>Stuck can cap M (· = u) s s'/\u∈s'.r
 | (true,s')=>Gave can cap M W u s s'
theorem Gave.moved {u m o i:Nat} {s sj s2:Plc} (h:PlcPre can cap M W s) (hW:W u) (hh:∀ m,u∈s.g m->s.t m=true) (hm:m<M) (hc:can u m=true) (ht:s.t m=false)
  (hg:sj.g=s.g) (ha:sj.a=s.a) (Bj:∀ m,s.t m=true->sj.t m=true) (qQ:sj.t m=true) (ho:(s.g m)[i]?=some o) (sH:Gave can cap M W o sj s2) :
  Gave can cap M W u s { s2 with g:=aM s2.g m ((s2.g m).set i u),a:=aM s2.a u (m:Int) }:=by
 have vW:o∈s.g m:=List.mem_of_getElem? ho
 have Wn:u ∉ s.g m:=fun h'=>by rw[hh m h'] at ht;cases ht
 have eV:u≠o:=fun e=>Wn (by rw[e];exact vW)
 have gI:s2.g m=s.g m:=by rw[sH.kept m qQ,hg]
 have bI:s.a o=(m:Int):=(h.own m o vW).2.2.2;refine⟨fun m' h1=>?_,fun m'=>?_,fun m'=>?_,fun m' v h1 h2=>?_,fun m' v h1 h2 h3=>?_,fun v m' h1 h2=>?_,⟨m,ht,cE _ _ _⟩,fun v h1=>?_,fun v h1=>?_⟩
 ·have cT:m'≠m:=fun e=>by rw[e,ht] at h1;cases h1
  show aM s2.g m _ m'=_;rw[dA _ _ _ cT,sH.kept m' (Bj m' h1),hg]
 ·show(aM s2.g m _ m').length<=_
  by_cases e:m'=m
  ·subst e;rw[cE,List.length_set];exact sH.few _
  ·rw[dA _ _ _ e];exact sH.few _
 ·show(aM s2.g m _ m').Nodup
  by_cases e:m'=m
  ·subst e;rw[cE,gI];exact C_ (h.nodup _) Wn i
  ·rw[dA _ _ _ e];exact sH.nodup _
 ·change v∈aM s2.g m _ m' at h2
  show _/\_/\_/\aM s2.a u _ v=_;by_cases e:m'=m
  ·subst e
   rw[cE,gI] at h2;rcases E_ (h.nodup _) ho h2 with h3 | ⟨h3,h4⟩
   ·subst h3;exact⟨hm,hc,hW,cE _ _ _⟩
   ·obtain⟨b1,b2,b3,b4⟩:=h.own _ v h3
    have iJ:v≠u:=fun e=>Wn (by rw[<- e];exact h3)
    rw[dA _ _ _ iJ,sH.same _ v qQ (by rw[hg];exact h3) h4,ha];exact⟨b1,b2,b3,b4⟩
  ·rw[dA _ _ _ e] at h2
   cases hj:sj.t m' with
   | true =>
    rw[sH.kept m' hj,hg] at h2;obtain⟨b1,b2,b3,b4⟩:=h.own _ v h2
    have Ja:v≠o:=fun e'=>e (h.toPlcOk.one h2 (by rw[e'];exact vW))
    have iJ:v≠u:=fun e'=>by rw[hh m' (by rw[<- e'];exact h2)] at h1;cases h1
    rw[dA _ _ _ iJ,sH.same _ v hj (by rw[hg];exact h2) Ja,ha];exact⟨b1,b2,b3,b4⟩
   | false =>
    obtain⟨b1,b2,b3,b4⟩:=sH.own m' v hj h2
    have iJ:v≠u:=fun e'=>by
     subst e';have h5:=(sH.has v eV).1 (by rw[b4];omega);rw[ha] at h5;obtain⟨m0,cN⟩:∃ m0:Nat,s.a v=(m0:Int):=⟨(s.a v).toNat,by omega⟩;have h6:=h.told v m0 hW cN;have h7:=Bj m0 (hh m0 h6);have h8:=sH.same m0 v h7 (by rw[hg];exact h6) eV;rw[ha,cN,b4] at h8;rw[<- Int.ofNat.inj h8,hj] at h7;cases h7
    rw[dA _ _ _ iJ];exact⟨b1,b2,b3,b4⟩
 ·show aM s2.a u _ v=_
  have cT:m'≠m:=fun e=>by rw[e,ht] at h1;cases h1
  have Ja:v≠o:=fun e'=>cT (h.toPlcOk.one h2 (by rw[e'];exact vW))
  rw[dA _ _ _ h3,sH.same m' v (Bj m' h1) (by rw[hg];exact h2) Ja,ha]
 ·change aM s2.a u _ v=_ at h2
  show v∈aM s2.g m _ m';by_cases e:v=u
  ·subst e
   rw[cE] at h2;rw[<- Int.ofNat.inj h2,cE,gI];exact List.mem_iff_getElem?.2 ⟨i,List.getElem?_set_self (List.getElem?_eq_some_iff.1 ho).1⟩
  ·rw[dA _ _ _ e] at h2
   have h3:=sH.told v m' h1 h2;by_cases e2:m'=m
   ·subst e2
    rw[cE];refine D_ (o:=o) (by rw[gI];exact ho) h3 (fun e3=>?_);subst e3;obtain⟨m1,h4,h5⟩:=sH.this;rw[h5] at h2;rw[Int.ofNat.inj h2,qQ] at h4;cases h4
   ·rw[dA _ _ _ e2];exact h3
 ·show 0<=aM s2.a u _ v↔_
  rw[dA _ _ _ h1];by_cases e:v=o
  ·subst e
   obtain⟨m1,h4,h5⟩:=sH.this;rw[h5,bI];exact⟨fun _=>by omega,fun _=>by omega⟩
  ·rw[sH.has v e,ha]
 ·show aM s2.a u _ v=_
  have iJ:v≠u:=fun e=>h1 (by rw[e];exact hW)
  rw[dA _ _ _ iJ,sH.else_ v h1,ha]
theorem Gave.room {u m:Nat} {s sj:Plc} (h:PlcPre can cap M W s) (hW:W u) (hh:∀ m,u∈s.g m->s.t m=true) (hm:m<M) (hc:can u m=true) (ht:s.t m=false)
  (hg:sj.g=s.g) (ha:sj.a=s.a) (hl:(s.g m).length<cap m) :
  Gave can cap M W u s { sj with g:=aM sj.g m (sj.g m++[u]),a:=aM sj.a u (m:Int) }:=by
 have Wn:u ∉ s.g m:=fun h'=>by rw[hh m h'] at ht;cases ht
 refine⟨fun m' h1=>?_,fun m'=>?_,fun m'=>?_,fun m' v h1 h2=>?_,fun m' v h1 h2 h3=>?_,fun v m' h1 h2=>?_,⟨m,ht,cE _ _ _⟩,fun v h1=>?_,fun v h1=>?_⟩
 ·have cT:m'≠m:=fun e=>by rw[e,ht] at h1;cases h1
  show aM sj.g m _ m'=_;rw[dA _ _ _ cT,hg]
 ·show(aM sj.g m _ m').length<=_
  by_cases e:m'=m
  ·subst e;rw[cE,hg,List.length_append];exact hl
  ·rw[dA _ _ _ e,hg];exact h.few _
 ·show(aM sj.g m _ m').Nodup
  by_cases e:m'=m
  ·subst e
   rw[cE,hg,List.nodup_append];exact⟨h.nodup _,by simp,fun a ha b hb=>by rw[List.mem_singleton.1 hb];exact fun e=>Wn (by rw[<- e];exact ha)⟩
  ·rw[dA _ _ _ e,hg];exact h.nodup _
 ·change v∈aM sj.g m _ m' at h2
  show _/\_/\_/\aM sj.a u _ v=_;by_cases iJ:v=u
  ·subst iJ
   by_cases e:m'=m
   ·subst e;exact⟨hm,hc,hW,cE _ _ _⟩
   ·rw[dA _ _ _ e,hg] at h2
    rw[hh m' h2] at h1;cases h1
  ·rw[dA _ _ _ iJ,ha]
   by_cases e:m'=m
   ·subst e
    rw[cE,hg] at h2;rcases List.mem_append.1 h2 with h3 | h3
    ·exact h.own _ v h3
    ·exact absurd (List.mem_singleton.1 h3) iJ
   ·rw[dA _ _ _ e,hg] at h2
    exact h.own _ v h2
 ·show aM sj.a u _ v=_
  rw[dA _ _ _ h3,ha]
 ·change aM sj.a u _ v=_ at h2
  show v∈aM sj.g m _ m';by_cases e:v=u
  ·subst e
   rw[cE] at h2;rw[<- Int.ofNat.inj h2,cE];simp
  ·rw[dA _ _ _ e,ha] at h2
   have h3:=h.told v m' h1 h2;by_cases e2:m'=m
   ·subst e2;rw[cE,hg];exact List.mem_append_left _ h3
   ·rw[dA _ _ _ e2,hg];exact h3
 ·show 0<=aM sj.a u _ v↔_
  rw[dA _ _ _ h1,ha]
 ·show aM sj.a u _ v=_
  have iJ:v≠u:=fun e=>h1 (by rw[e];exact hW)
  rw[dA _ _ _ iJ,ha]
structure PlcCall (can:Nat->Nat->Bool) (cap:Nat->Nat) (M:Nat) (W:Nat->Prop) (u:Nat) (s:Plc):Prop extends PlcPre can cap M W s where
 win:W u
 fresh:u ∉ s.r
 held:∀ m,u∈s.g m->s.t m=true
theorem F_ {n:Nat} {rec:Nat->Plc->Bool×Plc} (qR:∀ u s,PlcCall can cap M W u s->lM M s<n->Nm can cap M W u s (rec u s)) {u m:Nat} {s s1:Plc} (h:PlcPre can cap M W s) (hW:W u) (hh:∀ m,u∈s.g m->s.t m=true) (hm:m<M) (hc:can u m=true) (ht:s.t m=false)
  (mQ:s1={ s with t:=aM s.t m true }) (hn:lM M s<=n):∀ (os:List Nat) (i:Nat) (sj:Plc),(s.g m).drop i=os->Stuck can cap M (fun v=>v∈(s.g m).take i) s1 sj->(∀ v,v∈(s.g m).take i->v∈sj.r) ->
  match sC rec m u os i sj with
  | (false,s')=>Stuck can cap M (fun v=>v∈s.g m) s1 s'/\∀ v,v∈s.g m->v∈s'.r
  | (true,s')=>Gave can cap M W u s s':=by
 intro os
 induction os with
 | nil =>
  intro i sj hd aV aT;have hl:(s.g m).take i=s.g m:=List.take_of_length_le (by have:=congrArg List.length hd;simp at this;omega);rw[hl] at aV aT;exact⟨aV,aT⟩
 | cons o os ih =>
  intro i sj hd aV aT
  have aQ:i<(s.g m).length:=by
   have:=congrArg List.length hd;simp at this;omega
  rw[List.drop_eq_getElem_cons aQ] at hd;obtain⟨ho,uG⟩:=List.cons.inj hd
  have iX:(s.g m)[i]?=some o:=by rw[List.getElem?_eq_getElem aQ,ho]
  have vW:o∈s.g m:=List.mem_of_getElem? iX
  have xE:s1.g=s.g:=by rw[mQ]
  have qh:s1.a=s.a:=by rw[mQ]
  have vX:s1.t m=true:=by rw[mQ];exact cE _ _ _
  have yR:∀ m',s.t m'=true->s1.t m'=true:=fun m' h1=>by
   rw[mQ];show aM s.t m true m'=true;unfold aM;split
   ·rfl
   ·exact h1
  have hP1:PlcPre can cap M W s1:=by
   refine⟨⟨fun m=>by rw[xE];exact h.few m,fun m u hu=>by rw[xE] at hu;rw[qh];exact h.own m u hu,fun m=>by rw[xE];exact h.nodup m,fun u m hu ha=>by rw[qh] at ha;rw[xE];exact h.told u m hu ha⟩,fun v hv m' gU=>?_,by rw[mQ];exact h.reach⟩;rw[xE] at gU
   have hv:v∈s.r:=by rw[mQ] at hv;exact hv
   exact yR m' (h.tried v hv m' gU)
  have yS:sj.g=s.g:=aV.g.trans xE;have Fv:sj.a=s.a:=aV.a.trans qh;have qQ:sj.t m=true:=aV.more m vX
  have hPj:PlcPre can cap M W sj:=hP1.after aV (fun v hv m' gU=>by
   rw[xE] at gU
   rw[h.toPlcOk.one gU (List.mem_of_mem_take hv)];exact qQ)
  have Fw:o ∉ sj.r:=fun hr=>by
   by_cases e:o∈s1.r
   ·have:=h.tried o (by rw[mQ] at e;exact e) m vW
    rw[ht] at this;cases this
   ·rcases aV.newr o hr e with h1 | ⟨m',h1,h2,h3⟩
    ·obtain⟨j,hj⟩:=List.mem_iff_getElem?.1 h1
     have nJ:j<i:=by
      have:=(List.getElem?_eq_some_iff.1 hj).1;rw[List.length_take] at this;omega
     rw[List.getElem?_take_of_lt nJ] at hj;have:=(List.getElem?_inj (by omega) (h.nodup m)).1 (hj.trans iX.symm);omega
    ·rw[xE] at h3
     rw[<- h.toPlcOk.one vW h3,vX] at h1;cases h1
  have dU:PlcCall can cap M W o sj:=⟨hPj,(h.own m o vW).2.2.1,Fw,fun m' gU=>by rw[yS] at gU;rw[h.toPlcOk.one gU vW];exact qQ⟩;have hu:lM M sj<n:=Nat.lt_of_lt_of_le (QF (s:=s) (fun m' h1=>aV.more m' (yR m' h1)) hm ht qQ) hn;have Bk:=qR o sj dU hu;unfold sC
  cases hr:rec o sj with
  | mk b s2 =>
   rw[hr] at Bk
   cases b with
   | true=>exact Gave.moved h hW hh hm hc ht yS Fv (fun m' h1=>aV.more m' (yR m' h1)) qQ iX Bk
   | false =>
    obtain⟨dI,gM⟩:=Bk
    have Tq:(s.g m).take (i+1)=(s.g m).take i++[o]:=by rw[List.take_add_one,iX];rfl
    refine ih (i+1) s2 uG (aV.trans dI (fun v hv=>.inl (by rw[Tq];exact List.mem_append_left _ hv)) (fun v hv=>.inl (by rw[Tq,hv];simp))) (fun v hv=>?_);rw[Tq] at hv;rcases List.mem_append.1 hv with h1 | h1
    ·exact dI.old.subset (aT v h1)
    ·rw[List.mem_singleton.1 h1];exact gM
theorem G_{n:Nat}{rec:Nat->Plc->Bool×Plc}(qR:∀ u s,PlcCall can cap M W u s->lM M s<n->Nm can cap M W u s (rec u s)){u:Nat}{s0:Plc}(h:PlcPre can cap M W s0)(hW:W u)(hh:∀ m,u∈s0.g m->s0.t m=true)(hn:lM M s0<=n) :
  ∀ (ms:List Nat) (k:Nat) (s:Plc),(List.range M).drop k=ms->Stuck can cap M (fun _=>False) s0 s->(∀ m,m<k->can u m=true->s.t m=true) ->
  match qM can cap rec u ms s with
  | (false,s')=>Stuck can cap M (fun _=>False) s0 s'/\∀ m,m<M->can u m=true->s'.t m=true
  | (true,s')=>Gave can cap M W u s0 s':=by
 intro ms
 induction ms with
 | nil =>
  intro k s hd aV aA;refine⟨aV,fun m hm hc=>aA m ?_ hc⟩;have:=congrArg List.length hd;simp at this;omega
 | cons m ms ih =>
  intro k s hd aV aA
  have aQ:k<(List.range M).length:=by
   have:=congrArg List.length hd;simp at this;simp;omega
  rw[List.drop_eq_getElem_cons aQ] at hd;obtain⟨hm,uG⟩:=List.cons.inj hd;rw[List.getElem_range] at hm;subst hm;rw[List.length_range] at aQ;have hP:PlcPre can cap M W s:=h.after aV (fun v hv=>hv.elim)
  have hh2:∀ m,u∈s.g m->s.t m=true:=fun m hm=>by rw[aV.g] at hm;exact aV.more m (hh m hm)
  unfold qM du;by_cases Tr:(!can u k||s.t k)=true
  ·rw[if_pos Tr]
   refine ih (k+1) s uG aV (fun m hm hc=>?_);by_cases e:m=k
   ·subst e
    rw[hc] at Tr;simpa using Tr
   ·exact aA m (by omega) hc
  ·rw[if_neg Tr]
   simp only[Bool.or_eq_true,Bool.not_eq_true',not_or,Bool.not_eq_false,Bool.not_eq_true] at Tr;obtain⟨hc,ht⟩:=Tr
   have Bl:s0.t k=false:=by
    cases e:s0.t k with
    | false=>rfl
    | true=>rw[aV.more k e] at ht;cases ht
   by_cases hl:(s.g k).length<cap k
   ·rw[if_pos hl]
    have kW:(s0.g k).length<cap k:=by rw[<- aV.g];exact hl
    exact Gave.room (sj:={ s with t:=aM s.t k true }) h hW hh aQ hc Bl aV.g aV.a kW
   ·rw[if_neg hl]
    have mQ:Stuck can cap M (fun v=>v∈(s.g k).take 0) { s with t:=aM s.t k true } { s with t:=aM s.t k true }:=Stuck.refl _ hP.reach;have key:=F_ qR hP hW hh2 aQ hc ht rfl (Nat.le_trans (CI aV.more) hn) (s.g k) 0 { s with t:=aM s.t k true } rfl mQ (fun v hv=>by simp at hv)
    cases hr:sC rec k u (s.g k) 0 { s with t:=aM s.t k true } with
    | mk b s2 =>
     rw[hr] at key
     cases b with
     | true =>
      refine⟨fun m h1=>?_,key.few,key.nodup,fun m v h1 h2=>?_,fun m v h1 h2 h3=>?_,key.told,?_,fun v h1=>?_,fun v h1=>?_⟩
      ·rw[key.kept m (aV.more m h1),aV.g]
      ·cases e:s.t m with
       | false=>exact key.own m v e h2
       | true =>
        rw[key.kept m e] at h2;obtain⟨b1,b2,b3,b4⟩:=hP.own m v h2
        have iJ:v≠u:=fun e2=>by
         subst e2;rw[aV.g] at h2;rw[hh m h2] at h1;cases h1
        exact⟨b1,b2,b3,by rw[key.same m v e h2 iJ];exact b4⟩
      ·rw[key.same m v (aV.more m h1) (by rw[aV.g];exact h2) h3,aV.a]
      ·obtain⟨m1,h4,h5⟩:=key.this
       refine⟨m1,?_,h5⟩
       cases e:s0.t m1 with
       | false=>rfl
       | true=>rw[aV.more m1 e] at h4;cases h4
      ·rw[key.has v h1,aV.a]
      ·rw[key.else_ v h1,aV.a]
     | false =>
      obtain⟨dI,aD⟩:=key
      have qi:Stuck can cap M (fun _=>False) s0 s2:=by
       have sI:s2.t k=true:=dI.more k (cE _ _ _);refine⟨dI.g.trans aV.g,dI.a.trans aV.a,fun m hm=>dI.more m ?_,aV.old.trans dI.old,fun m h1 h2=>?_,fun v h1 h2 m hm Pe=>?_,fun v h1 h2=>?_,dI.reach⟩
       ·show aM s.t k true m=true
        unfold aM;split
        ·rfl
        ·exact aV.more m hm
       ·by_cases e:m=k
        ·subst e
         exact⟨by rw[<- aV.g];omega,aQ,fun v hv=>aD v (by rw[aV.g];exact hv)⟩
        ·by_cases e2:s.t m=true
         ·obtain⟨a,b,c⟩:=aV.full m e2 h2
          exact⟨a,b,fun v hv=>dI.old.subset (c v hv)⟩
         ·obtain⟨a,b,c⟩:=dI.full m h1 (by show aM s.t k true m=false;rw[dA _ _ _ e];simpa using e2)
          have Ln:({ s with t:=aM s.t k true }:Plc).g=s0.g:=aV.g;rw[Ln] at a c;exact⟨a,b,c⟩
       ·by_cases e:v∈s.r
        ·refine dI.more m ?_
         show aM s.t k true m=true;unfold aM;split
         ·rfl
         ·exact aV.shut v e h2 m hm Pe
        ·exact dI.shut v h1 e m hm Pe
       ·by_cases e:v∈s.r
        ·rcases aV.newr v e h2 with h3 | ⟨m,h3,h4,h5⟩
         ·exact h3.elim
         ·refine .inr ⟨m,h3,dI.more m ?_,h5⟩
          show aM s.t k true m=true;unfold aM;split
          ·rfl
          ·exact h4
        ·rcases dI.newr v h1 e with h3 | ⟨m,h3,h4,h5⟩
         ·exact .inr ⟨k,Bl,sI,by rw[<- aV.g];exact h3⟩
         ·have h5:v∈s.g m:=h5
          rw[aV.g] at h5;refine .inr ⟨m,?_,h4,h5⟩;have h3:aM s.t k true m=false:=h3
          cases e2:s0.t m with
          | false=>rfl
          | true =>
           have:=aV.more m e2;unfold aM at h3
           split at h3
           ·cases h3
           ·rw[this] at h3;cases h3
      refine ih (k+1) s2 uG qi (fun m hm kX=>?_);by_cases e:m=k
      ·subst e;exact dI.more m (cE _ _ _)
      ·refine dI.more m ?_
       show aM s.t k true m=true;rw[dA _ _ _ e];exact aA m (by omega) kX
theorem CJ:∀ (f u:Nat) (s:Plc),PlcCall can cap M W u s->lM M s<=f->Nm can cap M W u s (Fd can cap M f u s):=by
 have step:∀ (n:Nat) (rec:Nat->Plc->Bool×Plc),(∀ u s,PlcCall can cap M W u s->lM M s<n->Nm can cap M W u s (rec u s))->∀ u s,PlcCall can cap M W u s->lM M s<=n->Nm can cap M W u s (qM can cap rec u (List.range M) { s with r:=s.r++[u] }):=by
  intro n rec qR u s h hn
  have h0:PlcPre can cap M W { s with r:=s.r++[u] }:=by
   refine⟨⟨h.few,h.own,h.nodup,h.told⟩,fun v hv m hm=>?_,?_⟩
   ·rcases List.mem_append.1 hv with h1 | h1
    ·exact h.tried v h1 m hm
    ·rw[List.mem_singleton.1 h1] at hm;exact h.held m hm
   ·show(s.r++[u]).Nodup
    rw[List.nodup_append];exact⟨h.reach,by simp,fun a ha b hb=>by rw[List.mem_singleton.1 hb];exact fun e=>h.fresh (by rw[<- e];exact ha)⟩
  have key:=G_ qR h0 h.win h.held hn (List.range M) 0 { s with r:=s.r++[u] } rfl (Stuck.refl _ h0.reach) (fun m hm=>absurd hm (Nat.not_lt_zero m));unfold Nm
  cases hr:qM can cap rec u (List.range M) { s with r:=s.r++[u] } with
  | mk b s2 =>
   rw[hr] at key
   cases b with
   | true=>exact⟨key.kept,key.few,key.nodup,key.own,key.same,key.told,key.this,key.has,key.else_⟩
   | false =>
    obtain⟨aV,Bn⟩:=key;have qj:u∈s2.r:=aV.old.subset (by show u∈s.r++[u];simp);refine⟨⟨aV.g,aV.a,aV.more,List.IsPrefix.trans (List.prefix_append _ _) aV.old,aV.full,fun v h1 h2 m hm hc=>?_,fun v h1 h2=>?_,aV.reach⟩,qj⟩
    ·by_cases e:v=u
     ·subst e;exact Bn m hm hc
     ·exact aV.shut v h1 (fun h3=>by
       rcases List.mem_append.1 h3 with h4 | h4
       ·exact h2 h4
       ·exact e (List.mem_singleton.1 h4)) m hm hc
    ·by_cases e:v=u
     ·exact .inl e
     ·rcases aV.newr v h1 (fun h3=>by
       rcases List.mem_append.1 h3 with h4 | h4
       ·exact h2 h4
       ·exact e (List.mem_singleton.1 h4)) with h3 | h3
      ·exact h3.elim
      ·exact .inr h3
 intro f
 induction f with
 | zero=>exact fun u s h hn=>step 0 _ (fun _ _ _ h'=>absurd h' (Nat.not_lt_zero _)) u s h hn
 | succ f ih=>exact fun u s h hn=>step (f+1) _ (fun u' s' h' GL=>ih u' s' h' (by omega)) u s h hn
end
end
section
structure Tbl where
 U:Nat
 M:Nat
 can:Nat->Nat->Bool
 win:Nat->Nat
 cap:Nat->Nat->Nat
def lg(C:Tbl)(a:Nat->Nat)(m w:Nat):Nat:=(List.range C.U).countP (fun u=>a u==m&&C.win u==w)
structure Legal (C:Tbl) (a:Nat->Nat):Prop where
 mem:∀ u,u<C.U->a u<C.M
 can:∀ u,u<C.U->C.can u (a u)=true
 few:∀ m w,lg C a m w<=C.cap m w
def Si(C:Tbl)(set:List Nat)(w:Nat):Nat:=((List.range C.M).map (fun m=>if set.any (fun u=>C.can u m)=true then C.cap m w else 0)).sum
structure Short (C:Tbl) (set:List Nat) (w:Nat):Prop where
 nodup:set.Nodup
 win:∀ u,u∈set->u<C.U/\C.win u=w
 few:Si C set w<set.length
theorem Sj:∀ (l r:List Nat),l.Nodup->(∀ x,x∈l->x∈r)->l.length<=r.length
 | [],_,_,_=>Nat.zero_le _
 | x::l,r,hn,h=>by
  rw[List.nodup_cons] at hn;have hx:=h x (List.mem_cons_self ..);have:=Sj l (r.erase x) hn.2 (fun y hy=>(List.mem_erase_of_ne (fun e=>hn.1 (by rw[<- e];exact hy))).2 (h y (List.mem_cons_of_mem _ hy)));rw[List.length_erase_of_mem hx] at this;have h0:0<r.length:=List.length_pos_of_mem hx;rw[List.length_cons];omega
theorem lh{f g:Nat->Nat}:∀ (l:List Nat),(∀ m,m∈l->f m<=g m)->(l.map f).sum<=(l.map g).sum
 | [],_=>Nat.le_refl _
 | x::l,h=>by
  have h1:=h x (List.mem_cons_self ..);have h2:=lh l (fun m hm=>h m (List.mem_cons_of_mem _ hm));simp only[List.map_cons,List.sum_cons];omega
theorem QG(f g:Nat->Nat):∀ (l:List Nat),(l.map (fun m=>f m+g m)).sum=(l.map f).sum+(l.map g).sum
 | []=>rfl
 | x::l=>by
  have:=QG f g l;simp only[List.map_cons,List.sum_cons];omega
theorem QH:∀ (l:List Nat),(l.map (fun _=>0)).sum=0
 | []=>rfl
 | x::l=>by simp only[List.map_cons,List.sum_cons,QH l]
theorem QI(x:Nat):∀ n,((List.range n).map (fun m=>if x==m then 1 else 0)).sum=if x<n then 1 else 0
 | 0=>by simp
 | n+1=>by
  rw[List.range_succ,List.map_append,List.sum_append,QI x n];simp only[List.map_cons,List.map_nil,List.sum_cons,List.sum_nil,Nat.add_zero];by_cases h1:x<n
  ·rw[if_pos h1,if_neg (by simp;omega),if_pos (by omega)]
  ·rw[if_neg h1]
   by_cases h2:x=n
   ·rw[if_pos (by simpa using h2),if_pos (by omega)]
   ·rw[if_neg (by simpa using h2),if_neg (by omega)]
theorem li(f:Nat->Nat)(n:Nat):∀ l:List Nat,((List.range n).map (fun m=>l.countP (fun u=>f u==m))).sum=l.countP (fun u=>decide (f u<n))
 | []=>by simp only[List.countP_nil];exact QH _
 | x::l=>by
  have h:(fun m=>(x::l).countP (fun u=>f u==m))=(fun m=>l.countP (fun u=>f u==m)+if f x==m then 1 else 0):=by
   funext m
   rw[List.countP_cons]
  rw[h,QG,li f n l,QI,List.countP_cons];simp only[decide_eq_true_eq]
theorem Short.none{C:Tbl}{set:List Nat}{w:Nat}(h:Short C set w)(a:Nat->Nat):¬ Legal C a:=fun hl=>by
 have h1:set.countP (fun u=>decide (a u<C.M))=set.length:=by
  rw[List.countP_eq_length];intro u hu;exact decide_eq_true (hl.mem u (h.win u hu).1)
 have h2:=li a C.M set;rw[h1] at h2
 have h3:((List.range C.M).map (fun m=>set.countP (fun u=>a u==m))).sum<=Si C set w:=by
  unfold Si;refine lh _ (fun m hm=>?_);by_cases e:set.any (fun u=>C.can u m)=true
  ·rw[if_pos e]
   refine Nat.le_trans ?_ (hl.few m w);unfold lg;rw[List.countP_eq_length_filter,List.countP_eq_length_filter];refine Sj _ _ (h.nodup.filter _) (fun u hu=>?_);rw[List.mem_filter] at hu ⊢;obtain⟨h4,h5⟩:=hu;obtain⟨h6,h7⟩:=h.win u h4;refine⟨List.mem_range.2 h6,?_⟩;rw[h5,h7];simp
  ·rw[if_neg e,Nat.le_zero,List.countP_eq_zero]
   intro u hu he;refine e (List.any_eq_true.2 ⟨u,hu,?_⟩);rw[<- beq_iff_eq.1 he];exact hl.can u (h.win u hu).1
 have:=h.few;omega
structure Mst where
 G:Nat->Nat->List Nat
 a:Nat->Int
def Hg(C:Tbl)(u:Nat)(s:Mst):Bool×Plc:=Fd C.can (fun m=>C.cap m (C.win u)) C.M C.M u ⟨s.G (C.win u),s.a,fun _=>false,[]⟩
def sD(C:Tbl):Nat->Nat->Mst->Except (List Nat) Mst
 | 0,_,s=>.ok s
 | n+1,u,s =>
  match Hg C u s with
  | (true,p)=>sD C n (u+1) ⟨aM s.G (C.win u) p.g,p.a⟩
  | (false,p)=>.error p.r
structure MstOk (C:Tbl) (k:Nat) (s:Mst):Prop where
 ok:∀ w t r,PlcOk C.can (fun m=>C.cap m w) C.M (fun u=>u<C.U/\C.win u=w) ⟨s.G w,s.a,t,r⟩
 done:∀ u,u<k->0<=s.a u
 left:∀ u,k<=u->s.a u<0
theorem CK(M:Nat)(g:Nat->List Nat)(a:Nat->Int)(r:List Nat):lM M ⟨g,a,fun _=>false,r⟩<=M:=by
 unfold lM;exact Nat.le_trans (List.length_filter_le _ _) (by rw[List.length_range];exact Nat.le_refl _)
theorem MstOk.call{C:Tbl}{k:Nat}{s:Mst}(h:MstOk C k s)(hk:k<C.U):PlcCall C.can (fun m=>C.cap m (C.win k)) C.M (fun u=>u<C.U/\C.win u=C.win k) k ⟨s.G (C.win k),s.a,fun _=>false,[]⟩:=by
 refine⟨⟨h.ok _ _ _,fun v hv=>by simp at hv,List.nodup_nil⟩,⟨hk,rfl⟩,by simp,fun m hm=>?_⟩;have h1:=((h.ok (C.win k) (fun _=>false) []).own m k hm).2.2.2;have h2:=h.left k (Nat.le_refl _);have h1:s.a k=(m:Int):=h1;omega
theorem MstOk.next{C:Tbl}{k:Nat}{s:Mst}(h:MstOk C k s)(hk:k<C.U){p:Plc}(hp:Hg C k s=(true,p)):MstOk C (k+1) ⟨aM s.G (C.win k) p.g,p.a⟩:=by
 have key:=CJ C.M k _ (h.call hk) (CK _ _ _ _);unfold Hg at hp;rw[hp] at key;have key:Gave _ _ _ _ _ _ _:=key;refine⟨fun w t r=>?_,fun u hu=>?_,fun u hu=>?_⟩
 ·by_cases e:w=C.win k
  ·subst e
   refine⟨fun m=>?_,fun m u hu=>?_,fun m=>?_,fun u m hu ha=>?_⟩
   ·show(aM s.G _ p.g _ m).length<=_
    rw[cE];exact key.few m
   ·change u∈aM s.G _ p.g _ m at hu
    rw[cE] at hu;exact key.own m u rfl hu
   ·show(aM s.G _ p.g _ m).Nodup
    rw[cE];exact key.nodup m
   ·show u∈aM s.G _ p.g _ m
    rw[cE];exact key.told u m hu ha
  ·have hw:=h.ok w t r
   have cT:∀ u,u<C.U/\C.win u=w->p.a u=s.a u:=fun u hu=>key.else_ u (fun h'=>e (hu.2.symm.trans h'.2))
   refine⟨fun m=>?_,fun m u hu=>?_,fun m=>?_,fun u m hu ha=>?_⟩
   ·show(aM s.G _ p.g w m).length<=_
    rw[dA _ _ _ e];exact hw.few m
   ·change u∈aM s.G _ p.g w m at hu
    rw[dA _ _ _ e] at hu;obtain⟨b1,b2,b3,b4⟩:=hw.own m u hu;exact⟨b1,b2,b3,(cT u b3).trans b4⟩
   ·show(aM s.G _ p.g w m).Nodup
    rw[dA _ _ _ e];exact hw.nodup m
   ·show u∈aM s.G _ p.g w m
    rw[dA _ _ _ e];exact hw.told u m hu ((cT u hu).symm.trans ha)
 ·show 0<=p.a u
  by_cases e:u=k
  ·subst e
   obtain⟨m,-,h2⟩:=key.this;rw[h2];omega
  ·exact(key.has u e).2 (h.done u (by omega))
 ·show p.a u<0
  have h1:=h.left u (by omega);have h2:=key.has u (by omega)
  have h3:¬ 0<=s.a u:=by omega
  have h4:¬ 0<=p.a u:=fun h5=>h3 (h2.1 h5)
  omega
theorem MstOk.legal{C:Tbl}{s:Mst}(h:MstOk C C.U s):Legal C (fun u=>(s.a u).toNat):=by
 have hn:∀ u,u<C.U->s.a u=(((s.a u).toNat:Nat):Int):=fun u hu=>by have:=h.done u hu;omega
 have aT:∀ u,u<C.U->u∈s.G (C.win u) (s.a u).toNat:=fun u hu=>(h.ok (C.win u) (fun _=>false) []).told u _ ⟨hu,rfl⟩ (hn u hu)
 refine⟨fun u hu=>?_,fun u hu=>?_,fun m w=>?_⟩
 ·exact((h.ok (C.win u) (fun _=>false) []).own _ u (aT u hu)).1
 ·exact((h.ok (C.win u) (fun _=>false) []).own _ u (aT u hu)).2.1
 ·refine Nat.le_trans ?_ ((h.ok w (fun _=>false) []).few m)
  show lg C _ m w<=(s.G w m).length;unfold lg;rw[List.countP_eq_length_filter];refine Sj _ _ (List.nodup_range.filter _) (fun u hu=>?_);rw[List.mem_filter] at hu;obtain⟨h1,h2⟩:=hu;rw[Bool.and_eq_true,beq_iff_eq,beq_iff_eq] at h2;have:=aT u (List.mem_range.1 h1);have h3:(s.a u).toNat=m:=h2.1
  rwa [h3,h2.2] at this
theorem MstOk.short{C:Tbl}{k:Nat}{s:Mst}(h:MstOk C k s)(hk:k<C.U){p:Plc}(hp:Hg C k s=(false,p)):Short C p.r (C.win k)/\k∈p.r:=by
 have key:=CJ C.M k _ (h.call hk) (CK _ _ _ _);unfold Hg at hp;rw[hp] at key;obtain⟨key,uH⟩:Stuck _ _ _ _ _ _/\_:=key;have aJ:=h.ok (C.win k) (fun _=>false) []
 have Pf:∀ v,v∈p.r->v=k\/∃ m,p.t m=true/\v∈s.G (C.win k) m:=fun v hv=>by
  rcases key.newr v hv (by simp) with h1 | ⟨m,-,h2,h3⟩
  ·exact .inl h1
  ·exact .inr ⟨m,h2,h3⟩
 refine⟨⟨key.reach,fun u hu=>?_,?_⟩,uH⟩
 ·rcases Pf u hu with h1 | ⟨m,h1,h2⟩
  ·subst h1;exact⟨hk,rfl⟩
  ·exact(aJ.own m u h2).2.2.1
 ·
  have Pg:=h.left k (Nat.le_refl _)
  let f:Nat->Nat:=fun u=>if s.a u<0 then C.M else(s.a u).toNat
  have h1:=li f (C.M+1) p.r;have h2:p.r.countP (fun u=>decide (f u<C.M+1))<=p.r.length:=List.countP_le_length;rw[List.range_succ,List.map_append,List.sum_append] at h1;simp only[List.map_cons,List.map_nil,List.sum_cons,List.sum_nil,Nat.add_zero] at h1;have h3:0<p.r.countP (fun u=>f u==C.M):=List.countP_pos_iff.2 ⟨k,uH,by show((if s.a k<0 then C.M else _)==C.M)=true;rw[if_pos Pg];simp⟩
  have h4:Si C p.r (C.win k)<=((List.range C.M).map (fun m=>p.r.countP (fun u=>f u==m))).sum:=by
   unfold Si;refine lh _ (fun m hm=>?_);by_cases e:p.r.any (fun u=>C.can u m)=true
   ·rw[if_pos e]
    obtain⟨u,hu,hc⟩:=List.any_eq_true.1 e;have ht:=key.shut u hu (by simp) m (List.mem_range.1 hm) hc;obtain⟨h5,h6,h7⟩:=key.full m ht rfl;refine Nat.le_trans h5 ?_;rw[List.countP_eq_length_filter];refine Sj _ _ (aJ.nodup m) (fun v hv=>List.mem_filter.2 ⟨h7 v hv,?_⟩);have ha:s.a v=(m:Int):=(aJ.own m v hv).2.2.2;show((if s.a v<0 then C.M else(s.a v).toNat)==m)=true;rw[if_neg (by omega),ha];simp
   ·rw[if_neg e];exact Nat.zero_le _
  omega
theorem QJ{C:Tbl}:∀ (n k:Nat) (s:Mst),n+k=C.U->MstOk C k s ->
  match sD C n k s with
  | .ok s'=>MstOk C C.U s'
  | .error r=>∃ u,u<C.U/\u∈r/\Short C r (C.win u)
 | 0,k,s,hn,h=>by
  have:k=C.U:=by omega
  subst this;exact h
 | n+1,k,s,hn,h=>by
  unfold sD
  cases hu:Hg C k s with
  | mk b p =>
   cases b with
   | true=>exact QJ n (k+1) _ (by omega) (h.next (by omega) hu)
   | false =>
    obtain⟨h1,h2⟩:=h.short (by omega) hu;exact⟨k,by omega,h2,h1⟩
def tG:Mst:=⟨fun _ _=>[],fun _=>-1⟩
theorem CL(C:Tbl):MstOk C 0 tG :=
 ⟨fun w t r=>⟨fun m=>Nat.zero_le _,fun m u hu=>by simp[tG] at hu,fun m=>List.nodup_nil,fun u m hu ha=>by have ha:(-1:Int)=(m:Int):=ha;omega⟩,fun u hu=>absurd hu (Nat.not_lt_zero u),fun u hu=>by show(-1:Int)<0;omega⟩
def gD(C:Tbl):Bool:=match sD C C.U 0 tG with | .ok _=>true | .error _=>false
theorem QK(C:Tbl):gD C=true↔∃ a,Legal C a:=by
 have h:=QJ C.U 0 tG (by omega) (CL C)
 unfold gD
 cases hm:sD C C.U 0 tG with
 | ok s =>
  rw[hm] at h;exact⟨fun _=>⟨_,MstOk.legal h⟩,fun _=>rfl⟩
 | error r =>
  rw[hm] at h;obtain⟨u,-,-,hs⟩:=h;exact⟨fun h'=>(by cases h'),fun ⟨a,ha⟩=>absurd ha (hs.none a)⟩
end
section
section
variable {can:Nat->Nat->Bool} {cap:Nat->Nat} {M:Nat} {W:Nat->Prop}
theorem Kq(s:Plc)(m:Nat):∀ m',s.t m'=true->aM s.t m true m'=true:=fun m' h1=>by
 unfold aM;split
 ·rfl
 ·exact h1
theorem QM {s sj:Plc} {m i o:Nat} (h:PlcPre can cap M W s) (hm:m<M) (ht:s.t m=false)
  (aV:Stuck can cap M (fun v=>v∈(s.g m).take i) { s with t:=aM s.t m true } sj) (iX:(s.g m)[i]?=some o):PlcCall can cap M W o sj/\lM M sj<lM M s/\sj.g=s.g/\sj.a=s.a/\sj.t m=true:=by
 have vW:o∈s.g m:=List.mem_of_getElem? iX;have vX:aM s.t m true m=true:=cE _ _ _;have yR:=Kq s m;have hP1:PlcPre can cap M W { s with t:=aM s.t m true }:=⟨⟨h.few,h.own,h.nodup,h.told⟩,fun v hv m' gU=>yR m' (h.tried v hv m' gU),h.reach⟩;have yS:sj.g=s.g:=aV.g;have Fv:sj.a=s.a:=aV.a;have qQ:sj.t m=true:=aV.more m vX
 have hPj:PlcPre can cap M W sj:=hP1.after aV (fun v hv m' gU=>by
  rw[h.toPlcOk.one gU (List.mem_of_mem_take hv)];exact qQ)
 have Fw:o ∉ sj.r:=fun hr=>by
  by_cases e:o∈s.r
  ·have:=h.tried o e m vW
   rw[ht] at this;cases this
  ·rcases aV.newr o hr e with h1 | ⟨m',h1,h2,h3⟩
   ·obtain⟨j,hj⟩:=List.mem_iff_getElem?.1 h1
    have nJ:j<i:=by
     have:=(List.getElem?_eq_some_iff.1 hj).1;rw[List.length_take] at this;omega
    rw[List.getElem?_take_of_lt nJ] at hj;have vY:=(List.getElem?_eq_some_iff.1 iX).1;have:=(List.getElem?_inj (by omega) (h.nodup m)).1 (hj.trans iX.symm);omega
   ·have h3:o∈s.g m':=h3
    have h1:aM s.t m true m'=false:=h1;rw[<- h.toPlcOk.one vW h3,vX] at h1;cases h1
 exact⟨⟨hPj,(h.own m o vW).2.2.1,Fw,fun m' gU=>by rw[yS] at gU;rw[h.toPlcOk.one gU vW];exact qQ⟩,QF (s:=s) (fun m' h1=>aV.more m' (yR m' h1)) hm ht qQ,yS,Fv,qQ⟩
theorem QO{s sj s2:Plc}{m i o:Nat}(aV:Stuck can cap M (fun v=>v∈(s.g m).take i) { s with t:=aM s.t m true } sj)(iX:(s.g m)[i]?=some o)(Ph:Stuck can cap M (· = o) sj s2) :
  Stuck can cap M (fun v=>v∈(s.g m).take (i+1)) { s with t:=aM s.t m true } s2:=by
 have Tq:(s.g m).take (i+1)=(s.g m).take i++[o]:=by rw[List.take_add_one,iX];rfl
 exact aV.trans Ph (fun v hv=>.inl (by rw[Tq];exact List.mem_append_left _ hv)) (fun v hv=>.inl (by rw[Tq,hv];simp))
theorem QP {s0 s s2:Plc} {k:Nat} (aV:Stuck can cap M (fun _=>False) s0 s) (hk:k<M) (ht:s.t k=false) (hl:¬ (s.g k).length<cap k)
  (dI:Stuck can cap M (fun v=>v∈s.g k) { s with t:=aM s.t k true } s2) (aD:∀ v,v∈s.g k->v∈s2.r):Stuck can cap M (fun _=>False) s0 s2:=by
 have Bl:s0.t k=false:=by
  cases e:s0.t k with
  | false=>rfl
  | true=>rw[aV.more k e] at ht;cases ht
 have sI:s2.t k=true:=dI.more k (cE _ _ _);refine⟨dI.g.trans aV.g,dI.a.trans aV.a,fun m hm=>dI.more m (Kq s k m (aV.more m hm)),aV.old.trans dI.old,fun m h1 h2=>?_,fun v h1 h2 m hm Pe=>?_,fun v h1 h2=>?_,dI.reach⟩
 ·by_cases e:m=k
  ·subst e
   exact⟨by rw[<- aV.g];omega,hk,fun v hv=>aD v (by rw[aV.g];exact hv)⟩
  ·by_cases e2:s.t m=true
   ·obtain⟨a,b,c⟩:=aV.full m e2 h2
    exact⟨a,b,fun v hv=>dI.old.subset (c v hv)⟩
   ·obtain⟨a,b,c⟩:=dI.full m h1 (by show aM s.t k true m=false;rw[dA _ _ _ e];simpa using e2)
    have Ln:({ s with t:=aM s.t k true }:Plc).g=s0.g:=aV.g;rw[Ln] at a c;exact⟨a,b,c⟩
 ·by_cases e:v∈s.r
  ·exact dI.more m (Kq s k m (aV.shut v e h2 m hm Pe))
  ·exact dI.shut v h1 e m hm Pe
 ·by_cases e:v∈s.r
  ·rcases aV.newr v e h2 with h3 | ⟨m,h3,h4,h5⟩
   ·exact h3.elim
   ·exact .inr ⟨m,h3,dI.more m (Kq s k m h4),h5⟩
  ·rcases dI.newr v h1 e with h3 | ⟨m,h3,h4,h5⟩
   ·exact .inr ⟨k,Bl,sI,by rw[<- aV.g];exact h3⟩
   ·have h5:v∈s.g m:=h5
    rw[aV.g] at h5;have h3:aM s.t k true m=false:=h3;refine .inr ⟨m,?_,h4,h5⟩
    cases e2:s0.t m with
    | false=>rfl
    | true=>rw[Kq s k m (aV.more m e2)] at h3;cases h3
theorem PlcPre.enter{s:Plc}{u:Nat}(h:PlcCall can cap M W u s):PlcPre can cap M W { s with r:=s.r++[u] }:=by
 refine⟨⟨h.few,h.own,h.nodup,h.told⟩,fun v hv m hm=>?_,?_⟩
 ·rcases List.mem_append.1 hv with h1 | h1
  ·exact h.tried v h1 m hm
  ·rw[List.mem_singleton.1 h1] at hm;exact h.held m hm
 ·show(s.r++[u]).Nodup
  rw[List.nodup_append];exact⟨h.reach,by simp,fun a ha b hb=>by rw[List.mem_singleton.1 hb];exact fun e=>h.fresh (by rw[<- e];exact ha)⟩
def zR(can:Nat->Nat->Bool)(cap:Nat->Nat)(M:Nat):Nat->Nat->Plc->Bool×Plc
 | 0=>fun _ s=>(false,s)
 | f+1=>Fd can cap M f
theorem H_(f u:Nat)(s:Plc):Fd can cap M f u s=qM can cap (zR can cap M f) u (List.range M) { s with r:=s.r++[u] }:=by
 cases f<;>rfl
end
end
section
theorem I_(f:Nat->Nat)(n:Nat):((List.range (n+1)).map f).sum=((List.range n).map f).sum+f n:=by
 rw[List.range_succ,List.map_append,List.sum_append];simp
def oS:Nat->Nat->Nat
 | 0,_=>0
 | k+1,n=>n%2+oS k (n/2)
def jS(s t:Nat):Bool:=s &&& t==s
theorem Kr{s t:Nat}:jS s t=true↔∀ i,s.testBit i=true->t.testBit i=true:=by
 unfold jS;rw[beq_iff_eq];constructor
 ·intro h i hi
  rw[<- h,Nat.testBit_and,Bool.and_eq_true] at hi;exact hi.2
 ·intro h
  apply Nat.eq_of_testBit_eq;intro i;rw[Nat.testBit_and]
  cases hs:s.testBit i with
  | false=>rfl
  | true=>rw[h i hs];rfl
theorem CM{s t:Nat}:jS s t=true↔(s%2=1->t%2=1)/\jS (s/2) (t/2)=true:=by
 rw[Kr,Kr];constructor
 ·intro h
  refine⟨fun h1=>?_,fun i hi=>?_⟩
  ·have:=h 0 (by rw[Nat.testBit_zero];simpa using h1)
   rw[Nat.testBit_zero] at this;simpa using this
  ·rw[<- Nat.testBit_succ] at hi ⊢
   exact h _ hi
 ·rintro⟨h0,h1⟩ i hi
  cases i with
  | zero=>rw[Nat.testBit_zero] at hi ⊢;simpa using h0 (by simpa using hi)
  | succ i=>rw[Nat.testBit_succ] at hi ⊢;exact h1 i hi
def zS(k can room s t:Nat):Bool:=jS s t&&jS (t ^^^ s) can&&decide (oS k (t ^^^ s)<=room)
def lH:Nat:=1152921504606846977
def QQ(L can room:Nat)(now:Nat->Nat)(t:Nat):Nat:=min lH ((List.range (2^L)).map (fun s=>if zS L can room s t=true then now s else 0)).sum
def zT(L:Nat)(can room:Nat->Nat):Nat->Nat->Nat
 | 0,t=>if t=0 then 1 else 0
 | m+1,t=>QQ L (can m) (room m) (zT L can room m) t
end
section
def zU(f:Nat->Bool):Nat->Nat
 | 0=>0
 | k+1=>zU f k ||| (if f k=true then 2^k else 0)
theorem CP(f:Nat->Bool):∀ k,zU f k<2^k
 | 0=>by show(0:Nat)<1;omega
 | k+1=>by
  have h:=CP f k
  have hp:2^(k+1)=2*2^k:=by rw[Nat.pow_succ];omega
  show zU f k ||| (if f k=true then 2^k else 0)<2^(k+1);refine Nat.or_lt_two_pow (by omega) ?_;have:0<2^k:=Nat.pow_pos (by omega);split<;>omega
def lj(T:Tbl)(grp:List Nat)(m:Nat):Nat:=zU (fun i=>T.can (grp.getD i 0) m) grp.length
def tZ(T:Tbl)(grp:List Nat)(wd:Nat):Nat:=zT grp.length (lj T grp) (fun m=>T.cap m wd) T.M (2^grp.length-1)
def jC(T:Tbl)(wd:Nat):List Nat:=(List.range T.U).filter (fun u=>T.win u==wd)
def cntTo'(T:Tbl):Nat->Option Nat
 | 0=>some 1
 | k+1=>match cntTo' T k with
  | none=>none
  | some x=>if tZ T (jC T k) k=0 then none else some (min lH (x*tZ T (jC T k) k))
def yL(T:Tbl):Nat:=(cntTo' T 16).getD 0
def Hh(T:Tbl):Nat×Nat:=if (List.range 16).any (fun w=>decide (12<(jC T w).length))=true then(0,6) else if 1152921504606846976<yL T then(0,6) else(yL T,0)
end
end Go.Proofs.YtbcgocpihobjnaaGreatDoor
