set_option linter.unusedVariables false
set_option linter.unusedSimpArgs false
namespace Go.Proofs.YtmkdfbelbcocpaaGreatDoor
section
def Zoq (c:Nat):Bool:=(decide (97≤c)&&decide (c≤122))||(decide (65≤c)&&decide (c≤90))
def Zd7 (c:Nat):Bool:=decide (48≤c)&&decide (c≤57)
def Zia (c:Nat):Bool:=Zoq c||Zd7 c||c==95
def Zjg (c:Nat):Bool:=c==32||c==9||c==10
def Z7p (c:Nat):Bool:=decide (32≤c)&&decide (c≤126)
theorem Zr9 {c:Nat} (h:Zoq c=true):Zia c=true:=by unfold Zia;rw[h];rfl
def Zax (p:Nat→Bool) (l:List Nat):Nat:=(l.takeWhile p).length
theorem Zgc (p:Nat→Bool):∀ l,Zax p l≤l.length
 | []=>Nat.le_refl _
 | c::l=>by
  unfold Zax
  rw[List.takeWhile_cons]
  cases p c with
  | false=>exact Nat.zero_le _
  | true=>exact Nat.succ_le_succ (Zgc p l)
theorem Zor (p:Nat→Bool):∀ (l:List Nat) (i:Nat),i<Zax p l→p (l.getD i 0)=true
 | [],i,h=>by simp[Zax] at h
 | c::l,i,h=>by
  unfold Zax at h
  rw[List.takeWhile_cons] at h
  cases hp:p c with
  | false=>rw[hp] at h;simp at h
  | true =>
   rw[hp] at h
   cases i with
   | zero=>simpa using hp
   | succ i=>simpa using Zor p l i (by simpa [Zax] using h)
theorem Zln (p:Nat→Bool):∀ (l:List Nat),Zax p l<l.length→p (l.getD (Zax p l) 0)=false
 | [],h=>by simp at h
 | c::l,h=>by
  unfold Zax at h ⊢
  rw[List.takeWhile_cons] at h ⊢
  cases hp:p c with
  | false=>simpa using hp
  | true =>
   rw[hp] at h
   simp only[if_pos,List.length_cons] at h ⊢
   have h2:=Zln p l (by unfold Zax;omega)
   unfold Zax at h2
   simpa using h2
theorem Zjj (p:Nat→Bool) (l:List Nat) (n:Nat) (hn:n≤l.length) (hy:∀ i,i<n→p (l.getD i 0)=true) (hs:n<l.length→p (l.getD n 0)=false):n=Zax p l:=by
 rcases Nat.lt_trichotomy n (Zax p l) with h | h | h
 ·have h1:=Zor p l n h
  have h2:=hs (Nat.lt_of_lt_of_le h (Zgc p l))
  rw[h1] at h2;exact absurd h2 (by simp)
 ·exact h
 ·have h1:=hy _ h
  have h2:=Zln p l (Nat.lt_of_lt_of_le h hn)
  rw[h1] at h2;exact absurd h2 (by simp)
theorem Zts (p:Nat→Bool):∀ l:List Nat,(Zax p l==l.length)=l.all p
 | []=>rfl
 | c::l=>by
  unfold Zax
  rw[List.takeWhile_cons,List.all_cons]
  cases hp:p c with
  | false=>simp
  | true =>
   have:=Zts p l
   unfold Zax at this
   simp only[if_pos,List.length_cons,Bool.true_and]
   rw[← this]
   rw[Bool.eq_iff_iff];simp
def Zek (l:List Nat):Bool:=(l != [])&&Zoq (l.getD 0 0)&&decide (l.length≤20)&&(Zax Zia l==l.length)
def Zkg (l:List Nat):Nat:=l.foldl (fun n c=>10*n+(c-48)) 0
def Zeu (l:List Nat):Bool:=!((l==[])||(Zax Zd7 l != l.length)||((l.getD 0 0==48)&&(l != [48]))||decide (13<l.length))&&decide (Zkg l≤1099511627776)
def Zxa (l:List Nat):Nat:=if Zeu l then Zkg l else 0
theorem Zxe (l:List Nat) (c:Nat):Zkg (l++[c])=10*Zkg l+(c-48):=by unfold Zkg;rw[List.foldl_append];rfl
def Znn:List (List Nat):=[[113,117,101,115,116,105,111,110],[97,110,100],[111,114],[110,111,116],[97,116],[108,101,97,115,116],[111,102],[105,110]]
def Zee (l:List Nat):Bool:=Zek l&&!Znn.contains l
def Zam (c:Nat):Bool:=c != 46
def Zbo (l:List Nat):Bool:=decide (Zax Zam l<l.length)&&(Zee (l.take (Zax Zam l))&&Zee (l.drop (Zax Zam l+1)))
end
section
def Zhy:List Nat→Option (List Nat×Nat)
 | []=>none
 | c::l=>if c=34 then some ([],1) else if c=92 then
   (match l with
    | []=>none
    | d::l=>if d=34∨d=92 then (Zhy l).map (fun r=>(d::r.1,r.2+2)) else none)
  else if Z7p c=true then (Zhy l).map (fun r=>(c::r.1,r.2+1)) else none
def Zct:Bool→List Nat→Nat
 | _,[]=>0
 | com,c::l=>if (com&&c != 10)||Zjg c then Zct (com&&c != 10) l+1 else if c=35 then Zct true l+1 else 0
def Zgr (l:List Nat):Nat:=Zct false l
theorem Zfe:∀ (l:List Nat) (b:Bool),Zct b l≤l.length
 | [],b=>by cases b<;>simp[Zct]
 | c::l,b=>by
  unfold Zct
  have h1:=Zfe l (b&&c != 10)
  have h2:=Zfe l true
  split
  ·simp;omega
  ·split
   ·simp;omega
   ·simp
theorem Zj3:∀ l:List Nat,Zct false l=Zax Zjg l+Zct false (l.drop (Zax Zjg l))
 | []=>rfl
 | c::l=>by
  unfold Zax
  rw[List.takeWhile_cons]
  cases h:Zjg c with
  | false=>simp
  | true =>
   have ih:=Zj3 l
   unfold Zax at ih
   simp only[if_pos,List.length_cons,List.drop_succ_cons]
   rw[Zct]
   simp only[h,Bool.false_and,Bool.false_or,if_pos]
   omega
end
section
def Zev:List (List Nat):=[[46,46],[33,61],[60,61],[62,61],[40],[41],[123],[125],[44],[59],[58],[46],[61],[60],[62],[43],[45],[42],[47]]
def Zj4:List (List Nat)→List Nat→Nat
 | [],_=>0
 | t::ts,l=>if t.isPrefixOf l=true then t.length else Zj4 ts l
def Zsa (l:List Nat):Nat:=Zj4 Zev l
theorem Zpw:∀ (ts:List (List Nat)) (l:List Nat),Zj4 ts l≤l.length
 | [],l=>Nat.zero_le _
 | t::ts,l=>by
  unfold Zj4
  split
  ·rename_i h
   exact (List.isPrefixOf_iff_prefix.1 h).length_le
  ·exact Zpw ts l
theorem Zsb:∀ (l:List Nat) (r:List Nat×Nat),Zhy l=some r→1≤r.2∧r.2≤l.length
 | [],r,h=>by simp[Zhy] at h
 | [c],r,h=>by
  unfold Zhy at h
  split at h
  ·cases h;simp
  ·split at h
   ·simp at h
   ·simp[Zhy] at h
 | c::d::l,r,h=>by
  unfold Zhy at h
  split at h
  ·cases h;simp
  ·split at h
   ·simp only at h
    split at h
    ·cases hq:Zhy l with
     | none=>rw[hq] at h;simp at h
     | some r0 =>
      rw[hq] at h
      have:=Zsb l r0 hq
      simp only[Option.map_some,Option.some.injEq] at h
      subst h;simp;omega
    ·simp at h
   ·split at h
    ·cases hq:Zhy (d::l) with
     | none=>rw[hq] at h;simp at h
     | some r0 =>
      rw[hq] at h
      have:=Zsb (d::l) r0 hq
      simp only[Option.map_some,Option.some.injEq] at h
      subst h;simp at *;omega
    ·simp at h
structure Tok where
 k:Int
 t:List Nat
 n:Nat
 p:Nat
def Zdt (l:List Nat):Except Int (Tok×Nat) :=
 if Zoq (l.getD 0 0)=true then
  (if Zek (l.take (Zax Zia l))=true then .ok (⟨0,l.take (Zax Zia l),0,0⟩,Zax Zia l) else .error 3)
 else if Zd7 (l.getD 0 0)=true then
  (if Zeu (l.take (Zax Zd7 l))=true then .ok (⟨1,l.take (Zax Zd7 l),Zkg (l.take (Zax Zd7 l)),0⟩,Zax Zd7 l) else .error 3)
 else if l.getD 0 0=34 then
  (match Zhy l.tail with
   | some r=>if r.1.length≤400 then .ok (⟨2,r.1,0,0⟩,r.2+1) else .error 2
   | none=>.error 2)
 else if Zsa l=0 then .error 10 else .ok (⟨3,l.take (Zsa l),0,0⟩,Zsa l)
theorem Ztt (p:Nat→Bool) (c:Nat) (l:List Nat) (h:p c=true):0<Zax p (c::l):=by
 unfold Zax;rw[List.takeWhile_cons,h];simp
theorem Zfw (l:List Nat) (h0:l≠[]) (r:Tok×Nat) (h:Zdt l = .ok r):1≤r.2∧r.2≤l.length:=by
 cases l with
 | nil=>exact absurd rfl h0
 | cons c l =>
  unfold Zdt at h
  split at h
  ·rename_i hl
   split at h
   ·cases h
    exact⟨Ztt _ _ _ (Zr9 hl),Zgc _ _⟩
   ·cases h
  ·split at h
   ·rename_i hl
    split at h
    ·cases h
     exact⟨Ztt _ _ _ hl,Zgc _ _⟩
    ·cases h
   ·split at h
    ·split at h
     ·rename_i r0 hq
      have:=Zsb _ _ hq
      split at h
      ·cases h
       simp at *;omega
      ·cases h
     ·cases h
    ·split at h
     ·cases h
     ·cases h
      exact⟨by show 1≤Zsa (c::l);omega,Zpw _ _⟩
def Zic:Nat→Nat→List Nat→List Tok→List Tok×Nat×Int
 | 0,_,_,acc=>(acc,0,0)
 | f+1,a,l,acc =>
  if Zgr l=l.length then (acc,0,0)
  else match Zdt (l.drop (Zgr l)) with
   | .error e=>([],a+Zgr l,e)
   | .ok r=>Zic f (a+Zgr l+r.2) (l.drop (Zgr l+r.2)) (acc++[{ r.1 with p:=a+Zgr l }])
theorem Zno:∀ (f g a:Nat) (l:List Nat) (acc:List Tok),l.length<f→l.length<g→Zic f a l acc=Zic g a l acc
 | 0,g,a,l,acc,hf,hg=>absurd hf (Nat.not_lt_zero _)
 | f+1,0,a,l,acc,hf,hg=>absurd hg (Nat.not_lt_zero _)
 | f+1,g+1,a,l,acc,hf,hg=>by
  unfold Zic
  by_cases h:Zgr l=l.length
  ·rw[if_pos h,if_pos h]
  ·rw[if_neg h,if_neg h]
   have hle:Zgr l≤l.length:=Zfe l false
   cases hn:Zdt (l.drop (Zgr l)) with
   | error e=>rfl
   | ok r =>
    have hr:=Zfw (l.drop (Zgr l)) (by intro h2;have:=congrArg List.length h2;simp at this;omega) r hn
    rw[List.length_drop] at hr
    exact Zno f g _ _ _ (by rw[List.length_drop];omega) (by rw[List.length_drop];omega)
def Zfb (l:List Nat):List Tok×Nat×Int:=if 4000<l.length then ([],0,6) else Zic (l.length+1) 0 l []
end
section
def Zlo (com:Bool) (a:Nat) (l:List Nat) (acc:List Tok):List Tok×Nat×Int :=
 if Zct com l=l.length then (acc,0,0)
 else match Zdt (l.drop (Zct com l)) with
  | .error e=>([],a+Zct com l,e)
  | .ok r=>Zic (l.length+1) (a+Zct com l+r.2) (l.drop (Zct com l+r.2)) (acc++[{ r.1 with p:=a+Zct com l }])
theorem Zxf (f a:Nat) (l:List Nat) (acc:List Tok) (h:l.length<f):Zic f a l acc=Zlo false a l acc:=by
 cases f with
 | zero=>exact absurd h (Nat.not_lt_zero _)
 | succ f =>
  unfold Zlo
  rw[Zic]
  unfold Zgr
  by_cases h1:Zct false l=l.length
  ·rw[if_pos h1,if_pos h1]
  ·rw[if_neg h1,if_neg h1]
   have hle:=Zfe l false
   cases hn:Zdt (l.drop (Zct false l)) with
   | error e=>rfl
   | ok r =>
    have hr:=Zfw _ (by intro h2;have:=congrArg List.length h2;simp at this;omega) r hn
    rw[List.length_drop] at hr
    exact Zno _ _ _ _ _ (by rw[List.length_drop];omega) (by rw[List.length_drop];omega)
theorem Z52 (l:List Nat) (h:l.length≤4000):Zfb l=Zlo false 0 l []:=by
 unfold Zfb
 rw[if_neg (by omega)]
 exact Zxf _ _ _ _ (by omega)
end
section
inductive Prd where
 | mk (k:Int) (l r:List Nat) (c:Int) (ks:List Prd):Prd
namespace Prd
def k:Prd→Int | mk k _ _ _ _=>k
def l:Prd→List Nat | mk _ l _ _ _=>l
def r:Prd→List Nat | mk _ _ r _ _=>r
def c:Prd→Int | mk _ _ _ c _=>c
def ks:Prd→List Prd | mk _ _ _ _ ks=>ks
end Prd
def Z18:Prd:=.mk 0 [] [] 0 []
abbrev PR (α:Type):=Except (Int×Nat) (α×Nat)
def Zdu (ts:List Tok) (sz i:Nat):Nat:=match ts[i]? with
 | some t=>t.p
 | none=>sz
def isP (ts:List Tok) (s:List Nat) (i:Nat):Bool:=match ts[i]? with
 | some t=>(t.k==3||t.k==0)&&t.t==s
 | none=>false
def Zbi (ts:List Tok) (sz:Nat) (s:List Nat) (i:Nat):Except (Int×Nat) Nat :=
 if isP ts s i=true then .ok (i+1) else .error (12,Zdu ts sz i)
def Zd8 (ts:List Tok) (i:Nat):Bool:=match ts[i]? with
 | some t=>t.k==0&&Zee t.t
 | none=>false
def Zcx (ts:List Tok) (i:Nat):Bool:=match ts[i]? with
 | some t=>t.k==1
 | none=>false
def Zhz (ts:List Tok) (i:Nat):List Nat:=match ts[i]? with
 | some t=>t.t
 | none=>[]
def Zhu (ts:List Tok) (i:Nat):Nat:=match ts[i]? with
 | some t=>t.n
 | none=>0
def Zgd (ts:List Tok) (sz i:Nat):PR (List Nat) :=
 if Zd8 ts i=true then .ok (Zhz ts i,i+1) else .error (12,Zdu ts sz i)
def Znb (ts:List Tok) (sz i:Nat):PR Nat :=
 if Zcx ts i=true then .ok (Zhu ts i,i+1) else .error (12,Zdu ts sz i)
abbrev Zfx:=List Nat×Int
def Znc (ts:List Tok) (sz i:Nat):PR Zfx :=
 if isP ts [45] i=true then (Znb ts sz (i+1)).bind (fun m=>.ok (([],-(m.1:Int)),m.2))
 else if Zcx ts i=true then .ok (([],(Zhu ts i:Int)),i+1)
 else (Zgd ts sz i).bind (fun a=>(Zbi ts sz [46] a.2).bind (fun j=>(Zgd ts sz j).bind (fun b =>
  if isP ts [43] b.2=true then (Znb ts sz (b.2+1)).bind (fun m=>.ok ((a.1++46::b.1,(m.1:Int)),m.2))
  else if isP ts [45] b.2=true then (Znb ts sz (b.2+1)).bind (fun m=>.ok ((a.1++46::b.1,-(m.1:Int)),m.2))
  else .ok ((a.1++46::b.1,0),b.2))))
def Zbb (a b:Zfx) (less:Int):Prd:=.mk 0 a.1 b.1 (b.2-a.2-less) []
def inP (p:Prd):Bool:=decide (-1099511627776≤p.c)&&decide (p.c<1099511627776)
def Z7u (ts:List Tok) (i:Nat):Option Nat :=
 if isP ts [60,61] i=true then some 0 else if isP ts [60] i=true then some 1 else if isP ts [62,61] i=true then some 2
 else if isP ts [62] i=true then some 3 else if isP ts [61] i=true then some 4 else if isP ts [33,61] i=true then some 5 else none
def Zde (n:Nat) (a b:Zfx):Prd :=
 if n=0 then Zbb a b 0 else if n=1 then Zbb a b 1 else if n=2 then Zbb b a 0 else if n=3 then Zbb b a 1
 else if n=4 then .mk 1 [] [] 0 [Zbb a b 0,Zbb b a 0] else .mk 2 [] [] 0 [Zbb a b 1,Zbb b a 1]
def okP (n:Nat) (a b:Zfx):Bool :=
 if n=0 then inP (Zbb a b 0) else if n=1 then inP (Zbb a b 1) else if n=2 then inP (Zbb b a 0) else if n=3 then inP (Zbb b a 1)
 else if n=4 then inP (Zbb a b 0)&&inP (Zbb b a 0) else inP (Zbb a b 1)&&inP (Zbb b a 1)
def Zb3 (ts:List Tok) (sz:Nat) (a:Zfx) (u i:Nat):PR Prd:=match Z7u ts i with
 | none=>.error (12,Zdu ts sz i)
 | some n=>(Znc ts sz (i+1)).bind (fun b=>if okP n a b.1=true then .ok (Zde n a b.1,b.2) else .error (3,Zdu ts sz u))
def Zeq (k:Int) (ps:List Prd):Prd:=match ps with
 | [p]=>p
 | _=>.mk k [] [] 0 ps
def Zbu (ts:List Tok) (sz:Nat):Nat→Nat→List (Nat×Nat)→PR (List (Nat×Nat))
 | 0,_,_=>.error (0,0)
 | f+1,i,acc=>(Znb ts sz i).bind (fun m =>
   (if isP ts [46,46] m.2=true then Znb ts sz (m.2+1) else .ok m).bind (fun n =>
    if n.1<m.1 then .error (3,Zdu ts sz i)
    else if isP ts [44] n.2=true then Zbu ts sz f (n.2+1) (acc++[(m.1,n.1)])
    else .ok (acc++[(m.1,n.1)],n.2)))
def Zfp (a:Zfx) (m:Nat×Nat):Prd:=.mk 1 [] [] 0 [Zbb ([],(m.1:Int)) a 0,Zbb a ([],(m.2:Int)) 0]
def Zfy (a:Zfx) (m:Nat×Nat):Bool:=inP (Zbb ([],(m.1:Int)) a 0)&&inP (Zbb a ([],(m.2:Int)) 0)
def Zdf (ts:List Tok) (sz:Nat) (a:Zfx) (u i:Nat):PR Prd :=
 (Zbi ts sz [123] i).bind (fun j=>(Zbu ts sz (ts.length+1) j []).bind (fun r=>(Zbi ts sz [125] r.2).bind (fun k =>
  if r.1.all (Zfy a)=true then .ok (Zeq 2 (r.1.map (Zfp a)),k) else .error (3,Zdu ts sz u))))
def Zdd (ts:List Tok) (word:List Nat) (el:Nat→PR Prd):Nat→Nat→List Prd→PR (List Prd)
 | 0,_,_=>.error (0,0)
 | f+1,i,acc=>(el i).bind (fun p=>if isP ts word p.2=true then Zdd ts word el f (p.2+1) (acc++[p.1]) else .ok (acc++[p.1],p.2))
def Z19 (ts:List Tok) (unit:Nat→PR Prd) (i:Nat):PR Prd:=(Zdd ts [97,110,100] unit (ts.length+1) i []).bind (fun r=>.ok (Zeq 1 r.1,r.2))
def Zfc (ts:List Tok) (unit:Nat→PR Prd) (i:Nat):PR Prd:=(Zdd ts [111,114] (Z19 ts unit) (ts.length+1) i []).bind (fun r=>.ok (Zeq 2 r.1,r.2))
def Zgl (ts:List Tok) (sz:Nat) (unit:Nat→PR Prd) (u i:Nat):PR Prd :=
 (Zbi ts sz [108,101,97,115,116] i).bind (fun j=>(Znb ts sz j).bind (fun n=>(Zbi ts sz [111,102] n.2).bind (fun j=>(Zbi ts sz [40] j).bind (fun j =>
  (Zdd ts [44] (Zfc ts unit) (ts.length+1) j []).bind (fun r=>(Zbi ts sz [41] r.2).bind (fun j =>
   if 1≤n.1∧n.1≤r.1.length then .ok (.mk 3 [] [] (n.1:Int) r.1,j) else .error (3,Zdu ts sz u)))))))
def w64 (x:Int):Int:=(x+9223372036854775808)%18446744073709551616-9223372036854775808
theorem Z5l (x:Int) (h1:-9223372036854775808≤x) (h2:x≤9223372036854775807):w64 x=x:=by unfold w64;omega
mutual
def Zsc:Prd→Prd
 | .mk k l r c ks=>if k=0 then .mk 0 r l (w64 (w64 (-c)-1)) [] else
   .mk (if k=1 then 2 else if k=2 then 1 else k) [] [] (if k=3 then w64 (w64 ((ks.length:Int)-c)+1) else 0) (Zxb ks)
def Zxb:List Prd→List Prd
 | []=>[]
 | p::ps=>Zsc p::Zxb ps
end
def Zdg (ts:List Tok) (sz:Nat):Nat→Nat→PR Prd
 | 0,_=>.error (0,0)
 | f+1,i =>
  if isP ts [110,111,116] i=true then (Zdg ts sz f (i+1)).bind (fun p=>.ok (Zsc p.1,p.2))
  else if isP ts [40] i=true then (Zfc ts (Zdg ts sz f) (i+1)).bind (fun p=>(Zbi ts sz [41] p.2).bind (fun j=>.ok (p.1,j)))
  else if isP ts [97,116] i=true then Zgl ts sz (Zdg ts sz f) i (i+1)
  else (Znc ts sz i).bind (fun a=>if isP ts [105,110] a.2=true then Zdf ts sz a.1 i (a.2+1) else Zb3 ts sz a.1 i a.2)
mutual
def Za8:Prd→Nat
 | .mk _ _ _ _ ks=>1+Zb9 ks
def Zb9:List Prd→Nat
 | []=>0
 | p::ps=>Za8 p+Zb9 ps
end
mutual
def Zsd:Prd→Nat
 | .mk _ _ _ _ ks=>1+Z5m ks
def Z5m:List Prd→Nat
 | []=>0
 | p::ps=>max (Zsd p) (Z5m ps)
end
def Zeh (p:Prd):Bool:=decide (Za8 p≤100)&&decide (Zsd p≤12)
def Zgm (ts:List Tok) (sz:Nat):Except (Int×Nat) (List Nat×Prd) :=
 (Zbi ts sz [113,117,101,115,116,105,111,110] 0).bind (fun j=>(Zgd ts sz j).bind (fun n=>(Zbi ts sz [123] n.2).bind (fun j =>
  (Zfc ts (Zdg ts sz (ts.length+1)) j).bind (fun p=>(Zbi ts sz [125] p.2).bind (fun j =>
   if j<ts.length then .error (12,Zdu ts sz j)
   else if Zeh p.1=true then .ok (n.1,p.1) else .error (6,0))))))
def Zce (s:List Nat):List Nat×Prd×Nat×Int :=
 if (Zfb s).2.2=0 then (match Zgm (Zfb s).1 s.length with
  | .ok r=>(r.1,r.2,0,0)
  | .error e=>([],Z18,e.2,e.1))
 else ([],Z18,(Zfb s).2.1,(Zfb s).2.2)
end
section
structure TokOk (t:Tok):Prop where
 name:t.k=0→Zek t.t=true
 n:t.n≤1099511627776
 p:t.p≤1000000
 len:t.t.length≤1000000
 byte:∀ y∈t.t,y<256
 k0:0≤t.k
 k3:t.k≤3
theorem Zlp:∀ (l:List Nat) (r:List Nat×Nat),Zhy l=some r→(∀ y∈l,y<256)→∀ y∈r.1,y<256
 | [],r,h,_=>by simp[Zhy] at h
 | [c],r,h,hb=>by
  unfold Zhy at h
  split at h
  ·cases h;simp
  ·split at h
   ·simp at h
   ·simp[Zhy] at h
 | c::d::l,r,h,hb=>by
  unfold Zhy at h
  split at h
  ·cases h;simp
  ·split at h
   ·simp only at h
    split at h
    ·cases hq:Zhy l with
     | none=>rw[hq] at h;simp at h
     | some r0 =>
      rw[hq] at h
      have:=Zlp l r0 hq (fun y hy=>hb y (by simp[hy]))
      simp only[Option.map_some,Option.some.injEq] at h
      subst h
      intro y hy
      rcases List.mem_cons.1 hy with e | e
      ·subst e;exact hb y (by simp)
      ·exact this y e
    ·simp at h
   ·split at h
    ·cases hq:Zhy (d::l) with
     | none=>rw[hq] at h;simp at h
     | some r0 =>
      rw[hq] at h
      have:=Zlp (d::l) r0 hq (fun y hy=>hb y (List.mem_cons_of_mem _ hy))
      simp only[Option.map_some,Option.some.injEq] at h
      subst h
      intro y hy
      rcases List.mem_cons.1 hy with e | e
      ·subst e;exact hb y (by simp)
      ·exact this y e
    ·simp at h
theorem Z2a (l:List Nat) (hl:l.length≤4000) (hb:∀ y∈l,y<256) (r:Tok×Nat) (h:Zdt l = .ok r) (a:Nat) (ha:a≤1000000):TokOk { r.1 with p:=a }:=by
 unfold Zdt at h
 split at h
 ·split at h
  ·rename_i hn
   cases h
   exact⟨fun _=>hn,by simp,ha,by simp;omega,fun y hy=>hb y (List.mem_of_mem_take hy),by simp,by simp⟩
  ·cases h
 ·split at h
  ·split at h
   ·rename_i hn
    cases h
    refine⟨by simp,?_,ha,by simp;omega,fun y hy=>hb y (List.mem_of_mem_take hy),by simp,by simp⟩
    unfold Zeu at hn
    simp only[Bool.and_eq_true,decide_eq_true_eq] at hn
    exact hn.2
   ·cases h
  ·split at h
   ·split at h
    ·rename_i r0 hq
     split at h
     ·rename_i h4
      cases h
      exact⟨by simp,by simp,ha,by simp;omega,Zlp _ _ hq (fun y hy=>hb y (List.mem_of_mem_tail hy)),by simp,by simp⟩
     ·cases h
    ·cases h
   ·split at h
    ·cases h
    ·cases h
     exact⟨by simp,by simp,ha,by simp;omega,fun y hy=>hb y (List.mem_of_mem_take hy),by simp,by simp⟩
theorem Ztu:∀ (f a:Nat) (l:List Nat) (acc:List Tok),a+l.length≤4000→(∀ y∈l,y<256)→(∀ t∈acc,TokOk t)→∀ t∈(Zic f a l acc).1,TokOk t
 | 0,_,_,acc,_,_,h=>by unfold Zic;exact h
 | f+1,a,l,acc,hl,hb,h=>by
  unfold Zic
  split
  ·exact h
  ·have hg:Zgr l≤l.length:=Zfe l false
   have hld:(l.drop (Zgr l)).length≤4000:=by rw[List.length_drop];omega
   cases hn:Zdt (l.drop (Zgr l)) with
   | error e=>intro t ht;cases ht
   | ok r =>
    have hr:=Zfw _ (by intro h2;have:=congrArg List.length h2;simp at this;omega) r hn
    rw[List.length_drop] at hr
    refine Ztu f _ _ _ (by rw[List.length_drop];omega) (fun y hy=>hb y (List.mem_of_mem_drop hy)) ?_
    intro t ht
    rcases List.mem_append.1 ht with ht | ht
    ·exact h t ht
    ·rw[List.mem_singleton.1 ht]
     exact Z2a _ hld (fun y hy=>hb y (List.mem_of_mem_drop hy)) r hn _ (by omega)
theorem Z2b (l:List Nat) (hb:∀ y∈l,y<256):∀ t∈(Zfb l).1,TokOk t:=by
 unfold Zfb
 split
 ·intro t ht;cases ht
 ·exact Ztu _ _ _ _ (by omega) hb (fun t ht=>by cases ht)
theorem Zlq:∀ (f a:Nat) (l:List Nat) (acc:List Tok),(Zic f a l acc).1.length≤acc.length+l.length
 | 0,_,_,acc=>by unfold Zic;exact Nat.le_add_right _ _
 | f+1,a,l,acc=>by
  unfold Zic
  split
  ·exact Nat.le_add_right _ _
  ·have hg:Zgr l≤l.length:=Zfe l false
   cases hn:Zdt (l.drop (Zgr l)) with
   | error e=>exact Nat.zero_le _
   | ok r =>
    have hr:=Zfw _ (by intro h2;have:=congrArg List.length h2;simp at this;omega) r hn
    rw[List.length_drop] at hr
    have:=Zlq f (a+Zgr l+r.2) (l.drop (Zgr l+r.2)) (acc++[{ r.1 with p:=a+Zgr l }])
    rw[List.length_append,List.length_drop] at this
    simp only[List.length_cons,List.length_nil] at this
    exact Nat.le_trans this (by omega)
theorem Zse (l:List Nat):(Zfb l).1.length≤4000:=by
 unfold Zfb
 split
 ·exact Nat.zero_le _
 ·have:=Zlq (l.length+1) 0 l []
  simp at this
  omega
end
section
theorem Zbv {ts:List Tok} {s:List Nat} {i:Nat} (h:isP ts s i=true):i<ts.length:=by
 unfold isP at h
 split at h
 ·rename_i t ht;exact (List.getElem?_eq_some_iff.1 ht).1
 ·cases h
theorem Zew {ts:List Tok} {i:Nat} (h:Zd8 ts i=true):i<ts.length:=by
 unfold Zd8 at h
 split at h
 ·rename_i t ht;exact (List.getElem?_eq_some_iff.1 ht).1
 ·cases h
theorem Zex {ts:List Tok} {i:Nat} (h:Zcx ts i=true):i<ts.length:=by
 unfold Zcx at h
 split at h
 ·rename_i t ht;exact (List.getElem?_eq_some_iff.1 ht).1
 ·cases h
theorem Zb4 {ts:List Tok} {sz:Nat} {s:List Nat} {i j:Nat} (h:Zbi ts sz s i = .ok j):isP ts s i=true∧j=i+1∧j≤ts.length:=by
 unfold Zbi at h
 split at h
 ·rename_i hs;cases h;exact⟨hs,rfl,Zbv hs⟩
 ·cases h
theorem Ztv {ts:List Tok} {sz i:Nat} {r:List Nat×Nat} (h:Zgd ts sz i = .ok r):Zd8 ts i=true∧r=(Zhz ts i,i+1)∧r.2≤ts.length:=by
 unfold Zgd at h
 split at h
 ·rename_i hs;cases h;exact⟨hs,rfl,Zew hs⟩
 ·cases h
theorem Zge {ts:List Tok} {sz i:Nat} {r:Nat×Nat} (h:Znb ts sz i = .ok r):Zcx ts i=true∧r=(Zhu ts i,i+1)∧r.2≤ts.length:=by
 unfold Znb at h
 split at h
 ·rename_i hs;cases h;exact⟨hs,rfl,Zex hs⟩
 ·cases h
theorem Zdw {ts:List Tok} (hts:∀ t∈ts,TokOk t) (i:Nat):Zhu ts i≤1099511627776:=by
 unfold Zhu
 split
 ·rename_i t ht;exact (hts t (List.mem_of_getElem? ht)).n
 ·omega
theorem Zpx {ts:List Tok} (hts:∀ t∈ts,TokOk t) (i:Nat):∀ y∈Zhz ts i,y<256:=by
 unfold Zhz
 split
 ·rename_i t ht;exact (hts t (List.mem_of_getElem? ht)).byte
 ·intro y hy;cases hy
theorem Zxg {l:List Nat} (h:Zek l=true):l.length≤20:=by
 unfold Zek at h
 simp only[Bool.and_eq_true,decide_eq_true_eq] at h
 exact h.1.2
theorem Zff {ts:List Tok} {i:Nat} (h:Zd8 ts i=true):(Zhz ts i).length≤20:=by
 unfold Zd8 at h
 unfold Zhz
 split at h
 ·rename_i t ht
  simp only[Bool.and_eq_true,Zee] at h
  exact Zxg h.2.1
 ·cases h
structure SumOk (a:Zfx):Prop where
 lo:-1099511627776≤a.2
 hi:a.2≤1099511627776
 len:a.1.length≤41
 byte:∀ y∈a.1,y<256
theorem Zat {ε α β:Type} {x:Except ε α} {f:α→Except ε β} {b:β} (h:x.bind f = .ok b):∃ a,x = .ok a∧f a = .ok b:=by
 cases x with
 | error e=>cases h
 | ok a=>exact⟨a,rfl,h⟩
theorem Zjk {ts:List Tok} (hts:∀ t∈ts,TokOk t) {sz i:Nat} {r:Zfx×Nat} (h:Znc ts sz i = .ok r):i<r.2∧r.2≤ts.length∧SumOk r.1:=by
 unfold Znc at h
 split at h
 ·obtain⟨m,h1,h2⟩:=Zat h
  obtain⟨_,rfl,hle⟩:=Zge h1
  cases h2
  have:=Zdw hts (i+1)
  exact⟨by simp;try omega,hle,by simp;try omega,by simp;try omega,by simp,by simp⟩
 ·split at h
  ·rename_i h1
   cases h
   have:=Zdw hts i
   exact⟨by simp,Zex h1,by simp;try omega,by simp;try omega,by simp,by simp⟩
  ·obtain⟨a,ha,h⟩:=Zat h
   obtain⟨hna,rfl,_⟩:=Ztv ha
   obtain⟨j,hj,h⟩:=Zat h
   obtain⟨_,rfl,_⟩:=Zb4 hj
   obtain⟨b,hb,h⟩:=Zat h
   obtain⟨hnb,rfl,hle⟩:=Ztv hb
   have l1:=Zff hna
   have l2:(Zhz ts (i+1+1)).length≤20:=Zff hnb
   have b1:=Zpx hts i
   have b2:=Zpx hts (i+1+1)
   have hlen:(Zhz ts i++46::Zhz ts (i+1+1)).length≤41:=by rw[List.length_append,List.length_cons];omega
   have hbyte:∀ y∈Zhz ts i++46::Zhz ts (i+1+1),y<256:=by
    intro y hy
    rcases List.mem_append.1 hy with hy | hy
    ·exact b1 y hy
    ·rcases List.mem_cons.1 hy with rfl | hy
     ·omega
     ·exact b2 y hy
   split at h
   ·obtain⟨m,h1,h2⟩:=Zat h
    obtain⟨_,rfl,hle⟩:=Zge h1
    cases h2
    have:=Zdw hts (i+1+1+1+1)
    exact⟨by simp;try omega,hle,by simp;try omega,by simp;try omega,hlen,hbyte⟩
   ·split at h
    ·obtain⟨m,h1,h2⟩:=Zat h
     obtain⟨_,rfl,hle⟩:=Zge h1
     cases h2
     have:=Zdw hts (i+1+1+1+1)
     exact⟨by simp;try omega,hle,by simp;try omega,by simp;try omega,hlen,hbyte⟩
    ·cases h
     exact⟨by simp;try omega,hle,by simp,by simp,hlen,hbyte⟩
def Zsf (n:Nat) (el:Nat→PR Prd):Prop:=∀ i r,el i = .ok r→i<r.2∧r.2≤n
theorem Zlb {ts:List Tok} {word:List Nat} {el:Nat→PR Prd} (hel:Zsf ts.length el):∀ (f i:Nat) (acc:List Prd) (r:List Prd×Nat),Zdd ts word el f i acc = .ok r→i<r.2∧r.2≤ts.length∧acc.length<r.1.length
 | 0,_,_,_,h=>by cases h
 | f+1,i,acc,r,h=>by
  unfold Zdd at h
  obtain⟨p,hp,h⟩:=Zat h
  have h1:=hel i p hp
  split at h
  ·have h2:=Zlb hel f _ _ r h
   rw[List.length_append] at h2
   simp at h2
   omega
  ·cases h
   simp;omega
theorem Zxh {ts:List Tok} {unit:Nat→PR Prd} (hel:Zsf ts.length unit):Zsf ts.length (Z19 ts unit):=by
 intro i r h
 unfold Z19 at h
 obtain⟨p,hp,h⟩:=Zat h
 cases h
 have:=Zlb hel _ _ _ p hp
 exact⟨this.1,this.2.1⟩
theorem Zid {ts:List Tok} {unit:Nat→PR Prd} (hel:Zsf ts.length unit):Zsf ts.length (Zfc ts unit):=by
 intro i r h
 unfold Zfc at h
 obtain⟨p,hp,h⟩:=Zat h
 cases h
 have:=Zlb (Zxh hel) _ _ _ p hp
 exact⟨this.1,this.2.1⟩
theorem Zxi {ts:List Tok} {sz:Nat} {unit:Nat→PR Prd} (hel:Zsf ts.length unit) (u:Nat):Zsf ts.length (Zgl ts sz unit u):=by
 intro i r h
 unfold Zgl at h
 obtain⟨j,hj,h⟩:=Zat h
 obtain⟨_,rfl,_⟩:=Zb4 hj
 obtain⟨n,hn,h⟩:=Zat h
 obtain⟨_,rfl,_⟩:=Zge hn
 obtain⟨j,hj,h⟩:=Zat h
 obtain⟨_,rfl,_⟩:=Zb4 hj
 obtain⟨j,hj,h⟩:=Zat h
 obtain⟨_,rfl,_⟩:=Zb4 hj
 obtain⟨p,hp,h⟩:=Zat h
 have h1:=Zlb (Zid hel) _ _ _ p hp
 obtain⟨j,hj,h⟩:=Zat h
 obtain⟨_,rfl,h2⟩:=Zb4 hj
 simp only at h
 split at h
 ·cases h
  simp at h1 h2 ⊢
  omega
 ·cases h
theorem Znp {ts:List Tok} {sz:Nat} (hts:∀ t∈ts,TokOk t):∀ (f i:Nat) (acc:List (Nat×Nat)) (r:List (Nat×Nat)×Nat),(∀ m∈acc,m.1≤1099511627776∧m.2≤1099511627776)→Zbu ts sz f i acc = .ok r→i<r.2∧r.2≤ts.length∧(∀ m∈r.1,m.1≤1099511627776∧m.2≤1099511627776)
 | 0,_,_,_,_,h=>by cases h
 | f+1,i,acc,r,ha,h=>by
  unfold Zbu at h
  obtain⟨m,hm,h⟩:=Zat h
  obtain⟨_,rfl,l1⟩:=Zge hm
  obtain⟨n,hn,h⟩:=Zat h
  have hn2:i<n.2∧n.2≤ts.length∧n.1≤1099511627776:=by
   split at hn
   ·obtain⟨_,rfl,l2⟩:=Zge hn
    exact⟨by simp;omega,l2,Zdw hts _⟩
   ·cases hn
    exact⟨by simp,l1,Zdw hts _⟩
  have hacc:∀ m∈acc++[(Zhu ts i,n.1)],m.1≤1099511627776∧m.2≤1099511627776:=by
   intro m hm
   rcases List.mem_append.1 hm with hm | hm
   ·exact ha m hm
   ·rw[List.mem_singleton.1 hm];exact⟨Zdw hts _,hn2.2.2⟩
  split at h
  ·cases h
  ·split at h
   ·have:=Znp hts f _ _ r hacc h
    exact⟨by omega,this.2⟩
   ·cases h
    exact⟨hn2.1,hn2.2.1,hacc⟩
theorem Zvo {ts:List Tok} {sz:Nat} (hts:∀ t∈ts,TokOk t) (a:Zfx) (u:Nat):Zsf ts.length (Zdf ts sz a u):=by
 intro i r h
 unfold Zdf at h
 obtain⟨j,hj,h⟩:=Zat h
 obtain⟨_,rfl,_⟩:=Zb4 hj
 obtain⟨p,hp,h⟩:=Zat h
 have h1:=Znp hts _ _ _ p (fun m hm=>by cases hm) hp
 obtain⟨j,hj,h⟩:=Zat h
 obtain⟨_,rfl,h2⟩:=Zb4 hj
 split at h
 ·cases h
  simp at h1 h2 ⊢
  omega
 ·cases h
theorem Zsg {ts:List Tok} {sz:Nat} (hts:∀ t∈ts,TokOk t) (a:Zfx) (u:Nat):Zsf ts.length (Zb3 ts sz a u):=by
 intro i r h
 unfold Zb3 at h
 split at h
 ·cases h
 ·obtain⟨b,hb,h⟩:=Zat h
  have h1:=Zjk hts hb
  split at h
  ·cases h
   exact⟨by simp;omega,h1.2.1⟩
  ·cases h
theorem Zos {ts:List Tok} {sz:Nat} (hts:∀ t∈ts,TokOk t):∀ f,Zsf ts.length (Zdg ts sz f)
 | 0=>fun i r h=>by cases h
 | f+1=>by
  intro i r h
  have ih:=Zos (sz:=sz) hts f
  unfold Zdg at h
  split at h
  ·obtain⟨p,hp,h⟩:=Zat h
   have:=ih _ _ hp
   cases h
   exact⟨by simp;omega,this.2⟩
  ·split at h
   ·obtain⟨p,hp,h⟩:=Zat h
    have h1:=Zid ih _ _ hp
    obtain⟨j,hj,h⟩:=Zat h
    obtain⟨_,rfl,h2⟩:=Zb4 hj
    cases h
    exact⟨by simp;omega,h2⟩
   ·split at h
    ·have:=Zxi ih i _ r h
     omega
    ·obtain⟨a,ha,h⟩:=Zat h
     have h1:=Zjk hts ha
     split at h
     ·have:=Zvo hts a.1 i _ r h
      omega
     ·have:=Zsg hts a.1 i _ r h
      omega
end
section
def Z15 (el:Nat→PR Prd):Prop:=∀ i r,el i = .ok r→i<r.2∧Za8 r.1≤3*(r.2-i)
theorem Zdb:∀ (a b:List Prd),Zb9 (a++b)=Zb9 a+Zb9 b
 | [],b=>by simp[Zb9]
 | p::a,b=>by rw[List.cons_append,Zb9,Zb9,Zdb a b];omega
mutual
theorem Zxj:∀ p:Prd,Za8 (Zsc p)≤Za8 p
 | .mk k l r c ks=>by
  unfold Zsc
  split
  ·simp[Za8,Zb9]
  ·unfold Za8
   have:=Ztw ks
   omega
theorem Ztw:∀ ks:List Prd,Zb9 (Zxb ks)≤Zb9 ks
 | []=>Nat.le_refl _
 | p::ps=>by
  unfold Zxb Zb9
  have:=Zxj p
  have:=Ztw ps
  omega
end
theorem Zlc {ts:List Tok} {word:List Nat} {el:Nat→PR Prd} (hel:Z15 el):∀ (f i:Nat) (acc:List Prd) (r:List Prd×Nat),Zdd ts word el f i acc = .ok r →
  i<r.2∧acc.length<r.1.length∧Zb9 r.1+3*r.1.length≤Zb9 acc+3*acc.length+3*(r.2-i)+3
 | 0,_,_,_,h=>by cases h
 | f+1,i,acc,r,h=>by
  unfold Zdd at h
  obtain⟨p,hp,h⟩:=Zat h
  have h1:=hel i p hp
  split at h
  ·have h2:=Zlc hel f _ _ r h
   rw[Zdb,List.length_append] at h2
   simp[Zb9] at h2
   omega
  ·cases h
   rw[Zdb,List.length_append]
   simp[Zb9]
   omega
theorem Ztx (k:Int) (ps:List Prd):Za8 (Zeq k ps)≤Zb9 ps+(if ps.length=1 then 0 else 1):=by
 match ps with
 | []=>simp[Zeq,Za8,Zb9]
 | [p]=>simp[Zeq,Zb9]
 | p::q::l=>simp[Zeq,Za8,Zb9];omega
theorem Zxk {k:Int} {ps:List Prd} {i j:Nat} (h0:0<ps.length) (h:Zb9 ps+3*ps.length≤3*(j-i)+3):Za8 (Zeq k ps)≤3*(j-i):=by
 have:=Ztx k ps
 split at this<;>omega
theorem Z53 {ts:List Tok} {unit:Nat→PR Prd} (hel:Z15 unit):Z15 (Z19 ts unit):=by
 intro i r h
 unfold Z19 at h
 obtain⟨p,hp,h⟩:=Zat h
 cases h
 have:=Zlc hel _ _ _ p hp
 simp[Zb9] at this
 exact⟨this.1,Zxk this.2.1 this.2.2⟩
theorem Zot {ts:List Tok} {unit:Nat→PR Prd} (hel:Z15 unit):Z15 (Zfc ts unit):=by
 intro i r h
 unfold Zfc at h
 obtain⟨p,hp,h⟩:=Zat h
 cases h
 have:=Zlc (Z53 hel) _ _ _ p hp
 simp[Zb9] at this
 exact⟨this.1,Zxk this.2.1 this.2.2⟩
theorem Zxl {ts:List Tok} {sz:Nat} {unit:Nat→PR Prd} (hel:Z15 unit) (u:Nat):Z15 (Zgl ts sz unit u):=by
 intro i r h
 unfold Zgl at h
 obtain⟨j,hj,h⟩:=Zat h
 obtain⟨_,rfl,_⟩:=Zb4 hj
 obtain⟨n,hn,h⟩:=Zat h
 obtain⟨_,rfl,_⟩:=Zge hn
 obtain⟨j,hj,h⟩:=Zat h
 obtain⟨_,rfl,_⟩:=Zb4 hj
 obtain⟨j,hj,h⟩:=Zat h
 obtain⟨_,rfl,_⟩:=Zb4 hj
 obtain⟨p,hp,h⟩:=Zat h
 have h1:=Zlc (Zot hel) _ _ _ p hp
 simp[Zb9] at h1
 obtain⟨j,hj,h⟩:=Zat h
 obtain⟨_,rfl,_⟩:=Zb4 hj
 simp only at h
 split at h
 ·cases h
  simp[Za8]
  omega
 ·cases h
theorem Znq {ts:List Tok} {sz:Nat}:∀ (f i:Nat) (acc:List (Nat×Nat)) (r:List (Nat×Nat)×Nat),Zbu ts sz f i acc = .ok r→i<r.2∧acc.length<r.1.length∧r.1.length≤acc.length+(r.2-i)
 | 0,_,_,_,h=>by cases h
 | f+1,i,acc,r,h=>by
  rw[Zbu] at h
  obtain⟨m,hm,h⟩:=Zat h
  obtain⟨_,rfl,_⟩:=Zge hm
  obtain⟨n,hn,h⟩:=Zat h
  have hn2:i<n.2:=by
   split at hn
   ·obtain⟨_,rfl,_⟩:=Zge hn;simp;omega
   ·cases hn;simp
  split at h
  ·cases h
  ·split at h
   ·have:=Znq f _ _ r h
    rw[List.length_append] at this
    simp at this
    omega
   ·cases h
    rw[List.length_append]
    simp
    omega
theorem Zty (a:Zfx):∀ acc:List (Nat×Nat),Zb9 (acc.map (Zfp a))=3*acc.length
 | []=>rfl
 | m::acc=>by
  rw[List.map_cons,Zb9,Zty a acc,List.length_cons]
  simp[Zfp,Za8,Zb9,Zbb]
  omega
theorem Zvp {ts:List Tok} {sz:Nat} (a:Zfx) (u:Nat):Z15 (Zdf ts sz a u):=by
 intro i r h
 unfold Zdf at h
 obtain⟨j,hj,h⟩:=Zat h
 obtain⟨_,rfl,_⟩:=Zb4 hj
 obtain⟨p,hp,h⟩:=Zat h
 have h1:=Znq _ _ _ p hp
 simp at h1
 obtain⟨j,hj,h⟩:=Zat h
 obtain⟨_,rfl,_⟩:=Zb4 hj
 split at h
 ·cases h
  have h2:=Ztx 2 (p.1.map (Zfp a))
  rw[Zty] at h2
  simp only at h1 ⊢
  have:Za8 (Zeq 2 (p.1.map (Zfp a)))≤3*p.1.length+1:=by split at h2<;>omega
  omega
 ·cases h
theorem Zsh {ts:List Tok} {sz:Nat} (hts:∀ t∈ts,TokOk t) (a:Zfx) (u:Nat):Z15 (Zb3 ts sz a u):=by
 intro i r h
 unfold Zb3 at h
 split at h
 ·cases h
 ·obtain⟨b,hb,h⟩:=Zat h
  have h1:=Zjk hts hb
  split at h
  ·cases h
   refine⟨by simp;omega,?_⟩
   have:∀ n,Za8 (Zde n a b.1)≤3:=fun n=>by
    unfold Zde
    split
    ·simp[Za8,Zb9,Zbb]
    ·split
     ·simp[Za8,Zb9,Zbb]
     ·split
      ·simp[Za8,Zb9,Zbb]
      ·split
       ·simp[Za8,Zb9,Zbb]
       ·split
        ·simp[Za8,Zb9,Zbb]
        ·simp[Za8,Zb9,Zbb]
   refine Nat.le_trans (this _) ?_
   simp
   omega
  ·cases h
theorem Zou {ts:List Tok} {sz:Nat} (hts:∀ t∈ts,TokOk t):∀ f,Z15 (Zdg ts sz f)
 | 0=>fun i r h=>by cases h
 | f+1=>by
  intro i r h
  have ih:=Zou (sz:=sz) hts f
  unfold Zdg at h
  split at h
  ·obtain⟨p,hp,h⟩:=Zat h
   have:=ih _ _ hp
   cases h
   have h2:=Zxj p.1
   exact⟨by simp;omega,by simp only;omega⟩
  ·split at h
   ·obtain⟨p,hp,h⟩:=Zat h
    have h1:=Zot ih _ _ hp
    obtain⟨j,hj,h⟩:=Zat h
    obtain⟨_,rfl,h2⟩:=Zb4 hj
    cases h
    exact⟨by simp;omega,by simp only;omega⟩
   ·split at h
    ·have:=Zxl ih i _ r h
     omega
    ·obtain⟨a,ha,h⟩:=Zat h
     have h1:=Zjk hts ha
     split at h
     ·have:=Zvp a.1 i _ r h
      omega
     ·have:=Zsh hts a.1 i _ r h
      omega
end
section
def ltL:List Nat→List Nat→Bool
 | _,[]=>false
 | [],_::_=>true
 | x::xs,y::ys=>decide (x<y)||(x==y&&ltL xs ys)
theorem Za4:∀ a,ltL a a=false
 | []=>rfl
 | x::xs=>by simp[ltL,Za4 xs]
theorem Zdh:∀ a b c,ltL a b=true→ltL b c=true→ltL a c=true
 | [],[],_,h,_=>by simp[ltL] at h
 | [],_::_,[],_,h=>by simp[ltL] at h
 | [],_::_,_::_,_,_=>rfl
 | _::_,[],_,h,_=>by simp[ltL] at h
 | _::_,_::_,[],_,h=>by simp[ltL] at h
 | x::xs,y::ys,z::zs,h1,h2=>by
  simp only[ltL,Bool.or_eq_true,decide_eq_true_eq,Bool.and_eq_true,beq_iff_eq] at *
  rcases h1 with h1 | ⟨rfl,h1⟩
  ·rcases h2 with h2 | ⟨rfl,h2⟩
   ·left;omega
   ·left;exact h1
  ·rcases h2 with h2 | ⟨rfl,h2⟩
   ·left;exact h2
   ·right;exact⟨rfl,Zdh xs ys zs h1 h2⟩
theorem Zey:∀ a b,ltL a b=true∨a=b∨ltL b a=true
 | [],[]=>.inr (.inl rfl)
 | [],_::_=>.inl rfl
 | _::_,[]=>.inr (.inr rfl)
 | x::xs,y::ys=>by
  simp only[ltL,Bool.or_eq_true,decide_eq_true_eq,Bool.and_eq_true,beq_iff_eq]
  rcases Nat.lt_trichotomy x y with h | rfl | h
  ·left;left;exact h
  ·rcases Zey xs ys with h | rfl | h
   ·left;right;exact⟨rfl,h⟩
   ·right;left;rfl
   ·right;right;right;exact⟨rfl,h⟩
  ·right;right;left;exact h
def Zsi (a b:List Nat):Int:=if ltL a b=true then -1 else if ltL b a=true then 1 else 0
theorem Zie (a b:List Nat):Zsi a b=0↔a=b:=by
 unfold Zsi
 rcases Zey a b with h | rfl | h
 ·rw[if_pos h]
  constructor
  ·intro h;cases h
  ·rintro rfl;rw[Za4] at h;cases h
 ·rw[Za4];simp
 ·by_cases h2:ltL a b=true
  ·rw[if_pos h2]
   constructor
   ·intro h;cases h
   ·rintro rfl;rw[Za4] at h;cases h
  ·rw[if_neg h2,if_pos h]
   constructor
   ·intro h;cases h
   ·rintro rfl;rw[Za4] at h;cases h
theorem Zxm (a b:List Nat):Zsi a b<0↔ltL a b=true:=by
 unfold Zsi
 by_cases h:ltL a b=true
 ·rw[if_pos h];exact⟨fun _=>h,fun _=>by decide⟩
 ·rw[if_neg h]
  constructor
  ·intro h2;split at h2<;>exact absurd h2 (by decide)
  ·intro h2;exact absurd h2 h
structure Ky where
 l:List Nat
 r:List Nat
 c:Int
deriving DecidableEq
instance:Inhabited Ky:=⟨⟨[],[],0⟩⟩
def or3 (a b c:Int):Int:=if a≠0 then a else if b≠0 then b else c
def Znr (a b:Int):Int:=if a<b then -1 else if a=b then 0 else 1
def Z7q (a b:Ky):Int:=or3 (Zsi a.l b.l) (Zsi a.r b.r) (Znr a.c b.c)
def ltK (a b:Ky):Bool:=decide (Z7q a b<0)
theorem Zov (a b:Ky):ltK a b=true↔ltL a.l b.l=true∨(a.l=b.l∧(ltL a.r b.r=true∨(a.r=b.r∧a.c<b.c))):=by
 unfold ltK Z7q or3
 rw[decide_eq_true_eq]
 by_cases h1:a.l=b.l
 ·have z1:=(Zie a.l b.l).2 h1
  rw[if_neg (by simpa using z1)]
  have i1:ltL a.l b.l≠true:=by rw[h1,Za4];simp
  by_cases h2:a.r=b.r
  ·have z2:=(Zie a.r b.r).2 h2
   have i2:ltL a.r b.r≠true:=by rw[h2,Za4];simp
   rw[if_neg (by simpa using z2)]
   unfold Znr
   constructor
   ·intro h
    right;refine⟨h1,.inr ⟨h2,?_⟩⟩
    by_cases h3:a.c<b.c
    ·exact h3
    ·rw[if_neg h3] at h;split at h<;>exact absurd h (by decide)
   ·rintro (h | ⟨_,h | ⟨_,h⟩⟩)
    ·exact absurd h i1
    ·exact absurd h i2
    ·rw[if_pos h];decide
  ·have z2:Zsi a.r b.r≠0:=fun h=>h2 ((Zie _ _).1 h)
   rw[if_pos z2,Zxm]
   constructor
   ·intro h;exact .inr ⟨h1,.inl h⟩
   ·rintro (h | ⟨_,h | ⟨h,_⟩⟩)
    ·exact absurd h i1
    ·exact h
    ·exact absurd h h2
 ·have z1:Zsi a.l b.l≠0:=fun h=>h1 ((Zie _ _).1 h)
  rw[if_pos z1,Zxm]
  constructor
  ·intro h;exact .inl h
  ·rintro (h | ⟨h,_⟩)
   ·exact h
   ·exact absurd h h1
theorem Zer (a:Ky):ltK a a=false:=by
 rw[Bool.eq_false_iff,Ne,Zov]
 simp[Za4]
theorem Zgt (a b c:Ky) (h1:ltK a b=true) (h2:ltK b c=true):ltK a c=true:=by
 rw[Zov] at *
 rcases h1 with h1 | ⟨e1,h1⟩
 ·rcases h2 with h2 | ⟨e2,h2⟩
  ·exact .inl (Zdh _ _ _ h1 h2)
  ·rw[← e2];exact .inl h1
 ·rcases h2 with h2 | ⟨e2,h2⟩
  ·rw[e1];exact .inl h2
  ·refine .inr ⟨e1.trans e2,?_⟩
   rcases h1 with h1 | ⟨f1,h1⟩
   ·rcases h2 with h2 | ⟨f2,h2⟩
    ·exact .inl (Zdh _ _ _ h1 h2)
    ·rw[← f2];exact .inl h1
   ·rcases h2 with h2 | ⟨f2,h2⟩
    ·rw[f1];exact .inl h2
    ·exact .inr ⟨f1.trans f2,by omega⟩
theorem Zlr (a b:Ky):ltK a b=true∨a=b∨ltK b a=true:=by
 rw[Zov,Zov]
 rcases Zey a.l b.l with h | h | h
 ·exact .inl (.inl h)
 ·rcases Zey a.r b.r with h2 | h2 | h2
  ·exact .inl (.inr ⟨h,.inl h2⟩)
  ·rcases Int.lt_trichotomy a.c b.c with h3 | h3 | h3
   ·exact .inl (.inr ⟨h,.inr ⟨h2,h3⟩⟩)
   ·right;left;cases a;cases b;simp_all
   ·exact .inr (.inr (.inr ⟨h.symm,.inr ⟨h2.symm,h3⟩⟩))
  ·exact .inr (.inr (.inr ⟨h.symm,.inl h2⟩))
 ·exact .inr (.inr (.inl h))
theorem Zvq (a b c:Ky) (h1:ltK a b=false) (h2:ltK b c=false):ltK a c=false:=by
 rw[Bool.eq_false_iff] at *
 intro h
 rcases Zlr a b with h3 | rfl | h3
 ·exact h1 h3
 ·exact h2 h
 ·exact h2 (Zgt _ _ _ h3 h)
def Zow:List Ky→Ky→List Ky
 | [],x=>[x]
 | y::ys,x=>if x=y then y::ys else if ltK x y=true then x::y::ys else y::Zow ys x
def Zr5 (l:List Ky):Prop:=l.Pairwise (fun a b=>ltK a b=true)
theorem Zox (x z:Ky):∀ l,z∈Zow l x↔z=x∨z∈l
 | []=>by simp[Zow]
 | y::ys=>by
  unfold Zow
  by_cases h:x=y
  ·rw[if_pos h];subst h;simp
  ·rw[if_neg h]
   by_cases h2:ltK x y=true
   ·rw[if_pos h2];simp
   ·rw[if_neg h2,List.mem_cons,Zox x z ys,List.mem_cons]
    constructor
    ·rintro (h | h | h)<;>simp[h]
    ·rintro (h | h | h)<;>simp[h]
theorem Ztz (x:Ky):∀ l,Zr5 l→Zr5 (Zow l x)
 | [],_=>by simp[Zow,Zr5]
 | y::ys,h=>by
  unfold Zow
  have h0:=List.pairwise_cons.1 h
  by_cases h1:x=y
  ·rw[if_pos h1];exact h
  ·rw[if_neg h1]
   by_cases h2:ltK x y=true
   ·rw[if_pos h2]
    exact List.pairwise_cons.2 ⟨fun z hz=>by
     rcases List.mem_cons.1 hz with rfl | hz
     ·exact h2
     ·exact Zgt _ _ _ h2 (h0.1 z hz),h⟩
   ·rw[if_neg h2]
    refine List.pairwise_cons.2 ⟨fun z hz=>?_,Ztz x ys h0.2⟩
    rcases (Zox x z ys).1 hz with rfl | hz
    ·rcases Zlr z y with h3 | h3 | h3
     ·exact absurd h3 h2
     ·exact absurd h3 h1
     ·exact h3
    ·exact h0.1 z hz
theorem Z5n {l l':List Ky} (h:Zr5 l) (h':Zr5 l') (hm:∀ x,x∈l↔x∈l'):l=l':=by
 have nd:∀ {m:List Ky},Zr5 m→m.Nodup:=fun hm=>hm.imp (fun {a b} hab e=>by rw[e,Zer] at hab;cases hab)
 have hp:l.Perm l':=(List.perm_ext_iff_of_nodup (nd h) (nd h')).2 hm
 refine List.Perm.eq_of_pairwise (le:=fun a b=>ltK a b=true) (fun a b _ _ h1 h2=>?_) h h' hp
 have:=Zgt _ _ _ h1 h2
 rw[Zer] at this
 cases this
def Zpv (p:Prd):Ky:=⟨p.l,p.r,p.c⟩
mutual
def Zcl:Prd→List Ky
 | .mk k l r c ks=>(if k=0 then [⟨l,r,c⟩] else [])++Zck ks
def Zck:List Prd→List Ky
 | []=>[]
 | p::ps=>Zcl p++Zck ps
end
theorem Zpy (a b:List Prd):Zck (a++b)=Zck a++Zck b:=by
 induction a with
 | nil=>rfl
 | cons p ps ih=>simp only[List.cons_append,Zck,ih,List.append_assoc]
theorem Zls (x:Ky):∀ ks,x∈Zck ks↔∃ q∈ks,x∈Zcl q
 | []=>by simp[Zck]
 | p::ps=>by simp[Zck,Zls x ps]
mutual
theorem Zfz:∀ p:Prd,(Zcl p).length≤Za8 p
 | .mk k l r c ks=>by
  unfold Zcl Za8
  have:=Zlt ks
  rw[List.length_append]
  split<;>simp<;>omega
theorem Zlt:∀ ks:List Prd,(Zck ks).length≤Zb9 ks
 | []=>by simp[Zck,Zb9]
 | p::ps=>by
  have:=Zfz p
  have:=Zlt ps
  unfold Zck Zb9
  rw[List.length_append]
  omega
end
def Zan (p:Prd):List Ky:=(Zcl p).foldl Zow []
theorem Zgu (x:Ky):∀ (l acc:List Ky),x∈l.foldl Zow acc↔x∈acc∨x∈l
 | [],acc=>by simp
 | y::ys,acc=>by
  rw[List.foldl_cons,Zgu x ys,Zox,List.mem_cons]
  constructor
  ·rintro ((h | h) | h)<;>simp[h]
  ·rintro (h | h | h)<;>simp[h]
theorem Zif:∀ (l acc:List Ky),Zr5 acc→Zr5 (l.foldl Zow acc)
 | [],acc,h=>h
 | y::ys,acc,h=>Zif ys _ (Ztz y acc h)
theorem Zbm (p:Prd) (x:Ky):x∈Zan p↔x∈Zcl p:=by unfold Zan;rw[Zgu];simp
theorem Zf0 (p:Prd):Zr5 (Zan p):=Zif _ _ .nil
end
section
structure Con where
 l:Nat
 r:Nat
 c:Int
deriving DecidableEq
instance:Inhabited Con:=⟨⟨0,0,0⟩⟩
def Zkh (u:Nat→Int) (c:Con):Prop:=u c.l-u c.r≤c.c
def gv (v:List Int) (i:Nat):Int:=v.getD i 0
theorem Zgn (v:List Int) (i j:Nat) (x:Int) (h:i<v.length):gv (v.set i x) j=if i=j then x else gv v j:=by
 unfold gv
 rw[List.getD_eq_getElem?_getD,List.getD_eq_getElem?_getD,List.getElem?_set]
 by_cases e:i=j
 ·rw[if_pos e,if_pos e,if_pos h];rfl
 ·rw[if_neg e,if_neg e]
theorem Zgv (n i:Nat):gv (List.replicate n 0) i=0:=by
 unfold gv
 rw[List.getD_eq_getElem?_getD,List.getElem?_replicate]
 by_cases h:i<n
 ·rw[if_pos h];rfl
 ·rw[if_neg h];rfl
def Zdx:List Con→List Int→Bool→Option (List Int×Bool)
 | [],v,s=>some (v,s)
 | c::cs,v,s=>if gv v c.r<gv v c.l-c.c then (if c.r=0 then none else Zdx cs (v.set c.r (gv v c.l-c.c)) false) else Zdx cs v s
def Zei (cs:List Con):Nat→List Int→Option (List Int)
 | 0,_=>none
 | f+1,v=>match Zdx cs v true with
  | none=>none
  | some (v',s)=>if s=true then some v' else Zei cs f v'
def Zej (n:Nat) (cs:List Con):Option (List Int):=Zei cs (n+2) (List.replicate (n+1) 0)
def InC (N:Nat) (cs:List Con):Prop:=∀ c∈cs,c.l<N∧c.r<N
theorem InC.cons {N:Nat} {c:Con} {cs:List Con} (h:InC N (c::cs)):(c.l<N∧c.r<N)∧InC N cs:=⟨h c (List.mem_cons_self ..),fun x hx=>h x (List.mem_cons_of_mem _ hx)⟩
theorem Zig:∀ (cs:List Con) (v:List Int) (s:Bool) (v':List Int) (s':Bool),InC v.length cs→Zdx cs v s=some (v',s') →
  v'.length=v.length∧(∀ i,gv v i≤gv v' i)∧gv v' 0=gv v 0∧(s'=true→s=true∧v'=v∧∀ c∈cs,Zkh (gv v) c)∧(∀ c∈cs,gv v c.l-c.c≤gv v' c.r)∧(s=true→s'=false→∃ i,i<v.length∧gv v i<gv v' i)
 | [],v,s,v',s',_,h=>by
  unfold Zdx at h
  cases h
  refine⟨rfl,fun i=>Int.le_refl _,rfl,fun h=>⟨h,rfl,fun c hc=>(by cases hc)⟩,fun c hc=>(by cases hc),fun h1 h2=>?_⟩
  rw[h1] at h2;cases h2
 | c::cs,v,s,v',s',hI,h=>by
  unfold Zdx at h
  obtain⟨⟨hl,hr⟩,hI'⟩:=hI.cons
  by_cases hlt:gv v c.r<gv v c.l-c.c
  ·rw[if_pos hlt] at h
   by_cases h0:c.r=0
   ·rw[if_pos h0] at h;cases h
   ·rw[if_neg h0] at h
    have hlen:(v.set c.r (gv v c.l-c.c)).length=v.length:=List.length_set
    obtain⟨a1,a2,a3,a4,a5,a6⟩:=Zig cs _ false v' s' (by rw[hlen];exact hI') h
    have hup:∀ i,gv v i≤gv (v.set c.r (gv v c.l-c.c)) i:=fun i=>by
     rw[Zgn _ _ _ _ hr]
     by_cases e:c.r=i
     ·rw[if_pos e,← e];omega
     ·rw[if_neg e];exact Int.le_refl _
    have hnew:gv v c.l-c.c≤gv v' c.r:=by
     have:=a2 c.r
     rw[Zgn _ _ _ _ hr,if_pos rfl] at this
     exact this
    refine⟨a1.trans hlen,fun i=>Int.le_trans (hup i) (a2 i),?_,fun hs=>absurd (a4 hs).1 (by simp),fun x hx=>?_,fun _ _=>⟨c.r,hr,by omega⟩⟩
    ·rw[a3,Zgn _ _ _ _ hr,if_neg h0]
    ·rcases List.mem_cons.1 hx with rfl | hx
     ·exact hnew
     ·have h1:=a5 x hx
      have h2:=hup x.l
      omega
  ·rw[if_neg hlt] at h
   obtain⟨a1,a2,a3,a4,a5,a6⟩:=Zig cs v s v' s' hI' h
   refine⟨a1,a2,a3,fun hs=>?_,fun x hx=>?_,a6⟩
   ·obtain⟨b1,b2,b3⟩:=a4 hs
    refine⟨b1,b2,fun x hx=>?_⟩
    rcases List.mem_cons.1 hx with rfl | hx
    ·unfold Zkh;omega
    ·exact b3 x hx
   ·rcases List.mem_cons.1 hx with rfl | hx
    ·have:=a2 x.r;omega
    ·exact a5 x hx
theorem Zoy (u:Nat→Int):∀ (cs:List Con) (v:List Int) (s:Bool),InC v.length cs→(∀ c∈cs,Zkh u c)→(∀ i,i<v.length→gv v i≤u i)→gv v 0=u 0 →
  ∃ v' s',Zdx cs v s=some (v',s')∧(∀ i,i<v.length→gv v' i≤u i)
 | [],v,s,_,_,hv,_=>⟨v,s,rfl,hv⟩
 | c::cs,v,s,hI,hu,hv,h0=>by
  obtain⟨⟨hl,hr⟩,hI'⟩:=hI.cons
  have hc:=hu c (List.mem_cons_self ..)
  unfold Zkh at hc
  unfold Zdx
  by_cases hlt:gv v c.r<gv v c.l-c.c
  ·rw[if_pos hlt]
   by_cases hz:c.r=0
   ·have h1:=hv c.l hl
    rw[hz] at hlt hc
    omega
   ·rw[if_neg hz]
    have hlen:(v.set c.r (gv v c.l-c.c)).length=v.length:=List.length_set
    obtain⟨v',s',h1,h2⟩:=Zoy u cs (v.set c.r (gv v c.l-c.c)) false (by rw[hlen];exact hI') (fun x hx=>hu x (List.mem_cons_of_mem _ hx)) (fun i hi=>by
     rw[hlen] at hi
     rw[Zgn _ _ _ _ hr]
     by_cases e:c.r=i
     ·rw[if_pos e,← e]
      have h1:=hv c.l hl
      omega
     ·rw[if_neg e];exact hv i hi) (by rw[Zgn _ _ _ _ hr,if_neg hz];exact h0)
    exact⟨v',s',h1,by rw[hlen] at h2;exact h2⟩
  ·rw[if_neg hlt]
   exact Zoy u cs v s hI' (fun x hx=>hu x (List.mem_cons_of_mem _ hx)) hv h0
def Zvr (p:Nat→Bool):Nat→Nat
 | 0=>0
 | n+1=>Zvr p n+(if p n=true then 1 else 0)
theorem Zxn (p:Nat→Bool):∀ n,Zvr p n≤n
 | 0=>Nat.le_refl _
 | n+1=>by unfold Zvr;have:=Zxn p n;split<;>omega
theorem Zpz (p q:Nat→Bool):∀ n,(∀ i,i<n→p i=true→q i=true)→Zvr p n≤Zvr q n
 | 0,_=>Nat.le_refl _
 | n+1,h=>by
  unfold Zvr
  have:=Zpz p q n (fun i hi=>h i (by omega))
  have h2:=h n (by omega)
  by_cases hp:p n=true
  ·rw[if_pos hp,if_pos (h2 hp)];omega
  ·rw[if_neg hp];split<;>omega
theorem Zsj (p q:Nat→Bool):∀ n,(∀ i,i<n→p i=true→q i=true)→(∃ i,i<n∧p i=false∧q i=true)→Zvr p n<Zvr q n
 | 0,_,h=>by obtain⟨i,hi,_⟩:=h;omega
 | n+1,h,⟨i,hi,h1,h2⟩=>by
  unfold Zvr
  rcases Nat.lt_or_ge i n with hin | hin
  ·have:=Zsj p q n (fun i hi=>h i (by omega)) ⟨i,hin,h1,h2⟩
   have h2:=h n (by omega)
   by_cases hp:p n=true
   ·rw[if_pos hp,if_pos (h2 hp)];omega
   ·rw[if_neg hp];split<;>omega
  ·obtain rfl:i=n:=by omega
   have:=Zpz p q i (fun i hi=>h i (by omega))
   rw[if_neg (by rw[h1];simp),if_pos h2];omega
def Zt0 (u:Nat→Int):Nat→Nat
 | 0=>0
 | n+1=>Zt0 u n+(u n).toNat
theorem Zp0 (u v:Nat→Int):∀ n,(∀ i,i<n→u i≤v i)→Zt0 u n≤Zt0 v n
 | 0,_=>Nat.le_refl _
 | n+1,h=>by
  unfold Zt0
  have:=Zp0 u v n (fun i hi=>h i (by omega))
  have:=h n (by omega)
  omega
theorem Zxo (u v:Nat→Int):∀ n,(∀ i,i<n→0≤u i∧u i≤v i)→(∃ i,i<n∧u i<v i)→Zt0 u n<Zt0 v n
 | 0,_,h=>by obtain⟨i,hi,_⟩:=h;omega
 | n+1,h,⟨i,hi,h1⟩=>by
  unfold Zt0
  have h2:=h n (by omega)
  rcases Nat.lt_or_ge i n with hin | hin
  ·have:=Zxo u v n (fun i hi=>h i (by omega)) ⟨i,hin,h1⟩
   omega
  ·obtain rfl:i=n:=by omega
   have:=Zp0 u v i (fun i hi=>(h i (by omega)).2)
   omega
theorem Zp1 (P:Nat→Prop):(k:Nat)→P k→∃ m,P m∧∀ j,j<m→¬ P j:=by
 intro k
 induction k using Nat.strongRecOn with
 | _ k ih =>
  intro hk
  by_cases h:∃ j,j<k∧P j
  ·obtain⟨j,hj,hp⟩:=h
   exact ih j hj hp
  ·exact⟨k,hk,fun j hj hp=>h ⟨j,hj,hp⟩⟩
structure SolC (N:Nat) (cs:List Con) (u:Nat→Int):Prop where
 zero:u 0=0
 pos:∀ i,i<N→0≤u i
 meet:∀ c∈cs,Zkh u c
theorem Z54 (N:Nat) (cs:List Con) (u:Nat→Int) (h:SolC N cs u):∃ m,SolC N cs m∧∀ u',SolC N cs u'→Zt0 m N≤Zt0 u' N:=by
 obtain⟨t,⟨m,hm,rfl⟩,hmin⟩:=Zp1 (fun t=>∃ m,SolC N cs m∧Zt0 m N=t) _ ⟨u,h,rfl⟩
 exact⟨m,hm,fun u' hu'=>Nat.le_of_not_lt (fun hlt=>hmin _ hlt ⟨u',hu',rfl⟩)⟩
theorem Zxp (N:Nat) (cs:List Con) (m:Nat→Int) (hI:InC N cs) (h:SolC N cs m) (hmin:∀ u',SolC N cs u'→Zt0 m N≤Zt0 u' N) (S:Nat→Bool) (h0:S 0=true) (hpos:∀ i,i<N→S i=false→1≤m i) (hT:∃ i,i<N∧S i=false) :
  ∃ c∈cs,S c.l=true∧S c.r=false∧m c.r=m c.l-c.c:=by
 apply Classical.byContradiction
 intro hno
 have hno':∀ c∈cs,S c.l=true→S c.r=false→m c.r≠m c.l-c.c:=fun c hc h1 h2 h3=>hno ⟨c,hc,h1,h2,h3⟩
 have hs:SolC N cs (fun i=>if S i=true then m i else m i-1):=by
  refine⟨by rw[if_pos h0];exact h.zero,fun i hi=>?_,fun c hc=>?_⟩
  ·by_cases hS:S i=true
   ·rw[if_pos hS];exact h.pos i hi
   ·rw[if_neg hS];have:=hpos i hi (by simpa using hS);omega
  ·have hm:=h.meet c hc
   have hn:=hno' c hc
   unfold Zkh at hm ⊢
   simp only
   by_cases h1:S c.l=true
   ·rw[if_pos h1]
    by_cases h2:S c.r=true
    ·rw[if_pos h2];exact hm
    ·rw[if_neg h2];have:=hn h1 (by simpa using h2);omega
   ·rw[if_neg h1]
    by_cases h2:S c.r=true
    ·rw[if_pos h2];omega
    ·rw[if_neg h2];omega
 have h1:=hmin _ hs
 obtain⟨i,hi,hiS⟩:=hT
 have h2:=Zxo (fun i=>if S i=true then m i else m i-1) m N (fun j hj=>by
  refine⟨hs.pos j hj,?_⟩
  split<;>omega) ⟨i,hi,by rw[if_neg (by rw[hiS];simp)];omega⟩
 omega
theorem Zp2 (N:Nat) (cs:List Con) (m:Nat→Int) (hI:InC N cs) (h:SolC N cs m) (hmin:∀ u',SolC N cs u'→Zt0 m N≤Zt0 u' N) :
  ∀ (f:Nat) (v:List Int),v.length=N→0<N→gv v 0=0→(∀ i,i<N→0≤gv v i∧gv v i≤m i)→N+1≤Zvr (fun i=>gv v i==m i) N+f→∃ v',Zei cs f v=some v'
 | 0,v,_,_,_,_,hf=>by have:=Zxn (fun i=>gv v i==m i) N;omega
 | f+1,v,hv,hN,h0,hle,hf=>by
  obtain⟨v',s',h1,h2⟩:=Zoy m cs v true (by rw[hv];exact hI) h.meet (fun i hi=>(hle i (by omega)).2) (by rw[h0,h.zero])
  obtain⟨a1,a2,a3,a4,a5,a6⟩:=Zig cs v true v' s' (by rw[hv];exact hI) h1
  unfold Zei
  rw[h1]
  simp only
  cases s' with
  | true=>exact⟨v',by rw[if_pos rfl]⟩
  | false =>
   rw[if_neg (by simp)]
   obtain⟨i,hi,hlt⟩:=a6 rfl rfl
   refine Zp2 N cs m hI h hmin f v' (a1.trans hv) hN (a3.trans h0) (fun i hi=>⟨Int.le_trans (hle i hi).1 (a2 i),h2 i (by omega)⟩) ?_
   have hS:Zvr (fun i=>gv v i==m i) N<Zvr (fun i=>gv v' i==m i) N:=by
    refine Zsj _ _ N (fun j hj hp=>?_) ?_
    ·have e:gv v j=m j:=by simpa using hp
     have e1:=a2 j
     have e2:=h2 j (by omega)
     simp only[beq_iff_eq];omega
    ·obtain⟨c,hc,c1,c2,c3⟩:=Zxp N cs m hI h hmin (fun i=>gv v i==m i) (by simp only[beq_iff_eq];rw[h0,h.zero]) (fun j hj hp=>by
      have:=hle j hj
      have:gv v j≠m j:=by simpa using hp
      omega) ⟨i,by omega,by
       have:=h2 i (by omega)
       simp only[beq_eq_false_iff_ne];omega⟩
     refine⟨c.r,(hI c hc).2,c2,?_⟩
     have e1:=a5 c hc
     have e2:=h2 c.r (by rw[hv];exact (hI c hc).2)
     have e3:gv v c.l=m c.l:=by simpa using c1
     simp only[beq_iff_eq];omega
   omega
theorem Zlu (cs:List Con):∀ (f:Nat) (v v':List Int),InC v.length cs→0<v.length→Zei cs f v=some v'→v'.length=v.length∧gv v' 0=gv v 0∧(∀ i,gv v i≤gv v' i)∧(∀ c∈cs,Zkh (gv v') c)∧∀ u,(∀ c∈cs,Zkh u c)→u 0=gv v 0→(∀ i,i<v.length→gv v i≤u i)→∀ i,i<v.length→gv v' i≤u i
 | 0,v,v',_,_,h=>by cases h
 | f+1,v,v',hI,hN,h=>by
  unfold Zei at h
  cases hp:Zdx cs v true with
  | none=>rw[hp] at h;cases h
  | some q =>
   obtain⟨v1,s1⟩:=q
   rw[hp] at h
   simp only at h
   obtain⟨a1,a2,a3,a4,a5,a6⟩:=Zig cs v true v1 s1 hI hp
   have hpl:∀ u,(∀ c∈cs,Zkh u c)→u 0=gv v 0→(∀ i,i<v.length→gv v i≤u i)→∀ i,i<v.length→gv v1 i≤u i:=fun u h1 h2 h3=>by
    obtain⟨v2,s2,e1,e2⟩:=Zoy u cs v true hI h1 h3 h2.symm
    rw[hp] at e1
    cases e1
    exact e2
   cases s1 with
   | true =>
    rw[if_pos rfl] at h
    cases h
    obtain⟨-,b2,b3⟩:=a4 rfl
    exact⟨a1,a3,a2,by rw[b2];exact b3,hpl⟩
   | false =>
    rw[if_neg (by simp)] at h
    obtain⟨c1,c2,c3,c4,c5⟩:=Zlu cs f v1 v' (by rw[a1];exact hI) (by omega) h
    refine⟨c1.trans a1,c2.trans a3,fun i=>Int.le_trans (a2 i) (c3 i),c4,fun u h1 h2 h3 i hi=>?_⟩
    exact c5 u h1 (h2.trans a3.symm) (fun j hj=>hpl u h1 h2 h3 j (by omega)) i (by omega)
theorem Zdy {n:Nat} {cs:List Con} {v:List Int} (hI:InC (n+1) cs) (h:Zej n cs=some v):v.length=n+1∧SolC (n+1) cs (gv v)∧∀ u,SolC (n+1) cs u→∀ i,i<n+1→gv v i≤u i:=by
 unfold Zej at h
 have hl:(List.replicate (n+1) (0:Int)).length=n+1:=List.length_replicate
 obtain⟨a1,a2,a3,a4,a5⟩:=Zlu cs _ _ _ (by rw[hl];exact hI) (by rw[hl];omega) h
 rw[hl] at a1 a5
 rw[Zgv] at a2 a5
 refine⟨a1,⟨a2,fun i hi=>by have:=a3 i;rw[Zgv] at this;exact this,a4⟩,fun u hu=>a5 u hu.meet hu.zero (fun i hi=>by rw[Zgv];exact hu.pos i hi)⟩
theorem Zsk {n:Nat} {cs:List Con} (hI:InC (n+1) cs) (h:Zej n cs=none) (u:Nat→Int):¬ SolC (n+1) cs u:=by
 intro hu
 obtain⟨m,hm,hmin⟩:=Z54 _ _ u hu
 have h0:1≤Zvr (fun i=>gv (List.replicate (n+1) 0) i==m i) (n+1):=by
  have:=Zsj (fun _=>false) (fun i=>gv (List.replicate (n+1) 0) i==m i) (n+1) (fun i _ h=>by cases h) ⟨0,by omega,rfl,by simp only[beq_iff_eq];rw[Zgv,hm.zero]⟩
  omega
 obtain⟨v',hv⟩:=Zp2 (n+1) cs m hI hm hmin (n+2) (List.replicate (n+1) 0) List.length_replicate (by omega) (Zgv _ _) (fun i hi=>by rw[Zgv];exact⟨Int.le_refl _,hm.pos i hi⟩) (by omega)
 unfold Zej at h
 rw[h] at hv
 cases hv
end
section
def Zc3:List Con→Nat→List Int→List Int→Int→List Int×List Int×Int
 | [],_,d,l,a=>(d,l,a)
 | c::cs,i,d,l,a=>if gv d c.r+c.c<gv d c.l then Zc3 cs (i+1) (d.set c.l (gv d c.r+c.c)) (l.set c.l (i:Int)) (c.l:Int) else Zc3 cs (i+1) d l a
def Zcm (cs:List Con):Nat→List Int→List Int→Int→Option (List Int×List Int×Int)
 | 0,d,l,a=>some (d,l,a)
 | f+1,d,l,_=>if (Zc3 cs 0 d l (-1)).2.2<0 then none else Zcm cs f (Zc3 cs 0 d l (-1)).1 (Zc3 cs 0 d l (-1)).2.1 (Zc3 cs 0 d l (-1)).2.2
def Z2c (cs:List Con) (i:Int):Nat:=(cs.getD i.toNat default).r
def nxC (cs:List Con) (l:List Int) (x:Nat):Nat:=Z2c cs (gv l x)
def itC (cs:List Con) (l:List Int) (a:Nat):Nat→Nat
 | 0=>a
 | k+1=>nxC cs l (itC cs l a k)
structure InvC (CS:List Con) (N:Nat) (d l:List Int) (T:Nat→Nat) (t:Nat):Prop where
 ld:d.length=N
 ll:l.length=N
 clock:∀ x,T x≤t
 at':∀ x,x<N→(gv l x = -1∧gv d x=0)∨(∃ (i:Nat) (c:Con),CS[i]?=some c∧gv l x=(i:Int)∧c.l=x∧(gv d c.r+c.c<gv d x∨(gv d c.r+c.c=gv d x∧T c.r<T x)))
theorem InvC.relax {CS:List Con} {N:Nat} {d l:List Int} {T:Nat→Nat} {t i:Nat} {c:Con} (h:InvC CS N d l T t) (hI:InC N CS) (hc:CS[i]?=some c) (hlt:gv d c.r+c.c<gv d c.l) :
  InvC CS N (d.set c.l (gv d c.r+c.c)) (l.set c.l (i:Int)) (fun y=>if y=c.l then t+1 else T y) (t+1):=by
 obtain⟨hl,hr⟩:=hI c (List.mem_of_getElem? hc)
 refine⟨by rw[List.length_set];exact h.ld,by rw[List.length_set];exact h.ll,fun x=>?_,fun x hx=>?_⟩
 ·by_cases e:x=c.l
  ·rw[if_pos e];exact Nat.le_refl _
  ·rw[if_neg e];have:=h.clock x;omega
 ·have g1:∀ j,gv (d.set c.l (gv d c.r+c.c)) j=if c.l=j then gv d c.r+c.c else gv d j:=fun j=>Zgn _ _ _ _ (by rw[h.ld];exact hl)
  have g2:∀ j,gv (l.set c.l (i:Int)) j=if c.l=j then (i:Int) else gv l j:=fun j=>Zgn _ _ _ _ (by rw[h.ll];exact hl)
  rw[g1,g2]
  by_cases e:c.l=x
  ·rw[if_pos e,if_pos e]
   refine .inr ⟨i,c,hc,rfl,e,?_⟩
   rw[g1]
   by_cases e2:c.l=c.r
   ·rw[if_pos e2,← e2]
    left
    rw[← e2] at hlt
    omega
   ·rw[if_neg e2]
    right
    refine⟨rfl,?_⟩
    rw[if_neg (fun e3=>e2 e3.symm),if_pos e.symm]
    have:=h.clock c.r
    omega
  ·rw[if_neg e,if_neg e]
   rcases h.at' x hx with h1 | ⟨j,c',h1,h2,h3,h4⟩
   ·exact .inl h1
   ·refine .inr ⟨j,c',h1,h2,h3,?_⟩
    rw[g1]
    by_cases e2:c.l=c'.r
    ·rw[if_pos e2]
     left
     rcases h4 with h4 | ⟨h4,-⟩
     ·rw[← e2] at h4;omega
     ·rw[← e2] at h4;omega
    ·rw[if_neg e2,if_neg (fun e3=>e2 e3.symm),if_neg (fun e3=>e e3.symm)]
     exact h4
theorem Zlv (CS:List Con) (N:Nat) (hI:InC N CS):∀ (cs:List Con) (i:Nat) (d l:List Int) (a:Int) (T:Nat→Nat) (t:Nat),CS.drop i=cs→InvC CS N d l T t →
  (∃ T' t',InvC CS N (Zc3 cs i d l a).1 (Zc3 cs i d l a).2.1 T' t')∧(∀ j,gv (Zc3 cs i d l a).1 j≤gv d j)∧(∀ c∈cs,gv (Zc3 cs i d l a).1 c.l≤gv d c.r+c.c) ∧
  (((Zc3 cs i d l a).2.2=a∧(Zc3 cs i d l a).1=d)∨∃ x:Nat,x<N∧(Zc3 cs i d l a).2.2=(x:Int)∧gv (Zc3 cs i d l a).1 x<gv d x)
 | [],i,d,l,a,T,t,_,h=>⟨⟨T,t,h⟩,fun j=>Int.le_refl _,fun c hc=>(by cases hc),.inl ⟨rfl,rfl⟩⟩
 | c::cs,i,d,l,a,T,t,hd,h=>by
  have hc:CS[i]?=some c:=by
   have:=congrArg (fun x=>x[0]?) hd
   simpa using this
  have hd':CS.drop (i+1)=cs:=by
   have:=congrArg List.tail hd
   simpa using this
  unfold Zc3
  obtain⟨hl,hr⟩:=hI c (List.mem_of_getElem? hc)
  by_cases hlt:gv d c.r+c.c<gv d c.l
  ·rw[if_pos hlt]
   have g1:∀ j,gv (d.set c.l (gv d c.r+c.c)) j=if c.l=j then gv d c.r+c.c else gv d j:=fun j=>Zgn _ _ _ _ (by rw[h.ld];exact hl)
   have hdn:∀ j,gv (d.set c.l (gv d c.r+c.c)) j≤gv d j:=fun j=>by
    rw[g1]
    by_cases e:c.l=j
    ·rw[if_pos e,← e];omega
    ·rw[if_neg e];exact Int.le_refl _
   obtain⟨b1,b2,b3,b4⟩:=Zlv CS N hI cs (i+1) _ _ (c.l:Int) _ _ hd' (h.relax hI hc hlt)
   refine⟨b1,fun j=>Int.le_trans (b2 j) (hdn j),fun x hx=>?_,.inr ?_⟩
   ·rcases List.mem_cons.1 hx with rfl | hx
    ·have:=b2 x.l
     rw[g1,if_pos rfl] at this
     exact this
    ·have h1:=b3 x hx
     have h2:=hdn x.r
     omega
   ·rcases b4 with ⟨e1,e2⟩ | ⟨x,h1,h2,h3⟩
    ·refine⟨c.l,hl,e1,?_⟩
     rw[e2,g1,if_pos rfl]
     exact hlt
    ·exact⟨x,h1,h2,by have:=hdn x;omega⟩
  ·rw[if_neg hlt]
   obtain⟨b1,b2,b3,b4⟩:=Zlv CS N hI cs (i+1) d l a T t hd' h
   refine⟨b1,b2,fun x hx=>?_,b4⟩
   rcases List.mem_cons.1 hx with rfl | hx
   ·have:=b2 x.l;omega
   ·exact b3 x hx
inductive Wk (CS:List Con):Nat→Nat→Int→Prop
 | start (k x:Nat):Wk CS k x 0
 | step (k:Nat) (w:Int) (c:Con):c∈CS→Wk CS k c.r w→Wk CS (k+1) c.l (w+c.c)
theorem Wk.more {CS:List Con} {k x:Nat} {w:Int} (h:Wk CS k x w):Wk CS (k+1) x w:=by
 induction h with
 | start k x=>exact .start _ _
 | step k w c hc _ ih=>exact .step _ _ c hc ih
theorem Wk.mono {CS:List Con} {k m x:Nat} {w:Int} (h:Wk CS k x w) (hm:k≤m):Wk CS m x w:=by
 obtain⟨e,rfl⟩:=Nat.le.dest hm
 clear hm
 induction e with
 | zero=>exact h
 | succ e ih=>exact ih.more
def Zp3 (CS:List Con) (k:Nat) (d:List Int):Prop:=∀ x w,Wk CS k x w→gv d x≤w
theorem Zvs {CS:List Con} {k:Nat} {d d':List Int} (h:Zp3 CS k d) (h1:∀ j,gv d' j≤gv d j) (h2:∀ c∈CS,gv d' c.l≤gv d c.r+c.c):Zp3 CS (k+1) d':=by
 intro x w hw
 cases hw with
 | start k x=>exact Int.le_trans (h1 x) (h x 0 (.start _ _))
 | step k w c hc hk =>
  have:=h2 c hc
  have:=h c.r w hk
  omega
theorem Zp4 {CS:List Con} {N:Nat} {d l:List Int} {T:Nat→Nat} {t:Nat} (hI:InC N CS) (h:InvC CS N d l T t):∀ (m x:Nat),x<N→gv l (itC CS l x m) = -1→(∀ j,j<m→gv l (itC CS l x j) ≠ -1)→∃ w,Wk CS m x w∧w≤gv d x
 | 0,x,hx,hr,_=>⟨0,.start _ _,by
  rcases h.at' x hx with ⟨-,h2⟩ | ⟨i,c,-,h2,-,-⟩
  ·omega
  ·have h3:gv l x = -1:=hr
   omega⟩
 | m+1,x,hx,hr,hno=>by
  have hx0:gv l x ≠ -1:=hno 0 (by omega)
  rcases h.at' x hx with ⟨h1,-⟩ | ⟨i,c,h1,h2,h3,h4⟩
  ·exact absurd h1 hx0
  ·have hn:nxC CS l x=c.r:=by
    unfold nxC Z2c
    rw[h2,Int.toNat_natCast,List.getD_eq_getElem?_getD,h1];rfl
   have hit:∀ j,itC CS l x (j+1)=itC CS l c.r j:=fun j=>by
    induction j with
    | zero=>exact hn
    | succ j ih=>show nxC CS l (itC CS l x (j+1))=nxC CS l (itC CS l c.r j);rw[ih]
   have hcm:=List.mem_of_getElem? h1
   obtain⟨w,hw,hwd⟩:=Zp4 hI h m c.r (hI c hcm).2 (by rw[← hit];exact hr) (fun j hj=>by rw[← hit];exact hno (j+1) (by omega))
   refine⟨w+c.c,?_,?_⟩
   ·have:=Wk.step m w c hcm hw
    rw[h3] at this
    exact this
   ·rcases h4 with h4 | ⟨h4,-⟩<;>omega
theorem Zhi {α:Type} [DecidableEq α]:∀ (l m:List α),l.Nodup→(∀ x∈l,x∈m)→l.length≤m.length
 | [],m,_,_=>Nat.zero_le _
 | x::xs,m,hn,h=>by
  have h0:=List.nodup_cons.1 hn
  have hx:=h x (List.mem_cons_self ..)
  have:=Zhi xs (m.erase x) h0.2 (fun y hy=>(List.mem_erase_of_ne (fun e=>by subst e;exact h0.1 hy)).2 (h y (List.mem_cons_of_mem _ hy)))
  rw[List.length_erase_of_mem hx] at this
  have hp:=List.length_pos_of_mem hx
  simp only[List.length_cons]
  omega
theorem Z7v (N:Nat) (f:Nat→Nat) (h:∀ k,k≤N→f k<N):∃ i j,i<j∧j≤N∧f i=f j:=by
 apply Classical.byContradiction
 intro hno
 have hnd:((List.range (N+1)).map f).Nodup:=by
  rw[List.nodup_iff_pairwise_ne,List.pairwise_map]
  refine List.pairwise_iff_getElem.2 (fun i j hi hj hij e=>hno ⟨i,j,hij,?_,?_⟩)
  ·simp at hj;omega
  ·simpa using e
 have:=Zhi _ (List.range N) hnd (fun x hx=>by
  obtain⟨k,hk,rfl⟩:=List.mem_map.1 hx
  have:=List.mem_range.1 hk
  exact List.mem_range.2 (h k (by omega)))
 simp at this
 omega
theorem Zgw (cs:List Con) (l:List Int) (a i:Nat):∀ j,itC cs l a (i+j)=itC cs l (itC cs l a i) j
 | 0=>rfl
 | j+1=>by show nxC cs l (itC cs l a (i+j))=nxC cs l _;rw[Zgw cs l a i j]
def wtC (cs:List Con) (l:List Int) (a:Nat):Nat→Int
 | 0=>0
 | k+1=>wtC cs l a k+(cs.getD (gv l (itC cs l a k)).toNat default).c
def Zt1 (CS:List Con) (l:List Int) (x:Nat):Prop:=∃ (i:Nat) (c:Con),CS[i]?=some c∧gv l x=(i:Int)∧c.l=x
theorem Zih {CS:List Con} {N:Nat} {d l:List Int} {T:Nat→Nat} {t:Nat} (hI:InC N CS) (h:InvC CS N d l T t) (a:Nat) (ha:a<N):∀ k,(∀ j,j<k→gv l (itC CS l a j) ≠ -1)→itC CS l a k<N ∧
  ((gv d (itC CS l a k)+wtC CS l a k<gv d a)∨(gv d (itC CS l a k)+wtC CS l a k=gv d a∧(k=0∨T (itC CS l a k)<T a)))
 | 0,_=>⟨ha,.inr ⟨by show gv d a+0=_;omega,.inl rfl⟩⟩
 | k+1,hno=>by
  obtain⟨h1,h2⟩:=Zih hI h a ha k (fun j hj=>hno j (by omega))
  have hk:=hno k (by omega)
  rcases h.at' _ h1 with ⟨e,-⟩ | ⟨i,c,e1,e2,e3,e4⟩
  ·exact absurd e hk
  ·have hn:itC CS l a (k+1)=c.r:=by
    show nxC CS l _=_
    unfold nxC Z2c
    rw[e2,Int.toNat_natCast,List.getD_eq_getElem?_getD,e1];rfl
   have hs:wtC CS l a (k+1)=wtC CS l a k+c.c:=by
    show _+_=_
    rw[e2,Int.toNat_natCast,List.getD_eq_getElem?_getD,e1];rfl
   rw[hn,hs]
   refine⟨(hI c (List.mem_of_getElem? e1)).2,?_⟩
   rcases e4 with e4 | ⟨e4,e5⟩
   ·left
    rcases h2 with h2 | ⟨h2,-⟩<;>omega
   ·rcases h2 with h2 | ⟨h2,h3⟩
    ·left;omega
    ·right
     refine⟨by omega,.inr ?_⟩
     rcases h3 with rfl | h3
     ·exact e5
     ·omega
theorem Zns (CS:List Con) (N:Nat) (hI:InC N CS):∀ (f:Nat) (d l:List Int) (a:Int) (T:Nat→Nat) (t k:Nat),InvC CS N d l T t→Zp3 CS k d →
  match Zcm CS (f+1) d l a with
  | none=>∃ d':List Int,d'.length=N∧∀ c∈CS,gv d' c.l≤gv d' c.r+c.c
  | some (d',l',a')=>∃ (T':Nat→Nat) (t':Nat) (x:Nat) (d0:List Int),InvC CS N d' l' T' t'∧x<N∧a'=(x:Int)∧Zp3 CS (k+f) d0∧gv d' x<gv d0 x
 | f,d,l,a,T,t,k,h,hs=>by
  unfold Zcm
  obtain⟨⟨T',t',b1⟩,b2,b3,b4⟩:=Zlv CS N hI CS 0 d l (-1) T t rfl h
  by_cases hn:(Zc3 CS 0 d l (-1)).2.2<0
  ·rw[if_pos hn]
   rcases b4 with ⟨e1,e2⟩ | ⟨x,-,e2,-⟩
   ·refine⟨d,h.ld,fun c hc=>?_⟩
    have:=b3 c hc
    rw[e2] at this
    exact this
   ·rw[e2] at hn;omega
  ·rw[if_neg hn]
   have hs':=Zvs hs b2 b3
   cases f with
   | zero =>
    rcases b4 with ⟨e1,e2⟩ | ⟨x,e1,e2,e3⟩
    ·rw[e1] at hn;exact absurd (by decide) hn
    ·exact⟨T',t',x,d,b1,e1,e2,hs,e3⟩
   | succ f =>
    have:=Zns CS N hI f _ _ (Zc3 CS 0 d l (-1)).2.2 T' t' (k+1) b1 hs'
    rw[show k+1+f=k+(f+1) by omega] at this
    exact this
theorem Zxq (n:Nat) (CS:List Con) (hI:InC (n+1) CS) :
  match Zcm CS (n+2) (List.replicate (n+1) 0) (List.replicate (n+1) (-1)) (-1) with
  | none=>∃ d':List Int,d'.length=n+1∧∀ c∈CS,gv d' c.l≤gv d' c.r+c.c
  | some (d',l',a')=>∃ x p:Nat,a'=(x:Int)∧x<n+1∧l'.length=n+1∧1≤p∧p≤n+1∧(∀ j,itC CS l' x j<n+1∧Zt1 CS l' (itC CS l' x j))∧itC CS l' x (n+1+p)=itC CS l' x (n+1) ∧
    (∀ j,0<j→j<p→itC CS l' x (n+1+j)≠itC CS l' x (n+1))∧wtC CS l' (itC CS l' x (n+1)) p<0:=by
 have h0:InvC CS (n+1) (List.replicate (n+1) 0) (List.replicate (n+1) (-1)) (fun _=>0) 0:=by
  refine⟨List.length_replicate,List.length_replicate,fun _=>Nat.le_refl _,fun x hx=>.inl ⟨?_,Zgv _ _⟩⟩
  unfold gv
  rw[List.getD_eq_getElem?_getD,List.getElem?_replicate,if_pos hx];rfl
 have hs:Zp3 CS 0 (List.replicate (n+1) 0):=fun x w hw=>by
  cases hw with
  | start _ _=>rw[Zgv];exact Int.le_refl _
 have hr:=Zns CS (n+1) hI (n+1) _ _ (-1) _ _ 0 h0 hs
 rw[show 0+(n+1)=n+1 by omega] at hr
 rw[show n+1+1=n+2 by omega] at hr
 cases hc:Zcm CS (n+2) (List.replicate (n+1) 0) (List.replicate (n+1) (-1)) (-1) with
 | none=>rw[hc] at hr;exact hr
 | some q =>
  obtain⟨d',l',a'⟩:=q
  rw[hc] at hr
  obtain⟨T',t',x,d0,h1,h2,h3,h4,h5⟩:=hr
  have hno:∀ m,m≤n+1→gv l' (itC CS l' x m) ≠ -1:=by
   intro m
   induction m using Nat.strongRecOn with
   | _ m ih =>
    intro hm e
    obtain⟨w,hw,hwd⟩:=Zp4 hI h1 m x h2 e (fun j hj=>ih j hj (by omega))
    have:=h4 x w (hw.mono hm)
    omega
  have hlt:∀ m,m≤n+1→itC CS l' x m<n+1:=fun m hm=>(Zih hI h1 x h2 m (fun j hj=>hno j (by omega))).1
  obtain⟨i,j,hij,hj,e⟩:=Z7v (n+1) (itC CS l' x) hlt
  have hper:∀ m,i≤m→itC CS l' x (m+(j-i))=itC CS l' x m:=fun m hm=>by
   obtain⟨e1,rfl⟩:=Nat.le.dest hm
   rw[show i+e1+(j-i)=j+e1 by omega,Zgw CS l' x j,Zgw CS l' x i,e]
  have hall:∀ m,gv l' (itC CS l' x m) ≠ -1:=by
   intro m
   induction m using Nat.strongRecOn with
   | _ m ih =>
    by_cases hm:m≤n+1
    ·exact hno m hm
    ·have e1:=hper (m-(j-i)) (by omega)
     rw[show m-(j-i)+(j-i)=m by omega] at e1
     rw[e1]
     exact ih _ (by omega)
  have hall2:∀ m,itC CS l' x m<n+1:=fun m=>(Zih hI h1 x h2 m (fun j _=>hall j)).1
  obtain⟨p,⟨hp1,hp2⟩,hmin⟩:=Zp1 (fun p=>1≤p∧itC CS l' x (n+1+p)=itC CS l' x (n+1)) (j-i) ⟨by omega,hper (n+1) (by omega)⟩
  have hpj:p≤j-i:=Nat.le_of_not_lt (fun hlt=>hmin _ hlt ⟨by omega,hper (n+1) (by omega)⟩)
  refine⟨x,p,h3,h2,h1.ll,hp1,by omega,fun m=>⟨hall2 m,?_⟩,hp2,fun m hm1 hm2 e1=>hmin m hm2 ⟨hm1,e1⟩,?_⟩
  ·rcases h1.at' _ (hall2 m) with ⟨e1,-⟩ | ⟨i,c,e1,e2,e3,-⟩
   ·exact absurd e1 (hall m)
   ·exact⟨i,c,e1,e2,e3⟩
  ·have hsc:=(Zih hI h1 (itC CS l' x (n+1)) (hall2 _) p (fun m _=>by rw[← Zgw];exact hall _)).2
   rw[← Zgw,hp2] at hsc
   rcases hsc with hsc | ⟨hsc,hsc2⟩
   ·omega
   ·rcases hsc2 with hsc2 | hsc2<;>omega
def Zr6 (CS:List Con) (l:List Int) (y p:Nat):List Int:=(List.range p).map (fun j=>gv l (itC CS l y j))
theorem Z2d (f:Nat→Nat) (n:Nat):(∃ p,1≤p∧p≤n∧f p=f 0)→∃ p,((List.range n).find? (fun j=>f (j+1)==f 0))=some p∧f (p+1)=f 0∧∀ j,0<j→j<p+1→f j≠f 0:=by
 rintro⟨p,h1,h2,h3⟩
 cases hf:(List.range n).find? (fun j=>f (j+1)==f 0) with
 | none =>
  have:=List.find?_eq_none.1 hf (p-1) (List.mem_range.2 (by omega))
  rw[show p-1+1=p by omega] at this
  simp[h3] at this
 | some q =>
  refine⟨q,rfl,?_,fun j hj1 hj2 e=>?_⟩
  ·have:=List.find?_some hf
   simpa using this
  ·rw[List.find?_eq_some_iff_getElem] at hf
   obtain⟨-,i,hi,e1,h5⟩:=hf
   have e2:i=q:=by simpa using e1
   subst e2
   have:=h5 (j-1) (by omega)
   rw[List.getElem_range,show j-1+1=j by omega] at this
   simp[e] at this
def Znt (n:Nat) (CS:List Con):Option (List Int):=match Zcm CS (n+2) (List.replicate (n+1) 0) (List.replicate (n+1) (-1)) (-1) with
 | none=>none
 | some (_,l,a)=>match (List.range (n+1)).find? (fun j=>itC CS l (itC CS l a.toNat (n+1)) (j+1)==itC CS l a.toNat (n+1)) with
  | none=>none
  | some p=>some (Zr6 CS l (itC CS l a.toNat (n+1)) (p+1))
def Zii (CS:List Con) (list:List Int):Bool :=
 !list.isEmpty&&list.all (fun i=>decide (0≤i)&&decide (i<(CS.length:Int))) &&
 (List.range list.length).all (fun i=>(CS.getD (list.getD i 0).toNat default).r==(CS.getD (list.getD ((i+1)%list.length) 0).toNat default).l) &&
 decide ((list.map (fun i=>(CS.getD i.toNat default).c)).sum<0)
end
end Go.Proofs.YtmkdfbelbcocpaaGreatDoor
