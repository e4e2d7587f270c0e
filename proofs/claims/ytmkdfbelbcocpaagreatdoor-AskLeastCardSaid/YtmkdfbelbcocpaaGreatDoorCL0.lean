set_option linter.unusedVariables false
set_option linter.unusedSimpArgs false
namespace Go.Proofs.YtmkdfbelbcocpaaGreatDoor
section
def Zkj (c:Nat):Bool:=(decide (97≤c)&&decide (c≤122))||(decide (65≤c)&&decide (c≤90))
def Zdw (c:Nat):Bool:=decide (48≤c)&&decide (c≤57)
def Zgf (c:Nat):Bool:=Zkj c||Zdw c||c==95
def Zjg (c:Nat):Bool:=c==32||c==9||c==10
def Z66 (c:Nat):Bool:=decide (32≤c)&&decide (c≤126)
theorem Zh2 {c:Nat} (h:Zkj c=true):Zgf c=true:=by unfold Zgf;rw[h];rfl
def Za2 (p:Nat→Bool) (l:List Nat):Nat:=(l.takeWhile p).length
theorem Zgg (p:Nat→Bool):∀ l,Za2 p l≤l.length
 | []=>Nat.le_refl _
 | c::l=>by
  unfold Za2
  rw[List.takeWhile_cons]
  cases p c with
  | false=>exact Nat.zero_le _
  | true=>exact Nat.succ_le_succ (Zgg p l)
theorem Zns (p:Nat→Bool):∀ (l:List Nat) (i:Nat),i<Za2 p l→p (l.getD i 0)=true
 | [],i,h=>by simp[Za2] at h
 | c::l,i,h=>by
  unfold Za2 at h
  rw[List.takeWhile_cons] at h
  cases hp:p c with
  | false=>rw[hp] at h;simp at h
  | true =>
   rw[hp] at h
   cases i with
   | zero=>simpa using hp
   | succ i=>simpa using Zns p l i (by simpa [Za2] using h)
theorem Zky (p:Nat→Bool):∀ (l:List Nat),Za2 p l<l.length→p (l.getD (Za2 p l) 0)=false
 | [],h=>by simp at h
 | c::l,h=>by
  unfold Za2 at h ⊢
  rw[List.takeWhile_cons] at h ⊢
  cases hp:p c with
  | false=>simpa using hp
  | true =>
   rw[hp] at h
   simp only[if_pos,List.length_cons] at h ⊢
   have h2:=Zky p l (by unfold Za2;omega)
   unfold Za2 at h2
   simpa using h2
theorem Zgy (p:Nat→Bool) (l:List Nat) (n:Nat) (hn:n≤l.length) (hy:∀ i,i<n→p (l.getD i 0)=true) (hs:n<l.length→p (l.getD n 0)=false):n=Za2 p l:=by
 rcases Nat.lt_trichotomy n (Za2 p l) with h | h | h
 ·have h1:=Zns p l n h
  have h2:=hs (Nat.lt_of_lt_of_le h (Zgg p l))
  rw[h1] at h2;exact absurd h2 (by simp)
 ·exact h
 ·have h1:=hy _ h
  have h2:=Zky p l (Nat.lt_of_lt_of_le h hn)
  rw[h1] at h2;exact absurd h2 (by simp)
theorem Znt (p:Nat→Bool):∀ l:List Nat,(Za2 p l==l.length)=l.all p
 | []=>rfl
 | c::l=>by
  unfold Za2
  rw[List.takeWhile_cons,List.all_cons]
  cases hp:p c with
  | false=>simp
  | true =>
   have:=Znt p l
   unfold Za2 at this
   simp only[if_pos,List.length_cons,Bool.true_and]
   rw[← this]
   rw[Bool.eq_iff_iff];simp
def Zdt (l:List Nat):Bool:=(l != [])&&Zkj (l.getD 0 0)&&decide (l.length≤20)&&(Za2 Zgf l==l.length)
def Zrx (l:List Nat):Bool:=!(decide (l.length<1)||decide (20<l.length)||!Zkj (l.getD 0 0))&&l.tail.all Zgf
theorem Z1y (l:List Nat):Zrx l=Zdt l:=by
 unfold Zrx Zdt
 rw[Znt]
 cases l with
 | nil=>rfl
 | cons c l =>
  simp only[List.getD_cons_zero,List.tail_cons,List.all_cons,List.length_cons]
  cases hl:Zkj c with
  | false=>simp
  | true =>
   rw[Zh2 hl]
   have h1:decide (l.length+1<1)=false:=by simp
   rw[h1]
   by_cases h:20<l.length+1
   ·rw[decide_eq_true h,decide_eq_false (by omega:¬ l.length+1≤20)];simp
   ·rw[decide_eq_false h,decide_eq_true (by omega:l.length+1≤20)];simp
def Zkd (l:List Nat):Nat:=l.foldl (fun n c=>10*n+(c-48)) 0
def Zey (l:List Nat):Bool:=!((l==[])||(Za2 Zdw l != l.length)||((l.getD 0 0==48)&&(l != [48]))||decide (13<l.length))&&decide (Zkd l≤1099511627776)
def Zw3 (l:List Nat):Nat:=if Zey l then Zkd l else 0
theorem Zxa (l:List Nat) (c:Nat):Zkd (l++[c])=10*Zkd l+(c-48):=by unfold Zkd;rw[List.foldl_append];rfl
def Zf1:List (List Nat):=[[113,117,101,115,116,105,111,110],[97,110,100],[111,114],[110,111,116],[97,116],[108,101,97,115,116],[111,102],[105,110]]
def Zdb (l:List Nat):Bool:=Zdt l&&!Zf1.contains l
def Zaq (c:Nat):Bool:=c != 46
def Zbj (l:List Nat):Bool:=decide (Za2 Zaq l<l.length)&&(Zdb (l.take (Za2 Zaq l))&&Zdb (l.drop (Za2 Zaq l+1)))
end
section
def Zh3:List Nat→Option (List Nat×Nat)
 | []=>none
 | c::l=>if c=34 then some ([],1) else if c=92 then
   (match l with
    | []=>none
    | d::l=>if d=34∨d=92 then (Zh3 l).map (fun r=>(d::r.1,r.2+2)) else none)
  else if Z66 c=true then (Zh3 l).map (fun r=>(c::r.1,r.2+1)) else none
def Zcs:Bool→List Nat→Nat
 | _,[]=>0
 | com,c::l=>if (com&&c != 10)||Zjg c then Zcs (com&&c != 10) l+1 else if c=35 then Zcs true l+1 else 0
def Zgw (l:List Nat):Nat:=Zcs false l
theorem Zfh:∀ (l:List Nat) (b:Bool),Zcs b l≤l.length
 | [],b=>by cases b<;>simp[Zcs]
 | c::l,b=>by
  unfold Zcs
  have h1:=Zfh l (b&&c != 10)
  have h2:=Zfh l true
  split
  ·simp;omega
  ·split
   ·simp;omega
   ·simp
theorem Zjy:∀ l:List Nat,Zcs false l=Za2 Zjg l+Zcs false (l.drop (Za2 Zjg l))
 | []=>rfl
 | c::l=>by
  unfold Za2
  rw[List.takeWhile_cons]
  cases h:Zjg c with
  | false=>simp
  | true =>
   have ih:=Zjy l
   unfold Za2 at ih
   simp only[if_pos,List.length_cons,List.drop_succ_cons]
   rw[Zcs]
   simp only[h,Bool.false_and,Bool.false_or,if_pos]
   omega
end
section
def Zez:List (List Nat):=[[46,46],[33,61],[60,61],[62,61],[40],[41],[123],[125],[44],[59],[58],[46],[61],[60],[62],[43],[45],[42],[47]]
def Zjz:List (List Nat)→List Nat→Nat
 | [],_=>0
 | t::ts,l=>if t.isPrefixOf l=true then t.length else Zjz ts l
def Zry (l:List Nat):Nat:=Zjz Zez l
theorem Zoz:∀ (ts:List (List Nat)) (l:List Nat),Zjz ts l≤l.length
 | [],l=>Nat.zero_le _
 | t::ts,l=>by
  unfold Zjz
  split
  ·rename_i h
   exact (List.isPrefixOf_iff_prefix.1 h).length_le
  ·exact Zoz ts l
theorem Zrz:∀ (l:List Nat) (r:List Nat×Nat),Zh3 l=some r→1≤r.2∧r.2≤l.length
 | [],r,h=>by simp[Zh3] at h
 | [c],r,h=>by
  unfold Zh3 at h
  split at h
  ·cases h;simp
  ·split at h
   ·simp at h
   ·simp[Zh3] at h
 | c::d::l,r,h=>by
  unfold Zh3 at h
  split at h
  ·cases h;simp
  ·split at h
   ·simp only at h
    split at h
    ·cases hq:Zh3 l with
     | none=>rw[hq] at h;simp at h
     | some r0 =>
      rw[hq] at h
      have:=Zrz l r0 hq
      simp only[Option.map_some,Option.some.injEq] at h
      subst h;simp;omega
    ·simp at h
   ·split at h
    ·cases hq:Zh3 (d::l) with
     | none=>rw[hq] at h;simp at h
     | some r0 =>
      rw[hq] at h
      have:=Zrz (d::l) r0 hq
      simp only[Option.map_some,Option.some.injEq] at h
      subst h;simp at *;omega
    ·simp at h
structure Tok where
 k:Int
 t:List Nat
 n:Nat
 p:Nat
def Zdu (l:List Nat):Except Int (Tok×Nat) :=
 if Zkj (l.getD 0 0)=true then
  (if Zdt (l.take (Za2 Zgf l))=true then .ok (⟨0,l.take (Za2 Zgf l),0,0⟩,Za2 Zgf l) else .error 3)
 else if Zdw (l.getD 0 0)=true then
  (if Zey (l.take (Za2 Zdw l))=true then .ok (⟨1,l.take (Za2 Zdw l),Zkd (l.take (Za2 Zdw l)),0⟩,Za2 Zdw l) else .error 3)
 else if l.getD 0 0=34 then
  (match Zh3 l.tail with
   | some r=>if r.1.length≤400 then .ok (⟨2,r.1,0,0⟩,r.2+1) else .error 2
   | none=>.error 2)
 else if Zry l=0 then .error 10 else .ok (⟨3,l.take (Zry l),0,0⟩,Zry l)
theorem Ztp (p:Nat→Bool) (c:Nat) (l:List Nat) (h:p c=true):0<Za2 p (c::l):=by
 unfold Za2;rw[List.takeWhile_cons,h];simp
theorem Zf2 (l:List Nat) (h0:l≠[]) (r:Tok×Nat) (h:Zdu l = .ok r):1≤r.2∧r.2≤l.length:=by
 cases l with
 | nil=>exact absurd rfl h0
 | cons c l =>
  unfold Zdu at h
  split at h
  ·rename_i hl
   split at h
   ·cases h
    exact⟨Ztp _ _ _ (Zh2 hl),Zgg _ _⟩
   ·cases h
  ·split at h
   ·rename_i hl
    split at h
    ·cases h
     exact⟨Ztp _ _ _ hl,Zgg _ _⟩
    ·cases h
   ·split at h
    ·split at h
     ·rename_i r0 hq
      have:=Zrz _ _ hq
      split at h
      ·cases h
       simp at *;omega
      ·cases h
     ·cases h
    ·split at h
     ·cases h
     ·cases h
      exact⟨by show 1≤Zry (c::l);omega,Zoz _ _⟩
def Zig:Nat→Nat→List Nat→List Tok→List Tok×Nat×Int
 | 0,_,_,acc=>(acc,0,0)
 | f+1,a,l,acc =>
  if Zgw l=l.length then (acc,0,0)
  else match Zdu (l.drop (Zgw l)) with
   | .error e=>([],a+Zgw l,e)
   | .ok r=>Zig f (a+Zgw l+r.2) (l.drop (Zgw l+r.2)) (acc++[{ r.1 with p:=a+Zgw l }])
theorem Zmr:∀ (f g a:Nat) (l:List Nat) (acc:List Tok),l.length<f→l.length<g→Zig f a l acc=Zig g a l acc
 | 0,g,a,l,acc,hf,hg=>absurd hf (Nat.not_lt_zero _)
 | f+1,0,a,l,acc,hf,hg=>absurd hg (Nat.not_lt_zero _)
 | f+1,g+1,a,l,acc,hf,hg=>by
  unfold Zig
  by_cases h:Zgw l=l.length
  ·rw[if_pos h,if_pos h]
  ·rw[if_neg h,if_neg h]
   have hle:Zgw l≤l.length:=Zfh l false
   cases hn:Zdu (l.drop (Zgw l)) with
   | error e=>rfl
   | ok r =>
    have hr:=Zf2 (l.drop (Zgw l)) (by intro h2;have:=congrArg List.length h2;simp at this;omega) r hn
    rw[List.length_drop] at hr
    exact Zmr f g _ _ _ (by rw[List.length_drop];omega) (by rw[List.length_drop];omega)
def Zfb (l:List Nat):List Tok×Nat×Int:=if 4000<l.length then ([],0,6) else Zig (l.length+1) 0 l []
end
section
def Zkz (com:Bool) (a:Nat) (l:List Nat) (acc:List Tok):List Tok×Nat×Int :=
 if Zcs com l=l.length then (acc,0,0)
 else match Zdu (l.drop (Zcs com l)) with
  | .error e=>([],a+Zcs com l,e)
  | .ok r=>Zig (l.length+1) (a+Zcs com l+r.2) (l.drop (Zcs com l+r.2)) (acc++[{ r.1 with p:=a+Zcs com l }])
theorem Zxb (f a:Nat) (l:List Nat) (acc:List Tok) (h:l.length<f):Zig f a l acc=Zkz false a l acc:=by
 cases f with
 | zero=>exact absurd h (Nat.not_lt_zero _)
 | succ f =>
  unfold Zkz
  rw[Zig]
  unfold Zgw
  by_cases h1:Zcs false l=l.length
  ·rw[if_pos h1,if_pos h1]
  ·rw[if_neg h1,if_neg h1]
   have hle:=Zfh l false
   cases hn:Zdu (l.drop (Zcs false l)) with
   | error e=>rfl
   | ok r =>
    have hr:=Zf2 _ (by intro h2;have:=congrArg List.length h2;simp at this;omega) r hn
    rw[List.length_drop] at hr
    exact Zmr _ _ _ _ _ (by rw[List.length_drop];omega) (by rw[List.length_drop];omega)
theorem Z5q (l:List Nat) (h:l.length≤4000):Zfb l=Zkz false 0 l []:=by
 unfold Zfb
 rw[if_neg (by omega)]
 exact Zxb _ _ _ _ (by omega)
end
section
inductive Prd where
 | mk (k:Int) (l r:List Nat) (c:Int) (ks:List Prd):Prd
namespace Prd
def k:Prd→Int | mk k _ _ _ _=>k
def l:Prd→List Nat | mk _ l _ _ _=>l
def r:Prd→List Nat | mk _ _ r _ _=>r
def c:Prd→Int | mk _ _ _ c _=>c
def ks:Prd→List Prd | mk _ _ _ _ ks=>ks
end Prd
def Z1z:Prd:=.mk 0 [] [] 0 []
abbrev PR (α:Type):=Except (Int×Nat) (α×Nat)
def Zdv (ts:List Tok) (sz i:Nat):Nat:=match ts[i]? with
 | some t=>t.p
 | none=>sz
def isP (ts:List Tok) (s:List Nat) (i:Nat):Bool:=match ts[i]? with
 | some t=>(t.k==3||t.k==0)&&t.t==s
 | none=>false
def Zbi (ts:List Tok) (sz:Nat) (s:List Nat) (i:Nat):Except (Int×Nat) Nat :=
 if isP ts s i=true then .ok (i+1) else .error (12,Zdv ts sz i)
def Zd7 (ts:List Tok) (i:Nat):Bool:=match ts[i]? with
 | some t=>t.k==0&&Zdb t.t
 | none=>false
def Zcz (ts:List Tok) (i:Nat):Bool:=match ts[i]? with
 | some t=>t.k==1
 | none=>false
def Zh4 (ts:List Tok) (i:Nat):List Nat:=match ts[i]? with
 | some t=>t.t
 | none=>[]
def Zhy (ts:List Tok) (i:Nat):Nat:=match ts[i]? with
 | some t=>t.n
 | none=>0
def Zgh (ts:List Tok) (sz i:Nat):PR (List Nat) :=
 if Zd7 ts i=true then .ok (Zh4 ts i,i+1) else .error (12,Zdv ts sz i)
def Zmg (ts:List Tok) (sz i:Nat):PR Nat :=
 if Zcz ts i=true then .ok (Zhy ts i,i+1) else .error (12,Zdv ts sz i)
abbrev Zf3:=List Nat×Int
def Zmh (ts:List Tok) (sz i:Nat):PR Zf3 :=
 if isP ts [45] i=true then (Zmg ts sz (i+1)).bind (fun m=>.ok (([],-(m.1:Int)),m.2))
 else if Zcz ts i=true then .ok (([],(Zhy ts i:Int)),i+1)
 else (Zgh ts sz i).bind (fun a=>(Zbi ts sz [46] a.2).bind (fun j=>(Zgh ts sz j).bind (fun b =>
  if isP ts [43] b.2=true then (Zmg ts sz (b.2+1)).bind (fun m=>.ok ((a.1++46::b.1,(m.1:Int)),m.2))
  else if isP ts [45] b.2=true then (Zmg ts sz (b.2+1)).bind (fun m=>.ok ((a.1++46::b.1,-(m.1:Int)),m.2))
  else .ok ((a.1++46::b.1,0),b.2))))
def Zbb (a b:Zf3) (less:Int):Prd:=.mk 0 a.1 b.1 (b.2-a.2-less) []
def inP (p:Prd):Bool:=decide (-1099511627776≤p.c)&&decide (p.c<1099511627776)
def Z7b (ts:List Tok) (i:Nat):Option Nat :=
 if isP ts [60,61] i=true then some 0 else if isP ts [60] i=true then some 1 else if isP ts [62,61] i=true then some 2
 else if isP ts [62] i=true then some 3 else if isP ts [61] i=true then some 4 else if isP ts [33,61] i=true then some 5 else none
def Zdh (n:Nat) (a b:Zf3):Prd :=
 if n=0 then Zbb a b 0 else if n=1 then Zbb a b 1 else if n=2 then Zbb b a 0 else if n=3 then Zbb b a 1
 else if n=4 then .mk 1 [] [] 0 [Zbb a b 0,Zbb b a 0] else .mk 2 [] [] 0 [Zbb a b 1,Zbb b a 1]
def okP (n:Nat) (a b:Zf3):Bool :=
 if n=0 then inP (Zbb a b 0) else if n=1 then inP (Zbb a b 1) else if n=2 then inP (Zbb b a 0) else if n=3 then inP (Zbb b a 1)
 else if n=4 then inP (Zbb a b 0)&&inP (Zbb b a 0) else inP (Zbb a b 1)&&inP (Zbb b a 1)
def Zb1 (ts:List Tok) (sz:Nat) (a:Zf3) (u i:Nat):PR Prd:=match Z7b ts i with
 | none=>.error (12,Zdv ts sz i)
 | some n=>(Zmh ts sz (i+1)).bind (fun b=>if okP n a b.1=true then .ok (Zdh n a b.1,b.2) else .error (3,Zdv ts sz u))
def Zet (k:Int) (ps:List Prd):Prd:=match ps with
 | [p]=>p
 | _=>.mk k [] [] 0 ps
def Zbr (ts:List Tok) (sz:Nat):Nat→Nat→List (Nat×Nat)→PR (List (Nat×Nat))
 | 0,_,_=>.error (0,0)
 | f+1,i,acc=>(Zmg ts sz i).bind (fun m =>
   (if isP ts [46,46] m.2=true then Zmg ts sz (m.2+1) else .ok m).bind (fun n =>
    if n.1<m.1 then .error (3,Zdv ts sz i)
    else if isP ts [44] n.2=true then Zbr ts sz f (n.2+1) (acc++[(m.1,n.1)])
    else .ok (acc++[(m.1,n.1)],n.2)))
def Zft (a:Zf3) (m:Nat×Nat):Prd:=.mk 1 [] [] 0 [Zbb ([],(m.1:Int)) a 0,Zbb a ([],(m.2:Int)) 0]
def Zf4 (a:Zf3) (m:Nat×Nat):Bool:=inP (Zbb ([],(m.1:Int)) a 0)&&inP (Zbb a ([],(m.2:Int)) 0)
def Zdi (ts:List Tok) (sz:Nat) (a:Zf3) (u i:Nat):PR Prd :=
 (Zbi ts sz [123] i).bind (fun j=>(Zbr ts sz (ts.length+1) j []).bind (fun r=>(Zbi ts sz [125] r.2).bind (fun k =>
  if r.1.all (Zf4 a)=true then .ok (Zet 2 (r.1.map (Zft a)),k) else .error (3,Zdv ts sz u))))
def Zdf (ts:List Tok) (word:List Nat) (el:Nat→PR Prd):Nat→Nat→List Prd→PR (List Prd)
 | 0,_,_=>.error (0,0)
 | f+1,i,acc=>(el i).bind (fun p=>if isP ts word p.2=true then Zdf ts word el f (p.2+1) (acc++[p.1]) else .ok (acc++[p.1],p.2))
def Z10 (ts:List Tok) (unit:Nat→PR Prd) (i:Nat):PR Prd:=(Zdf ts [97,110,100] unit (ts.length+1) i []).bind (fun r=>.ok (Zet 1 r.1,r.2))
def Zfc (ts:List Tok) (unit:Nat→PR Prd) (i:Nat):PR Prd:=(Zdf ts [111,114] (Z10 ts unit) (ts.length+1) i []).bind (fun r=>.ok (Zet 2 r.1,r.2))
def Zgr (ts:List Tok) (sz:Nat) (unit:Nat→PR Prd) (u i:Nat):PR Prd :=
 (Zbi ts sz [108,101,97,115,116] i).bind (fun j=>(Zmg ts sz j).bind (fun n=>(Zbi ts sz [111,102] n.2).bind (fun j=>(Zbi ts sz [40] j).bind (fun j =>
  (Zdf ts [44] (Zfc ts unit) (ts.length+1) j []).bind (fun r=>(Zbi ts sz [41] r.2).bind (fun j =>
   if 1≤n.1∧n.1≤r.1.length then .ok (.mk 3 [] [] (n.1:Int) r.1,j) else .error (3,Zdv ts sz u)))))))
def w64 (x:Int):Int:=(x+9223372036854775808)%18446744073709551616-9223372036854775808
theorem Z5b (x:Int) (h1:-9223372036854775808≤x) (h2:x≤9223372036854775807):w64 x=x:=by unfold w64;omega
mutual
def Zr0:Prd→Prd
 | .mk k l r c ks=>if k=0 then .mk 0 r l (w64 (w64 (-c)-1)) [] else
   .mk (if k=1 then 2 else if k=2 then 1 else k) [] [] (if k=3 then w64 (w64 ((ks.length:Int)-c)+1) else 0) (Zw4 ks)
def Zw4:List Prd→List Prd
 | []=>[]
 | p::ps=>Zr0 p::Zw4 ps
end
def Zdj (ts:List Tok) (sz:Nat):Nat→Nat→PR Prd
 | 0,_=>.error (0,0)
 | f+1,i =>
  if isP ts [110,111,116] i=true then (Zdj ts sz f (i+1)).bind (fun p=>.ok (Zr0 p.1,p.2))
  else if isP ts [40] i=true then (Zfc ts (Zdj ts sz f) (i+1)).bind (fun p=>(Zbi ts sz [41] p.2).bind (fun j=>.ok (p.1,j)))
  else if isP ts [97,116] i=true then Zgr ts sz (Zdj ts sz f) i (i+1)
  else (Zmh ts sz i).bind (fun a=>if isP ts [105,110] a.2=true then Zdi ts sz a.1 i (a.2+1) else Zb1 ts sz a.1 i a.2)
mutual
def Zba:Prd→Nat
 | .mk _ _ _ _ ks=>1+Zb8 ks
def Zb8:List Prd→Nat
 | []=>0
 | p::ps=>Zba p+Zb8 ps
end
mutual
def Zms:Prd→Nat
 | .mk _ _ _ _ ks=>1+Zw5 ks
def Zw5:List Prd→Nat
 | []=>0
 | p::ps=>max (Zms p) (Zw5 ps)
end
def Zei (p:Prd):Bool:=decide (Zba p≤100)&&decide (Zms p≤12)
def Zgs (ts:List Tok) (sz:Nat):Except (Int×Nat) (List Nat×Prd) :=
 (Zbi ts sz [113,117,101,115,116,105,111,110] 0).bind (fun j=>(Zgh ts sz j).bind (fun n=>(Zbi ts sz [123] n.2).bind (fun j =>
  (Zfc ts (Zdj ts sz (ts.length+1)) j).bind (fun p=>(Zbi ts sz [125] p.2).bind (fun j =>
   if j<ts.length then .error (12,Zdv ts sz j)
   else if Zei p.1=true then .ok (n.1,p.1) else .error (6,0))))))
def Zcf (s:List Nat):List Nat×Prd×Nat×Int :=
 if (Zfb s).2.2=0 then (match Zgs (Zfb s).1 s.length with
  | .ok r=>(r.1,r.2,0,0)
  | .error e=>([],Z1z,e.2,e.1))
 else ([],Z1z,(Zfb s).2.1,(Zfb s).2.2)
end
section
structure TokOk (t:Tok):Prop where
 name:t.k=0→Zdt t.t=true
 n:t.n≤1099511627776
 p:t.p≤1000000
 len:t.t.length≤1000000
 byte:∀ y∈t.t,y<256
 k0:0≤t.k
 k3:t.k≤3
theorem Zk0:∀ (l:List Nat) (r:List Nat×Nat),Zh3 l=some r→(∀ y∈l,y<256)→∀ y∈r.1,y<256
 | [],r,h,_=>by simp[Zh3] at h
 | [c],r,h,hb=>by
  unfold Zh3 at h
  split at h
  ·cases h;simp
  ·split at h
   ·simp at h
   ·simp[Zh3] at h
 | c::d::l,r,h,hb=>by
  unfold Zh3 at h
  split at h
  ·cases h;simp
  ·split at h
   ·simp only at h
    split at h
    ·cases hq:Zh3 l with
     | none=>rw[hq] at h;simp at h
     | some r0 =>
      rw[hq] at h
      have:=Zk0 l r0 hq (fun y hy=>hb y (by simp[hy]))
      simp only[Option.map_some,Option.some.injEq] at h
      subst h
      intro y hy
      rcases List.mem_cons.1 hy with e | e
      ·subst e;exact hb y (by simp)
      ·exact this y e
    ·simp at h
   ·split at h
    ·cases hq:Zh3 (d::l) with
     | none=>rw[hq] at h;simp at h
     | some r0 =>
      rw[hq] at h
      have:=Zk0 (d::l) r0 hq (fun y hy=>hb y (List.mem_cons_of_mem _ hy))
      simp only[Option.map_some,Option.some.injEq] at h
      subst h
      intro y hy
      rcases List.mem_cons.1 hy with e | e
      ·subst e;exact hb y (by simp)
      ·exact this y e
    ·simp at h
theorem Z11 (l:List Nat) (hl:l.length≤4000) (hb:∀ y∈l,y<256) (r:Tok×Nat) (h:Zdu l = .ok r) (a:Nat) (ha:a≤1000000):TokOk { r.1 with p:=a }:=by
 unfold Zdu at h
 split at h
 ·split at h
  ·rename_i hn
   cases h
   exact⟨fun _=>hn,by simp,ha,by simp;omega,fun y hy=>hb y (List.mem_of_mem_take hy),by simp,by simp⟩
  ·cases h
 ·split at h
  ·split at h
   ·rename_i hn
    cases h
    refine⟨by simp,?_,ha,by simp;omega,fun y hy=>hb y (List.mem_of_mem_take hy),by simp,by simp⟩
    unfold Zey at hn
    simp only[Bool.and_eq_true,decide_eq_true_eq] at hn
    exact hn.2
   ·cases h
  ·split at h
   ·split at h
    ·rename_i r0 hq
     split at h
     ·rename_i h4
      cases h
      exact⟨by simp,by simp,ha,by simp;omega,Zk0 _ _ hq (fun y hy=>hb y (List.mem_of_mem_tail hy)),by simp,by simp⟩
     ·cases h
    ·cases h
   ·split at h
    ·cases h
    ·cases h
     exact⟨by simp,by simp,ha,by simp;omega,fun y hy=>hb y (List.mem_of_mem_take hy),by simp,by simp⟩
theorem Ztq:∀ (f a:Nat) (l:List Nat) (acc:List Tok),a+l.length≤4000→(∀ y∈l,y<256)→(∀ t∈acc,TokOk t)→∀ t∈(Zig f a l acc).1,TokOk t
 | 0,_,_,acc,_,_,h=>by unfold Zig;exact h
 | f+1,a,l,acc,hl,hb,h=>by
  unfold Zig
  split
  ·exact h
  ·have hg:Zgw l≤l.length:=Zfh l false
   have hld:(l.drop (Zgw l)).length≤4000:=by rw[List.length_drop];omega
   cases hn:Zdu (l.drop (Zgw l)) with
   | error e=>intro t ht;cases ht
   | ok r =>
    have hr:=Zf2 _ (by intro h2;have:=congrArg List.length h2;simp at this;omega) r hn
    rw[List.length_drop] at hr
    refine Ztq f _ _ _ (by rw[List.length_drop];omega) (fun y hy=>hb y (List.mem_of_mem_drop hy)) ?_
    intro t ht
    rcases List.mem_append.1 ht with ht | ht
    ·exact h t ht
    ·rw[List.mem_singleton.1 ht]
     exact Z11 _ hld (fun y hy=>hb y (List.mem_of_mem_drop hy)) r hn _ (by omega)
theorem Z12 (l:List Nat) (hb:∀ y∈l,y<256):∀ t∈(Zfb l).1,TokOk t:=by
 unfold Zfb
 split
 ·intro t ht;cases ht
 ·exact Ztq _ _ _ _ (by omega) hb (fun t ht=>by cases ht)
theorem Zk1:∀ (f a:Nat) (l:List Nat) (acc:List Tok),(Zig f a l acc).1.length≤acc.length+l.length
 | 0,_,_,acc=>by unfold Zig;exact Nat.le_add_right _ _
 | f+1,a,l,acc=>by
  unfold Zig
  split
  ·exact Nat.le_add_right _ _
  ·have hg:Zgw l≤l.length:=Zfh l false
   cases hn:Zdu (l.drop (Zgw l)) with
   | error e=>exact Nat.zero_le _
   | ok r =>
    have hr:=Zf2 _ (by intro h2;have:=congrArg List.length h2;simp at this;omega) r hn
    rw[List.length_drop] at hr
    have:=Zk1 f (a+Zgw l+r.2) (l.drop (Zgw l+r.2)) (acc++[{ r.1 with p:=a+Zgw l }])
    rw[List.length_append,List.length_drop] at this
    simp only[List.length_cons,List.length_nil] at this
    exact Nat.le_trans this (by omega)
theorem Zr1 (l:List Nat):(Zfb l).1.length≤4000:=by
 unfold Zfb
 split
 ·exact Nat.zero_le _
 ·have:=Zk1 (l.length+1) 0 l []
  simp at this
  omega
end
section
theorem Zbs {ts:List Tok} {s:List Nat} {i:Nat} (h:isP ts s i=true):i<ts.length:=by
 unfold isP at h
 split at h
 ·rename_i t ht;exact (List.getElem?_eq_some_iff.1 ht).1
 ·cases h
theorem Ze0 {ts:List Tok} {i:Nat} (h:Zd7 ts i=true):i<ts.length:=by
 unfold Zd7 at h
 split at h
 ·rename_i t ht;exact (List.getElem?_eq_some_iff.1 ht).1
 ·cases h
theorem Ze1 {ts:List Tok} {i:Nat} (h:Zcz ts i=true):i<ts.length:=by
 unfold Zcz at h
 split at h
 ·rename_i t ht;exact (List.getElem?_eq_some_iff.1 ht).1
 ·cases h
theorem Zb2 {ts:List Tok} {sz:Nat} {s:List Nat} {i j:Nat} (h:Zbi ts sz s i = .ok j):isP ts s i=true∧j=i+1∧j≤ts.length:=by
 unfold Zbi at h
 split at h
 ·rename_i hs;cases h;exact⟨hs,rfl,Zbs hs⟩
 ·cases h
theorem Ztr {ts:List Tok} {sz i:Nat} {r:List Nat×Nat} (h:Zgh ts sz i = .ok r):Zd7 ts i=true∧r=(Zh4 ts i,i+1)∧r.2≤ts.length:=by
 unfold Zgh at h
 split at h
 ·rename_i hs;cases h;exact⟨hs,rfl,Ze0 hs⟩
 ·cases h
theorem Zgi {ts:List Tok} {sz i:Nat} {r:Nat×Nat} (h:Zmg ts sz i = .ok r):Zcz ts i=true∧r=(Zhy ts i,i+1)∧r.2≤ts.length:=by
 unfold Zmg at h
 split at h
 ·rename_i hs;cases h;exact⟨hs,rfl,Ze1 hs⟩
 ·cases h
theorem Zdx {ts:List Tok} (hts:∀ t∈ts,TokOk t) (i:Nat):Zhy ts i≤1099511627776:=by
 unfold Zhy
 split
 ·rename_i t ht;exact (hts t (List.mem_of_getElem? ht)).n
 ·omega
theorem Zo0 {ts:List Tok} (hts:∀ t∈ts,TokOk t) (i:Nat):∀ y∈Zh4 ts i,y<256:=by
 unfold Zh4
 split
 ·rename_i t ht;exact (hts t (List.mem_of_getElem? ht)).byte
 ·intro y hy;cases hy
theorem Zxc {l:List Nat} (h:Zdt l=true):l.length≤20:=by
 unfold Zdt at h
 simp only[Bool.and_eq_true,decide_eq_true_eq] at h
 exact h.1.2
theorem Zfi {ts:List Tok} {i:Nat} (h:Zd7 ts i=true):(Zh4 ts i).length≤20:=by
 unfold Zd7 at h
 unfold Zh4
 split at h
 ·rename_i t ht
  simp only[Bool.and_eq_true,Zdb] at h
  exact Zxc h.2.1
 ·cases h
structure SumOk (a:Zf3):Prop where
 lo:-1099511627776≤a.2
 hi:a.2≤1099511627776
 len:a.1.length≤41
 byte:∀ y∈a.1,y<256
theorem Zau {ε α β:Type} {x:Except ε α} {f:α→Except ε β} {b:β} (h:x.bind f = .ok b):∃ a,x = .ok a∧f a = .ok b:=by
 cases x with
 | error e=>cases h
 | ok a=>exact⟨a,rfl,h⟩
theorem Zjj {ts:List Tok} (hts:∀ t∈ts,TokOk t) {sz i:Nat} {r:Zf3×Nat} (h:Zmh ts sz i = .ok r):i<r.2∧r.2≤ts.length∧SumOk r.1:=by
 unfold Zmh at h
 split at h
 ·obtain⟨m,h1,h2⟩:=Zau h
  obtain⟨_,rfl,hle⟩:=Zgi h1
  cases h2
  have:=Zdx hts (i+1)
  exact⟨by simp;try omega,hle,by simp;try omega,by simp;try omega,by simp,by simp⟩
 ·split at h
  ·rename_i h1
   cases h
   have:=Zdx hts i
   exact⟨by simp,Ze1 h1,by simp;try omega,by simp;try omega,by simp,by simp⟩
  ·obtain⟨a,ha,h⟩:=Zau h
   obtain⟨hna,rfl,_⟩:=Ztr ha
   obtain⟨j,hj,h⟩:=Zau h
   obtain⟨_,rfl,_⟩:=Zb2 hj
   obtain⟨b,hb,h⟩:=Zau h
   obtain⟨hnb,rfl,hle⟩:=Ztr hb
   have l1:=Zfi hna
   have l2:(Zh4 ts (i+1+1)).length≤20:=Zfi hnb
   have b1:=Zo0 hts i
   have b2:=Zo0 hts (i+1+1)
   have hlen:(Zh4 ts i++46::Zh4 ts (i+1+1)).length≤41:=by rw[List.length_append,List.length_cons];omega
   have hbyte:∀ y∈Zh4 ts i++46::Zh4 ts (i+1+1),y<256:=by
    intro y hy
    rcases List.mem_append.1 hy with hy | hy
    ·exact b1 y hy
    ·rcases List.mem_cons.1 hy with rfl | hy
     ·omega
     ·exact b2 y hy
   split at h
   ·obtain⟨m,h1,h2⟩:=Zau h
    obtain⟨_,rfl,hle⟩:=Zgi h1
    cases h2
    have:=Zdx hts (i+1+1+1+1)
    exact⟨by simp;try omega,hle,by simp;try omega,by simp;try omega,hlen,hbyte⟩
   ·split at h
    ·obtain⟨m,h1,h2⟩:=Zau h
     obtain⟨_,rfl,hle⟩:=Zgi h1
     cases h2
     have:=Zdx hts (i+1+1+1+1)
     exact⟨by simp;try omega,hle,by simp;try omega,by simp;try omega,hlen,hbyte⟩
    ·cases h
     exact⟨by simp;try omega,hle,by simp,by simp,hlen,hbyte⟩
def Zr2 (n:Nat) (el:Nat→PR Prd):Prop:=∀ i r,el i = .ok r→i<r.2∧r.2≤n
theorem Zkk {ts:List Tok} {word:List Nat} {el:Nat→PR Prd} (hel:Zr2 ts.length el):∀ (f i:Nat) (acc:List Prd) (r:List Prd×Nat),Zdf ts word el f i acc = .ok r→i<r.2∧r.2≤ts.length∧acc.length<r.1.length
 | 0,_,_,_,h=>by cases h
 | f+1,i,acc,r,h=>by
  unfold Zdf at h
  obtain⟨p,hp,h⟩:=Zau h
  have h1:=hel i p hp
  split at h
  ·have h2:=Zkk hel f _ _ r h
   rw[List.length_append] at h2
   simp at h2
   omega
  ·cases h
   simp;omega
theorem Zxd {ts:List Tok} {unit:Nat→PR Prd} (hel:Zr2 ts.length unit):Zr2 ts.length (Z10 ts unit):=by
 intro i r h
 unfold Z10 at h
 obtain⟨p,hp,h⟩:=Zau h
 cases h
 have:=Zkk hel _ _ _ p hp
 exact⟨this.1,this.2.1⟩
theorem Zih {ts:List Tok} {unit:Nat→PR Prd} (hel:Zr2 ts.length unit):Zr2 ts.length (Zfc ts unit):=by
 intro i r h
 unfold Zfc at h
 obtain⟨p,hp,h⟩:=Zau h
 cases h
 have:=Zkk (Zxd hel) _ _ _ p hp
 exact⟨this.1,this.2.1⟩
theorem Zxe {ts:List Tok} {sz:Nat} {unit:Nat→PR Prd} (hel:Zr2 ts.length unit) (u:Nat):Zr2 ts.length (Zgr ts sz unit u):=by
 intro i r h
 unfold Zgr at h
 obtain⟨j,hj,h⟩:=Zau h
 obtain⟨_,rfl,_⟩:=Zb2 hj
 obtain⟨n,hn,h⟩:=Zau h
 obtain⟨_,rfl,_⟩:=Zgi hn
 obtain⟨j,hj,h⟩:=Zau h
 obtain⟨_,rfl,_⟩:=Zb2 hj
 obtain⟨j,hj,h⟩:=Zau h
 obtain⟨_,rfl,_⟩:=Zb2 hj
 obtain⟨p,hp,h⟩:=Zau h
 have h1:=Zkk (Zih hel) _ _ _ p hp
 obtain⟨j,hj,h⟩:=Zau h
 obtain⟨_,rfl,h2⟩:=Zb2 hj
 simp only at h
 split at h
 ·cases h
  simp at h1 h2 ⊢
  omega
 ·cases h
theorem Zmt {ts:List Tok} {sz:Nat} (hts:∀ t∈ts,TokOk t):∀ (f i:Nat) (acc:List (Nat×Nat)) (r:List (Nat×Nat)×Nat),(∀ m∈acc,m.1≤1099511627776∧m.2≤1099511627776)→Zbr ts sz f i acc = .ok r→i<r.2∧r.2≤ts.length∧(∀ m∈r.1,m.1≤1099511627776∧m.2≤1099511627776)
 | 0,_,_,_,_,h=>by cases h
 | f+1,i,acc,r,ha,h=>by
  unfold Zbr at h
  obtain⟨m,hm,h⟩:=Zau h
  obtain⟨_,rfl,l1⟩:=Zgi hm
  obtain⟨n,hn,h⟩:=Zau h
  have hn2:i<n.2∧n.2≤ts.length∧n.1≤1099511627776:=by
   split at hn
   ·obtain⟨_,rfl,l2⟩:=Zgi hn
    exact⟨by simp;omega,l2,Zdx hts _⟩
   ·cases hn
    exact⟨by simp,l1,Zdx hts _⟩
  have hacc:∀ m∈acc++[(Zhy ts i,n.1)],m.1≤1099511627776∧m.2≤1099511627776:=by
   intro m hm
   rcases List.mem_append.1 hm with hm | hm
   ·exact ha m hm
   ·rw[List.mem_singleton.1 hm];exact⟨Zdx hts _,hn2.2.2⟩
  split at h
  ·cases h
  ·split at h
   ·have:=Zmt hts f _ _ r hacc h
    exact⟨by omega,this.2⟩
   ·cases h
    exact⟨hn2.1,hn2.2.1,hacc⟩
theorem Zvj {ts:List Tok} {sz:Nat} (hts:∀ t∈ts,TokOk t) (a:Zf3) (u:Nat):Zr2 ts.length (Zdi ts sz a u):=by
 intro i r h
 unfold Zdi at h
 obtain⟨j,hj,h⟩:=Zau h
 obtain⟨_,rfl,_⟩:=Zb2 hj
 obtain⟨p,hp,h⟩:=Zau h
 have h1:=Zmt hts _ _ _ p (fun m hm=>by cases hm) hp
 obtain⟨j,hj,h⟩:=Zau h
 obtain⟨_,rfl,h2⟩:=Zb2 hj
 split at h
 ·cases h
  simp at h1 h2 ⊢
  omega
 ·cases h
theorem Zr3 {ts:List Tok} {sz:Nat} (hts:∀ t∈ts,TokOk t) (a:Zf3) (u:Nat):Zr2 ts.length (Zb1 ts sz a u):=by
 intro i r h
 unfold Zb1 at h
 split at h
 ·cases h
 ·obtain⟨b,hb,h⟩:=Zau h
  have h1:=Zjj hts hb
  split at h
  ·cases h
   exact⟨by simp;omega,h1.2.1⟩
  ·cases h
theorem Znu {ts:List Tok} {sz:Nat} (hts:∀ t∈ts,TokOk t):∀ f,Zr2 ts.length (Zdj ts sz f)
 | 0=>fun i r h=>by cases h
 | f+1=>by
  intro i r h
  have ih:=Znu (sz:=sz) hts f
  unfold Zdj at h
  split at h
  ·obtain⟨p,hp,h⟩:=Zau h
   have:=ih _ _ hp
   cases h
   exact⟨by simp;omega,this.2⟩
  ·split at h
   ·obtain⟨p,hp,h⟩:=Zau h
    have h1:=Zih ih _ _ hp
    obtain⟨j,hj,h⟩:=Zau h
    obtain⟨_,rfl,h2⟩:=Zb2 hj
    cases h
    exact⟨by simp;omega,h2⟩
   ·split at h
    ·have:=Zxe ih i _ r h
     omega
    ·obtain⟨a,ha,h⟩:=Zau h
     have h1:=Zjj hts ha
     split at h
     ·have:=Zvj hts a.1 i _ r h
      omega
     ·have:=Zr3 hts a.1 i _ r h
      omega
end
section
def Z1v (el:Nat→PR Prd):Prop:=∀ i r,el i = .ok r→i<r.2∧Zba r.1≤3*(r.2-i)
theorem Zdc:∀ (a b:List Prd),Zb8 (a++b)=Zb8 a+Zb8 b
 | [],b=>by simp[Zb8]
 | p::a,b=>by rw[List.cons_append,Zb8,Zb8,Zdc a b];omega
mutual
theorem Zxf:∀ p:Prd,Zba (Zr0 p)≤Zba p
 | .mk k l r c ks=>by
  unfold Zr0
  split
  ·simp[Zba,Zb8]
  ·unfold Zba
   have:=Zts ks
   omega
theorem Zts:∀ ks:List Prd,Zb8 (Zw4 ks)≤Zb8 ks
 | []=>Nat.le_refl _
 | p::ps=>by
  unfold Zw4 Zb8
  have:=Zxf p
  have:=Zts ps
  omega
end
theorem Zkl {ts:List Tok} {word:List Nat} {el:Nat→PR Prd} (hel:Z1v el):∀ (f i:Nat) (acc:List Prd) (r:List Prd×Nat),Zdf ts word el f i acc = .ok r →
  i<r.2∧acc.length<r.1.length∧Zb8 r.1+3*r.1.length≤Zb8 acc+3*acc.length+3*(r.2-i)+3
 | 0,_,_,_,h=>by cases h
 | f+1,i,acc,r,h=>by
  unfold Zdf at h
  obtain⟨p,hp,h⟩:=Zau h
  have h1:=hel i p hp
  split at h
  ·have h2:=Zkl hel f _ _ r h
   rw[Zdc,List.length_append] at h2
   simp[Zb8] at h2
   omega
  ·cases h
   rw[Zdc,List.length_append]
   simp[Zb8]
   omega
theorem Ztt (k:Int) (ps:List Prd):Zba (Zet k ps)≤Zb8 ps+(if ps.length=1 then 0 else 1):=by
 match ps with
 | []=>simp[Zet,Zba,Zb8]
 | [p]=>simp[Zet,Zb8]
 | p::q::l=>simp[Zet,Zba,Zb8];omega
theorem Zxg {k:Int} {ps:List Prd} {i j:Nat} (h0:0<ps.length) (h:Zb8 ps+3*ps.length≤3*(j-i)+3):Zba (Zet k ps)≤3*(j-i):=by
 have:=Ztt k ps
 split at this<;>omega
theorem Z5r {ts:List Tok} {unit:Nat→PR Prd} (hel:Z1v unit):Z1v (Z10 ts unit):=by
 intro i r h
 unfold Z10 at h
 obtain⟨p,hp,h⟩:=Zau h
 cases h
 have:=Zkl hel _ _ _ p hp
 simp[Zb8] at this
 exact⟨this.1,Zxg this.2.1 this.2.2⟩
theorem Znv {ts:List Tok} {unit:Nat→PR Prd} (hel:Z1v unit):Z1v (Zfc ts unit):=by
 intro i r h
 unfold Zfc at h
 obtain⟨p,hp,h⟩:=Zau h
 cases h
 have:=Zkl (Z5r hel) _ _ _ p hp
 simp[Zb8] at this
 exact⟨this.1,Zxg this.2.1 this.2.2⟩
theorem Zxh {ts:List Tok} {sz:Nat} {unit:Nat→PR Prd} (hel:Z1v unit) (u:Nat):Z1v (Zgr ts sz unit u):=by
 intro i r h
 unfold Zgr at h
 obtain⟨j,hj,h⟩:=Zau h
 obtain⟨_,rfl,_⟩:=Zb2 hj
 obtain⟨n,hn,h⟩:=Zau h
 obtain⟨_,rfl,_⟩:=Zgi hn
 obtain⟨j,hj,h⟩:=Zau h
 obtain⟨_,rfl,_⟩:=Zb2 hj
 obtain⟨j,hj,h⟩:=Zau h
 obtain⟨_,rfl,_⟩:=Zb2 hj
 obtain⟨p,hp,h⟩:=Zau h
 have h1:=Zkl (Znv hel) _ _ _ p hp
 simp[Zb8] at h1
 obtain⟨j,hj,h⟩:=Zau h
 obtain⟨_,rfl,_⟩:=Zb2 hj
 simp only at h
 split at h
 ·cases h
  simp[Zba]
  omega
 ·cases h
theorem Zmu {ts:List Tok} {sz:Nat}:∀ (f i:Nat) (acc:List (Nat×Nat)) (r:List (Nat×Nat)×Nat),Zbr ts sz f i acc = .ok r→i<r.2∧acc.length<r.1.length∧r.1.length≤acc.length+(r.2-i)
 | 0,_,_,_,h=>by cases h
 | f+1,i,acc,r,h=>by
  rw[Zbr] at h
  obtain⟨m,hm,h⟩:=Zau h
  obtain⟨_,rfl,_⟩:=Zgi hm
  obtain⟨n,hn,h⟩:=Zau h
  have hn2:i<n.2:=by
   split at hn
   ·obtain⟨_,rfl,_⟩:=Zgi hn;simp;omega
   ·cases hn;simp
  split at h
  ·cases h
  ·split at h
   ·have:=Zmu f _ _ r h
    rw[List.length_append] at this
    simp at this
    omega
   ·cases h
    rw[List.length_append]
    simp
    omega
theorem Ztu (a:Zf3):∀ acc:List (Nat×Nat),Zb8 (acc.map (Zft a))=3*acc.length
 | []=>rfl
 | m::acc=>by
  rw[List.map_cons,Zb8,Ztu a acc,List.length_cons]
  simp[Zft,Zba,Zb8,Zbb]
  omega
theorem Zvk {ts:List Tok} {sz:Nat} (a:Zf3) (u:Nat):Z1v (Zdi ts sz a u):=by
 intro i r h
 unfold Zdi at h
 obtain⟨j,hj,h⟩:=Zau h
 obtain⟨_,rfl,_⟩:=Zb2 hj
 obtain⟨p,hp,h⟩:=Zau h
 have h1:=Zmu _ _ _ p hp
 simp at h1
 obtain⟨j,hj,h⟩:=Zau h
 obtain⟨_,rfl,_⟩:=Zb2 hj
 split at h
 ·cases h
  have h2:=Ztt 2 (p.1.map (Zft a))
  rw[Ztu] at h2
  simp only at h1 ⊢
  have:Zba (Zet 2 (p.1.map (Zft a)))≤3*p.1.length+1:=by split at h2<;>omega
  omega
 ·cases h
theorem Zr4 {ts:List Tok} {sz:Nat} (hts:∀ t∈ts,TokOk t) (a:Zf3) (u:Nat):Z1v (Zb1 ts sz a u):=by
 intro i r h
 unfold Zb1 at h
 split at h
 ·cases h
 ·obtain⟨b,hb,h⟩:=Zau h
  have h1:=Zjj hts hb
  split at h
  ·cases h
   refine⟨by simp;omega,?_⟩
   have:∀ n,Zba (Zdh n a b.1)≤3:=fun n=>by
    unfold Zdh
    split
    ·simp[Zba,Zb8,Zbb]
    ·split
     ·simp[Zba,Zb8,Zbb]
     ·split
      ·simp[Zba,Zb8,Zbb]
      ·split
       ·simp[Zba,Zb8,Zbb]
       ·split
        ·simp[Zba,Zb8,Zbb]
        ·simp[Zba,Zb8,Zbb]
   refine Nat.le_trans (this _) ?_
   simp
   omega
  ·cases h
theorem Znw {ts:List Tok} {sz:Nat} (hts:∀ t∈ts,TokOk t):∀ f,Z1v (Zdj ts sz f)
 | 0=>fun i r h=>by cases h
 | f+1=>by
  intro i r h
  have ih:=Znw (sz:=sz) hts f
  unfold Zdj at h
  split at h
  ·obtain⟨p,hp,h⟩:=Zau h
   have:=ih _ _ hp
   cases h
   have h2:=Zxf p.1
   exact⟨by simp;omega,by simp only;omega⟩
  ·split at h
   ·obtain⟨p,hp,h⟩:=Zau h
    have h1:=Znv ih _ _ hp
    obtain⟨j,hj,h⟩:=Zau h
    obtain⟨_,rfl,h2⟩:=Zb2 hj
    cases h
    exact⟨by simp;omega,by simp only;omega⟩
   ·split at h
    ·have:=Zxh ih i _ r h
     omega
    ·obtain⟨a,ha,h⟩:=Zau h
     have h1:=Zjj hts ha
     split at h
     ·have:=Zvk a.1 i _ r h
      omega
     ·have:=Zr4 hts a.1 i _ r h
      omega
end
section
def ltL:List Nat→List Nat→Bool
 | _,[]=>false
 | [],_::_=>true
 | x::xs,y::ys=>decide (x<y)||(x==y&&ltL xs ys)
theorem Za7:∀ a,ltL a a=false
 | []=>rfl
 | x::xs=>by simp[ltL,Za7 xs]
theorem Zd8:∀ a b c,ltL a b=true→ltL b c=true→ltL a c=true
 | [],[],_,h,_=>by simp[ltL] at h
 | [],_::_,[],_,h=>by simp[ltL] at h
 | [],_::_,_::_,_,_=>rfl
 | _::_,[],_,h,_=>by simp[ltL] at h
 | _::_,_::_,[],_,h=>by simp[ltL] at h
 | x::xs,y::ys,z::zs,h1,h2=>by
  simp only[ltL,Bool.or_eq_true,decide_eq_true_eq,Bool.and_eq_true,beq_iff_eq] at *
  rcases h1 with h1 | ⟨rfl,h1⟩
  ·rcases h2 with h2 | ⟨rfl,h2⟩
   ·left;omega
   ·left;exact h1
  ·rcases h2 with h2 | ⟨rfl,h2⟩
   ·left;exact h2
   ·right;exact⟨rfl,Zd8 xs ys zs h1 h2⟩
theorem Ze2:∀ a b,ltL a b=true∨a=b∨ltL b a=true
 | [],[]=>.inr (.inl rfl)
 | [],_::_=>.inl rfl
 | _::_,[]=>.inr (.inr rfl)
 | x::xs,y::ys=>by
  simp only[ltL,Bool.or_eq_true,decide_eq_true_eq,Bool.and_eq_true,beq_iff_eq]
  rcases Nat.lt_trichotomy x y with h | rfl | h
  ·left;left;exact h
  ·rcases Ze2 xs ys with h | rfl | h
   ·left;right;exact⟨rfl,h⟩
   ·right;left;rfl
   ·right;right;right;exact⟨rfl,h⟩
  ·right;right;left;exact h
def Zr5 (a b:List Nat):Int:=if ltL a b=true then -1 else if ltL b a=true then 1 else 0
theorem Zii (a b:List Nat):Zr5 a b=0↔a=b:=by
 unfold Zr5
 rcases Ze2 a b with h | rfl | h
 ·rw[if_pos h]
  constructor
  ·intro h;cases h
  ·rintro rfl;rw[Za7] at h;cases h
 ·rw[Za7];simp
 ·by_cases h2:ltL a b=true
  ·rw[if_pos h2]
   constructor
   ·intro h;cases h
   ·rintro rfl;rw[Za7] at h;cases h
  ·rw[if_neg h2,if_pos h]
   constructor
   ·intro h;cases h
   ·rintro rfl;rw[Za7] at h;cases h
theorem Zxi (a b:List Nat):Zr5 a b<0↔ltL a b=true:=by
 unfold Zr5
 by_cases h:ltL a b=true
 ·rw[if_pos h];exact⟨fun _=>h,fun _=>by decide⟩
 ·rw[if_neg h]
  constructor
  ·intro h2;split at h2<;>exact absurd h2 (by decide)
  ·intro h2;exact absurd h2 h
structure Ky where
 l:List Nat
 r:List Nat
 c:Int
deriving DecidableEq
instance:Inhabited Ky:=⟨⟨[],[],0⟩⟩
def or3 (a b c:Int):Int:=if a≠0 then a else if b≠0 then b else c
def Zmv (a b:Int):Int:=if a<b then -1 else if a=b then 0 else 1
def Z67 (a b:Ky):Int:=or3 (Zr5 a.l b.l) (Zr5 a.r b.r) (Zmv a.c b.c)
def ltK (a b:Ky):Bool:=decide (Z67 a b<0)
theorem Znx (a b:Ky):ltK a b=true↔ltL a.l b.l=true∨(a.l=b.l∧(ltL a.r b.r=true∨(a.r=b.r∧a.c<b.c))):=by
 unfold ltK Z67 or3
 rw[decide_eq_true_eq]
 by_cases h1:a.l=b.l
 ·have z1:=(Zii a.l b.l).2 h1
  rw[if_neg (by simpa using z1)]
  have i1:ltL a.l b.l≠true:=by rw[h1,Za7];simp
  by_cases h2:a.r=b.r
  ·have z2:=(Zii a.r b.r).2 h2
   have i2:ltL a.r b.r≠true:=by rw[h2,Za7];simp
   rw[if_neg (by simpa using z2)]
   unfold Zmv
   constructor
   ·intro h
    right;refine⟨h1,.inr ⟨h2,?_⟩⟩
    by_cases h3:a.c<b.c
    ·exact h3
    ·rw[if_neg h3] at h;split at h<;>exact absurd h (by decide)
   ·rintro (h | ⟨_,h | ⟨_,h⟩⟩)
    ·exact absurd h i1
    ·exact absurd h i2
    ·rw[if_pos h];decide
  ·have z2:Zr5 a.r b.r≠0:=fun h=>h2 ((Zii _ _).1 h)
   rw[if_pos z2,Zxi]
   constructor
   ·intro h;exact .inr ⟨h1,.inl h⟩
   ·rintro (h | ⟨_,h | ⟨h,_⟩⟩)
    ·exact absurd h i1
    ·exact h
    ·exact absurd h h2
 ·have z1:Zr5 a.l b.l≠0:=fun h=>h1 ((Zii _ _).1 h)
  rw[if_pos z1,Zxi]
  constructor
  ·intro h;exact .inl h
  ·rintro (h | ⟨h,_⟩)
   ·exact h
   ·exact absurd h h1
theorem Zeu (a:Ky):ltK a a=false:=by
 rw[Bool.eq_false_iff,Ne,Znx]
 simp[Za7]
theorem Zgz (a b c:Ky) (h1:ltK a b=true) (h2:ltK b c=true):ltK a c=true:=by
 rw[Znx] at *
 rcases h1 with h1 | ⟨e1,h1⟩
 ·rcases h2 with h2 | ⟨e2,h2⟩
  ·exact .inl (Zd8 _ _ _ h1 h2)
  ·rw[← e2];exact .inl h1
 ·rcases h2 with h2 | ⟨e2,h2⟩
  ·rw[e1];exact .inl h2
  ·refine .inr ⟨e1.trans e2,?_⟩
   rcases h1 with h1 | ⟨f1,h1⟩
   ·rcases h2 with h2 | ⟨f2,h2⟩
    ·exact .inl (Zd8 _ _ _ h1 h2)
    ·rw[← f2];exact .inl h1
   ·rcases h2 with h2 | ⟨f2,h2⟩
    ·rw[f1];exact .inl h2
    ·exact .inr ⟨f1.trans f2,by omega⟩
theorem Zk2 (a b:Ky):ltK a b=true∨a=b∨ltK b a=true:=by
 rw[Znx,Znx]
 rcases Ze2 a.l b.l with h | h | h
 ·exact .inl (.inl h)
 ·rcases Ze2 a.r b.r with h2 | h2 | h2
  ·exact .inl (.inr ⟨h,.inl h2⟩)
  ·rcases Int.lt_trichotomy a.c b.c with h3 | h3 | h3
   ·exact .inl (.inr ⟨h,.inr ⟨h2,h3⟩⟩)
   ·right;left;cases a;cases b;simp_all
   ·exact .inr (.inr (.inr ⟨h.symm,.inr ⟨h2.symm,h3⟩⟩))
  ·exact .inr (.inr (.inr ⟨h.symm,.inl h2⟩))
 ·exact .inr (.inr (.inl h))
theorem Zvl (a b c:Ky) (h1:ltK a b=false) (h2:ltK b c=false):ltK a c=false:=by
 rw[Bool.eq_false_iff] at *
 intro h
 rcases Zk2 a b with h3 | rfl | h3
 ·exact h1 h3
 ·exact h2 h
 ·exact h2 (Zgz _ _ _ h3 h)
def Zny:List Ky→Ky→List Ky
 | [],x=>[x]
 | y::ys,x=>if x=y then y::ys else if ltK x y=true then x::y::ys else y::Zny ys x
def Zrt (l:List Ky):Prop:=l.Pairwise (fun a b=>ltK a b=true)
theorem Znz (x z:Ky):∀ l,z∈Zny l x↔z=x∨z∈l
 | []=>by simp[Zny]
 | y::ys=>by
  unfold Zny
  by_cases h:x=y
  ·rw[if_pos h];subst h;simp
  ·rw[if_neg h]
   by_cases h2:ltK x y=true
   ·rw[if_pos h2];simp
   ·rw[if_neg h2,List.mem_cons,Znz x z ys,List.mem_cons]
    constructor
    ·rintro (h | h | h)<;>simp[h]
    ·rintro (h | h | h)<;>simp[h]
theorem Ztv (x:Ky):∀ l,Zrt l→Zrt (Zny l x)
 | [],_=>by simp[Zny,Zrt]
 | y::ys,h=>by
  unfold Zny
  have h0:=List.pairwise_cons.1 h
  by_cases h1:x=y
  ·rw[if_pos h1];exact h
  ·rw[if_neg h1]
   by_cases h2:ltK x y=true
   ·rw[if_pos h2]
    exact List.pairwise_cons.2 ⟨fun z hz=>by
     rcases List.mem_cons.1 hz with rfl | hz
     ·exact h2
     ·exact Zgz _ _ _ h2 (h0.1 z hz),h⟩
   ·rw[if_neg h2]
    refine List.pairwise_cons.2 ⟨fun z hz=>?_,Ztv x ys h0.2⟩
    rcases (Znz x z ys).1 hz with rfl | hz
    ·rcases Zk2 z y with h3 | h3 | h3
     ·exact absurd h3 h2
     ·exact absurd h3 h1
     ·exact h3
    ·exact h0.1 z hz
theorem Z5c {l l':List Ky} (h:Zrt l) (h':Zrt l') (hm:∀ x,x∈l↔x∈l'):l=l':=by
 have nd:∀ {m:List Ky},Zrt m→m.Nodup:=fun hm=>hm.imp (fun {a b} hab e=>by rw[e,Zeu] at hab;cases hab)
 have hp:l.Perm l':=(List.perm_ext_iff_of_nodup (nd h) (nd h')).2 hm
 refine List.Perm.eq_of_pairwise (le:=fun a b=>ltK a b=true) (fun a b _ _ h1 h2=>?_) h h' hp
 have:=Zgz _ _ _ h1 h2
 rw[Zeu] at this
 cases this
def Zj0 (p:Prd):Ky:=⟨p.l,p.r,p.c⟩
mutual
def Zb9:Prd→List Ky
 | .mk k l r c ks=>(if k=0 then [⟨l,r,c⟩] else [])++Zbx ks
def Zbx:List Prd→List Ky
 | []=>[]
 | p::ps=>Zb9 p++Zbx ps
end
theorem Zo1 (a b:List Prd):Zbx (a++b)=Zbx a++Zbx b:=by
 induction a with
 | nil=>rfl
 | cons p ps ih=>simp only[List.cons_append,Zbx,ih,List.append_assoc]
theorem Zk3 (x:Ky):∀ ks,x∈Zbx ks↔∃ q∈ks,x∈Zb9 q
 | []=>by simp[Zbx]
 | p::ps=>by simp[Zbx,Zk3 x ps]
mutual
theorem Zf5:∀ p:Prd,(Zb9 p).length≤Zba p
 | .mk k l r c ks=>by
  unfold Zb9 Zba
  have:=Zk4 ks
  rw[List.length_append]
  split<;>simp<;>omega
theorem Zk4:∀ ks:List Prd,(Zbx ks).length≤Zb8 ks
 | []=>by simp[Zbx,Zb8]
 | p::ps=>by
  have:=Zf5 p
  have:=Zk4 ps
  unfold Zbx Zb8
  rw[List.length_append]
  omega
end
def Zam (p:Prd):List Ky:=(Zb9 p).foldl Zny []
theorem Zg0 (x:Ky):∀ (l acc:List Ky),x∈l.foldl Zny acc↔x∈acc∨x∈l
 | [],acc=>by simp
 | y::ys,acc=>by
  rw[List.foldl_cons,Zg0 x ys,Znz,List.mem_cons]
  constructor
  ·rintro ((h | h) | h)<;>simp[h]
  ·rintro (h | h | h)<;>simp[h]
theorem Zij:∀ (l acc:List Ky),Zrt acc→Zrt (l.foldl Zny acc)
 | [],acc,h=>h
 | y::ys,acc,h=>Zij ys _ (Ztv y acc h)
theorem Zbg (p:Prd) (x:Ky):x∈Zam p↔x∈Zb9 p:=by unfold Zam;rw[Zg0];simp
theorem Zf6 (p:Prd):Zrt (Zam p):=Zij _ _ .nil
end
section
structure Con where
 l:Nat
 r:Nat
 c:Int
deriving DecidableEq
instance:Inhabited Con:=⟨⟨0,0,0⟩⟩
def Zke (u:Nat→Int) (c:Con):Prop:=u c.l-u c.r≤c.c
def gv (v:List Int) (i:Nat):Int:=v.getD i 0
theorem Zgt (v:List Int) (i j:Nat) (x:Int) (h:i<v.length):gv (v.set i x) j=if i=j then x else gv v j:=by
 unfold gv
 rw[List.getD_eq_getElem?_getD,List.getD_eq_getElem?_getD,List.getElem?_set]
 by_cases e:i=j
 ·rw[if_pos e,if_pos e,if_pos h];rfl
 ·rw[if_neg e,if_neg e]
theorem Zg1 (n i:Nat):gv (List.replicate n 0) i=0:=by
 unfold gv
 rw[List.getD_eq_getElem?_getD,List.getElem?_replicate]
 by_cases h:i<n
 ·rw[if_pos h];rfl
 ·rw[if_neg h];rfl
def Zdy:List Con→List Int→Bool→Option (List Int×Bool)
 | [],v,s=>some (v,s)
 | c::cs,v,s=>if gv v c.r<gv v c.l-c.c then (if c.r=0 then none else Zdy cs (v.set c.r (gv v c.l-c.c)) false) else Zdy cs v s
def Zej (cs:List Con):Nat→List Int→Option (List Int)
 | 0,_=>none
 | f+1,v=>match Zdy cs v true with
  | none=>none
  | some (v',s)=>if s=true then some v' else Zej cs f v'
def Zdk (n:Nat) (cs:List Con):Option (List Int):=Zej cs (n+2) (List.replicate (n+1) 0)
def InC (N:Nat) (cs:List Con):Prop:=∀ c∈cs,c.l<N∧c.r<N
theorem InC.cons {N:Nat} {c:Con} {cs:List Con} (h:InC N (c::cs)):(c.l<N∧c.r<N)∧InC N cs:=⟨h c (List.mem_cons_self ..),fun x hx=>h x (List.mem_cons_of_mem _ hx)⟩
theorem Zik:∀ (cs:List Con) (v:List Int) (s:Bool) (v':List Int) (s':Bool),InC v.length cs→Zdy cs v s=some (v',s') →
  v'.length=v.length∧(∀ i,gv v i≤gv v' i)∧gv v' 0=gv v 0∧(s'=true→s=true∧v'=v∧∀ c∈cs,Zke (gv v) c)∧(∀ c∈cs,gv v c.l-c.c≤gv v' c.r)∧(s=true→s'=false→∃ i,i<v.length∧gv v i<gv v' i)
 | [],v,s,v',s',_,h=>by
  unfold Zdy at h
  cases h
  refine⟨rfl,fun i=>Int.le_refl _,rfl,fun h=>⟨h,rfl,fun c hc=>(by cases hc)⟩,fun c hc=>(by cases hc),fun h1 h2=>?_⟩
  rw[h1] at h2;cases h2
 | c::cs,v,s,v',s',hI,h=>by
  unfold Zdy at h
  obtain⟨⟨hl,hr⟩,hI'⟩:=hI.cons
  by_cases hlt:gv v c.r<gv v c.l-c.c
  ·rw[if_pos hlt] at h
   by_cases h0:c.r=0
   ·rw[if_pos h0] at h;cases h
   ·rw[if_neg h0] at h
    have hlen:(v.set c.r (gv v c.l-c.c)).length=v.length:=List.length_set
    obtain⟨a1,a2,a3,a4,a5,a6⟩:=Zik cs _ false v' s' (by rw[hlen];exact hI') h
    have hup:∀ i,gv v i≤gv (v.set c.r (gv v c.l-c.c)) i:=fun i=>by
     rw[Zgt _ _ _ _ hr]
     by_cases e:c.r=i
     ·rw[if_pos e,← e];omega
     ·rw[if_neg e];exact Int.le_refl _
    have hnew:gv v c.l-c.c≤gv v' c.r:=by
     have:=a2 c.r
     rw[Zgt _ _ _ _ hr,if_pos rfl] at this
     exact this
    refine⟨a1.trans hlen,fun i=>Int.le_trans (hup i) (a2 i),?_,fun hs=>absurd (a4 hs).1 (by simp),fun x hx=>?_,fun _ _=>⟨c.r,hr,by omega⟩⟩
    ·rw[a3,Zgt _ _ _ _ hr,if_neg h0]
    ·rcases List.mem_cons.1 hx with rfl | hx
     ·exact hnew
     ·have h1:=a5 x hx
      have h2:=hup x.l
      omega
  ·rw[if_neg hlt] at h
   obtain⟨a1,a2,a3,a4,a5,a6⟩:=Zik cs v s v' s' hI' h
   refine⟨a1,a2,a3,fun hs=>?_,fun x hx=>?_,a6⟩
   ·obtain⟨b1,b2,b3⟩:=a4 hs
    refine⟨b1,b2,fun x hx=>?_⟩
    rcases List.mem_cons.1 hx with rfl | hx
    ·unfold Zke;omega
    ·exact b3 x hx
   ·rcases List.mem_cons.1 hx with rfl | hx
    ·have:=a2 x.r;omega
    ·exact a5 x hx
theorem Zn0 (u:Nat→Int):∀ (cs:List Con) (v:List Int) (s:Bool),InC v.length cs→(∀ c∈cs,Zke u c)→(∀ i,i<v.length→gv v i≤u i)→gv v 0=u 0 →
  ∃ v' s',Zdy cs v s=some (v',s')∧(∀ i,i<v.length→gv v' i≤u i)
 | [],v,s,_,_,hv,_=>⟨v,s,rfl,hv⟩
 | c::cs,v,s,hI,hu,hv,h0=>by
  obtain⟨⟨hl,hr⟩,hI'⟩:=hI.cons
  have hc:=hu c (List.mem_cons_self ..)
  unfold Zke at hc
  unfold Zdy
  by_cases hlt:gv v c.r<gv v c.l-c.c
  ·rw[if_pos hlt]
   by_cases hz:c.r=0
   ·have h1:=hv c.l hl
    rw[hz] at hlt hc
    omega
   ·rw[if_neg hz]
    have hlen:(v.set c.r (gv v c.l-c.c)).length=v.length:=List.length_set
    obtain⟨v',s',h1,h2⟩:=Zn0 u cs (v.set c.r (gv v c.l-c.c)) false (by rw[hlen];exact hI') (fun x hx=>hu x (List.mem_cons_of_mem _ hx)) (fun i hi=>by
     rw[hlen] at hi
     rw[Zgt _ _ _ _ hr]
     by_cases e:c.r=i
     ·rw[if_pos e,← e]
      have h1:=hv c.l hl
      omega
     ·rw[if_neg e];exact hv i hi) (by rw[Zgt _ _ _ _ hr,if_neg hz];exact h0)
    exact⟨v',s',h1,by rw[hlen] at h2;exact h2⟩
  ·rw[if_neg hlt]
   exact Zn0 u cs v s hI' (fun x hx=>hu x (List.mem_cons_of_mem _ hx)) hv h0
def Zvm (p:Nat→Bool):Nat→Nat
 | 0=>0
 | n+1=>Zvm p n+(if p n=true then 1 else 0)
theorem Zxj (p:Nat→Bool):∀ n,Zvm p n≤n
 | 0=>Nat.le_refl _
 | n+1=>by unfold Zvm;have:=Zxj p n;split<;>omega
theorem Zo2 (p q:Nat→Bool):∀ n,(∀ i,i<n→p i=true→q i=true)→Zvm p n≤Zvm q n
 | 0,_=>Nat.le_refl _
 | n+1,h=>by
  unfold Zvm
  have:=Zo2 p q n (fun i hi=>h i (by omega))
  have h2:=h n (by omega)
  by_cases hp:p n=true
  ·rw[if_pos hp,if_pos (h2 hp)];omega
  ·rw[if_neg hp];split<;>omega
theorem Zr6 (p q:Nat→Bool):∀ n,(∀ i,i<n→p i=true→q i=true)→(∃ i,i<n∧p i=false∧q i=true)→Zvm p n<Zvm q n
 | 0,_,h=>by obtain⟨i,hi,_⟩:=h;omega
 | n+1,h,⟨i,hi,h1,h2⟩=>by
  unfold Zvm
  rcases Nat.lt_or_ge i n with hin | hin
  ·have:=Zr6 p q n (fun i hi=>h i (by omega)) ⟨i,hin,h1,h2⟩
   have h2:=h n (by omega)
   by_cases hp:p n=true
   ·rw[if_pos hp,if_pos (h2 hp)];omega
   ·rw[if_neg hp];split<;>omega
  ·obtain rfl:i=n:=by omega
   have:=Zo2 p q i (fun i hi=>h i (by omega))
   rw[if_neg (by rw[h1];simp),if_pos h2];omega
def Ztw (u:Nat→Int):Nat→Nat
 | 0=>0
 | n+1=>Ztw u n+(u n).toNat
theorem Zo3 (u v:Nat→Int):∀ n,(∀ i,i<n→u i≤v i)→Ztw u n≤Ztw v n
 | 0,_=>Nat.le_refl _
 | n+1,h=>by
  unfold Ztw
  have:=Zo3 u v n (fun i hi=>h i (by omega))
  have:=h n (by omega)
  omega
theorem Zxk (u v:Nat→Int):∀ n,(∀ i,i<n→0≤u i∧u i≤v i)→(∃ i,i<n∧u i<v i)→Ztw u n<Ztw v n
 | 0,_,h=>by obtain⟨i,hi,_⟩:=h;omega
 | n+1,h,⟨i,hi,h1⟩=>by
  unfold Ztw
  have h2:=h n (by omega)
  rcases Nat.lt_or_ge i n with hin | hin
  ·have:=Zxk u v n (fun i hi=>h i (by omega)) ⟨i,hin,h1⟩
   omega
  ·obtain rfl:i=n:=by omega
   have:=Zo3 u v i (fun i hi=>(h i (by omega)).2)
   omega
theorem Zo4 (P:Nat→Prop):(k:Nat)→P k→∃ m,P m∧∀ j,j<m→¬ P j:=by
 intro k
 induction k using Nat.strongRecOn with
 | _ k ih =>
  intro hk
  by_cases h:∃ j,j<k∧P j
  ·obtain⟨j,hj,hp⟩:=h
   exact ih j hj hp
  ·exact⟨k,hk,fun j hj hp=>h ⟨j,hj,hp⟩⟩
structure SolC (N:Nat) (cs:List Con) (u:Nat→Int):Prop where
 zero:u 0=0
 pos:∀ i,i<N→0≤u i
 meet:∀ c∈cs,Zke u c
theorem Z5s (N:Nat) (cs:List Con) (u:Nat→Int) (h:SolC N cs u):∃ m,SolC N cs m∧∀ u',SolC N cs u'→Ztw m N≤Ztw u' N:=by
 obtain⟨t,⟨m,hm,rfl⟩,hmin⟩:=Zo4 (fun t=>∃ m,SolC N cs m∧Ztw m N=t) _ ⟨u,h,rfl⟩
 exact⟨m,hm,fun u' hu'=>Nat.le_of_not_lt (fun hlt=>hmin _ hlt ⟨u',hu',rfl⟩)⟩
theorem Zxl (N:Nat) (cs:List Con) (m:Nat→Int) (hI:InC N cs) (h:SolC N cs m) (hmin:∀ u',SolC N cs u'→Ztw m N≤Ztw u' N) (S:Nat→Bool) (h0:S 0=true) (hpos:∀ i,i<N→S i=false→1≤m i) (hT:∃ i,i<N∧S i=false) :
  ∃ c∈cs,S c.l=true∧S c.r=false∧m c.r=m c.l-c.c:=by
 apply Classical.byContradiction
 intro hno
 have hno':∀ c∈cs,S c.l=true→S c.r=false→m c.r≠m c.l-c.c:=fun c hc h1 h2 h3=>hno ⟨c,hc,h1,h2,h3⟩
 have hs:SolC N cs (fun i=>if S i=true then m i else m i-1):=by
  refine⟨by rw[if_pos h0];exact h.zero,fun i hi=>?_,fun c hc=>?_⟩
  ·by_cases hS:S i=true
   ·rw[if_pos hS];exact h.pos i hi
   ·rw[if_neg hS];have:=hpos i hi (by simpa using hS);omega
  ·have hm:=h.meet c hc
   have hn:=hno' c hc
   unfold Zke at hm ⊢
   simp only
   by_cases h1:S c.l=true
   ·rw[if_pos h1]
    by_cases h2:S c.r=true
    ·rw[if_pos h2];exact hm
    ·rw[if_neg h2];have:=hn h1 (by simpa using h2);omega
   ·rw[if_neg h1]
    by_cases h2:S c.r=true
    ·rw[if_pos h2];omega
    ·rw[if_neg h2];omega
 have h1:=hmin _ hs
 obtain⟨i,hi,hiS⟩:=hT
 have h2:=Zxk (fun i=>if S i=true then m i else m i-1) m N (fun j hj=>by
  refine⟨hs.pos j hj,?_⟩
  split<;>omega) ⟨i,hi,by rw[if_neg (by rw[hiS];simp)];omega⟩
 omega
theorem Zo5 (N:Nat) (cs:List Con) (m:Nat→Int) (hI:InC N cs) (h:SolC N cs m) (hmin:∀ u',SolC N cs u'→Ztw m N≤Ztw u' N) :
  ∀ (f:Nat) (v:List Int),v.length=N→0<N→gv v 0=0→(∀ i,i<N→0≤gv v i∧gv v i≤m i)→N+1≤Zvm (fun i=>gv v i==m i) N+f→∃ v',Zej cs f v=some v'
 | 0,v,_,_,_,_,hf=>by have:=Zxj (fun i=>gv v i==m i) N;omega
 | f+1,v,hv,hN,h0,hle,hf=>by
  obtain⟨v',s',h1,h2⟩:=Zn0 m cs v true (by rw[hv];exact hI) h.meet (fun i hi=>(hle i (by omega)).2) (by rw[h0,h.zero])
  obtain⟨a1,a2,a3,a4,a5,a6⟩:=Zik cs v true v' s' (by rw[hv];exact hI) h1
  unfold Zej
  rw[h1]
  simp only
  cases s' with
  | true=>exact⟨v',by rw[if_pos rfl]⟩
  | false =>
   rw[if_neg (by simp)]
   obtain⟨i,hi,hlt⟩:=a6 rfl rfl
   refine Zo5 N cs m hI h hmin f v' (a1.trans hv) hN (a3.trans h0) (fun i hi=>⟨Int.le_trans (hle i hi).1 (a2 i),h2 i (by omega)⟩) ?_
   have hS:Zvm (fun i=>gv v i==m i) N<Zvm (fun i=>gv v' i==m i) N:=by
    refine Zr6 _ _ N (fun j hj hp=>?_) ?_
    ·have e:gv v j=m j:=by simpa using hp
     have e1:=a2 j
     have e2:=h2 j (by omega)
     simp only[beq_iff_eq];omega
    ·obtain⟨c,hc,c1,c2,c3⟩:=Zxl N cs m hI h hmin (fun i=>gv v i==m i) (by simp only[beq_iff_eq];rw[h0,h.zero]) (fun j hj hp=>by
      have:=hle j hj
      have:gv v j≠m j:=by simpa using hp
      omega) ⟨i,by omega,by
       have:=h2 i (by omega)
       simp only[beq_eq_false_iff_ne];omega⟩
     refine⟨c.r,(hI c hc).2,c2,?_⟩
     have e1:=a5 c hc
     have e2:=h2 c.r (by rw[hv];exact (hI c hc).2)
     have e3:gv v c.l=m c.l:=by simpa using c1
     simp only[beq_iff_eq];omega
   omega
theorem Zk5 (cs:List Con):∀ (f:Nat) (v v':List Int),InC v.length cs→0<v.length→Zej cs f v=some v'→v'.length=v.length∧gv v' 0=gv v 0∧(∀ i,gv v i≤gv v' i)∧(∀ c∈cs,Zke (gv v') c)∧∀ u,(∀ c∈cs,Zke u c)→u 0=gv v 0→(∀ i,i<v.length→gv v i≤u i)→∀ i,i<v.length→gv v' i≤u i
 | 0,v,v',_,_,h=>by cases h
 | f+1,v,v',hI,hN,h=>by
  unfold Zej at h
  cases hp:Zdy cs v true with
  | none=>rw[hp] at h;cases h
  | some q =>
   obtain⟨v1,s1⟩:=q
   rw[hp] at h
   simp only at h
   obtain⟨a1,a2,a3,a4,a5,a6⟩:=Zik cs v true v1 s1 hI hp
   have hpl:∀ u,(∀ c∈cs,Zke u c)→u 0=gv v 0→(∀ i,i<v.length→gv v i≤u i)→∀ i,i<v.length→gv v1 i≤u i:=fun u h1 h2 h3=>by
    obtain⟨v2,s2,e1,e2⟩:=Zn0 u cs v true hI h1 h3 h2.symm
    rw[hp] at e1
    cases e1
    exact e2
   cases s1 with
   | true =>
    rw[if_pos rfl] at h
    cases h
    obtain⟨-,b2,b3⟩:=a4 rfl
    exact⟨a1,a3,a2,by rw[b2];exact b3,hpl⟩
   | false =>
    rw[if_neg (by simp)] at h
    obtain⟨c1,c2,c3,c4,c5⟩:=Zk5 cs f v1 v' (by rw[a1];exact hI) (by omega) h
    refine⟨c1.trans a1,c2.trans a3,fun i=>Int.le_trans (a2 i) (c3 i),c4,fun u h1 h2 h3 i hi=>?_⟩
    exact c5 u h1 (h2.trans a3.symm) (fun j hj=>hpl u h1 h2 h3 j (by omega)) i (by omega)
theorem Zcn {n:Nat} {cs:List Con} {v:List Int} (hI:InC (n+1) cs) (h:Zdk n cs=some v):v.length=n+1∧SolC (n+1) cs (gv v)∧∀ u,SolC (n+1) cs u→∀ i,i<n+1→gv v i≤u i:=by
 unfold Zdk at h
 have hl:(List.replicate (n+1) (0:Int)).length=n+1:=List.length_replicate
 obtain⟨a1,a2,a3,a4,a5⟩:=Zk5 cs _ _ _ (by rw[hl];exact hI) (by rw[hl];omega) h
 rw[hl] at a1 a5
 rw[Zg1] at a2 a5
 refine⟨a1,⟨a2,fun i hi=>by have:=a3 i;rw[Zg1] at this;exact this,a4⟩,fun u hu=>a5 u hu.meet hu.zero (fun i hi=>by rw[Zg1];exact hu.pos i hi)⟩
theorem Zk6 {n:Nat} {cs:List Con} (hI:InC (n+1) cs) (h:Zdk n cs=none) (u:Nat→Int):¬ SolC (n+1) cs u:=by
 intro hu
 obtain⟨m,hm,hmin⟩:=Z5s _ _ u hu
 have h0:1≤Zvm (fun i=>gv (List.replicate (n+1) 0) i==m i) (n+1):=by
  have:=Zr6 (fun _=>false) (fun i=>gv (List.replicate (n+1) 0) i==m i) (n+1) (fun i _ h=>by cases h) ⟨0,by omega,rfl,by simp only[beq_iff_eq];rw[Zg1,hm.zero]⟩
  omega
 obtain⟨v',hv⟩:=Zo5 (n+1) cs m hI hm hmin (n+2) (List.replicate (n+1) 0) List.length_replicate (by omega) (Zg1 _ _) (fun i hi=>by rw[Zg1];exact⟨Int.le_refl _,hm.pos i hi⟩) (by omega)
 unfold Zdk at h
 rw[h] at hv
 cases hv
end
section
def Zc3:List Con→Nat→List Int→List Int→Int→List Int×List Int×Int
 | [],_,d,l,a=>(d,l,a)
 | c::cs,i,d,l,a=>if gv d c.r+c.c<gv d c.l then Zc3 cs (i+1) (d.set c.l (gv d c.r+c.c)) (l.set c.l (i:Int)) (c.l:Int) else Zc3 cs (i+1) d l a
def Zco (cs:List Con):Nat→List Int→List Int→Int→Option (List Int×List Int×Int)
 | 0,d,l,a=>some (d,l,a)
 | f+1,d,l,_=>if (Zc3 cs 0 d l (-1)).2.2<0 then none else Zco cs f (Zc3 cs 0 d l (-1)).1 (Zc3 cs 0 d l (-1)).2.1 (Zc3 cs 0 d l (-1)).2.2
def Z13 (cs:List Con) (i:Int):Nat:=(cs.getD i.toNat default).r
def nxC (cs:List Con) (l:List Int) (x:Nat):Nat:=Z13 cs (gv l x)
def itC (cs:List Con) (l:List Int) (a:Nat):Nat→Nat
 | 0=>a
 | k+1=>nxC cs l (itC cs l a k)
structure InvC (CS:List Con) (N:Nat) (d l:List Int) (T:Nat→Nat) (t:Nat):Prop where
 ld:d.length=N
 ll:l.length=N
 clock:∀ x,T x≤t
 at':∀ x,x<N→(gv l x = -1∧gv d x=0)∨(∃ (i:Nat) (c:Con),CS[i]?=some c∧gv l x=(i:Int)∧c.l=x∧(gv d c.r+c.c<gv d x∨(gv d c.r+c.c=gv d x∧T c.r<T x)))
theorem InvC.relax {CS:List Con} {N:Nat} {d l:List Int} {T:Nat→Nat} {t i:Nat} {c:Con} (h:InvC CS N d l T t) (hI:InC N CS) (hc:CS[i]?=some c) (hlt:gv d c.r+c.c<gv d c.l) :
  InvC CS N (d.set c.l (gv d c.r+c.c)) (l.set c.l (i:Int)) (fun y=>if y=c.l then t+1 else T y) (t+1):=by
 obtain⟨hl,hr⟩:=hI c (List.mem_of_getElem? hc)
 refine⟨by rw[List.length_set];exact h.ld,by rw[List.length_set];exact h.ll,fun x=>?_,fun x hx=>?_⟩
 ·by_cases e:x=c.l
  ·rw[if_pos e];exact Nat.le_refl _
  ·rw[if_neg e];have:=h.clock x;omega
 ·have g1:∀ j,gv (d.set c.l (gv d c.r+c.c)) j=if c.l=j then gv d c.r+c.c else gv d j:=fun j=>Zgt _ _ _ _ (by rw[h.ld];exact hl)
  have g2:∀ j,gv (l.set c.l (i:Int)) j=if c.l=j then (i:Int) else gv l j:=fun j=>Zgt _ _ _ _ (by rw[h.ll];exact hl)
  rw[g1,g2]
  by_cases e:c.l=x
  ·rw[if_pos e,if_pos e]
   refine .inr ⟨i,c,hc,rfl,e,?_⟩
   rw[g1]
   by_cases e2:c.l=c.r
   ·rw[if_pos e2,← e2]
    left
    rw[← e2] at hlt
    omega
   ·rw[if_neg e2]
    right
    refine⟨rfl,?_⟩
    rw[if_neg (fun e3=>e2 e3.symm),if_pos e.symm]
    have:=h.clock c.r
    omega
  ·rw[if_neg e,if_neg e]
   rcases h.at' x hx with h1 | ⟨j,c',h1,h2,h3,h4⟩
   ·exact .inl h1
   ·refine .inr ⟨j,c',h1,h2,h3,?_⟩
    rw[g1]
    by_cases e2:c.l=c'.r
    ·rw[if_pos e2]
     left
     rcases h4 with h4 | ⟨h4,-⟩
     ·rw[← e2] at h4;omega
     ·rw[← e2] at h4;omega
    ·rw[if_neg e2,if_neg (fun e3=>e2 e3.symm),if_neg (fun e3=>e e3.symm)]
     exact h4
theorem Zk7 (CS:List Con) (N:Nat) (hI:InC N CS):∀ (cs:List Con) (i:Nat) (d l:List Int) (a:Int) (T:Nat→Nat) (t:Nat),CS.drop i=cs→InvC CS N d l T t →
  (∃ T' t',InvC CS N (Zc3 cs i d l a).1 (Zc3 cs i d l a).2.1 T' t')∧(∀ j,gv (Zc3 cs i d l a).1 j≤gv d j)∧(∀ c∈cs,gv (Zc3 cs i d l a).1 c.l≤gv d c.r+c.c) ∧
  (((Zc3 cs i d l a).2.2=a∧(Zc3 cs i d l a).1=d)∨∃ x:Nat,x<N∧(Zc3 cs i d l a).2.2=(x:Int)∧gv (Zc3 cs i d l a).1 x<gv d x)
 | [],i,d,l,a,T,t,_,h=>⟨⟨T,t,h⟩,fun j=>Int.le_refl _,fun c hc=>(by cases hc),.inl ⟨rfl,rfl⟩⟩
 | c::cs,i,d,l,a,T,t,hd,h=>by
  have hc:CS[i]?=some c:=by
   have:=congrArg (fun x=>x[0]?) hd
   simpa using this
  have hd':CS.drop (i+1)=cs:=by
   have:=congrArg List.tail hd
   simpa using this
  unfold Zc3
  obtain⟨hl,hr⟩:=hI c (List.mem_of_getElem? hc)
  by_cases hlt:gv d c.r+c.c<gv d c.l
  ·rw[if_pos hlt]
   have g1:∀ j,gv (d.set c.l (gv d c.r+c.c)) j=if c.l=j then gv d c.r+c.c else gv d j:=fun j=>Zgt _ _ _ _ (by rw[h.ld];exact hl)
   have hdn:∀ j,gv (d.set c.l (gv d c.r+c.c)) j≤gv d j:=fun j=>by
    rw[g1]
    by_cases e:c.l=j
    ·rw[if_pos e,← e];omega
    ·rw[if_neg e];exact Int.le_refl _
   obtain⟨b1,b2,b3,b4⟩:=Zk7 CS N hI cs (i+1) _ _ (c.l:Int) _ _ hd' (h.relax hI hc hlt)
   refine⟨b1,fun j=>Int.le_trans (b2 j) (hdn j),fun x hx=>?_,.inr ?_⟩
   ·rcases List.mem_cons.1 hx with rfl | hx
    ·have:=b2 x.l
     rw[g1,if_pos rfl] at this
     exact this
    ·have h1:=b3 x hx
     have h2:=hdn x.r
     omega
   ·rcases b4 with ⟨e1,e2⟩ | ⟨x,h1,h2,h3⟩
    ·refine⟨c.l,hl,e1,?_⟩
     rw[e2,g1,if_pos rfl]
     exact hlt
    ·exact⟨x,h1,h2,by have:=hdn x;omega⟩
  ·rw[if_neg hlt]
   obtain⟨b1,b2,b3,b4⟩:=Zk7 CS N hI cs (i+1) d l a T t hd' h
   refine⟨b1,b2,fun x hx=>?_,b4⟩
   rcases List.mem_cons.1 hx with rfl | hx
   ·have:=b2 x.l;omega
   ·exact b3 x hx
inductive Wk (CS:List Con):Nat→Nat→Int→Prop
 | start (k x:Nat):Wk CS k x 0
 | step (k:Nat) (w:Int) (c:Con):c∈CS→Wk CS k c.r w→Wk CS (k+1) c.l (w+c.c)
theorem Wk.more {CS:List Con} {k x:Nat} {w:Int} (h:Wk CS k x w):Wk CS (k+1) x w:=by
 induction h with
 | start k x=>exact .start _ _
 | step k w c hc _ ih=>exact .step _ _ c hc ih
theorem Wk.mono {CS:List Con} {k m x:Nat} {w:Int} (h:Wk CS k x w) (hm:k≤m):Wk CS m x w:=by
 obtain⟨e,rfl⟩:=Nat.le.dest hm
 clear hm
 induction e with
 | zero=>exact h
 | succ e ih=>exact ih.more
def Zo6 (CS:List Con) (k:Nat) (d:List Int):Prop:=∀ x w,Wk CS k x w→gv d x≤w
theorem Zvn {CS:List Con} {k:Nat} {d d':List Int} (h:Zo6 CS k d) (h1:∀ j,gv d' j≤gv d j) (h2:∀ c∈CS,gv d' c.l≤gv d c.r+c.c):Zo6 CS (k+1) d':=by
 intro x w hw
 cases hw with
 | start k x=>exact Int.le_trans (h1 x) (h x 0 (.start _ _))
 | step k w c hc hk =>
  have:=h2 c hc
  have:=h c.r w hk
  omega
theorem Zo7 {CS:List Con} {N:Nat} {d l:List Int} {T:Nat→Nat} {t:Nat} (hI:InC N CS) (h:InvC CS N d l T t):∀ (m x:Nat),x<N→gv l (itC CS l x m) = -1→(∀ j,j<m→gv l (itC CS l x j) ≠ -1)→∃ w,Wk CS m x w∧w≤gv d x
 | 0,x,hx,hr,_=>⟨0,.start _ _,by
  rcases h.at' x hx with ⟨-,h2⟩ | ⟨i,c,-,h2,-,-⟩
  ·omega
  ·have h3:gv l x = -1:=hr
   omega⟩
 | m+1,x,hx,hr,hno=>by
  have hx0:gv l x ≠ -1:=hno 0 (by omega)
  rcases h.at' x hx with ⟨h1,-⟩ | ⟨i,c,h1,h2,h3,h4⟩
  ·exact absurd h1 hx0
  ·have hn:nxC CS l x=c.r:=by
    unfold nxC Z13
    rw[h2,Int.toNat_natCast,List.getD_eq_getElem?_getD,h1];rfl
   have hit:∀ j,itC CS l x (j+1)=itC CS l c.r j:=fun j=>by
    induction j with
    | zero=>exact hn
    | succ j ih=>show nxC CS l (itC CS l x (j+1))=nxC CS l (itC CS l c.r j);rw[ih]
   have hcm:=List.mem_of_getElem? h1
   obtain⟨w,hw,hwd⟩:=Zo7 hI h m c.r (hI c hcm).2 (by rw[← hit];exact hr) (fun j hj=>by rw[← hit];exact hno (j+1) (by omega))
   refine⟨w+c.c,?_,?_⟩
   ·have:=Wk.step m w c hcm hw
    rw[h3] at this
    exact this
   ·rcases h4 with h4 | ⟨h4,-⟩<;>omega
theorem Zhl {α:Type} [DecidableEq α]:∀ (l m:List α),l.Nodup→(∀ x∈l,x∈m)→l.length≤m.length
 | [],m,_,_=>Nat.zero_le _
 | x::xs,m,hn,h=>by
  have h0:=List.nodup_cons.1 hn
  have hx:=h x (List.mem_cons_self ..)
  have:=Zhl xs (m.erase x) h0.2 (fun y hy=>(List.mem_erase_of_ne (fun e=>by subst e;exact h0.1 hy)).2 (h y (List.mem_cons_of_mem _ hy)))
  rw[List.length_erase_of_mem hx] at this
  have hp:=List.length_pos_of_mem hx
  simp only[List.length_cons]
  omega
theorem Z7c (N:Nat) (f:Nat→Nat) (h:∀ k,k≤N→f k<N):∃ i j,i<j∧j≤N∧f i=f j:=by
 apply Classical.byContradiction
 intro hno
 have hnd:((List.range (N+1)).map f).Nodup:=by
  rw[List.nodup_iff_pairwise_ne,List.pairwise_map]
  refine List.pairwise_iff_getElem.2 (fun i j hi hj hij e=>hno ⟨i,j,hij,?_,?_⟩)
  ·simp at hj;omega
  ·simpa using e
 have:=Zhl _ (List.range N) hnd (fun x hx=>by
  obtain⟨k,hk,rfl⟩:=List.mem_map.1 hx
  have:=List.mem_range.1 hk
  exact List.mem_range.2 (h k (by omega)))
 simp at this
 omega
theorem Zg2 (cs:List Con) (l:List Int) (a i:Nat):∀ j,itC cs l a (i+j)=itC cs l (itC cs l a i) j
 | 0=>rfl
 | j+1=>by show nxC cs l (itC cs l a (i+j))=nxC cs l _;rw[Zg2 cs l a i j]
def wtC (cs:List Con) (l:List Int) (a:Nat):Nat→Int
 | 0=>0
 | k+1=>wtC cs l a k+(cs.getD (gv l (itC cs l a k)).toNat default).c
def Ztx (CS:List Con) (l:List Int) (x:Nat):Prop:=∃ (i:Nat) (c:Con),CS[i]?=some c∧gv l x=(i:Int)∧c.l=x
theorem Zil {CS:List Con} {N:Nat} {d l:List Int} {T:Nat→Nat} {t:Nat} (hI:InC N CS) (h:InvC CS N d l T t) (a:Nat) (ha:a<N):∀ k,(∀ j,j<k→gv l (itC CS l a j) ≠ -1)→itC CS l a k<N ∧
  ((gv d (itC CS l a k)+wtC CS l a k<gv d a)∨(gv d (itC CS l a k)+wtC CS l a k=gv d a∧(k=0∨T (itC CS l a k)<T a)))
 | 0,_=>⟨ha,.inr ⟨by show gv d a+0=_;omega,.inl rfl⟩⟩
 | k+1,hno=>by
  obtain⟨h1,h2⟩:=Zil hI h a ha k (fun j hj=>hno j (by omega))
  have hk:=hno k (by omega)
  rcases h.at' _ h1 with ⟨e,-⟩ | ⟨i,c,e1,e2,e3,e4⟩
  ·exact absurd e hk
  ·have hn:itC CS l a (k+1)=c.r:=by
    show nxC CS l _=_
    unfold nxC Z13
    rw[e2,Int.toNat_natCast,List.getD_eq_getElem?_getD,e1];rfl
   have hs:wtC CS l a (k+1)=wtC CS l a k+c.c:=by
    show _+_=_
    rw[e2,Int.toNat_natCast,List.getD_eq_getElem?_getD,e1];rfl
   rw[hn,hs]
   refine⟨(hI c (List.mem_of_getElem? e1)).2,?_⟩
   rcases e4 with e4 | ⟨e4,e5⟩
   ·left
    rcases h2 with h2 | ⟨h2,-⟩<;>omega
   ·rcases h2 with h2 | ⟨h2,h3⟩
    ·left;omega
    ·right
     refine⟨by omega,.inr ?_⟩
     rcases h3 with rfl | h3
     ·exact e5
     ·omega
theorem Zmw (CS:List Con) (N:Nat) (hI:InC N CS):∀ (f:Nat) (d l:List Int) (a:Int) (T:Nat→Nat) (t k:Nat),InvC CS N d l T t→Zo6 CS k d →
  match Zco CS (f+1) d l a with
  | none=>∃ d':List Int,d'.length=N∧∀ c∈CS,gv d' c.l≤gv d' c.r+c.c
  | some (d',l',a')=>∃ (T':Nat→Nat) (t':Nat) (x:Nat) (d0:List Int),InvC CS N d' l' T' t'∧x<N∧a'=(x:Int)∧Zo6 CS (k+f) d0∧gv d' x<gv d0 x
 | f,d,l,a,T,t,k,h,hs=>by
  unfold Zco
  obtain⟨⟨T',t',b1⟩,b2,b3,b4⟩:=Zk7 CS N hI CS 0 d l (-1) T t rfl h
  by_cases hn:(Zc3 CS 0 d l (-1)).2.2<0
  ·rw[if_pos hn]
   rcases b4 with ⟨e1,e2⟩ | ⟨x,-,e2,-⟩
   ·refine⟨d,h.ld,fun c hc=>?_⟩
    have:=b3 c hc
    rw[e2] at this
    exact this
   ·rw[e2] at hn;omega
  ·rw[if_neg hn]
   have hs':=Zvn hs b2 b3
   cases f with
   | zero =>
    rcases b4 with ⟨e1,e2⟩ | ⟨x,e1,e2,e3⟩
    ·rw[e1] at hn;exact absurd (by decide) hn
    ·exact⟨T',t',x,d,b1,e1,e2,hs,e3⟩
   | succ f =>
    have:=Zmw CS N hI f _ _ (Zc3 CS 0 d l (-1)).2.2 T' t' (k+1) b1 hs'
    rw[show k+1+f=k+(f+1) by omega] at this
    exact this
theorem Zxm (n:Nat) (CS:List Con) (hI:InC (n+1) CS) :
  match Zco CS (n+2) (List.replicate (n+1) 0) (List.replicate (n+1) (-1)) (-1) with
  | none=>∃ d':List Int,d'.length=n+1∧∀ c∈CS,gv d' c.l≤gv d' c.r+c.c
  | some (d',l',a')=>∃ x p:Nat,a'=(x:Int)∧x<n+1∧l'.length=n+1∧1≤p∧p≤n+1∧(∀ j,itC CS l' x j<n+1∧Ztx CS l' (itC CS l' x j))∧itC CS l' x (n+1+p)=itC CS l' x (n+1) ∧
    (∀ j,0<j→j<p→itC CS l' x (n+1+j)≠itC CS l' x (n+1))∧wtC CS l' (itC CS l' x (n+1)) p<0:=by
 have h0:InvC CS (n+1) (List.replicate (n+1) 0) (List.replicate (n+1) (-1)) (fun _=>0) 0:=by
  refine⟨List.length_replicate,List.length_replicate,fun _=>Nat.le_refl _,fun x hx=>.inl ⟨?_,Zg1 _ _⟩⟩
  unfold gv
  rw[List.getD_eq_getElem?_getD,List.getElem?_replicate,if_pos hx];rfl
 have hs:Zo6 CS 0 (List.replicate (n+1) 0):=fun x w hw=>by
  cases hw with
  | start _ _=>rw[Zg1];exact Int.le_refl _
 have hr:=Zmw CS (n+1) hI (n+1) _ _ (-1) _ _ 0 h0 hs
 rw[show 0+(n+1)=n+1 by omega] at hr
 rw[show n+1+1=n+2 by omega] at hr
 cases hc:Zco CS (n+2) (List.replicate (n+1) 0) (List.replicate (n+1) (-1)) (-1) with
 | none=>rw[hc] at hr;exact hr
 | some q =>
  obtain⟨d',l',a'⟩:=q
  rw[hc] at hr
  obtain⟨T',t',x,d0,h1,h2,h3,h4,h5⟩:=hr
  have hno:∀ m,m≤n+1→gv l' (itC CS l' x m) ≠ -1:=by
   intro m
   induction m using Nat.strongRecOn with
   | _ m ih =>
    intro hm e
    obtain⟨w,hw,hwd⟩:=Zo7 hI h1 m x h2 e (fun j hj=>ih j hj (by omega))
    have:=h4 x w (hw.mono hm)
    omega
  have hlt:∀ m,m≤n+1→itC CS l' x m<n+1:=fun m hm=>(Zil hI h1 x h2 m (fun j hj=>hno j (by omega))).1
  obtain⟨i,j,hij,hj,e⟩:=Z7c (n+1) (itC CS l' x) hlt
  have hper:∀ m,i≤m→itC CS l' x (m+(j-i))=itC CS l' x m:=fun m hm=>by
   obtain⟨e1,rfl⟩:=Nat.le.dest hm
   rw[show i+e1+(j-i)=j+e1 by omega,Zg2 CS l' x j,Zg2 CS l' x i,e]
  have hall:∀ m,gv l' (itC CS l' x m) ≠ -1:=by
   intro m
   induction m using Nat.strongRecOn with
   | _ m ih =>
    by_cases hm:m≤n+1
    ·exact hno m hm
    ·have e1:=hper (m-(j-i)) (by omega)
     rw[show m-(j-i)+(j-i)=m by omega] at e1
     rw[e1]
     exact ih _ (by omega)
  have hall2:∀ m,itC CS l' x m<n+1:=fun m=>(Zil hI h1 x h2 m (fun j _=>hall j)).1
  obtain⟨p,⟨hp1,hp2⟩,hmin⟩:=Zo4 (fun p=>1≤p∧itC CS l' x (n+1+p)=itC CS l' x (n+1)) (j-i) ⟨by omega,hper (n+1) (by omega)⟩
  have hpj:p≤j-i:=Nat.le_of_not_lt (fun hlt=>hmin _ hlt ⟨by omega,hper (n+1) (by omega)⟩)
  refine⟨x,p,h3,h2,h1.ll,hp1,by omega,fun m=>⟨hall2 m,?_⟩,hp2,fun m hm1 hm2 e1=>hmin m hm2 ⟨hm1,e1⟩,?_⟩
  ·rcases h1.at' _ (hall2 m) with ⟨e1,-⟩ | ⟨i,c,e1,e2,e3,-⟩
   ·exact absurd e1 (hall m)
   ·exact⟨i,c,e1,e2,e3⟩
  ·have hsc:=(Zil hI h1 (itC CS l' x (n+1)) (hall2 _) p (fun m _=>by rw[← Zg2];exact hall _)).2
   rw[← Zg2,hp2] at hsc
   rcases hsc with hsc | ⟨hsc,hsc2⟩
   ·omega
   ·rcases hsc2 with hsc2 | hsc2<;>omega
def Zru (CS:List Con) (l:List Int) (y p:Nat):List Int:=(List.range p).map (fun j=>gv l (itC CS l y j))
theorem Z14 (f:Nat→Nat) (n:Nat):(∃ p,1≤p∧p≤n∧f p=f 0)→∃ p,((List.range n).find? (fun j=>f (j+1)==f 0))=some p∧f (p+1)=f 0∧∀ j,0<j→j<p+1→f j≠f 0:=by
 rintro⟨p,h1,h2,h3⟩
 cases hf:(List.range n).find? (fun j=>f (j+1)==f 0) with
 | none =>
  have:=List.find?_eq_none.1 hf (p-1) (List.mem_range.2 (by omega))
  rw[show p-1+1=p by omega] at this
  simp[h3] at this
 | some q =>
  refine⟨q,rfl,?_,fun j hj1 hj2 e=>?_⟩
  ·have:=List.find?_some hf
   simpa using this
  ·rw[List.find?_eq_some_iff_getElem] at hf
   obtain⟨-,i,hi,e1,h5⟩:=hf
   have e2:i=q:=by simpa using e1
   subst e2
   have:=h5 (j-1) (by omega)
   rw[List.getElem_range,show j-1+1=j by omega] at this
   simp[e] at this
def Zmx (n:Nat) (CS:List Con):Option (List Int):=match Zco CS (n+2) (List.replicate (n+1) 0) (List.replicate (n+1) (-1)) (-1) with
 | none=>none
 | some (_,l,a)=>match (List.range (n+1)).find? (fun j=>itC CS l (itC CS l a.toNat (n+1)) (j+1)==itC CS l a.toNat (n+1)) with
  | none=>none
  | some p=>some (Zru CS l (itC CS l a.toNat (n+1)) (p+1))
def Zim (CS:List Con) (list:List Int):Bool :=
 !list.isEmpty&&list.all (fun i=>decide (0≤i)&&decide (i<(CS.length:Int))) &&
 (List.range list.length).all (fun i=>(CS.getD (list.getD i 0).toNat default).r==(CS.getD (list.getD ((i+1)%list.length) 0).toNat default).l) &&
 decide ((list.map (fun i=>(CS.getD i.toNat default).c)).sum<0)
end
end Go.Proofs.YtmkdfbelbcocpaaGreatDoor
