set_option linter.unusedVariables false
set_option linter.unusedSimpArgs false
namespace Go.Proofs.YtmkdfbelbcocpaaGreatDoor
section
def letB (c:Nat):Bool:=(decide (97≤c)&&decide (c≤122))||(decide (65≤c)&&decide (c≤90))
def digB (c:Nat):Bool:=decide (48≤c)&&decide (c≤57)
def innB (c:Nat):Bool:=letB c||digB c||c==95
def blkB (c:Nat):Bool:=c==32||c==9||c==10
def plnB (c:Nat):Bool:=decide (32≤c)&&decide (c≤126)
theorem innB_of_let {c:Nat} (h:letB c=true):innB c=true:=by unfold innB;rw[h];rfl
def runN (p:Nat→Bool) (l:List Nat):Nat:=(l.takeWhile p).length
theorem runN_le (p:Nat→Bool):∀ l,runN p l≤l.length
 | []=>Nat.le_refl _
 | c::l=>by
  unfold runN
  rw[List.takeWhile_cons]
  cases p c with
  | false=>exact Nat.zero_le _
  | true=>exact Nat.succ_le_succ (runN_le p l)
theorem runN_yes (p:Nat→Bool):∀ (l:List Nat) (i:Nat),i<runN p l→p (l.getD i 0)=true
 | [],i,h=>by simp[runN] at h
 | c::l,i,h=>by
  unfold runN at h
  rw[List.takeWhile_cons] at h
  cases hp:p c with
  | false=>rw[hp] at h;simp at h
  | true =>
   rw[hp] at h
   cases i with
   | zero=>simpa using hp
   | succ i=>simpa using runN_yes p l i (by simpa [runN] using h)
theorem runN_stop (p:Nat→Bool):∀ (l:List Nat),runN p l<l.length→p (l.getD (runN p l) 0)=false
 | [],h=>by simp at h
 | c::l,h=>by
  unfold runN at h ⊢
  rw[List.takeWhile_cons] at h ⊢
  cases hp:p c with
  | false=>simpa using hp
  | true =>
   rw[hp] at h
   simp only[if_pos,List.length_cons] at h ⊢
   have h2:=runN_stop p l (by unfold runN;omega)
   unfold runN at h2
   simpa using h2
theorem runN_eq (p:Nat→Bool) (l:List Nat) (n:Nat) (hn:n≤l.length) (hy:∀ i,i<n→p (l.getD i 0)=true) (hs:n<l.length→p (l.getD n 0)=false):n=runN p l:=by
 rcases Nat.lt_trichotomy n (runN p l) with h | h | h
 ·have h1:=runN_yes p l n h
  have h2:=hs (Nat.lt_of_lt_of_le h (runN_le p l))
  rw[h1] at h2;exact absurd h2 (by simp)
 ·exact h
 ·have h1:=hy _ h
  have h2:=runN_stop p l (Nat.lt_of_lt_of_le h hn)
  rw[h1] at h2;exact absurd h2 (by simp)
theorem runN_all (p:Nat→Bool):∀ l:List Nat,(runN p l==l.length)=l.all p
 | []=>rfl
 | c::l=>by
  unfold runN
  rw[List.takeWhile_cons,List.all_cons]
  cases hp:p c with
  | false=>simp
  | true =>
   have:=runN_all p l
   unfold runN at this
   simp only[if_pos,List.length_cons,Bool.true_and]
   rw[← this]
   rw[Bool.eq_iff_iff];simp
def nameB (l:List Nat):Bool:=(l != [])&&letB (l.getD 0 0)&&decide (l.length≤20)&&(runN innB l==l.length)
def numV (l:List Nat):Nat:=l.foldl (fun n c=>10*n+(c-48)) 0
def numOk (l:List Nat):Bool:=!((l==[])||(runN digB l != l.length)||((l.getD 0 0==48)&&(l != [48]))||decide (13<l.length))&&decide (numV l≤1099511627776)
def numF (l:List Nat):Nat:=if numOk l then numV l else 0
theorem numV_snoc (l:List Nat) (c:Nat):numV (l++[c])=10*numV l+(c-48):=by unfold numV;rw[List.foldl_append];rfl
def wordsL:List (List Nat):=[[113,117,101,115,116,105,111,110],[97,110,100],[111,114],[110,111,116],[97,116],[108,101,97,115,116],[111,102],[105,110]]
def freeB (l:List Nat):Bool:=nameB l&&!wordsL.contains l
def notDot (c:Nat):Bool:=c != 46
def validN (l:List Nat):Bool:=decide (runN notDot l<l.length)&&(freeB (l.take (runN notDot l))&&freeB (l.drop (runN notDot l+1)))
end
section
def quoF:List Nat→Option (List Nat×Nat)
 | []=>none
 | c::l=>if c=34 then some ([],1) else if c=92 then
   (match l with
    | []=>none
    | d::l=>if d=34∨d=92 then (quoF l).map (fun r=>(d::r.1,r.2+2)) else none)
  else if plnB c=true then (quoF l).map (fun r=>(c::r.1,r.2+1)) else none
def skipC:Bool→List Nat→Nat
 | _,[]=>0
 | com,c::l=>if (com&&c != 10)||blkB c then skipC (com&&c != 10) l+1 else if c=35 then skipC true l+1 else 0
def gapN (l:List Nat):Nat:=skipC false l
theorem skipC_le:∀ (l:List Nat) (b:Bool),skipC b l≤l.length
 | [],b=>by cases b<;>simp[skipC]
 | c::l,b=>by
  unfold skipC
  have h1:=skipC_le l (b&&c != 10)
  have h2:=skipC_le l true
  split
  ·simp;omega
  ·split
   ·simp;omega
   ·simp
theorem skipC_blanks:∀ l:List Nat,skipC false l=runN blkB l+skipC false (l.drop (runN blkB l))
 | []=>rfl
 | c::l=>by
  unfold runN
  rw[List.takeWhile_cons]
  cases h:blkB c with
  | false=>simp
  | true =>
   have ih:=skipC_blanks l
   unfold runN at ih
   simp only[if_pos,List.length_cons,List.drop_succ_cons]
   rw[skipC]
   simp only[h,Bool.false_and,Bool.false_or,if_pos]
   omega
end
section
def sgnsP:List (List Nat):=[[46,46],[33,61],[60,61],[62,61],[40],[41],[123],[125],[44],[59],[58],[46],[61],[60],[62],[43],[45],[42],[47]]
def firstS:List (List Nat)→List Nat→Nat
 | [],_=>0
 | t::ts,l=>if t.isPrefixOf l=true then t.length else firstS ts l
def sgnF (l:List Nat):Nat:=firstS sgnsP l
theorem firstS_le:∀ (ts:List (List Nat)) (l:List Nat),firstS ts l≤l.length
 | [],l=>Nat.zero_le _
 | t::ts,l=>by
  unfold firstS
  split
  ·rename_i h
   exact (List.isPrefixOf_iff_prefix.1 h).length_le
  ·exact firstS_le ts l
theorem quoF_le:∀ (l:List Nat) (r:List Nat×Nat),quoF l=some r→1≤r.2∧r.2≤l.length
 | [],r,h=>by simp[quoF] at h
 | [c],r,h=>by
  unfold quoF at h
  split at h
  ·cases h;simp
  ·split at h
   ·simp at h
   ·simp[quoF] at h
 | c::d::l,r,h=>by
  unfold quoF at h
  split at h
  ·cases h;simp
  ·split at h
   ·simp only at h
    split at h
    ·cases hq:quoF l with
     | none=>rw[hq] at h;simp at h
     | some r0 =>
      rw[hq] at h
      have:=quoF_le l r0 hq
      simp only[Option.map_some,Option.some.injEq] at h
      subst h;simp;omega
    ·simp at h
   ·split at h
    ·cases hq:quoF (d::l) with
     | none=>rw[hq] at h;simp at h
     | some r0 =>
      rw[hq] at h
      have:=quoF_le (d::l) r0 hq
      simp only[Option.map_some,Option.some.injEq] at h
      subst h;simp at *;omega
    ·simp at h
structure Tok where
 k:Int
 t:List Nat
 n:Nat
 p:Nat
def nextF (l:List Nat):Except Int (Tok×Nat) :=
 if letB (l.getD 0 0)=true then
  (if nameB (l.take (runN innB l))=true then .ok (⟨0,l.take (runN innB l),0,0⟩,runN innB l) else .error 3)
 else if digB (l.getD 0 0)=true then
  (if numOk (l.take (runN digB l))=true then .ok (⟨1,l.take (runN digB l),numV (l.take (runN digB l)),0⟩,runN digB l) else .error 3)
 else if l.getD 0 0=34 then
  (match quoF l.tail with
   | some r=>if r.1.length≤400 then .ok (⟨2,r.1,0,0⟩,r.2+1) else .error 2
   | none=>.error 2)
 else if sgnF l=0 then .error 10 else .ok (⟨3,l.take (sgnF l),0,0⟩,sgnF l)
theorem runN_pos (p:Nat→Bool) (c:Nat) (l:List Nat) (h:p c=true):0<runN p (c::l):=by
 unfold runN;rw[List.takeWhile_cons,h];simp
theorem nextF_len (l:List Nat) (h0:l≠[]) (r:Tok×Nat) (h:nextF l = .ok r):1≤r.2∧r.2≤l.length:=by
 cases l with
 | nil=>exact absurd rfl h0
 | cons c l =>
  unfold nextF at h
  split at h
  ·rename_i hl
   split at h
   ·cases h
    exact⟨runN_pos _ _ _ (innB_of_let hl),runN_le _ _⟩
   ·cases h
  ·split at h
   ·rename_i hl
    split at h
    ·cases h
     exact⟨runN_pos _ _ _ hl,runN_le _ _⟩
    ·cases h
   ·split at h
    ·split at h
     ·rename_i r0 hq
      have:=quoF_le _ _ hq
      split at h
      ·cases h
       simp at *;omega
      ·cases h
     ·cases h
    ·split at h
     ·cases h
     ·cases h
      exact⟨by show 1≤sgnF (c::l);omega,firstS_le _ _⟩
def scanG:Nat→Nat→List Nat→List Tok→List Tok×Nat×Int
 | 0,_,_,acc=>(acc,0,0)
 | f+1,a,l,acc =>
  if gapN l=l.length then (acc,0,0)
  else match nextF (l.drop (gapN l)) with
   | .error e=>([],a+gapN l,e)
   | .ok r=>scanG f (a+gapN l+r.2) (l.drop (gapN l+r.2)) (acc++[{ r.1 with p:=a+gapN l }])
theorem scanG_fuel:∀ (f g a:Nat) (l:List Nat) (acc:List Tok),l.length<f→l.length<g→scanG f a l acc=scanG g a l acc
 | 0,g,a,l,acc,hf,hg=>absurd hf (Nat.not_lt_zero _)
 | f+1,0,a,l,acc,hf,hg=>absurd hg (Nat.not_lt_zero _)
 | f+1,g+1,a,l,acc,hf,hg=>by
  unfold scanG
  by_cases h:gapN l=l.length
  ·rw[if_pos h,if_pos h]
  ·rw[if_neg h,if_neg h]
   have hle:gapN l≤l.length:=skipC_le l false
   cases hn:nextF (l.drop (gapN l)) with
   | error e=>rfl
   | ok r =>
    have hr:=nextF_len (l.drop (gapN l)) (by intro h2;have:=congrArg List.length h2;simp at this;omega) r hn
    rw[List.length_drop] at hr
    exact scanG_fuel f g _ _ _ (by rw[List.length_drop];omega) (by rw[List.length_drop];omega)
def scanF (l:List Nat):List Tok×Nat×Int:=if 4000<l.length then ([],0,6) else scanG (l.length+1) 0 l []
end
section
def scanC (com:Bool) (a:Nat) (l:List Nat) (acc:List Tok):List Tok×Nat×Int :=
 if skipC com l=l.length then (acc,0,0)
 else match nextF (l.drop (skipC com l)) with
  | .error e=>([],a+skipC com l,e)
  | .ok r=>scanG (l.length+1) (a+skipC com l+r.2) (l.drop (skipC com l+r.2)) (acc++[{ r.1 with p:=a+skipC com l }])
theorem scanG_C (f a:Nat) (l:List Nat) (acc:List Tok) (h:l.length<f):scanG f a l acc=scanC false a l acc:=by
 cases f with
 | zero=>exact absurd h (Nat.not_lt_zero _)
 | succ f =>
  unfold scanC
  rw[scanG]
  unfold gapN
  by_cases h1:skipC false l=l.length
  ·rw[if_pos h1,if_pos h1]
  ·rw[if_neg h1,if_neg h1]
   have hle:=skipC_le l false
   cases hn:nextF (l.drop (skipC false l)) with
   | error e=>rfl
   | ok r =>
    have hr:=nextF_len _ (by intro h2;have:=congrArg List.length h2;simp at this;omega) r hn
    rw[List.length_drop] at hr
    exact scanG_fuel _ _ _ _ _ (by rw[List.length_drop];omega) (by rw[List.length_drop];omega)
theorem scanF_C (l:List Nat) (h:l.length≤4000):scanF l=scanC false 0 l []:=by
 unfold scanF
 rw[if_neg (by omega)]
 exact scanG_C _ _ _ _ (by omega)
end
section
inductive Prd where
 | mk (k:Int) (l r:List Nat) (c:Int) (ks:List Prd):Prd
namespace Prd
def k:Prd→Int | mk k _ _ _ _=>k
def l:Prd→List Nat | mk _ l _ _ _=>l
def r:Prd→List Nat | mk _ _ r _ _=>r
def c:Prd→Int | mk _ _ _ c _=>c
def ks:Prd→List Prd | mk _ _ _ _ ks=>ks
end Prd
def prd0:Prd:=.mk 0 [] [] 0 []
abbrev PR (α:Type):=Except (Int×Nat) (α×Nat)
def offP (ts:List Tok) (sz i:Nat):Nat:=match ts[i]? with
 | some t=>t.p
 | none=>sz
def isP (ts:List Tok) (s:List Nat) (i:Nat):Bool:=match ts[i]? with
 | some t=>(t.k==3||t.k==0)&&t.t==s
 | none=>false
def takeP (ts:List Tok) (sz:Nat) (s:List Nat) (i:Nat):Except (Int×Nat) Nat :=
 if isP ts s i=true then .ok (i+1) else .error (12,offP ts sz i)
def isNamP (ts:List Tok) (i:Nat):Bool:=match ts[i]? with
 | some t=>t.k==0&&freeB t.t
 | none=>false
def isNumP (ts:List Tok) (i:Nat):Bool:=match ts[i]? with
 | some t=>t.k==1
 | none=>false
def txtP (ts:List Tok) (i:Nat):List Nat:=match ts[i]? with
 | some t=>t.t
 | none=>[]
def valP (ts:List Tok) (i:Nat):Nat:=match ts[i]? with
 | some t=>t.n
 | none=>0
def nameP (ts:List Tok) (sz i:Nat):PR (List Nat) :=
 if isNamP ts i=true then .ok (txtP ts i,i+1) else .error (12,offP ts sz i)
def numP (ts:List Tok) (sz i:Nat):PR Nat :=
 if isNumP ts i=true then .ok (valP ts i,i+1) else .error (12,offP ts sz i)
abbrev SumV:=List Nat×Int
def sumP (ts:List Tok) (sz i:Nat):PR SumV :=
 if isP ts [45] i=true then (numP ts sz (i+1)).bind (fun m=>.ok (([],-(m.1:Int)),m.2))
 else if isNumP ts i=true then .ok (([],(valP ts i:Int)),i+1)
 else (nameP ts sz i).bind (fun a=>(takeP ts sz [46] a.2).bind (fun j=>(nameP ts sz j).bind (fun b =>
  if isP ts [43] b.2=true then (numP ts sz (b.2+1)).bind (fun m=>.ok ((a.1++46::b.1,(m.1:Int)),m.2))
  else if isP ts [45] b.2=true then (numP ts sz (b.2+1)).bind (fun m=>.ok ((a.1++46::b.1,-(m.1:Int)),m.2))
  else .ok ((a.1++46::b.1,0),b.2))))
def mostP (a b:SumV) (less:Int):Prd:=.mk 0 a.1 b.1 (b.2-a.2-less) []
def inP (p:Prd):Bool:=decide (-1099511627776≤p.c)&&decide (p.c<1099511627776)
def cmpP (ts:List Tok) (i:Nat):Option Nat :=
 if isP ts [60,61] i=true then some 0 else if isP ts [60] i=true then some 1 else if isP ts [62,61] i=true then some 2
 else if isP ts [62] i=true then some 3 else if isP ts [61] i=true then some 4 else if isP ts [33,61] i=true then some 5 else none
def makeP (n:Nat) (a b:SumV):Prd :=
 if n=0 then mostP a b 0 else if n=1 then mostP a b 1 else if n=2 then mostP b a 0 else if n=3 then mostP b a 1
 else if n=4 then .mk 1 [] [] 0 [mostP a b 0,mostP b a 0] else .mk 2 [] [] 0 [mostP a b 1,mostP b a 1]
def okP (n:Nat) (a b:SumV):Bool :=
 if n=0 then inP (mostP a b 0) else if n=1 then inP (mostP a b 1) else if n=2 then inP (mostP b a 0) else if n=3 then inP (mostP b a 1)
 else if n=4 then inP (mostP a b 0)&&inP (mostP b a 0) else inP (mostP a b 1)&&inP (mostP b a 1)
def compareP (ts:List Tok) (sz:Nat) (a:SumV) (u i:Nat):PR Prd:=match cmpP ts i with
 | none=>.error (12,offP ts sz i)
 | some n=>(sumP ts sz (i+1)).bind (fun b=>if okP n a b.1=true then .ok (makeP n a b.1,b.2) else .error (3,offP ts sz u))
def oneP (k:Int) (ps:List Prd):Prd:=match ps with
 | [p]=>p
 | _=>.mk k [] [] 0 ps
def rangesP (ts:List Tok) (sz:Nat):Nat→Nat→List (Nat×Nat)→PR (List (Nat×Nat))
 | 0,_,_=>.error (0,0)
 | f+1,i,acc=>(numP ts sz i).bind (fun m =>
   (if isP ts [46,46] m.2=true then numP ts sz (m.2+1) else .ok m).bind (fun n =>
    if n.1<m.1 then .error (3,offP ts sz i)
    else if isP ts [44] n.2=true then rangesP ts sz f (n.2+1) (acc++[(m.1,n.1)])
    else .ok (acc++[(m.1,n.1)],n.2)))
def rngP (a:SumV) (m:Nat×Nat):Prd:=.mk 1 [] [] 0 [mostP ([],(m.1:Int)) a 0,mostP a ([],(m.2:Int)) 0]
def rngOk (a:SumV) (m:Nat×Nat):Bool:=inP (mostP ([],(m.1:Int)) a 0)&&inP (mostP a ([],(m.2:Int)) 0)
def memberP (ts:List Tok) (sz:Nat) (a:SumV) (u i:Nat):PR Prd :=
 (takeP ts sz [123] i).bind (fun j=>(rangesP ts sz (ts.length+1) j []).bind (fun r=>(takeP ts sz [125] r.2).bind (fun k =>
  if r.1.all (rngOk a)=true then .ok (oneP 2 (r.1.map (rngP a)),k) else .error (3,offP ts sz u))))
def listP (ts:List Tok) (word:List Nat) (el:Nat→PR Prd):Nat→Nat→List Prd→PR (List Prd)
 | 0,_,_=>.error (0,0)
 | f+1,i,acc=>(el i).bind (fun p=>if isP ts word p.2=true then listP ts word el f (p.2+1) (acc++[p.1]) else .ok (acc++[p.1],p.2))
def allP (ts:List Tok) (unit:Nat→PR Prd) (i:Nat):PR Prd:=(listP ts [97,110,100] unit (ts.length+1) i []).bind (fun r=>.ok (oneP 1 r.1,r.2))
def someP (ts:List Tok) (unit:Nat→PR Prd) (i:Nat):PR Prd:=(listP ts [111,114] (allP ts unit) (ts.length+1) i []).bind (fun r=>.ok (oneP 2 r.1,r.2))
def leastP (ts:List Tok) (sz:Nat) (unit:Nat→PR Prd) (u i:Nat):PR Prd :=
 (takeP ts sz [108,101,97,115,116] i).bind (fun j=>(numP ts sz j).bind (fun n=>(takeP ts sz [111,102] n.2).bind (fun j=>(takeP ts sz [40] j).bind (fun j =>
  (listP ts [44] (someP ts unit) (ts.length+1) j []).bind (fun r=>(takeP ts sz [41] r.2).bind (fun j =>
   if 1≤n.1∧n.1≤r.1.length then .ok (.mk 3 [] [] (n.1:Int) r.1,j) else .error (3,offP ts sz u)))))))
def w64 (x:Int):Int:=(x+9223372036854775808)%18446744073709551616-9223372036854775808
theorem w64_in (x:Int) (h1:-9223372036854775808≤x) (h2:x≤9223372036854775807):w64 x=x:=by unfold w64;omega
mutual
def negP:Prd→Prd
 | .mk k l r c ks=>if k=0 then .mk 0 r l (w64 (w64 (-c)-1)) [] else
   .mk (if k=1 then 2 else if k=2 then 1 else k) [] [] (if k=3 then w64 (w64 ((ks.length:Int)-c)+1) else 0) (negL ks)
def negL:List Prd→List Prd
 | []=>[]
 | p::ps=>negP p::negL ps
end
def unitP (ts:List Tok) (sz:Nat):Nat→Nat→PR Prd
 | 0,_=>.error (0,0)
 | f+1,i =>
  if isP ts [110,111,116] i=true then (unitP ts sz f (i+1)).bind (fun p=>.ok (negP p.1,p.2))
  else if isP ts [40] i=true then (someP ts (unitP ts sz f) (i+1)).bind (fun p=>(takeP ts sz [41] p.2).bind (fun j=>.ok (p.1,j)))
  else if isP ts [97,116] i=true then leastP ts sz (unitP ts sz f) i (i+1)
  else (sumP ts sz i).bind (fun a=>if isP ts [105,110] a.2=true then memberP ts sz a.1 i (a.2+1) else compareP ts sz a.1 i a.2)
mutual
def cntP:Prd→Nat
 | .mk _ _ _ _ ks=>1+cntL ks
def cntL:List Prd→Nat
 | []=>0
 | p::ps=>cntP p+cntL ps
end
mutual
def depP:Prd→Nat
 | .mk _ _ _ _ ks=>1+depL ks
def depL:List Prd→Nat
 | []=>0
 | p::ps=>max (depP p) (depL ps)
end
def smallP (p:Prd):Bool:=decide (cntP p≤100)&&decide (depP p≤12)
def questP (ts:List Tok) (sz:Nat):Except (Int×Nat) (List Nat×Prd) :=
 (takeP ts sz [113,117,101,115,116,105,111,110] 0).bind (fun j=>(nameP ts sz j).bind (fun n=>(takeP ts sz [123] n.2).bind (fun j =>
  (someP ts (unitP ts sz (ts.length+1)) j).bind (fun p=>(takeP ts sz [125] p.2).bind (fun j =>
   if j<ts.length then .error (12,offP ts sz j)
   else if smallP p.1=true then .ok (n.1,p.1) else .error (6,0))))))
def parseF (s:List Nat):List Nat×Prd×Nat×Int :=
 if (scanF s).2.2=0 then (match questP (scanF s).1 s.length with
  | .ok r=>(r.1,r.2,0,0)
  | .error e=>([],prd0,e.2,e.1))
 else ([],prd0,(scanF s).2.1,(scanF s).2.2)
end
section
structure TokOk (t:Tok):Prop where
 name:t.k=0→nameB t.t=true
 n:t.n≤1099511627776
 p:t.p≤1000000
 len:t.t.length≤1000000
 byte:∀ y∈t.t,y<256
 k0:0≤t.k
 k3:t.k≤3
theorem quoF_byte:∀ (l:List Nat) (r:List Nat×Nat),quoF l=some r→(∀ y∈l,y<256)→∀ y∈r.1,y<256
 | [],r,h,_=>by simp[quoF] at h
 | [c],r,h,hb=>by
  unfold quoF at h
  split at h
  ·cases h;simp
  ·split at h
   ·simp at h
   ·simp[quoF] at h
 | c::d::l,r,h,hb=>by
  unfold quoF at h
  split at h
  ·cases h;simp
  ·split at h
   ·simp only at h
    split at h
    ·cases hq:quoF l with
     | none=>rw[hq] at h;simp at h
     | some r0 =>
      rw[hq] at h
      have:=quoF_byte l r0 hq (fun y hy=>hb y (by simp[hy]))
      simp only[Option.map_some,Option.some.injEq] at h
      subst h
      intro y hy
      rcases List.mem_cons.1 hy with e | e
      ·subst e;exact hb y (by simp)
      ·exact this y e
    ·simp at h
   ·split at h
    ·cases hq:quoF (d::l) with
     | none=>rw[hq] at h;simp at h
     | some r0 =>
      rw[hq] at h
      have:=quoF_byte (d::l) r0 hq (fun y hy=>hb y (List.mem_cons_of_mem _ hy))
      simp only[Option.map_some,Option.some.injEq] at h
      subst h
      intro y hy
      rcases List.mem_cons.1 hy with e | e
      ·subst e;exact hb y (by simp)
      ·exact this y e
    ·simp at h
theorem nextF_ok (l:List Nat) (hl:l.length≤4000) (hb:∀ y∈l,y<256) (r:Tok×Nat) (h:nextF l = .ok r) (a:Nat) (ha:a≤1000000):TokOk { r.1 with p:=a }:=by
 unfold nextF at h
 split at h
 ·split at h
  ·rename_i hn
   cases h
   exact⟨fun _=>hn,by simp,ha,by simp;omega,fun y hy=>hb y (List.mem_of_mem_take hy),by simp,by simp⟩
  ·cases h
 ·split at h
  ·split at h
   ·rename_i hn
    cases h
    refine⟨by simp,?_,ha,by simp;omega,fun y hy=>hb y (List.mem_of_mem_take hy),by simp,by simp⟩
    unfold numOk at hn
    simp only[Bool.and_eq_true,decide_eq_true_eq] at hn
    exact hn.2
   ·cases h
  ·split at h
   ·split at h
    ·rename_i r0 hq
     split at h
     ·rename_i h4
      cases h
      exact⟨by simp,by simp,ha,by simp;omega,quoF_byte _ _ hq (fun y hy=>hb y (List.mem_of_mem_tail hy)),by simp,by simp⟩
     ·cases h
    ·cases h
   ·split at h
    ·cases h
    ·cases h
     exact⟨by simp,by simp,ha,by simp;omega,fun y hy=>hb y (List.mem_of_mem_take hy),by simp,by simp⟩
theorem scanG_ok:∀ (f a:Nat) (l:List Nat) (acc:List Tok),a+l.length≤4000→(∀ y∈l,y<256)→(∀ t∈acc,TokOk t)→∀ t∈(scanG f a l acc).1,TokOk t
 | 0,_,_,acc,_,_,h=>by unfold scanG;exact h
 | f+1,a,l,acc,hl,hb,h=>by
  unfold scanG
  split
  ·exact h
  ·have hg:gapN l≤l.length:=skipC_le l false
   have hld:(l.drop (gapN l)).length≤4000:=by rw[List.length_drop];omega
   cases hn:nextF (l.drop (gapN l)) with
   | error e=>intro t ht;cases ht
   | ok r =>
    have hr:=nextF_len _ (by intro h2;have:=congrArg List.length h2;simp at this;omega) r hn
    rw[List.length_drop] at hr
    refine scanG_ok f _ _ _ (by rw[List.length_drop];omega) (fun y hy=>hb y (List.mem_of_mem_drop hy)) ?_
    intro t ht
    rcases List.mem_append.1 ht with ht | ht
    ·exact h t ht
    ·rw[List.mem_singleton.1 ht]
     exact nextF_ok _ hld (fun y hy=>hb y (List.mem_of_mem_drop hy)) r hn _ (by omega)
theorem scanF_ok (l:List Nat) (hb:∀ y∈l,y<256):∀ t∈(scanF l).1,TokOk t:=by
 unfold scanF
 split
 ·intro t ht;cases ht
 ·exact scanG_ok _ _ _ _ (by omega) hb (fun t ht=>by cases ht)
theorem scanG_count:∀ (f a:Nat) (l:List Nat) (acc:List Tok),(scanG f a l acc).1.length≤acc.length+l.length
 | 0,_,_,acc=>by unfold scanG;exact Nat.le_add_right _ _
 | f+1,a,l,acc=>by
  unfold scanG
  split
  ·exact Nat.le_add_right _ _
  ·have hg:gapN l≤l.length:=skipC_le l false
   cases hn:nextF (l.drop (gapN l)) with
   | error e=>exact Nat.zero_le _
   | ok r =>
    have hr:=nextF_len _ (by intro h2;have:=congrArg List.length h2;simp at this;omega) r hn
    rw[List.length_drop] at hr
    have:=scanG_count f (a+gapN l+r.2) (l.drop (gapN l+r.2)) (acc++[{ r.1 with p:=a+gapN l }])
    rw[List.length_append,List.length_drop] at this
    simp only[List.length_cons,List.length_nil] at this
    exact Nat.le_trans this (by omega)
theorem scanF_count (l:List Nat):(scanF l).1.length≤4000:=by
 unfold scanF
 split
 ·exact Nat.zero_le _
 ·have:=scanG_count (l.length+1) 0 l []
  simp at this
  omega
end
section
theorem isP_lt {ts:List Tok} {s:List Nat} {i:Nat} (h:isP ts s i=true):i<ts.length:=by
 unfold isP at h
 split at h
 ·rename_i t ht;exact (List.getElem?_eq_some_iff.1 ht).1
 ·cases h
theorem isNamP_lt {ts:List Tok} {i:Nat} (h:isNamP ts i=true):i<ts.length:=by
 unfold isNamP at h
 split at h
 ·rename_i t ht;exact (List.getElem?_eq_some_iff.1 ht).1
 ·cases h
theorem isNumP_lt {ts:List Tok} {i:Nat} (h:isNumP ts i=true):i<ts.length:=by
 unfold isNumP at h
 split at h
 ·rename_i t ht;exact (List.getElem?_eq_some_iff.1 ht).1
 ·cases h
theorem takeP_ok {ts:List Tok} {sz:Nat} {s:List Nat} {i j:Nat} (h:takeP ts sz s i = .ok j):isP ts s i=true∧j=i+1∧j≤ts.length:=by
 unfold takeP at h
 split at h
 ·rename_i hs;cases h;exact⟨hs,rfl,isP_lt hs⟩
 ·cases h
theorem nameP_ok {ts:List Tok} {sz i:Nat} {r:List Nat×Nat} (h:nameP ts sz i = .ok r):isNamP ts i=true∧r=(txtP ts i,i+1)∧r.2≤ts.length:=by
 unfold nameP at h
 split at h
 ·rename_i hs;cases h;exact⟨hs,rfl,isNamP_lt hs⟩
 ·cases h
theorem numP_ok {ts:List Tok} {sz i:Nat} {r:Nat×Nat} (h:numP ts sz i = .ok r):isNumP ts i=true∧r=(valP ts i,i+1)∧r.2≤ts.length:=by
 unfold numP at h
 split at h
 ·rename_i hs;cases h;exact⟨hs,rfl,isNumP_lt hs⟩
 ·cases h
theorem valP_le {ts:List Tok} (hts:∀ t∈ts,TokOk t) (i:Nat):valP ts i≤1099511627776:=by
 unfold valP
 split
 ·rename_i t ht;exact (hts t (List.mem_of_getElem? ht)).n
 ·omega
theorem txtP_byte {ts:List Tok} (hts:∀ t∈ts,TokOk t) (i:Nat):∀ y∈txtP ts i,y<256:=by
 unfold txtP
 split
 ·rename_i t ht;exact (hts t (List.mem_of_getElem? ht)).byte
 ·intro y hy;cases hy
theorem nameB_len {l:List Nat} (h:nameB l=true):l.length≤20:=by
 unfold nameB at h
 simp only[Bool.and_eq_true,decide_eq_true_eq] at h
 exact h.1.2
theorem txtP_len {ts:List Tok} {i:Nat} (h:isNamP ts i=true):(txtP ts i).length≤20:=by
 unfold isNamP at h
 unfold txtP
 split at h
 ·rename_i t ht
  simp only[Bool.and_eq_true,freeB] at h
  exact nameB_len h.2.1
 ·cases h
structure SumOk (a:SumV):Prop where
 lo:-1099511627776≤a.2
 hi:a.2≤1099511627776
 len:a.1.length≤41
 byte:∀ y∈a.1,y<256
theorem ex_bind {ε α β:Type} {x:Except ε α} {f:α→Except ε β} {b:β} (h:x.bind f = .ok b):∃ a,x = .ok a∧f a = .ok b:=by
 cases x with
 | error e=>cases h
 | ok a=>exact⟨a,rfl,h⟩
theorem sumP_ok {ts:List Tok} (hts:∀ t∈ts,TokOk t) {sz i:Nat} {r:SumV×Nat} (h:sumP ts sz i = .ok r):i<r.2∧r.2≤ts.length∧SumOk r.1:=by
 unfold sumP at h
 split at h
 ·obtain⟨m,h1,h2⟩:=ex_bind h
  obtain⟨_,rfl,hle⟩:=numP_ok h1
  cases h2
  have:=valP_le hts (i+1)
  exact⟨by simp;try omega,hle,by simp;try omega,by simp;try omega,by simp,by simp⟩
 ·split at h
  ·rename_i h1
   cases h
   have:=valP_le hts i
   exact⟨by simp,isNumP_lt h1,by simp;try omega,by simp;try omega,by simp,by simp⟩
  ·obtain⟨a,ha,h⟩:=ex_bind h
   obtain⟨hna,rfl,_⟩:=nameP_ok ha
   obtain⟨j,hj,h⟩:=ex_bind h
   obtain⟨_,rfl,_⟩:=takeP_ok hj
   obtain⟨b,hb,h⟩:=ex_bind h
   obtain⟨hnb,rfl,hle⟩:=nameP_ok hb
   have l1:=txtP_len hna
   have l2:(txtP ts (i+1+1)).length≤20:=txtP_len hnb
   have b1:=txtP_byte hts i
   have b2:=txtP_byte hts (i+1+1)
   have hlen:(txtP ts i++46::txtP ts (i+1+1)).length≤41:=by rw[List.length_append,List.length_cons];omega
   have hbyte:∀ y∈txtP ts i++46::txtP ts (i+1+1),y<256:=by
    intro y hy
    rcases List.mem_append.1 hy with hy | hy
    ·exact b1 y hy
    ·rcases List.mem_cons.1 hy with rfl | hy
     ·omega
     ·exact b2 y hy
   split at h
   ·obtain⟨m,h1,h2⟩:=ex_bind h
    obtain⟨_,rfl,hle⟩:=numP_ok h1
    cases h2
    have:=valP_le hts (i+1+1+1+1)
    exact⟨by simp;try omega,hle,by simp;try omega,by simp;try omega,hlen,hbyte⟩
   ·split at h
    ·obtain⟨m,h1,h2⟩:=ex_bind h
     obtain⟨_,rfl,hle⟩:=numP_ok h1
     cases h2
     have:=valP_le hts (i+1+1+1+1)
     exact⟨by simp;try omega,hle,by simp;try omega,by simp;try omega,hlen,hbyte⟩
    ·cases h
     exact⟨by simp;try omega,hle,by simp,by simp,hlen,hbyte⟩
def Goes (n:Nat) (el:Nat→PR Prd):Prop:=∀ i r,el i = .ok r→i<r.2∧r.2≤n
theorem listP_ok {ts:List Tok} {word:List Nat} {el:Nat→PR Prd} (hel:Goes ts.length el):∀ (f i:Nat) (acc:List Prd) (r:List Prd×Nat),listP ts word el f i acc = .ok r→i<r.2∧r.2≤ts.length∧acc.length<r.1.length
 | 0,_,_,_,h=>by cases h
 | f+1,i,acc,r,h=>by
  unfold listP at h
  obtain⟨p,hp,h⟩:=ex_bind h
  have h1:=hel i p hp
  split at h
  ·have h2:=listP_ok hel f _ _ r h
   rw[List.length_append] at h2
   simp at h2
   omega
  ·cases h
   simp;omega
theorem allP_ok {ts:List Tok} {unit:Nat→PR Prd} (hel:Goes ts.length unit):Goes ts.length (allP ts unit):=by
 intro i r h
 unfold allP at h
 obtain⟨p,hp,h⟩:=ex_bind h
 cases h
 have:=listP_ok hel _ _ _ p hp
 exact⟨this.1,this.2.1⟩
theorem someP_ok {ts:List Tok} {unit:Nat→PR Prd} (hel:Goes ts.length unit):Goes ts.length (someP ts unit):=by
 intro i r h
 unfold someP at h
 obtain⟨p,hp,h⟩:=ex_bind h
 cases h
 have:=listP_ok (allP_ok hel) _ _ _ p hp
 exact⟨this.1,this.2.1⟩
theorem leastP_ok {ts:List Tok} {sz:Nat} {unit:Nat→PR Prd} (hel:Goes ts.length unit) (u:Nat):Goes ts.length (leastP ts sz unit u):=by
 intro i r h
 unfold leastP at h
 obtain⟨j,hj,h⟩:=ex_bind h
 obtain⟨_,rfl,_⟩:=takeP_ok hj
 obtain⟨n,hn,h⟩:=ex_bind h
 obtain⟨_,rfl,_⟩:=numP_ok hn
 obtain⟨j,hj,h⟩:=ex_bind h
 obtain⟨_,rfl,_⟩:=takeP_ok hj
 obtain⟨j,hj,h⟩:=ex_bind h
 obtain⟨_,rfl,_⟩:=takeP_ok hj
 obtain⟨p,hp,h⟩:=ex_bind h
 have h1:=listP_ok (someP_ok hel) _ _ _ p hp
 obtain⟨j,hj,h⟩:=ex_bind h
 obtain⟨_,rfl,h2⟩:=takeP_ok hj
 simp only at h
 split at h
 ·cases h
  simp at h1 h2 ⊢
  omega
 ·cases h
theorem rangesP_ok {ts:List Tok} {sz:Nat} (hts:∀ t∈ts,TokOk t):∀ (f i:Nat) (acc:List (Nat×Nat)) (r:List (Nat×Nat)×Nat),(∀ m∈acc,m.1≤1099511627776∧m.2≤1099511627776)→rangesP ts sz f i acc = .ok r→i<r.2∧r.2≤ts.length∧(∀ m∈r.1,m.1≤1099511627776∧m.2≤1099511627776)
 | 0,_,_,_,_,h=>by cases h
 | f+1,i,acc,r,ha,h=>by
  unfold rangesP at h
  obtain⟨m,hm,h⟩:=ex_bind h
  obtain⟨_,rfl,l1⟩:=numP_ok hm
  obtain⟨n,hn,h⟩:=ex_bind h
  have hn2:i<n.2∧n.2≤ts.length∧n.1≤1099511627776:=by
   split at hn
   ·obtain⟨_,rfl,l2⟩:=numP_ok hn
    exact⟨by simp;omega,l2,valP_le hts _⟩
   ·cases hn
    exact⟨by simp,l1,valP_le hts _⟩
  have hacc:∀ m∈acc++[(valP ts i,n.1)],m.1≤1099511627776∧m.2≤1099511627776:=by
   intro m hm
   rcases List.mem_append.1 hm with hm | hm
   ·exact ha m hm
   ·rw[List.mem_singleton.1 hm];exact⟨valP_le hts _,hn2.2.2⟩
  split at h
  ·cases h
  ·split at h
   ·have:=rangesP_ok hts f _ _ r hacc h
    exact⟨by omega,this.2⟩
   ·cases h
    exact⟨hn2.1,hn2.2.1,hacc⟩
theorem memberP_ok {ts:List Tok} {sz:Nat} (hts:∀ t∈ts,TokOk t) (a:SumV) (u:Nat):Goes ts.length (memberP ts sz a u):=by
 intro i r h
 unfold memberP at h
 obtain⟨j,hj,h⟩:=ex_bind h
 obtain⟨_,rfl,_⟩:=takeP_ok hj
 obtain⟨p,hp,h⟩:=ex_bind h
 have h1:=rangesP_ok hts _ _ _ p (fun m hm=>by cases hm) hp
 obtain⟨j,hj,h⟩:=ex_bind h
 obtain⟨_,rfl,h2⟩:=takeP_ok hj
 split at h
 ·cases h
  simp at h1 h2 ⊢
  omega
 ·cases h
theorem compareP_ok {ts:List Tok} {sz:Nat} (hts:∀ t∈ts,TokOk t) (a:SumV) (u:Nat):Goes ts.length (compareP ts sz a u):=by
 intro i r h
 unfold compareP at h
 split at h
 ·cases h
 ·obtain⟨b,hb,h⟩:=ex_bind h
  have h1:=sumP_ok hts hb
  split at h
  ·cases h
   exact⟨by simp;omega,h1.2.1⟩
  ·cases h
theorem unitP_ok {ts:List Tok} {sz:Nat} (hts:∀ t∈ts,TokOk t):∀ f,Goes ts.length (unitP ts sz f)
 | 0=>fun i r h=>by cases h
 | f+1=>by
  intro i r h
  have ih:=unitP_ok (sz:=sz) hts f
  unfold unitP at h
  split at h
  ·obtain⟨p,hp,h⟩:=ex_bind h
   have:=ih _ _ hp
   cases h
   exact⟨by simp;omega,this.2⟩
  ·split at h
   ·obtain⟨p,hp,h⟩:=ex_bind h
    have h1:=someP_ok ih _ _ hp
    obtain⟨j,hj,h⟩:=ex_bind h
    obtain⟨_,rfl,h2⟩:=takeP_ok hj
    cases h
    exact⟨by simp;omega,h2⟩
   ·split at h
    ·have:=leastP_ok ih i _ r h
     omega
    ·obtain⟨a,ha,h⟩:=ex_bind h
     have h1:=sumP_ok hts ha
     split at h
     ·have:=memberP_ok hts a.1 i _ r h
      omega
     ·have:=compareP_ok hts a.1 i _ r h
      omega
end
section
def Few3 (el:Nat→PR Prd):Prop:=∀ i r,el i = .ok r→i<r.2∧cntP r.1≤3*(r.2-i)
theorem cntL_append:∀ (a b:List Prd),cntL (a++b)=cntL a+cntL b
 | [],b=>by simp[cntL]
 | p::a,b=>by rw[List.cons_append,cntL,cntL,cntL_append a b];omega
mutual
theorem cnt_neg:∀ p:Prd,cntP (negP p)≤cntP p
 | .mk k l r c ks=>by
  unfold negP
  split
  ·simp[cntP,cntL]
  ·unfold cntP
   have:=cnt_negL ks
   omega
theorem cnt_negL:∀ ks:List Prd,cntL (negL ks)≤cntL ks
 | []=>Nat.le_refl _
 | p::ps=>by
  unfold negL cntL
  have:=cnt_neg p
  have:=cnt_negL ps
  omega
end
theorem list_few {ts:List Tok} {word:List Nat} {el:Nat→PR Prd} (hel:Few3 el):∀ (f i:Nat) (acc:List Prd) (r:List Prd×Nat),listP ts word el f i acc = .ok r →
  i<r.2∧acc.length<r.1.length∧cntL r.1+3*r.1.length≤cntL acc+3*acc.length+3*(r.2-i)+3
 | 0,_,_,_,h=>by cases h
 | f+1,i,acc,r,h=>by
  unfold listP at h
  obtain⟨p,hp,h⟩:=ex_bind h
  have h1:=hel i p hp
  split at h
  ·have h2:=list_few hel f _ _ r h
   rw[cntL_append,List.length_append] at h2
   simp[cntL] at h2
   omega
  ·cases h
   rw[cntL_append,List.length_append]
   simp[cntL]
   omega
theorem cnt_oneP (k:Int) (ps:List Prd):cntP (oneP k ps)≤cntL ps+(if ps.length=1 then 0 else 1):=by
 match ps with
 | []=>simp[oneP,cntP,cntL]
 | [p]=>simp[oneP,cntL]
 | p::q::l=>simp[oneP,cntP,cntL];omega
theorem one_few {k:Int} {ps:List Prd} {i j:Nat} (h0:0<ps.length) (h:cntL ps+3*ps.length≤3*(j-i)+3):cntP (oneP k ps)≤3*(j-i):=by
 have:=cnt_oneP k ps
 split at this<;>omega
theorem all_few {ts:List Tok} {unit:Nat→PR Prd} (hel:Few3 unit):Few3 (allP ts unit):=by
 intro i r h
 unfold allP at h
 obtain⟨p,hp,h⟩:=ex_bind h
 cases h
 have:=list_few hel _ _ _ p hp
 simp[cntL] at this
 exact⟨this.1,one_few this.2.1 this.2.2⟩
theorem some_few {ts:List Tok} {unit:Nat→PR Prd} (hel:Few3 unit):Few3 (someP ts unit):=by
 intro i r h
 unfold someP at h
 obtain⟨p,hp,h⟩:=ex_bind h
 cases h
 have:=list_few (all_few hel) _ _ _ p hp
 simp[cntL] at this
 exact⟨this.1,one_few this.2.1 this.2.2⟩
theorem least_few {ts:List Tok} {sz:Nat} {unit:Nat→PR Prd} (hel:Few3 unit) (u:Nat):Few3 (leastP ts sz unit u):=by
 intro i r h
 unfold leastP at h
 obtain⟨j,hj,h⟩:=ex_bind h
 obtain⟨_,rfl,_⟩:=takeP_ok hj
 obtain⟨n,hn,h⟩:=ex_bind h
 obtain⟨_,rfl,_⟩:=numP_ok hn
 obtain⟨j,hj,h⟩:=ex_bind h
 obtain⟨_,rfl,_⟩:=takeP_ok hj
 obtain⟨j,hj,h⟩:=ex_bind h
 obtain⟨_,rfl,_⟩:=takeP_ok hj
 obtain⟨p,hp,h⟩:=ex_bind h
 have h1:=list_few (some_few hel) _ _ _ p hp
 simp[cntL] at h1
 obtain⟨j,hj,h⟩:=ex_bind h
 obtain⟨_,rfl,_⟩:=takeP_ok hj
 simp only at h
 split at h
 ·cases h
  simp[cntP]
  omega
 ·cases h
theorem ranges_few {ts:List Tok} {sz:Nat}:∀ (f i:Nat) (acc:List (Nat×Nat)) (r:List (Nat×Nat)×Nat),rangesP ts sz f i acc = .ok r→i<r.2∧acc.length<r.1.length∧r.1.length≤acc.length+(r.2-i)
 | 0,_,_,_,h=>by cases h
 | f+1,i,acc,r,h=>by
  rw[rangesP] at h
  obtain⟨m,hm,h⟩:=ex_bind h
  obtain⟨_,rfl,_⟩:=numP_ok hm
  obtain⟨n,hn,h⟩:=ex_bind h
  have hn2:i<n.2:=by
   split at hn
   ·obtain⟨_,rfl,_⟩:=numP_ok hn;simp;omega
   ·cases hn;simp
  split at h
  ·cases h
  ·split at h
   ·have:=ranges_few f _ _ r h
    rw[List.length_append] at this
    simp at this
    omega
   ·cases h
    rw[List.length_append]
    simp
    omega
theorem cntL_rng (a:SumV):∀ acc:List (Nat×Nat),cntL (acc.map (rngP a))=3*acc.length
 | []=>rfl
 | m::acc=>by
  rw[List.map_cons,cntL,cntL_rng a acc,List.length_cons]
  simp[rngP,cntP,cntL,mostP]
  omega
theorem member_few {ts:List Tok} {sz:Nat} (a:SumV) (u:Nat):Few3 (memberP ts sz a u):=by
 intro i r h
 unfold memberP at h
 obtain⟨j,hj,h⟩:=ex_bind h
 obtain⟨_,rfl,_⟩:=takeP_ok hj
 obtain⟨p,hp,h⟩:=ex_bind h
 have h1:=ranges_few _ _ _ p hp
 simp at h1
 obtain⟨j,hj,h⟩:=ex_bind h
 obtain⟨_,rfl,_⟩:=takeP_ok hj
 split at h
 ·cases h
  have h2:=cnt_oneP 2 (p.1.map (rngP a))
  rw[cntL_rng] at h2
  simp only at h1 ⊢
  have:cntP (oneP 2 (p.1.map (rngP a)))≤3*p.1.length+1:=by split at h2<;>omega
  omega
 ·cases h
theorem compare_few {ts:List Tok} {sz:Nat} (hts:∀ t∈ts,TokOk t) (a:SumV) (u:Nat):Few3 (compareP ts sz a u):=by
 intro i r h
 unfold compareP at h
 split at h
 ·cases h
 ·obtain⟨b,hb,h⟩:=ex_bind h
  have h1:=sumP_ok hts hb
  split at h
  ·cases h
   refine⟨by simp;omega,?_⟩
   have:∀ n,cntP (makeP n a b.1)≤3:=fun n=>by
    unfold makeP
    split
    ·simp[cntP,cntL,mostP]
    ·split
     ·simp[cntP,cntL,mostP]
     ·split
      ·simp[cntP,cntL,mostP]
      ·split
       ·simp[cntP,cntL,mostP]
       ·split
        ·simp[cntP,cntL,mostP]
        ·simp[cntP,cntL,mostP]
   refine Nat.le_trans (this _) ?_
   simp
   omega
  ·cases h
theorem unit_few {ts:List Tok} {sz:Nat} (hts:∀ t∈ts,TokOk t):∀ f,Few3 (unitP ts sz f)
 | 0=>fun i r h=>by cases h
 | f+1=>by
  intro i r h
  have ih:=unit_few (sz:=sz) hts f
  unfold unitP at h
  split at h
  ·obtain⟨p,hp,h⟩:=ex_bind h
   have:=ih _ _ hp
   cases h
   have h2:=cnt_neg p.1
   exact⟨by simp;omega,by simp only;omega⟩
  ·split at h
   ·obtain⟨p,hp,h⟩:=ex_bind h
    have h1:=some_few ih _ _ hp
    obtain⟨j,hj,h⟩:=ex_bind h
    obtain⟨_,rfl,h2⟩:=takeP_ok hj
    cases h
    exact⟨by simp;omega,by simp only;omega⟩
   ·split at h
    ·have:=least_few ih i _ r h
     omega
    ·obtain⟨a,ha,h⟩:=ex_bind h
     have h1:=sumP_ok hts ha
     split at h
     ·have:=member_few a.1 i _ r h
      omega
     ·have:=compare_few hts a.1 i _ r h
      omega
end
section
def ltL:List Nat→List Nat→Bool
 | _,[]=>false
 | [],_::_=>true
 | x::xs,y::ys=>decide (x<y)||(x==y&&ltL xs ys)
theorem ltL_irrefl:∀ a,ltL a a=false
 | []=>rfl
 | x::xs=>by simp[ltL,ltL_irrefl xs]
theorem ltL_trans:∀ a b c,ltL a b=true→ltL b c=true→ltL a c=true
 | [],[],_,h,_=>by simp[ltL] at h
 | [],_::_,[],_,h=>by simp[ltL] at h
 | [],_::_,_::_,_,_=>rfl
 | _::_,[],_,h,_=>by simp[ltL] at h
 | _::_,_::_,[],_,h=>by simp[ltL] at h
 | x::xs,y::ys,z::zs,h1,h2=>by
  simp only[ltL,Bool.or_eq_true,decide_eq_true_eq,Bool.and_eq_true,beq_iff_eq] at *
  rcases h1 with h1 | ⟨rfl,h1⟩
  ·rcases h2 with h2 | ⟨rfl,h2⟩
   ·left;omega
   ·left;exact h1
  ·rcases h2 with h2 | ⟨rfl,h2⟩
   ·left;exact h2
   ·right;exact⟨rfl,ltL_trans xs ys zs h1 h2⟩
theorem ltL_total:∀ a b,ltL a b=true∨a=b∨ltL b a=true
 | [],[]=>.inr (.inl rfl)
 | [],_::_=>.inl rfl
 | _::_,[]=>.inr (.inr rfl)
 | x::xs,y::ys=>by
  simp only[ltL,Bool.or_eq_true,decide_eq_true_eq,Bool.and_eq_true,beq_iff_eq]
  rcases Nat.lt_trichotomy x y with h | rfl | h
  ·left;left;exact h
  ·rcases ltL_total xs ys with h | rfl | h
   ·left;right;exact⟨rfl,h⟩
   ·right;left;rfl
   ·right;right;right;exact⟨rfl,h⟩
  ·right;right;left;exact h
def cmpL (a b:List Nat):Int:=if ltL a b=true then -1 else if ltL b a=true then 1 else 0
theorem cmpL_zero (a b:List Nat):cmpL a b=0↔a=b:=by
 unfold cmpL
 rcases ltL_total a b with h | rfl | h
 ·rw[if_pos h]
  constructor
  ·intro h;cases h
  ·rintro rfl;rw[ltL_irrefl] at h;cases h
 ·rw[ltL_irrefl];simp
 ·by_cases h2:ltL a b=true
  ·rw[if_pos h2]
   constructor
   ·intro h;cases h
   ·rintro rfl;rw[ltL_irrefl] at h;cases h
  ·rw[if_neg h2,if_pos h]
   constructor
   ·intro h;cases h
   ·rintro rfl;rw[ltL_irrefl] at h;cases h
theorem cmpL_lt (a b:List Nat):cmpL a b<0↔ltL a b=true:=by
 unfold cmpL
 by_cases h:ltL a b=true
 ·rw[if_pos h];exact⟨fun _=>h,fun _=>by decide⟩
 ·rw[if_neg h]
  constructor
  ·intro h2;split at h2<;>exact absurd h2 (by decide)
  ·intro h2;exact absurd h2 h
structure Ky where
 l:List Nat
 r:List Nat
 c:Int
deriving DecidableEq
instance:Inhabited Ky:=⟨⟨[],[],0⟩⟩
def or3 (a b c:Int):Int:=if a≠0 then a else if b≠0 then b else c
def cmpI (a b:Int):Int:=if a<b then -1 else if a=b then 0 else 1
def cmpK (a b:Ky):Int:=or3 (cmpL a.l b.l) (cmpL a.r b.r) (cmpI a.c b.c)
def ltK (a b:Ky):Bool:=decide (cmpK a b<0)
theorem ltK_iff (a b:Ky):ltK a b=true↔ltL a.l b.l=true∨(a.l=b.l∧(ltL a.r b.r=true∨(a.r=b.r∧a.c<b.c))):=by
 unfold ltK cmpK or3
 rw[decide_eq_true_eq]
 by_cases h1:a.l=b.l
 ·have z1:=(cmpL_zero a.l b.l).2 h1
  rw[if_neg (by simpa using z1)]
  have i1:ltL a.l b.l≠true:=by rw[h1,ltL_irrefl];simp
  by_cases h2:a.r=b.r
  ·have z2:=(cmpL_zero a.r b.r).2 h2
   have i2:ltL a.r b.r≠true:=by rw[h2,ltL_irrefl];simp
   rw[if_neg (by simpa using z2)]
   unfold cmpI
   constructor
   ·intro h
    right;refine⟨h1,.inr ⟨h2,?_⟩⟩
    by_cases h3:a.c<b.c
    ·exact h3
    ·rw[if_neg h3] at h;split at h<;>exact absurd h (by decide)
   ·rintro (h | ⟨_,h | ⟨_,h⟩⟩)
    ·exact absurd h i1
    ·exact absurd h i2
    ·rw[if_pos h];decide
  ·have z2:cmpL a.r b.r≠0:=fun h=>h2 ((cmpL_zero _ _).1 h)
   rw[if_pos z2,cmpL_lt]
   constructor
   ·intro h;exact .inr ⟨h1,.inl h⟩
   ·rintro (h | ⟨_,h | ⟨h,_⟩⟩)
    ·exact absurd h i1
    ·exact h
    ·exact absurd h h2
 ·have z1:cmpL a.l b.l≠0:=fun h=>h1 ((cmpL_zero _ _).1 h)
  rw[if_pos z1,cmpL_lt]
  constructor
  ·intro h;exact .inl h
  ·rintro (h | ⟨h,_⟩)
   ·exact h
   ·exact absurd h h1
theorem ltK_irrefl (a:Ky):ltK a a=false:=by
 rw[Bool.eq_false_iff,Ne,ltK_iff]
 simp[ltL_irrefl]
theorem ltK_trans (a b c:Ky) (h1:ltK a b=true) (h2:ltK b c=true):ltK a c=true:=by
 rw[ltK_iff] at *
 rcases h1 with h1 | ⟨e1,h1⟩
 ·rcases h2 with h2 | ⟨e2,h2⟩
  ·exact .inl (ltL_trans _ _ _ h1 h2)
  ·rw[← e2];exact .inl h1
 ·rcases h2 with h2 | ⟨e2,h2⟩
  ·rw[e1];exact .inl h2
  ·refine .inr ⟨e1.trans e2,?_⟩
   rcases h1 with h1 | ⟨f1,h1⟩
   ·rcases h2 with h2 | ⟨f2,h2⟩
    ·exact .inl (ltL_trans _ _ _ h1 h2)
    ·rw[← f2];exact .inl h1
   ·rcases h2 with h2 | ⟨f2,h2⟩
    ·rw[f1];exact .inl h2
    ·exact .inr ⟨f1.trans f2,by omega⟩
theorem ltK_total (a b:Ky):ltK a b=true∨a=b∨ltK b a=true:=by
 rw[ltK_iff,ltK_iff]
 rcases ltL_total a.l b.l with h | h | h
 ·exact .inl (.inl h)
 ·rcases ltL_total a.r b.r with h2 | h2 | h2
  ·exact .inl (.inr ⟨h,.inl h2⟩)
  ·rcases Int.lt_trichotomy a.c b.c with h3 | h3 | h3
   ·exact .inl (.inr ⟨h,.inr ⟨h2,h3⟩⟩)
   ·right;left;cases a;cases b;simp_all
   ·exact .inr (.inr (.inr ⟨h.symm,.inr ⟨h2.symm,h3⟩⟩))
  ·exact .inr (.inr (.inr ⟨h.symm,.inl h2⟩))
 ·exact .inr (.inr (.inl h))
theorem ltK_ntrans (a b c:Ky) (h1:ltK a b=false) (h2:ltK b c=false):ltK a c=false:=by
 rw[Bool.eq_false_iff] at *
 intro h
 rcases ltK_total a b with h3 | rfl | h3
 ·exact h1 h3
 ·exact h2 h
 ·exact h2 (ltK_trans _ _ _ h3 h)
def addK:List Ky→Ky→List Ky
 | [],x=>[x]
 | y::ys,x=>if x=y then y::ys else if ltK x y=true then x::y::ys else y::addK ys x
def AscK (l:List Ky):Prop:=l.Pairwise (fun a b=>ltK a b=true)
theorem mem_addK (x z:Ky):∀ l,z∈addK l x↔z=x∨z∈l
 | []=>by simp[addK]
 | y::ys=>by
  unfold addK
  by_cases h:x=y
  ·rw[if_pos h];subst h;simp
  ·rw[if_neg h]
   by_cases h2:ltK x y=true
   ·rw[if_pos h2];simp
   ·rw[if_neg h2,List.mem_cons,mem_addK x z ys,List.mem_cons]
    constructor
    ·rintro (h | h | h)<;>simp[h]
    ·rintro (h | h | h)<;>simp[h]
theorem asc_addK (x:Ky):∀ l,AscK l→AscK (addK l x)
 | [],_=>by simp[addK,AscK]
 | y::ys,h=>by
  unfold addK
  have h0:=List.pairwise_cons.1 h
  by_cases h1:x=y
  ·rw[if_pos h1];exact h
  ·rw[if_neg h1]
   by_cases h2:ltK x y=true
   ·rw[if_pos h2]
    exact List.pairwise_cons.2 ⟨fun z hz=>by
     rcases List.mem_cons.1 hz with rfl | hz
     ·exact h2
     ·exact ltK_trans _ _ _ h2 (h0.1 z hz),h⟩
   ·rw[if_neg h2]
    refine List.pairwise_cons.2 ⟨fun z hz=>?_,asc_addK x ys h0.2⟩
    rcases (mem_addK x z ys).1 hz with rfl | hz
    ·rcases ltK_total z y with h3 | h3 | h3
     ·exact absurd h3 h2
     ·exact absurd h3 h1
     ·exact h3
    ·exact h0.1 z hz
theorem asc_eq {l l':List Ky} (h:AscK l) (h':AscK l') (hm:∀ x,x∈l↔x∈l'):l=l':=by
 have nd:∀ {m:List Ky},AscK m→m.Nodup:=fun hm=>hm.imp (fun {a b} hab e=>by rw[e,ltK_irrefl] at hab;cases hab)
 have hp:l.Perm l':=(List.perm_ext_iff_of_nodup (nd h) (nd h')).2 hm
 refine List.Perm.eq_of_pairwise (le:=fun a b=>ltK a b=true) (fun a b _ _ h1 h2=>?_) h h' hp
 have:=ltK_trans _ _ _ h1 h2
 rw[ltK_irrefl] at this
 cases this
def keyP (p:Prd):Ky:=⟨p.l,p.r,p.c⟩
mutual
def keysP:Prd→List Ky
 | .mk k l r c ks=>(if k=0 then [⟨l,r,c⟩] else [])++keysL ks
def keysL:List Prd→List Ky
 | []=>[]
 | p::ps=>keysP p++keysL ps
end
theorem keysL_append (a b:List Prd):keysL (a++b)=keysL a++keysL b:=by
 induction a with
 | nil=>rfl
 | cons p ps ih=>simp only[List.cons_append,keysL,ih,List.append_assoc]
theorem keysL_mem (x:Ky):∀ ks,x∈keysL ks↔∃ q∈ks,x∈keysP q
 | []=>by simp[keysL]
 | p::ps=>by simp[keysL,keysL_mem x ps]
mutual
theorem keysP_len:∀ p:Prd,(keysP p).length≤cntP p
 | .mk k l r c ks=>by
  unfold keysP cntP
  have:=keysL_len ks
  rw[List.length_append]
  split<;>simp<;>omega
theorem keysL_len:∀ ks:List Prd,(keysL ks).length≤cntL ks
 | []=>by simp[keysL,cntL]
 | p::ps=>by
  have:=keysP_len p
  have:=keysL_len ps
  unfold keysL cntL
  rw[List.length_append]
  omega
end
def atomsP (p:Prd):List Ky:=(keysP p).foldl addK []
theorem foldK_mem (x:Ky):∀ (l acc:List Ky),x∈l.foldl addK acc↔x∈acc∨x∈l
 | [],acc=>by simp
 | y::ys,acc=>by
  rw[List.foldl_cons,foldK_mem x ys,mem_addK,List.mem_cons]
  constructor
  ·rintro ((h | h) | h)<;>simp[h]
  ·rintro (h | h | h)<;>simp[h]
theorem foldK_asc:∀ (l acc:List Ky),AscK acc→AscK (l.foldl addK acc)
 | [],acc,h=>h
 | y::ys,acc,h=>foldK_asc ys _ (asc_addK y acc h)
theorem atomsP_mem (p:Prd) (x:Ky):x∈atomsP p↔x∈keysP p:=by unfold atomsP;rw[foldK_mem];simp
theorem atomsP_asc (p:Prd):AscK (atomsP p):=foldK_asc _ _ .nil
end
section
structure Con where
 l:Nat
 r:Nat
 c:Int
deriving DecidableEq
instance:Inhabited Con:=⟨⟨0,0,0⟩⟩
def MeetC (u:Nat→Int) (c:Con):Prop:=u c.l-u c.r≤c.c
def gv (v:List Int) (i:Nat):Int:=v.getD i 0
theorem gv_set (v:List Int) (i j:Nat) (x:Int) (h:i<v.length):gv (v.set i x) j=if i=j then x else gv v j:=by
 unfold gv
 rw[List.getD_eq_getElem?_getD,List.getD_eq_getElem?_getD,List.getElem?_set]
 by_cases e:i=j
 ·rw[if_pos e,if_pos e,if_pos h];rfl
 ·rw[if_neg e,if_neg e]
theorem gv_rep (n i:Nat):gv (List.replicate n 0) i=0:=by
 unfold gv
 rw[List.getD_eq_getElem?_getD,List.getElem?_replicate]
 by_cases h:i<n
 ·rw[if_pos h];rfl
 ·rw[if_neg h];rfl
def passL:List Con→List Int→Bool→Option (List Int×Bool)
 | [],v,s=>some (v,s)
 | c::cs,v,s=>if gv v c.r<gv v c.l-c.c then (if c.r=0 then none else passL cs (v.set c.r (gv v c.l-c.c)) false) else passL cs v s
def leastF (cs:List Con):Nat→List Int→Option (List Int)
 | 0,_=>none
 | f+1,v=>match passL cs v true with
  | none=>none
  | some (v',s)=>if s=true then some v' else leastF cs f v'
def leastL (n:Nat) (cs:List Con):Option (List Int):=leastF cs (n+2) (List.replicate (n+1) 0)
def InC (N:Nat) (cs:List Con):Prop:=∀ c∈cs,c.l<N∧c.r<N
theorem InC.cons {N:Nat} {c:Con} {cs:List Con} (h:InC N (c::cs)):(c.l<N∧c.r<N)∧InC N cs:=⟨h c (List.mem_cons_self ..),fun x hx=>h x (List.mem_cons_of_mem _ hx)⟩
theorem pass_some:∀ (cs:List Con) (v:List Int) (s:Bool) (v':List Int) (s':Bool),InC v.length cs→passL cs v s=some (v',s') →
  v'.length=v.length∧(∀ i,gv v i≤gv v' i)∧gv v' 0=gv v 0∧(s'=true→s=true∧v'=v∧∀ c∈cs,MeetC (gv v) c)∧(∀ c∈cs,gv v c.l-c.c≤gv v' c.r)∧(s=true→s'=false→∃ i,i<v.length∧gv v i<gv v' i)
 | [],v,s,v',s',_,h=>by
  unfold passL at h
  cases h
  refine⟨rfl,fun i=>Int.le_refl _,rfl,fun h=>⟨h,rfl,fun c hc=>(by cases hc)⟩,fun c hc=>(by cases hc),fun h1 h2=>?_⟩
  rw[h1] at h2;cases h2
 | c::cs,v,s,v',s',hI,h=>by
  unfold passL at h
  obtain⟨⟨hl,hr⟩,hI'⟩:=hI.cons
  by_cases hlt:gv v c.r<gv v c.l-c.c
  ·rw[if_pos hlt] at h
   by_cases h0:c.r=0
   ·rw[if_pos h0] at h;cases h
   ·rw[if_neg h0] at h
    have hlen:(v.set c.r (gv v c.l-c.c)).length=v.length:=List.length_set
    obtain⟨a1,a2,a3,a4,a5,a6⟩:=pass_some cs _ false v' s' (by rw[hlen];exact hI') h
    have hup:∀ i,gv v i≤gv (v.set c.r (gv v c.l-c.c)) i:=fun i=>by
     rw[gv_set _ _ _ _ hr]
     by_cases e:c.r=i
     ·rw[if_pos e,← e];omega
     ·rw[if_neg e];exact Int.le_refl _
    have hnew:gv v c.l-c.c≤gv v' c.r:=by
     have:=a2 c.r
     rw[gv_set _ _ _ _ hr,if_pos rfl] at this
     exact this
    refine⟨a1.trans hlen,fun i=>Int.le_trans (hup i) (a2 i),?_,fun hs=>absurd (a4 hs).1 (by simp),fun x hx=>?_,fun _ _=>⟨c.r,hr,by omega⟩⟩
    ·rw[a3,gv_set _ _ _ _ hr,if_neg h0]
    ·rcases List.mem_cons.1 hx with rfl | hx
     ·exact hnew
     ·have h1:=a5 x hx
      have h2:=hup x.l
      omega
  ·rw[if_neg hlt] at h
   obtain⟨a1,a2,a3,a4,a5,a6⟩:=pass_some cs v s v' s' hI' h
   refine⟨a1,a2,a3,fun hs=>?_,fun x hx=>?_,a6⟩
   ·obtain⟨b1,b2,b3⟩:=a4 hs
    refine⟨b1,b2,fun x hx=>?_⟩
    rcases List.mem_cons.1 hx with rfl | hx
    ·unfold MeetC;omega
    ·exact b3 x hx
   ·rcases List.mem_cons.1 hx with rfl | hx
    ·have:=a2 x.r;omega
    ·exact a5 x hx
theorem pass_le (u:Nat→Int):∀ (cs:List Con) (v:List Int) (s:Bool),InC v.length cs→(∀ c∈cs,MeetC u c)→(∀ i,i<v.length→gv v i≤u i)→gv v 0=u 0 →
  ∃ v' s',passL cs v s=some (v',s')∧(∀ i,i<v.length→gv v' i≤u i)
 | [],v,s,_,_,hv,_=>⟨v,s,rfl,hv⟩
 | c::cs,v,s,hI,hu,hv,h0=>by
  obtain⟨⟨hl,hr⟩,hI'⟩:=hI.cons
  have hc:=hu c (List.mem_cons_self ..)
  unfold MeetC at hc
  unfold passL
  by_cases hlt:gv v c.r<gv v c.l-c.c
  ·rw[if_pos hlt]
   by_cases hz:c.r=0
   ·have h1:=hv c.l hl
    rw[hz] at hlt hc
    omega
   ·rw[if_neg hz]
    have hlen:(v.set c.r (gv v c.l-c.c)).length=v.length:=List.length_set
    obtain⟨v',s',h1,h2⟩:=pass_le u cs (v.set c.r (gv v c.l-c.c)) false (by rw[hlen];exact hI') (fun x hx=>hu x (List.mem_cons_of_mem _ hx)) (fun i hi=>by
     rw[hlen] at hi
     rw[gv_set _ _ _ _ hr]
     by_cases e:c.r=i
     ·rw[if_pos e,← e]
      have h1:=hv c.l hl
      omega
     ·rw[if_neg e];exact hv i hi) (by rw[gv_set _ _ _ _ hr,if_neg hz];exact h0)
    exact⟨v',s',h1,by rw[hlen] at h2;exact h2⟩
  ·rw[if_neg hlt]
   exact pass_le u cs v s hI' (fun x hx=>hu x (List.mem_cons_of_mem _ hx)) hv h0
theorem least_nat (P:Nat→Prop):(k:Nat)→P k→∃ m,P m∧∀ j,j<m→¬ P j:=by
 intro k
 induction k using Nat.strongRecOn with
 | _ k ih =>
  intro hk
  by_cases h:∃ j,j<k∧P j
  ·obtain⟨j,hj,hp⟩:=h
   exact ih j hj hp
  ·exact⟨k,hk,fun j hj hp=>h ⟨j,hj,hp⟩⟩
structure SolC (N:Nat) (cs:List Con) (u:Nat→Int):Prop where
 zero:u 0=0
 pos:∀ i,i<N→0≤u i
 meet:∀ c∈cs,MeetC u c
theorem leastF_some (cs:List Con):∀ (f:Nat) (v v':List Int),InC v.length cs→0<v.length→leastF cs f v=some v'→v'.length=v.length∧gv v' 0=gv v 0∧(∀ i,gv v i≤gv v' i)∧(∀ c∈cs,MeetC (gv v') c)∧∀ u,(∀ c∈cs,MeetC u c)→u 0=gv v 0→(∀ i,i<v.length→gv v i≤u i)→∀ i,i<v.length→gv v' i≤u i
 | 0,v,v',_,_,h=>by cases h
 | f+1,v,v',hI,hN,h=>by
  unfold leastF at h
  cases hp:passL cs v true with
  | none=>rw[hp] at h;cases h
  | some q =>
   obtain⟨v1,s1⟩:=q
   rw[hp] at h
   simp only at h
   obtain⟨a1,a2,a3,a4,a5,a6⟩:=pass_some cs v true v1 s1 hI hp
   have hpl:∀ u,(∀ c∈cs,MeetC u c)→u 0=gv v 0→(∀ i,i<v.length→gv v i≤u i)→∀ i,i<v.length→gv v1 i≤u i:=fun u h1 h2 h3=>by
    obtain⟨v2,s2,e1,e2⟩:=pass_le u cs v true hI h1 h3 h2.symm
    rw[hp] at e1
    cases e1
    exact e2
   cases s1 with
   | true =>
    rw[if_pos rfl] at h
    cases h
    obtain⟨-,b2,b3⟩:=a4 rfl
    exact⟨a1,a3,a2,by rw[b2];exact b3,hpl⟩
   | false =>
    rw[if_neg (by simp)] at h
    obtain⟨c1,c2,c3,c4,c5⟩:=leastF_some cs f v1 v' (by rw[a1];exact hI) (by omega) h
    refine⟨c1.trans a1,c2.trans a3,fun i=>Int.le_trans (a2 i) (c3 i),c4,fun u h1 h2 h3 i hi=>?_⟩
    exact c5 u h1 (h2.trans a3.symm) (fun j hj=>hpl u h1 h2 h3 j (by omega)) i (by omega)
theorem leastL_some {n:Nat} {cs:List Con} {v:List Int} (hI:InC (n+1) cs) (h:leastL n cs=some v):v.length=n+1∧SolC (n+1) cs (gv v)∧∀ u,SolC (n+1) cs u→∀ i,i<n+1→gv v i≤u i:=by
 unfold leastL at h
 have hl:(List.replicate (n+1) (0:Int)).length=n+1:=List.length_replicate
 obtain⟨a1,a2,a3,a4,a5⟩:=leastF_some cs _ _ _ (by rw[hl];exact hI) (by rw[hl];omega) h
 rw[hl] at a1 a5
 rw[gv_rep] at a2 a5
 refine⟨a1,⟨a2,fun i hi=>by have:=a3 i;rw[gv_rep] at this;exact this,a4⟩,fun u hu=>a5 u hu.meet hu.zero (fun i hi=>by rw[gv_rep];exact hu.pos i hi)⟩
end
section
def passC:List Con→Nat→List Int→List Int→Int→List Int×List Int×Int
 | [],_,d,l,a=>(d,l,a)
 | c::cs,i,d,l,a=>if gv d c.r+c.c<gv d c.l then passC cs (i+1) (d.set c.l (gv d c.r+c.c)) (l.set c.l (i:Int)) (c.l:Int) else passC cs (i+1) d l a
def roundsC (cs:List Con):Nat→List Int→List Int→Int→Option (List Int×List Int×Int)
 | 0,d,l,a=>some (d,l,a)
 | f+1,d,l,_=>if (passC cs 0 d l (-1)).2.2<0 then none else roundsC cs f (passC cs 0 d l (-1)).1 (passC cs 0 d l (-1)).2.1 (passC cs 0 d l (-1)).2.2
def edgeR (cs:List Con) (i:Int):Nat:=(cs.getD i.toNat default).r
def nxC (cs:List Con) (l:List Int) (x:Nat):Nat:=edgeR cs (gv l x)
def itC (cs:List Con) (l:List Int) (a:Nat):Nat→Nat
 | 0=>a
 | k+1=>nxC cs l (itC cs l a k)
structure InvC (CS:List Con) (N:Nat) (d l:List Int) (T:Nat→Nat) (t:Nat):Prop where
 ld:d.length=N
 ll:l.length=N
 clock:∀ x,T x≤t
 at':∀ x,x<N→(gv l x = -1∧gv d x=0)∨(∃ (i:Nat) (c:Con),CS[i]?=some c∧gv l x=(i:Int)∧c.l=x∧(gv d c.r+c.c<gv d x∨(gv d c.r+c.c=gv d x∧T c.r<T x)))
theorem InvC.relax {CS:List Con} {N:Nat} {d l:List Int} {T:Nat→Nat} {t i:Nat} {c:Con} (h:InvC CS N d l T t) (hI:InC N CS) (hc:CS[i]?=some c) (hlt:gv d c.r+c.c<gv d c.l) :
  InvC CS N (d.set c.l (gv d c.r+c.c)) (l.set c.l (i:Int)) (fun y=>if y=c.l then t+1 else T y) (t+1):=by
 obtain⟨hl,hr⟩:=hI c (List.mem_of_getElem? hc)
 refine⟨by rw[List.length_set];exact h.ld,by rw[List.length_set];exact h.ll,fun x=>?_,fun x hx=>?_⟩
 ·by_cases e:x=c.l
  ·rw[if_pos e];exact Nat.le_refl _
  ·rw[if_neg e];have:=h.clock x;omega
 ·have g1:∀ j,gv (d.set c.l (gv d c.r+c.c)) j=if c.l=j then gv d c.r+c.c else gv d j:=fun j=>gv_set _ _ _ _ (by rw[h.ld];exact hl)
  have g2:∀ j,gv (l.set c.l (i:Int)) j=if c.l=j then (i:Int) else gv l j:=fun j=>gv_set _ _ _ _ (by rw[h.ll];exact hl)
  rw[g1,g2]
  by_cases e:c.l=x
  ·rw[if_pos e,if_pos e]
   refine .inr ⟨i,c,hc,rfl,e,?_⟩
   rw[g1]
   by_cases e2:c.l=c.r
   ·rw[if_pos e2,← e2]
    left
    rw[← e2] at hlt
    omega
   ·rw[if_neg e2]
    right
    refine⟨rfl,?_⟩
    rw[if_neg (fun e3=>e2 e3.symm),if_pos e.symm]
    have:=h.clock c.r
    omega
  ·rw[if_neg e,if_neg e]
   rcases h.at' x hx with h1 | ⟨j,c',h1,h2,h3,h4⟩
   ·exact .inl h1
   ·refine .inr ⟨j,c',h1,h2,h3,?_⟩
    rw[g1]
    by_cases e2:c.l=c'.r
    ·rw[if_pos e2]
     left
     rcases h4 with h4 | ⟨h4,-⟩
     ·rw[← e2] at h4;omega
     ·rw[← e2] at h4;omega
    ·rw[if_neg e2,if_neg (fun e3=>e2 e3.symm),if_neg (fun e3=>e e3.symm)]
     exact h4
theorem passC_law (CS:List Con) (N:Nat) (hI:InC N CS):∀ (cs:List Con) (i:Nat) (d l:List Int) (a:Int) (T:Nat→Nat) (t:Nat),CS.drop i=cs→InvC CS N d l T t →
  (∃ T' t',InvC CS N (passC cs i d l a).1 (passC cs i d l a).2.1 T' t')∧(∀ j,gv (passC cs i d l a).1 j≤gv d j)∧(∀ c∈cs,gv (passC cs i d l a).1 c.l≤gv d c.r+c.c) ∧
  (((passC cs i d l a).2.2=a∧(passC cs i d l a).1=d)∨∃ x:Nat,x<N∧(passC cs i d l a).2.2=(x:Int)∧gv (passC cs i d l a).1 x<gv d x)
 | [],i,d,l,a,T,t,_,h=>⟨⟨T,t,h⟩,fun j=>Int.le_refl _,fun c hc=>(by cases hc),.inl ⟨rfl,rfl⟩⟩
 | c::cs,i,d,l,a,T,t,hd,h=>by
  have hc:CS[i]?=some c:=by
   have:=congrArg (fun x=>x[0]?) hd
   simpa using this
  have hd':CS.drop (i+1)=cs:=by
   have:=congrArg List.tail hd
   simpa using this
  unfold passC
  obtain⟨hl,hr⟩:=hI c (List.mem_of_getElem? hc)
  by_cases hlt:gv d c.r+c.c<gv d c.l
  ·rw[if_pos hlt]
   have g1:∀ j,gv (d.set c.l (gv d c.r+c.c)) j=if c.l=j then gv d c.r+c.c else gv d j:=fun j=>gv_set _ _ _ _ (by rw[h.ld];exact hl)
   have hdn:∀ j,gv (d.set c.l (gv d c.r+c.c)) j≤gv d j:=fun j=>by
    rw[g1]
    by_cases e:c.l=j
    ·rw[if_pos e,← e];omega
    ·rw[if_neg e];exact Int.le_refl _
   obtain⟨b1,b2,b3,b4⟩:=passC_law CS N hI cs (i+1) _ _ (c.l:Int) _ _ hd' (h.relax hI hc hlt)
   refine⟨b1,fun j=>Int.le_trans (b2 j) (hdn j),fun x hx=>?_,.inr ?_⟩
   ·rcases List.mem_cons.1 hx with rfl | hx
    ·have:=b2 x.l
     rw[g1,if_pos rfl] at this
     exact this
    ·have h1:=b3 x hx
     have h2:=hdn x.r
     omega
   ·rcases b4 with ⟨e1,e2⟩ | ⟨x,h1,h2,h3⟩
    ·refine⟨c.l,hl,e1,?_⟩
     rw[e2,g1,if_pos rfl]
     exact hlt
    ·exact⟨x,h1,h2,by have:=hdn x;omega⟩
  ·rw[if_neg hlt]
   obtain⟨b1,b2,b3,b4⟩:=passC_law CS N hI cs (i+1) d l a T t hd' h
   refine⟨b1,b2,fun x hx=>?_,b4⟩
   rcases List.mem_cons.1 hx with rfl | hx
   ·have:=b2 x.l;omega
   ·exact b3 x hx
inductive Wk (CS:List Con):Nat→Nat→Int→Prop
 | start (k x:Nat):Wk CS k x 0
 | step (k:Nat) (w:Int) (c:Con):c∈CS→Wk CS k c.r w→Wk CS (k+1) c.l (w+c.c)
theorem Wk.more {CS:List Con} {k x:Nat} {w:Int} (h:Wk CS k x w):Wk CS (k+1) x w:=by
 induction h with
 | start k x=>exact .start _ _
 | step k w c hc _ ih=>exact .step _ _ c hc ih
theorem Wk.mono {CS:List Con} {k m x:Nat} {w:Int} (h:Wk CS k x w) (hm:k≤m):Wk CS m x w:=by
 obtain⟨e,rfl⟩:=Nat.le.dest hm
 clear hm
 induction e with
 | zero=>exact h
 | succ e ih=>exact ih.more
def ShortC (CS:List Con) (k:Nat) (d:List Int):Prop:=∀ x w,Wk CS k x w→gv d x≤w
theorem short_pass {CS:List Con} {k:Nat} {d d':List Int} (h:ShortC CS k d) (h1:∀ j,gv d' j≤gv d j) (h2:∀ c∈CS,gv d' c.l≤gv d c.r+c.c):ShortC CS (k+1) d':=by
 intro x w hw
 cases hw with
 | start k x=>exact Int.le_trans (h1 x) (h x 0 (.start _ _))
 | step k w c hc hk =>
  have:=h2 c hc
  have:=h c.r w hk
  omega
theorem root_walk {CS:List Con} {N:Nat} {d l:List Int} {T:Nat→Nat} {t:Nat} (hI:InC N CS) (h:InvC CS N d l T t):∀ (m x:Nat),x<N→gv l (itC CS l x m) = -1→(∀ j,j<m→gv l (itC CS l x j) ≠ -1)→∃ w,Wk CS m x w∧w≤gv d x
 | 0,x,hx,hr,_=>⟨0,.start _ _,by
  rcases h.at' x hx with ⟨-,h2⟩ | ⟨i,c,-,h2,-,-⟩
  ·omega
  ·have h3:gv l x = -1:=hr
   omega⟩
 | m+1,x,hx,hr,hno=>by
  have hx0:gv l x ≠ -1:=hno 0 (by omega)
  rcases h.at' x hx with ⟨h1,-⟩ | ⟨i,c,h1,h2,h3,h4⟩
  ·exact absurd h1 hx0
  ·have hn:nxC CS l x=c.r:=by
    unfold nxC edgeR
    rw[h2,Int.toNat_natCast,List.getD_eq_getElem?_getD,h1];rfl
   have hit:∀ j,itC CS l x (j+1)=itC CS l c.r j:=fun j=>by
    induction j with
    | zero=>exact hn
    | succ j ih=>show nxC CS l (itC CS l x (j+1))=nxC CS l (itC CS l c.r j);rw[ih]
   have hcm:=List.mem_of_getElem? h1
   obtain⟨w,hw,hwd⟩:=root_walk hI h m c.r (hI c hcm).2 (by rw[← hit];exact hr) (fun j hj=>by rw[← hit];exact hno (j+1) (by omega))
   refine⟨w+c.c,?_,?_⟩
   ·have:=Wk.step m w c hcm hw
    rw[h3] at this
    exact this
   ·rcases h4 with h4 | ⟨h4,-⟩<;>omega
theorem nodup_lenN {α:Type} [DecidableEq α]:∀ (l m:List α),l.Nodup→(∀ x∈l,x∈m)→l.length≤m.length
 | [],m,_,_=>Nat.zero_le _
 | x::xs,m,hn,h=>by
  have h0:=List.nodup_cons.1 hn
  have hx:=h x (List.mem_cons_self ..)
  have:=nodup_lenN xs (m.erase x) h0.2 (fun y hy=>(List.mem_erase_of_ne (fun e=>by subst e;exact h0.1 hy)).2 (h y (List.mem_cons_of_mem _ hy)))
  rw[List.length_erase_of_mem hx] at this
  have hp:=List.length_pos_of_mem hx
  simp only[List.length_cons]
  omega
theorem pigeon (N:Nat) (f:Nat→Nat) (h:∀ k,k≤N→f k<N):∃ i j,i<j∧j≤N∧f i=f j:=by
 apply Classical.byContradiction
 intro hno
 have hnd:((List.range (N+1)).map f).Nodup:=by
  rw[List.nodup_iff_pairwise_ne,List.pairwise_map]
  refine List.pairwise_iff_getElem.2 (fun i j hi hj hij e=>hno ⟨i,j,hij,?_,?_⟩)
  ·simp at hj;omega
  ·simpa using e
 have:=nodup_lenN _ (List.range N) hnd (fun x hx=>by
  obtain⟨k,hk,rfl⟩:=List.mem_map.1 hx
  have:=List.mem_range.1 hk
  exact List.mem_range.2 (h k (by omega)))
 simp at this
 omega
theorem it_add (cs:List Con) (l:List Int) (a i:Nat):∀ j,itC cs l a (i+j)=itC cs l (itC cs l a i) j
 | 0=>rfl
 | j+1=>by show nxC cs l (itC cs l a (i+j))=nxC cs l _;rw[it_add cs l a i j]
def wtC (cs:List Con) (l:List Int) (a:Nat):Nat→Int
 | 0=>0
 | k+1=>wtC cs l a k+(cs.getD (gv l (itC cs l a k)).toNat default).c
def EdgeAt (CS:List Con) (l:List Int) (x:Nat):Prop:=∃ (i:Nat) (c:Con),CS[i]?=some c∧gv l x=(i:Int)∧c.l=x
theorem sum_chain {CS:List Con} {N:Nat} {d l:List Int} {T:Nat→Nat} {t:Nat} (hI:InC N CS) (h:InvC CS N d l T t) (a:Nat) (ha:a<N):∀ k,(∀ j,j<k→gv l (itC CS l a j) ≠ -1)→itC CS l a k<N ∧
  ((gv d (itC CS l a k)+wtC CS l a k<gv d a)∨(gv d (itC CS l a k)+wtC CS l a k=gv d a∧(k=0∨T (itC CS l a k)<T a)))
 | 0,_=>⟨ha,.inr ⟨by show gv d a+0=_;omega,.inl rfl⟩⟩
 | k+1,hno=>by
  obtain⟨h1,h2⟩:=sum_chain hI h a ha k (fun j hj=>hno j (by omega))
  have hk:=hno k (by omega)
  rcases h.at' _ h1 with ⟨e,-⟩ | ⟨i,c,e1,e2,e3,e4⟩
  ·exact absurd e hk
  ·have hn:itC CS l a (k+1)=c.r:=by
    show nxC CS l _=_
    unfold nxC edgeR
    rw[e2,Int.toNat_natCast,List.getD_eq_getElem?_getD,e1];rfl
   have hs:wtC CS l a (k+1)=wtC CS l a k+c.c:=by
    show _+_=_
    rw[e2,Int.toNat_natCast,List.getD_eq_getElem?_getD,e1];rfl
   rw[hn,hs]
   refine⟨(hI c (List.mem_of_getElem? e1)).2,?_⟩
   rcases e4 with e4 | ⟨e4,e5⟩
   ·left
    rcases h2 with h2 | ⟨h2,-⟩<;>omega
   ·rcases h2 with h2 | ⟨h2,h3⟩
    ·left;omega
    ·right
     refine⟨by omega,.inr ?_⟩
     rcases h3 with rfl | h3
     ·exact e5
     ·omega
theorem rounds_law (CS:List Con) (N:Nat) (hI:InC N CS):∀ (f:Nat) (d l:List Int) (a:Int) (T:Nat→Nat) (t k:Nat),InvC CS N d l T t→ShortC CS k d →
  match roundsC CS (f+1) d l a with
  | none=>∃ d':List Int,d'.length=N∧∀ c∈CS,gv d' c.l≤gv d' c.r+c.c
  | some (d',l',a')=>∃ (T':Nat→Nat) (t':Nat) (x:Nat) (d0:List Int),InvC CS N d' l' T' t'∧x<N∧a'=(x:Int)∧ShortC CS (k+f) d0∧gv d' x<gv d0 x
 | f,d,l,a,T,t,k,h,hs=>by
  unfold roundsC
  obtain⟨⟨T',t',b1⟩,b2,b3,b4⟩:=passC_law CS N hI CS 0 d l (-1) T t rfl h
  by_cases hn:(passC CS 0 d l (-1)).2.2<0
  ·rw[if_pos hn]
   rcases b4 with ⟨e1,e2⟩ | ⟨x,-,e2,-⟩
   ·refine⟨d,h.ld,fun c hc=>?_⟩
    have:=b3 c hc
    rw[e2] at this
    exact this
   ·rw[e2] at hn;omega
  ·rw[if_neg hn]
   have hs':=short_pass hs b2 b3
   cases f with
   | zero =>
    rcases b4 with ⟨e1,e2⟩ | ⟨x,e1,e2,e3⟩
    ·rw[e1] at hn;exact absurd (by decide) hn
    ·exact⟨T',t',x,d,b1,e1,e2,hs,e3⟩
   | succ f =>
    have:=rounds_law CS N hI f _ _ (passC CS 0 d l (-1)).2.2 T' t' (k+1) b1 hs'
    rw[show k+1+f=k+(f+1) by omega] at this
    exact this
theorem cycle_law (n:Nat) (CS:List Con) (hI:InC (n+1) CS) :
  match roundsC CS (n+2) (List.replicate (n+1) 0) (List.replicate (n+1) (-1)) (-1) with
  | none=>∃ d':List Int,d'.length=n+1∧∀ c∈CS,gv d' c.l≤gv d' c.r+c.c
  | some (d',l',a')=>∃ x p:Nat,a'=(x:Int)∧x<n+1∧l'.length=n+1∧1≤p∧p≤n+1∧(∀ j,itC CS l' x j<n+1∧EdgeAt CS l' (itC CS l' x j))∧itC CS l' x (n+1+p)=itC CS l' x (n+1) ∧
    (∀ j,0<j→j<p→itC CS l' x (n+1+j)≠itC CS l' x (n+1))∧wtC CS l' (itC CS l' x (n+1)) p<0:=by
 have h0:InvC CS (n+1) (List.replicate (n+1) 0) (List.replicate (n+1) (-1)) (fun _=>0) 0:=by
  refine⟨List.length_replicate,List.length_replicate,fun _=>Nat.le_refl _,fun x hx=>.inl ⟨?_,gv_rep _ _⟩⟩
  unfold gv
  rw[List.getD_eq_getElem?_getD,List.getElem?_replicate,if_pos hx];rfl
 have hs:ShortC CS 0 (List.replicate (n+1) 0):=fun x w hw=>by
  cases hw with
  | start _ _=>rw[gv_rep];exact Int.le_refl _
 have hr:=rounds_law CS (n+1) hI (n+1) _ _ (-1) _ _ 0 h0 hs
 rw[show 0+(n+1)=n+1 by omega] at hr
 rw[show n+1+1=n+2 by omega] at hr
 cases hc:roundsC CS (n+2) (List.replicate (n+1) 0) (List.replicate (n+1) (-1)) (-1) with
 | none=>rw[hc] at hr;exact hr
 | some q =>
  obtain⟨d',l',a'⟩:=q
  rw[hc] at hr
  obtain⟨T',t',x,d0,h1,h2,h3,h4,h5⟩:=hr
  have hno:∀ m,m≤n+1→gv l' (itC CS l' x m) ≠ -1:=by
   intro m
   induction m using Nat.strongRecOn with
   | _ m ih =>
    intro hm e
    obtain⟨w,hw,hwd⟩:=root_walk hI h1 m x h2 e (fun j hj=>ih j hj (by omega))
    have:=h4 x w (hw.mono hm)
    omega
  have hlt:∀ m,m≤n+1→itC CS l' x m<n+1:=fun m hm=>(sum_chain hI h1 x h2 m (fun j hj=>hno j (by omega))).1
  obtain⟨i,j,hij,hj,e⟩:=pigeon (n+1) (itC CS l' x) hlt
  have hper:∀ m,i≤m→itC CS l' x (m+(j-i))=itC CS l' x m:=fun m hm=>by
   obtain⟨e1,rfl⟩:=Nat.le.dest hm
   rw[show i+e1+(j-i)=j+e1 by omega,it_add CS l' x j,it_add CS l' x i,e]
  have hall:∀ m,gv l' (itC CS l' x m) ≠ -1:=by
   intro m
   induction m using Nat.strongRecOn with
   | _ m ih =>
    by_cases hm:m≤n+1
    ·exact hno m hm
    ·have e1:=hper (m-(j-i)) (by omega)
     rw[show m-(j-i)+(j-i)=m by omega] at e1
     rw[e1]
     exact ih _ (by omega)
  have hall2:∀ m,itC CS l' x m<n+1:=fun m=>(sum_chain hI h1 x h2 m (fun j _=>hall j)).1
  obtain⟨p,⟨hp1,hp2⟩,hmin⟩:=least_nat (fun p=>1≤p∧itC CS l' x (n+1+p)=itC CS l' x (n+1)) (j-i) ⟨by omega,hper (n+1) (by omega)⟩
  have hpj:p≤j-i:=Nat.le_of_not_lt (fun hlt=>hmin _ hlt ⟨by omega,hper (n+1) (by omega)⟩)
  refine⟨x,p,h3,h2,h1.ll,hp1,by omega,fun m=>⟨hall2 m,?_⟩,hp2,fun m hm1 hm2 e1=>hmin m hm2 ⟨hm1,e1⟩,?_⟩
  ·rcases h1.at' _ (hall2 m) with ⟨e1,-⟩ | ⟨i,c,e1,e2,e3,-⟩
   ·exact absurd e1 (hall m)
   ·exact⟨i,c,e1,e2,e3⟩
  ·have hsc:=(sum_chain hI h1 (itC CS l' x (n+1)) (hall2 _) p (fun m _=>by rw[← it_add];exact hall _)).2
   rw[← it_add,hp2] at hsc
   rcases hsc with hsc | ⟨hsc,hsc2⟩
   ·omega
   ·rcases hsc2 with hsc2 | hsc2<;>omega
def colC (CS:List Con) (l:List Int) (y p:Nat):List Int:=(List.range p).map (fun j=>gv l (itC CS l y j))
theorem find_per (f:Nat→Nat) (n:Nat):(∃ p,1≤p∧p≤n∧f p=f 0)→∃ p,((List.range n).find? (fun j=>f (j+1)==f 0))=some p∧f (p+1)=f 0∧∀ j,0<j→j<p+1→f j≠f 0:=by
 rintro⟨p,h1,h2,h3⟩
 cases hf:(List.range n).find? (fun j=>f (j+1)==f 0) with
 | none =>
  have:=List.find?_eq_none.1 hf (p-1) (List.mem_range.2 (by omega))
  rw[show p-1+1=p by omega] at this
  simp[h3] at this
 | some q =>
  refine⟨q,rfl,?_,fun j hj1 hj2 e=>?_⟩
  ·have:=List.find?_some hf
   simpa using this
  ·rw[List.find?_eq_some_iff_getElem] at hf
   obtain⟨-,i,hi,e1,h5⟩:=hf
   have e2:i=q:=by simpa using e1
   subst e2
   have:=h5 (j-1) (by omega)
   rw[List.getElem_range,show j-1+1=j by omega] at this
   simp[e] at this
def cycleL (n:Nat) (CS:List Con):Option (List Int):=match roundsC CS (n+2) (List.replicate (n+1) 0) (List.replicate (n+1) (-1)) (-1) with
 | none=>none
 | some (_,l,a)=>match (List.range (n+1)).find? (fun j=>itC CS l (itC CS l a.toNat (n+1)) (j+1)==itC CS l a.toNat (n+1)) with
  | none=>none
  | some p=>some (colC CS l (itC CS l a.toNat (n+1)) (p+1))
def contrL (CS:List Con) (list:List Int):Bool :=
 !list.isEmpty&&list.all (fun i=>decide (0≤i)&&decide (i<(CS.length:Int))) &&
 (List.range list.length).all (fun i=>(CS.getD (list.getD i 0).toNat default).r==(CS.getD (list.getD ((i+1)%list.length) 0).toNat default).l) &&
 decide ((list.map (fun i=>(CS.getD i.toNat default).c)).sum<0)
end
end Go.Proofs.YtmkdfbelbcocpaaGreatDoor
