import Derived.DeepKeys4
import Derived.Maps.RangeWalk
import Derived.Maps.Own
import Derived.Maps.OwnSet
import Derived.Test.YtmkdfbelbcocpaaGreatDoorCS13
set_option linter.unusedVariables false
set_option linter.unusedSimpArgs false
set_option maxHeartbeats 8000000
set_option maxRecDepth 100000
namespace Go.Proofs.YtmkdfbelbcocpaaGreatDoor
section
open Go.RowKit Go.Sort Go.Maps
structure KyOk (k:Ky):Prop where
 lb:∀ y∈k.l,y<256
 rb:∀ y∈k.r,y<256
 ll:k.l.length≤maxLen
 rl:k.r.length≤maxLen
 lo:-9223372036854775808≤k.c
 hi:k.c≤9223372036854775807
theorem KyOk.bytes {k:Ky} (h:KyOk k):KyB k:=⟨h.lb,h.rb⟩
theorem Z3i:laidOutB Tryz.prog=true:=by kernel_rfl
theorem Z90:(123:TypeId) < Tryz.prog.types.size:=of_decide_eq_true (by kernel_rfl)
theorem Z9g:Tryz.prog.keyTypeAt 2 123=true:=by kernel_rfl
theorem Z8l:WideMaps.KeyLaw Tryz.prog 123:=deep_law_laid Z3i (m:=2) (by omega) Z90 Z9g (by rw[Tryz.underlying123])
theorem Zpl:Keyed Tryz.prog 123:=Keyed.of_law Z8l
def Zcd (k:Ky):Lit:=.string (keyBytes [.string (Zad k.l).data.toList,.string (Zad k.r).data.toList,.int .i64 k.c])
theorem Z6v:Tryz.prog.keyType 123=true:=by kernel_rfl
theorem Ztm:Tryz.prog.cellsOf 123=3:=by kernel_rfl
theorem Z6w:∃ n,Tryz.prog.types.size+1=n+2:=by
 refine⟨Tryz.prog.types.size-1,?_⟩
 have h:1≤Tryz.prog.types.size:=of_decide_eq_true (by kernel_rfl)
 omega
theorem Zhq (k:Ky) (h:KyOk k):keyOf Tryz.prog 123 (.agg (kyC k).toArray)=some (Zcd k):=by
 obtain⟨n,hn⟩:=Z6w
 have hf:(Value.agg (kyC k).toArray).formed Tryz.prog 123=true:=by
  unfold Value.formed
  rw[Tryz.underlying123]
  simp[kyC,Ztm]
 have h1:(Zad k.l).size≤maxLen:=by rw[Zaq];exact h.ll
 have h2:(Zad k.r).size≤maxLen:=by rw[Zaq];exact h.rl
 have h3:(Lit.int .i64 k.c).wf=true:=by
  have e1:IntKind.i64.min = -9223372036854775808:=by decide
  have e2:IntKind.i64.max=9223372036854775807:=by decide
  show (decide (IntKind.i64.min≤k.c)&&decide (k.c≤IntKind.i64.max))=true
  rw[e1,e2,decide_eq_true h.lo,decide_eq_true h.hi]
  rfl
 have c9:Tryz.prog.cellsOf 9=1:=by kernel_rfl
 have c3:Tryz.prog.cellsOf 3=1:=by kernel_rfl
 unfold keyOf
 rw[Tryz.underlying123]
 simp only[Z6v,hf,Bool.and_self,if_true,hn]
 have hx:Tryz.prog.keyLits (n+2) 123 (kyC k)=some [.string (Zad k.l).data.toList,.string (Zad k.r).data.toList,.int .i64 k.c]:=by
  unfold Program.keyLits
  rw[Tryz.underlying123]
  simp[kyC,Ztm,c9,c3,Program.keyLits,Tryz.underlying9,Tryz.underlying3,h1,h2,h3]
 show (Tryz.prog.keyLits (n+2) 123 ((kyC k).toArray.toList)).map (fun ls=>Lit.string (keyBytes ls))=some (Zcd k)
 rw[List.toList_toArray,hx]
 rfl
theorem Zk9 (k k':Ky) (h:KyOk k) (h':KyOk k') (e:Zcd k=Zcd k'):k=k':=by
 have h1:=Zhq k h
 have h2:=Zhq k' h'
 rw[e] at h1
 have:=Zpl.inj h1 h2
 obtain⟨l,r,c⟩:=k
 obtain⟨l',r',c'⟩:=k'
 simp only[kyC,Value.agg.injEq,List.toArray_inj,Array.mk.injEq,List.cons.injEq,Value.string.injEq,Value.int.injEq,and_true,true_and] at this
 obtain⟨e1,e2,e3⟩:=this
 have f1:l=l':=Zd2 l l' h.lb h'.lb (by rw[← Zcb,← Zcb,e1])
 have f2:r=r':=Zd2 r r' h.rb h'.rb (by rw[← Zcb,← Zcb,e2])
 subst f1;subst f2;subst e3
 rfl
end
section
def Zji (l:List Nat):Bool:=l==[]||Zbq l
def inC (c:Int):Bool:=decide (-1099511627776≤c)&&decide (c<1099511627776)
def Zmj (k:Int) (n:Nat) (c:Int):Bool:=((k==1||k==2)&&decide (2≤n)&&c==0)||(k==3&&decide (1≤c)&&decide (c≤(n:Int)))
mutual
def Zbk:Prd→Bool
 | .mk k l r c ks=>if k=0 then (ks.isEmpty&&Zji l&&Zji r&&inC c) else (Zmj k ks.length c&&l==[]&&r==[]&&Zeo ks)
def Zeo:List Prd→Bool
 | []=>true
 | p::ps=>Zbk p&&Zeo ps
end
def Zap (p:Prd):Bool:=Zd8 p&&Zbk p
theorem Zla:∀ ks:List Prd,Zeo ks=true↔∀ q∈ks,Zbk q=true
 | []=>by simp[Zeo]
 | p::ps=>by simp[Zeo,Zla ps]
theorem Z6x {c:Nat} (h:Zid c=true):c<128:=by
 simp only[Zid,Znr,Zd6,Bool.or_eq_true,Bool.and_eq_true,decide_eq_true_eq,beq_iff_eq] at h
 omega
theorem Zpm {l:List Nat} (h:Zem l=true):(∀ y∈l,y<128∧y≠46)∧l.length≤20:=by
 simp only[Zem,Bool.and_eq_true,decide_eq_true_eq] at h
 refine⟨fun y hy=>?_,h.1.2⟩
 have:=List.all_eq_true.1 (Zs1 Zid l ▸ h.2) y hy
 refine⟨Z6x this,?_⟩
 rintro rfl
 exact absurd this (by decide)
theorem Zrt {l:List Nat} (h:Zbq l=true):∃ a b,l=a++46::b∧Zeg a=true∧Zeg b=true∧(∀ y∈a,y<128∧y≠46)∧(∀ y∈b,y<128∧y≠46)∧a.length≤20∧b.length≤20:=by
 unfold Zbq at h
 simp only[Bool.and_eq_true,decide_eq_true_eq] at h
 obtain⟨h0,h1,h2⟩:=h
 have f1:=Zpm (l:=l.take (Zaw Zan l)) (by unfold Zeg at h1;simp at h1;exact h1.1)
 have f2:=Zpm (l:=l.drop (Zaw Zan l+1)) (by unfold Zeg at h2;simp at h2;exact h2.1)
 refine⟨l.take (Zaw Zan l),l.drop (Zaw Zan l+1),?_,h1,h2,f1.1,f2.1,f1.2,f2.2⟩
 have hd:l[Zaw Zan l]?=some 46:=by
  have hx:l=l.takeWhile Zan++l.dropWhile Zan:=(List.takeWhile_append_dropWhile).symm
  have hl:(l.takeWhile Zan).length=Zaw Zan l:=rfl
  have hne:l.dropWhile Zan≠[]:=by
   intro h
   rw[h,List.append_nil] at hx
   rw[← hl,← hx] at h0
   exact absurd h0 (Nat.lt_irrefl _)
  obtain⟨c,r,hcr⟩:=List.exists_cons_of_ne_nil hne
  have hc:Zan c=false:=by
   have:=List.head_dropWhile_not Zan hne
   simpa [hcr] using this
  have:c=46:=by simpa [Zan] using hc
  subst this
  have e:l[Zaw Zan l]?=(l.takeWhile Zan++l.dropWhile Zan)[Zaw Zan l]?:=congrArg (fun m=>m[Zaw Zan l]?) hx
  rw[e,List.getElem?_append_right (by rw[hl];exact Nat.le_refl _),hl,Nat.sub_self,hcr]
  rfl
 have h1:l=l.take (Zaw Zan l)++l.drop (Zaw Zan l):=(List.take_append_drop _ _).symm
 have h2:l.drop (Zaw Zan l)=46::l.drop (Zaw Zan l+1):=by
  have:=(List.getElem?_eq_some_iff.1 hd)
  rw[List.drop_eq_getElem_cons this.1,this.2]
 rw[h2] at h1
 exact h1
theorem Zjj {l:List Nat} (h:Zji l=true):(∀ y∈l,y<256)∧l.length≤41:=by
 unfold Zji at h
 rw[Bool.or_eq_true,beq_iff_eq] at h
 rcases h with rfl | h
 ·simp
 ·obtain⟨a,b,rfl,_,_,h1,h2,h3,h4⟩:=Zrt h
  refine⟨fun y hy=>?_,by simp;omega⟩
  rcases List.mem_append.1 hy with hy | hy
  ·have:=(h1 y hy).1;omega
  ·rcases List.mem_cons.1 hy with rfl | hy
   ·omega
   ·have:=(h2 y hy).1;omega
theorem Z6y {l r:List Nat} {c:Int} (hl:Zji l=true) (hr:Zji r=true) (hc:inC c=true):KyOk ⟨l,r,c⟩:=by
 have h1:=Zjj hl
 have h2:=Zjj hr
 unfold inC at hc
 simp only[Bool.and_eq_true,decide_eq_true_eq] at hc
 have hm:41≤maxLen:=by decide
 exact⟨h1.1,h2.1,Nat.le_trans h1.2 hm,Nat.le_trans h2.2 hm,by show _≤c;omega,by show c≤_;omega⟩
mutual
theorem Zeb:∀ p:Prd,Zbk p=true→∀ k∈Zbx p,KyOk k
 | .mk k l r c ks,h=>by
  unfold Zbk at h
  unfold Zbx
  by_cases h0:k=0
  ·rw[if_pos h0] at h ⊢
   simp only[Bool.and_eq_true] at h
   have hk:ks=[]:=by simpa using h.1.1.1
   subst hk
   intro x hx
   rw[show Zby []=[] from rfl,List.append_nil,List.mem_singleton] at hx
   subst hx
   exact Z6y h.1.1.2 h.1.2 h.2
  ·rw[if_neg h0] at h ⊢
   simp only[Bool.and_eq_true] at h
   intro x hx
   rw[List.nil_append] at hx
   exact Zm4 ks h.2 x hx
theorem Zm4:∀ ks:List Prd,Zeo ks=true→∀ k∈Zby ks,KyOk k
 | [],_=>by simp[Zby]
 | p::ps,h=>by
  unfold Zeo at h
  rw[Bool.and_eq_true] at h
  intro x hx
  unfold Zby at hx
  rcases List.mem_append.1 hx with hx | hx
  ·exact Zeb p h.1 x hx
  ·exact Zm4 ps h.2 x hx
end
theorem Zvc (ks:List Prd) (i:Nat) (q:Prd) (h:ks[i]?=some q):Zby (ks.take (i+1))=Zby (ks.take i)++Zbx q:=by
 obtain⟨hi,rfl⟩:=List.getElem?_eq_some_iff.1 h
 rw[List.take_add_one,List.getElem?_eq_getElem hi,Zo5]
 simp[Zby]
end
section
def Zmf (k:Ky):Bool:=k.l==k.r
mutual
def Zas (f:Ky→Bool):Prd→Bool
 | .mk k l r c ks=>if k=0 then f ⟨l,r,c⟩ else if k=1 then Zim f ks==ks.length else if k=2 then decide (0<Zim f ks) else decide (c≤(Zim f ks:Int))
def Zim (f:Ky→Bool):List Prd→Nat
 | []=>0
 | p::ps=>(if Zas f p=true then 1 else 0)+Zim f ps
end
theorem Zru (f:Ky→Bool) (a b:List Prd):Zim f (a++b)=Zim f a+Zim f b:=by
 induction a with
 | nil=>simp[Zim]
 | cons p ps ih=>simp only[List.cons_append,Zim,ih];omega
theorem Zyb (f:Ky→Bool) (ks:List Prd) (i:Nat) (q:Prd) (h:ks[i]?=some q):Zim f (ks.take (i+1))=Zim f (ks.take i)+(if Zas f q=true then 1 else 0):=by
 obtain⟨hi,rfl⟩:=List.getElem?_eq_some_iff.1 h
 rw[List.take_add_one,List.getElem?_eq_getElem hi,Zru]
 simp[Zim]
theorem Zyc (f:Ky→Bool):∀ ks,Zim f ks≤ks.length
 | []=>by simp[Zim]
 | p::ps=>by
  have:=Zyc f ps
  simp only[Zim,List.length_cons]
  split<;>omega
end
section
open Go.RowKit Go.Sort Go.Maps
def Zhr (w:World) (b:Nat) (S:List Ky):Prop :=
 ∃ D:DataW Unit,w.ownsMap Tryz.prog 123 (plainElem Tryz.prog 4) b S.length D∧(∀ l,has D l=true↔∃ k∈S,Zcd k=l)∧∀ k∈S,∀ zd,D.atKey (Zcd k) zd = .lit (.bool true)
theorem Zc7 {w w':World} (h:Below w.heap.size w w') (row:Option Nat):w.grownBy w' row:=⟨h.os,h.tape,h.output,h.size,fun i hi _=>h.block i hi⟩
theorem Zbs {w w':World} {b:Nat} (h:w.grownBy w' (some b)):Only w w' (· = b):=⟨h.os,h.tape,h.output,h.size,fun i hi hp=>h.block i hi (fun e=>hp (Option.some.inj e))⟩
theorem Zhr.lt {w:World} {b:Nat} {S:List Ky} (h:Zhr w b S):b<w.heap.size:=by
 obtain⟨D,h1,_⟩:=h
 exact h1.lt
theorem Zhr.step {w w':World} {b:Nat} {S:List Ky} (h:Zhr w b S) (hb:Below w.heap.size w w'):Zhr w' b S:=by
 obtain⟨D,h1,h2⟩:=h
 exact⟨D,h1.kept (Zc7 hb none) (by simp),h2⟩
theorem Zhr.only {w w':World} {b:Nat} {S:List Ky} {p:Nat→Prop} (h:Zhr w b S) (hb:Only w w' p) (hp:¬ p b):Zhr w' b S:=by
 have hl:=h.lt
 obtain⟨D,h1,h2⟩:=h
 obtain⟨es,clock,e1,F,hs,hD⟩:=h1
 exact⟨D,⟨es,clock,(hb.block b hl hp).trans e1,F,hs,hD⟩,h2⟩
theorem Zhr.nil (w:World):Zhr (w.alloc (.map #[] 0)) w.heap.size []:=by
 refine⟨_,World.ownsMap_made w _ _ _,fun l=>?_,fun k hk=>absurd hk List.not_mem_nil⟩
 constructor
 ·intro h;cases h
 ·rintro⟨k,hk,_⟩;exact absurd hk List.not_mem_nil
theorem Zg5 (k:Ky) (h:KyOk k):WideAt.IsKeyLit (Zcd k):=Zpl.key (Zhq k h)
theorem Zhr.put {w w':World} {b:Nat} {S:List Ky} {D:DataW Unit} (hS:∀ k∈S,KyOk k) (k:Ky) (hk:KyOk k) (h:w.ownsMap Tryz.prog 123 (plainElem Tryz.prog 4) b S.length D) (h1:∀ l,has D l=true↔∃ k∈S,Zcd k=l) (h2:∀ k∈S,∀ zd,D.atKey (Zcd k) zd = .lit (.bool true))
  (h':w'.ownsMap Tryz.prog 123 (plainElem Tryz.prog 4) b (S.length+1) (D.put (Zcd k) (.lit (.bool true)))):Zhr w' b (S++[k]):=by
 refine⟨_,by rw[List.length_append];exact h',fun l=>?_,fun x hx zd=>?_⟩
 ·by_cases he:l=Zcd k
  ·subst he
   rw[has_put_same h.isMap (Zg5 k hk)]
   exact⟨fun _=>⟨k,by simp,rfl⟩,fun _=>rfl⟩
  ·rw[has_put_other he,h1]
   constructor
   ·rintro⟨x,hx,hl⟩;exact⟨x,by simp[hx],hl⟩
   ·rintro⟨x,hx,hl⟩
    rcases List.mem_append.1 hx with hx | hx
    ·exact⟨x,hx,hl⟩
    ·rw[List.mem_singleton] at hx
     subst hx
     exact absurd hl.symm he
 ·by_cases he:Zcd x=Zcd k
  ·rw[he,atKey_put_same h.isMap (Zg5 k hk)]
  ·rw[atKey_put_other he]
   rcases List.mem_append.1 hx with hx | hx
   ·exact h2 x hx zd
   ·rw[List.mem_singleton] at hx
    subst hx
    exact absurd rfl he
theorem Z3j (w:World) (l r:List Nat) (c:Int) (ao:Option Addr) (cap b:Nat) (S:List Ky) (hS:∀ k∈S,KyOk k) (hk:KyOk ⟨l,r,c⟩) (h:Zhr w b S) (hn:S.length<1000000) :
  Calls Tryz.prog 156 #[.agg #[.int .i64 0,.string (Zad l),.string (Zad r),.int .i64 c,.slice ao 0 cap],.map (some b)] w fun e w'=>e = .returned (.tuple #[])∧Zhr w' b (S++[⟨l,r,c⟩])∧Only w w' (· = b):=by
 have bx:=(Below.refl w.heap.size w).alloc (Nat.le_refl _) (.cells #[.int .i64 0,.string (Zad l),.string (Zad r),.int .i64 c,.slice ao 0 cap] 25)
 have S1:=ħ (h.step bx)
 have O1:=ħ (Only.of_below (p:=(· = b)) bx)
 have X1:Hid (Zah (w.alloc (.cells #[.int .i64 0,.string (Zad l),.string (Zad r),.int .i64 c,.slice ao 0 cap] 25)) w.heap.size 25 [.int .i64 0,.string (Zad l),.string (Zad r),.int .i64 c,.slice ao 0 cap]):=ħ (heap_alloc_new w _)
 have HK:=ħ (fun w=>Zjc 0 l r c (.slice ao 0 cap) rfl w)
 have HKO:=ħ hk
 have HKY:=ħ (Zhq _ hk)
 have HS:=ħ hS
 have HN:Hid (S.length<maxLen):=ħ (Nat.lt_trans hn (by decide))
 have hkc:(Zq8 l r c).toArray=(kyC ⟨l,r,c⟩).toArray:=rfl
 rw[hkc] at HK
 have XB:Hid (b<w.heap.size):=ħ h.lt
 have HKC:Hid ((kyC ⟨l,r,c⟩).toArray=(kyC ⟨l,r,c⟩).toArray):=ħ rfl
 clear bx h hk hS hn hkc
 generalize hKY:(⟨l,r,c⟩:Ky)=K at *
 clear hKY
 generalize Zad l=y at *
 generalize Zad r=z at *
 generalize (kyC K).toArray=kv at *
 go_enter Tryz.func156,Tryz.ntmps156
 go_upto_region 1 with (fail)
 generalize w.alloc (.cells #[.int .i64 0,.string y,.string z,.int .i64 c,.slice ao 0 cap] 25)=w1 at *
 have x0:=X1.o.cell 0 _ rfl
 go_wp2_with (refine wpList_load_row rfl 25 (.tmp 2) rfl w.heap.size ?x1 25 (Z6p 0 y z c ao 0 cap).toArray (0,0) _ X1.o Tryz.underlying25 rfl (Zae _ rfl) ?_;(case x1=>rfl))
 refine (HK.o w1).mono ?_
 rintro e w2 ⟨rfl,b2⟩
 have S2:=ħ (S1.o.step b2)
 have O2:=ħ (O1.o.step b2)
 have X2:=ħ (X1.o.step b2)
 clear b2 x0 X1 S1 O1
 obtain⟨D,hown,hh,ha⟩:=S2.o
 have HH:=ħ hh
 have HA:=ħ ha
 have HO:=ħ hown
 clear hh ha hown
 go_wp2_with (at_mapUpdate;refine wpList_mapUpdate_own _ rfl (.tmp 9) (.tmp 11) _ 185 rfl 123 4 Zpl Tryz.underlying185 (plainElem Tryz.prog 4) b S.length D rfl HO.o HN.o (.agg kv) (.bool true) (Zcd K) rfl rfl HKY.o (.lit (.bool true)) [] (plainElem_bool Tryz.underlying4 true) ?_;intro w3 hown3 hgrow3;have S3:=ħ (Zhr.put HS.o K HKO.o HO.o HH.o HA.o hown3);have O3:=ħ (O2.o.trans (Zbs hgrow3));have X3:=ħ (X2.o.grownBy hgrow3 (by intro e;have:=XB.o;have:=Option.some.inj e;omega));have x4:=X3.o.cell 4 _ rfl;clear hown3 hgrow3)
 refine wp_loop_rounds 1 ?_
 rw[rounds_succ];go_wp2
 go_end0
 exact⟨rfl,S3.o,O3.o⟩
theorem Z3k (w:World) (P:Nat→Prop) (κ:Int) (l r:List Nat) (c:Int) (ks:List Prd) (ao:Option Addr) (n cap:Nat) (hκ:κ≠0) (hn:n=ks.length) (hbig:n≤1000000)
  (hk:ks=[]∨∃ g off,ao=some ⟨g,off,none⟩∧P g∧g<w.heap.size∧Za4 w P ks g off)
  (b:Nat) (S:List Ky) (h:Zhr w b S) (hPb:∀ g,P g→g≠b)
  (ih:∀ (q:Prd) (w:World) (vs:List Value) (pre:List Prd),q∈ks→pre++[q] <+: ks→Zai w P q vs→Zhr w b (S++Zby pre)→Calls Tryz.prog 156 #[.agg vs.toArray,.map (some b)] w fun e w'=>e = .returned (.tuple #[])∧Zhr w' b (S++Zby pre++Zbx q)∧Only w w' (· = b)) :
  Calls Tryz.prog 156 #[.agg #[.int .i64 κ,.string (Zad l),.string (Zad r),.int .i64 c,.slice ao n cap],.map (some b)] w fun e w'=>e = .returned (.tuple #[])∧Zhr w' b (S++Zby ks)∧Only w w' (· = b):=by
 have HK:=ħ hk
 have IH:=ħ ih
 have HN:=ħ hn
 have HPB:=ħ hPb
 have hκb:(κ==0)=false:=beq_eq_false_iff_ne.mpr hκ
 have bx:=(Below.refl w.heap.size w).alloc (Nat.le_refl _) (.cells #[.int .i64 κ,.string (Zad l),.string (Zad r),.int .i64 c,.slice ao n cap] 25)
 have S1:=ħ (h.step bx)
 have O1:=ħ (Only.of_below (p:=(· = b)) bx)
 have X1:Hid (Zah (w.alloc (.cells #[.int .i64 κ,.string (Zad l),.string (Zad r),.int .i64 c,.slice ao n cap] 25)) w.heap.size 25 [.int .i64 κ,.string (Zad l),.string (Zad r),.int .i64 c,.slice ao n cap]):=ħ (heap_alloc_new w _)
 clear bx h hk ih hn hPb hκ
 generalize Zad l=y at *
 generalize Zad r=z at *
 go_enter Tryz.func156,Tryz.ntmps156
 go_upto_region 1 with (fail)
 generalize w.alloc (.cells #[.int .i64 κ,.string y,.string z,.int .i64 c,.slice ao n cap] 25)=w1 at *
 have x0:=X1.o.cell 0 _ rfl
 have x4:=X1.o.cell 4 _ rfl
 go_wp2_with fail
 clear x4 x0 X1
 go_loopw [15] (fun cc wr=>∃ (i:Nat),cc = .int .i64 i∧i≤n∧Hid (Zhr wr b (S++Zby (ks.take i)))∧Hid (Only w wr (· = b))) (fun c _=>(n-intOf c).toNat)
 case atStart=>exact⟨0,rfl,by omega,ħ (by simpa [Zby] using S1.o),O1⟩
 case round =>
  clear S1 O1
  obtain⟨i,rfl,hi,hq,ho⟩:=hrel
  have e2:IntKind.i64.wrap ((i:Int)+1)=((i+1:Nat):Int):=IntWalk.i64_in _ (by omega)
  by_cases hlt:i<n
  ·have ii:(i:Int)<n:=by omega
   have HQ:Hid (∃ q,ks[i]?=some q∧∃ g off,ao=some ⟨g,off,none⟩∧g<w.heap.size∧∃ vs,Zai wr P q vs∧Za2 wr g (off+i*5) vs):=ħ (by
    have hl:i<ks.length:=by rw[← HN.o];exact hlt
    refine⟨ks[i],List.getElem?_eq_getElem hl,?_⟩
    rcases HK.o with h | ⟨g,off,h1,h2,h3,h4⟩
    ·rw[h] at hl;exact absurd hl (Nat.not_lt_zero _)
    ·obtain⟨vs,hv1,hv2⟩:=Za4.at ks g off i _ (List.getElem?_eq_getElem hl) h4
     exact⟨g,off,h1,h3,vs,Zai.keep (fun x hx hl=>ho.o.block x hl (HPB.o x hx)) ho.o.size (fun x hx _=>hx) _ _ hv1,hv2.of_block (ho.o.block g h3 (HPB.o g h2))⟩)
   obtain⟨q,hqi,g,off,hao,hg,vs,hpc,hrd⟩:=HQ.o
   clear HQ
   have HQI:=ħ hqi
   obtain⟨xa,xn,xc,hvf,-⟩:=hpc.form
   rw[hvf] at hrd hpc
   have PC:=ħ hpc
   have s0:=hrd 0 _ rfl
   have s1:=hrd 1 _ rfl
   have s2:=hrd 2 _ rfl
   have s3:=hrd 3 _ rfl
   have s4:=hrd 4 _ rfl
   clear hrd hpc hvf vs hqi
   rw[Nat.add_zero] at s0
   have HAO:=ħ hao
   subst hao
   generalize q.k=q0 at *
   generalize Zad q.l=q1 at *
   generalize Zad q.r=q2 at *
   generalize q.c=q3 at *
   go_wp2_with fail
   have bx:=(Below.refl wr.heap.size wr).alloc (Nat.le_refl _) (.cells #[.int .i64 q0,.string q1,.string q2,.int .i64 q3,.slice xa xn xc] 25)
   have hq2:=ħ (hq.o.step bx)
   have ho2:=ħ (ho.o.step bx)
   have PX:=ħ (PC.o.below bx)
   clear s0 s1 s2 s3 s4 bx hq ho PC
   generalize wr.alloc (.cells #[.int .i64 q0,.string q1,.string q2,.int .i64 q3,.slice xa xn xc] 25)=wx at *
   have HPRE:Hid (ks.take i++[q] <+: ks):=ħ (by
    have:ks.take i++[q]=ks.take (i+1):=by rw[List.take_add_one,HQI.o];rfl
    rw[this];exact List.take_prefix _ _)
   refine (IH.o q wx _ (ks.take i) (List.mem_of_getElem? HQI.o) HPRE.o PX.o hq2.o).mono ?_
   rintro e w3 ⟨rfl,s3,o3⟩
   have S3:=ħ (show Zhr w3 b (S++Zby (ks.take (i+1))) by rw[Zvc ks i q HQI.o,← List.append_assoc];exact s3)
   have O3:=ħ (ho2.o.trans o3)
   clear s3 o3 hq2 ho2
   go_wp2
   go_roundw
   case rel=>exact⟨i+1,by go_num,by omega,S3,O3⟩
   case measure=>simp only[intOf];omega
  ·have ii:¬ ((i:Int)<n):=by omega
   have HT:Hid (ks.take i=ks):=ħ (by rw[show i=ks.length by rw[← HN.o];omega,List.take_length])
   go_wp2
   go_end0
   exact⟨rfl,by have:=hq.o;rwa [HT.o] at this,ho.o⟩
theorem Zlb:∀ (N:Nat) (p:Prd) (w:World) (P:Nat→Prop) (vs:List Value) (b:Nat) (S:List Ky),Za5 p≤N→Zbk p=true→S.length+Za5 p≤1000000→(∀ k∈S,KyOk k)→Zai w P p vs→Zhr w b S→(∀ g,P g→g≠b) →
  Calls Tryz.prog 156 #[.agg vs.toArray,.map (some b)] w fun e w'=>e = .returned (.tuple #[])∧Zhr w' b (S++Zbx p)∧Only w w' (· = b)
 | 0,p,w,P,vs,b,S,hN,_,_,_,_,_,_=>by have:=Zhk p;omega
 | N+1,.mk κ l r c ks,w,P,vs,b,S,hN,hf,hc,hS,h,hs,hPb=>by
  have hc2:Zbw ks≤N:=by unfold Za5 at hN;omega
  have hl:=Zcs ks
  have hc3:S.length+(1+Zbw ks)≤1000000:=by unfold Za5 at hc;exact hc
  have HFK:=Zeb _ hf
  unfold Zai at h
  obtain⟨ao,cap,rfl,hk⟩:=h
  unfold Zbk at hf
  by_cases hκ:κ=0
  ·rw[if_pos hκ] at hf
   simp only[Bool.and_eq_true] at hf
   have hkn:ks=[]:=by simpa using hf.1.1.1
   subst hkn;subst hκ
   have:=Z3j w l r c ao cap b S hS (Z6y hf.1.1.2 hf.1.2 hf.2) hs (by omega)
   simpa [Zbx,Zby] using this
  ·rw[if_neg hκ] at hf
   simp only[Bool.and_eq_true] at hf
   have hfk:=(Zla ks).1 hf.2
   have:=Z3k w P κ l r c ks ao ks.length cap hκ rfl (by omega) hk b S hs hPb (fun q w' us pre hq hpre hpc hs'=>by
    obtain⟨i,hi⟩:=List.mem_iff_getElem?.1 hq
    have hck:=Zhl ks i q hi
    obtain⟨tl,htl⟩:=hpre
    have hcp:Zbw pre+Za5 q≤Zbw ks:=by
     rw[← htl,Zdd,Zdd];simp[Zbw]
    have hkl:=Zk2 pre
    exact Zlb N q w' P us b (S++Zby pre) (by omega) (hfk q hq) (by rw[List.length_append];omega) (fun k hk'=>by
     rcases List.mem_append.1 hk' with hk' | hk'
     ·exact hS k hk'
     ·obtain⟨q',hq',hkq⟩:=(Zk1 k pre).1 hk'
      have:q'∈ks:=by rw[← htl];simp[hq']
      exact Zeb q' (hfk q' this) k hkq) hpc hs' hPb)
   have e:Zbx (.mk κ l r c ks)=Zby ks:=by unfold Zbx;rw[if_neg hκ,List.nil_append]
   rw[e]
   exact this
end
section
def Z2v:List (List Nat)→List Nat→List (List Nat)
 | [],x=>[x]
 | y::ys,x=>if x=y then y::ys else if ltL x y=true then x::y::ys else y::Z2v ys x
def Zkd (l:List (List Nat)):Prop:=l.Pairwise (fun a b=>ltL a b=true)
theorem Zn7 (x z:List Nat):∀ l,z∈Z2v l x↔z=x∨z∈l
 | []=>by simp[Z2v]
 | y::ys=>by
  unfold Z2v
  by_cases h:x=y
  ·rw[if_pos h];subst h;simp
  ·rw[if_neg h]
   by_cases h2:ltL x y=true
   ·rw[if_pos h2];simp
   ·rw[if_neg h2,List.mem_cons,Zn7 x z ys,List.mem_cons]
    constructor
    ·rintro (h | h | h)<;>simp[h]
    ·rintro (h | h | h)<;>simp[h]
theorem Ztn (x:List Nat):∀ l,Zkd l→Zkd (Z2v l x)
 | [],_=>by simp[Z2v,Zkd]
 | y::ys,h=>by
  unfold Z2v
  have h0:=List.pairwise_cons.1 h
  by_cases h1:x=y
  ·rw[if_pos h1];exact h
  ·rw[if_neg h1]
   by_cases h2:ltL x y=true
   ·rw[if_pos h2]
    exact List.pairwise_cons.2 ⟨fun z hz=>by
     rcases List.mem_cons.1 hz with rfl | hz
     ·exact h2
     ·exact Zc3 _ _ _ h2 (h0.1 z hz),h⟩
   ·rw[if_neg h2]
    refine List.pairwise_cons.2 ⟨fun z hz=>?_,Ztn x ys h0.2⟩
    rcases (Zn7 x z ys).1 hz with rfl | hz
    ·rcases Zd9 z y with h3 | h3 | h3
     ·exact absurd h3 h2
     ·exact absurd h3 h1
     ·exact h3
    ·exact h0.1 z hz
theorem Zpn (x:List Nat):∀ (l acc:List (List Nat)),x∈l.foldl Z2v acc↔x∈acc∨x∈l
 | [],acc=>by simp
 | y::ys,acc=>by
  rw[List.foldl_cons,Zpn x ys,Zn7,List.mem_cons]
  constructor
  ·rintro ((h | h) | h)<;>simp[h]
  ·rintro (h | h | h)<;>simp[h]
theorem Zpo:∀ (l acc:List (List Nat)),Zkd acc→Zkd (l.foldl Z2v acc)
 | [],acc,h=>h
 | y::ys,acc,h=>Zpo ys _ (Ztn y acc h)
def Zxe (k:Ky):List (List Nat):=[k.l,k.r]
def Zn8 (ks:List Ky):List (List Nat):=((ks.flatMap Zxe).filter (fun s=>!s.isEmpty)).foldl Z2v []
theorem Zn9 (ks:List Ky):Zkd (Zn8 ks):=Zpo _ _ .nil
theorem Zgi (ks:List Ky) (x:List Nat):x∈Zn8 ks↔x≠[]∧∃ k∈ks,x=k.l∨x=k.r:=by
 unfold Zn8
 rw[Zpn]
 simp[Zxe,List.mem_filter,List.mem_flatMap,and_comm]
def Zj1 (p:Prd):List (List Nat):=Zn8 (Zak p)
def Zh6 (k:Ky):Ky:=⟨k.r,k.l,-k.c-1⟩
theorem Zkk (k:Ky):Zh6 (Zh6 k)=k:=by
 cases k with
 | mk l r c=>show (⟨l,r,-(-c-1)-1⟩:Ky)=_;congr 1;omega
mutual
theorem Zyd:∀ p,Zbk p=true→Za5 (Ze0 p)=Za5 p
 | .mk k l r c ks,h=>by
  unfold Zbk at h
  rw[Ze0]
  by_cases hk:k=0
  ·rw[if_pos hk] at h ⊢
   simp only[Bool.and_eq_true] at h
   have hkn:ks=[]:=by simpa using h.1.1.1
   subst hkn;rfl
  ·rw[if_neg hk] at h ⊢
   simp only[Bool.and_eq_true] at h
   rw[Za5,Za5,Zto ks h.2]
theorem Zto:∀ ks,Zeo ks=true→Zbw (Zje ks)=Zbw ks
 | [],_=>rfl
 | p::ps,h=>by
  unfold Zeo at h
  rw[Bool.and_eq_true] at h
  rw[Zje,Zbw,Zbw,Zyd p h.1,Zto ps h.2]
end
mutual
theorem Zye:∀ p,Zbk p=true→Znt (Ze0 p)=Znt p
 | .mk k l r c ks,h=>by
  unfold Zbk at h
  rw[Ze0]
  by_cases hk:k=0
  ·rw[if_pos hk] at h ⊢
   simp only[Bool.and_eq_true] at h
   have hkn:ks=[]:=by simpa using h.1.1.1
   subst hkn;rfl
  ·rw[if_neg hk] at h ⊢
   simp only[Bool.and_eq_true] at h
   rw[Znt,Znt,Ztp ks h.2]
theorem Ztp:∀ ks,Zeo ks=true→Zxd (Zje ks)=Zxd ks
 | [],_=>rfl
 | p::ps,h=>by
  unfold Zeo at h
  rw[Bool.and_eq_true] at h
  rw[Zje,Zxd,Zxd,Zye p h.1,Ztp ps h.2]
end
theorem Zfn:∀ ks,(Zje ks).length=ks.length
 | []=>rfl
 | p::ps=>by rw[Zje,List.length_cons,List.length_cons,Zfn ps]
theorem Zyf (c:Int) (h:inC c=true):w64 (w64 (-c)-1) = -c-1:=by
 unfold inC at h
 simp only[Bool.and_eq_true,decide_eq_true_eq] at h
 rw[Zs3 (-c) (by omega) (by omega),Zs3 _ (by omega) (by omega)]
theorem Zyg (c:Int) (h:inC c=true):inC (-c-1)=true:=by
 unfold inC at h ⊢
 simp only[Bool.and_eq_true,decide_eq_true_eq] at h ⊢
 omega
theorem Zoa:∀ ks:List Prd,ks.length≤Zbw ks
 | []=>Nat.le_refl _
 | .mk _ _ _ _ k::ps=>by
  have:=Zoa ps
  rw[List.length_cons,Zbw,Za5];omega
theorem Zrv (n:Nat) (c:Int) (hn:n≤1000000) (h1:1≤c) (h2:c≤(n:Int)):w64 (w64 ((n:Int)-c)+1)=n-c+1:=by
 rw[Zs3 ((n:Int)-c) (by omega) (by omega),Zs3 _ (by omega) (by omega)]
mutual
theorem Ztq:∀ p,Zbk p=true→Za5 p≤1000000→Zbk (Ze0 p)=true∧Ze0 (Ze0 p)=p
 | .mk k l r c ks,h,hn=>by
  unfold Zbk at h
  rw[Za5] at hn
  rw[Ze0]
  by_cases hk:k=0
  ·rw[if_pos hk] at h ⊢
   simp only[Bool.and_eq_true] at h
   obtain⟨⟨⟨h1,h2⟩,h3⟩,h4⟩:=h
   have hkn:ks=[]:=by simpa using h1
   subst hkn
   subst hk
   rw[Zyf c h4]
   refine⟨?_,?_⟩
   ·unfold Zbk
    rw[if_pos rfl]
    simp[h2,h3,Zyg c h4]
   ·rw[Ze0,if_pos rfl,Zyf _ (Zyg c h4)]
    congr 1
    omega
  ·rw[if_neg hk] at h ⊢
   simp only[Bool.and_eq_true,beq_iff_eq] at h
   obtain⟨⟨⟨h1,rfl⟩,rfl⟩,h2⟩:=h
   have hL:=Zpp ks h2 (by omega)
   have hlen:=Zoa ks
   unfold Zmj at h1
   simp only[Bool.or_eq_true,Bool.and_eq_true,beq_iff_eq,decide_eq_true_eq] at h1
   rcases h1 with ⟨⟨h3 | h3,h4⟩,h5⟩ | ⟨⟨h3,h4⟩,h5⟩
   ·subst h3;subst h5
    refine⟨?_,?_⟩
    ·unfold Zbk
     simp[Zmj,Zfn,hL.1,h4]
    ·rw[Ze0]
     simp[hL.2]
   ·subst h3;subst h5
    refine⟨?_,?_⟩
    ·unfold Zbk
     simp[Zmj,Zfn,hL.1,h4]
    ·rw[Ze0]
     simp[hL.2]
   ·subst h3
    rw[if_neg (by decide),if_neg (by decide),if_pos rfl,Zrv ks.length c (by omega) h4 h5]
    refine⟨?_,?_⟩
    ·unfold Zbk
     rw[if_neg (by decide)]
     simp only[Zmj,Zfn,hL.1,Bool.and_true,Bool.and_eq_true,Bool.or_eq_true,beq_iff_eq,decide_eq_true_eq]
     refine⟨⟨.inr ⟨⟨?_,by omega⟩,by omega⟩,?_⟩,?_⟩<;>simp
    ·rw[Ze0,if_neg (by decide),if_neg (by decide),if_neg (by decide),if_pos rfl,Zfn,Zrv ks.length _ (by omega) (by omega) (by omega),hL.2]
     congr 1
     omega
theorem Zpp:∀ ks,Zeo ks=true→Zbw ks≤1000000→Zeo (Zje ks)=true∧Zje (Zje ks)=ks
 | [],_,_=>⟨rfl,rfl⟩
 | p::ps,h,hn=>by
  unfold Zeo at h
  rw[Zbw] at hn
  rw[Bool.and_eq_true] at h
  have h1:=Ztq p h.1 (by omega)
  have h2:=Zpp ps h.2 (by omega)
  refine⟨?_,?_⟩
  ·rw[Zje,Zeo,h1.1,h2.1];rfl
  ·rw[Zje,Zje,h1.2,h2.2]
end
theorem Zlc (p:Prd) (h:Zap p=true):Zap (Ze0 p)=true:=by
 unfold Zap Zd8 at h ⊢
 simp only[Bool.and_eq_true,decide_eq_true_eq] at h ⊢
 rw[Zyd p h.2,Zye p h.2]
 exact⟨h.1,(Ztq p h.2 (by omega)).1⟩
mutual
theorem Ztr:∀ p,Zbk p=true→Zbx (Ze0 p)=(Zbx p).map Zh6
 | .mk k l r c ks,h=>by
  unfold Zbk at h
  rw[Ze0]
  by_cases hk:k=0
  ·rw[if_pos hk] at h ⊢
   simp only[Bool.and_eq_true] at h
   obtain⟨⟨⟨h1,h2⟩,h3⟩,h4⟩:=h
   have hkn:ks=[]:=by simpa using h1
   subst hkn
   subst hk
   rw[Zyf c h4]
   simp[Zbx,Zby,Zh6]
  ·rw[if_neg hk] at h ⊢
   simp only[Bool.and_eq_true] at h
   rw[Zbx,Zbx,Zpq ks h.2,if_neg hk]
   have h0:¬ (if k=1 then (2:Int) else if k=2 then 1 else k)=0:=by
    split
    ·decide
    ·split
     ·decide
     ·exact hk
   rw[if_neg h0]
   rfl
theorem Zpq:∀ ks,Zeo ks=true→Zby (Zje ks)=(Zby ks).map Zh6
 | [],_=>rfl
 | p::ps,h=>by
  unfold Zeo at h
  rw[Bool.and_eq_true] at h
  rw[Zje,Zby,Zby,Ztr p h.1,Zpq ps h.2,List.map_append]
end
theorem Z8m {m:List Ky} (h:Zo1 m):m.Nodup:=h.imp (fun {a b} hab e=>by rw[e,Zdv] at hab;cases hab)
theorem Zyh:∀ (l m:List Ky),l.Nodup→(∀ x∈l,x∈m)→l.length≤m.length
 | [],m,_,_=>Nat.zero_le _
 | x::l,m,h,hs=>by
  rw[List.nodup_cons] at h
  have hx:=hs x (List.mem_cons_self ..)
  have:=Zyh l (m.erase x) h.2 (fun y hy=>(List.mem_erase_of_ne (by rintro rfl;exact h.1 hy)).2 (hs y (List.mem_cons_of_mem _ hy)))
  rw[List.length_erase_of_mem hx] at this
  have hp:0<m.length:=List.length_pos_of_mem hx
  rw[List.length_cons]
  omega
theorem Zyi (p:Prd) (h:Zbk p=true) (x:Ky):x∈Zak (Ze0 p)↔Zh6 x∈Zak p:=by
 rw[Zbc,Zbc,Ztr p h,List.mem_map]
 constructor
 ·rintro⟨y,hy,rfl⟩;rw[Zkk];exact hy
 ·intro hx;exact⟨Zh6 x,hx,Zkk x⟩
mutual
theorem Zpr (f g:Ky→Bool):∀ p,Zbk p=true→Za5 p≤1000000→(∀ k∈Zbx p,g (Zh6 k)=!f k)→Zas g (Ze0 p)=!Zas f p
 | .mk k l r c ks,h,hn,hf=>by
  unfold Zbk at h
  rw[Za5] at hn
  rw[Zbx] at hf
  rw[Ze0]
  by_cases hk:k=0
  ·rw[if_pos hk] at h ⊢
   simp only[Bool.and_eq_true] at h
   obtain⟨⟨⟨h1,h2⟩,h3⟩,h4⟩:=h
   rw[Zyf c h4,Zas,if_pos rfl,Zas,if_pos hk]
   exact hf ⟨l,r,c⟩ (by rw[if_pos hk];simp)
  ·rw[if_neg hk] at h ⊢
   simp only[Bool.and_eq_true,beq_iff_eq] at h
   obtain⟨⟨⟨h1,rfl⟩,rfl⟩,h2⟩:=h
   have hL:=Zts f g ks h2 (by omega) (fun k hk'=>hf k (List.mem_append_right _ hk'))
   have hlen:=Zoa ks
   unfold Zmj at h1
   simp only[Bool.or_eq_true,Bool.and_eq_true,beq_iff_eq,decide_eq_true_eq] at h1
   rcases h1 with ⟨⟨h3 | h3,h4⟩,h5⟩ | ⟨⟨h3,h4⟩,h5⟩
   ·subst h3;subst h5
    simp only[Zas,Zfn]
    simp
    rw[Bool.eq_iff_iff];simp
    omega
   ·subst h3;subst h5
    simp only[Zas,Zfn]
    simp
    rw[Bool.eq_iff_iff];simp
    omega
   ·subst h3
    rw[if_neg (by decide),if_neg (by decide),if_pos rfl,Zrv ks.length c (by omega) h4 h5]
    simp only[Zas,Zfn]
    simp
    rw[Bool.eq_iff_iff];simp
    omega
theorem Zts (f g:Ky→Bool):∀ ks,Zeo ks=true→Zbw ks≤1000000→(∀ k∈Zby ks,g (Zh6 k)=!f k)→Zim g (Zje ks)+Zim f ks=ks.length
 | [],_,_,_=>rfl
 | p::ps,h,hn,hf=>by
  unfold Zeo at h
  rw[Zbw] at hn
  rw[Zby] at hf
  rw[Bool.and_eq_true] at h
  have h1:=Zpr f g p h.1 (by omega) (fun k hk=>hf k (List.mem_append_left _ hk))
  have h2:=Zts f g ps h.2 (by omega) (fun k hk=>hf k (List.mem_append_right _ hk))
  rw[Zje,Zim,Zim,h1,List.length_cons]
  cases Zas f p<;>simp<;>omega
end
theorem Zb4 {p:Prd} (h:Zap p=true):Zbk p=true:=by unfold Zap at h;rw[Bool.and_eq_true] at h;exact h.2
theorem Zgj {p:Prd} (h:Zap p=true):Za5 p≤100∧Znt p≤12:=by
 unfold Zap Zd8 at h
 simp only[Bool.and_eq_true,decide_eq_true_eq] at h
 exact h.1
end
end Go.Proofs.YtmkdfbelbcocpaaGreatDoor
