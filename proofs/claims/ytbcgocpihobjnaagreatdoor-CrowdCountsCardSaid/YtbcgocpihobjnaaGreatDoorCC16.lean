import Derived.DeepKeys4
import Derived.Maps.RangeWalk
import Derived.Maps.Own
import Derived.Maps.OwnSet
import Derived.Test.YtbcgocpihobjnaaGreatDoorCC15
set_option linter.all false
set_option maxHeartbeats 8000000
set_option maxRecDepth 100000
namespace Go.Proofs.YtbcgocpihobjnaaGreatDoor
section
open Go.RowKit Go.Sort Go.Maps
structure KyOk (k:Ky):Prop where
 lb:∀ y∈k.l,y<256
 rb:∀ y∈k.r,y<256
 ll:k.l.length<=maxLen
 rl:k.r.length<=maxLen
 lo:-9223372036854775808<=k.c
 hi:k.c<=9223372036854775807
theorem KyOk.bytes{k:Ky}(h:KyOk k):KyB k:=⟨h.lb,h.rb⟩
theorem Zzp:laidOutB Tryz.prog=true:=by kernel_rfl
theorem Z45:(121:TypeId) < Tryz.prog.types.size:=of_decide_eq_true (by kernel_rfl)
theorem Z4d:Tryz.prog.keyTypeAt 2 121=true:=by kernel_rfl
theorem Z3c:WideMaps.KeyLaw Tryz.prog 121:=deep_law_laid Zzp (m:=2) (by omega) Z45 Z4d (by rw[Tryz.underlying121])
theorem Zsx:Keyed Tryz.prog 121:=Keyed.of_law Z3c
def Zdj(k:Ky):Lit:=.string (keyBytes [.string (Zad k.l).data.toList,.string (Zad k.r).data.toList,.int .i64 k.c])
theorem Z11:Tryz.prog.keyType 121=true:=by kernel_rfl
theorem Zri:Tryz.prog.cellsOf 121=3:=by kernel_rfl
theorem Z12:∃ n,Tryz.prog.types.size+1=n+2:=by
 refine⟨Tryz.prog.types.size-1,?_⟩;have h:1<=Tryz.prog.types.size:=of_decide_eq_true (by kernel_rfl);omega
theorem Zg3(k:Ky)(h:KyOk k):keyOf Tryz.prog 121 (.agg (kyC k).toArray)=some (Zdj k):=by
 obtain⟨n,hn⟩:=Z12
 have hf:(Value.agg (kyC k).toArray).formed Tryz.prog 121=true:=by
  unfold Value.formed;rw[Tryz.underlying121];simp[kyC,Zri]
 have h1:(Zad k.l).size<=maxLen:=by rw[Zbc];exact h.ll
 have h2:(Zad k.r).size<=maxLen:=by rw[Zbc];exact h.rl
 have h3:(Lit.int .i64 k.c).wf=true:=by
  have e1:IntKind.i64.min = -9223372036854775808:=by decide
  have e2:IntKind.i64.max=9223372036854775807:=by decide
  show(decide (IntKind.i64.min<=k.c)&&decide (k.c<=IntKind.i64.max))=true;rw[e1,e2,decide_eq_true h.lo,decide_eq_true h.hi];rfl
 have c9:Tryz.prog.cellsOf 9=1:=by kernel_rfl
 have c3:Tryz.prog.cellsOf 3=1:=by kernel_rfl
 unfold keyOf;rw[Tryz.underlying121];simp only[Z11,hf,Bool.and_self,if_true,hn]
 have hx:Tryz.prog.keyLits (n+2) 121 (kyC k)=some [.string (Zad k.l).data.toList,.string (Zad k.r).data.toList,.int .i64 k.c]:=by
  unfold Program.keyLits;rw[Tryz.underlying121];simp[kyC,Zri,c9,c3,Program.keyLits,Tryz.underlying9,Tryz.underlying3,h1,h2,h3]
 show(Tryz.prog.keyLits (n+2) 121 ((kyC k).toArray.toList)).map (fun ls=>Lit.string (keyBytes ls))=some (Zdj k);rw[List.toList_toArray,hx];rfl
theorem Zob(k k':Ky)(h:KyOk k)(h':KyOk k')(e:Zdj k=Zdj k'):k=k':=by
 have h1:=Zg3 k h;have h2:=Zg3 k' h';rw[e] at h1;have:=Zsx.inj h1 h2;obtain⟨l,r,c⟩:=k;obtain⟨l',r',c'⟩:=k';simp only[kyC,Value.agg.injEq,List.toArray_inj,Array.mk.injEq,List.cons.injEq,Value.string.injEq,Value.int.injEq,and_true,true_and] at this;obtain⟨e1,e2,e3⟩:=this;have f1:l=l':=Ze2 l l' h.lb h'.lb (by rw[<- Zca,<- Zca,e1]);have f2:r=r':=Ze2 r r' h.rb h'.rb (by rw[<- Zca,<- Zca,e2]);subst f1;subst f2;subst e3;rfl
end
section
def Zil(l:List Nat):Bool:=l==[]||Za5 l
def inC(c:Int):Bool:=decide (-1099511627776<=c)&&decide (c<1099511627776)
def Zdk(k:Int)(n:Nat)(c:Int):Bool:=((k==1||k==2)&&decide (2<=n)&&c==0)||(k==3&&decide (1<=c)&&decide (c<=(n:Int)))
mutual
def Zay:Prd->Bool
 | .mk k l r c ks=>if k=0 then(ks.isEmpty&&Zil l&&Zil r&&inC c) else(Zdk k ks.length c&&l==[]&&r==[]&&Zim ks)
def Zim:List Prd->Bool
 | []=>true
 | p::ps=>Zay p&&Zim ps
end
def Zba(p:Prd):Bool:=Zc6 p&&Zay p
theorem Zjk:∀ ks:List Prd,Zim ks=true↔∀ q∈ks,Zay q=true
 | []=>by simp[Zim]
 | p::ps=>by simp[Zim,Zjk ps]
theorem Z13{c:Nat}(h:Zf4 c=true):c<128:=by
 simp only[Zf4,Znn,Zy1,Bool.or_eq_true,đi,decide_eq_true_eq,beq_iff_eq] at h;omega
theorem Zoc{l:List Nat}(h:Zdo l=true):(∀ y∈l,y<128/\y≠46)/\l.length<=20:=by
 simp only[Zdo,đi,decide_eq_true_eq] at h;refine⟨fun y hy=>?_,h.1.2⟩;have:=List.all_eq_true.1 (Zmk Zf4 l ▸ h.2) y hy;refine⟨Z13 this,?_⟩;rintro rfl;exact absurd this (by decide)
theorem Zjl{l:List Nat}(h:Za5 l=true):∃ a b,l=a++46::b/\Zbz a=true/\Zbz b=true/\(∀ y∈a,y<128/\y≠46)/\(∀ y∈b,y<128/\y≠46)/\a.length<=20/\b.length<=20:=by
 unfold Za5 at h;simp only[đi,decide_eq_true_eq] at h;obtain⟨h0,h1,h2⟩:=h;have f1:=Zoc (l:=l.take (Zbh Zai l)) (by unfold Zbz at h1;simp at h1;exact h1.1);have f2:=Zoc (l:=l.drop (Zbh Zai l+1)) (by unfold Zbz at h2;simp at h2;exact h2.1);refine⟨l.take (Zbh Zai l),l.drop (Zbh Zai l+1),?_,h1,h2,f1.1,f2.1,f1.2,f2.2⟩
 have hd:l[Zbh Zai l]?=some 46:=by
  have hx:l=l.takeWhile Zai++l.dropWhile Zai:=(List.takeWhile_append_dropWhile).symm;have hl:(l.takeWhile Zai).length=Zbh Zai l:=rfl
  have hne:l.dropWhile Zai≠[]:=by
   intro h;rw[h,List.append_nil] at hx;rw[<- hl,<- hx] at h0;exact absurd h0 (Nat.lt_irrefl _)
  obtain⟨c,r,hcr⟩:=List.exists_cons_of_ne_nil hne
  have hc:Zai c=false:=by
   have:=List.head_dropWhile_not Zai hne;simpa [hcr] using this
  have:c=46:=by simpa [Zai] using hc
  subst this;have e:l[Zbh Zai l]?=(l.takeWhile Zai++l.dropWhile Zai)[Zbh Zai l]?:=congrArg (fun m=>m[Zbh Zai l]?) hx;rw[e,List.getElem?_append_right (by rw[hl];exact đd _),hl,Nat.sub_self,hcr];rfl
 have h1:l=l.take (Zbh Zai l)++l.drop (Zbh Zai l):=(List.take_append_drop _ _).symm
 have h2:l.drop (Zbh Zai l)=46::l.drop (Zbh Zai l+1):=by
  have:=(đg.1 hd);rw[List.drop_eq_getElem_cons this.1,this.2]
 rw[h2] at h1;exact h1
theorem Zmy{l:List Nat}(h:Zil l=true):(∀ y∈l,y<256)/\l.length<=41:=by
 unfold Zil at h;rw[Bool.or_eq_true,beq_iff_eq] at h;rcases h with rfl | h
 ·simp
 ·obtain⟨a,b,rfl,_,_,h1,h2,h3,h4⟩:=Zjl h
  refine⟨fun y hy=>?_,by simp;omega⟩;rcases đt.1 hy with hy | hy
  ·have:=(h1 y hy).1;omega
  ·rcases List.mem_cons.1 hy with rfl | hy
   ·omega
   ·have:=(h2 y hy).1;omega
theorem Z3d{l r:List Nat}{c:Int}(hl:Zil l=true)(hr:Zil r=true)(hc:inC c=true):KyOk ⟨l,r,c⟩:=by
 have h1:=Zmy hl;have h2:=Zmy hr;unfold inC at hc;simp only[đi,decide_eq_true_eq] at hc
 have hm:41<=maxLen:=by decide
 exact⟨h1.1,h2.1,đo h1.2 hm,đo h2.2 hm,by show _<=c;omega,by show c<=_;omega⟩
mutual
theorem Zev:∀ p:Prd,Zay p=true->∀ k∈Zdy p,KyOk k
 | .mk k l r c ks,h=>by
  unfold Zay at h;unfold Zdy;by_cases h0:k=0
  ·rw[if_pos h0] at h ⊢
   simp only[đi] at h
   have hk:ks=[]:=by simpa using h.1.1.1
   subst hk;intro x hx;rw[show Zcc []=[] from rfl,List.append_nil,List.mem_singleton] at hx;subst hx;exact Z3d h.1.1.2 h.1.2 h.2
  ·rw[if_neg h0] at h ⊢
   simp only[đi] at h;intro x hx;rw[List.nil_append] at hx;exact Zlv ks h.2 x hx
theorem Zlv:∀ ks:List Prd,Zim ks=true->∀ k∈Zcc ks,KyOk k
 | [],_=>by simp[Zcc]
 | p::ps,h=>by
  unfold Zim at h;rw[đi] at h;intro x hx;unfold Zcc at hx;rcases đt.1 hx with hx | hx
  ·exact Zev p h.1 x hx
  ·exact Zlv ps h.2 x hx
end
theorem Zsy(ks:List Prd)(i:Nat)(q:Prd)(h:ks[i]?=some q):Zcc (ks.take (i+1))=Zcc (ks.take i)++Zdy q:=by
 obtain⟨hi,rfl⟩:=đg.1 h;rw[đv,đb hi,Znp];simp[Zcc]
end
section
mutual
def Zbs(f:Ky->Bool):Prd->Bool
 | .mk k l r c ks=>if k=0 then f ⟨l,r,c⟩ else if k=1 then Zgn f ks==ks.length else if k=2 then decide (0<Zgn f ks) else decide (c<=(Zgn f ks:Int))
def Zgn(f:Ky->Bool):List Prd->Nat
 | []=>0
 | p::ps=>(if Zbs f p=true then 1 else 0)+Zgn f ps
end
theorem Zjm(f:Ky->Bool)(a b:List Prd):Zgn f (a++b)=Zgn f a+Zgn f b:=by
 induction a with
 | nil=>simp[Zgn]
 | cons p ps ih=>simp only[List.cons_append,Zgn,ih];omega
theorem Zvm(f:Ky->Bool)(ks:List Prd)(i:Nat)(q:Prd)(h:ks[i]?=some q):Zgn f (ks.take (i+1))=Zgn f (ks.take i)+(if Zbs f q=true then 1 else 0):=by
 obtain⟨hi,rfl⟩:=đg.1 h;rw[đv,đb hi,Zjm];simp[Zgn]
end
section
open Go.RowKit Go.Sort Go.Maps
def Zgo(w:World)(b:Nat)(S:List Ky):Prop :=
 ∃ D:DataW Unit,w.ownsMap Tryz.prog 121 (plainElem Tryz.prog 4) b S.length D/\(∀ l,has D l=true↔∃ k∈S,Zdj k=l)/\∀ k∈S,∀ zd,D.atKey (Zdj k) zd = .lit (.bool true)
theorem Zde{w w':World}(h:Below w.heap.size w w')(row:Option Nat):w.grownBy w' row:=⟨h.os,h.tape,h.output,h.size,fun i hi _=>h.block i hi⟩
theorem Zc1{w w':World}{b:Nat}(h:w.grownBy w' (some b)):Only w w' (· = b):=⟨h.os,h.tape,h.output,h.size,fun i hi hp=>h.block i hi (fun e=>hp (đa e))⟩
theorem Zgo.lt{w:World}{b:Nat}{S:List Ky}(h:Zgo w b S):b<w.heap.size:=by
 obtain⟨D,h1,_⟩:=h;exact h1.lt
theorem Zgo.step{w w':World}{b:Nat}{S:List Ky}(h:Zgo w b S)(hb:Below w.heap.size w w'):Zgo w' b S:=by
 obtain⟨D,h1,h2⟩:=h;exact⟨D,h1.kept (Zde hb none) (by simp),h2⟩
theorem Zgo.only{w w':World}{b:Nat}{S:List Ky}{p:Nat->Prop}(h:Zgo w b S)(hb:Only w w' p)(hp:¬ p b):Zgo w' b S:=by
 have hl:=h.lt;obtain⟨D,h1,h2⟩:=h;obtain⟨es,clock,e1,F,hs,hD⟩:=h1;exact⟨D,⟨es,clock,(hb.block b hl hp).trans e1,F,hs,hD⟩,h2⟩
theorem Zgo.nil(w:World):Zgo (w.alloc (.map #[] 0)) w.heap.size []:=by
 refine⟨_,World.ownsMap_made w _ _ _,fun l=>?_,fun k hk=>absurd hk List.not_mem_nil⟩;constructor
 ·intro h;cases h
 ·rintro⟨k,hk,_⟩;exact absurd hk List.not_mem_nil
theorem Zjn(k:Ky)(h:KyOk k):WideAt.IsKeyLit (Zdj k):=Zsx.key (Zg3 k h)
theorem Zgo.put {w w':World} {b:Nat} {S:List Ky} {D:DataW Unit} (hS:∀ k∈S,KyOk k) (k:Ky) (hk:KyOk k) (h:w.ownsMap Tryz.prog 121 (plainElem Tryz.prog 4) b S.length D) (h1:∀ l,has D l=true↔∃ k∈S,Zdj k=l) (h2:∀ k∈S,∀ zd,D.atKey (Zdj k) zd = .lit (.bool true))
  (h':w'.ownsMap Tryz.prog 121 (plainElem Tryz.prog 4) b (S.length+1) (D.put (Zdj k) (.lit (.bool true)))):Zgo w' b (S++[k]):=by
 refine⟨_,by rw[đn];exact h',fun l=>?_,fun x hx zd=>?_⟩
 ·by_cases he:l=Zdj k
  ·subst he
   rw[has_put_same h.isMap (Zjn k hk)];exact⟨fun _=>⟨k,by simp,rfl⟩,fun _=>rfl⟩
  ·rw[has_put_other he,h1]
   constructor
   ·rintro⟨x,hx,hl⟩;exact⟨x,by simp[hx],hl⟩
   ·rintro⟨x,hx,hl⟩
    rcases đt.1 hx with hx | hx
    ·exact⟨x,hx,hl⟩
    ·rw[List.mem_singleton] at hx
     subst hx;exact absurd hl.symm he
 ·by_cases he:Zdj x=Zdj k
  ·rw[he,atKey_put_same h.isMap (Zjn k hk)]
  ·rw[atKey_put_other he]
   rcases đt.1 hx with hx | hx
   ·exact h2 x hx zd
   ·rw[List.mem_singleton] at hx
    subst hx;exact absurd rfl he
theorem Zzq(w:World)(l r:List Nat)(c:Int)(ao:Option Addr)(cap b:Nat)(S:List Ky)(hS:∀ k∈S,KyOk k)(hk:KyOk ⟨l,r,c⟩)(h:Zgo w b S)(hn:S.length<1000000) :
  Calls Tryz.prog 146 #[.agg #[.int .i64 0,.string (Zad l),.string (Zad r),.int .i64 c,.slice ao 0 cap],.map (some b)] w fun e w'=>e = .returned (.tuple #[])/\Zgo w' b (S++[⟨l,r,c⟩])/\Only w w' (· = b):=by
 have bx:=(đc w.heap.size w).alloc (đd _) (.cells #[.int .i64 0,.string (Zad l),.string (Zad r),.int .i64 c,.slice ao 0 cap] 54);have S1:=ħ (h.step bx);have O1:=ħ (Only.of_below (p:=(· = b)) bx);have X1:Hid (Zae (w.alloc (.cells #[.int .i64 0,.string (Zad l),.string (Zad r),.int .i64 c,.slice ao 0 cap] 54)) w.heap.size 54 [.int .i64 0,.string (Zad l),.string (Zad r),.int .i64 c,.slice ao 0 cap]):=ħ (heap_alloc_new w _);have HK:=ħ (fun w=>Zn3 0 l r c (.slice ao 0 cap) rfl w);have HKO:=ħ hk;have HKY:=ħ (Zg3 _ hk);have HS:=ħ hS;have HN:Hid (S.length<maxLen):=ħ (Nat.lt_trans hn (by decide));have hkc:(Z30 l r c).toArray=(kyC ⟨l,r,c⟩).toArray:=rfl;rw[hkc] at HK;have XB:Hid (b<w.heap.size):=ħ h.lt;have HKC:Hid ((kyC ⟨l,r,c⟩).toArray=(kyC ⟨l,r,c⟩).toArray):=ħ rfl;clear bx h hk hS hn hkc;generalize hKY:(⟨l,r,c⟩:Ky)=K at *;clear hKY;generalize Zad l=y at *;generalize Zad r=z at *;generalize (kyC K).toArray=kv at *
 go_enter Tryz.func146,Tryz.ntmps146
 go_upto_region 1 with(fail)
 generalize w.alloc (.cells #[.int .i64 0,.string y,.string z,.int .i64 c,.slice ao 0 cap] 54)=w1 at *;have x0:=X1.o.cell 0 _ rfl
 go_wp2_with (refine wpList_load_row rfl 54 (.tmp 2) rfl w.heap.size ?x1 54 (Z31 0 y z c ao 0 cap).toArray (0,0) _ X1.o Tryz.underlying54 rfl (Za4 _ rfl) ?_;(case x1=>rfl))
 refine(HK.o w1).mono ?_;rintro e w2 ⟨rfl,b2⟩;have S2:=ħ (S1.o.step b2);have O2:=ħ (O1.o.step b2);have X2:=ħ (X1.o.step b2);clear b2 x0 X1 S1 O1;obtain⟨D,hown,hh,ha⟩:=S2.o;have HH:=ħ hh;have HA:=ħ ha;have HO:=ħ hown;clear hh ha hown
 go_wp2_with (at_mapUpdate;refine wpList_mapUpdate_own _ rfl (.tmp 9) (.tmp 11) _ 166 rfl 121 4 Zsx Tryz.underlying166 (plainElem Tryz.prog 4) b S.length D rfl HO.o HN.o (.agg kv) (.bool true) (Zdj K) rfl rfl HKY.o (.lit (.bool true)) [] (plainElem_bool Tryz.underlying4 true) ?_;intro w3 hown3 hgrow3;have S3:=ħ (Zgo.put HS.o K HKO.o HO.o HH.o HA.o hown3);have O3:=ħ (O2.o.trans (Zc1 hgrow3));have X3:=ħ (X2.o.grownBy hgrow3 (by intro e;have:=XB.o;have:=đa e;omega));have x4:=X3.o.cell 4 _ rfl;clear hown3 hgrow3)
 refine wp_loop_rounds 1 ?_;rw[rounds_succ];go_wp2
 go_end0
 exact⟨rfl,S3.o,O3.o⟩
theorem Zzr (w:World) (P:Nat->Prop) (κ:Int) (l r:List Nat) (c:Int) (ks:List Prd) (ao:Option Addr) (n cap:Nat) (hκ:κ≠0) (hn:n=ks.length) (hbig:n<=1000000)
  (hk:ks=[]\/∃ g off,ao=some ⟨g,off,none⟩/\P g/\g<w.heap.size/\Zbe w P ks g off)
  (b:Nat) (S:List Ky) (h:Zgo w b S) (hPb:∀ g,P g->g≠b)
  (ih:∀ (q:Prd) (w:World) (vs:List Value) (pre:List Prd),q∈ks->pre++[q] <+: ks->Zao w P q vs->Zgo w b (S++Zcc pre)->Calls Tryz.prog 146 #[.agg vs.toArray,.map (some b)] w fun e w'=>e = .returned (.tuple #[])/\Zgo w' b (S++Zcc pre++Zdy q)/\Only w w' (· = b)) :
  Calls Tryz.prog 146 #[.agg #[.int .i64 κ,.string (Zad l),.string (Zad r),.int .i64 c,.slice ao n cap],.map (some b)] w fun e w'=>e = .returned (.tuple #[])/\Zgo w' b (S++Zcc ks)/\Only w w' (· = b):=by
 have HK:=ħ hk;have IH:=ħ ih;have HN:=ħ hn;have HPB:=ħ hPb;have hκb:(κ==0)=false:=beq_eq_false_iff_ne.mpr hκ;have bx:=(đc w.heap.size w).alloc (đd _) (.cells #[.int .i64 κ,.string (Zad l),.string (Zad r),.int .i64 c,.slice ao n cap] 54);have S1:=ħ (h.step bx);have O1:=ħ (Only.of_below (p:=(· = b)) bx);have X1:Hid (Zae (w.alloc (.cells #[.int .i64 κ,.string (Zad l),.string (Zad r),.int .i64 c,.slice ao n cap] 54)) w.heap.size 54 [.int .i64 κ,.string (Zad l),.string (Zad r),.int .i64 c,.slice ao n cap]):=ħ (heap_alloc_new w _);clear bx h hk ih hn hPb hκ;generalize Zad l=y at *;generalize Zad r=z at *
 go_enter Tryz.func146,Tryz.ntmps146
 go_upto_region 1 with(fail)
 generalize w.alloc (.cells #[.int .i64 κ,.string y,.string z,.int .i64 c,.slice ao n cap] 54)=w1 at *;have x0:=X1.o.cell 0 _ rfl;have x4:=X1.o.cell 4 _ rfl
 go_wp2_with fail
 clear x4 x0 X1
 go_loopw [15] (fun cc wr=>∃ (i:Nat),cc = .int .i64 i/\i<=n/\Hid (Zgo wr b (S++Zcc (ks.take i)))/\Hid (Only w wr (· = b))) (fun c _=>(n-intOf c).toNat)
 case atStart=>exact⟨0,rfl,by omega,ħ (by simpa [Zcc] using S1.o),O1⟩
 case round =>
  clear S1 O1;obtain⟨i,rfl,hi,hq,ho⟩:=hrel;have e2:IntKind.i64.wrap ((i:Int)+1)=((i+1:Nat):Int):=đh _ (by omega);by_cases hlt:i<n
  ·have ii:(i:Int)<n:=by omega
   have HQ:Hid (∃ q,ks[i]?=some q/\∃ g off,ao=some ⟨g,off,none⟩/\g<w.heap.size/\∃ vs,Zao wr P q vs/\Zav wr g (off+i*5) vs):=ħ (by
    have hl:i<ks.length:=by rw[<- HN.o];exact hlt
    refine⟨ks[i],đb hl,?_⟩;rcases HK.o with h | ⟨g,off,h1,h2,h3,h4⟩
    ·rw[h] at hl;exact absurd hl (đu _)
    ·obtain⟨vs,hv1,hv2⟩:=Zbe.at ks g off i _ (đb hl) h4
     exact⟨g,off,h1,h3,vs,Zao.keep (fun x hx hl=>ho.o.block x hl (HPB.o x hx)) ho.o.size (fun x hx _=>hx) _ _ hv1,hv2.of_block (ho.o.block g h3 (HPB.o g h2))⟩)
   obtain⟨q,hqi,g,off,hao,hg,vs,hpc,hrd⟩:=HQ.o;clear HQ;have HQI:=ħ hqi;obtain⟨xa,xn,xc,hvf,-⟩:=hpc.form;rw[hvf] at hrd hpc;have PC:=ħ hpc;have s0:=hrd 0 _ rfl;have s1:=hrd 1 _ rfl;have s2:=hrd 2 _ rfl;have s3:=hrd 3 _ rfl;have s4:=hrd 4 _ rfl;clear hrd hpc hvf vs hqi;rw[Nat.add_zero] at s0;have HAO:=ħ hao;subst hao;generalize q.k=q0 at *;generalize Zad q.l=q1 at *;generalize Zad q.r=q2 at *;generalize q.c=q3 at *
   go_wp2_with fail
   have bx:=(đc wr.heap.size wr).alloc (đd _) (.cells #[.int .i64 q0,.string q1,.string q2,.int .i64 q3,.slice xa xn xc] 54);have hq2:=ħ (hq.o.step bx);have ho2:=ħ (ho.o.step bx);have PX:=ħ (PC.o.below bx);clear s0 s1 s2 s3 s4 bx hq ho PC;generalize wr.alloc (.cells #[.int .i64 q0,.string q1,.string q2,.int .i64 q3,.slice xa xn xc] 54)=wx at *
   have HPRE:Hid (ks.take i++[q] <+: ks):=ħ (by
    have:ks.take i++[q]=ks.take (i+1):=by rw[đv,HQI.o];rfl
    rw[this];exact List.take_prefix _ _)
   refine(IH.o q wx _ (ks.take i) (đe HQI.o) HPRE.o PX.o hq2.o).mono ?_;rintro e w3 ⟨rfl,s3,o3⟩;have S3:=ħ (show Zgo w3 b (S++Zcc (ks.take (i+1))) by rw[Zsy ks i q HQI.o,<- List.append_assoc];exact s3);have O3:=ħ (ho2.o.trans o3);clear s3 o3 hq2 ho2
   go_wp2
   go_roundw
   case rel=>exact⟨i+1,by go_num,by omega,S3,O3⟩
   case measure=>simp only[intOf];omega
  ·have ii:¬ ((i:Int)<n):=by omega
   have HT:Hid (ks.take i=ks):=ħ (by rw[show i=ks.length by rw[<- HN.o];omega,List.take_length])
   go_wp2
   go_end0
   exact⟨rfl,by have:=hq.o;rwa [HT.o] at this,ho.o⟩
theorem Zjo:∀ (N:Nat) (p:Prd) (w:World) (P:Nat->Prop) (vs:List Value) (b:Nat) (S:List Ky),Zb0 p<=N->Zay p=true->S.length+Zb0 p<=1000000->(∀ k∈S,KyOk k)->Zao w P p vs->Zgo w b S->(∀ g,P g->g≠b) ->
  Calls Tryz.prog 146 #[.agg vs.toArray,.map (some b)] w fun e w'=>e = .returned (.tuple #[])/\Zgo w' b (S++Zdy p)/\Only w w' (· = b)
 | 0,p,w,P,vs,b,S,hN,_,_,_,_,_,_=>by have:=Zek p;omega
 | N+1,.mk κ l r c ks,w,P,vs,b,S,hN,hf,hc,hS,h,hs,hPb=>by
  have hc2:Zb2 ks<=N:=by unfold Zb0 at hN;omega
  have hl:=Zbq ks
  have hc3:S.length+(1+Zb2 ks)<=1000000:=by unfold Zb0 at hc;exact hc
  have HFK:=Zev _ hf;unfold Zao at h;obtain⟨ao,cap,rfl,hk⟩:=h;unfold Zay at hf;by_cases hκ:κ=0
  ·rw[if_pos hκ] at hf
   simp only[đi] at hf
   have hkn:ks=[]:=by simpa using hf.1.1.1
   subst hkn;subst hκ;have:=Zzq w l r c ao cap b S hS (Z3d hf.1.1.2 hf.1.2 hf.2) hs (by omega);simpa [Zdy,Zcc] using this
  ·rw[if_neg hκ] at hf
   simp only[đi] at hf;have hfk:=(Zjk ks).1 hf.2
   have:=Zzr w P κ l r c ks ao ks.length cap hκ rfl (by omega) hk b S hs hPb (fun q w' us pre hq hpre hpc hs'=>by
    obtain⟨i,hi⟩:=đs.1 hq;have hck:=Zel ks i q hi;obtain⟨tl,htl⟩:=hpre
    have hcp:Zb2 pre+Zb0 q<=Zb2 ks:=by
     rw[<- htl,Zdx,Zdx];simp[Zb2]
    have hkl:=Zi6 pre
    exact Zjo N q w' P us b (S++Zcc pre) (by omega) (hfk q hq) (by rw[đn];omega) (fun k hk'=>by
     rcases đt.1 hk' with hk' | hk'
     ·exact hS k hk'
     ·obtain⟨q',hq',hkq⟩:=(Zi4 k pre).1 hk'
      have:q'∈ks:=by rw[<- htl];simp[hq']
      exact Zev q' (hfk q' this) k hkq) hpc hs' hPb)
   have e:Zdy (.mk κ l r c ks)=Zcc ks:=by unfold Zdy;rw[if_neg hκ,List.nil_append]
   rw[e];exact this
end
section
theorem Zho{p:Prd}(h:Zba p=true):Zay p=true:=by unfold Zba at h;rw[đi] at h;exact h.2
theorem Zzs{p:Prd}(h:Zba p=true):Zb0 p<=100/\Zi1 p<=12:=by
 unfold Zba Zc6 at h;simp only[đi,decide_eq_true_eq] at h;exact h.1
end
end Go.Proofs.YtbcgocpihobjnaaGreatDoor
