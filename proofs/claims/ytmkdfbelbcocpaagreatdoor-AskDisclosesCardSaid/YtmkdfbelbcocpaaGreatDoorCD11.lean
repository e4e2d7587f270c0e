import Derived.Test.YtmkdfbelbcocpaaGreatDoorCD9
import Derived.Test.YtmkdfbelbcocpaaGreatDoorCD0
set_option linter.unusedVariables false
set_option linter.unusedSimpArgs false
set_option maxHeartbeats 16000000
set_option maxRecDepth 100000
namespace Go.Proofs.YtmkdfbelbcocpaaGreatDoor
section
open Go.RowKit
def Z7x:List (List Nat):=[[60,61],[60],[62,61],[62],[61],[33,61]]
theorem Zxu {ts:List Tok} {i j:Nat} {s:List Nat} (h:Z7x[j]?=some s) (h1:∀ m t,m<j→Z7x[m]?=some t→isP ts t i=false) (h2:isP ts s i=true):Z7u ts i=some j:=by
 unfold Z7u
 match j,h with
 | 0,h=>cases h;rw[if_pos h2]
 | 1,h=>cases h;rw[h1 0 _ (by omega) rfl,if_neg (by simp),if_pos h2]
 | 2,h=>cases h;rw[h1 0 _ (by omega) rfl,h1 1 _ (by omega) rfl,if_neg (by simp),if_neg (by simp),if_pos h2]
 | 3,h=>cases h;rw[h1 0 _ (by omega) rfl,h1 1 _ (by omega) rfl,h1 2 _ (by omega) rfl,if_neg (by simp),if_neg (by simp),if_neg (by simp),if_pos h2]
 | 4,h=>cases h;rw[h1 0 _ (by omega) rfl,h1 1 _ (by omega) rfl,h1 2 _ (by omega) rfl,h1 3 _ (by omega) rfl,if_neg (by simp),if_neg (by simp),if_neg (by simp),if_neg (by simp),if_pos h2]
 | 5,h=>cases h;rw[h1 0 _ (by omega) rfl,h1 1 _ (by omega) rfl,h1 2 _ (by omega) rfl,h1 3 _ (by omega) rfl,h1 4 _ (by omega) rfl,if_neg (by simp),if_neg (by simp),if_neg (by simp),if_neg (by simp),if_neg (by simp),if_pos h2]
 | n+6,h=>exact absurd h (by rw[List.getElem?_eq_none (by show 6≤_;omega)];simp)
theorem Zxv {ts:List Tok} {i:Nat} (h1:∀ m t,m<6→Z7x[m]?=some t→isP ts t i=false):Z7u ts i=none:=by
 unfold Z7u
 rw[h1 0 _ (by omega) rfl,h1 1 _ (by omega) rfl,h1 2 _ (by omega) rfl,h1 3 _ (by omega) rfl,h1 4 _ (by omega) rfl,h1 5 _ (by omega) rfl]
 simp
theorem Zhk (n:Nat) (a b:Zfx):okT (Zde n a b)=okP n a b:=by
 unfold Zde okP
 split
 ·(first | (simp[okT,okL,Zbb,inP,Prd.c];done) | (simp[okT,okL,Zbb,inP,Prd.c];rfl))
 ·split
  ·(first | (simp[okT,okL,Zbb,inP,Prd.c];done) | (simp[okT,okL,Zbb,inP,Prd.c];rfl))
  ·split
   ·(first | (simp[okT,okL,Zbb,inP,Prd.c];done) | (simp[okT,okL,Zbb,inP,Prd.c];rfl))
   ·split
    ·(first | (simp[okT,okL,Zbb,inP,Prd.c];done) | (simp[okT,okL,Zbb,inP,Prd.c];rfl))
    ·split
     ·(first | (simp[okT,okL,Zbb,inP,Prd.c];done) | (simp[okT,okL,Zbb,inP,Prd.c];rfl))
     ·(first | (simp[okT,okL,Zbb,inP,Prd.c];done) | (simp[okT,okL,Zbb,inP,Prd.c];rfl))
theorem Zhl (n:Nat) (a b:Zfx):Za8 (Zde n a b)≤3:=by
 unfold Zde
 split
 ·simp[Za8,Zb9,Zbb]
 ·split
  ·simp[Za8,Zb9,Zbb]
  ·split
   ·simp[Za8,Zb9,Zbb]
   ·split
    ·simp[Za8,Zb9,Zbb]
    ·split
     ·simp[Za8,Zb9,Zbb]
     ·simp[Za8,Zb9,Zbb]
def Z8m (t:ByteArray) (fv:Value):List Value:=[.string t,fv]
theorem Z2h (t:ByteArray) (fv:Value):(Tryz.prog.info? 293).map (·.size)=some (Z8m t fv).toArray.size:=by
 show _=some 2
 kernel_rfl
def Z8n (k j:Nat) (fv:Value):Prop :=
 (j=0∧fv=cfn 339 #[])∨(j=1∧fv=cfn 340 #[])∨(j=2∧fv=cfn 341 #[])∨(j=3∧fv=cfn 342 #[]) ∨
 (j=4∧fv=cfn 338 #[.pointer (some ⟨k,0,none⟩),.pointer (some ⟨k+1,0,none⟩)])∨(j=5∧fv=cfn 338 #[.pointer (some ⟨k+2,0,none⟩),.pointer (some ⟨k+3,0,none⟩)])
theorem SigW.at {w:World} {g k:Nat} (h:SigW w g k) (j:Nat) (hj:j<6):∃ s fv,Z7x[j]?=some s∧(∀ y∈s,y<256)∧Z8n k j fv∧w.cell? ⟨g,j*2,none⟩=some (.string (Zad s))∧w.cell? ⟨g,j*2+1,none⟩=some fv:=by
 have ht:=fun i u hu=>h.tab i u hu
 have e:∀ i,0+i=i:=Nat.zero_add
 match j,hj with
 | 0,_=>exact⟨_,_,rfl,by decide,.inl ⟨rfl,rfl⟩,by have:=ht 0 _ rfl;simpa using this,by have:=ht 1 _ rfl;simpa using this⟩
 | 1,_=>exact⟨_,_,rfl,by decide,.inr (.inl ⟨rfl,rfl⟩),by have:=ht 2 _ rfl;simpa using this,by have:=ht 3 _ rfl;simpa using this⟩
 | 2,_=>exact⟨_,_,rfl,by decide,.inr (.inr (.inl ⟨rfl,rfl⟩)),by have:=ht 4 _ rfl;simpa using this,by have:=ht 5 _ rfl;simpa using this⟩
 | 3,_=>exact⟨_,_,rfl,by decide,.inr (.inr (.inr (.inl ⟨rfl,rfl⟩))),by have:=ht 6 _ rfl;simpa using this,by have:=ht 7 _ rfl;simpa using this⟩
 | 4,_=>exact⟨_,_,rfl,by decide,.inr (.inr (.inr (.inr (.inl ⟨rfl,rfl⟩)))),by have:=ht 8 _ rfl;simpa using this,by have:=ht 9 _ rfl;simpa using this⟩
 | 5,_=>exact⟨_,_,rfl,by decide,.inr (.inr (.inr (.inr (.inr ⟨rfl,rfl⟩)))),by have:=ht 10 _ rfl;simpa using this,by have:=ht 11 _ rfl;simpa using this⟩
 | n+6,h=>omega
theorem Z8n.one {k j:Nat} {fv:Value} (h:Z8n k j fv):fv.oneCell'=true:=by
 rcases h with ⟨_,rfl⟩ | ⟨_,rfl⟩ | ⟨_,rfl⟩ | ⟨_,rfl⟩ | ⟨_,rfl⟩ | ⟨_,rfl⟩<;>rfl
theorem Zsm (w:World) (R:Nat) (ao:Option Addr) (cap:Nat) (ts:List Tok) (sz i u B:Nat) (a:Zfx) (hT:Tab w B) (hR:B≤R) (h:ParW w R ao cap ts sz i) (hi:i≤ts.length) (hu:u≤ts.length) (hn:ts.length≤1000000) (hts:∀ t∈ts,TokOk t) (ha:SumOk a) :
  Calls Tryz.prog 247 #[.pointer (some ⟨R,0,none⟩),.agg (Zc2 a).toArray,.int .i64 (u:Int)] w fun e w'=>Zht w R ao cap ts sz (Zb3 ts sz a u i) e w':=by
 obtain⟨V,hV⟩:∃ V,Zb3 ts sz a u i=V:=⟨_,rfl⟩
 rw[hV]
 have HV:=ħ hV.symm
 clear hV
 have HSA:=ħ ha
 have HTS:=ħ hts
 have H0:=ħ h
 have RL:=ħ h.lt
 have HT:=ħ hT
 clear h hT hts ha
 have HC:Hid (∀ (b:Zfx) (j:Nat) (w:World),SumOk b→j=0→Calls Tryz.prog 339 #[.agg (Zc2 a).toArray,.agg (Zc2 b).toArray] w fun e w'=>MkR w (Zde j a b) e w'):=ħ (fun b j w hb hj=>hj ▸ Z7l a b w HSA.o hb)
 have HC1:Hid (∀ (b:Zfx) (j:Nat) (w:World),SumOk b→j=1→Calls Tryz.prog 340 #[.agg (Zc2 a).toArray,.agg (Zc2 b).toArray] w fun e w'=>MkR w (Zde j a b) e w'):=ħ (fun b j w hb hj=>hj ▸ Z7m a b w HSA.o hb)
 have HC2:Hid (∀ (b:Zfx) (j:Nat) (w:World),SumOk b→j=2→Calls Tryz.prog 341 #[.agg (Zc2 a).toArray,.agg (Zc2 b).toArray] w fun e w'=>MkR w (Zde j a b) e w'):=ħ (fun b j w hb hj=>hj ▸ Z7n a b w HSA.o hb)
 have HC3:Hid (∀ (b:Zfx) (j:Nat) (w:World),SumOk b→j=3→Calls Tryz.prog 342 #[.agg (Zc2 a).toArray,.agg (Zc2 b).toArray] w fun e w'=>MkR w (Zde j a b) e w'):=ħ (fun b j w hb hj=>hj ▸ Z7o a b w HSA.o hb)
 have HC4:Hid (∀ (b:Zfx) (j k g:Nat) (w:World),SumOk b→j=4→SigW w g k→Calls Tryz.prog 338 #[.agg (Zc2 a).toArray,.agg (Zc2 b).toArray,.pointer (some ⟨k,0,none⟩),.pointer (some ⟨k+1,0,none⟩)] w fun e w'=>MkR w (Zde j a b) e w') :=
  ħ (fun b j k g w hb hj hs=>hj ▸ Z12 a b 1 0 k (k+1) w HSA.o hb (by omega) (by omega) hs.k0 hs.k1 (by have:=hs.lk;omega) (by have:=hs.lk;omega))
 have HC5:Hid (∀ (b:Zfx) (j k g:Nat) (w:World),SumOk b→j=5→SigW w g k→Calls Tryz.prog 338 #[.agg (Zc2 a).toArray,.agg (Zc2 b).toArray,.pointer (some ⟨k+2,0,none⟩),.pointer (some ⟨k+3,0,none⟩)] w fun e w'=>MkR w (Zde j a b) e w') :=
  ħ (fun b j k g w hb hj hs=>hj ▸ Z12 a b 2 1 (k+2) (k+3) w HSA.o hb (by omega) (by omega) hs.k2 hs.k3 (by have:=hs.lk;omega) (by have:=hs.lk;omega))
 have HSC:Hid ((Zc2 a).toArray=#[.string (Zad a.1),.int .i64 a.2]):=ħ rfl
 rw[HSC.o] at HC HC1 HC2 HC3 HC4 HC5 ⊢
 generalize hx:Zad a.1=x at *
 generalize ha2:a.2=a2 at *
 have X1:Hid (Zah ((w.alloc (.cells #[.string x,.int .i64 a2] 258)).alloc (.cells #[.int .i64 0,.string ⟨#[]⟩,.string ⟨#[]⟩,.int .i64 0,.slice none 0 0] 25)) w.heap.size 258 [.string x,.int .i64 a2]):=ħ (Zar w _ _)
 have Z1:Hid (Zah ((w.alloc (.cells #[.string x,.int .i64 a2] 258)).alloc (.cells #[.int .i64 0,.string ⟨#[]⟩,.string ⟨#[]⟩,.int .i64 0,.slice none 0 0] 25)) (w.heap.size+1) 25 Zb0):=ħ (heap_alloc2_new w _ _)
 have D1:=ħ (((Below.refl w.heap.size w).alloc (Nat.le_refl _) (.cells #[.string x,.int .i64 a2] 258)).alloc (by simp) (.cells #[.int .i64 0,.string ⟨#[]⟩,.string ⟨#[]⟩,.int .i64 0,.slice none 0 0] 25))
 clear hx ha2 HSC
 go_enter Tryz.func247,Tryz.ntmps247
 go_wp2_with fail
 generalize (w.alloc (.cells #[.string x,.int .i64 a2] 258)).alloc (.cells #[.int .i64 0,.string ⟨#[]⟩,.string ⟨#[]⟩,.int .i64 0,.slice none 0 0] 25)=w1 at *
 refine (Z14 w1).mono ?_
 rintro e w2 ⟨rfl,sg,b2⟩
 have S2:=ħ sg
 have X2:=ħ (X1.o.step b2)
 have Z2:=ħ (Z1.o.step b2)
 have D2:=ħ (D1.o.trans (b2.mono D1.o.size))
 have G2:Hid (w.heap.size+1<w1.heap.size):=ħ Z1.o.lt
 clear sg b2 X1 Z1 D1
 generalize w1.heap.size=k at *
 clear w1
 obtain⟨g,hg⟩:∃ g,k+4=g:=⟨_,rfl⟩
 rw[hg] at S2 ⊢
 have GK:Hid (w.heap.size+1<k∧k<g):=ħ ⟨G2.o,by omega⟩
 clear hg G2
 go_wp2_with fail
 go_loopw [11] (fun cc wr=>∃ (j:Nat),cc = .int .i64 j∧j≤6 ∧
   Hid (Zah wr w.heap.size 258 [.string x,.int .i64 a2])∧Hid (Zah wr (w.heap.size+1) 25 Zb0)∧Hid (SigW wr g k) ∧
   Hid (Below w.heap.size w wr)∧Hid (∀ m t,m<j→Z7x[m]?=some t→isP ts t i=false)) (fun c _=>(6-intOf c).toNat)
 case atStart=>exact⟨0,rfl,by omega,X2,Z2,S2,D2,ħ (fun m t hm=>absurd hm (Nat.not_lt_zero m))⟩
 case round =>
  clear X2 Z2 S2 D2
  obtain⟨j,rfl,hj,hx,hz,hs,hw,hno⟩:=hrel
  have e2:IntKind.i64.wrap ((j:Int)+1)=((j+1:Nat):Int):=IntWalk.i64_in _ (by omega)
  have HP:=ħ (H0.o.step hw.o)
  by_cases hlt:j<6
  ·have jj:(j:Int)<6:=by omega
   obtain⟨s,fv,hcs,hsb,hfn,r0,r1⟩:=hs.o.at j hlt
   have HCS:=ħ hcs
   have HSB:=ħ hsb
   have HFN:=ħ hfn
   have h1f:fv.oneCell'=true:=hfn.one
   clear hcs hsb hfn
   have A2:=ħ ((Below.refl wr.heap.size wr).alloc (Nat.le_refl _) (.cells #[.string ⟨#[]⟩,.nilFunc] 293))
   go_wp2_with (refine Zab rfl 293 (.tmp 8) (.tmp 14) rfl wr.heap.size (Z8m (Zad s) fv).toArray ?s1 ?s2 293 _ (heap_alloc_new wr _) (Z2h _ _) rfl ?s3 ?_;(case s1=>rfl);(case s2=>rfl);(case s3=>simp[Z8m,Value.oneCell'];exact h1f);intro w2 s2 u2;have S2:Hid (Zah w2 wr.heap.size 293 (Z8m (Zad s) fv)):=ħ s2;have C2:=ħ (u2.below A2.o (Nat.le_refl _));clear s2 u2;have s20:=S2.o.cell 0 _ rfl)
   have hx2:=ħ (hx.o.step C2.o)
   have hz2:=ħ (hz.o.step C2.o)
   have hs2:=ħ (hs.o.step C2.o)
   have hw2:=ħ (hw.o.trans (C2.o.mono hw.o.size))
   have HP2:=ħ (HP.o.step C2.o)
   have GW:Hid (w.heap.size<wr.heap.size):=ħ hx.o.lt
   have XL:Hid (wr.heap.size<w2.heap.size):=ħ S2.o.lt
   clear hx hz hs hw HP A2 C2 r0 r1 s20
   generalize wr.heap.size=X at *
   clear wr
   cases hq:isP ts s i with
   | false =>
    refine (Zcd w2 R ao cap ts sz i s HP2.o hi hn HTS.o HSB.o hq).mono ?_
    rintro e w3 ⟨rfl,b3⟩
    have HQ:=ħ hq
    have hx3:=ħ (hx2.o.step b3)
    have hz3:=ħ (hz2.o.step b3)
    have hs3:=ħ (hs2.o.step b3)
    have hw3:=ħ (hw2.o.trans (b3.mono hw2.o.size))
    clear b3 hq hx2 hz2 hs2 hw2 HP2
    go_wp2
    go_roundw
    case rel=>exact⟨j+1,by go_num,by omega,hx3,hz3,hs3,hw3,ħ (fun m t hm ht=>by
     rcases Nat.lt_or_ge m j with h | h
     ·exact hno.o m t h ht
     ·obtain rfl:m=j:=by omega
      rw[HCS.o] at ht
      obtain rfl:=Option.some.inj ht
      exact HQ.o)⟩
    case measure=>simp only[intOf];omega
   | true =>
    have HVJ:Hid (V=(Znc ts sz (i+1)).bind (fun b=>if okP j a b.1=true then .ok (Zde j a b.1,b.2) else .error (3,Zdu ts sz u))):=ħ (by rw[HV.o];unfold Zb3;rw[Zxu HCS.o hno.o hq])
    have hl1:=Zbv hq
    refine (Zbt w2 R ao cap ts sz i s HP2.o hn HTS.o HSB.o hq).mono ?_
    rintro e w3 ⟨rfl,p3,o3⟩
    have hx3:=ħ (hx2.o.only o3 (by have:=RL.o;omega))
    have hz3:=ħ (hz2.o.only o3 (by have:=RL.o;omega))
    have hs3:=ħ (hs2.o.only o3 (by have:=RL.o;have:=GK.o;omega) (by have:=RL.o;have:=GK.o;omega))
    have S3:=ħ (S2.o.only o3 (by have:=RL.o;have:=GW.o;omega))
    have P3:=ħ p3
    have T3:=ħ ((HT.o.below hw2.o HT.o.size).onlyR o3 hR)
    have O3:=ħ ((Only.of_below (p:=(· = R)) hw2.o).trans o3)
    clear p3 o3 hq hx2 hz2 hs2 hw2 HP2 S2 hno
    go_upto_region 5 with (fail)
    have c0:=S3.o.cell 1 _ rfl
    have c1:=hx3.o.cell 0 _ rfl
    have c2:=hx3.o.cell 1 _ rfl
    refine Zaw [0,1,2,3,4,7] [5,6,8,9] (fun w'=>w'.cell? ⟨X,1,none⟩=some fv∧w'.cell? ⟨w.heap.size,0,none⟩=some (.string x)∧w'.cell? ⟨w.heap.size,1,none⟩=some (.int .i64 a2)) (by kernel_rfl) (by kernel_rfl) (by kernel_rfl) (fun _ _ d _ _ h=>by cases d<;>exact h) ⟨c0,c1,c2⟩ ?_
    simp only[Zbx,List.filterMap_cons,List.filterMap_nil,List.getElem?_cons_zero,List.getElem?_cons_succ,Option.map_some,List.map_cons,List.map_nil]
    apply Exists.intro
    refine⟨?hh,?ht⟩
    case hh =>
     intro w' hw'
     obtain⟨d0,d1,d2⟩:=hw'
     repeat still_step
     exact wpStill_nil rfl
    case ht =>
     have BD:Below w3.heap.size w3 w3.drew:=(Below.refl w3.heap.size w3).drew
     have hx4:=ħ (hx3.o.step BD)
     have hz4:=ħ (hz3.o.step BD)
     have hs4:=ħ (hs3.o.step BD)
     have S4:=ħ (S3.o.step BD)
     have P4:=ħ (P3.o.step BD)
     have T4:=ħ (T3.o.step BD)
     have O4:=ħ (O3.o.step BD)
     clear BD hx3 hz3 hs3 S3 P3 T3 O3
     generalize w3.drew=wd at *
     refine Zaf ?_
     go_wp2_with fail
     refine (Z1w wd R ao cap ts sz (i+1) B T4.o hR P4.o hl1 hn HTS.o).mono ?_
     rintro e w5 ⟨o5,hr⟩
     have O5:=ħ (O4.o.trans o5)
     cases hsu:Znc ts sz (i+1) with
     | error y =>
      rw[hsu] at hr HVJ
      clear hsu o5
      subst hr
      unfold Za0
      go_wp2
      exact⟨rfl,Zas HVJ.o O5.o rfl⟩
     | ok r =>
      rw[hsu] at hr HVJ
      obtain⟨b,j2⟩:=r
      obtain⟨⟨v,rfl,rfl⟩,p5⟩:=hr
      have HSB2:=ħ (Zjk HTS.o hsu).2.2
      have HVK:Hid (V=if okP j a b=true then .ok (Zde j a b,j2) else .error (3,Zdu ts sz u)):=ħ HVJ.o
      have hx5:=ħ (hx4.o.only o5 (by have:=RL.o;omega))
      have hz5:=ħ (hz4.o.only o5 (by have:=RL.o;omega))
      have hs5:=ħ (hs4.o.only o5 (by have:=RL.o;have:=GK.o;omega) (by have:=RL.o;have:=GK.o;omega))
      have S5:=ħ (S4.o.only o5 (by have:=RL.o;have:=GW.o;omega))
      have P5:=ħ p5
      clear hsu o5 p5 hx4 hz4 hs4 S4 P4 T4 O4 HVJ
      go_wp2_with fail
      refine Zaa ⟨⟨S5.o.cell 1 _ rfl,hx5.o.cell 0 _ rfl,hx5.o.cell 1 _ rfl⟩,?_⟩
      refine Zaf ?_
      have SS:Hid (∀ w':World,Below w5.heap.size w5 w'→w'.cell? ⟨X,1,none⟩=some fv∧w'.cell? ⟨w.heap.size,0,none⟩=some (.string x)∧w'.cell? ⟨w.heap.size,1,none⟩=some (.int .i64 a2)):=ħ (fun w' hb=>⟨(S5.o.step hb).cell 1 _ rfl,(hx5.o.step hb).cell 0 _ rfl,(hx5.o.step hb).cell 1 _ rfl⟩)
      have HMK:Hid (∀ w:World,True):=ħ (fun _=>trivial)
      have key:Hid (Z8n k j fv):=HFN
      rcases key.o with ⟨hj0,hf⟩ | ⟨hj0,hf⟩ | ⟨hj0,hf⟩ | ⟨hj0,hf⟩ | ⟨hj0,hf⟩ | ⟨hj0,hf⟩
      ·have HJ:=ħ hj0
       subst hf
       clear hj0
       unfold cfn
       go_wp2_with fail
       refine (HC.o b j w5 HSB2.o HJ.o).mono ?_
       rintro e w6 ⟨⟨v,rfl,vs,rfl,hpc⟩,b6⟩
       have PC:=ħ hpc
       have P6:=ħ (P5.o.step b6)
       have O6:=ħ (O5.o.step b6)
       have hz6:=ħ (hz5.o.step b6)
       have B6:=ħ b6
       clear hpc b6
       go_wp2_with fail
       refine Zaa ⟨SS.o w6 B6.o,?_⟩
       refine Zaf ?_
       go_wp2_with fail
       refine (Zcw 3 (Zde j a b) w6 _ vs R ao cap ts sz j2 u (Zhl j a b) (by omega) PC.o P6.o hu hn).mono ?_
       rintro e w7 ⟨b7,he⟩
       rw[Zhk] at he
       have O7:=ħ (O6.o.step b7)
       cases hok:okP j a b with
       | false =>
        rw[hok,if_neg (by simp)] at he
        rw[hok,if_neg (by simp)] at HVK
        clear hok b7
        subst he
        unfold Za0
        go_wp2
        exact⟨rfl,Zas HVK.o O7.o rfl⟩
       | true =>
        rw[hok,if_pos rfl] at he
        rw[hok,if_pos rfl] at HVK
        subst he
        have P7:=ħ (P6.o.step b7)
        have hz7:=ħ (hz6.o.step b7)
        have PC7:=ħ ((PC.o.below b7).mono (P':=fun x=>w.heap.size+1<x) (fun x hx _=>by have:=O5.o.size;have:=hz5.o.lt;omega))
        have HL5:=ħ PC.o.len
        have B7:=ħ (B6.o.trans (b7.mono B6.o.size))
        clear b7 hok P6 hz6 O6
        go_wp2_with fail
        refine Zaa ⟨SS.o w7 B7.o,?_⟩
        refine Zaz ?_
        go_wp2_with (refine Zab rfl 25 (.tmp 6) (.tmp 27) rfl (w.heap.size+1) vs.toArray ?s1 ?s2 25 _ hz7.o (Zae _ HL5.o) ?s3 (PC.o.one) ?_;(case s1=>rfl);(case s2=>rfl);(case s3=>rw[List.size_toArray,List.size_toArray,HL5.o];rfl);intro w9 s9 u9;have S9:=ħ s9;have U9:=ħ u9;clear s9 u9)
        exact bodyPost_ret (results_cell_row (p:=6) (by kernel_rfl) _ _ (w.heap.size+1) 25 vs.toArray (0,0) _ rfl S9.o Tryz.underlying25 rfl (Zae _ HL5.o)) rfl (Zba HVK.o (O7.o.updNew U9.o (Nat.le_succ _)) rfl ⟨vs,rfl,(PC7.o.upd U9.o (Nat.lt_irrefl _)).mono (fun x hx _=>by omega)⟩ (H0.o.upd P7.o U9.o (Nat.le_succ _)))
      ·have HJ:=ħ hj0
       subst hf
       clear hj0
       unfold cfn
       go_wp2_with fail
       refine (HC1.o b j w5 HSB2.o HJ.o).mono ?_
       rintro e w6 ⟨⟨v,rfl,vs,rfl,hpc⟩,b6⟩
       have PC:=ħ hpc
       have P6:=ħ (P5.o.step b6)
       have O6:=ħ (O5.o.step b6)
       have hz6:=ħ (hz5.o.step b6)
       have B6:=ħ b6
       clear hpc b6
       go_wp2_with fail
       refine Zaa ⟨SS.o w6 B6.o,?_⟩
       refine Zaf ?_
       go_wp2_with fail
       refine (Zcw 3 (Zde j a b) w6 _ vs R ao cap ts sz j2 u (Zhl j a b) (by omega) PC.o P6.o hu hn).mono ?_
       rintro e w7 ⟨b7,he⟩
       rw[Zhk] at he
       have O7:=ħ (O6.o.step b7)
       cases hok:okP j a b with
       | false =>
        rw[hok,if_neg (by simp)] at he
        rw[hok,if_neg (by simp)] at HVK
        clear hok b7
        subst he
        unfold Za0
        go_wp2
        exact⟨rfl,Zas HVK.o O7.o rfl⟩
       | true =>
        rw[hok,if_pos rfl] at he
        rw[hok,if_pos rfl] at HVK
        subst he
        have P7:=ħ (P6.o.step b7)
        have hz7:=ħ (hz6.o.step b7)
        have PC7:=ħ ((PC.o.below b7).mono (P':=fun x=>w.heap.size+1<x) (fun x hx _=>by have:=O5.o.size;have:=hz5.o.lt;omega))
        have HL5:=ħ PC.o.len
        have B7:=ħ (B6.o.trans (b7.mono B6.o.size))
        clear b7 hok P6 hz6 O6
        go_wp2_with fail
        refine Zaa ⟨SS.o w7 B7.o,?_⟩
        refine Zaz ?_
        go_wp2_with (refine Zab rfl 25 (.tmp 6) (.tmp 27) rfl (w.heap.size+1) vs.toArray ?s1 ?s2 25 _ hz7.o (Zae _ HL5.o) ?s3 (PC.o.one) ?_;(case s1=>rfl);(case s2=>rfl);(case s3=>rw[List.size_toArray,List.size_toArray,HL5.o];rfl);intro w9 s9 u9;have S9:=ħ s9;have U9:=ħ u9;clear s9 u9)
        exact bodyPost_ret (results_cell_row (p:=6) (by kernel_rfl) _ _ (w.heap.size+1) 25 vs.toArray (0,0) _ rfl S9.o Tryz.underlying25 rfl (Zae _ HL5.o)) rfl (Zba HVK.o (O7.o.updNew U9.o (Nat.le_succ _)) rfl ⟨vs,rfl,(PC7.o.upd U9.o (Nat.lt_irrefl _)).mono (fun x hx _=>by omega)⟩ (H0.o.upd P7.o U9.o (Nat.le_succ _)))
      ·have HJ:=ħ hj0
       subst hf
       clear hj0
       unfold cfn
       go_wp2_with fail
       refine (HC2.o b j w5 HSB2.o HJ.o).mono ?_
       rintro e w6 ⟨⟨v,rfl,vs,rfl,hpc⟩,b6⟩
       have PC:=ħ hpc
       have P6:=ħ (P5.o.step b6)
       have O6:=ħ (O5.o.step b6)
       have hz6:=ħ (hz5.o.step b6)
       have B6:=ħ b6
       clear hpc b6
       go_wp2_with fail
       refine Zaa ⟨SS.o w6 B6.o,?_⟩
       refine Zaf ?_
       go_wp2_with fail
       refine (Zcw 3 (Zde j a b) w6 _ vs R ao cap ts sz j2 u (Zhl j a b) (by omega) PC.o P6.o hu hn).mono ?_
       rintro e w7 ⟨b7,he⟩
       rw[Zhk] at he
       have O7:=ħ (O6.o.step b7)
       cases hok:okP j a b with
       | false =>
        rw[hok,if_neg (by simp)] at he
        rw[hok,if_neg (by simp)] at HVK
        clear hok b7
        subst he
        unfold Za0
        go_wp2
        exact⟨rfl,Zas HVK.o O7.o rfl⟩
       | true =>
        rw[hok,if_pos rfl] at he
        rw[hok,if_pos rfl] at HVK
        subst he
        have P7:=ħ (P6.o.step b7)
        have hz7:=ħ (hz6.o.step b7)
        have PC7:=ħ ((PC.o.below b7).mono (P':=fun x=>w.heap.size+1<x) (fun x hx _=>by have:=O5.o.size;have:=hz5.o.lt;omega))
        have HL5:=ħ PC.o.len
        have B7:=ħ (B6.o.trans (b7.mono B6.o.size))
        clear b7 hok P6 hz6 O6
        go_wp2_with fail
        refine Zaa ⟨SS.o w7 B7.o,?_⟩
        refine Zaz ?_
        go_wp2_with (refine Zab rfl 25 (.tmp 6) (.tmp 27) rfl (w.heap.size+1) vs.toArray ?s1 ?s2 25 _ hz7.o (Zae _ HL5.o) ?s3 (PC.o.one) ?_;(case s1=>rfl);(case s2=>rfl);(case s3=>rw[List.size_toArray,List.size_toArray,HL5.o];rfl);intro w9 s9 u9;have S9:=ħ s9;have U9:=ħ u9;clear s9 u9)
        exact bodyPost_ret (results_cell_row (p:=6) (by kernel_rfl) _ _ (w.heap.size+1) 25 vs.toArray (0,0) _ rfl S9.o Tryz.underlying25 rfl (Zae _ HL5.o)) rfl (Zba HVK.o (O7.o.updNew U9.o (Nat.le_succ _)) rfl ⟨vs,rfl,(PC7.o.upd U9.o (Nat.lt_irrefl _)).mono (fun x hx _=>by omega)⟩ (H0.o.upd P7.o U9.o (Nat.le_succ _)))
      ·have HJ:=ħ hj0
       subst hf
       clear hj0
       unfold cfn
       go_wp2_with fail
       refine (HC3.o b j w5 HSB2.o HJ.o).mono ?_
       rintro e w6 ⟨⟨v,rfl,vs,rfl,hpc⟩,b6⟩
       have PC:=ħ hpc
       have P6:=ħ (P5.o.step b6)
       have O6:=ħ (O5.o.step b6)
       have hz6:=ħ (hz5.o.step b6)
       have B6:=ħ b6
       clear hpc b6
       go_wp2_with fail
       refine Zaa ⟨SS.o w6 B6.o,?_⟩
       refine Zaf ?_
       go_wp2_with fail
       refine (Zcw 3 (Zde j a b) w6 _ vs R ao cap ts sz j2 u (Zhl j a b) (by omega) PC.o P6.o hu hn).mono ?_
       rintro e w7 ⟨b7,he⟩
       rw[Zhk] at he
       have O7:=ħ (O6.o.step b7)
       cases hok:okP j a b with
       | false =>
        rw[hok,if_neg (by simp)] at he
        rw[hok,if_neg (by simp)] at HVK
        clear hok b7
        subst he
        unfold Za0
        go_wp2
        exact⟨rfl,Zas HVK.o O7.o rfl⟩
       | true =>
        rw[hok,if_pos rfl] at he
        rw[hok,if_pos rfl] at HVK
        subst he
        have P7:=ħ (P6.o.step b7)
        have hz7:=ħ (hz6.o.step b7)
        have PC7:=ħ ((PC.o.below b7).mono (P':=fun x=>w.heap.size+1<x) (fun x hx _=>by have:=O5.o.size;have:=hz5.o.lt;omega))
        have HL5:=ħ PC.o.len
        have B7:=ħ (B6.o.trans (b7.mono B6.o.size))
        clear b7 hok P6 hz6 O6
        go_wp2_with fail
        refine Zaa ⟨SS.o w7 B7.o,?_⟩
        refine Zaz ?_
        go_wp2_with (refine Zab rfl 25 (.tmp 6) (.tmp 27) rfl (w.heap.size+1) vs.toArray ?s1 ?s2 25 _ hz7.o (Zae _ HL5.o) ?s3 (PC.o.one) ?_;(case s1=>rfl);(case s2=>rfl);(case s3=>rw[List.size_toArray,List.size_toArray,HL5.o];rfl);intro w9 s9 u9;have S9:=ħ s9;have U9:=ħ u9;clear s9 u9)
        exact bodyPost_ret (results_cell_row (p:=6) (by kernel_rfl) _ _ (w.heap.size+1) 25 vs.toArray (0,0) _ rfl S9.o Tryz.underlying25 rfl (Zae _ HL5.o)) rfl (Zba HVK.o (O7.o.updNew U9.o (Nat.le_succ _)) rfl ⟨vs,rfl,(PC7.o.upd U9.o (Nat.lt_irrefl _)).mono (fun x hx _=>by omega)⟩ (H0.o.upd P7.o U9.o (Nat.le_succ _)))
      ·have HJ:=ħ hj0
       subst hf
       clear hj0
       unfold cfn
       go_wp2_with fail
       refine (HC4.o b j k g w5 HSB2.o HJ.o hs5.o).mono ?_
       rintro e w6 ⟨⟨v,rfl,vs,rfl,hpc⟩,b6⟩
       have PC:=ħ hpc
       have P6:=ħ (P5.o.step b6)
       have O6:=ħ (O5.o.step b6)
       have hz6:=ħ (hz5.o.step b6)
       have B6:=ħ b6
       clear hpc b6
       go_wp2_with fail
       refine Zaa ⟨SS.o w6 B6.o,?_⟩
       refine Zaf ?_
       go_wp2_with fail
       refine (Zcw 3 (Zde j a b) w6 _ vs R ao cap ts sz j2 u (Zhl j a b) (by omega) PC.o P6.o hu hn).mono ?_
       rintro e w7 ⟨b7,he⟩
       rw[Zhk] at he
       have O7:=ħ (O6.o.step b7)
       cases hok:okP j a b with
       | false =>
        rw[hok,if_neg (by simp)] at he
        rw[hok,if_neg (by simp)] at HVK
        clear hok b7
        subst he
        unfold Za0
        go_wp2
        exact⟨rfl,Zas HVK.o O7.o rfl⟩
       | true =>
        rw[hok,if_pos rfl] at he
        rw[hok,if_pos rfl] at HVK
        subst he
        have P7:=ħ (P6.o.step b7)
        have hz7:=ħ (hz6.o.step b7)
        have PC7:=ħ ((PC.o.below b7).mono (P':=fun x=>w.heap.size+1<x) (fun x hx _=>by have:=O5.o.size;have:=hz5.o.lt;omega))
        have HL5:=ħ PC.o.len
        have B7:=ħ (B6.o.trans (b7.mono B6.o.size))
        clear b7 hok P6 hz6 O6
        go_wp2_with fail
        refine Zaa ⟨SS.o w7 B7.o,?_⟩
        refine Zaz ?_
        go_wp2_with (refine Zab rfl 25 (.tmp 6) (.tmp 27) rfl (w.heap.size+1) vs.toArray ?s1 ?s2 25 _ hz7.o (Zae _ HL5.o) ?s3 (PC.o.one) ?_;(case s1=>rfl);(case s2=>rfl);(case s3=>rw[List.size_toArray,List.size_toArray,HL5.o];rfl);intro w9 s9 u9;have S9:=ħ s9;have U9:=ħ u9;clear s9 u9)
        exact bodyPost_ret (results_cell_row (p:=6) (by kernel_rfl) _ _ (w.heap.size+1) 25 vs.toArray (0,0) _ rfl S9.o Tryz.underlying25 rfl (Zae _ HL5.o)) rfl (Zba HVK.o (O7.o.updNew U9.o (Nat.le_succ _)) rfl ⟨vs,rfl,(PC7.o.upd U9.o (Nat.lt_irrefl _)).mono (fun x hx _=>by omega)⟩ (H0.o.upd P7.o U9.o (Nat.le_succ _)))
      ·have HJ:=ħ hj0
       subst hf
       clear hj0
       unfold cfn
       go_wp2_with fail
       refine (HC5.o b j k g w5 HSB2.o HJ.o hs5.o).mono ?_
       rintro e w6 ⟨⟨v,rfl,vs,rfl,hpc⟩,b6⟩
       have PC:=ħ hpc
       have P6:=ħ (P5.o.step b6)
       have O6:=ħ (O5.o.step b6)
       have hz6:=ħ (hz5.o.step b6)
       have B6:=ħ b6
       clear hpc b6
       go_wp2_with fail
       refine Zaa ⟨SS.o w6 B6.o,?_⟩
       refine Zaf ?_
       go_wp2_with fail
       refine (Zcw 3 (Zde j a b) w6 _ vs R ao cap ts sz j2 u (Zhl j a b) (by omega) PC.o P6.o hu hn).mono ?_
       rintro e w7 ⟨b7,he⟩
       rw[Zhk] at he
       have O7:=ħ (O6.o.step b7)
       cases hok:okP j a b with
       | false =>
        rw[hok,if_neg (by simp)] at he
        rw[hok,if_neg (by simp)] at HVK
        clear hok b7
        subst he
        unfold Za0
        go_wp2
        exact⟨rfl,Zas HVK.o O7.o rfl⟩
       | true =>
        rw[hok,if_pos rfl] at he
        rw[hok,if_pos rfl] at HVK
        subst he
        have P7:=ħ (P6.o.step b7)
        have hz7:=ħ (hz6.o.step b7)
        have PC7:=ħ ((PC.o.below b7).mono (P':=fun x=>w.heap.size+1<x) (fun x hx _=>by have:=O5.o.size;have:=hz5.o.lt;omega))
        have HL5:=ħ PC.o.len
        have B7:=ħ (B6.o.trans (b7.mono B6.o.size))
        clear b7 hok P6 hz6 O6
        go_wp2_with fail
        refine Zaa ⟨SS.o w7 B7.o,?_⟩
        refine Zaz ?_
        go_wp2_with (refine Zab rfl 25 (.tmp 6) (.tmp 27) rfl (w.heap.size+1) vs.toArray ?s1 ?s2 25 _ hz7.o (Zae _ HL5.o) ?s3 (PC.o.one) ?_;(case s1=>rfl);(case s2=>rfl);(case s3=>rw[List.size_toArray,List.size_toArray,HL5.o];rfl);intro w9 s9 u9;have S9:=ħ s9;have U9:=ħ u9;clear s9 u9)
        exact bodyPost_ret (results_cell_row (p:=6) (by kernel_rfl) _ _ (w.heap.size+1) 25 vs.toArray (0,0) _ rfl S9.o Tryz.underlying25 rfl (Zae _ HL5.o)) rfl (Zba HVK.o (O7.o.updNew U9.o (Nat.le_succ _)) rfl ⟨vs,rfl,(PC7.o.upd U9.o (Nat.lt_irrefl _)).mono (fun x hx _=>by omega)⟩ (H0.o.upd P7.o U9.o (Nat.le_succ _)))
  ·have jj:¬ ((j:Int)<6):=by omega
   have HN:Hid (V = .error (12,Zdu ts sz i)):=ħ (by rw[HV.o];unfold Zb3;rw[Zxv (fun m t hm=>hno.o m t (by omega))])
   obtain⟨p0,p1,p2⟩:=HP.o.cells
   go_wp2_with fail
   refine (Zcj wr R ao cap ts sz i i 12 HP.o hi hn).mono ?_
   rintro e w7 ⟨rfl,b7⟩
   have O7:=ħ ((Only.of_below (p:=(· = R)) hw.o).step b7)
   clear b7
   unfold Za0
   go_wp2
   exact⟨rfl,Zas HN.o O7.o rfl⟩
end
section
open Go.RowKit
theorem Zxw (a:Zfx) (m:Nat×Nat):okT (Zfp a m)=Zfy a m:=by
 (first | (simp[Zfp,Zfy,okT,okL,Zbb,inP,Prd.c];done) | (simp[Zfp,Zfy,okT,okL,Zbb,inP,Prd.c];rfl))
theorem Zxx (a:Zfx):∀ acc:List (Nat×Nat),okL (acc.map (Zfp a))=acc.all (Zfy a)
 | []=>rfl
 | m::acc=>by rw[List.map_cons,okL,Zxw,Zxx a acc,List.all_cons]
theorem Zxy (a:Zfx) (acc:List (Nat×Nat)):okT (Zeq 2 (acc.map (Zfp a)))=acc.all (Zfy a):=by
 match acc with
 | []=>rfl
 | [m]=>show okT (Zfp a m)=_;rw[Zxw];simp
 | m::m2::l =>
  show okT (.mk 2 [] [] 0 ((m::m2::l).map (Zfp a)))=_
  unfold okT
  rw[Zxx]
  rfl
theorem Zt6 (a:Zfx):∀ acc:List (Nat×Nat),Zb9 (acc.map (Zfp a))=3*acc.length
 | []=>rfl
 | m::acc=>by
  rw[List.map_cons,Zb9,Zt6 a acc,List.length_cons]
  simp[Zfp,Za8,Zb9,Zbb]
  omega
theorem Zxz (a:Zfx) (acc:List (Nat×Nat)):Za8 (Zeq 2 (acc.map (Zfp a)))≤3*acc.length+1:=by
 match acc with
 | []=>simp[Zeq,Za8,Zb9]
 | [m]=>show Za8 (Zfp a m)≤_;simp[Zfp,Za8,Zb9,Zbb]
 | m::m2::l =>
  show Za8 (.mk 2 [] [] 0 ((m::m2::l).map (Zfp a)))≤_
  unfold Za8
  rw[Zt6]
  omega
theorem Zt7 {ts:List Tok} {sz f j m q N J:Nat} {acc:List (Nat×Nat)} (h1:Znb ts sz j = .ok (m,q)) (h2:(if isP ts [46,46] q=true then Znb ts sz (q+1) else .ok (m,q)) = .ok (N,J)) :
  Zbu ts sz (f+1) j acc=if N<m then .error (3,Zdu ts sz j) else if isP ts [44] J=true then Zbu ts sz f (J+1) (acc++[(m,N)]) else .ok (acc++[(m,N)],J):=by
 rw[Zbu]
 rw[h1]
 simp only[Except.bind]
 rw[h2]
theorem Z2i {ts:List Tok} {sz f j:Nat} {acc:List (Nat×Nat)} {e:Int×Nat} (h1:Znb ts sz j = .error e):Zbu ts sz (f+1) j acc = .error e:=by
 rw[Zbu]
 rw[h1]
 rfl
theorem Z2j {ts:List Tok} {sz f j m q:Nat} {acc:List (Nat×Nat)} {e:Int×Nat} (h1:Znb ts sz j = .ok (m,q)) (h2:(if isP ts [46,46] q=true then Znb ts sz (q+1) else .ok (m,q)) = .error e):Zbu ts sz (f+1) j acc = .error e:=by
 rw[Zbu]
 rw[h1]
 simp only[Except.bind]
 rw[h2]
theorem Zvt (w:World) (R:Nat) (ao:Option Addr) (cap:Nat) (ts:List Tok) (sz i u B:Nat) (a:Zfx) (hT:Tab w B) (hR:B≤R) (h:ParW w R ao cap ts sz i) (hi:i≤ts.length) (hu:u≤ts.length) (hn3:ts.length≤300000) (hts:∀ t∈ts,TokOk t) (ha:SumOk a) :
  Calls Tryz.prog 246 #[.pointer (some ⟨R,0,none⟩),.agg (Zc2 a).toArray,.int .i64 (u:Int)] w fun e w'=>Zht w R ao cap ts sz (Zdf ts sz a u i) e w':=by
 obtain⟨V,hV⟩:∃ V,Zdf ts sz a u i=V:=⟨_,rfl⟩
 rw[hV]
 have HV:=ħ hV.symm
 unfold Zdf at HV
 clear hV
 have hn:ts.length≤1000000:=by omega
 have HSA:=ħ ha
 have HTS:=ħ hts
 have H0:=ħ h
 have RL:=ħ h.lt
 have HT:=ħ hT
 clear h hT hts ha
 have HSC:Hid ((Zc2 a).toArray=#[.string (Zad a.1),.int .i64 a.2]):=ħ rfl
 have HM1:Hid (∀ (m:Nat) (w:World),m≤1099511627776→Calls Tryz.prog 291 #[.agg #[.string ⟨#[]⟩,.int .i64 (m:Int)],.agg (Zc2 a).toArray,.int .i64 0] w fun e w'=>e = .returned (.agg (Zb8 [] a.1 (a.2-(m:Int)-0)).toArray)∧Below w.heap.size w w') :=
  ħ (fun m w hm=>Zfo ([],(m:Int)) a 0 w ⟨by simp only;omega,by simp only;omega,by simp,by simp⟩ HSA.o (by omega) (by omega))
 have HM2:Hid (∀ (m:Nat) (w:World),m≤1099511627776→Calls Tryz.prog 291 #[.agg (Zc2 a).toArray,.agg #[.string ⟨#[]⟩,.int .i64 (m:Int)],.int .i64 0] w fun e w'=>e = .returned (.agg (Zb8 a.1 [] ((m:Int)-a.2-0)).toArray)∧Below w.heap.size w w') :=
  ħ (fun m w hm=>Zfo a ([],(m:Int)) 0 w HSA.o ⟨by simp only;omega,by simp only;omega,by simp,by simp⟩ (by omega) (by omega))
 have HAT:Hid (∀ (w:World) (P:Nat→Prop) (g m n:Nat) (D1 D2:Int),a.2-(m:Int)-0=D1→(n:Int)-a.2-0=D2→P g→g<w.heap.size→Za3 w g 0 (Zb8 [] a.1 D1++Zb8 a.1 [] D2)→Zai w P (Zfp a (m,n)) (Zds 1 0 (some ⟨g,0,none⟩) 2 2)):=ħ (fun w P g m n D1 D2 h1 h2 hP hg hr=>by
  subst h1 h2
  unfold Zfp Zai
  refine⟨_,_,rfl,.inr ⟨g,0,rfl,hP,hg,Za1.of _ [Zb8 [] a.1 (a.2-(m:Int)-0),Zb8 a.1 [] ((n:Int)-a.2-0)] g 0 rfl (fun i p vs hp hv=>?_) (by simpa using hr)⟩⟩
  match i,hp,hv with
  | 0,hp,hv=>cases hp;cases hv;exact Zcv _ _ _ _ _
  | 1,hp,hv=>cases hp;cases hv;exact Zcv _ _ _ _ _
  | i+2,hp,hv=>simp at hp)
 have HA1:Hid (∀ D,(Zb8 [] a.1 D).toArray=#[.int .i64 0,.string ⟨#[]⟩,.string (Zad a.1),.int .i64 D,.slice none 0 0]):=ħ (fun D=>rfl)
 have HA2:Hid (∀ D,(Zb8 a.1 [] D).toArray=#[.int .i64 0,.string (Zad a.1),.string ⟨#[]⟩,.int .i64 D,.slice none 0 0]):=ħ (fun D=>rfl)
 have HA3:Hid (∀ D1 D2,Zb8 [] a.1 D1++Zb8 a.1 [] D2=[.int .i64 0,.string ⟨#[]⟩,.string (Zad a.1),.int .i64 D1,.slice none 0 0,.int .i64 0,.string (Zad a.1),.string ⟨#[]⟩,.int .i64 D2,.slice none 0 0]):=ħ (fun D1 D2=>rfl)
 rw[HSC.o] at HM1 HM2 ⊢
 simp only[HA1.o] at HM1
 simp only[HA2.o] at HM2
 simp only[HA3.o] at HAT
 clear HA1 HA2 HA3 HSC
 generalize hx:Zad a.1=x at *
 generalize ha2:a.2=a2 at *
 clear hx ha2
 have X1:Hid (Zah (((w.alloc (.cells #[.string x,.int .i64 a2] 258)).alloc (.cells #[.int .i64 0,.string ⟨#[]⟩,.string ⟨#[]⟩,.int .i64 0,.slice none 0 0] 25)).alloc (.cells #[.int .i64 2,.string ⟨#[]⟩,.string ⟨#[]⟩,.int .i64 0,.slice none 0 0] 25)) w.heap.size 258 [.string x,.int .i64 a2]):=ħ (Zbg w _ _ _)
 have Z1:Hid (Zah (((w.alloc (.cells #[.string x,.int .i64 a2] 258)).alloc (.cells #[.int .i64 0,.string ⟨#[]⟩,.string ⟨#[]⟩,.int .i64 0,.slice none 0 0] 25)).alloc (.cells #[.int .i64 2,.string ⟨#[]⟩,.string ⟨#[]⟩,.int .i64 0,.slice none 0 0] 25)) (w.heap.size+1) 25 Zb0):=ħ (Zbf w _ _ _)
 have S1:Hid (Zah (((w.alloc (.cells #[.string x,.int .i64 a2] 258)).alloc (.cells #[.int .i64 0,.string ⟨#[]⟩,.string ⟨#[]⟩,.int .i64 0,.slice none 0 0] 25)).alloc (.cells #[.int .i64 2,.string ⟨#[]⟩,.string ⟨#[]⟩,.int .i64 0,.slice none 0 0] 25)) (w.heap.size+1+1) 25 (Zds 2 0 none 0 0)):=ħ (Za6 w _ _ _)
 have D0:=ħ ((((Below.refl w.heap.size w).alloc (Nat.le_refl _) (.cells #[.string x,.int .i64 a2] 258)).alloc (by simp) (.cells #[.int .i64 0,.string ⟨#[]⟩,.string ⟨#[]⟩,.int .i64 0,.slice none 0 0] 25)).alloc (by simp;omega) (.cells #[.int .i64 2,.string ⟨#[]⟩,.string ⟨#[]⟩,.int .i64 0,.slice none 0 0] 25))
 go_enter Tryz.func246,Tryz.ntmps246
 go_wp2_with fail
 generalize ((w.alloc (.cells #[.string x,.int .i64 a2] 258)).alloc (.cells #[.int .i64 0,.string ⟨#[]⟩,.string ⟨#[]⟩,.int .i64 0,.slice none 0 0] 25)).alloc (.cells #[.int .i64 2,.string ⟨#[]⟩,.string ⟨#[]⟩,.int .i64 0,.slice none 0 0] 25)=w1 at *
 obtain⟨A,hA⟩:∃ A,w.heap.size+1+1=A:=⟨_,rfl⟩
 rw[hA] at S1 ⊢
 have HA:Hid (A=w.heap.size+2):=ħ (by omega)
 have RA:Hid (R<A):=ħ (by have:=RL.o;omega)
 clear hA
 have P1:=ħ (H0.o.step D0.o)
 have T1:=ħ (HT.o.step D0.o)
 have O1:=ħ (Only.of_below (p:=(· = R)) D0.o)
 clear D0
 cases h1:isP ts [123] i with
 | false =>
  refine (Zfv w1 R ao cap ts sz i [123] P1.o hi hn HTS.o (by decide) h1).mono ?_
  rw[Zeo h1] at HV
  clear h1
  rintro e w2 ⟨rfl,o2⟩
  have O2:=ħ (O1.o.trans o2)
  clear o2
  unfold Za0
  go_wp2
  exact⟨rfl,Zas (by rw[HV.o];try rfl) O2.o rfl⟩
 | true =>
  have l1:=Zbv h1
  rw[Zdq h1] at HV
  simp only[Except.bind] at HV
  refine (Zfu w1 R ao cap ts sz i [123] P1.o hn HTS.o (by decide) h1).mono ?_
  clear h1
  rintro e w2 ⟨rfl,p2,o2⟩
  have X2:=ħ (X1.o.only o2 (by have:=RL.o;omega))
  have Z2:=ħ (Z1.o.only o2 (by have:=RL.o;omega))
  have S2:=ħ (S1.o.only o2 (by have:=RA.o;omega))
  have P2:=ħ p2
  have T2:=ħ (T1.o.onlyR o2 hR)
  have O2:=ħ (O1.o.trans o2)
  have HVN:=ħ (show V=(Zbu ts sz (ts.length+1) (i+1) []).bind (fun r=>(Zbi ts sz [125] r.2).bind (fun k=>if r.1.all (Zfy a)=true then (.ok (Zeq 2 (r.1.map (Zfp a)),k):PR Prd) else .error (3,Zdu ts sz u))) from HV.o)
  clear p2 o2 X1 Z1 S1 P1 T1 O1 HV
  go_wp2_with fail
  go_loopw [8] (fun c wr=>∃ (b:Bool) (j f k cp:Nat) (ao2:Option Addr) (acc:List (Nat×Nat)) (vss:List (List Value)),c = .bool b∧i≤j∧j≤ts.length∧k≤j ∧
    Hid (Zah wr A 25 (Zds 2 0 ao2 k cp))∧Hid (Zah wr (w.heap.size+1) 25 Zb0)∧Hid (Zah wr w.heap.size 258 [.string x,.int .i64 a2]) ∧
    Hid (KidsM w wr (A+1) (fun g=>g=w.heap.size+1∨g=A) ao2 k cp (acc.map (Zfp a)) vss)∧Hid (ParW wr R ao cap ts sz j)∧Hid (Only w wr (· = R))∧Hid (Tab wr B) ∧
    Hid (b=true→V=(Zbu ts sz f j acc).bind (fun r=>(Zbi ts sz [125] r.2).bind (fun k=>if r.1.all (Zfy a)=true then (.ok (Zeq 2 (r.1.map (Zfp a)),k):PR Prd) else .error (3,Zdu ts sz u)))∧ts.length-j<f) ∧
    Hid (b=false→acc≠[]∧V=(fun r=>(Zbi ts sz [125] r.2).bind (fun k=>if r.1.all (Zfy a)=true then (.ok (Zeq 2 (r.1.map (Zfp a)),k):PR Prd) else .error (3,Zdu ts sz u))) (acc,j))) (fun _ wr=>ts.length+1-Z7t wr R)
  case atStart=>exact⟨true,i+1,ts.length+1,0,0,none,[],[],rfl,by omega,l1,by omega,S2,Z2,X2,ħ (KidsM.nil _ _ _ _),P2,O2,T2,ħ (fun _=>⟨HVN.o,by omega⟩),ħ (fun e=>by cases e)⟩
  case round =>
   clear S2 Z2 X2 P2 O2 T2 HVN
   obtain⟨b,j,f,k,cp,ao2,acc,vss,rfl,hij,hj,hkj,hs,hz,hx,hk,hp,ho,ht,hv1,hv0⟩:=hrel
   cases b with
   | false =>
    have HNE:=ħ (hv0.o rfl).1
    have HF:=ħ (hv0.o rfl).2
    clear hv1 hv0
    have HCN:Hid (acc.length≤300000):=ħ (by have:=hk.o.cnt;rw[List.length_map] at this;omega)
    go_wp2_with fail
    cases h9:isP ts [125] j with
    | false =>
     refine (Zfv wr R ao cap ts sz j [125] hp.o hj hn HTS.o (by decide) h9).mono ?_
     have HE:Hid (V = .error (12,Zdu ts sz j)):=ħ (by rw[HF.o];simp only[Zeo h9];rfl)
     clear h9
     rintro e w6 ⟨rfl,o6⟩
     have O6:=ħ (ho.o.trans o6)
     clear o6
     unfold Za0
     go_wp2
     exact⟨rfl,Zas HE.o O6.o rfl⟩
    | true =>
     have l9:=Zbv h9
     have HF0:=HF
     clear HF
     have HF:Hid (V=if acc.all (Zfy a)=true then (.ok (Zeq 2 (acc.map (Zfp a)),j+1):PR Prd) else .error (3,Zdu ts sz u)):=ħ (by rw[HF0.o];simp only[Zdq h9];rfl)
     clear HF0
     refine (Zfu wr R ao cap ts sz j [125] hp.o hn HTS.o (by decide) h9).mono ?_
     clear h9
     rintro e w6 ⟨rfl,p6,o6⟩
     have P6:=ħ p6
     have O6:=ħ (ho.o.trans o6)
     have S6:=ħ (hs.o.only o6 (by have:=RA.o;omega))
     have Z6:=ħ (hz.o.only o6 (by have:=RL.o;omega))
     have K6:=ħ (hk.o.only o6 RL.o (by have:=HA.o;omega))
     have hcnt:=ħ hk.o.cnt
     clear p6 o6 hp ho hs hz hk ht hx
     have c4:=S6.o.cell 4 _ rfl
     by_cases hk1:k=1
     ·have HP1:Hid (∃ p,acc.map (Zfp a)=[p]∧Zeq 2 (acc.map (Zfp a))=p):=ħ (by
       have:=hcnt.o
       match acc,this with
       | [],h=>simp at h;omega
       | [q],h=>exact⟨_,rfl,rfl⟩
       | q::q2::l,h=>simp at h;omega)
      obtain⟨p,hps,hone⟩:=HP1.o
      have HP2:=ħ hone
      clear HP1
      rw[hps] at K6
      clear hps hone
      obtain⟨vs,g,off,hvs,rfl,hrd,hpc,hl5⟩:=K6.o.one
      have HRD:=ħ hrd
      have HPC:=ħ hpc
      have HL5:=ħ hl5
      have GA:Hid (g≠A):=ħ (fun e=>by have:=(K6.o.own.blk_lt rfl).1;have:A+1≤g:=this;omega)
      clear hvs hrd hpc hl5
      subst hk1
      go_wp2_with (first
       | (refine Zcu rfl 25 (.tmp 58) rfl g off ?x1 vs _ HRD.o Tryz.underlying25 rfl ?x2 ?_;(case x1=>rfl);(case x2=>(have h5:=Zae vs HL5.o;rw[List.size_toArray] at h5;exact h5)))
       | (refine Zab rfl 25 (.tmp 7) (.tmp 59) rfl A vs.toArray ?s1 ?s2 25 _ S6.o (Zae _ HL5.o) ?s3 (HPC.o.one) ?_;(case s1=>rfl);(case s2=>rfl);(case s3=>rw[List.size_toArray,List.size_toArray,HL5.o];rfl);intro w7 s7 u7;have S7:Hid (Zah w7 A 25 vs):=ħ s7;have U7:=ħ u7;clear s7 u7)
       | (refine wpList_load_row rfl 25 (.tmp 7) rfl A ?y1 25 vs.toArray (0,0) _ S7.o Tryz.underlying25 rfl (Zae _ HL5.o) ?_;(case y1=>rfl)))
      have P7:=ħ (H0.o.upd P6.o U7.o (by have:=HA.o;omega))
      have O7:=ħ (O6.o.updNew U7.o (by have:=HA.o;omega))
      have Z7:=ħ (Z6.o.upd U7.o (by have:=HA.o;omega))
      have PC7:=ħ (HPC.o.upd U7.o (fun hh=>hh.2.1 (.inr rfl)))
      rw[← HP2.o] at PC7
      refine (Zcw (3*acc.length+1) (Zeq 2 (acc.map (Zfp a))) w7 _ vs R ao cap ts sz (j+1) u (Zxz a acc) (by have:=HCN.o;omega) PC7.o P7.o hu hn).mono ?_
      rintro e w8 ⟨b8,he⟩
      rw[Zxy] at he
      have O8:=ħ (O7.o.step b8)
      cases hok:acc.all (Zfy a) with
      | false =>
       rw[hok,if_neg (by simp)] at he
       have HE9:Hid (V = .error (3,Zdu ts sz u)):=ħ (by rw[HF.o,if_neg (by rw[hok];simp)])
       clear hok b8
       subst he
       unfold Za0
       go_wp2
       exact⟨rfl,Zas HE9.o O8.o rfl⟩
      | true =>
       rw[hok,if_pos rfl] at he
       have HV9:Hid (V = .ok (Zeq 2 (acc.map (Zfp a)),j+1)):=ħ (by rw[HF.o,if_pos hok])
       subst he
       have P8:=ħ (P7.o.step b8)
       have Z8:=ħ (Z7.o.step b8)
       have PC8:=ħ (PC7.o.below b8)
       clear b8 hok
       go_wp2_with (refine Zab rfl 25 (.tmp 6) (.tmp 63) rfl (w.heap.size+1) vs.toArray ?s1 ?s2 25 _ Z8.o (Zae _ HL5.o) ?s3 (HPC.o.one) ?_;(case s1=>rfl);(case s2=>rfl);(case s3=>rw[List.size_toArray,List.size_toArray,HL5.o];rfl);intro w9 s9 u9;have S9:=ħ s9;have U9:=ħ u9;clear s9 u9)
       exact bodyPost_ret (results_cell_row (p:=6) (by kernel_rfl) _ _ (w.heap.size+1) 25 vs.toArray (0,0) _ rfl S9.o Tryz.underlying25 rfl (Zae _ HL5.o)) rfl (Zba HV9.o (O8.o.updNew U9.o (Nat.le_succ _)) rfl ⟨vs,rfl,(PC8.o.upd U9.o (fun hh=>hh.2.1 (.inl rfl))).mono (fun x hx _=>hx.1)⟩ (H0.o.upd P8.o U9.o (Nat.le_succ _)))
     ·have HK1:Hid (Zeq 2 (acc.map (Zfp a)) = .mk 2 [] [] 0 (acc.map (Zfp a))):=ħ (by
       have:=hcnt.o
       match acc,this with
       | [],h=>rfl
       | [q],h=>simp at h;omega
       | q::q2::l,h=>rfl)
      have k1:((k:Int)==1)=false:=by rw[beq_eq_false_iff_ne];omega
      have k2:¬ ((k:Int)=1):=by omega
      have P7:=P6
      have O7:=O6
      have PC7:=ħ (K6.o.predV (by have:=HA.o;omega) 2 0)
      rw[← HK1.o] at PC7
      clear hk1
      go_wp2_with (first
       | (refine wpList_load_row rfl 25 (.tmp 7) rfl A ?x1 25 (Zds 2 0 ao2 k cp).toArray (0,0) _ S6.o Tryz.underlying25 rfl (Zae _ rfl) ?_;(case x1=>rfl)))
      refine (Zcw (3*acc.length+1) (Zeq 2 (acc.map (Zfp a))) w6 _ (Zds 2 0 ao2 k cp) R ao cap ts sz (j+1) u (Zxz a acc) (by have:=HCN.o;omega) PC7.o P7.o hu hn).mono ?_
      rintro e w8 ⟨b8,he⟩
      rw[Zxy] at he
      have O8:=ħ (O7.o.step b8)
      cases hok:acc.all (Zfy a) with
      | false =>
       rw[hok,if_neg (by simp)] at he
       have HE9:Hid (V = .error (3,Zdu ts sz u)):=ħ (by rw[HF.o,if_neg (by rw[hok];simp)])
       clear hok b8
       subst he
       unfold Za0
       go_wp2
       exact⟨rfl,Zas HE9.o O8.o rfl⟩
      | true =>
       rw[hok,if_pos rfl] at he
       have HV9:Hid (V = .ok (Zeq 2 (acc.map (Zfp a)),j+1)):=ħ (by rw[HF.o,if_pos hok])
       subst he
       have P8:=ħ (P7.o.step b8)
       have Z8:=ħ (Z6.o.step b8)
       have K8:=ħ (K6.o.step b8)
       clear b8 hok
       go_wp2_with (refine Zab rfl 25 (.tmp 6) (.tmp 63) rfl (w.heap.size+1) (Zds 2 0 ao2 k cp).toArray ?s1 ?s2 25 _ Z8.o (Zae _ rfl) rfl (Zep _ _ _ _ _) ?_;(case s1=>rfl);(case s2=>rfl);intro w9 s9 u9;have S9:=ħ s9;have U9:=ħ u9;clear s9 u9)
       have K9:=K8.o.upd U9.o (.inl rfl) (fun e=>by have:=(K8.o.own.blk_lt e).1;have:=HA.o;omega)
       exact bodyPost_ret (results_cell_row (p:=6) (by kernel_rfl) _ _ (w.heap.size+1) 25 (Zds 2 0 ao2 k cp).toArray (0,0) _ rfl S9.o Tryz.underlying25 rfl (Zae _ rfl)) rfl (Zba HV9.o (O8.o.updNew U9.o (Nat.le_succ _)) rfl ⟨_,rfl,by rw[HK1.o];exact K9.predV (by have:=HA.o;omega) 2 0⟩ (H0.o.upd P8.o U9.o (Nat.le_succ _)))
   | true =>
    have HF:=ħ (hv1.o rfl)
    clear hv1 hv0
    obtain⟨p0,p1,p2⟩:=hp.o.cells
    have hf0:∃ f',f=f'+1:=⟨f-1,by have:=HF.o.2;omega⟩
    obtain⟨f',rfl⟩:=hf0
    have HFF:Hid (ts.length-j<f'+1):=ħ HF.o.2
    have HF1:=ħ HF.o.1
    have HID:=ħ hp.o.idx
    go_wp2_with fail
    cases h3:Zcx ts j with
    | false =>
     refine (Zed wr R ao cap ts sz j hp.o hj hn HTS.o h3).mono ?_
     have HE1:Hid (V = .error (12,Zdu ts sz j)):=ħ (by rw[HF1.o,Z2i (Zhd h3)];rfl)
     clear h3
     rintro e w3 ⟨rfl,o3⟩
     have O3:=ħ (ho.o.trans o3)
     clear o3
     unfold Za0
     go_wp2
     exact⟨rfl,Zas HE1.o O3.o rfl⟩
    | true =>
     have l3:=Zex h3
     have HN1:=ħ (Zfm (sz:=sz) h3)
     have hvm:=Zdw HTS.o j
     refine (Zdp wr R ao cap ts sz j hp.o hn HTS.o h3).mono ?_
     clear h3
     generalize Zhu ts j=m at *
     rintro e w3 ⟨rfl,p3,o3⟩
     have S3:=ħ (hs.o.only o3 (by have:=RA.o;omega))
     have Z3:=ħ (hz.o.only o3 (by have:=RL.o;omega))
     have X3:=ħ (hx.o.only o3 (by have:=RL.o;omega))
     have K3:=ħ (hk.o.only o3 RL.o (by have:=HA.o;omega))
     have P3:=ħ p3
     have O3:=ħ (ho.o.trans o3)
     have T3:=ħ (ht.o.onlyR o3 hR)
     clear p3 o3 p0 p1 p2 hs hz hx hk hp ho ht HF
     go_wp2_with fail
     cases h4:isP ts [46,46] (j+1) with
     | false =>
      refine (Zcd w3 R ao cap ts sz (j+1) [46,46] P3.o l3 hn HTS.o (by decide) h4).mono ?_
      have HS4:Hid ((if isP ts [46,46] (j+1)=true then Znb ts sz (j+1+1) else .ok (m,j+1))=(.ok (m,j+1):PR Nat)):=ħ (by rw[if_neg (by rw[h4];simp)])
      rintro e w4 ⟨rfl,b4⟩
      have S4:=ħ (S3.o.step b4)
      have Z4:=ħ (Z3.o.step b4)
      have X4:=ħ (X3.o.step b4)
      have K4:=ħ (K3.o.step b4)
      have P4:=ħ (P3.o.step b4)
      have O4:=ħ (O3.o.step b4)
      have T4:=ħ (T3.o.step b4)
      have hvn:=hvm
      clear b4 S3 Z3 X3 K3 P3 O3 T3 h4
      have HF2:Hid (V=(if m<m then .error (3,Zdu ts sz j) else if isP ts [44] (j+1)=true then Zbu ts sz f' (j+1+1) (acc++[(m,m)]) else .ok (acc++[(m,m)],j+1)).bind (fun r=>(Zbi ts sz [125] r.2).bind (fun k=>if r.1.all (Zfy a)=true then (.ok (Zeq 2 (r.1.map (Zfp a)),k):PR Prd) else .error (3,Zdu ts sz u)))):=ħ (by rw[HF1.o,Zt7 HN1.o HS4.o])
      by_cases hmn:m<m
      ·have i1:(m:Int)<(m:Int):=by omega
       have HE3:Hid (V = .error (3,Zdu ts sz j)):=ħ (by rw[HF2.o,if_pos hmn];rfl)
       clear HF2 hmn
       go_wp2_with fail
       refine (Zcj w4 R ao cap ts sz j (j+1) 3 P4.o hj hn).mono ?_
       rintro e w9 ⟨rfl,b9⟩
       have O9:=ħ (O4.o.step b9)
       clear b9
       unfold Za0
       go_wp2
       exact⟨rfl,Zas HE3.o O9.o rfl⟩
      ·have i1:¬ ((m:Int)<(m:Int)):=by omega
       have HF3:Hid (V=(if isP ts [44] (j+1)=true then Zbu ts sz f' (j+1+1) (acc++[(m,m)]) else .ok (acc++[(m,m)],j+1)).bind (fun r=>(Zbi ts sz [125] r.2).bind (fun k=>if r.1.all (Zfy a)=true then (.ok (Zeq 2 (r.1.map (Zfp a)),k):PR Prd) else .error (3,Zdu ts sz u)))):=ħ (by rw[HF2.o,if_neg hmn])
       clear HF2 hmn HF1
       go_upto_region 13 with (fail)
       have c4:=S4.o.cell 4 _ rfl
       have c1:=X4.o.cell 0 _ rfl
       have c2:=X4.o.cell 1 _ rfl
       refine Zaw [0,1,2,3,4,6,7,8] [5,9,10,11,12,13,14,15] (fun w'=>w'.cell? ⟨A,4,none⟩=some (.slice ao2 k cp)∧w'.cell? ⟨w.heap.size,0,none⟩=some (.string x)∧w'.cell? ⟨w.heap.size,1,none⟩=some (.int .i64 a2)) (by kernel_rfl) (by kernel_rfl) (by kernel_rfl) (fun _ _ d _ _ h=>by cases d<;>exact h) ⟨c4,c1,c2⟩ ?_
       simp only[Zbx,List.filterMap_cons,List.filterMap_nil,List.getElem?_cons_zero,List.getElem?_cons_succ,Option.map_some,List.map_cons,List.map_nil]
       apply Exists.intro
       refine⟨?hh,?ht⟩
       case hh =>
        intro w' hw'
        obtain⟨d0,d1,d2⟩:=hw'
        repeat still_step
        exact wpStill_nil rfl
       case ht =>
        have BD:Below w4.heap.size w4 w4.drew:=(Below.refl w4.heap.size w4).drew
        have hs1:=ħ (S4.o.step BD)
        have hz1:=ħ (Z4.o.step BD)
        have hx1:=ħ (X4.o.step BD)
        have hk1:=ħ (K4.o.step BD)
        have hp1:=ħ (P4.o.step BD)
        have ho1:=ħ (O4.o.step BD)
        have ht1:=ħ (T4.o.step BD)
        clear BD S4 Z4 X4 K4 P4 O4 T4
        generalize w4.drew=wd at *
        have SS:Hid (∀ w':World,Below wd.heap.size wd w'→w'.cell? ⟨A,4,none⟩=some (.slice ao2 k cp)∧w'.cell? ⟨w.heap.size,0,none⟩=some (.string x)∧w'.cell? ⟨w.heap.size,1,none⟩=some (.int .i64 a2)):=ħ (fun w' hb=>⟨(hs1.o.step hb).cell 4 _ rfl,(hx1.o.step hb).cell 0 _ rfl,(hx1.o.step hb).cell 1 _ rfl⟩)
        obtain⟨D1,hD1⟩:∃ D,a2-(m:Int)-0=D:=⟨_,rfl⟩
        obtain⟨D2,hD2⟩:∃ D,((m:Nat):Int)-a2-0=D:=⟨_,rfl⟩
        have M1:=ħ (fun w=>HM1.o m w hvm)
        have M2:=ħ (fun w=>HM2.o m w hvn)
        rw[hD1] at M1
        rw[hD2] at M2
        have HD1:=ħ hD1
        have HD2:=ħ hD2
        clear hD1 hD2
        refine Zaf ?_
        go_wp2_with fail
        refine (M1.o wd).mono ?_
        rintro e wa ⟨rfl,ba⟩
        have BA:=ħ ba
        clear ba
        go_wp2_with fail
        refine Zaa ⟨SS.o wa BA.o,?_⟩
        refine Zaf ?_
        go_wp2_with fail
        refine (M2.o wa).mono ?_
        rintro e wb ⟨rfl,bb⟩
        have BB:=ħ (BA.o.trans (bb.mono BA.o.size))
        clear bb BA
        go_wp2_with fail
        refine Zaa ⟨SS.o wb BB.o,?_⟩
        refine Zaf ?_
        have BC:=ħ (BB.o.alloc BB.o.size (.cells #[.int .i64 0,.string ⟨#[]⟩,.string x,.int .i64 D1,.slice none 0 0,.int .i64 0,.string x,.string ⟨#[]⟩,.int .i64 D2,.slice none 0 0] 25))
        have NC:Hid (Zah (wb.alloc (.cells #[.int .i64 0,.string ⟨#[]⟩,.string x,.int .i64 D1,.slice none 0 0,.int .i64 0,.string x,.string ⟨#[]⟩,.int .i64 D2,.slice none 0 0] 25)) wb.heap.size 25 [.int .i64 0,.string ⟨#[]⟩,.string x,.int .i64 D1,.slice none 0 0,.int .i64 0,.string x,.string ⟨#[]⟩,.int .i64 D2,.slice none 0 0]):=ħ (heap_alloc_new wb _)
        have LB:Hid (wd.heap.size≤wb.heap.size):=ħ BB.o.size
        go_wp2_with fail
        generalize wb.alloc (.cells #[.int .i64 0,.string ⟨#[]⟩,.string x,.int .i64 D1,.slice none 0 0,.int .i64 0,.string x,.string ⟨#[]⟩,.int .i64 D2,.slice none 0 0] 25)=wc at *
        refine Zaa ⟨SS.o wc BC.o,?_⟩
        refine Zaf ?_
        go_wp2_with fail
        refine Zaa ⟨SS.o wc BC.o,?_⟩
        refine Zaf ?_
        have PC:Hid (Zai wc (fun g=>wd.heap.size≤g) (Zfp a (m,m)) (Zds 1 0 (some ⟨wb.heap.size,0,none⟩) 2 2)):=ħ (HAT.o wc _ wb.heap.size m m D1 D2 HD1.o HD2.o LB.o NC.o.lt (fun q y hq=>by rw[Nat.zero_add];exact NC.o.cell q y hq))
        have S6:=ħ (hs1.o.step BC.o)
        have Z6:=ħ (hz1.o.step BC.o)
        have X6:=ħ (hx1.o.step BC.o)
        have K6:=ħ (hk1.o.step BC.o)
        have P6:=ħ (hp1.o.step BC.o)
        have O6:=ħ (ho1.o.step BC.o)
        have T6:=ħ (ht1.o.step BC.o)
        have WD:Hid (A<wd.heap.size):=ħ hs1.o.lt
        have WO:Hid (w.heap.size≤wd.heap.size):=ħ ho1.o.size
        go_wp2_with fail
        refine Zaa ⟨SS.o _ (BC.o.alloc BC.o.size _),?_⟩
        refine Zaf ?_
        generalize wb.heap.size=BL at *
        go_wp2_with (at_builtin;refine Zfa 23 25 Znm 5 72 Tryz.underlying23 Zdo rfl (by omega) (by omega) wc (A+1) rfl (.tmp 36) (.tmp 47) rfl ao2 cp k vss.flatten ?q1 K6.o.own S6.o.lt 1 1 (Zds 1 0 (some ⟨BL,0,none⟩) 2 2).toArray 25 ?q2 rfl (by omega) PC.o.ones ?q4 ?_;(case q1=>rfl);(case q2=>rfl);(case q4=>omega);intro g5 off5 c5 we o8 gr8 b8 or8;have O8:=ħ o8;have GR8:=ħ gr8;have B8:=ħ b8;have OR8:=ħ or8;clear o8 gr8 b8 or8)
        have KA:=ħ (KidsM.add hk1.o K6.o WO.o (fun g hg=>by have:=WD.o;have:=HA.o;rcases hg with h | h<;>omega) PC.o O8.o GR8.o OR8.o)
        have SA:=ħ (S6.o.below B8.o (Nat.lt_succ_self A))
        have ZA:=ħ (Z6.o.below B8.o (by have:=HA.o;omega))
        have XA:=ħ (X6.o.below B8.o (by have:=HA.o;omega))
        have BB8:=ħ (B8.o.mono (B':=w.heap.size) (by have:=HA.o;omega))
        have PA:=ħ (H0.o.below P6.o BB8.o)
        have OA:=ħ (O6.o.belowB BB8.o)
        have TA:=ħ (T6.o.below B8.o (by have:=RA.o;omega))
        clear K6 S6 Z6 X6 P6 O6 T6 GR8 OR8 B8 BB8 hs1 hz1 hx1 hk1 hp1 ho1 ht1 PC SS BB BC NC
        refine Zaa ⟨⟨SA.o.cell 4 _ rfl,XA.o.cell 0 _ rfl,XA.o.cell 1 _ rfl⟩,?_⟩
        refine Zaf ?_
        go_wp2_with fail
        refine Zaa ⟨⟨SA.o.cell 4 _ rfl,XA.o.cell 0 _ rfl,XA.o.cell 1 _ rfl⟩,?_⟩
        refine Zaz ?_
        have m4:=SA.o.cell 4 _ rfl
        have f4:=SA.o.warm 4
        go_wp2_with fail
        clear m4 f4
        have U5:=ħ (Zaj we ⟨A,4,none⟩ (.slice (some ⟨g5,off5,none⟩) (k+1) c5))
        have S5:Hid (Zah (we.setCell ⟨A,4,none⟩ (.slice (some ⟨g5,off5,none⟩) (k+1) c5)) A 25 (Zds 2 0 (some ⟨g5,off5,none⟩) (k+1) c5)):=ħ (SA.o.set 4 _)
        have Z5:=ħ (ZA.o.upd U5.o (by show w.heap.size+1≠A;have:=HA.o;omega))
        have X5:=ħ (XA.o.upd U5.o (by show w.heap.size≠A;have:=HA.o;omega))
        have K5:=ħ (KA.o.upd U5.o (.inr rfl) (fun e=>by have:=(KA.o.own.blk_lt e).1;have:A+1≤A:=this;omega))
        have P5:=ħ (H0.o.upd PA.o U5.o (by show w.heap.size≤A;have:=HA.o;omega))
        have O5:=ħ (OA.o.updNew U5.o (by show w.heap.size≤A;have:=HA.o;omega))
        have T5:=ħ (TA.o.below (Below.upd (B:=A) U5.o (Nat.le_refl _)) (by have:=RA.o;omega))
        clear SA ZA XA KA PA OA TA U5 O8
        generalize we.setCell ⟨A,4,none⟩ (.slice (some ⟨g5,off5,none⟩) (k+1) c5)=wf at *
        cases hw:isP ts [44] (j+1) with
        | false =>
         refine (Zcd wf R ao cap ts sz (j+1) [44] P5.o (by omega) hn HTS.o (by decide) hw).mono ?_
         have HX:Hid (V=(fun r=>(Zbi ts sz [125] r.2).bind (fun k=>if r.1.all (Zfy a)=true then (.ok (Zeq 2 (r.1.map (Zfp a)),k):PR Prd) else .error (3,Zdu ts sz u))) (acc++[(m,m)],j+1)):=ħ (by rw[HF3.o,if_neg (by rw[hw];simp)];rfl)
         rintro e w6 ⟨rfl,b6⟩
         have S6:=ħ (S5.o.step b6)
         have Z6:=ħ (Z5.o.step b6)
         have X6:=ħ (X5.o.step b6)
         have K6:=ħ (K5.o.step b6)
         have P6:=ħ (P5.o.step b6)
         have O6:=ħ (O5.o.step b6)
         have T6:=ħ (T5.o.step b6)
         clear b6 S5 Z5 X5 K5 P5 O5 T5 hw HF3
         go_wp2
         go_roundw
         case rel=>exact⟨false,j+1,0,k+1,c5,some ⟨g5,off5,none⟩,acc++[(m,m)],vss++[Zds 1 0 (some ⟨BL,0,none⟩) 2 2],rfl,by omega,(by omega),by omega,S6,Z6,X6,ħ (by rw[List.map_append];exact K6.o),P6,O6,T6,ħ (fun e=>by cases e),ħ (fun _=>⟨by simp,HX.o⟩)⟩
         case measure=>rw[P6.o.idx,HID.o];omega
        | true =>
         have hlt:=Zbv hw
         refine (Zbt wf R ao cap ts sz (j+1) [44] P5.o hn HTS.o (by decide) hw).mono ?_
         have HX:Hid (V=(Zbu ts sz f' (j+1+1) (acc++[(m,m)])).bind (fun r=>(Zbi ts sz [125] r.2).bind (fun k=>if r.1.all (Zfy a)=true then (.ok (Zeq 2 (r.1.map (Zfp a)),k):PR Prd) else .error (3,Zdu ts sz u)))):=ħ (by rw[HF3.o,if_pos hw])
         rintro e w6 ⟨rfl,p6,o6⟩
         have S6:=ħ (S5.o.only o6 (by have:=RA.o;omega))
         have Z6:=ħ (Z5.o.only o6 (by have:=RL.o;omega))
         have X6:=ħ (X5.o.only o6 (by have:=RL.o;omega))
         have K6:=ħ (K5.o.only o6 RL.o (by have:=HA.o;omega))
         have P6:=ħ p6
         have O6:=ħ (O5.o.trans o6)
         have T6:=ħ (T5.o.onlyR o6 hR)
         clear p6 o6 S5 Z5 X5 K5 P5 O5 T5 hw HF3
         go_wp2
         go_roundw
         case rel=>exact⟨true,j+1+1,f',k+1,c5,some ⟨g5,off5,none⟩,acc++[(m,m)],vss++[Zds 1 0 (some ⟨BL,0,none⟩) 2 2],rfl,by omega,by omega,by omega,S6,Z6,X6,ħ (by rw[List.map_append];exact K6.o),P6,O6,T6,ħ (fun _=>⟨HX.o,by have:=HFF.o;omega⟩),ħ (fun e=>by cases e)⟩
         case measure=>rw[P6.o.idx,HID.o];omega
     | true =>
      have l4:=Zbv h4
      refine (Zbt w3 R ao cap ts sz (j+1) [46,46] P3.o hn HTS.o (by decide) h4).mono ?_
      rintro e w4 ⟨rfl,p4,o4⟩
      have S4:=ħ (S3.o.only o4 (by have:=RA.o;omega))
      have Z4:=ħ (Z3.o.only o4 (by have:=RL.o;omega))
      have X4:=ħ (X3.o.only o4 (by have:=RL.o;omega))
      have K4:=ħ (K3.o.only o4 RL.o (by have:=HA.o;omega))
      have P4:=ħ p4
      have O4:=ħ (O3.o.trans o4)
      have T4:=ħ (T3.o.onlyR o4 hR)
      clear p4 o4 S3 Z3 X3 K3 P3 O3 T3
      go_wp2_with fail
      cases h5:Zcx ts (j+1+1) with
      | false =>
       refine (Zed w4 R ao cap ts sz (j+1+1) P4.o l4 hn HTS.o h5).mono ?_
       have HE2:Hid (V = .error (12,Zdu ts sz (j+1+1))):=ħ (by rw[HF1.o,Z2j HN1.o (by rw[if_pos h4,Zhd h5])];rfl)
       rintro e w5 ⟨rfl,o5⟩
       have O5:=ħ (O4.o.trans o5)
       clear o5 h5 h4
       unfold Za0
       go_wp2
       exact⟨rfl,Zas HE2.o O5.o rfl⟩
      | true =>
       have l5:=Zex h5
       have hvn:=Zdw HTS.o (j+1+1)
       have HS4:Hid ((if isP ts [46,46] (j+1)=true then Znb ts sz (j+1+1) else .ok (m,j+1))=(.ok (Zhu ts (j+1+1),j+1+1+1):PR Nat)):=ħ (by rw[if_pos h4,Zfm h5])
       refine (Zdp w4 R ao cap ts sz (j+1+1) P4.o hn HTS.o h5).mono ?_
       clear h5 h4
       generalize Zhu ts (j+1+1)=N at *
       rintro e w5 ⟨rfl,p5,o5⟩
       have S5:=ħ (S4.o.only o5 (by have:=RA.o;omega))
       have Z5:=ħ (Z4.o.only o5 (by have:=RL.o;omega))
       have X5:=ħ (X4.o.only o5 (by have:=RL.o;omega))
       have K5:=ħ (K4.o.only o5 RL.o (by have:=HA.o;omega))
       have P5:=ħ p5
       have O5:=ħ (O4.o.trans o5)
       have T5:=ħ (T4.o.onlyR o5 hR)
       clear p5 o5 S4 Z4 X4 K4 P4 O4 T4
       have HF2:Hid (V=(if N<m then .error (3,Zdu ts sz j) else if isP ts [44] (j+1+1+1)=true then Zbu ts sz f' (j+1+1+1+1) (acc++[(m,N)]) else .ok (acc++[(m,N)],j+1+1+1)).bind (fun r=>(Zbi ts sz [125] r.2).bind (fun k=>if r.1.all (Zfy a)=true then (.ok (Zeq 2 (r.1.map (Zfp a)),k):PR Prd) else .error (3,Zdu ts sz u)))):=ħ (by rw[HF1.o,Zt7 HN1.o HS4.o])
       by_cases hmn:N<m
       ·have i1:(N:Int)<(m:Int):=by omega
        have HE3:Hid (V = .error (3,Zdu ts sz j)):=ħ (by rw[HF2.o,if_pos hmn];rfl)
        clear HF2 hmn
        go_wp2_with fail
        refine (Zcj w5 R ao cap ts sz j (j+1+1+1) 3 P5.o hj hn).mono ?_
        rintro e w9 ⟨rfl,b9⟩
        have O9:=ħ (O5.o.step b9)
        clear b9
        unfold Za0
        go_wp2
        exact⟨rfl,Zas HE3.o O9.o rfl⟩
       ·have i1:¬ ((N:Int)<(m:Int)):=by omega
        have HF3:Hid (V=(if isP ts [44] (j+1+1+1)=true then Zbu ts sz f' (j+1+1+1+1) (acc++[(m,N)]) else .ok (acc++[(m,N)],j+1+1+1)).bind (fun r=>(Zbi ts sz [125] r.2).bind (fun k=>if r.1.all (Zfy a)=true then (.ok (Zeq 2 (r.1.map (Zfp a)),k):PR Prd) else .error (3,Zdu ts sz u)))):=ħ (by rw[HF2.o,if_neg hmn])
        clear HF2 hmn HF1
        go_upto_region 13 with (fail)
        have c4:=S5.o.cell 4 _ rfl
        have c1:=X5.o.cell 0 _ rfl
        have c2:=X5.o.cell 1 _ rfl
        refine Zaw [0,1,2,3,4,6,7,8] [5,9,10,11,12,13,14,15] (fun w'=>w'.cell? ⟨A,4,none⟩=some (.slice ao2 k cp)∧w'.cell? ⟨w.heap.size,0,none⟩=some (.string x)∧w'.cell? ⟨w.heap.size,1,none⟩=some (.int .i64 a2)) (by kernel_rfl) (by kernel_rfl) (by kernel_rfl) (fun _ _ d _ _ h=>by cases d<;>exact h) ⟨c4,c1,c2⟩ ?_
        simp only[Zbx,List.filterMap_cons,List.filterMap_nil,List.getElem?_cons_zero,List.getElem?_cons_succ,Option.map_some,List.map_cons,List.map_nil]
        apply Exists.intro
        refine⟨?hh,?ht⟩
        case hh =>
         intro w' hw'
         obtain⟨d0,d1,d2⟩:=hw'
         repeat still_step
         exact wpStill_nil rfl
        case ht =>
         have BD:Below w5.heap.size w5 w5.drew:=(Below.refl w5.heap.size w5).drew
         have hs1:=ħ (S5.o.step BD)
         have hz1:=ħ (Z5.o.step BD)
         have hx1:=ħ (X5.o.step BD)
         have hk1:=ħ (K5.o.step BD)
         have hp1:=ħ (P5.o.step BD)
         have ho1:=ħ (O5.o.step BD)
         have ht1:=ħ (T5.o.step BD)
         clear BD S5 Z5 X5 K5 P5 O5 T5
         generalize w5.drew=wd at *
         have SS:Hid (∀ w':World,Below wd.heap.size wd w'→w'.cell? ⟨A,4,none⟩=some (.slice ao2 k cp)∧w'.cell? ⟨w.heap.size,0,none⟩=some (.string x)∧w'.cell? ⟨w.heap.size,1,none⟩=some (.int .i64 a2)):=ħ (fun w' hb=>⟨(hs1.o.step hb).cell 4 _ rfl,(hx1.o.step hb).cell 0 _ rfl,(hx1.o.step hb).cell 1 _ rfl⟩)
         obtain⟨D1,hD1⟩:∃ D,a2-(m:Int)-0=D:=⟨_,rfl⟩
         obtain⟨D2,hD2⟩:∃ D,((N:Nat):Int)-a2-0=D:=⟨_,rfl⟩
         have M1:=ħ (fun w=>HM1.o m w hvm)
         have M2:=ħ (fun w=>HM2.o N w hvn)
         rw[hD1] at M1
         rw[hD2] at M2
         have HD1:=ħ hD1
         have HD2:=ħ hD2
         clear hD1 hD2
         refine Zaf ?_
         go_wp2_with fail
         refine (M1.o wd).mono ?_
         rintro e wa ⟨rfl,ba⟩
         have BA:=ħ ba
         clear ba
         go_wp2_with fail
         refine Zaa ⟨SS.o wa BA.o,?_⟩
         refine Zaf ?_
         go_wp2_with fail
         refine (M2.o wa).mono ?_
         rintro e wb ⟨rfl,bb⟩
         have BB:=ħ (BA.o.trans (bb.mono BA.o.size))
         clear bb BA
         go_wp2_with fail
         refine Zaa ⟨SS.o wb BB.o,?_⟩
         refine Zaf ?_
         have BC:=ħ (BB.o.alloc BB.o.size (.cells #[.int .i64 0,.string ⟨#[]⟩,.string x,.int .i64 D1,.slice none 0 0,.int .i64 0,.string x,.string ⟨#[]⟩,.int .i64 D2,.slice none 0 0] 25))
         have NC:Hid (Zah (wb.alloc (.cells #[.int .i64 0,.string ⟨#[]⟩,.string x,.int .i64 D1,.slice none 0 0,.int .i64 0,.string x,.string ⟨#[]⟩,.int .i64 D2,.slice none 0 0] 25)) wb.heap.size 25 [.int .i64 0,.string ⟨#[]⟩,.string x,.int .i64 D1,.slice none 0 0,.int .i64 0,.string x,.string ⟨#[]⟩,.int .i64 D2,.slice none 0 0]):=ħ (heap_alloc_new wb _)
         have LB:Hid (wd.heap.size≤wb.heap.size):=ħ BB.o.size
         go_wp2_with fail
         generalize wb.alloc (.cells #[.int .i64 0,.string ⟨#[]⟩,.string x,.int .i64 D1,.slice none 0 0,.int .i64 0,.string x,.string ⟨#[]⟩,.int .i64 D2,.slice none 0 0] 25)=wc at *
         refine Zaa ⟨SS.o wc BC.o,?_⟩
         refine Zaf ?_
         go_wp2_with fail
         refine Zaa ⟨SS.o wc BC.o,?_⟩
         refine Zaf ?_
         have PC:Hid (Zai wc (fun g=>wd.heap.size≤g) (Zfp a (m,N)) (Zds 1 0 (some ⟨wb.heap.size,0,none⟩) 2 2)):=ħ (HAT.o wc _ wb.heap.size m N D1 D2 HD1.o HD2.o LB.o NC.o.lt (fun q y hq=>by rw[Nat.zero_add];exact NC.o.cell q y hq))
         have S6:=ħ (hs1.o.step BC.o)
         have Z6:=ħ (hz1.o.step BC.o)
         have X6:=ħ (hx1.o.step BC.o)
         have K6:=ħ (hk1.o.step BC.o)
         have P6:=ħ (hp1.o.step BC.o)
         have O6:=ħ (ho1.o.step BC.o)
         have T6:=ħ (ht1.o.step BC.o)
         have WD:Hid (A<wd.heap.size):=ħ hs1.o.lt
         have WO:Hid (w.heap.size≤wd.heap.size):=ħ ho1.o.size
         go_wp2_with fail
         refine Zaa ⟨SS.o _ (BC.o.alloc BC.o.size _),?_⟩
         refine Zaf ?_
         generalize wb.heap.size=BL at *
         go_wp2_with (at_builtin;refine Zfa 23 25 Znm 5 72 Tryz.underlying23 Zdo rfl (by omega) (by omega) wc (A+1) rfl (.tmp 36) (.tmp 47) rfl ao2 cp k vss.flatten ?q1 K6.o.own S6.o.lt 1 1 (Zds 1 0 (some ⟨BL,0,none⟩) 2 2).toArray 25 ?q2 rfl (by omega) PC.o.ones ?q4 ?_;(case q1=>rfl);(case q2=>rfl);(case q4=>omega);intro g5 off5 c5 we o8 gr8 b8 or8;have O8:=ħ o8;have GR8:=ħ gr8;have B8:=ħ b8;have OR8:=ħ or8;clear o8 gr8 b8 or8)
         have KA:=ħ (KidsM.add hk1.o K6.o WO.o (fun g hg=>by have:=WD.o;have:=HA.o;rcases hg with h | h<;>omega) PC.o O8.o GR8.o OR8.o)
         have SA:=ħ (S6.o.below B8.o (Nat.lt_succ_self A))
         have ZA:=ħ (Z6.o.below B8.o (by have:=HA.o;omega))
         have XA:=ħ (X6.o.below B8.o (by have:=HA.o;omega))
         have BB8:=ħ (B8.o.mono (B':=w.heap.size) (by have:=HA.o;omega))
         have PA:=ħ (H0.o.below P6.o BB8.o)
         have OA:=ħ (O6.o.belowB BB8.o)
         have TA:=ħ (T6.o.below B8.o (by have:=RA.o;omega))
         clear K6 S6 Z6 X6 P6 O6 T6 GR8 OR8 B8 BB8 hs1 hz1 hx1 hk1 hp1 ho1 ht1 PC SS BB BC NC
         refine Zaa ⟨⟨SA.o.cell 4 _ rfl,XA.o.cell 0 _ rfl,XA.o.cell 1 _ rfl⟩,?_⟩
         refine Zaf ?_
         go_wp2_with fail
         refine Zaa ⟨⟨SA.o.cell 4 _ rfl,XA.o.cell 0 _ rfl,XA.o.cell 1 _ rfl⟩,?_⟩
         refine Zaz ?_
         have m4:=SA.o.cell 4 _ rfl
         have f4:=SA.o.warm 4
         go_wp2_with fail
         clear m4 f4
         have U5:=ħ (Zaj we ⟨A,4,none⟩ (.slice (some ⟨g5,off5,none⟩) (k+1) c5))
         have S5:Hid (Zah (we.setCell ⟨A,4,none⟩ (.slice (some ⟨g5,off5,none⟩) (k+1) c5)) A 25 (Zds 2 0 (some ⟨g5,off5,none⟩) (k+1) c5)):=ħ (SA.o.set 4 _)
         have Z5:=ħ (ZA.o.upd U5.o (by show w.heap.size+1≠A;have:=HA.o;omega))
         have X5:=ħ (XA.o.upd U5.o (by show w.heap.size≠A;have:=HA.o;omega))
         have K5:=ħ (KA.o.upd U5.o (.inr rfl) (fun e=>by have:=(KA.o.own.blk_lt e).1;have:A+1≤A:=this;omega))
         have P5:=ħ (H0.o.upd PA.o U5.o (by show w.heap.size≤A;have:=HA.o;omega))
         have O5:=ħ (OA.o.updNew U5.o (by show w.heap.size≤A;have:=HA.o;omega))
         have T5:=ħ (TA.o.below (Below.upd (B:=A) U5.o (Nat.le_refl _)) (by have:=RA.o;omega))
         clear SA ZA XA KA PA OA TA U5 O8
         generalize we.setCell ⟨A,4,none⟩ (.slice (some ⟨g5,off5,none⟩) (k+1) c5)=wf at *
         cases hw:isP ts [44] (j+1+1+1) with
         | false =>
          refine (Zcd wf R ao cap ts sz (j+1+1+1) [44] P5.o (by omega) hn HTS.o (by decide) hw).mono ?_
          have HX:Hid (V=(fun r=>(Zbi ts sz [125] r.2).bind (fun k=>if r.1.all (Zfy a)=true then (.ok (Zeq 2 (r.1.map (Zfp a)),k):PR Prd) else .error (3,Zdu ts sz u))) (acc++[(m,N)],j+1+1+1)):=ħ (by rw[HF3.o,if_neg (by rw[hw];simp)];rfl)
          rintro e w6 ⟨rfl,b6⟩
          have S6:=ħ (S5.o.step b6)
          have Z6:=ħ (Z5.o.step b6)
          have X6:=ħ (X5.o.step b6)
          have K6:=ħ (K5.o.step b6)
          have P6:=ħ (P5.o.step b6)
          have O6:=ħ (O5.o.step b6)
          have T6:=ħ (T5.o.step b6)
          clear b6 S5 Z5 X5 K5 P5 O5 T5 hw HF3
          go_wp2
          go_roundw
          case rel=>exact⟨false,j+1+1+1,0,k+1,c5,some ⟨g5,off5,none⟩,acc++[(m,N)],vss++[Zds 1 0 (some ⟨BL,0,none⟩) 2 2],rfl,by omega,(by omega),by omega,S6,Z6,X6,ħ (by rw[List.map_append];exact K6.o),P6,O6,T6,ħ (fun e=>by cases e),ħ (fun _=>⟨by simp,HX.o⟩)⟩
          case measure=>rw[P6.o.idx,HID.o];omega
         | true =>
          have hlt:=Zbv hw
          refine (Zbt wf R ao cap ts sz (j+1+1+1) [44] P5.o hn HTS.o (by decide) hw).mono ?_
          have HX:Hid (V=(Zbu ts sz f' (j+1+1+1+1) (acc++[(m,N)])).bind (fun r=>(Zbi ts sz [125] r.2).bind (fun k=>if r.1.all (Zfy a)=true then (.ok (Zeq 2 (r.1.map (Zfp a)),k):PR Prd) else .error (3,Zdu ts sz u)))):=ħ (by rw[HF3.o,if_pos hw])
          rintro e w6 ⟨rfl,p6,o6⟩
          have S6:=ħ (S5.o.only o6 (by have:=RA.o;omega))
          have Z6:=ħ (Z5.o.only o6 (by have:=RL.o;omega))
          have X6:=ħ (X5.o.only o6 (by have:=RL.o;omega))
          have K6:=ħ (K5.o.only o6 RL.o (by have:=HA.o;omega))
          have P6:=ħ p6
          have O6:=ħ (O5.o.trans o6)
          have T6:=ħ (T5.o.onlyR o6 hR)
          clear p6 o6 S5 Z5 X5 K5 P5 O5 T5 hw HF3
          go_wp2
          go_roundw
          case rel=>exact⟨true,j+1+1+1+1,f',k+1,c5,some ⟨g5,off5,none⟩,acc++[(m,N)],vss++[Zds 1 0 (some ⟨BL,0,none⟩) 2 2],rfl,by omega,by omega,by omega,S6,Z6,X6,ħ (by rw[List.map_append];exact K6.o),P6,O6,T6,ħ (fun _=>⟨HX.o,by have:=HFF.o;omega⟩),ħ (fun e=>by cases e)⟩
          case measure=>rw[P6.o.idx,HID.o];omega
end
section
open Go.RowKit
theorem Zx0 (R:Nat) (ao:Option Addr) (cap:Nat) (ts:List Tok) (sz B f:Nat) (hR:B≤R) (hn3:ts.length≤300000) (hts:∀ t∈ts,TokOk t)
  (ih:∀ (i:Nat) (w:World),i≤ts.length→ts.length-i<f→Tab w B→ParW w R ao cap ts sz i→Calls Tryz.prog 203 #[.pointer (some ⟨R,0,none⟩)] w fun e w'=>Zht w R ao cap ts sz (Zdg ts sz f i) e w')
  (i:Nat) (w:World) (hi:i≤ts.length) (hf:ts.length-i<f+1) (hT:Tab w B) (h:ParW w R ao cap ts sz i) :
  Calls Tryz.prog 203 #[.pointer (some ⟨R,0,none⟩)] w fun e w'=>Zht w R ao cap ts sz (Zdg ts sz (f+1) i) e w':=by
 obtain⟨V,hV⟩:∃ V,Zdg ts sz (f+1) i=V:=⟨_,rfl⟩
 rw[hV]
 have HV0:=ħ hV.symm
 rw[Zdg] at HV0
 clear hV
 have hn:ts.length≤1000000:=by omega
 have IH:=ħ ih
 have HTS:=ħ hts
 have HGO:=ħ (Zos (sz:=sz) hts f)
 have HFW:=ħ (Zou (sz:=sz) hts f)
 have Z0:Hid (Zah (w.alloc (.cells #[.int .i64 0,.string ⟨#[]⟩,.string ⟨#[]⟩,.int .i64 0,.slice none 0 0] 25)) w.heap.size 25 Zb0):=ħ (Zah.new w _ Zb0)
 have B0:=ħ ((Below.refl w.heap.size w).alloc (Nat.le_refl _) (.cells #[.int .i64 0,.string ⟨#[]⟩,.string ⟨#[]⟩,.int .i64 0,.slice none 0 0] 25))
 have P0:=ħ (h.step B0.o)
 have T0:=ħ (hT.step B0.o)
 have Q0:=ħ (Only.refl (w.alloc (.cells #[.int .i64 0,.string ⟨#[]⟩,.string ⟨#[]⟩,.int .i64 0,.slice none 0 0] 25)) (· = R))
 have H0:=ħ h
 have BO:=ħ (Only.of_below (p:=(· = R)) B0.o)
 have RL:=ħ h.lt
 obtain⟨p0,p1,p2⟩:=P0.o.cells
 clear h hT hts ih B0 p0 p2
 go_enter Tryz.func203,Tryz.ntmps203
 go_wp2_with fail
 clear p1
 generalize w.alloc (.cells #[.int .i64 0,.string ⟨#[]⟩,.string ⟨#[]⟩,.int .i64 0,.slice none 0 0] 25)=w0 at *
 cases h1:isP ts [110,111,116] i with
 | true =>
  have l1:=Zbv h1
  have HV:Hid (V=(Zdg ts sz f (i+1)).bind (fun p=>.ok (Zsc p.1,p.2))):=ħ (by rw[HV0.o,if_pos h1])
  refine (Zbt w0 R ao cap ts sz i [110,111,116] P0.o hn HTS.o (by decide) h1).mono ?_
  clear h1 HV0
  rintro e w1 ⟨rfl,p1,o1⟩
  have P1:=ħ p1
  have T1:=ħ (T0.o.onlyR o1 hR)
  have Q1:=ħ (Q0.o.trans o1)
  have Z1:=ħ (Z0.o.only o1 (by have:=RL.o;omega))
  clear p1 o1 P0 T0 Q0 Z0
  go_wp2_with fail
  refine (IH.o (i+1) w1 l1 (by omega) T1.o P1.o).mono ?_
  rintro e w2 ⟨o2,hr⟩
  have Q2:=ħ (Q1.o.trans o2)
  cases hej:Zdg ts sz f (i+1) with
  | error x =>
   rw[hej] at hr
   have HVX:Hid (V = .error x):=ħ (by rw[HV.o,hej];rfl)
   clear o2 hej
   subst hr
   unfold Za0
   go_wp2
   exact⟨rfl,Zas HVX.o (BO.o.trans Q2.o) rfl⟩
  | ok r =>
   rw[hej] at hr
   obtain⟨p,j2⟩:=r
   obtain⟨⟨v,rfl,vs,rfl,hpc⟩,hp2⟩:=hr
   have HEJ:=ħ hej
   have PC:=ħ (hpc.mono (P':=fun g=>w.heap.size<g) (fun g hg _=>by have:=Z1.o.lt;omega))
   have HL5:=ħ hpc.len
   have P2:=ħ hp2
   have Z2:=ħ (Z1.o.only o2 (by have:=RL.o;omega))
   have T2:=ħ (T1.o.onlyR o2 hR)
   clear hpc hp2 o2 hej
   have HF1:Hid (V = .ok (Zsc p,j2)):=ħ (by rw[HV.o,HEJ.o];rfl)
   have HCT:Hid (Za8 p≤1000000):=ħ (by have:=(HFW.o (i+1) (p,j2) HEJ.o).2;have h3:=(HGO.o (i+1) (p,j2) HEJ.o).2;simp only at this h3;omega)
   go_wp2_with fail
   refine (Zop 1000000 p w2 _ vs HCT.o (Nat.le_refl _) PC.o).mono ?_
   clear HEJ HV PC HL5
   rintro e w3 ⟨⟨v,rfl,vs,rfl,hpc⟩,b3⟩
   have PC:=ħ (hpc.mono (P':=fun g=>w.heap.size<g) (fun g hg _=>by have:=Z2.o.lt;omega))
   have HL5:=ħ hpc.len
   have P3:=ħ (P2.o.step b3)
   have Q3:=ħ (Q2.o.step b3)
   have Z3:=ħ (Z2.o.step b3)
   clear hpc b3 P2 Q2 Z2 T2
   go_wp2_with (refine Zab rfl 25 (.tmp 2) (.tmp 15) rfl w.heap.size vs.toArray ?s1 ?s2 25 _ Z3.o (Zae _ HL5.o) ?s3 (PC.o.one) ?_;(case s1=>rfl);(case s2=>rfl);(case s3=>rw[List.size_toArray,List.size_toArray,HL5.o];rfl);intro w9 s9 u9;have S9:=ħ s9;have U9:=ħ u9;clear s9 u9)
   exact bodyPost_ret (results_cell_row (p:=2) (by kernel_rfl) _ _ w.heap.size 25 vs.toArray (0,0) _ rfl S9.o Tryz.underlying25 rfl (Zae _ HL5.o)) rfl (Zba HF1.o ((BO.o.trans Q3.o).updNew U9.o (Nat.le_refl _)) rfl ⟨vs,rfl,(PC.o.upd U9.o (Nat.lt_irrefl _)).mono (fun g hg _=>Nat.le_of_lt hg)⟩ (H0.o.upd P3.o U9.o (Nat.le_refl _)))
 | false =>
  have HV1:Hid (V=if isP ts [40] i=true then (Zfc ts (Zdg ts sz f) (i+1)).bind (fun p=>(Zbi ts sz [41] p.2).bind (fun j=>.ok (p.1,j))) else if isP ts [97,116] i=true then Zgl ts sz (Zdg ts sz f) i (i+1) else (Znc ts sz i).bind (fun a=>if isP ts [105,110] a.2=true then Zdf ts sz a.1 i (a.2+1) else Zb3 ts sz a.1 i a.2)):=ħ (by rw[HV0.o,if_neg (by rw[h1];simp)])
  refine (Zcd w0 R ao cap ts sz i [110,111,116] P0.o hi hn HTS.o (by decide) h1).mono ?_
  clear h1 HV0
  rintro e w1 ⟨rfl,b1⟩
  have P1:=ħ (P0.o.step b1)
  have Q1:=ħ (Q0.o.step b1)
  have T1:=ħ (T0.o.step b1)
  have Z1:=ħ (Z0.o.step b1)
  clear b1 P0 T0 Q0 Z0
  go_wp2_with fail
  cases h2:isP ts [40] i with
  | true =>
   have l2:=Zbv h2
   have HV:Hid (V=(Zfc ts (Zdg ts sz f) (i+1)).bind (fun p=>(Zbi ts sz [41] p.2).bind (fun j=>.ok (p.1,j)))):=ħ (by rw[HV1.o,if_pos h2])
   refine (Zbt w1 R ao cap ts sz i [40] P1.o hn HTS.o (by decide) h2).mono ?_
   clear h2 HV1
   rintro e w2 ⟨rfl,p2,o2⟩
   have P2:=ħ p2
   have T2:=ħ (T1.o.onlyR o2 hR)
   have Q2:=ħ (Q1.o.trans o2)
   have Z2:=ħ (Z1.o.only o2 (by have:=RL.o;omega))
   clear p2 o2 P1 T1 Q1 Z1
   go_wp2_with fail
   refine (Zpu w2 R ao cap ts sz (i+1) B (Zdg ts sz f) T2.o hR P2.o l2 hn HTS.o HGO.o (fun k w h1 h2 hT hp=>IH.o k w h2 (by omega) hT hp)).mono ?_
   rintro e w3 ⟨o3,hr⟩
   have Q3:=ħ (Q2.o.trans o3)
   cases hej:Zfc ts (Zdg ts sz f) (i+1) with
   | error x =>
    rw[hej] at hr
    have HVX:Hid (V = .error x):=ħ (by rw[HV.o,hej];rfl)
    clear o3 hej
    subst hr
    unfold Za0
    go_wp2
    exact⟨rfl,Zas HVX.o (BO.o.trans Q3.o) rfl⟩
   | ok r =>
    rw[hej] at hr
    obtain⟨p,j2⟩:=r
    obtain⟨⟨v,rfl,vs,rfl,hpc⟩,hp2⟩:=hr
    have HEJ:=ħ hej
    have PC:=ħ (hpc.mono (P':=fun g=>w.heap.size<g) (fun g hg _=>by have:=Z2.o.lt;omega))
    have HL5:=ħ hpc.len
    have P3:=ħ hp2
    have Z3:=ħ (Z2.o.only o3 (by have:=RL.o;omega))
    have T3:=ħ (T2.o.onlyR o3 hR)
    clear hpc hp2 o3 hej
    have lj:=(Zid HGO.o (i+1) (p,j2) HEJ.o).2
    have HF1:Hid (V=(Zbi ts sz [41] j2).bind (fun j=>.ok (p,j))):=ħ (by rw[HV.o,HEJ.o];rfl)
    clear HEJ HV
    have A4:=ħ ((Below.refl w3.heap.size w3).alloc (Nat.le_refl _) (.cells Zb0.toArray 25))
    go_wp2_with (refine Zab rfl 25 (.tmp 4) (.tmp 20) rfl w3.heap.size vs.toArray ?s1 ?s2 25 _ (heap_alloc_new w3 _) (Zae _ HL5.o) ?s3 (PC.o.one) ?_;(case s1=>rfl);(case s2=>rfl);(case s3=>rw[List.size_toArray,List.size_toArray,HL5.o];rfl);intro w4 s4 u4;have S4:Hid (Zah w4 w3.heap.size 25 vs):=ħ s4;have C4:=ħ (u4.below A4.o (Nat.le_refl _));clear s4 u4)
    have P4:=ħ (P3.o.step C4.o)
    have Q4:=ħ (Q3.o.step C4.o)
    have T4:=ħ (T3.o.step C4.o)
    have Z4:=ħ (Z3.o.step C4.o)
    have PC4:=ħ (PC.o.below C4.o)
    have G3:Hid (w.heap.size<w3.heap.size):=ħ Z3.o.lt
    clear P3 Q3 T3 Z3 A4 C4
    generalize w3.heap.size=X at *
    cases h6:isP ts [41] j2 with
    | false =>
     refine (Zfv w4 R ao cap ts sz j2 [41] P4.o lj hn HTS.o (by decide) h6).mono ?_
     have HE:Hid (V = .error (12,Zdu ts sz j2)):=ħ (by rw[HF1.o,Zeo h6];rfl)
     clear h6
     rintro e w5 ⟨rfl,o5⟩
     have Q5:=ħ (Q4.o.trans o5)
     clear o5
     unfold Za0
     go_wp2
     exact⟨rfl,Zas HE.o (BO.o.trans Q5.o) rfl⟩
    | true =>
     have l6:=Zbv h6
     have HE:Hid (V = .ok (p,j2+1)):=ħ (by rw[HF1.o,Zdq h6];rfl)
     refine (Zfu w4 R ao cap ts sz j2 [41] P4.o hn HTS.o (by decide) h6).mono ?_
     clear h6 HF1
     rintro e w5 ⟨rfl,p5,o5⟩
     have P5:=ħ p5
     have Q5:=ħ (Q4.o.trans o5)
     have Z5:=ħ (Z4.o.only o5 (by have:=RL.o;omega))
     have S5:=ħ (S4.o.only o5 (by have:=RL.o;have:=G3.o;omega))
     have PC5:=ħ (Zai.keep (P':=fun g=>w.heap.size<g) (fun g hg hl=>o5.block g hl (by have:=RL.o;omega)) o5.size (fun g hg _=>hg) p vs PC4.o)
     have ONE:=ħ PC.o.one
     clear p5 o5 P4 Q4 T4 Z4 S4 PC4 PC
     go_wp2_with (first
      | (refine wpList_load_row rfl 25 (.tmp 4) rfl X ?y1 25 vs.toArray (0,0) _ S5.o Tryz.underlying25 rfl (Zae _ HL5.o) ?_;(case y1=>rfl))
      | (refine Zab rfl 25 (.tmp 2) (.tmp 23) rfl w.heap.size vs.toArray ?s1 ?s2 25 _ Z5.o (Zae _ HL5.o) ?s3 (ONE.o) ?_;(case s1=>rfl);(case s2=>rfl);(case s3=>rw[List.size_toArray,List.size_toArray,HL5.o];rfl);intro w9 s9 u9;have S9:=ħ s9;have U9:=ħ u9;clear s9 u9))
     exact bodyPost_ret (results_cell_row (p:=2) (by kernel_rfl) _ _ w.heap.size 25 vs.toArray (0,0) _ rfl S9.o Tryz.underlying25 rfl (Zae _ HL5.o)) rfl (Zba HE.o ((BO.o.trans Q5.o).updNew U9.o (Nat.le_refl _)) rfl ⟨vs,rfl,(PC5.o.upd U9.o (Nat.lt_irrefl _)).mono (fun g hg _=>Nat.le_of_lt hg)⟩ (H0.o.upd P5.o U9.o (Nat.le_refl _)))
  | false =>
   have HV2:Hid (V=if isP ts [97,116] i=true then Zgl ts sz (Zdg ts sz f) i (i+1) else (Znc ts sz i).bind (fun a=>if isP ts [105,110] a.2=true then Zdf ts sz a.1 i (a.2+1) else Zb3 ts sz a.1 i a.2)):=ħ (by rw[HV1.o,if_neg (by rw[h2];simp)])
   refine (Zcd w1 R ao cap ts sz i [40] P1.o hi hn HTS.o (by decide) h2).mono ?_
   clear h2 HV1
   rintro e w2 ⟨rfl,b2⟩
   have P2:=ħ (P1.o.step b2)
   have Q2:=ħ (Q1.o.step b2)
   have T2:=ħ (T1.o.step b2)
   have Z2:=ħ (Z1.o.step b2)
   clear b2 P1 T1 Q1 Z1
   go_wp2_with fail
   cases h3:isP ts [97,116] i with
   | true =>
    have l3:=Zbv h3
    have HV:Hid (V=Zgl ts sz (Zdg ts sz f) i (i+1)):=ħ (by rw[HV2.o,if_pos h3])
    refine (Zbt w2 R ao cap ts sz i [97,116] P2.o hn HTS.o (by decide) h3).mono ?_
    clear h3 HV2
    rintro e w3 ⟨rfl,p3,o3⟩
    have P3:=ħ p3
    have T3:=ħ (T2.o.onlyR o3 hR)
    have Q3:=ħ (Q2.o.trans o3)
    have Z3:=ħ (Z2.o.only o3 (by have:=RL.o;omega))
    clear p3 o3 P2 T2 Q2 Z2
    go_wp2_with fail
    refine (Z11 w3 R ao cap ts sz (i+1) i B (Zdg ts sz f) T3.o hR P3.o l3 hi hn HTS.o HGO.o (fun k w h1 h2 hT hp=>IH.o k w h2 (by omega) hT hp)).mono ?_
    rintro e w4 ⟨o4,hr⟩
    have Q4:=ħ (Q3.o.trans o4)
    cases hej:Zgl ts sz (Zdg ts sz f) i (i+1) with
    | error x =>
     rw[hej] at hr
     have HVX:Hid (V = .error x):=ħ (by rw[HV.o,hej])
     clear o4 hej
     subst hr
     unfold Za0
     go_wp2
     exact⟨rfl,Zas HVX.o (BO.o.trans Q4.o) rfl⟩
    | ok r =>
     rw[hej] at hr
     obtain⟨p,j2⟩:=r
     obtain⟨⟨v,rfl,vs,rfl,hpc⟩,hp2⟩:=hr
     have HEJ:=ħ hej
     have PC:=ħ (hpc.mono (P':=fun g=>w.heap.size<g) (fun g hg _=>by have:=Z3.o.lt;omega))
     have HL5:=ħ hpc.len
     have P4:=ħ hp2
     have Z4:=ħ (Z3.o.only o4 (by have:=RL.o;omega))
     have T4:=ħ (T3.o.onlyR o4 hR)
     clear hpc hp2 o4 hej
     have HF1:Hid (V = .ok (p,j2)):=ħ (by rw[HV.o,HEJ.o])
     clear HEJ HV
     go_wp2_with (refine Zab rfl 25 (.tmp 2) (.tmp 29) rfl w.heap.size vs.toArray ?s1 ?s2 25 _ Z4.o (Zae _ HL5.o) ?s3 (PC.o.one) ?_;(case s1=>rfl);(case s2=>rfl);(case s3=>rw[List.size_toArray,List.size_toArray,HL5.o];rfl);intro w9 s9 u9;have S9:=ħ s9;have U9:=ħ u9;clear s9 u9)
     exact bodyPost_ret (results_cell_row (p:=2) (by kernel_rfl) _ _ w.heap.size 25 vs.toArray (0,0) _ rfl S9.o Tryz.underlying25 rfl (Zae _ HL5.o)) rfl (Zba HF1.o ((BO.o.trans Q4.o).updNew U9.o (Nat.le_refl _)) rfl ⟨vs,rfl,(PC.o.upd U9.o (Nat.lt_irrefl _)).mono (fun g hg _=>Nat.le_of_lt hg)⟩ (H0.o.upd P4.o U9.o (Nat.le_refl _)))
   | false =>
    have HV3:Hid (V=(Znc ts sz i).bind (fun a=>if isP ts [105,110] a.2=true then Zdf ts sz a.1 i (a.2+1) else Zb3 ts sz a.1 i a.2)):=ħ (by rw[HV2.o,if_neg (by rw[h3];simp)])
    refine (Zcd w2 R ao cap ts sz i [97,116] P2.o hi hn HTS.o (by decide) h3).mono ?_
    clear h3 HV2
    rintro e w3 ⟨rfl,b3⟩
    have P3:=ħ (P2.o.step b3)
    have Q3:=ħ (Q2.o.step b3)
    have T3:=ħ (T2.o.step b3)
    have Z3:=ħ (Z2.o.step b3)
    clear b3 P2 T2 Q2 Z2
    go_wp2_with fail
    refine (Z1w w3 R ao cap ts sz i B T3.o hR P3.o hi hn HTS.o).mono ?_
    rintro e w4 ⟨o4,hr⟩
    have Q4:=ħ (Q3.o.trans o4)
    cases hsu:Znc ts sz i with
    | error x =>
     rw[hsu] at hr
     have HVX:Hid (V = .error x):=ħ (by rw[HV3.o,hsu];rfl)
     clear o4 hsu
     subst hr
     unfold Za0
     go_wp2
     exact⟨rfl,Zas HVX.o (BO.o.trans Q4.o) rfl⟩
    | ok r =>
     rw[hsu] at hr
     have hsok:=Zjk HTS.o hsu
     obtain⟨a,j⟩:=r
     obtain⟨⟨v,rfl,rfl⟩,p4⟩:=hr
     have HV4:Hid (V=if isP ts [105,110] j=true then Zdf ts sz a i (j+1) else Zb3 ts sz a i j):=ħ (by rw[HV3.o,hsu];rfl)
     have HSO:=ħ hsok.2.2
     have lj:j≤ts.length:=hsok.2.1
     have P4:=ħ p4
     have T4:=ħ (T3.o.onlyR o4 hR)
     have Z4:=ħ (Z3.o.only o4 (by have:=RL.o;omega))
     clear p4 o4 hsu hsok P3 T3 Q3 Z3 HV3
     have A5:=ħ ((Below.refl w4.heap.size w4).alloc (Nat.le_refl _) (.cells (Zc2 Z7h).toArray 258))
     go_wp2_with (refine Zab rfl 258 (.tmp 5) (.tmp 31) rfl w4.heap.size (Zc2 a).toArray ?s1 ?s2 258 _ (heap_alloc_new w4 _) (Zb7 _) rfl (Zgk _) ?_;(case s1=>rfl);(case s2=>rfl);intro w5 s5 u5;have S5:Hid (Zah w5 w4.heap.size 258 (Zc2 a)):=ħ s5;have C5:=ħ (u5.below A5.o (Nat.le_refl _));clear s5 u5)
     have P5:=ħ (P4.o.step C5.o)
     have Q5:=ħ (Q4.o.step C5.o)
     have T5:=ħ (T4.o.step C5.o)
     have Z5:=ħ (Z4.o.step C5.o)
     have G5:Hid (R<w4.heap.size):=ħ (by have:=RL.o;have:=Z4.o.lt;omega)
     clear P4 Q4 T4 Z4 A5 C5
     generalize w4.heap.size=X at *
     cases h7:isP ts [105,110] j with
     | true =>
      have l7:=Zbv h7
      have HV:Hid (V=Zdf ts sz a i (j+1)):=ħ (by rw[HV4.o,if_pos h7])
      refine (Zbt w5 R ao cap ts sz j [105,110] P5.o hn HTS.o (by decide) h7).mono ?_
      clear h7 HV4
      rintro e w6 ⟨rfl,p6,o6⟩
      have P6:=ħ p6
      have T6:=ħ (T5.o.onlyR o6 hR)
      have Q6:=ħ (Q5.o.trans o6)
      have Z6:=ħ (Z5.o.only o6 (by have:=RL.o;omega))
      have S6:=ħ (S5.o.only o6 (by have:=G5.o;omega))
      clear p6 o6 P5 T5 Q5 Z5 S5
      go_wp2_with (refine wpList_load_row rfl 258 (.tmp 5) rfl X ?y1 258 (Zc2 a).toArray (0,0) _ S6.o Tryz.underlying258 rfl (Zb7 _) ?_;(case y1=>rfl))
      refine (Zvt w6 R ao cap ts sz (j+1) i B a T6.o hR P6.o l7 hi hn3 HTS.o HSO.o).mono ?_
      rintro e w7 ⟨o7,hr⟩
      have Q7:=ħ (Q6.o.trans o7)
      cases hej:Zdf ts sz a i (j+1) with
      | error x =>
       rw[hej] at hr
       have HVX:Hid (V = .error x):=ħ (by rw[HV.o,hej])
       clear o7 hej
       subst hr
       unfold Za0
       go_wp2
       exact⟨rfl,Zas HVX.o (BO.o.trans Q7.o) rfl⟩
      | ok r =>
       rw[hej] at hr
       obtain⟨p,j2⟩:=r
       obtain⟨⟨v,rfl,vs,rfl,hpc⟩,hp2⟩:=hr
       have HEJ:=ħ hej
       have PC:=ħ (hpc.mono (P':=fun g=>w.heap.size<g) (fun g hg _=>by have:=Z6.o.lt;omega))
       have HL5:=ħ hpc.len
       have P7:=ħ hp2
       have Z7:=ħ (Z6.o.only o7 (by have:=RL.o;omega))
       have T7:=ħ (T6.o.onlyR o7 hR)
       clear hpc hp2 o7 hej
       have HF1:Hid (V = .ok (p,j2)):=ħ (by rw[HV.o,HEJ.o])
       clear HEJ HV
       go_wp2_with (refine Zab rfl 25 (.tmp 2) (.tmp 37) rfl w.heap.size vs.toArray ?s1 ?s2 25 _ Z7.o (Zae _ HL5.o) ?s3 (PC.o.one) ?_;(case s1=>rfl);(case s2=>rfl);(case s3=>rw[List.size_toArray,List.size_toArray,HL5.o];rfl);intro w9 s9 u9;have S9:=ħ s9;have U9:=ħ u9;clear s9 u9)
       exact bodyPost_ret (results_cell_row (p:=2) (by kernel_rfl) _ _ w.heap.size 25 vs.toArray (0,0) _ rfl S9.o Tryz.underlying25 rfl (Zae _ HL5.o)) rfl (Zba HF1.o ((BO.o.trans Q7.o).updNew U9.o (Nat.le_refl _)) rfl ⟨vs,rfl,(PC.o.upd U9.o (Nat.lt_irrefl _)).mono (fun g hg _=>Nat.le_of_lt hg)⟩ (H0.o.upd P7.o U9.o (Nat.le_refl _)))
     | false =>
      have HV:Hid (V=Zb3 ts sz a i j):=ħ (by rw[HV4.o,if_neg (by rw[h7];simp)])
      refine (Zcd w5 R ao cap ts sz j [105,110] P5.o lj hn HTS.o (by decide) h7).mono ?_
      clear h7 HV4
      rintro e w6 ⟨rfl,b6⟩
      have P6:=ħ (P5.o.step b6)
      have T6:=ħ (T5.o.step b6)
      have Q6:=ħ (Q5.o.step b6)
      have Z6:=ħ (Z5.o.step b6)
      have S6:=ħ (S5.o.step b6)
      clear b6 P5 T5 Q5 Z5 S5
      go_wp2_with (refine wpList_load_row rfl 258 (.tmp 5) rfl X ?y1 258 (Zc2 a).toArray (0,0) _ S6.o Tryz.underlying258 rfl (Zb7 _) ?_;(case y1=>rfl))
      refine (Zsm w6 R ao cap ts sz j i B a T6.o hR P6.o lj hi hn HTS.o HSO.o).mono ?_
      rintro e w7 ⟨o7,hr⟩
      have Q7:=ħ (Q6.o.trans o7)
      cases hej:Zb3 ts sz a i j with
      | error x =>
       rw[hej] at hr
       have HVX:Hid (V = .error x):=ħ (by rw[HV.o,hej])
       clear o7 hej
       subst hr
       unfold Za0
       go_wp2
       exact⟨rfl,Zas HVX.o (BO.o.trans Q7.o) rfl⟩
      | ok r =>
       rw[hej] at hr
       obtain⟨p,j2⟩:=r
       obtain⟨⟨v,rfl,vs,rfl,hpc⟩,hp2⟩:=hr
       have HEJ:=ħ hej
       have PC:=ħ (hpc.mono (P':=fun g=>w.heap.size<g) (fun g hg _=>by have:=Z6.o.lt;omega))
       have HL5:=ħ hpc.len
       have P7:=ħ hp2
       have Z7:=ħ (Z6.o.only o7 (by have:=RL.o;omega))
       have T7:=ħ (T6.o.onlyR o7 hR)
       clear hpc hp2 o7 hej
       have HF1:Hid (V = .ok (p,j2)):=ħ (by rw[HV.o,HEJ.o])
       clear HEJ HV
       go_wp2_with (refine Zab rfl 25 (.tmp 2) (.tmp 41) rfl w.heap.size vs.toArray ?s1 ?s2 25 _ Z7.o (Zae _ HL5.o) ?s3 (PC.o.one) ?_;(case s1=>rfl);(case s2=>rfl);(case s3=>rw[List.size_toArray,List.size_toArray,HL5.o];rfl);intro w9 s9 u9;have S9:=ħ s9;have U9:=ħ u9;clear s9 u9)
       exact bodyPost_ret (results_cell_row (p:=2) (by kernel_rfl) _ _ w.heap.size 25 vs.toArray (0,0) _ rfl S9.o Tryz.underlying25 rfl (Zae _ HL5.o)) rfl (Zba HF1.o ((BO.o.trans Q7.o).updNew U9.o (Nat.le_refl _)) rfl ⟨vs,rfl,(PC.o.upd U9.o (Nat.lt_irrefl _)).mono (fun g hg _=>Nat.le_of_lt hg)⟩ (H0.o.upd P7.o U9.o (Nat.le_refl _)))
theorem Zt8 (R:Nat) (ao:Option Addr) (cap:Nat) (ts:List Tok) (sz B:Nat) (hR:B≤R) (hn3:ts.length≤300000) (hts:∀ t∈ts,TokOk t):∀ (f i:Nat) (w:World),i≤ts.length→ts.length-i<f→Tab w B→ParW w R ao cap ts sz i →
  Calls Tryz.prog 203 #[.pointer (some ⟨R,0,none⟩)] w fun e w'=>Zht w R ao cap ts sz (Zdg ts sz f i) e w'
 | 0,i,w,hi,hf,hT,h=>absurd hf (Nat.not_lt_zero _)
 | f+1,i,w,hi,hf,hT,h=>Zx0 R ao cap ts sz B f hR hn3 hts (fun i w h1 h2 h3 h4=>Zt8 R ao cap ts sz B hR hn3 hts f i w h1 h2 h3 h4) i w hi hf hT h
end
section
open Go.RowKit
theorem Zsn {L:Nat}:∀ ks:List Prd,Z5m ks≤L↔∀ q∈ks,Zsd q≤L
 | []=>by simp[Z5m]
 | p::ps=>by
  unfold Z5m
  rw[Nat.max_le,Zsn ps]
  simp
theorem Zx1 (ks:List Prd) (i:Nat) (q:Prd) (h:ks[i]?=some q):Zb9 (ks.take (i+1))=Zb9 (ks.take i)+Za8 q:=by
 obtain⟨hi,rfl⟩:=List.getElem?_eq_some_iff.1 h
 rw[List.take_add_one,List.getElem?_eq_getElem hi,Zdb]
 simp[Zb9]
theorem Zp9 (ks:List Prd) (i:Nat):Zb9 (ks.take i)≤Zb9 ks:=by
 have:Zb9 ks=Zb9 (ks.take i)+Zb9 (ks.drop i):=by rw[← Zdb,List.take_append_drop]
 omega
def Z8u (w:World) (Q:Nat) (p:Prd) (r L:Nat) (e:Ending) (w':World):Prop :=
 Only w w' (· = Q)∧((Za8 p≤r∧Zsd p≤L→e = .returned (.bool true)∧Zah w' Q 3 [.int .i64 ((r-Za8 p:Nat):Int)])∧(¬ (Za8 p≤r∧Zsd p≤L)→e = .returned (.bool false)))
theorem Zt9 (w:World) (κ:Int) (l r0:List Nat) (c:Int) (x:Value) (hx:x.oneCell'=true) (Q r Λ:Nat) (hQ:Zah w Q 3 [.int .i64 (r:Int)]) (hr:r≤100) (hz:r=0∨Λ=0) (hΛ:Λ≤12) :
  Calls Tryz.prog 139 #[.agg #[.int .i64 κ,.string (Zad l),.string (Zad r0),.int .i64 c,x],.pointer (some ⟨Q,0,none⟩),.int .i64 (Λ:Int)] w fun e w'=>e = .returned (.bool false)∧Only w w' (· = Q):=by
 have bx:=(Below.refl w.heap.size w).alloc (Nat.le_refl _) (.cells #[.int .i64 κ,.string (Zad l),.string (Zad r0),.int .i64 c,x] 25)
 have Q1:=ħ (hQ.step bx)
 have O1:=ħ (Only.of_below (p:=(· = Q)) bx)
 have c0:=Q1.o.cell 0 _ rfl
 have f0:=Q1.o.warm 0
 have e1:IntKind.i64.wrap ((r:Int)-1)=(r:Int)-1:=IntWalk.i64_in _ (by omega)
 clear bx hQ
 generalize Zad l=y at *
 generalize Zad r0=z at *
 go_enter Tryz.func139,Tryz.ntmps139
 go_upto_region 1 with (fail)
 generalize w.alloc (.cells #[.int .i64 κ,.string y,.string z,.int .i64 c,x] 25)=w1 at *
 have S2:=ħ (Q1.o.set 0 (.int .i64 ((r:Int)-1)))
 have O2:=ħ (O1.o.setCell (a:=⟨Q,0,none⟩) (.int .i64 ((r:Int)-1)) rfl)
 have d0:(w1.setCell ⟨Q,0,none⟩ (.int .i64 ((r:Int)-1))).cell? ⟨Q,0,none⟩=some (.int .i64 ((r:Int)-1)):=S2.o.cell 0 _ rfl
 by_cases h0:r=0
 ·have g1:(r:Int)-1<0:=by omega
  clear h0 hz
  go_wp2
  go_ret
  exact⟨rfl,O2.o⟩
 ·have g1:¬ ((r:Int)-1<0):=by omega
  have g2:(Λ:Int)<1:=by omega
  go_wp2
  go_ret
  exact⟨rfl,O2.o⟩
theorem Z2k (w:World) (P:Nat→Prop) (κ:Int) (l r0:List Nat) (c:Int) (ks:List Prd) (ao:Option Addr) (n cap:Nat) (hn:n=ks.length) (hbig:n≤1000000)
  (hk:ks=[]∨∃ g off,ao=some ⟨g,off,none⟩∧P g∧g<w.heap.size∧Za1 w P ks g off)
  (Q r L:Nat) (hQ:Zah w Q 3 [.int .i64 (r:Int)]) (hr:r≤100) (hr0:0<r) (hL:L+1≤12) (hPQ:∀ g,P g→g≠Q)
  (ih:∀ (q:Prd) (w:World) (vs:List Value) (r:Nat),q∈ks→r≤100→Zai w P q vs→Zah w Q 3 [.int .i64 (r:Int)]→Calls Tryz.prog 139 #[.agg vs.toArray,.pointer (some ⟨Q,0,none⟩),.int .i64 (L:Int)] w fun e w'=>Z8u w Q q r L e w') :
  Calls Tryz.prog 139 #[.agg #[.int .i64 κ,.string (Zad l),.string (Zad r0),.int .i64 c,.slice ao n cap],.pointer (some ⟨Q,0,none⟩),.int .i64 ((L+1:Nat):Int)] w fun e w'=>Z8u w Q (.mk κ l r0 c ks) r (L+1) e w':=by
 have HK:=ħ hk
 have IH:=ħ ih
 have HN:=ħ hn
 have HPQ:=ħ hPQ
 have bx:=(Below.refl w.heap.size w).alloc (Nat.le_refl _) (.cells #[.int .i64 κ,.string (Zad l),.string (Zad r0),.int .i64 c,.slice ao n cap] 25)
 have Q1:=ħ (hQ.step bx)
 have O1:=ħ (Only.of_below (p:=(· = Q)) bx)
 have X1:Hid (Zah (w.alloc (.cells #[.int .i64 κ,.string (Zad l),.string (Zad r0),.int .i64 c,.slice ao n cap] 25)) w.heap.size 25 [.int .i64 κ,.string (Zad l),.string (Zad r0),.int .i64 c,.slice ao n cap]):=ħ (heap_alloc_new w _)
 have QL:Hid (Q<w.heap.size):=ħ hQ.lt
 have c0:=Q1.o.cell 0 _ rfl
 have f0:=Q1.o.warm 0
 have e1:IntKind.i64.wrap ((r:Int)-1)=((r-1:Nat):Int):=by rw[IntWalk.i64_in _ (by omega)];omega
 have HCP:Hid (Za8 (.mk κ l r0 c ks)=1+Zb9 ks∧Zsd (.mk κ l r0 c ks)=1+Z5m ks):=ħ (by unfold Za8 Zsd;exact⟨rfl,rfl⟩)
 clear bx hQ hk ih hn hPQ
 generalize Prd.mk κ l r0 c ks=p at *
 generalize Zad l=y at *
 generalize Zad r0=z at *
 go_enter Tryz.func139,Tryz.ntmps139
 go_upto_region 1 with (fail)
 generalize w.alloc (.cells #[.int .i64 κ,.string y,.string z,.int .i64 c,.slice ao n cap] 25)=w1 at *
 have S2:Hid (Zah (w1.setCell ⟨Q,0,none⟩ (.int .i64 ((r-1:Nat):Int))) Q 3 [.int .i64 ((r-1:Nat):Int)]):=ħ (Q1.o.set 0 _)
 have O2:=ħ (O1.o.setCell (a:=⟨Q,0,none⟩) (.int .i64 ((r-1:Nat):Int)) rfl)
 have X2:=ħ (X1.o.upd (Zaj w1 ⟨Q,0,none⟩ (.int .i64 ((r-1:Nat):Int))) (by show w.heap.size≠Q;have:=QL.o;omega))
 have g1:¬ (((r-1:Nat):Int)<0):=by omega
 have g2:¬ (((L+1:Nat):Int)<1):=by omega
 have g3:¬ ((L:Int)+1<1):=by omega
 have e5:IntKind.i64.wrap ((L:Int)+1-1)=(L:Int):=by rw[IntWalk.i64_in _ (by omega)];omega
 generalize hR1:r-1=r1 at *
 have d0:=S2.o.cell 0 _ rfl
 have x4:=X2.o.cell 4 _ rfl
 go_upto_region 4 with (fail)
 generalize w1.setCell ⟨Q,0,none⟩ (.int .i64 (r1:Int))=w2 at *
 clear d0 c0 f0 e1
 go_wp2_with fail
 clear x4 g1 g2 g3
 go_loopw [25] (fun cc wr=>∃ (i ρ:Nat),cc = .int .i64 i∧i≤n∧Hid (Zah wr Q 3 [.int .i64 (ρ:Int)])∧Hid (ρ+Zb9 (ks.take i)=r1)∧Hid (Only w wr (· = Q))∧Hid (∀ j q,j<i→ks[j]?=some q→Zsd q≤L)) (fun c _=>(n-intOf c).toNat)
 case atStart=>exact⟨0,r1,rfl,by omega,S2,ħ (by simp[Zb9]),O2,ħ (fun j q hj=>absurd hj (Nat.not_lt_zero j))⟩
 case round =>
  clear S2 O2 X2 Q1 O1 X1
  obtain⟨i,ρ,rfl,hi,hq,hρ,ho,hd⟩:=hrel
  have e2:IntKind.i64.wrap ((i:Int)+1)=((i+1:Nat):Int):=IntWalk.i64_in _ (by omega)
  by_cases hlt:i<n
  ·have ii:(i:Int)<n:=by omega
   have HQ:Hid (∃ q,ks[i]?=some q∧∃ g off,ao=some ⟨g,off,none⟩∧g<w.heap.size∧∃ vs,Zai wr P q vs∧Za3 wr g (off+i*5) vs):=ħ (by
    have hl:i<ks.length:=by rw[← HN.o];exact hlt
    refine⟨ks[i],List.getElem?_eq_getElem hl,?_⟩
    rcases HK.o with h | ⟨g,off,h1,h2,h3,h4⟩
    ·rw[h] at hl;exact absurd hl (Nat.not_lt_zero _)
    ·obtain⟨vs,hv1,hv2⟩:=Za1.at ks g off i _ (List.getElem?_eq_getElem hl) h4
     exact⟨g,off,h1,h3,vs,Zai.keep (fun x hx hl=>ho.o.block x hl (HPQ.o x hx)) ho.o.size (fun x hx _=>hx) _ _ hv1,hv2.of_block (ho.o.block g h3 (HPQ.o g h2))⟩)
   obtain⟨q,hqi,g,off,hao,hg,vs,hpc,hrd⟩:=HQ.o
   clear HQ
   have HQI:=ħ hqi
   obtain⟨xa,xn,xc,hvf,-⟩:=hpc.form
   rw[hvf] at hrd hpc
   have PC:=ħ hpc
   have s0:=hrd 0 _ rfl
   have s1:=hrd 1 _ rfl
   have s2:=hrd 2 _ rfl
   have s3:=hrd 3 _ rfl
   have s4:=hrd 4 _ rfl
   clear hrd hpc hvf vs hqi
   rw[Nat.add_zero] at s0
   have HAO:=ħ hao
   subst hao
   generalize q.k=q0 at *
   generalize Zad q.l=q1 at *
   generalize Zad q.r=q2 at *
   generalize q.c=q3 at *
   go_wp2_with fail
   have bx:=(Below.refl wr.heap.size wr).alloc (Nat.le_refl _) (.cells #[.int .i64 q0,.string q1,.string q2,.int .i64 q3,.slice xa xn xc] 25)
   have hq2:=ħ (hq.o.step bx)
   have ho2:=ħ (ho.o.step bx)
   have PX:=ħ (PC.o.below bx)
   clear s0 s1 s2 s3 s4 bx hq ho PC
   generalize wr.alloc (.cells #[.int .i64 q0,.string q1,.string q2,.int .i64 q3,.slice xa xn xc] 25)=wx at *
   refine (IH.o q wx _ ρ (List.mem_of_getElem? HQI.o) (by have:=hρ.o;omega) PX.o hq2.o).mono ?_
   rintro e w3 ⟨o3,he1,he0⟩
   have ho3:=ħ (ho2.o.trans o3)
   have HCT:=ħ (Zx1 ks i q HQI.o)
   have HCL:=ħ (Zp9 ks (i+1))
   have HDK:Hid (Zsd q≤Z5m ks):=ħ ((Zsn ks).1 (Nat.le_refl _) q (List.mem_of_getElem? HQI.o))
   by_cases hfit:Za8 q≤ρ∧Zsd q≤L
   ·obtain⟨rfl,hq3⟩:=he1 hfit
    have HQ3:=ħ hq3
    have HFIT:=ħ hfit
    clear he1 he0 o3 hfit hq3 hq2 ho2 PX
    go_wp2
    go_roundw
    case rel=>exact⟨i+1,ρ-Za8 q,by go_num,by omega,HQ3,ħ (by have:=hρ.o;have:=HCT.o;have:=HFIT.o;omega),ho3,ħ (fun j q' hj hq'=>by
     rcases Nat.lt_or_ge j i with h | h
     ·exact hd.o j q' h hq'
     ·obtain rfl:j=i:=by omega
      rw[HQI.o] at hq'
      obtain rfl:=Option.some.inj hq'
      exact HFIT.o.2)⟩
    case measure=>simp only[intOf];omega
   ·obtain rfl:=he0 hfit
    have HNO:Hid (¬ (Za8 p≤r∧Zsd p≤L+1)):=ħ (by
     have h1:=HCP.o;have h2:=hρ.o;have h3:=HCT.o;have h4:=HCL.o;have h5:=HDK.o
     intro h
     apply hfit
     omega)
    clear he1 he0 o3 hfit
    go_wp2
    go_ret
    exact⟨ho3.o,fun h=>absurd h HNO.o,fun _=>rfl⟩
  ·have ii:¬ ((i:Int)<n):=by omega
   have HYES:Hid ((Za8 p≤r∧Zsd p≤L+1)∧r-Za8 p=ρ):=ħ (by
    have h1:=HCP.o;have h2:=hρ.o
    have h3:ks.take i=ks:=by rw[show i=ks.length by rw[← HN.o];omega,List.take_length]
    rw[h3] at h2
    have h4:Z5m ks≤L:=(Zsn ks).2 (fun q hq=>by
     obtain⟨j,hj⟩:=List.mem_iff_getElem?.1 hq
     have hjl:=(List.getElem?_eq_some_iff.1 hj).1
     exact hd.o j q (by rw[← HN.o] at hjl;omega) hj)
    omega)
   go_wp2
   go_ret
   exact⟨ho.o,fun _=>⟨rfl,by rw[HYES.o.2];exact hq.o⟩,fun h=>absurd HYES.o.1 h⟩
theorem Zqa:∀ (Λ:Nat) (p:Prd) (w:World) (P:Nat→Prop) (vs:List Value) (Q r:Nat),Λ≤12→r≤100→Za8 p≤1000000→Zai w P p vs→Zah w Q 3 [.int .i64 (r:Int)]→(∀ g,P g→g≠Q) →
  Calls Tryz.prog 139 #[.agg vs.toArray,.pointer (some ⟨Q,0,none⟩),.int .i64 (Λ:Int)] w fun e w'=>Z8u w Q p r Λ e w'
 | 0,.mk κ l r0 c ks,w,P,vs,Q,r,hΛ,hr,hc,h,hQ,hPQ=>by
  unfold Zai at h
  obtain⟨ao,cap,rfl,hk⟩:=h
  exact (Zt9 w κ l r0 c (.slice ao ks.length cap) rfl Q r 0 hQ hr (.inr rfl) hΛ).mono (fun e w' h=>⟨h.2,fun h2=>by unfold Zsd at h2;omega,fun _=>h.1⟩)
 | L+1,.mk κ l r0 c ks,w,P,vs,Q,r,hΛ,hr,hc,h,hQ,hPQ=>by
  have hc2:Zb9 ks≤1000000:=by unfold Za8 at hc;omega
  have hl:=Zcs ks
  unfold Zai at h
  obtain⟨ao,cap,rfl,hk⟩:=h
  by_cases h0:r=0
  ·exact (Zt9 w κ l r0 c (.slice ao ks.length cap) rfl Q r (L+1) hQ hr (.inl h0) hΛ).mono (fun e w' h=>⟨h.2,fun h2=>by have:=Zhg (.mk κ l r0 c ks);omega,fun _=>h.1⟩)
  ·exact Z2k w P κ l r0 c ks ao ks.length cap rfl (by omega) hk Q r L hQ hr (by omega) hΛ hPQ (fun q w' us r' hq hr' hpc hQ'=>Zqa L q w' P us Q r' (by omega) hr' (by
    obtain⟨i,hi⟩:=List.mem_iff_getElem?.1 hq
    have:=Zhh ks i q hi
    omega) hpc hQ' hPQ)
end
end Go.Proofs.YtmkdfbelbcocpaaGreatDoor
