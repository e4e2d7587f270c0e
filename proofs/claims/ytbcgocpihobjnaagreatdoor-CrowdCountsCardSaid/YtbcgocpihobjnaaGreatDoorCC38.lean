import Derived.Test.YtbcgocpihobjnaaGreatDoorCC37
import Derived.Test.YtbcgocpihobjnaaGreatDoorShelf
import Derived.Test.YtbcgocpihobjnaaGreatDoorCC0
import Derived.Test.YtbcgocpihobjnaaGreatDoorCC35
import Derived.Test.YtbcgocpihobjnaaGreatDoorCC26
set_option linter.all false
set_option maxHeartbeats 32000000
set_option maxRecDepth 100000
namespace Go.Proofs.YtbcgocpihobjnaaGreatDoor
section
open Go.RowKit Go.Sort
theorem Ztm(w:World)(B:Nat)(hB:B<=w.heap.size)(co:Option Addr)(n c:Nat)(rows:List (List Bool))(hn:n=rows.length)(hn0:0<n)(hbig:n<=1000000)(h:Zfb w rows co) :
  ∃ vals:List Value,vals.length=n/\(∀ (i:Nat) (row:List Bool),rows[i]?=some row->∃ (bo:Option Addr) (bc:Nat),vals[i]?=some (Value.slice bo row.length bc)/\Zan Zc5 w bo row/\∀ g off,co=some ⟨g,off,none⟩->w.cell? ⟨g,off+i,none⟩=some (.slice bo row.length bc))/\∀ W,Below w.heap.size w W->Calls Tryz.prog 141 #[.slice co n c] W fun e w'=>∃ ko kc,e = .returned (.slice ko n kc)/\OwnK w' B 1 n kc vals ko/\Below W.heap.size W w':=by
 obtain⟨i0,hi,hz0,hz1,hz2⟩:=Zd8 Zb4;rcases h with h | ⟨g,off,rfl,hg,hr⟩
 ·rw[h] at hn;simp at hn;omega
 have hex:∀ i,i<rows.length->∃ v:Value,∀ row,rows[i]?=some row->∃ (bo:Option Addr) (bc:Nat),w.cell? ⟨g,off+i,none⟩=some v/\v = .slice bo row.length bc/\Zan Zc5 w bo row:=fun i hi=>by
  obtain⟨bo,bc,h1,h2⟩:=hr i rows[i] (đb hi);refine⟨.slice bo rows[i].length bc,fun row hrow=>?_⟩;rw[đb hi] at hrow;obtain rfl:=đa hrow;exact⟨bo,bc,h1,rfl,h2⟩
 let vals:List Value:=(List.range rows.length).map (fun i=>if h:i<rows.length then(hex i h).choose else undef)
 have hv:∀ (i:Nat) (row:List Bool),rows[i]?=some row->∃ (bo:Option Addr) (bc:Nat),vals[i]?=some (Value.slice bo row.length bc)/\w.cell? ⟨g,off+i,none⟩=some (.slice bo row.length bc)/\Zan Zc5 w bo row:=fun i row hrow=>by
  have hlt:=(đg.1 hrow).1;obtain⟨bo,bc,h1,h2,h3⟩:=(hex i hlt).choose_spec row hrow;refine⟨bo,bc,?_,by rw[h1,h2],h3⟩;show((List.range rows.length).map _)[i]?=_;rw[đj,List.getElem?_range hlt];show some (if h:i<rows.length then _ else _)=_;rw[dif_pos hlt,h2]
 have hvl:vals.length=n:=by show((List.range rows.length).map _).length=n;rw[đr,List.length_range,hn]
 refine⟨vals,hvl,fun i row hrow=>?_,fun W hW=>?_⟩
 ·obtain⟨bo,bc,h1,h2,h3⟩:=hv i row hrow
  exact⟨bo,bc,h1,h3,fun g' off' e=>by
   obtain⟨rfl,rfl⟩:g=g'/\off=off':=by injection e with e;injection e with e1 e2;exact⟨e1,e2⟩
   exact h2⟩
 ·refine(Tryz.slices_Clone_f141 i0 (.slice none 0 0) 1 24 hi hz0 hz1 hz2 rfl (by omega) ?zz g off n c vals W (by rw[hvl];omega) (by simp only[maxLen];omega) (by omega) (fun j u hj=>?_) (fun u hu=>?_)).mono ?_
  case zz=>exact fun W'=>Tryz.sizeOf87 W'
  ·have hjl:j<rows.length:=by have:=(đg.1 hj).1;rw[hvl,hn] at this;exact this
   obtain⟨bo,bc,h1,h2,-⟩:=hv j rows[j] (đb hjl);rw[h1] at hj;obtain rfl:=đa hj;rw[đx (w:=w) (a:=⟨g,off+j,none⟩) (hW.block g hg)];exact h2
  ·obtain⟨j,hj⟩:=đs.1 hu
   have hjl:j<rows.length:=by have:=(đg.1 hj).1;rw[hvl,hn] at this;exact this
   obtain⟨bo,bc,h1,-,-⟩:=hv j rows[j] (đb hjl);rw[h1] at hj;obtain rfl:=đa hj;rfl
  ·rintro e w' ⟨v',rfl,ho,-,hb⟩
   obtain⟨g',cap',rfl,hw,hl',hcm,hle⟩:=OwnK.of_row ho (by omega);exact⟨some ⟨g',0,none⟩,cap',rfl,(OwnK.at g' 0 hw (by rw[hvl];omega) hcm hle).lower (đo hB hW.size) ,hb⟩
theorem Zm8{w:World}{B n kc g off:Nat}{vs:List Value}{rows:List (List Bool)}(h:OwnK w B 1 n kc vs (some ⟨g,off,none⟩))(hr:∀ (i:Nat) (row:List Bool),rows[i]?=some row->∃ (bo:Option Addr) (bc:Nat),vs[i]?=some (Value.slice bo row.length bc)/\Zan Zc5 w bo row):Zfb w rows (some ⟨g,off,none⟩):=by
 cases h with
 | «at» g off h1 h2 h3 h4 =>
  refine .inr ⟨g,off,rfl,h1.lt,fun i row hi=>?_⟩;obtain⟨bo,bc,h5,h6⟩:=hr i row hi;exact⟨bo,bc,h1.cells i _ h5,h6⟩
theorem OwnK.setW{w:World}{B k n cap g off:Nat}{xs:List Value}(h:OwnK w B k n cap xs (some ⟨g,off,none⟩))(i:Nat)(hi:i<xs.length):(∃ v,w.cell? ⟨g,off+i,none⟩=some v)/\w.frozen? ⟨g,off+i,none⟩=false/\B<=g/\n<=cap:=by
 cases h with
 | «at» g off h1 h2 h3 h4=>exact⟨⟨_,h1.cells i _ (đb hi)⟩,h1.warm i (by have:=h1.le;omega),h1.own,h4⟩
def Zcy(c:Crw)(C:List (List Bool))(u m:Nat):List (List Bool):=C.set u ((List.replicate c.ms.length false).set m ((C.getD u []).getD m false))
theorem Z3j(t:Array Value)(h:t.size=56):∃ f:Nat->Value,t=#[f 0,f 1,f 2,f 3,f 4,f 5,f 6,f 7,f 8,f 9,f 10,f 11,f 12,f 13,f 14,f 15,f 16,f 17,f 18,f 19,f 20,f 21,f 22,f 23,f 24,f 25,f 26,f 27,f 28,f 29,f 30,f 31,f 32,f 33,f 34,f 35,f 36,f 37,f 38,f 39,f 40,f 41,f 42,f 43,f 44,f 45,f 46,f 47,f 48,f 49,f 50,f 51,f 52,f 53,f 54,f 55]:=by
 obtain⟨l⟩:=t;have hl:l.length=56:=h
 have e:l=(List.range 56).map (fun i=>l.getD i undef):=by
  apply List.ext_getElem
  ·simp[hl]
  ·intro i h1 h2
   simp[List.getD,h1]
 exact⟨fun i=>l.getD i undef,congrArg List.toArray e⟩
theorem Zl7(i:Nat)(h:i<16):i=0\/i=1\/i=2\/i=3\/i=4\/i=5\/i=6\/i=7\/i=8\/i=9\/i=10\/i=11\/i=12\/i=13\/i=14\/i=15:=by omega
theorem Ztn(i:Nat)(h:i<13):i=0\/i=1\/i=2\/i=3\/i=4\/i=5\/i=6\/i=7\/i=8\/i=9\/i=10\/i=11\/i=12:=by omega
def Z2k(A B:Nat)(qo mo uo ho co:Option Addr)(nq nm nu nh nc qc mc uc hc cc:Nat)(vals:List Value)(i:Nat)(W:World)(v:Value):Prop:=match i with
 | 0=>v = .pointer (some ⟨A,0,none⟩)
 | 1=>v = .pointer (some ⟨A,0,none⟩)
 | 2=>v = .pointer (some ⟨A,0,none⟩)
 | 3=>v = .agg #[.slice qo nq qc,.slice mo nm mc,.slice uo nu uc]
 | 4=>v = .pointer (some ⟨A,0,none⟩)
 | 5=>v = .pointer (some ⟨A,0,none⟩)
 | 6=>v = .pointer (some ⟨A,3,none⟩)
 | 7=>v = .slice ho nh hc
 | 8=>v = .pointer (some ⟨A,0,none⟩)
 | 9=>v = .pointer (some ⟨A,0,none⟩)
 | 10=>v = .pointer (some ⟨A,4,none⟩)
 | 11=>v = .slice co nc cc
 | 12=>∃ ko kc,v = .slice ko nc kc/\OwnK W B 1 nc kc vals ko
 | 13=>∃ ko kc,v = .agg #[.slice qo nq qc,.slice mo nm mc,.slice uo nu uc,.slice ho nh hc,.slice ko nc kc]/\OwnK W B 1 nc kc vals ko
 | 14=>∃ X ko kc,v = .pointer (some ⟨X,0,none⟩)/\Zae W X 113 [.slice qo nq qc,.slice mo nm mc,.slice uo nu uc,.slice ho nh hc,.slice ko nc kc]/\OwnK W B 1 nc kc vals ko/\B<=X/\blk ko≠some X
 | 15=>∃ X ko kc,v = .pointer (some ⟨X,0,none⟩)/\Zae W X 113 [.slice qo nq qc,.slice mo nm mc,.slice uo nu uc,.slice ho nh hc,.slice ko nc kc]/\OwnK W B 1 nc kc vals ko/\B<=X/\blk ko≠some X
 | _=>True
theorem Zwt(A B:Nat)(qo mo uo ho co:Option Addr)(nq nm nu nh nc qc mc uc hc cc:Nat)(vals:List Value):∀ i w w' v,Z2k A B qo mo uo ho co nq nm nu nh nc qc mc uc hc cc vals i w v->Below w.heap.size w w'->Z2k A B qo mo uo ho co nq nm nu nh nc qc mc uc hc cc vals i w' v:=by
 intro i w w' v h hb
 match i with
 | 0=>exact h
 | 1=>exact h
 | 2=>exact h
 | 3=>exact h
 | 4=>exact h
 | 5=>exact h
 | 6=>exact h
 | 7=>exact h
 | 8=>exact h
 | 9=>exact h
 | 10=>exact h
 | 11=>exact h
 | 12=>obtain⟨ko,kc,h1,h2⟩:=h;exact⟨ko,kc,h1,h2.below hb⟩
 | 13=>obtain⟨ko,kc,h1,h2⟩:=h;exact⟨ko,kc,h1,h2.below hb⟩
 | 14=>obtain⟨X,ko,kc,h1,h2,h3,h4⟩:=h;exact⟨X,ko,kc,h1,h2.step hb,h3.below hb,h4⟩
 | 15=>obtain⟨X,ko,kc,h1,h2,h3,h4⟩:=h;exact⟨X,ko,kc,h1,h2.step hb,h3.below hb,h4⟩
 | k+16=>trivial
def Z3k(A X gk ok u WS:Nat)(mo:Option Addr)(nm nc mc kc:Nat)(i:Nat)(W:World)(v:Value):Prop:=match i with
 | 0=>v = .pointer (some ⟨X,0,none⟩)
 | 1=>v = .pointer (some ⟨X,0,none⟩)
 | 2=>v = .pointer (some ⟨X,4,none⟩)
 | 3=>v = .slice (some ⟨gk,ok,none⟩) nc kc
 | 4=>v = .int .i64 (u:Nat)
 | 5=>v = .pointer (some ⟨A,0,none⟩)
 | 6=>v = .pointer (some ⟨A,0,none⟩)
 | 7=>v = .pointer (some ⟨A,0,none⟩)
 | 8=>v = .pointer (some ⟨A,1,none⟩)
 | 9=>v = .slice mo nm mc
 | 10=>v = .int .i64 (nm:Nat)
 | 11=>∃ V,v = .slice (some ⟨V,0,none⟩) nm nm/\Zae W V 4 (bvs (List.replicate nm false))/\WS<=V
 | 12=>v = .pointer (some ⟨gk,ok+u,none⟩)
 | _=>True
theorem Zwu(A X gk ok u WS:Nat)(mo:Option Addr)(nm nc mc kc:Nat):∀ i w w' v,Z3k A X gk ok u WS mo nm nc mc kc i w v->Below w.heap.size w w'->Z3k A X gk ok u WS mo nm nc mc kc i w' v:=by
 intro i w w' v h hb
 match i with
 | 0=>exact h
 | 1=>exact h
 | 2=>exact h
 | 3=>exact h
 | 4=>exact h
 | 5=>exact h
 | 6=>exact h
 | 7=>exact h
 | 8=>exact h
 | 9=>exact h
 | 10=>exact h
 | 11=>obtain⟨V,h1,h2,h3⟩:=h;exact⟨V,h1,h2.step hb,h3⟩
 | 12=>exact h
 | k+13=>trivial
def Z42(w w':World)(c:Crw)(H C:List (List Bool))(qo mo uo ho:Option Addr)(qc mc uc hc:Nat)(vals:List Value)(u m X:Nat):Prop:=∃ gk ok kc V,Zae w' X 113 (Ze0 c H (Zcy c C u m) qo mo uo ho (some ⟨gk,ok,none⟩) qc mc uc hc kc)/\(Zcy c C u m).length<=kc /\
 OwnK w' w.heap.size 1 C.length kc (vals.set u (.slice (some ⟨V,0,none⟩) c.ms.length c.ms.length)) (some ⟨gk,ok,none⟩)/\(∀ row,(Zcy c C u m)[u]?=some row->Zae w' V 4 (bvs row)/\row.length=c.ms.length)/\w.heap.size<=V
theorem Zr4(w:World)(A:Nat)(c:Crw)(H C:List (List Bool))(u m:Nat)(qo mo uo ho co:Option Addr)(qc mc uc hc cc:Nat)(hA:Zae w A 113 (Ze0 c H C qo mo uo ho co qc mc uc hc cc))(hR:ReckC w c H C qo mo uo ho co)(hu:u<C.length)(hm:m<c.ms.length)(hC:∀ r∈C,r.length=c.ms.length)(hn:C.length<=1000000)(hml:c.ms.length<=1000000) :
  ∃ vals:List Value,vals.length=C.length/\(∀ (i:Nat) (row:List Bool),C[i]?=some row->∃ (bo:Option Addr) (bc:Nat),vals[i]?=some (Value.slice bo row.length bc)/\Zan Zc5 w bo row/\∀ g off,co=some ⟨g,off,none⟩->w.cell? ⟨g,off+i,none⟩=some (.slice bo row.length bc)) /\
  Calls Tryz.prog 84 #[.pointer (some ⟨A,0,none⟩),.int .i64 u,.int .i64 m] w fun e w'=>∃ X,e = .returned (.pointer (some ⟨X,0,none⟩))/\Z42 w w' c H C qo mo uo ho qc mc uc hc vals u m X/\w.heap.size<=X/\Below w.heap.size w w':=by
 obtain⟨vals,hvl,hvs,hcl⟩:=Ztm w w.heap.size (đd _) co C.length cc C rfl (by omega) hn hR.c;refine⟨vals,hvl,hvs,?_⟩;obtain⟨ru,hru⟩:∃ r,C[u]?=some r:=⟨_,đb hu⟩;have HRU:Hid (ru.length=c.ms.length):=ħ (hC ru (đe hru));have HFX:Hid (Zcy c C u m=C.set u ((List.replicate c.ms.length false).set m (ru.getD m false))):=ħ (by unfold Zcy;rw[đf (l:=C),hru];rfl);have CLN:=ħ hcl;have HVS:=ħ hvs;have HVL:=ħ hvl;have AW:=ħ (fun W (hW:Below w.heap.size w W)=>hA.step hW);have HRR:=ħ (fun W (hW:Below w.heap.size w W)=>hR.below hW);have HCR:=ħ (fun W (hW:Below w.heap.size w W)=>(hR.c.below hW).at u ru hru);unfold Ze0 at AW;have HFIX:Hid (∀ w' X,(∃ gk ok kc V,Zae w' X 113 (Ze0 c H (Zcy c C u m) qo mo uo ho (some ⟨gk,ok,none⟩) qc mc uc hc kc)/\(Zcy c C u m).length<=kc/\OwnK w' w.heap.size 1 C.length kc (vals.set u (.slice (some ⟨V,0,none⟩) c.ms.length c.ms.length)) (some ⟨gk,ok,none⟩)/\(∀ row,(Zcy c C u m)[u]?=some row->Zae w' V 4 (bvs row)/\row.length=c.ms.length)/\w.heap.size<=V)->Z42 w w' c H C qo mo uo ho qc mc uc hc vals u m X):=ħ (fun w' X h=>h);clear hA hR hcl hvs hvl hC hru;generalize hFX:Zcy c C u m=FX at *;clear hFX;have HQN:Hid (c.qs.length=c.qs.length):=ħ rfl;generalize hnq:c.qs.length=nq at *;generalize hnm:c.ms.length=nm at *;generalize hnu:c.us.length=nu at *;generalize hnh:H.length=nh at *;generalize hnc:C.length=nc at *;have HNQ:=ħ hnq;have HNM:=ħ hnm;have HNU:=ħ hnu;have HNH:=ħ hnh;have HNC:=ħ hnc;have HBW:Hid (w.heap.size<=w.heap.size):=ħ (đd _);clear hnq hnm hnu hnh hnc HQN
 go_enter Tryz.func84,Tryz.ntmps84
 go_upto_region 1 with(fail)
 refine Za3 (Z2k A w.heap.size qo mo uo ho co nq nm nu nh nc qc mc uc hc cc vals) (by kernel_rfl) (Zwt A w.heap.size qo mo uo ho co nq nm nu nh nc qc mc uc hc cc vals) (Zbr (by kernel_rfl)) (Zf5 (by kernel_rfl)) (Zax (by kernel_rfl)) ?hs ?he
 case hs =>
  intro i o hi listed a' w' H hl2;have hl3:=Zap hl2;have hin:i<16:=(đp.1 hi).1;have hb:=ħ H.below;have s0:=H.same 0 (Zam (by kernel_rfl));have hdn:=H.done;have hdf:=H.defers;have hts:=H.tsize;clear hl2 H;obtain⟨t',df⟩:=a';obtain⟨f',rfl⟩:=Z3j t' hts;have hdf':df=[]:=hdf;subst hdf';have gs0:f' 0 = .pointer (some ⟨A,0,none⟩):=s0;clear s0;clear hdf hts;have hcases:=Zl7 i hin;clear hin;rcases hcases with rfl | rfl | rfl | rfl | rfl | rfl | rfl | rfl | rfl | rfl | rfl | rfl | rfl | rfl | rfl | rfl
  ·obtain rfl:=đa hi
   clear hdn hl3;rw[gs0];clear gs0;refine Zab rfl ?_
   go_wp2_with fail
   exact Zaa ⟨_,rfl,đc _ _,rfl⟩
  ·obtain rfl:=đa hi
   have dv0:f' 8 = .pointer (some ⟨A,0,none⟩):=hdn 0 _ 8 rfl (hl3 0 (by rfl)) rfl;clear hdn hl3;rw[dv0];clear dv0 gs0;refine Zab rfl ?_
   go_wp2_with fail
   exact Zaa ⟨_,rfl,đc _ _,rfl⟩
  ·obtain rfl:=đa hi
   have dv1:f' 9 = .pointer (some ⟨A,0,none⟩):=hdn 1 _ 9 rfl (hl3 1 (by rfl)) rfl;clear hdn hl3;rw[dv1];clear dv1 gs0;refine Zab rfl ?_
   go_wp2_with fail
   exact Zaa ⟨_,rfl,đc _ _,rfl⟩
  ·obtain rfl:=đa hi
   have dv2:f' 10 = .pointer (some ⟨A,0,none⟩):=hdn 2 _ 10 rfl (hl3 2 (by rfl)) rfl;clear hdn hl3;rw[dv2];clear dv2 gs0;have ha:=AW.o w' hb.o;have c0:=ha.cell 0 _ rfl;have c1:=ha.cell 1 _ rfl;have c2:=ha.cell 2 _ rfl;clear ha;refine Zab rfl ?_
   go_wp2_with fail
   exact Zaa ⟨_,rfl,đc _ _,rfl⟩
  ·obtain rfl:=đa hi
   clear hdn hl3;rw[gs0];clear gs0;refine Zab rfl ?_
   go_wp2_with fail
   exact Zaa ⟨_,rfl,đc _ _,rfl⟩
  ·obtain rfl:=đa hi
   have dv4:f' 12 = .pointer (some ⟨A,0,none⟩):=hdn 4 _ 12 rfl (hl3 4 (by rfl)) rfl;clear hdn hl3;rw[dv4];clear dv4 gs0;refine Zab rfl ?_
   go_wp2_with fail
   exact Zaa ⟨_,rfl,đc _ _,rfl⟩
  ·obtain rfl:=đa hi
   have dv5:f' 13 = .pointer (some ⟨A,0,none⟩):=hdn 5 _ 13 rfl (hl3 5 (by rfl)) rfl;clear hdn hl3;rw[dv5];clear dv5 gs0;refine Zab rfl ?_
   go_wp2_with fail
   exact Zaa ⟨_,rfl,đc _ _,rfl⟩
  ·obtain rfl:=đa hi
   have dv6:f' 14 = .pointer (some ⟨A,3,none⟩):=hdn 6 _ 14 rfl (hl3 6 (by rfl)) rfl;clear hdn hl3;rw[dv6];clear dv6 gs0;have ha:=AW.o w' hb.o;have c3:=ha.cell 3 _ rfl;clear ha;refine Zab rfl ?_
   go_wp2_with fail
   exact Zaa ⟨_,rfl,đc _ _,rfl⟩
  ·obtain rfl:=đa hi
   clear hdn hl3;rw[gs0];clear gs0;refine Zab rfl ?_
   go_wp2_with fail
   exact Zaa ⟨_,rfl,đc _ _,rfl⟩
  ·obtain rfl:=đa hi
   have dv8:f' 16 = .pointer (some ⟨A,0,none⟩):=hdn 8 _ 16 rfl (hl3 8 (by rfl)) rfl;clear hdn hl3;rw[dv8];clear dv8 gs0;refine Zab rfl ?_
   go_wp2_with fail
   exact Zaa ⟨_,rfl,đc _ _,rfl⟩
  ·obtain rfl:=đa hi
   have dv9:f' 17 = .pointer (some ⟨A,0,none⟩):=hdn 9 _ 17 rfl (hl3 9 (by rfl)) rfl;clear hdn hl3;rw[dv9];clear dv9 gs0;refine Zab rfl ?_
   go_wp2_with fail
   exact Zaa ⟨_,rfl,đc _ _,rfl⟩
  ·obtain rfl:=đa hi
   have dv10:f' 18 = .pointer (some ⟨A,4,none⟩):=hdn 10 _ 18 rfl (hl3 10 (by rfl)) rfl;clear hdn hl3;rw[dv10];clear dv10 gs0;have ha:=AW.o w' hb.o;have c4:=ha.cell 4 _ rfl;clear ha;refine Zab rfl ?_
   go_wp2_with fail
   exact Zaa ⟨_,rfl,đc _ _,rfl⟩
  ·obtain rfl:=đa hi
   have dv11:f' 19 = .slice co nc cc:=hdn 11 _ 19 rfl (hl3 11 (by rfl)) rfl;clear hdn hl3;rw[dv11];clear dv11 gs0;refine Zab rfl ?_
   go_wp2_with fail
   refine(CLN.o w' hb.o).mono ?_;rintro e w4 ⟨ko,kc,rfl,hko,b4⟩;have HK:=ħ hko;have HB4:=ħ b4;clear hko b4
   go_wp2_with fail
   exact Zaa ⟨_,rfl,HB4.o,ko,kc,rfl,HK.o⟩
  ·obtain rfl:=đa hi
   have dv3:f' 11 = .agg #[.slice qo nq qc,.slice mo nm mc,.slice uo nu uc]:=hdn 3 _ 11 rfl (hl3 3 (by rfl)) rfl;have dv7:f' 15 = .slice ho nh hc:=hdn 7 _ 15 rfl (hl3 7 (by rfl)) rfl;have dv12:Z2k A w.heap.size qo mo uo ho co nq nm nu nh nc qc mc uc hc cc vals 12 w' (f' 20):=hdn 12 _ 20 rfl (hl3 12 (by rfl)) rfl;obtain⟨ko,kc,dv12,hko⟩:=dv12;clear hdn hl3;rw[dv3,dv7,dv12];clear dv3 dv7 dv12 gs0;have HK:=ħ hko;clear hko;refine Zab rfl ?_
   go_wp2_with fail
   exact Zaa ⟨_,rfl,đc _ _,ko,kc,rfl,HK.o⟩
  ·obtain rfl:=đa hi
   have dv13:Z2k A w.heap.size qo mo uo ho co nq nm nu nh nc qc mc uc hc cc vals 13 w' (f' 21):=hdn 13 _ 21 rfl (hl3 13 (by rfl)) rfl;obtain⟨ko,kc,dv13,hko⟩:=dv13;clear hdn hl3;rw[dv13];clear dv13 gs0;have HK:=ħ hko;clear hko;have bx:=(đc w'.heap.size w').alloc (đd _) (.cells #[.slice qo nq qc,.slice mo nm mc,.slice uo nu uc,.slice ho nh hc,.slice ko nc kc] 113);have HX:Hid (Zae (w'.alloc (.cells #[.slice qo nq qc,.slice mo nm mc,.slice uo nu uc,.slice ho nh hc,.slice ko nc kc] 113)) w'.heap.size 113 [.slice qo nq qc,.slice mo nm mc,.slice uo nu uc,.slice ho nh hc,.slice ko nc kc]):=ħ (heap_alloc_new _ _);have BX:=ħ bx;have HBS:=ħ hb.o.size;clear bx;refine Zab rfl ?_
   go_wp2_with fail
   exact Zaa ⟨_,rfl,BX.o,w'.heap.size,ko,kc,rfl,HX.o,HK.o.below BX.o,đo HBW.o HBS.o,fun e=>Nat.lt_irrefl _ (HK.o.blk_lt e).2⟩
  ·obtain rfl:=đa hi
   have dv14:Z2k A w.heap.size qo mo uo ho co nq nm nu nh nc qc mc uc hc cc vals 14 w' (f' 22):=hdn 14 _ 22 rfl (hl3 14 (by rfl)) rfl;obtain⟨X,ko,kc,dv14,hX,hko,hXB,hXK⟩:=dv14;clear hdn hl3;rw[dv14];clear dv14 gs0;have HK:=ħ hko;have HX:=ħ hX;have HXB:=ħ hXB;have HXK:=ħ hXK;clear hko hX hXB hXK;refine Zab rfl ?_
   go_wp2_with fail
   exact Zaa ⟨_,rfl,đc _ _,X,ko,kc,rfl,HX.o,HK.o,HXB.o,HXK.o⟩
 case he =>
  intro listed a' w4 H hall;have hd15:Z2k A w.heap.size qo mo uo ho co nq nm nu nh nc qc mc uc hc cc vals 15 w4 (a'.tmps.getD 7 undef):=H.done 15 _ 7 rfl (hall 15 (by decide)) rfl;have hb4:=ħ H.below;have hact:=H.act [8,9,10,11,12,13,14,15,16,17,18,19,20,21,22,7] (Zdd (by kernel_rfl));clear H hall;simp only[List.foldl_cons,List.foldl_nil] at hact;generalize a'.tmps.getD 8 undef=z8 at *;generalize a'.tmps.getD 9 undef=z9 at *;generalize a'.tmps.getD 10 undef=z10 at *;generalize a'.tmps.getD 11 undef=z11 at *;generalize a'.tmps.getD 12 undef=z12 at *;generalize a'.tmps.getD 13 undef=z13 at *;generalize a'.tmps.getD 14 undef=z14 at *;generalize a'.tmps.getD 15 undef=z15 at *;generalize a'.tmps.getD 16 undef=z16 at *;generalize a'.tmps.getD 17 undef=z17 at *;generalize a'.tmps.getD 18 undef=z18 at *;generalize a'.tmps.getD 19 undef=z19 at *;generalize a'.tmps.getD 20 undef=z20 at *;generalize a'.tmps.getD 21 undef=z21 at *;generalize a'.tmps.getD 22 undef=z22 at *;generalize a'.tmps.getD 7 undef=z7 at *;subst hact;obtain⟨X,ko,kc,e15,hX,hko,hXB,hXK⟩:=hd15;subst e15;simp only[Act.put,List.setIfInBounds_toArray,List.set_cons_succ,List.set_cons_zero];have B4:=ħ hb4.o;have XH:=ħ hX;have KO:=ħ hko;have XB:=ħ hXB;have XK:=ħ hXK;clear hb4 hX hko hXB hXK CLN
  have hkl:u<vals.length:=by rw[HVL.o];exact hu
  cases ko with
  | none =>
   exfalso;have h:=KO.o
   cases h with
   | nil h1 h2 h3=>rw[h1] at hkl;simp at hkl
  | some a =>
   obtain⟨gk,ok,hao⟩:∃ gk ok,a=⟨gk,ok,none⟩:=by
    have h:=KO.o
    cases h with
    | «at» g off h1 h2 h3 h4=>exact⟨g,off,rfl⟩
   subst hao;have HGX:Hid (gk≠X):=ħ (fun e=>XK.o (by rw[e];rfl));have HGB:Hid (w.heap.size<=gk/\gk<w4.heap.size):=ħ (KO.o.blk_lt rfl);have AW2:=ħ (fun W (hW:Below w4.heap.size w4 W)=>AW.o W (B4.o.trans (hW.mono B4.o.size)));have XW:=ħ (fun W (hW:Below w4.heap.size w4 W)=>XH.o.step hW);have AW0:=AW;clear AW;have AW:=AW2;clear AW2;have HMK0:=run_make_row' (P:=Tryz.prog) 87 4 (.bool false) 1 Tryz.underlying87 Zdl rfl .i64 .i64 nm (by omega) (by omega);rw[Zew] at HMK0;have HMK:=ħ HMK0;clear HMK0;obtain⟨WS,hWS⟩:∃ s,w4.heap.size=s:=⟨_,rfl⟩;have HWS:=ħ hWS;clear hWS;generalize w4=wz at *
   have uu:(u:Int)<nc:=by omega
   go_upto_region 2 with(fail)
   refine Za2 13 0 (Z3k A X gk ok u WS mo nm nc mc kc) (by kernel_rfl) rfl (Zwu A X gk ok u WS mo nm nc mc kc) (Zbr (by kernel_rfl)) (Zeh (by kernel_rfl)) (Zax (by kernel_rfl)) (Zck (by kernel_rfl)) ?hs ?he
   case hs =>
    intro i o hin hi listed a' w' H hsn hl2;have hl3:=Zap hl2;have hb:=ħ H.below;have s7:=hsn 7 (Zak (by kernel_rfl));have s1:=hsn 1 (Zak (by kernel_rfl));have s0:=hsn 0 (Zak (by kernel_rfl));have hdn:=H.done;have hdf:=H.defers;have hts:=H.tsize;clear hl2 H hsn;obtain⟨t',df⟩:=a';obtain⟨f',rfl⟩:=Z3j t' hts;have hdf':df=[]:=hdf;subst hdf';have gs7:f' 7 = .pointer (some ⟨X,0,none⟩):=s7;have gs1:f' 1 = .int .i64 (u:Nat):=s1;have gs0:f' 0 = .pointer (some ⟨A,0,none⟩):=s0;clear s7 s1 s0;clear hdf hts;have hcases:i=0\/i=1\/i=2\/i=3\/i=4\/i=5\/i=6\/i=7\/i=8\/i=9\/i=10\/i=11\/i=12:=Ztn i hin;clear hin;rcases hcases with rfl | rfl | rfl | rfl | rfl | rfl | rfl | rfl | rfl | rfl | rfl | rfl | rfl
    ·obtain rfl:=đa hi
     clear hdn hl3;rw[gs7];clear gs7 gs1 gs0;refine Zab rfl ?_
     go_wp2_with fail
     exact Zaa ⟨_,rfl,đc _ _,rfl⟩
    ·obtain rfl:=đa hi
     have dv0:f' 23 = .pointer (some ⟨X,0,none⟩):=hdn 0 _ 23 rfl (hl3 0 (by rfl)) rfl;clear hdn hl3;rw[dv0];clear dv0 gs7 gs1 gs0;refine Zab rfl ?_
     go_wp2_with fail
     exact Zaa ⟨_,rfl,đc _ _,rfl⟩
    ·obtain rfl:=đa hi
     have dv1:f' 24 = .pointer (some ⟨X,0,none⟩):=hdn 1 _ 24 rfl (hl3 1 (by rfl)) rfl;clear hdn hl3;rw[dv1];clear dv1 gs7 gs1 gs0;refine Zab rfl ?_
     go_wp2_with fail
     exact Zaa ⟨_,rfl,đc _ _,rfl⟩
    ·obtain rfl:=đa hi
     have dv2:f' 25 = .pointer (some ⟨X,4,none⟩):=hdn 2 _ 25 rfl (hl3 2 (by rfl)) rfl;clear hdn hl3;rw[dv2];clear dv2 gs7 gs1 gs0;have ha:=XW.o w' hb.o;have c4:=ha.cell 4 _ rfl;clear ha;refine Zab rfl ?_
     go_wp2_with fail
     exact Zaa ⟨_,rfl,đc _ _,rfl⟩
    ·obtain rfl:=đa hi
     clear hdn hl3;rw[gs1];clear gs7 gs1 gs0;refine Zab rfl ?_
     go_wp2_with fail
     exact Zaa ⟨_,rfl,đc _ _,rfl⟩
    ·obtain rfl:=đa hi
     clear hdn hl3;rw[gs0];clear gs7 gs1 gs0;refine Zab rfl ?_
     go_wp2_with fail
     exact Zaa ⟨_,rfl,đc _ _,rfl⟩
    ·obtain rfl:=đa hi
     have dv5:f' 28 = .pointer (some ⟨A,0,none⟩):=hdn 5 _ 28 rfl (hl3 5 (by rfl)) rfl;clear hdn hl3;rw[dv5];clear dv5 gs7 gs1 gs0;refine Zab rfl ?_
     go_wp2_with fail
     exact Zaa ⟨_,rfl,đc _ _,rfl⟩
    ·obtain rfl:=đa hi
     have dv6:f' 29 = .pointer (some ⟨A,0,none⟩):=hdn 6 _ 29 rfl (hl3 6 (by rfl)) rfl;clear hdn hl3;rw[dv6];clear dv6 gs7 gs1 gs0;refine Zab rfl ?_
     go_wp2_with fail
     exact Zaa ⟨_,rfl,đc _ _,rfl⟩
    ·obtain rfl:=đa hi
     have dv7:f' 30 = .pointer (some ⟨A,0,none⟩):=hdn 7 _ 30 rfl (hl3 7 (by rfl)) rfl;clear hdn hl3;rw[dv7];clear dv7 gs7 gs1 gs0;refine Zab rfl ?_
     go_wp2_with fail
     exact Zaa ⟨_,rfl,đc _ _,rfl⟩
    ·obtain rfl:=đa hi
     have dv8:f' 31 = .pointer (some ⟨A,1,none⟩):=hdn 8 _ 31 rfl (hl3 8 (by rfl)) rfl;clear hdn hl3;rw[dv8];clear dv8 gs7 gs1 gs0;have ha:=AW.o w' hb.o;have c1:=ha.cell 1 _ rfl;clear ha;refine Zab rfl ?_
     go_wp2_with fail
     exact Zaa ⟨_,rfl,đc _ _,rfl⟩
    ·obtain rfl:=đa hi
     have dv9:f' 32 = .slice mo nm mc:=hdn 9 _ 32 rfl (hl3 9 (by rfl)) rfl;clear hdn hl3;rw[dv9];clear dv9 gs7 gs1 gs0;refine Zab rfl ?_
     go_wp2_with fail
     exact Zaa ⟨_,rfl,đc _ _,rfl⟩
    ·obtain rfl:=đa hi
     have dv10:f' 33 = .int .i64 (nm:Nat):=hdn 10 _ 33 rfl (hl3 10 (by rfl)) rfl;clear hdn hl3;rw[dv10];clear dv10 gs7 gs1 gs0;have hmk:=HMK.o;have bx:=(đc w'.heap.size w').alloc (đd _) (.cells (bvs (List.replicate nm false)).toArray 4);have HV:Hid (Zae (w'.alloc (.cells (bvs (List.replicate nm false)).toArray 4)) w'.heap.size 4 (bvs (List.replicate nm false))):=ħ (heap_alloc_new _ _);have BX:=ħ bx;have HBS:=ħ (show WS<=w'.heap.size by rw[<- HWS.o];exact hb.o.size);clear bx;refine Zab rfl ?_
     go_wp2_with fail
     exact Zaa ⟨_,rfl,BX.o,w'.heap.size,rfl,HV.o,HBS.o⟩
    ·obtain rfl:=đa hi
     have dv3:f' 26 = .slice (some ⟨gk,ok,none⟩) nc kc:=hdn 3 _ 26 rfl (hl3 3 (by rfl)) rfl;have dv4:f' 27 = .int .i64 (u:Nat):=hdn 4 _ 27 rfl (hl3 4 (by rfl)) rfl;clear hdn hl3;rw[dv3,dv4];clear dv3 dv4 gs7 gs1 gs0;refine Zab rfl ?_
     go_wp2_with fail
     exact Zaa ⟨_,rfl,đc _ _,rfl⟩
   case he =>
    intro listed a' w4 H hsn hall;have hd11:Z3k A X gk ok u WS mo nm nc mc kc 11 w4 (a'.tmps.getD 34 undef):=H.done 11 _ 34 rfl (hall 11 (by decide)) rfl;have hd12:Z3k A X gk ok u WS mo nm nc mc kc 12 w4 (a'.tmps.getD 35 undef):=H.done 12 _ 35 rfl (hall 12 (by decide)) rfl;have hb4:=ħ H.below;have hact:=H.actN hsn [23,24,25,26,27,28,29,30,31,32,33,34,35] (Zej (by kernel_rfl));clear H hall hsn;simp only[List.foldl_cons,List.foldl_nil] at hact;generalize a'.tmps.getD 23 undef=z23 at *;generalize a'.tmps.getD 24 undef=z24 at *;generalize a'.tmps.getD 25 undef=z25 at *;generalize a'.tmps.getD 26 undef=z26 at *;generalize a'.tmps.getD 27 undef=z27 at *;generalize a'.tmps.getD 28 undef=z28 at *;generalize a'.tmps.getD 29 undef=z29 at *;generalize a'.tmps.getD 30 undef=z30 at *;generalize a'.tmps.getD 31 undef=z31 at *;generalize a'.tmps.getD 32 undef=z32 at *;generalize a'.tmps.getD 33 undef=z33 at *;generalize a'.tmps.getD 34 undef=z34 at *;generalize a'.tmps.getD 35 undef=z35 at *;subst hact;obtain⟨V,e11,hV,hVS⟩:=hd11;subst e11;have e12:z35 = .pointer (some ⟨gk,ok+u,none⟩):=hd12;subst e12;clear hd12;simp only[Act.put,List.setIfInBounds_toArray,List.set_cons_succ,List.set_cons_zero];have B5:=ħ (B4.o.trans (hb4.o.mono B4.o.size));have XH5:=ħ (XH.o.step hb4.o);have KO5:=ħ (KO.o.below hb4.o);have HV5:=ħ hV;have HVG:Hid (V≠gk/\V≠X/\w.heap.size<=V):=ħ ⟨fun e=>by have:=HGB.o.2;have:=HWS.o;omega,fun e=>by have:=XH.o.lt;have:=HWS.o;omega,by have:=B4.o.size;have:=HWS.o;omega⟩;clear hb4 hV hVS AW XW HMK;obtain⟨⟨v0,t0⟩,tf,-,hcap⟩:=KO5.o.setW u hkl;have HCAP:=ħ hcap;clear hcap;refine Zas (Zab rfl ?_)
    go_wp2_with fail
    clear t0 tf;have on:=(Only.refl w4 (· = gk)).setCell (a:=⟨gk,ok+u,none⟩) (.slice (some ⟨V,0,none⟩) nm nm) rfl;have KO6:=ħ (KO5.o.setAt u hkl (.slice (some ⟨V,0,none⟩) nm nm));have XH6:=ħ (XH5.o.only on (fun e=>HGX.o e.symm));have HV6:=ħ (HV5.o.only on (fun e=>HVG.o.1 e));have B6:=ħ (Only.later B5.o on (fun g hg=>by have:=HGB.o.1;omega));clear on KO5 XH5 HV5 B5;refine Zaa (Zbm ?_);generalize w4.setCell ⟨gk,ok+u,none⟩ (.slice (some ⟨V,0,none⟩) nm nm)=w6 at *;have x4:=XH6.o.cell 4 _ rfl;have a4:=(AW0.o w6 B6.o).cell 4 _ rfl;obtain⟨gc,oc,bo,bc,hco,hgc,hrc,hrb⟩:=HCR.o w6 B6.o;obtain⟨gb,ob,hbo,hbc⟩:=hrb.bool m (by rw[HRU.o];exact hm);rw[HRU.o] at hrc;have HCO:=ħ hco;have HBO:=ħ hbo;subst hco;subst hbo
    have hk6:w6.cell? ⟨gk,ok+u,none⟩=some (.slice (some ⟨V,0,none⟩) nm nm):=by
     have h:=KO6.o
     cases h with
     | «at» g off h1 h2 h3 h4=>exact h1.cells u _ (by rw[List.getElem?_set_self hkl])
    obtain⟨bv,hbv⟩:∃ b,ru.getD m false=b:=⟨_,rfl⟩;rw[hbv] at hbc HFX
    have mm:(m:Int)<nm:=by omega
    clear hbv hrb hgc
    go_upto_region 3 with(fail)
    have c1:=cell_regrown x4;have c2:=cell_regrown a4;have c3:=cell_regrown hrc;have c4:=cell_regrown hbc;have c5:=cell_regrown hk6;clear x4 a4 hrc hbc hk6;refine Zbi 19 (by kernel_rfl) (by kernel_rfl) ?_;simp only[List.take_succ_cons,List.take_zero,List.drop_succ_cons,List.drop_zero]
    repeat (go_big_quiet_step (fail))
    refine wpQuiet_nil ?_;intro _ hw';obtain⟨⟨dq,osq⟩,hw''⟩:=hw';subst hw'';have hbb:=below_regrown w6 dq osq;have KO7:=ħ (KO6.o.below hbb);have XH7:=ħ (XH6.o.step hbb);have HV7:=ħ (HV6.o.step hbb);have B7:=ħ (B6.o.trans (hbb.mono B6.o.size));clear c1 c2 c3 c4 c5 hbb KO6 XH6 HV6 B6;generalize grow (redrawn w6 dq) osq=wd at *;have t0:=HV7.o.cell m _ (Zem (by simp;exact hm));have tf:=HV7.o.warm m
    go_wp2_with fail
    clear t0 tf;have on:=(Only.refl wd (· = V)).setCell (a:=⟨V,m,none⟩) (.bool bv) rfl;have HV8:Hid (Zae (wd.setCell ⟨V,m,none⟩ (.bool bv)) V 4 (bvs ((List.replicate nm false).set m bv))):=ħ (by have:=HV7.o.set m (.bool bv);rwa [Zdp]);have KO8:=ħ (OwnK.of_block KO7.o (fun g e hl=>on.block g hl (fun e2=>HVG.o.1 (by have h:gk=g:=đa e;omega))) on.size);have XH8:=ħ (XH7.o.only on (fun e=>HVG.o.2.1 e.symm));have B8:=ħ (Only.later B7.o on (fun g hg=>by have:=HVG.o.2.2;omega));clear on KO7 XH7 HV7 B7;generalize wd.setCell ⟨V,m,none⟩ (.bool bv)=w8 at *;have HFL:Hid (FX.length=nc):=ħ (by rw[HFX.o,List.length_set,HNC.o])
    go_wp2_with fail
    go_ret
    exact⟨X,rfl,HFIX.o _ X ⟨gk,ok,kc,V,by unfold Ze0;rw[HFL.o,HNQ.o,HNM.o,HNU.o,HNH.o];exact XH8.o,by rw[HFL.o];exact HCAP.o,KO8.o,fun row hrow=>by
     rw[HFX.o,List.getElem?_set_self (by rw[HNC.o];exact hu)] at hrow;obtain rfl:=đa hrow
     exact⟨HV8.o,by rw[List.length_set,List.length_replicate]⟩,HVG.o.2.2⟩,XB.o,B8.o⟩
theorem Zm9(w:World)(A:Nat)(c:Crw)(H C:List (List Bool))(u m:Nat)(hr:Zbo w A c H C)(hu:u<C.length)(hm:m<c.ms.length)(hC:∀ r∈C,r.length=c.ms.length)(hn:C.length<=1000000)(hml:c.ms.length<=1000000) :
  Calls Tryz.prog 84 #[.pointer (some ⟨A,0,none⟩),.int .i64 u,.int .i64 m] w fun e w'=>∃ X,e = .returned (.pointer (some ⟨X,0,none⟩))/\Zbo w' X c H (Zcy c C u m)/\w.heap.size<=X/\Below w.heap.size w w':=by
 obtain⟨qo,mo,uo,ho,co,qc,mc,uc,hc,cc,hA,hR,hcu,hcc⟩:=hr;obtain⟨vals,hvl,hvs,hcl⟩:=Zr4 w A c H C u m qo mo uo ho co qc mc uc hc cc hA hR hu hm hC hn hml;refine hcl.mono ?_;rintro e w' ⟨X,rfl,⟨gk,ok,kc,V,h1,h2,h3,h4,h5⟩,h6,h7⟩;have HR8:=hR.below h7;refine⟨X,rfl,⟨qo,mo,uo,ho,some ⟨gk,ok,none⟩,qc,mc,uc,hc,kc,h1,⟨HR8.q,HR8.m,HR8.u,HR8.h,Zm8 h3 (fun i row hi=>?_)⟩,hcu,h2⟩,h6,h7⟩;by_cases e:u=i
 ·subst e
  obtain⟨h8,h9⟩:=h4 row hi;exact⟨some ⟨V,0,none⟩,c.ms.length,by rw[List.getElem?_set_self (by rw[hvl];exact hu),h9],h8.flatB⟩
 ·rw[List.getElem?_set_ne e]
  unfold Zcy at hi;rw[List.getElem?_set_ne e] at hi;obtain⟨bo',bc',h8,h9,-⟩:=hvs i row hi;exact⟨bo',bc',h8,h9.below h7⟩
theorem Zd3.reck{w:World}{Q:Nat->Prop}{A:Nat}{c:Crw}{H C:List (List Bool)}(h:Zd3 w Q A c H C):Zbo w A c H C:=by
 obtain⟨qo,mo,uo,ho,co,qc,mc,uc,hc,cc,h1,h2,h3,h4,h5,h6⟩:=h;exact⟨qo,mo,uo,ho,co,qc,mc,uc,hc,cc,h1,h5 w (Only.refl _ _),h3,h4⟩
theorem Only.glue{w w' W:World}{Q Q':Nat->Prop}(on:Only w w' Q)(on':Only w' W Q')(hQ:∀ g,g<w.heap.size->Q' g->Q g):Only w W Q :=
 ⟨on'.os.trans on.os,on'.tape.trans on.tape,on'.output.trans on.output,đo on.size on'.size,fun g hg hn=>(on'.block g (đm hg on.size) (fun h=>hn (hQ g hg h))).trans (on.block g hg hn)⟩
theorem Zd3.only{w w':World}{Q Q':Nat->Prop}{A:Nat}{c:Crw}{H C:List (List Bool)}(h:Zd3 w Q A c H C)(on:Only w w' Q)(hQ:∀ g,g<w.heap.size->Q' g->Q g):Zd3 w' Q' A c H C:=by
 obtain⟨qo,mo,uo,ho,co,qc,mc,uc,hc,cc,h1,h2,h3,h4,h5,h6⟩:=h;refine⟨qo,mo,uo,ho,co,qc,mc,uc,hc,cc,h1.only on h2,fun h=>h2 (hQ A h1.lt h),h3,h4,fun W oW=>h5 W (on.glue oW hQ),?_⟩;rcases h6 with h6 | ⟨g,off,e,hg,hq,h6⟩
 ·exact .inl h6
 ·refine .inr ⟨g,off,e,đm hg on.size,fun h=>hq (hQ g hg h),fun i row hi=>?_⟩
  obtain⟨bo,bc,h7,h8⟩:=h6 i row hi;exact⟨bo,bc,by rw[đx (w:=w) (a:=⟨g,off+i,none⟩) (on.block g hg hq)];exact h7,fun W oW=>h8 W (on.glue oW hQ)⟩
theorem Zbo.free{w0 w:World}{Q:Nat->Prop}{A:Nat}{c:Crw}{H C:List (List Bool)}(h:Zbo w0 A c H C)(hb:Below w0.heap.size w0 w)(hQ:∀ g,Q g->w0.heap.size<=g):Zd3 w Q A c H C:=by
 obtain⟨qo,mo,uo,ho,co,qc,mc,uc,hc,cc,hA,hR,hcu,hcc⟩:=h;refine⟨qo,mo,uo,ho,co,qc,mc,uc,hc,cc,hA.step hb,fun h=>by have:=hQ A h;have:=hA.lt;omega,hcu,hcc,fun W oW=>hR.below (oW.later hb hQ),?_⟩;rcases hR.c with h6 | ⟨g,off,e,hg,h6⟩
 ·exact .inl h6
 ·refine .inr ⟨g,off,e,đm hg hb.size,fun h=>by have:=hQ g h;omega,fun i row hi=>?_⟩
  obtain⟨bo,bc,h7,h8⟩:=h6 i row hi;exact⟨bo,bc,by rw[đx (w:=w0) (a:=⟨g,off+i,none⟩) (hb.block g hg)];exact h7,fun W oW=>h8.below (oW.later hb hQ)⟩
theorem Z0d(w:World)(Q:Nat->Prop)(A:Nat)(c:Crw)(H C:List (List Bool))(u m:Nat)(hr:Zd3 w Q A c H C)(hQ:∀ g,Q g->g<w.heap.size)(hu:u<C.length)(hm:m<c.ms.length)(hC:∀ r∈C,r.length=c.ms.length)(hn:C.length<=1000000)(hml:c.ms.length<=1000000) :
  Calls Tryz.prog 84 #[.pointer (some ⟨A,0,none⟩),.int .i64 u,.int .i64 m] w fun e w'=>∃ X,e = .returned (.pointer (some ⟨X,0,none⟩))/\Zd3 w' Q X c H (Zcy c C u m)/\w.heap.size<=X/\Below w.heap.size w w':=by
 obtain⟨qo,mo,uo,ho,co,qc,mc,uc,hc,cc,hA,hQA,hcu,hcc,hRW,hrows⟩:=hr;have hR:=hRW w (Only.refl _ _);obtain⟨vals,hvl,hvs,hcl⟩:=Zr4 w A c H C u m qo mo uo ho co qc mc uc hc cc hA hR hu hm hC hn hml;refine hcl.mono ?_;rintro e w' ⟨X,rfl,⟨gk,ok,kc,V,h1,h2,h3,h4,h5⟩,h6,h7⟩
 have hov:∀ W,Only w' W Q->Only w W Q:=fun W oW=>(Only.of_below h7).trans oW
 have hgk:=(h3.blk_lt (g:=gk) rfl)
 have hnq:∀ g,w.heap.size<=g->¬ Q g:=fun g hg h=>by have:=hQ g h;omega
 have hfl:∀ i row,(Zcy c C u m)[i]?=some row->∃ (bo:Option Addr) (bc:Nat),(vals.set u (.slice (some ⟨V,0,none⟩) c.ms.length c.ms.length))[i]?=some (Value.slice bo row.length bc)/\∀ W,Only w' W Q->Zan Zc5 W bo row:=fun i row hi=>by
  by_cases e:u=i
  ·subst e
   obtain⟨h8,h9⟩:=h4 row hi;exact⟨some ⟨V,0,none⟩,c.ms.length,by rw[List.getElem?_set_self (by rw[hvl];exact hu),h9],fun W oW=>(h8.only oW (hnq V h5)).flatB⟩
  ·rw[List.getElem?_set_ne e]
   unfold Zcy at hi;rw[List.getElem?_set_ne e] at hi;obtain⟨bo',bc',h8,h9,h10⟩:=hvs i row hi;refine⟨bo',bc',h8,fun W oW=>?_⟩;rcases hrows with h11 | ⟨g,off,e2,hg,hq,h11⟩
   ·rw[h11] at hu;simp at hu
   ·obtain⟨bo2,bc2,h12,h13⟩:=h11 i row hi
    have h14:=h10 g off e2;rw[h12] at h14;injection h14 with h14;injection h14 with h15 h16 h17;rw[<- h15];exact h13 W (hov W oW)
 have hro:∀ W,Only w' W Q->OwnK W w.heap.size 1 C.length kc (vals.set u (.slice (some ⟨V,0,none⟩) c.ms.length c.ms.length)) (some ⟨gk,ok,none⟩):=fun W oW=>h3.of_block (fun g e hl=>by
  have h:gk=g:=đa e
  exact oW.block g hl (by rw[<- h];exact hnq gk hgk.1)) oW.size
 refine⟨X,rfl,⟨qo,mo,uo,ho,some ⟨gk,ok,none⟩,qc,mc,uc,hc,kc,h1,hnq X h6,hcu,h2,fun W oW=>?_,.inr ⟨gk,ok,rfl,hgk.2,hnq gk hgk.1,fun i row hi=>?_⟩⟩,h6,h7⟩
 ·have HR8:=hRW W (hov W oW)
  exact⟨HR8.q,HR8.m,HR8.u,HR8.h,Zm8 (hro W oW) (fun i row hi=>by
   obtain⟨bo,bc,h8,h9⟩:=hfl i row hi
   exact⟨bo,bc,h8,h9 W oW⟩)⟩
 ·obtain⟨bo,bc,h8,h9⟩:=hfl i row hi
  refine⟨bo,bc,?_,h9⟩
  cases h3 with
  | «at» g off k1 k2 k3 k4=>exact k1.cells i _ h8
end
section
open Go.RowKit Go.Sort Go.Maps
def Za0(r:List Nat):List Value:=r.map (fun(u:Nat)=>Value.int .i64 (u:Int))
theorem Zbt(r:List Nat)(u:Nat):Za0 r++[.int .i64 (u:Int)]=Za0 (r++[u]):=by unfold Za0;rw[List.map_append];rfl
theorem Zi0(r:List Nat):(Za0 r).length=r.length:=by unfold Za0;rw[đr]
theorem Zna(r:List Nat)(i u:Nat):(Za0 r).set i (.int .i64 (u:Int))=Za0 (r.set i u):=by unfold Za0;rw[List.map_set]
def Zo3(v:Value):Option (DataW Value×List MemPlace):=some (.held v,[])
theorem Zwv:Keyed Tryz.prog 3:=int_keyed Tryz.underlying3
def Zlb(w:World)(b n M:Nat)(f:Nat->Value):Prop:=∃ D:DataW Value,w.ownsMap Tryz.prog 3 Zo3 b n D/\∀ k,k<M->D.atKey (.int .i64 (k:Int)) (.held (.slice none 0 0)) = .held (f k)
theorem Zlb.lt{w:World}{b n M:Nat}{f:Nat->Value}(h:Zlb w b n M f):b<w.heap.size:=by
 obtain⟨D,h1,-⟩:=h;exact h1.lt
theorem Zlb.of_block{w w':World}{b n M:Nat}{f:Nat->Value}(h:Zlb w b n M f)(hb:w'.heap[b]?=w.heap[b]?):Zlb w' b n M f:=by
 obtain⟨D,⟨es,clock,h1,h2,h3,h4⟩,h5⟩:=h;exact⟨D,⟨es,clock,hb.trans h1,h2,h3,h4⟩,h5⟩
theorem Zlb.mono{w:World}{b n n' M:Nat}{f:Nat->Value}(h:Zlb w b n M f)(hn:n<=n'):Zlb w b n' M f:=by
 obtain⟨D,⟨es,clock,h1,h2,h3,h4⟩,h5⟩:=h;exact⟨D,⟨es,clock,h1,h2,đo h3 hn,h4⟩,h5⟩
theorem Zqc{k:Nat}(hk:k<=1000000):keyOf Tryz.prog 3 (.int .i64 (k:Int))=some (.int .i64 (k:Int)):=keyOf_int_mk Tryz.underlying3 (by
 have e1:IntKind.i64.min = -9223372036854775808:=by decide
 have e2:IntKind.i64.max=9223372036854775807:=by decide
 show(decide (IntKind.i64.min<=(k:Int))&&decide ((k:Int)<=IntKind.i64.max))=true
 rw[e1,e2,decide_eq_true (by omega),decide_eq_true (by omega)];rfl)
theorem Zww(w:World):(zeroValue 33).run Tryz.prog w = .ok (.slice none 0 0) w:=Tryz.zeroValue33 w
theorem Zlb.look{w:World}{b n M:Nat}{f:Nat->Value}(h:Zlb w b n M f){k:Nat}(hk:k<M)(hM:M<=1000000) :
  (Instr.lookup 188 (.map (some b)) (.int .i64 (k:Int)) false).run Tryz.prog w = .ok (f k) w:=by
 obtain⟨D,h1,h2⟩:=h;obtain⟨v,ps,hrun,hv⟩:=h1.lookup Zwv Tryz.underlying188 (Zww w) (zd:=.held (.slice none 0 0)) (zp:=[]) rfl (Zqc (k:=k) (by omega));rw[h2 k hk] at hv
 have e:v=f k:=by
  have:=đa hv;exact DataW.held.inj (Prod.mk.inj this).1
 rw[hrun,e]
theorem Zlb.new(w:World)(M:Nat):Zlb (w.alloc (.map #[] 0)) w.heap.size 0 M (fun _=>.slice none 0 0) :=
 ⟨.map [],World.ownsMap_made w Tryz.prog 3 Zo3,fun k _=>rfl⟩
theorem Zlb.put {w w':World} {b n M:Nat} {f:Nat->Value} {D:DataW Value} {k:Nat} {v:Value} (h:w.ownsMap Tryz.prog 3 Zo3 b n D) (hat:∀ k,k<M->D.atKey (.int .i64 (k:Int)) (.held (.slice none 0 0)) = .held (f k)) (hk:k<M) (hM:M<=1000000)
  (h':w'.ownsMap Tryz.prog 3 Zo3 b (n+1) (D.put (.int .i64 (k:Int)) (.held v))):Zlb w' b (n+1) M (Zar f k v):=by
 refine⟨_,h',fun j hj=>?_⟩;by_cases e:j=k
 ·subst e
  rw[atKey_put_same h.isMap (Zwv.key (Zqc (by omega))),Zag]
 ·rw[atKey_put_other (fun h=>e (by injection h with _ h;exact Int.ofNat.inj h)),Zaf _ _ _ e]
  exact hat j hj
structure PlcB where
 R:Nat
 RB:Nat
 T:Nat
 TV:Nat
 GB:Nat
 GV:Nat
 AB:Nat
 AV:Nat
 PB:Nat
 A:Nat
 mb:Nat->Nat
def PlcB.ptrs(b:PlcB):Array Value:=#[.pointer (some ⟨b.R,0,none⟩),.pointer (some ⟨b.RB,0,none⟩),.pointer (some ⟨b.T,0,none⟩),.pointer (some ⟨b.GB,0,none⟩),.pointer (some ⟨b.AB,0,none⟩),.pointer (some ⟨b.PB,0,none⟩)]
structure PlcD (lo hi:Nat) (b:PlcB):Prop where
 range:∀ g,g∈[b.R,b.RB,b.T,b.TV,b.GB,b.GV,b.AB,b.AV,b.PB]->lo<=g/\g<hi
 mbr:∀ i,i<16->lo<=b.mb i/\b.mb i<hi
 r:∀ g,g∈[b.RB,b.T,b.TV,b.GB,b.GV,b.AB,b.AV,b.PB]->g≠b.R
 tv:∀ g,g∈[b.R,b.RB,b.T,b.GB,b.GV,b.AB,b.AV,b.PB]->g≠b.TV
 av:∀ g,g∈[b.R,b.RB,b.T,b.TV,b.GB,b.GV,b.AB,b.PB]->g≠b.AV
 mb:∀ i,i<16->∀ g,g∈[b.R,b.RB,b.T,b.TV,b.GB,b.GV,b.AB,b.AV,b.PB]->g≠b.mb i
 mbj:∀ i j,i<16->j<16->i≠j->b.mb i≠b.mb j
structure PlcW (w0 w:World) (B:Nat) (b:PlcB) (U M:Nat) (G:Nat->Nat->List Nat) (a:Nat->Int) (t:Nat->Bool) (r:List Nat) (n:Nat) (ad:Nat->Nat->Option Addr) (cp:Nat->Nat->Nat) (ro:Option Addr) (rc:Nat):Prop where
 reach:Zae w b.R 33 [.slice ro r.length rc]
 rown:OwnK w B 1 r.length rc (Za0 r) ro
 rbox:Zae w b.RB 102 [.pointer (some ⟨b.A,0,none⟩)]
 tbox:Zae w b.T 87 [.slice (some ⟨b.TV,0,none⟩) M M]
 tv:Zae w b.TV 4 (bvs ((List.range M).map t))
 gbox:Zae w b.GB 187 [.slice (some ⟨b.GV,0,none⟩) 16 16]
 gv:Zae w b.GV 188 ((List.range 16).map (fun i=>Value.map (some (b.mb i))))
 maps:∀ i,i<16->Zlb w (b.mb i) n M (fun m=>.slice (ad i m) (G i m).length (cp i m))
 own:∀ i m,i<16->m<M->OwnK w B 1 (G i m).length (cp i m) (Za0 (G i m)) (ad i m)
 sep:∀ i m i' m',i<16->m<M->i'<16->m'<M->(i≠i'\/m≠m')->∀ g,blk (ad i m)=some g->blk (ad i' m')≠some g
 rsep:∀ i m,i<16->m<M->∀ g,blk (ad i m)=some g->blk ro≠some g
 abox:Zae w b.AB 33 [.slice (some ⟨b.AV,0,none⟩) U U]
 av:Zae w b.AV 3 (ivs ((List.range U).map a))
 pbox:Zae w b.PB 114 [.func (.func 168) #[] b.ptrs]
 below:Below w0.heap.size w0 w
 big:B<=w.heap.size
section
variable {w0 w w':World} {B:Nat} {b:PlcB} {U M:Nat} {G:Nat->Nat->List Nat} {a:Nat->Int} {t:Nat->Bool} {r:List Nat} {n:Nat} {ad:Nat->Nat->Option Addr} {cp:Nat->Nat->Nat} {ro:Option Addr} {rc:Nat}
theorem PlcW.step(h:PlcW w0 w B b U M G a t r n ad cp ro rc)(hb:Below w.heap.size w w'):PlcW w0 w' B b U M G a t r n ad cp ro rc :=
 ⟨h.reach.step hb,h.rown.below hb,h.rbox.step hb,h.tbox.step hb,h.tv.step hb,h.gbox.step hb,h.gv.step hb,fun i hi=>(h.maps i hi).of_block (hb.block _ (h.maps i hi).lt),fun i m hi hm=>(h.own i m hi hm).below hb,h.sep,h.rsep,h.abox.step hb,h.av.step hb,h.pbox.step hb,h.below.trans (hb.mono h.below.size),đo h.big hb.size⟩
theorem Zg6{α:Type}(f:Nat->α)(M k:Nat)(v:α):((List.range M).map f).set k v=(List.range M).map (Zar f k v):=by
 apply List.ext_getElem?;intro i;rw[List.getElem?_set,đj];by_cases hi:i<M
 ·rw[đj,List.getElem?_range hi]
  by_cases e:k=i
  ·subst e
   rw[if_pos rfl,if_pos (by simp;exact hi)];show _=some (Zar f k v k);rw[Zag]
  ·rw[if_neg e]
   show _=some (Zar f k v i);rw[Zaf _ _ _ (fun e2=>e e2.symm)];rfl
 ·rw[đj,List.getElem?_eq_none (by simp;omega:(List.range M).length<=i)]
  split
  ·rw[if_neg (by simp;omega)];rfl
  ·rfl
theorem PlcW.setT(h:PlcW w0 w B b U M G a t r n ad cp ro rc)(hd:PlcD w0.heap.size B b)(m:Nat):PlcW w0 (w.setCell ⟨b.TV,m,none⟩ (.bool true)) B b U M G a (Zar t m true) r n ad cp ro rc:=by
 have on:=(Only.refl w (· = b.TV)).setCell (a:=⟨b.TV,m,none⟩) (.bool true) rfl;have hr:=hd.range b.TV (by simp);refine⟨h.reach.only on (hd.tv _ (by simp)),h.rown.of_block (fun g e hl=>on.block g hl (fun e2=>by have:=(h.rown.blk_lt e).1;omega)) on.size,h.rbox.only on (hd.tv _ (by simp)),h.tbox.only on (hd.tv _ (by simp)),?_,h.gbox.only on (hd.tv _ (by simp)),h.gv.only on (hd.tv _ (by simp)),fun i hi=>(h.maps i hi).of_block (on.block _ (h.maps i hi).lt (fun e=>hd.mb i hi b.TV (by simp) e.symm)),fun i m hi hm=>(h.own i m hi hm).of_block (fun g e hl=>on.block g hl (fun e2=>by have:=((h.own i m hi hm).blk_lt e).1;omega)) on.size,h.sep,h.rsep,h.abox.only on (hd.tv _ (by simp)),h.av.only on (hd.tv _ (by simp)),h.pbox.only on (hd.tv _ (by simp)),Only.later h.below on (fun g hg=>by omega),by rw[World.size_setCell];exact h.big⟩;have:=h.tv.set m (.bool true)
 rwa [<- Zdp,Zg6] at this
theorem PlcW.setA(h:PlcW w0 w B b U M G a t r n ad cp ro rc)(hd:PlcD w0.heap.size B b)(u:Nat)(x:Int):PlcW w0 (w.setCell ⟨b.AV,u,none⟩ (.int .i64 x)) B b U M G (Zar a u x) t r n ad cp ro rc:=by
 have on:=(Only.refl w (· = b.AV)).setCell (a:=⟨b.AV,u,none⟩) (.int .i64 x) rfl;have hr:=hd.range b.AV (by simp);refine⟨h.reach.only on (hd.av _ (by simp)),h.rown.of_block (fun g e hl=>on.block g hl (fun e2=>by have:=(h.rown.blk_lt e).1;omega)) on.size,h.rbox.only on (hd.av _ (by simp)),h.tbox.only on (hd.av _ (by simp)),h.tv.only on (hd.av _ (by simp)),h.gbox.only on (hd.av _ (by simp)),h.gv.only on (hd.av _ (by simp)),fun i hi=>(h.maps i hi).of_block (on.block _ (h.maps i hi).lt (fun e=>hd.mb i hi b.AV (by simp) e.symm)),fun i m hi hm=>(h.own i m hi hm).of_block (fun g e hl=>on.block g hl (fun e2=>by have:=((h.own i m hi hm).blk_lt e).1;omega)) on.size,h.sep,h.rsep,h.abox.only on (hd.av _ (by simp)),?_,h.pbox.only on (hd.av _ (by simp)),Only.later h.below on (fun g hg=>by omega),by rw[World.size_setCell];exact h.big⟩;have:=h.av.set u (.int .i64 x);unfold ivs at this ⊢
 rwa [<- List.map_set,Zg6] at this
theorem PlcW.setG(h:PlcW w0 w B b U M G a t r n ad cp ro rc)(hd:PlcD w0.heap.size B b)(x m i u g off:Nat)(hx:x<16)(hm:m<M)(hi:i<(G x m).length)(hg:ad x m=some ⟨g,off,none⟩) :
  PlcW w0 (w.setCell ⟨g,off+i,none⟩ (.int .i64 (u:Int))) B b U M (Zar G x (Zar (G x) m ((G x m).set i u))) a t r n ad cp ro rc:=by
 have on:=(Only.refl w (· = g)).setCell (a:=⟨g,off+i,none⟩) (.int .i64 (u:Int)) rfl;have ho:=h.own x m hx hm;rw[hg] at ho;have hgB:=(ho.blk_lt (g:=g) rfl).1
 have hne:∀ y,y∈[b.R,b.RB,b.T,b.TV,b.GB,b.GV,b.AB,b.AV,b.PB]->y≠g:=fun y hy e=>by have:=(hd.range y hy).2;omega
 have hlo:w0.heap.size<=g:=by have:=(hd.range b.R (by simp));omega
 have hlen:∀ i' m',(Zar G x (Zar (G x) m ((G x m).set i u)) i' m').length=(G i' m').length:=fun i' m'=>by
  by_cases e:i'=x
  ·subst e
   rw[Zag];by_cases e2:m'=m
   ·subst e2;rw[Zag,List.length_set]
   ·rw[Zaf _ _ _ e2]
  ·rw[Zaf _ _ _ e]
 refine⟨h.reach.only on (hne _ (by simp)),h.rown.of_block (fun g' e hl=>on.block g' hl (fun e2=>?_)) on.size,h.rbox.only on (hne _ (by simp)),h.tbox.only on (hne _ (by simp)),h.tv.only on (hne _ (by simp)),h.gbox.only on (hne _ (by simp)),h.gv.only on (hne _ (by simp)),fun i' hi'=>?_,fun i' m' hi' hm'=>?_,h.sep,h.rsep,h.abox.only on (hne _ (by simp)),h.av.only on (hne _ (by simp)),h.pbox.only on (hne _ (by simp)),Only.later h.below on (fun g' hg'=>by omega),by rw[World.size_setCell];exact h.big⟩
 ·subst e2
  exact h.rsep x m hx hm g' (by rw[hg];rfl) e
 ·have:=(h.maps i' hi').of_block (on.block _ (h.maps i' hi').lt (fun e=>by have:=(hd.mbr i' hi').2;omega))
  simp only[hlen];exact this
 ·rw[hlen]
  by_cases e:i'=x/\m'=m
  ·obtain⟨rfl,rfl⟩:=e
   rw[Zag,Zag,<- Zna,hg];exact ho.setAt i (by rw[Zi0];exact hi) _
  ·have hG:Zar G x (Zar (G x) m ((G x m).set i u)) i' m'=G i' m':=by
    by_cases e1:i'=x
    ·subst e1
     rw[Zag,Zaf _ _ _ (fun e2=>e ⟨rfl,e2⟩)]
    ·rw[Zaf _ _ _ e1]
   rw[hG];refine(h.own i' m' hi' hm').of_block (fun g' e1 hl=>on.block g' hl (fun e2=>?_)) on.size;subst e2;exact h.sep x m i' m' hx hm hi' hm' (by by_cases e3:x=i';exact .inr (fun e4=>e ⟨e3.symm,e4.symm⟩);exact .inl e3) g' (by rw[hg];rfl) e1
theorem PlcW.addR(h:PlcW w0 w B b U M G a t r n ad cp ro rc)(hd:PlcD w0.heap.size B b){wa:World}{u g5 off5 c5:Nat}(ho:OwnK wa B 1 (r.length+1) c5 (Za0 r++[.int .i64 (u:Int)]) (some ⟨g5,off5,none⟩))(hg:w.grownBy wa (blk ro))(hb:Below B w wa)(hor:blk ro=some g5\/w.heap.size<=g5) :
  PlcW w0 (wa.setCell ⟨b.R,0,none⟩ (.slice (some ⟨g5,off5,none⟩) (r.length+1) c5)) B b U M G a t (r++[u]) n ad cp (some ⟨g5,off5,none⟩) c5:=by
 have on:=(Only.refl wa (· = b.R)).setCell (a:=⟨b.R,0,none⟩) (.slice (some ⟨g5,off5,none⟩) (r.length+1) c5) rfl;have hR:=hd.range b.R (by simp)
 have hv:∀ {g:Nat} {T:TypeId} {cs:List Value},g∈[b.RB,b.T,b.TV,b.GB,b.GV,b.AB,b.AV,b.PB]->Zae w g T cs->Zae (wa.setCell ⟨b.R,0,none⟩ (.slice (some ⟨g5,off5,none⟩) (r.length+1) c5)) g T cs:=fun {g T cs} hm hh=>(hh.below hb (hd.range g (List.mem_cons_of_mem _ hm)).2).only on (hd.r g hm)
 have h5:=(ho.blk_lt (g:=g5) rfl).1;refine⟨?_,?_,hv (by simp) h.rbox,hv (by simp) h.tbox,hv (by simp) h.tv,hv (by simp) h.gbox,hv (by simp) h.gv,fun i hi=>?_,fun i m hi hm=>?_,h.sep,fun i m hi hm g e e2=>?_,hv (by simp) h.abox,hv (by simp) h.av,hv (by simp) h.pbox,?_,by rw[World.size_setCell];exact đo h.big hb.size⟩
 ·rw[đn]
  exact(h.reach.below hb hR.2).set 0 _
 ·rw[đn,<- Zbt]
  exact ho.of_block (fun g e hl=>on.block g hl (fun e2=>by have h6:g5=g:=đa e;omega)) on.size
 ·refine((h.maps i hi).of_block (hb.block _ (hd.mbr i hi).2)).of_block (on.block _ ?_ (fun e=>hd.mb i hi b.R (by simp) e.symm))
  have:=hb.size;have:=(h.maps i hi).lt;omega
 ·have hx:blk (ad i m)≠blk ro\/blk (ad i m)=none:=by
   cases hb2:blk (ad i m) with
   | none=>exact .inr rfl
   | some g=>exact .inl (fun e=>h.rsep i m hi hm g hb2 e.symm)
  exact((h.own i m hi hm).grown hg hx).of_block (fun g e hl=>on.block g hl (fun e2=>by have:=((h.own i m hi hm).blk_lt e).1;omega)) on.size
 ·have h6:g5=g:=đa e2
  subst h6;rcases hor with h7 | h7
  ·exact h.rsep i m hi hm g5 e h7
  ·have:=((h.own i m hi hm).blk_lt e).2;omega
 ·exact Only.later (h.below.trans (hb.mono (by omega))) on (fun g hg=>by omega)
theorem PlcW.addG (h:PlcW w0 w B b U M G a t r n ad cp ro rc) (hd:PlcD w0.heap.size B b) {wa wb:World} {x m u g5 off5 c5:Nat} (hx:x<16) (hm:m<M) (ho:OwnK wa B 1 ((G x m).length+1) c5 (Za0 (G x m)++[.int .i64 (u:Int)]) (some ⟨g5,off5,none⟩)) (hg:w.grownBy wa (blk (ad x m))) (hb:Below B w wa) (hor:blk (ad x m)=some g5\/w.heap.size<=g5)
  (hM:Zlb wb (b.mb x) (n+1) M (Zar (fun m=>Value.slice (ad x m) (G x m).length (cp x m)) m (.slice (some ⟨g5,off5,none⟩) ((G x m).length+1) c5))) (on:Only wa wb (· = b.mb x)) :
  PlcW w0 wb B b U M (Zar G x (Zar (G x) m (G x m++[u]))) a t r (n+1) (Zar ad x (Zar (ad x) m (some ⟨g5,off5,none⟩))) (Zar cp x (Zar (cp x) m c5)) ro rc:=by
 have hmb:=hd.mbr x hx
 have hv:∀ {g:Nat} {T:TypeId} {cs:List Value},g∈[b.R,b.RB,b.T,b.TV,b.GB,b.GV,b.AB,b.AV,b.PB]->Zae w g T cs->Zae wb g T cs:=fun {g T cs} hm hh=>(hh.below hb (hd.range g hm).2).only on (hd.mb x hx g hm)
 have h5:=(ho.blk_lt (g:=g5) rfl).1
 have hself:∀ i' m',(i'=x/\m'=m)\/(Zar ad x (Zar (ad x) m (some ⟨g5,off5,none⟩)) i' m'=ad i' m'/\Zar G x (Zar (G x) m (G x m++[u])) i' m'=G i' m'/\Zar cp x (Zar (cp x) m c5) i' m'=cp i' m'/\¬ (i'=x/\m'=m)):=fun i' m'=>by
  by_cases e:i'=x/\m'=m
  ·exact .inl e
  ·right
   by_cases e1:i'=x
   ·subst e1
    have e2:m'≠m:=fun e2=>e ⟨rfl,e2⟩
    rw[Zag,Zag,Zag,Zaf _ _ _ e2,Zaf _ _ _ e2,Zaf _ _ _ e2];exact⟨rfl,rfl,rfl,e⟩
   ·rw[Zaf _ _ _ e1,Zaf _ _ _ e1,Zaf _ _ _ e1]
    exact⟨rfl,rfl,rfl,e⟩
 have hnew:∀ i' m',i'<16->m'<M->¬ (i'=x/\m'=m)->∀ g,blk (ad i' m')=some g->g≠g5:=fun i' m' hi' hm' e g hg' e2=>by
  subst e2;rcases hor with h7 | h7
  ·exact h.sep x m i' m' hx hm hi' hm' (by by_cases e3:x=i';exact .inr (fun e4=>e ⟨e3.symm,e4.symm⟩);exact .inl e3) g h7 hg'
  ·have:=((h.own i' m' hi' hm').blk_lt hg').2;omega
 refine⟨hv (by simp) h.reach,?_,hv (by simp) h.rbox,hv (by simp) h.tbox,hv (by simp) h.tv,hv (by simp) h.gbox,hv (by simp) h.gv,fun i hi=>?_,fun i' m' hi' hm'=>?_,fun i' m' i2 m2 hi' hm' hi2 hm2 hne g e e2=>?_,fun i' m' hi' hm' g e e2=>?_,hv (by simp) h.abox,hv (by simp) h.av,hv (by simp) h.pbox,?_,đo h.big (đo hb.size on.size)⟩
 ·have hxr:blk ro≠blk (ad x m)\/blk ro=none:=by
   cases hb2:blk ro with
   | none=>exact .inr rfl
   | some g=>exact .inl (fun e=>h.rsep x m hx hm g e.symm hb2)
  exact(h.rown.grown hg hxr).of_block (fun g e hl=>on.block g hl (fun e2=>by have:=(h.rown.blk_lt e).1;omega)) on.size
 ·by_cases e:i=x
  ·subst e
   have hf:(fun m'=>Value.slice (Zar ad i (Zar (ad i) m (some ⟨g5,off5,none⟩)) i m') (Zar G i (Zar (G i) m (G i m++[u])) i m').length (Zar cp i (Zar (cp i) m c5) i m'))=Zar (fun m=>Value.slice (ad i m) (G i m).length (cp i m)) m (.slice (some ⟨g5,off5,none⟩) ((G i m).length+1) c5):=by
    funext m'
    rw[Zag,Zag,Zag];by_cases e2:m'=m
    ·subst e2;rw[Zag,Zag,Zag,Zag,đn];rfl
    ·rw[Zaf _ _ _ e2,Zaf _ _ _ e2,Zaf _ _ _ e2,Zaf _ _ _ e2]
   rw[hf];exact hM
  ·have hf:(fun m'=>Value.slice (Zar ad x (Zar (ad x) m (some ⟨g5,off5,none⟩)) i m') (Zar G x (Zar (G x) m (G x m++[u])) i m').length (Zar cp x (Zar (cp x) m c5) i m'))=(fun m=>Value.slice (ad i m) (G i m).length (cp i m)):=by
    funext m'
    rw[Zaf _ _ _ e,Zaf _ _ _ e,Zaf _ _ _ e]
   rw[hf];have h1:=(h.maps i hi).of_block (hb.block _ (hd.mbr i hi).2);exact(h1.of_block (on.block _ h1.lt (hd.mbj i x hi hx e))).mono (Nat.le_succ n)
 ·rcases hself i' m' with ⟨rfl,rfl⟩ | ⟨e1,e2,e3,e4⟩
  ·rw[Zag,Zag,Zag,Zag,Zag,Zag,đn,<- Zbt]
   exact ho.of_block (fun g e hl=>on.block g hl (fun e2=>by have h6:g5=g:=đa e;omega)) on.size
  ·rw[e1,e2,e3]
   have hxr:blk (ad i' m')≠blk (ad x m)\/blk (ad i' m')=none:=by
    cases hb2:blk (ad i' m') with
    | none=>exact .inr rfl
    | some g=>exact .inl (fun e=>h.sep x m i' m' hx hm hi' hm' (by by_cases e3:x=i';exact .inr (fun e5=>e4 ⟨e3.symm,e5.symm⟩);exact .inl e3) g e.symm hb2)
   exact((h.own i' m' hi' hm').grown hg hxr).of_block (fun g e hl=>on.block g hl (fun e2=>by have:=((h.own i' m' hi' hm').blk_lt e).1;omega)) on.size
 ·rcases hself i' m' with ⟨rfl,rfl⟩ | ⟨e1,-,-,e4⟩
  ·rcases hself i2 m2 with ⟨rfl,rfl⟩ | ⟨f1,-,-,f4⟩
   ·rcases hne with h8 | h8<;>exact h8 rfl
   ·rw[Zag,Zag] at e
    rw[f1] at e2;have h6:g5=g:=đa e;exact hnew i2 m2 hi2 hm2 f4 g e2 h6.symm
  ·rw[e1] at e
   rcases hself i2 m2 with ⟨rfl,rfl⟩ | ⟨f1,-,-,f4⟩
   ·rw[Zag,Zag] at e2
    have h6:g5=g:=đa e2;exact hnew i' m' hi' hm' e4 g e h6.symm
   ·rw[f1] at e2
    exact h.sep i' m' i2 m2 hi' hm' hi2 hm2 hne g e e2
 ·rcases hself i' m' with ⟨rfl,rfl⟩ | ⟨e1,-,-,e4⟩
  ·rw[Zag,Zag] at e
   have h6:g5=g:=đa e;subst h6;rcases hor with h7 | h7
   ·exact h.rsep i' m' hi' hm' g5 h7 e2
   ·have:=(h.rown.blk_lt e2).2;omega
  ·rw[e1] at e
   exact h.rsep i' m' hi' hm' g e e2
 ·exact Only.later (h.below.trans (hb.mono (by have:=(hd.range b.R (by simp));omega))) on (fun g hg=>by omega)
end
end
section
open Go.RowKit Go.Sort Go.Maps
def Za1(c:Crw)(C:List (List Bool)):Tbl:=⟨c.us.length,c.ms.length,fun u m=>(C.getD u []).getD m false,fun u=>(c.us.getD u ⟨0,0,0,0⟩).w.toNat,fun m w=>(Zcd (c.ms.getD m ⟨[],[],0⟩).t w).toNat⟩
structure ReckOk (c:Crw) (C:List (List Bool)):Prop where
 len:C.length=c.us.length
 row:∀ r∈C,r.length=c.ms.length
 win:∀ x∈c.us,0<=x.w/\x.w<=15
 tic:∀ m∈c.ms,(∀ t∈m.t,0<=t/\t<=4096)/\m.t.length<=1000
 nm:c.ms.length<=1000
 nu:c.us.length<=1000
theorem Zr5{α:Type}(f:Nat->α)(k:Nat)(v v':α):Zar (Zar f k v) k v'=Zar f k v':=by
 funext i
 by_cases e:i=k
 ·subst e;rw[Zag,Zag]
 ·rw[Zaf _ _ _ e,Zaf _ _ _ e,Zaf _ _ _ e]
theorem Zr6{can:Nat->Nat->Bool}{cap:Nat->Nat}{M U:Nat}{X:Nat->Prop}{s s':Plc}(h:Stuck can cap M X s s')(hr:∀ v,v∈s.r->v<U)(hX:∀ v,X v->v<U)(hg:∀ m v,v∈s.g m->v<U):∀ v,v∈s'.r->v<U:=fun v hv=>by
 by_cases e:v∈s.r
 ·exact hr v e
 ·rcases h.newr v hv e with h1 | ⟨m,-,-,h1⟩
  ·exact hX v h1
  ·exact hg m v h1
theorem Z3l{U:Nat}{r:List Nat}(hn:r.Nodup)(h:∀ v,v∈r->v<U):r.length<=U:=by
 have:=Zhl r (List.range U) hn (fun v hv=>List.mem_range.2 (h v hv))
 rwa [List.length_range] at this
section
variable {can:Nat->Nat->Bool} {cap:Nat->Nat} {rec:Nat->Plc->Bool×Plc} {M k u:Nat} {s s2:Plc}
theorem Zhv(hk:k<M):(List.range M).drop k=k::(List.range M).drop (k+1):=by
 rw[List.drop_eq_getElem_cons (by rw[List.length_range];exact hk),List.getElem_range]
theorem Zo4(hk:k<M)(h:(!can u k||s.t k)=true):Zeq can cap rec u ((List.range M).drop k) s=Zeq can cap rec u ((List.range M).drop (k+1)) s:=by
 rw[Zhv hk]
 conv=>lhs;unfold Zeq Z25
 rw[if_pos h]
theorem Zwx(hk:k<M)(hc:can u k=true)(ht:s.t k=false)(hl:(s.g k).length<cap k):Zeq can cap rec u ((List.range M).drop k) s=(true,⟨Zar s.g k (s.g k++[u]),Zar s.a u (k:Int),Zar s.t k true,s.r⟩):=by
 rw[Zhv hk]
 conv=>lhs;unfold Zeq Z25
 rw[if_neg (by rw[hc,ht];decide),if_pos hl]
def Z0e(can:Nat->Nat->Bool)(cap:Nat->Nat)(rec:Nat->Plc->Bool×Plc)(u M k:Nat):Bool×Plc->Bool×Plc
 | (true,s2)=>(true,s2)
 | (false,s2)=>Zeq can cap rec u ((List.range M).drop (k+1)) s2
theorem Z0f(hk:k<M)(hc:can u k=true)(ht:s.t k=false)(hl:¬ (s.g k).length<cap k):Zeq can cap rec u ((List.range M).drop k) s=Z0e can cap rec u M k (Znl rec k u ((s.g k).drop 0) 0 { s with t:=Zar s.t k true }):=by
 rw[Zhv hk,List.drop_zero]
 conv=>lhs;unfold Zeq Z25
 rw[if_neg (by rw[hc,ht];decide),if_neg hl];show(match (some (Znl rec k u (s.g k) 0 { s with t:=Zar s.t k true }):Option (Bool×Plc)) with | none=>_ | some (true,s2)=>_ | some (false,s2)=>_)=_
 cases Znl rec k u (s.g k) 0 { s with t:=Zar s.t k true } with
 | mk b s2=>cases b<;>rfl
theorem Z2l{l:List Nat}{i o m:Nat}(ho:l[i]?=some o)(hr:rec o s=(true,s2)):Znl rec m u (l.drop i) i s=(true,⟨Zar s2.g m ((s2.g m).set i u),Zar s2.a u (m:Int),s2.t,s2.r⟩):=by
 have hl:=(đg.1 ho).1;rw[List.drop_eq_getElem_cons hl];have:l[i]=o:=(đg.1 ho).2;rw[this];unfold Znl;rw[hr]
theorem Z3m{l:List Nat}{i o m:Nat}(ho:l[i]?=some o)(hr:rec o s=(false,s2)):Znl rec m u (l.drop i) i s=Znl rec m u (l.drop (i+1)) (i+1) s2:=by
 have hl:=(đg.1 ho).1;rw[List.drop_eq_getElem_cons hl];have:l[i]=o:=(đg.1 ho).2;rw[this]
 conv=>lhs;unfold Znl
 rw[hr]
theorem Z2m{l:List Nat}{m:Nat}:Znl rec m u (l.drop l.length) l.length s=(false,s):=by
 rw[List.drop_length];rfl
end
theorem PlcW.addG2 {w0 w wa wb:World} {B:Nat} {b:PlcB} {U M:Nat} {G:Nat->Nat->List Nat} {g:Nat->List Nat} {a:Nat->Int} {t:Nat->Bool} {r:List Nat} {n:Nat} {ad:Nat->Nat->Option Addr} {cp:Nat->Nat->Nat} {ro:Option Addr} {rc x m u gn g5 off5 c5:Nat} {D:DataW Value}
  (h:PlcW w0 w B b U M (Zar G x g) a t r n ad cp ro rc) (hd:PlcD w0.heap.size B b) (hx:x<16) (hm:m<M) (hM:M<=1000000) (hgn:(g m).length=gn) (ho:OwnK wa B 1 (gn+1) c5 (Za0 (g m)++[.int .i64 (u:Int)]) (some ⟨g5,off5,none⟩)) (hg:w.grownBy wa (blk (ad x m))) (hb:Below B w wa) (hor:blk (ad x m)=some g5\/w.heap.size<=g5)
  (hown:wa.ownsMap Tryz.prog 3 Zo3 (b.mb x) n D) (hat:∀ k,k<M->D.atKey (.int .i64 (k:Int)) (.held (.slice none 0 0)) = .held (.slice (ad x k) (Zar G x g x k).length (cp x k))) (hown6:wb.ownsMap Tryz.prog 3 Zo3 (b.mb x) (n+1) (D.put (.int .i64 (m:Int)) (.held (.slice (some ⟨g5,off5,none⟩) (gn+1) c5)))) (hgr:wa.grownBy wb (some (b.mb x))) :
  PlcW w0 wb B b U M (Zar G x (Zar g m (g m++[u]))) a t r (n+1) (Zar ad x (Zar (ad x) m (some ⟨g5,off5,none⟩))) (Zar cp x (Zar (cp x) m c5)) ro rc:=by
 subst hgn
 have key:=h.addG hd hx hm (u:=u) (g5:=g5) (off5:=off5) (c5:=c5) (wa:=wa) (wb:=wb) (by rw[Zag];exact ho) hg hb hor (by
  have:=Zlb.put (f:=fun m=>.slice (ad x m) (Zar G x g x m).length (cp x m)) hown hat hm hM hown6;rw[Zag] at this ⊢
  exact this) (Zc1 hgr)
 rwa [Zag,Zr5] at key
def Zwy(w0 w':World)(B:Nat)(b:PlcB)(U M:Nat)(G:Nat->Nat->List Nat)(x n:Nat)(ad:Nat->Nat->Option Addr)(cp:Nat->Nat->Nat)(st:Nat->Bool)(RES:Bool×Plc)(e:Ending):Prop :=
 ∃ (n':Nat) (ad':Nat->Nat->Option Addr) (cp':Nat->Nat->Nat) (ro':Option Addr) (rc':Nat),e = .returned (.bool RES.1)/\PlcW w0 w' B b U M (Zar G x RES.2.g) RES.2.a RES.2.t RES.2.r n' ad' cp' ro' rc'/\n'<=n+(if RES.1=true then 1 else 0)/\(∀ i m,st m=true->ad' i m=ad i m/\cp' i m=cp i m)
def Znb(w0:World)(B:Nat)(b:PlcB)(T:Tbl)(f:Nat):Prop:=∀ (x u:Nat) (s:Plc) (w:World) (G:Nat->Nat->List Nat) (n:Nat) (ad:Nat->Nat->Option Addr) (cp:Nat->Nat->Nat) (ro:Option Addr) (rc:Nat),
 x<16->T.win u=x->u<T.U->PlcCall T.can (fun m=>T.cap m x) T.M (fun v=>v<T.U/\T.win v=x) u s->Zk4 T.M s<=f->(∀ v,v∈s.r->v<T.U)->n<=100000->PlcW w0 w B b T.U T.M (Zar G x s.g) s.a s.t s.r n ad cp ro rc ->
 Calls Tryz.prog 168 #[.int .i64 u,.pointer (some ⟨b.R,0,none⟩),.pointer (some ⟨b.RB,0,none⟩),.pointer (some ⟨b.T,0,none⟩),.pointer (some ⟨b.GB,0,none⟩),.pointer (some ⟨b.AB,0,none⟩),.pointer (some ⟨b.PB,0,none⟩)] w fun e w'=>Zwy w0 w' B b T.U T.M G x n ad cp s.t (Zfm T.can (fun m=>T.cap m x) T.M f u s) e
theorem Zl8(w0:World)(B:Nat)(b:PlcB)(c:Crw)(H C:List (List Bool))(hd:PlcD w0.heap.size B b)(hr:Zbo w0 b.A c H C)(hok:ReckOk c C)(f:Nat)(IH:∀ f',f=f'+1->Znb w0 B b (Za1 c C) f'):Znb w0 B b (Za1 c C) f:=by
 intro x u s w G n ad cp ro rc hx hwin hu hcall hun hrl hnb hW;obtain⟨qo,mo,uo,ho,co,qc,mc,uc,hc,cc,hA,hR,-⟩:=hr;have hul:u<c.us.length:=hu;obtain⟨xu,hxu⟩:∃ y,c.us[u]?=some y:=⟨_,đb hul⟩;obtain⟨ru,hru⟩:∃ y,C[u]?=some y:=⟨_,đb (by rw[hok.len];exact hul)⟩;have hxw:=hok.win xu (đe hxu)
 have hww:xu.w=(x:Int):=by
  have h1:(c.us.getD u ⟨0,0,0,0⟩).w.toNat=x:=hwin;rw[đf,hxu] at h1;have h1:xu.w.toNat=x:=h1;omega
 have HCAN:Hid (∀ k,(Za1 c C).can u k=ru.getD k false):=ħ (fun k=>by
  show(C.getD u []).getD k false=_
  rw[đf (l:=C),hru];rfl)
 have HRL:Hid (ru.length=c.ms.length):=ħ (hok.row ru (đe hru));have AW:=ħ (fun W (hW:Below w0.heap.size w0 W)=>hA.step hW);unfold Ze0 at AW;obtain⟨gu,ou,huo,hgu,hcu⟩:=hR.u.at Zbj u xu hxu;have hcu1:=hcu 1 _ rfl;rw[hww] at hcu1
 have HUS:Hid (∀ W,Below w0.heap.size w0 W->W.cell? ⟨gu,ou+u*4+1,none⟩=some (.int .i64 (x:Int))):=ħ (fun W hW=>by
  rw[đx (w:=w0) (a:=⟨gu,ou+u*4+1,none⟩) (hW.block gu hgu)];exact hcu1)
 obtain⟨gc,oc,bo,bc,hco,hgc,hrc,hrb⟩:=hR.c.at u ru hru
 have HRC:Hid (∀ W,Below w0.heap.size w0 W->W.cell? ⟨gc,oc+u,none⟩=some (.slice bo ru.length bc)):=ħ (fun W hW=>by
  rw[đx (w:=w0) (a:=⟨gc,oc+u,none⟩) (hW.block gc hgc)];exact hrc)
 have HRB:=ħ (fun W (hW:Below w0.heap.size w0 W)=>hrb.below hW);have HMS:=ħ (fun W (hW:Below w0.heap.size w0 W) k m (hm:c.ms[k]?=some m)=>(hR.m.below hW).at k m hm)
 have HML:Hid (∀ k,k<c.ms.length->∃ m,c.ms[k]?=some m/\(Za1 c C).cap k x=(Zcd m.t x).toNat/\0<=Zcd m.t x/\Zcd m.t x<=4096/\m.t.length<=1000):=ħ (fun k hk=>by
  refine⟨c.ms[k],đb hk,?_,?_⟩
  ·show(Zcd (c.ms.getD k ⟨[],[],0⟩).t x).toNat=_
   rw[đf,đb hk];rfl
  ·have h1:=hok.tic c.ms[k] (List.getElem_mem hk)
   refine⟨?_,?_,h1.2⟩
   ·unfold Zcd
    rw[đf];by_cases h2:x<c.ms[k].t.length
    ·rw[đb h2];exact(h1.1 _ (List.getElem_mem h2)).1
    ·rw[List.getElem?_eq_none (by omega)];exact Int.le_refl _
   ·unfold Zcd
    rw[đf];by_cases h2:x<c.ms[k].t.length
    ·rw[đb h2];exact(h1.1 _ (List.getElem_mem h2)).2
    ·rw[List.getElem?_eq_none (by omega)];show(0:Int)<=4096;omega)
 have hnm:=hok.nm;have hnu:=hok.nu;have HTU:Hid ((Za1 c C).U=c.us.length):=ħ rfl;have HTM:Hid ((Za1 c C).M=c.ms.length):=ħ rfl;have HD:=ħ hd;have HIH:=ħ IH;have HEQ:=ħ (Zu1 (can:=(Za1 c C).can) (cap:=fun m=>(Za1 c C).cap m x) (M:=(Za1 c C).M) f u s);have HPC:=ħ hcall;have HUN:=ħ hun;have HRLT:=ħ hrl;have W0:=ħ hW;have HWV:Hid (∀ m v,v∈s.g m->v<(Za1 c C).U):=ħ (fun m v hv=>(hcall.own m v hv).2.2.1.1)
 have HFW:Hid (∀ m,(s.g m).length<=4096):=ħ (fun m=>by
  by_cases hm:m<c.ms.length
  ·obtain⟨y,-,h2,h3,h4,-⟩:=HML.o m hm
   have:=hcall.few m;simp only[h2] at this;omega
  ·have:s.g m=[]:=List.eq_nil_iff_forall_not_mem.2 (fun v hv=>hm (hcall.own m v hv).1)
   rw[this];exact Nat.zero_le _)
 have HRN:=ħ (Z3l hcall.reach hrl)
 have rlen:s.r.length<=10000:=by have:=HRN.o;rw[HTU.o] at this;omega
 have hncl:u<C.length:=by rw[hok.len];exact hul
 clear hA hR hok IH hcall hun hrl hW hxu hru hd hxw hwin hu hcu hcu1 hgu hgc hrc hrb hww;subst huo;subst hco;generalize hTT:Za1 c C=T at *;clear hTT;generalize hres:Zfm T.can (fun m=>T.cap m x) T.M f u s=RES at *;clear hres;generalize hnq:c.qs.length=nq at *;generalize hnm2:c.ms.length=nm at *;generalize hnu2:c.us.length=nu at *;generalize H.length=nh at *;generalize C.length=nc at *;have HNM:=ħ hnm2;clear hnq hnm2 hnu2;have hTU:=HTU.o;have hTM:=HTM.o;obtain⟨can,hcan⟩:∃ y,T.can=y:=⟨_,rfl⟩;obtain⟨cap,hcap⟩:∃ y,(fun m=>T.cap m x)=y:=⟨_,rfl⟩;have HCP:Hid (∀ m,T.cap m x=cap m):=ħ (fun m=>congrFun hcap m);rw[hcan] at HCAN HEQ HPC;rw[hcap] at HEQ HPC;rw[hTM] at HEQ HPC HUN W0 ⊢;rw[hTU] at W0 HRLT HWV HPC ⊢;have HCC:Hid (T.can=can/\(fun m=>T.cap m x)=cap):=ħ ⟨hcan,hcap⟩;clear hcan hcap hTU hTM HRN;have q0:=W0.o.reach.cell 0 _ rfl;have qf:=W0.o.reach.warm 0
 go_enter Tryz.func168,Tryz.ntmps168
 go_upto_region 2 with(at_builtin;refine Zcn 33 3 (.int .i64 0) 1 8 Tryz.underlying33 Zbl rfl (by omega) (by omega) w B rfl (.tmp 15) (.tmp 17) rfl ro rc s.r.length (Za0 s.r) ?q1 W0.o.rown W0.o.big 1 1 #[.int .i64 (u:Int)] 3 ?q2 rfl (by omega) ?q3 ?q4 ?_;(case q1=>rfl);(case q2=>rfl);(case q3=>simp[Value.oneCell']);(case q4=>omega);intro g5 off5 c5 wa o8 gr8 b8 or8;have W1:=ħ (W0.o.addR HD.o o8 gr8 b8 or8);have q0:=(W0.o.reach.below b8 (HD.o.range b.R (by simp)).2).cell 0 _ rfl;have qf:=(W0.o.reach.below b8 (HD.o.range b.R (by simp)).2).warm 0;clear o8 gr8 b8 or8)
 clear q0 qf;generalize wa.setCell ⟨b.R,0,none⟩ (.slice (some ⟨g5,off5,none⟩) (s.r.length+1) c5)=w1 at *;have rb:=W1.o.rbox.cell 0 _ rfl;have a2:=(AW.o w1 W1.o.below).cell 2 _ rfl;have a4:=(AW.o w1 W1.o.below).cell 4 _ rfl;have su:=HUS.o w1 W1.o.below;have sc:=HRC.o w1 W1.o.below;rw[HRL.o] at sc
 have uu:(u:Int)<nu:=by omega
 have uc':(u:Int)<nc:=by omega
 go_wp2_with fail
 clear rb a2 a4 su sc;have HS0:Hid (∀ m,({ s with r:=s.r++[u] }:Plc).t m=s.t m):=ħ (fun _=>rfl);have HPRE:=ħ (PlcPre.enter HPC.o)
 have HSR:Hid (∀ v,v∈({ s with r:=s.r++[u] }:Plc).r->v<nu):=ħ (fun v hv=>by
  rcases đt.1 hv with h1 | h1
  ·exact HRLT.o v h1
  ·rw[List.mem_singleton.1 h1];exact hul)
 have HSG:Hid (({ s with r:=s.r++[u] }:Plc).g=s.g):=ħ rfl;have HHU:Hid (∀ m,u∈({ s with r:=s.r++[u] }:Plc).g m->({ s with r:=s.r++[u] }:Plc).t m=true):=ħ HPC.o.held;have HU0:Hid (Zk4 nm ({ s with r:=s.r++[u] }:Plc)<=f):=ħ HUN.o;have WIN:Hid (T.win u=x):=ħ HPC.o.win.2;have W1':Hid (PlcW w0 w1 B b nu nm (Zar G x ({ s with r:=s.r++[u] }:Plc).g) ({ s with r:=s.r++[u] }:Plc).a ({ s with r:=s.r++[u] }:Plc).t ({ s with r:=s.r++[u] }:Plc).r n ad cp (some ⟨g5,off5,none⟩) c5):=ħ W1.o;have HEQ':Hid (Zeq can cap (Zup can cap nm f) u ((List.range nm).drop 0) ({ s with r:=s.r++[u] }:Plc)=RES):=ħ (by rw[List.drop_zero,HEQ.o]);generalize ({ s with r:=s.r++[u] }:Plc)=S0 at *;clear W1 HEQ W0
 go_loopw [36] (fun kv wr=>∃ (k:Nat) (sk:Plc) (n2:Nat) (ad':Nat->Nat->Option Addr) (cp':Nat->Nat->Nat) (ro':Option Addr) (rc':Nat),kv = .int .i64 k/\k<=nm/\n2<=n/\Hid (Zeq can cap (Zup can cap nm f) u ((List.range nm).drop k) sk=RES)/\Hid (Stuck can cap nm (fun _=>False) S0 sk)/\Hid (∀ m,m<k->can u m=true->sk.t m=true)/\Hid (PlcW w0 wr B b nu nm (Zar G x sk.g) sk.a sk.t sk.r n2 ad' cp' ro' rc')/\Hid (∀ i m,s.t m=true->ad' i m=ad i m/\cp' i m=cp i m)) (fun k _=>(nm-intOf k).toNat)
 case atStart=>exact⟨0,S0,n,ad,cp,_,_,rfl,by omega,đd _,HEQ',ħ (Stuck.refl _ HPRE.o.reach),ħ (fun m hm=>absurd hm (đu m)),W1',ħ (fun i m _=>⟨rfl,rfl⟩)⟩
 case round =>
  clear W1' HEQ';obtain⟨k,sk,n2,ad',cp',ro',rc',rfl,hk,hn2,HE,HST,HDN,W2,HAD⟩:=hrel;have e2:IntKind.i64.wrap ((k:Int)+1)=((k+1:Nat):Int):=đh _ (by omega);by_cases hkn:k<nm
  ·have kk:(k:Int)<nm:=by omega
   obtain⟨gb,ob,hbo,hbc⟩:=(HRB.o wr W2.o.below).bool k (by rw[HRL.o];exact hkn);have HBO:=ħ hbo;subst hbo;have HCK:=HCAN.o k;obtain⟨bk,hbk⟩:∃ y,ru.getD k false=y:=⟨_,rfl⟩;rw[hbk] at hbc HCK;have HCU:=ħ HCK;clear HCK hbk;have tb:=W2.o.tbox.cell 0 _ rfl;have tv:=W2.o.tv.cell k _ (Zem (by simp;exact hkn));have HTV:Hid (((List.range nm).map sk.t).getD k false=sk.t k):=ħ (by rw[đf,đj,List.getElem?_range hkn];rfl);rw[HTV.o] at tv;obtain⟨tk,htk⟩:∃ y,sk.t k=y:=⟨_,rfl⟩;rw[htk] at tv;have HTK:=ħ htk;clear htk HTV
   cases bk with
   | false =>
    go_wp2_with fail
    clear tb tv hbc;go_roundw
    case rel=>exact⟨k+1,sk,n2,ad',cp',ro',rc',by go_num,by omega,hn2,ħ (by rw[<- HE.o,Zo4 hkn (by rw[HCU.o];rfl)]),HST,ħ (fun m hm hc=>by
     rcases đw m k with h | h
     ·exact HDN.o m h hc
     ·obtain rfl:m=k:=by omega
      rw[HCU.o] at hc;cases hc),W2,HAD⟩
    case measure=>simp only[intOf];omega
   | true =>
    cases tk with
    | true =>
     go_wp2_with fail
     clear tb tv hbc;go_roundw
     case rel=>exact⟨k+1,sk,n2,ad',cp',ro',rc',by go_num,by omega,hn2,ħ (by rw[<- HE.o,Zo4 hkn (by rw[HTK.o,Bool.or_true])]),HST,ħ (fun m hm hc=>by
      rcases đw m k with h | h
      ·exact HDN.o m h hc
      ·obtain rfl:m=k:=by omega
       exact HTK.o),W2,HAD⟩
     case measure=>simp only[intOf];omega
    | false =>
     have tf:=W2.o.tv.warm k
     go_upto_region 8 with(fail)
     clear tb tv tf hbc;have W3:=ħ (W2.o.setT HD.o k);generalize wr.setCell ⟨b.TV,k,none⟩ (.bool true)=w3 at *;clear W2;have gb0:=W3.o.gbox.cell 0 _ rfl;have gv0:=W3.o.gv.cell x (.map (some (b.mb x))) (by rw[đj,List.getElem?_range hx];rfl)
     have xx:(x:Int)<16:=by omega
     have HLK:=ħ ((W3.o.maps x hx).look hkn (by omega));rw[Zag] at HLK;have hlk:=HLK.o;obtain⟨m,hmk,hcm,ht0,ht1,htl⟩:=HML.o k hkn;rw[HCP.o] at hcm;obtain⟨gm,om,cs,hmo,hgm,hmc,hrd⟩:=HMS.o w3 W3.o.below k m hmk;have HMC:=ħ hmc;obtain⟨mbo,mbc,mto,mtc,rfl,-,-⟩:=hmc;have s0:=hrd 0 _ rfl;have s1:=hrd 1 _ rfl;have s2:=hrd 2 _ rfl;rw[Nat.add_zero] at s0;have a1:=(AW.o w3 W3.o.below).cell 1 _ rfl;have rb:=W3.o.rbox.cell 0 _ rfl;have HMO:=ħ hmo;have HTI:=ħ (Zgh w3 m _ HMC.o x (by omega) (by omega));have hgl:=HFW.o k;have HGK:Hid (sk.g=s.g):=ħ (HST.o.g.trans HSG.o);rw[<- HGK.o] at hgl;generalize Zcd m.t x=tx at *;generalize m.b.length=nb at *;generalize m.t.length=nt at *;generalize m.r=mr at *;clear hrd hgm hmk;subst hmo;obtain⟨gn,hgn⟩:∃ y,(sk.g k).length=y:=⟨_,rfl⟩;have HGN:=ħ hgn;rw[hgn] at hlk hgl;clear hgn
     go_wp2_with fail
     refine HTI.o.mono ?_;rintro e w4 ⟨rfl,b4⟩;have W4:=ħ (W3.o.step b4);clear gb0 gv0 hlk s0 s1 s2 a1 rb b4 W3 HLK HTI HMC HMO;by_cases hl:(gn:Int)<tx
     ·have HRS:Hid (RES=(true,⟨Zar sk.g k (sk.g k++[u]),Zar sk.a u (k:Int),Zar sk.t k true,sk.r⟩)):=ħ (by
       rw[<- HE.o]
       exact Zwx hkn HCU.o HTK.o (by rw[hcm,HGN.o];omega))
      go_upto_region 10 with(fail)
      refine Za8 [0,1,2,3,4,5,6] [7,8,9] (fun w'=>Zae w' b.GB 187 [.slice (some ⟨b.GV,0,none⟩) 16 16]/\Zae w' b.GV 188 ((List.range 16).map (fun i=>Value.map (some (b.mb i))))) (by kernel_rfl) (by kernel_rfl) (by kernel_rfl) (fun _ _ d _ _ h=>by cases d<;>exact h) ⟨W4.o.gbox.step (đc _ _).drew,W4.o.gv.step (đc _ _).drew⟩ ?_;simp only[Zb6,List.filterMap_cons,List.filterMap_nil,List.getElem?_cons_zero,List.getElem?_cons_succ,Option.map_some,List.map_cons,List.map_nil];apply Exists.intro;refine⟨?hh,?ht⟩
      case hh =>
       intro w' hw';have c0:=hw'.1.cell 0 _ rfl;have c1:=hw'.2.cell x (.map (some (b.mb x))) (by rw[đj,List.getElem?_range hx];rfl);clear hw'
       repeat still_step
       exact wpStill_nil rfl
      case ht =>
       have BD:=(đc w4.heap.size w4).drew;have W5:=ħ (W4.o.step BD);clear BD W4;generalize w4.drew=wd at *;refine Zah ?_
       go_wp2_with fail
       have bz:=(đc wd.heap.size wd).alloc (đd _) (.cells #[.int .i64 (u:Int)] 3);refine Zaa ⟨⟨W5.o.gbox.step bz,W5.o.gv.step bz⟩,?_⟩;clear bz;refine Zah ?_;have HOW:Hid (OwnK wd B 1 gn (cp' x k) (Za0 (sk.g k)) (ad' x k)):=ħ (by have:=W5.o.own x k hx hkn;rwa [Zag,HGN.o] at this);obtain⟨D,hown,hat⟩:=W5.o.maps x hx;have HOM:=ħ hown;have HAT:=ħ hat;clear hown hat
       go_wp2_with (at_builtin;refine Zcn 33 3 (.int .i64 0) 1 8 Tryz.underlying33 Zbl rfl (by omega) (by omega) wd B rfl (.tmp 76) (.tmp 78) rfl (ad' x k) (cp' x k) gn (Za0 (sk.g k)) ?q1 HOW.o W5.o.big 1 1 #[.int .i64 (u:Int)] 3 ?q2 rfl (by omega) ?q3 ?q4 ?_;(case q1=>rfl);(case q2=>rfl);(case q3=>simp[Value.oneCell']);(case q4=>omega);intro g6 off6 c6 wa2 o8 gr8 b8 or8;have O8:=ħ o8;have G8:=ħ gr8;have B8:=ħ b8;have R8:=ħ or8;clear o8 gr8 b8 or8)
       have HOM2:Hid (wa2.ownsMap Tryz.prog 3 Zo3 (b.mb x) n2 D):=ħ (by
        obtain⟨es,clock,h1,h2⟩:=HOM.o
        exact⟨es,clock,(B8.o.block _ (HD.o.mbr x hx).2).trans h1,h2⟩)
       refine Zaa ⟨⟨W5.o.gbox.below B8.o (HD.o.range b.GB (by simp)).2,W5.o.gv.below B8.o (HD.o.range b.GV (by simp)).2⟩,?_⟩;refine Zbu ?_
       go_wp2_with (at_mapUpdate;refine wpList_mapUpdate_own _ rfl (.tmp 74) (.tmp 75) (.tmp 79) 188 rfl 3 33 Zwv Tryz.underlying188 Zo3 (b.mb x) n2 D rfl HOM2.o (by simp only[maxLen];omega) (.int .i64 (k:Int)) (.slice (some ⟨g6,off6,none⟩) (gn+1) c6) (.int .i64 (k:Int)) rfl rfl (Zqc (by omega)) (.held (.slice (some ⟨g6,off6,none⟩) (gn+1) c6)) [] rfl ?_;intro w6 hown6 hgrow6;have W6:=ħ (W5.o.addG2 HD.o hx hkn (by omega) HGN.o O8.o G8.o B8.o R8.o HOM2.o HAT.o hown6 hgrow6);clear hown6 hgrow6;have ab:=W6.o.abox.cell 0 _ rfl;have av:=W6.o.av.cell u (.int .i64 (sk.a u)) (by unfold ivs;rw[đj,đj,List.getElem?_range hul];rfl);have af:=W6.o.av.warm u)
       have W7:=ħ (W6.o.setA HD.o u (k:Int));clear ab av af W6;go_ret;rw[HRS.o]
       exact⟨n2+1,_,_,_,_,rfl,W7.o,Nat.add_le_add_right hn2 1,fun i m' hm'=>by
        have hne:m'≠k:=fun e=>by
         subst e;have h1:=HST.o.more m' (by rw[HS0.o];exact hm');rw[HTK.o] at h1;cases h1
        by_cases e:i=x
        ·subst e
         rw[Zag,Zag,Zaf _ _ _ hne,Zaf _ _ _ hne];exact HAD.o i m' hm'
        ·rw[Zaf _ _ _ e,Zaf _ _ _ e]
         exact HAD.o i m' hm'⟩
     ·have HRO:Hid (Z0e can cap (Zup can cap nm f) u nm k (Znl (Zup can cap nm f) k u ((sk.g k).drop 0) 0 { sk with t:=Zar sk.t k true })=RES):=ħ (by
       rw[<- HE.o]
       exact(Z0f hkn HCU.o HTK.o (by rw[hcm,HGN.o];omega)).symm)
      have HLC:Hid (¬ (sk.g k).length<cap k):=ħ (by rw[hcm,HGN.o];omega);have HPK:Hid (PlcPre can cap nm (fun v=>v<nu/\T.win v=x) sk):=ħ (HPRE.o.after HST.o (fun v hv=>hv.elim));have HUK:Hid (Zk4 nm sk<=f):=ħ (đo (Zuy HST.o.more) HU0.o);have HKR:Hid (∀ v,v∈sk.r->v<nu):=ħ (Zr6 HST.o HSR.o (fun v hv=>hv.elim) (fun m v hv=>by rw[HSG.o] at hv;exact HWV.o m v hv));have HSM:Hid (∀ m,s.t m=true->sk.t m=true):=ħ (fun m hm=>HST.o.more m (by rw[HS0.o];exact hm));obtain⟨ax,hax⟩:∃ y,ad' x k=y:=⟨_,rfl⟩;obtain⟨cx,hcx⟩:∃ y,cp' x k=y:=⟨_,rfl⟩;have HAX:=ħ hax;have HCX:=ħ hcx;rw[hax,hcx];clear hax hcx
      go_wp2_with fail
      have hgl2:=hgl
      go_loopw [86] (fun iv wq=>∃ (i:Nat) (sj:Plc) (n3:Nat) (ad2:Nat->Nat->Option Addr) (cp2:Nat->Nat->Nat) (ro2:Option Addr) (rc2:Nat),iv = .int .i64 i/\i<=gn/\n3<=n/\Hid (Z0e can cap (Zup can cap nm f) u nm k (Znl (Zup can cap nm f) k u ((sk.g k).drop i) i sj)=RES)/\Hid (Stuck can cap nm (fun v=>v∈(sk.g k).take i) { sk with t:=Zar sk.t k true } sj)/\Hid (∀ v,v∈(sk.g k).take i->v∈sj.r)/\Hid (PlcW w0 wq B b nu nm (Zar G x sj.g) sj.a sj.t sj.r n3 ad2 cp2 ro2 rc2)/\Hid (∀ i m,s.t m=true\/m=k->ad2 i m=ad' i m/\cp2 i m=cp' i m)) (fun i _=>(gn-intOf i).toNat)
      case atStart=>exact⟨0,{ sk with t:=Zar sk.t k true },n2,ad',cp',ro',rc',rfl,by omega,hn2,HRO,ħ (Stuck.refl _ HPK.o.reach),ħ (fun v hv=>by simp at hv),W4,ħ (fun i m _=>⟨rfl,rfl⟩)⟩
      case round =>
       clear W4 HRO;obtain⟨i,sj,n3,ad2,cp2,ro2,rc2,rfl,hi,hn3,HO,HSJ,HIN,W5,HA2⟩:=hrel;have e3:IntKind.i64.wrap ((i:Int)+1)=((i+1:Nat):Int):=đh _ (by omega);by_cases hin:i<gn
       ·have ii:(i:Int)<gn:=by omega
        obtain⟨o,ho⟩:∃ o,(sk.g k)[i]?=some o:=⟨_,đb (by rw[HGN.o];exact hin)⟩;obtain⟨hcall,hunt,hgj,haj,htj⟩:=Zy3 HPK.o hkn HTK.o HSJ.o ho;have HCL:=ħ hcall;have HGJ:=ħ hgj;have HTJ:=ħ htj;have HO2:=ħ ho;obtain⟨f',hf'⟩:∃ f',f=f'+1:=⟨f-1,by have:=HUK.o;omega⟩;have HF':=ħ hf';have HUJ:Hid (Zk4 nm sj<=f'):=ħ (by have:=HUK.o;omega);have HJR:Hid (∀ v,v∈sj.r->v<nu):=ħ (Zr6 HSJ.o HKR.o (fun v hv=>(HPK.o.own k v (List.mem_of_mem_take hv)).2.2.1.1) (fun m v hv=>(HPK.o.own m v hv).2.2.1.1))
        have HSP:Hid (Calls Tryz.prog 168 #[.int .i64 o,.pointer (some ⟨b.R,0,none⟩),.pointer (some ⟨b.RB,0,none⟩),.pointer (some ⟨b.T,0,none⟩),.pointer (some ⟨b.GB,0,none⟩),.pointer (some ⟨b.AB,0,none⟩),.pointer (some ⟨b.PB,0,none⟩)] wr fun e w'=>Zwy w0 w' B b nu nm G x n3 ad2 cp2 sj.t (Zfm can cap nm f' o sj) e):=ħ (by
         have key:=HIH.o f' hf' x o sj wr G n3 ad2 cp2 ro2 rc2 hx;rw[HCC.o.1,HCC.o.2,HTM.o,HTU.o] at key
         exact key hcall.win.2 hcall.win.1 hcall HUJ.o HJR.o (by omega) W5.o)
        have HPO:Hid (Zgb can cap nm (fun v=>v<nu/\T.win v=x) o sj (Zfm can cap nm f' o sj)):=ħ (Zmo f' o sj hcall HUJ.o);have HRF:Hid (Zup can cap nm f o sj=Zfm can cap nm f' o sj):=ħ (by rw[hf'];rfl);clear hcall hunt hgj haj htj ho hf';have hown:=W5.o.own x k hx hkn;rw[Zag,HGJ.o,HGN.o,(HA2.o x k (.inr rfl)).1,(HA2.o x k (.inr rfl)).2,HAX.o,HCX.o] at hown
        obtain⟨go,oo,hao,hoc⟩:∃ go oo,ax=some ⟨go,oo,none⟩/\wr.cell? ⟨go,oo+i,none⟩=some (.int .i64 (o:Int)):=by
         cases ax with
         | none=>cases hown with | nil h1 h2 h3=>omega
         | some a =>
          cases hown with
          | «at» g off h1 h2 h3 h4 =>
           refine⟨g,off,rfl,h1.cells i _ ?_⟩;unfold Za0;rw[đj,HO2.o];rfl
        have HAO:=ħ hao;clear hown;subst hao;have pb:=W5.o.pbox.cell 0 _ rfl;unfold PlcB.ptrs at pb
        go_wp2_with fail
        refine HSP.o.mono ?_;intro e w6 hq;clear hoc pb;obtain⟨n4,ad3,cp3,ro3,rc3,rfl,W6,hn4,had3⟩:=hq;have W6:=ħ W6;have HA3:=ħ had3;clear had3 HSP;generalize Zfm can cap nm f' o sj=R3 at *;obtain⟨b3,s3⟩:=R3
        have HA3':Hid (∀ i' m,s.t m=true\/m=k->ad3 i' m=ad' i' m/\cp3 i' m=cp' i' m):=ħ (fun i' m hm=>by
         have h1:sj.t m=true:=by
          rcases hm with hm | hm
          ·exact HSJ.o.more m (Zd0 sk k m (HSM.o m hm))
          ·rw[hm];exact HTJ.o
         exact⟨(HA3.o i' m h1).1.trans (HA2.o i' m hm).1,(HA3.o i' m h1).2.trans (HA2.o i' m hm).2⟩)
        clear HA3 HA2
        cases b3 with
        | false =>
         have hn4:n4<=n3:=by simpa using hn4
         obtain⟨hs3,hm3⟩:Stuck can cap nm (· = o) sj s3/\o∈s3.r:=HPO.o;have HS3:=ħ hs3;have HM3:=ħ hm3;clear hs3 hm3 HPO;have W6':Hid (PlcW w0 w6 B b nu nm (Zar G x s3.g) s3.a s3.t s3.r n4 ad3 cp3 ro3 rc3):=ħ W6.o;clear W6
         have HO3:Hid (Z0e can cap (Zup can cap nm f) u nm k (Znl (Zup can cap nm f) k u ((sk.g k).drop (i+1)) (i+1) s3)=RES):=ħ (by
          have:=HO.o
          rwa [Z3m HO2.o HRF.o] at this)
         have HI3:Hid (∀ v,v∈(sk.g k).take (i+1)->v∈s3.r):=ħ (fun v hv=>by
          rw[đv,HO2.o] at hv;rcases đt.1 hv with h1 | h1
          ·exact HS3.o.old.subset (HIN.o v h1)
          ·have h2:v=o:=by simpa using h1
           rw[h2];exact HM3.o)
         have HJ3:=ħ (Zy4 HSJ.o HO2.o HS3.o)
         go_wp2_with fail
         go_roundw
         case rel=>exact⟨i+1,s3,n4,ad3,cp3,ro3,rc3,by go_num,by omega,by omega,HO3,HJ3,HI3,W6',HA3'⟩
         case measure=>simp only[intOf];omega
        | true =>
         have hn4:n4<=n3+1:=by simpa using hn4
         have HGV:Hid (Gave can cap nm (fun v=>v<nu/\T.win v=x) o sj s3):=ħ HPO.o;have W6':Hid (PlcW w0 w6 B b nu nm (Zar G x s3.g) s3.a s3.t s3.r n4 ad3 cp3 ro3 rc3):=ħ W6.o;clear W6 HPO
         have HRS:Hid (RES=(true,⟨Zar s3.g k ((s3.g k).set i u),Zar s3.a u (k:Int),s3.t,s3.r⟩)):=ħ (by
          rw[<- HO.o,Z2l HO2.o HRF.o];rfl)
         have HG3:Hid (s3.g k=sk.g k):=ħ (by rw[HGV.o.kept k HTJ.o,HGJ.o])
         have had3:ad3 x k=some ⟨go,oo,none⟩:=by rw[(HA3'.o x k (.inr rfl)).1,HAX.o]
         have hcp3:cp3 x k=cx:=by rw[(HA3'.o x k (.inr rfl)).2,HCX.o]
         have HAD3:=ħ had3;have hown:=W6'.o.own x k hx hkn;rw[Zag,HG3.o,HGN.o,had3,hcp3] at hown;obtain⟨⟨v0,t0⟩,tf,-,-⟩:=hown.setW i (by rw[Zi0,HGN.o];exact hin);have hlk:=((W6'.o.maps x hx).look hkn (by omega));rw[Zag,HG3.o,HGN.o,had3,hcp3] at hlk;clear hown had3 hcp3;have gb0:=W6'.o.gbox.cell 0 _ rfl;have gv0:=W6'.o.gv.cell x (.map (some (b.mb x))) (by rw[đj,List.getElem?_range hx];rfl)
         have xx:(x:Int)<16:=by omega
         go_upto_region 18 with(fail)
         clear gb0 gv0 hlk t0 tf;have W7:=ħ (W6'.o.setG HD.o x k i u go oo hx hkn (by rw[Zag,HG3.o,HGN.o];exact hin) HAD3.o);rw[Zag,Zr5] at W7;generalize w6.setCell ⟨go,oo+i,none⟩ (.int .i64 (u:Int))=w7 at *;clear W6';have ab:=W7.o.abox.cell 0 _ rfl;have av:=W7.o.av.cell u (.int .i64 (s3.a u)) (by unfold ivs;rw[đj,đj,List.getElem?_range hul];rfl);have af:=W7.o.av.warm u;have W8:=ħ (W7.o.setA HD.o u (k:Int))
         go_wp2_with fail
         clear ab av af W7;go_ret;rw[HRS.o];exact⟨n4,ad3,cp3,ro3,rc3,rfl,W8.o,by simp only[if_pos];omega,fun i' m hm=>⟨(HA3'.o i' m (.inl hm)).1.trans (HAD.o i' m hm).1,(HA3'.o i' m (.inl hm)).2.trans (HAD.o i' m hm).2⟩⟩
       ·have ii:¬ ((i:Int)<gn):=by omega
        obtain rfl:gn=i:=by omega
        have HEN:Hid (Zeq can cap (Zup can cap nm f) u ((List.range nm).drop (k+1)) sj=RES):=ħ (by
         have h1:=HO.o
         have h2:Znl (Zup can cap nm f) k u ((sk.g k).drop gn) gn sj=(false,sj):=by rw[<- HGN.o];exact Z2m
         rw[h2] at h1
         exact h1)
        have HTA:Hid ((sk.g k).take gn=sk.g k):=ħ (List.take_of_length_le (by rw[HGN.o];exact đd _));have HSF:Hid (Stuck can cap nm (fun _=>False) S0 sj):=ħ (Zy5 HST.o hkn HTK.o HLC.o (by have:=HSJ.o;rwa [HTA.o] at this) (by have:=HIN.o;rwa [HTA.o] at this))
        go_wp2_with fail
        go_roundw
        case rel=>exact⟨k+1,sj,n3,ad2,cp2,ro2,rc2,by go_num,by omega,hn3,HEN,HSF,ħ (fun m hm hc=>by
         rcases đw m k with h | h
         ·exact HSJ.o.more m (Zd0 sk k m (HDN.o m h hc))
         ·obtain rfl:m=k:=by omega
          exact HSJ.o.more m (Zag _ _ _)),W5,ħ (fun i m hm=>⟨(HA2.o i m (.inl hm)).1.trans (HAD.o i m hm).1,(HA2.o i m (.inl hm)).2.trans (HAD.o i m hm).2⟩)⟩
        case measure=>simp only[intOf];omega
  ·have kk:¬ ((k:Int)<nm):=by omega
   obtain rfl:nm=k:=by omega
   have HRS:Hid (RES=(false,sk)):=ħ (by
    rw[<- HE.o,List.drop_of_length_le (by simp)];rfl)
   go_wp2_with fail
   go_ret;rw[HRS.o];exact⟨n2,ad',cp',ro',rc',rfl,W2.o,hn2,HAD.o⟩
theorem Zwz(w0:World)(B:Nat)(b:PlcB)(c:Crw)(H C:List (List Bool))(hd:PlcD w0.heap.size B b)(hr:Zbo w0 b.A c H C)(hok:ReckOk c C):∀ f:Nat,Znb w0 B b (Za1 c C) f:=by
 intro f
 induction f with
 | zero=>exact Zl8 w0 B b c H C hd hr hok 0 (fun f' h=>by omega)
 | succ f ih =>
  refine Zl8 w0 B b c H C hd hr hok (f+1) (fun f' h=>?_)
  have e:f'=f:=by omega
  rw[e];exact ih
end
section
open Go.RowKit Go.Sort Go.Maps
theorem Zqd(w:World)(x:Int)(g o c:Nat)(hg:w.cell? ⟨g,o,none⟩=some (.int .i64 x))(hgl:g<w.heap.size) :
  Calls Tryz.prog 167 #[.slice (some ⟨g,o,none⟩) 1 c,.int .i64 0] w fun e w'=>(∃ L,e = .returned (.slice (some ⟨L,0,none⟩) 0 0)/\Zae w' L 3 (ivs (List.replicate 0 x))/\w.heap.size<=L)/\Below w.heap.size w w':=by
 have HM:=ħ (Tryz.bits_Mul 1 0 (by omega) (by omega) w)
 have eq1:(((1*0/18446744073709551616:Nat)):Int)=0:=by omega
 rw[eq1] at HM;have ew:IntKind.u64.wrap (0:Int)=0:=IntWalk.u64_in _ (by omega);have ew2:IntKind.i64.wrap (0:Int)=0:=đh _ (by omega);have hmk:=run_make_row' (P:=Tryz.prog) 33 3 (.int .i64 0) 8 Tryz.underlying33 Zbl rfl .i64 .i64 0 (by omega) (by omega);rw[Zov] at hmk
 have hmk:∀ w,(Instr.makeSlice 33 (.int .i64 (0:Int)) (.int .i64 (0:Int))).run Tryz.prog w = .ok (.slice (some ⟨w.heap.size,0,none⟩) 0 0) (w.alloc (.cells (ivs (List.replicate 0 0)).toArray 3)):=fun w=>by
  have:=hmk w
  rwa [Int.natCast_zero] at this
 clear eq1
 go_enter Tryz.func167,Tryz.ntmps167
 go_wp2_with fail
 refine HM.o.mono ?_;rintro e w' ⟨rfl,hw'⟩;subst w';clear HM
 go_upto_region 7 with(fail)
 clear hmk ew ew2;have bx:=(đc w.heap.size w).alloc (đd _) (.cells (ivs []).toArray 3);have V2:Hid (Zae (w.alloc (.cells (ivs []).toArray 3)) w.heap.size 3 (ivs [])):=ħ (heap_alloc_new _ _);have B2:=ħ bx;clear bx;generalize w.alloc (.cells (ivs []).toArray 3)=w2 at *
 go_wp2_with (refine wpList_copy_splice rfl (.tmp 31) (.tmp 32) 33 33 rfl 3 Tryz.underlying33 (by kernel_rfl) (some ⟨w.heap.size,0,none⟩) (some ⟨g,o,none⟩) 0 0 1 c rfl rfl w.heap.size 0 (ivs []) 3 V2.o [] rfl (fun h=>absurd h (Nat.lt_irrefl 0)) (đd _) (by simp) w.heap.size w B2.o (đd _) ?_;intro w3 hg3 hb3)
 have V3:Hid (Zae w3 w.heap.size 3 (ivs (List.replicate 0 x))):=ħ hg3.o;have B3:=ħ hb3;clear hg3 hb3 V2 B2
 go_wp2_with fail
 go_loopw [8] (fun s wr=>s = .int .i64 (0:Int)/\wr=w3) (fun s _=>0)
 case atStart=>exact⟨rfl,rfl⟩
 case round =>
  obtain⟨rfl,rfl⟩:=hrel
  go_wp2
  go_ret;exact⟨⟨_,rfl,V3.o,đd _⟩,B3.o⟩
theorem Zae.setCells{g:Nat}{t:TypeId}:∀ (vs xs ys:List Value) (w:World),ys.length=vs.length->Zae w g t (xs++ys)->Zae (w.setCells g xs.length vs) g t (xs++vs)
 | [],xs,ys,w,hl,h=>by
  have:ys=[]:=List.length_eq_zero_iff.1 hl;subst this;exact h
 | v::vs,xs,[],w,hl,h=>by simp at hl
 | v::vs,xs,y::ys,w,hl,h=>by
  have h1:=h.set xs.length v
  have e:(xs++y::ys).set xs.length v=(xs++[v])++ys:=by
   simp
  rw[e] at h1;have h2:=Zae.setCells vs (xs++[v]) ys _ (by simpa using hl) h1;rw[đn] at h2
  have e2:xs++v::vs=(xs++[v])++vs:=by simp
  rw[e2];exact h2
theorem Z2n{α:Type}(f:Nat->α)(k:Nat):Zar f k (f k)=f:=by
 funext i
 by_cases e:i=k
 ·subst e;rw[Zag]
 ·rw[Zaf _ _ _ e]
theorem PlcW.clearT {w0 w:World} {B:Nat} {b:PlcB} {U M:Nat} {G:Nat->Nat->List Nat} {a:Nat->Int} {t:Nat->Bool} {r:List Nat} {n:Nat} {ad:Nat->Nat->Option Addr} {cp:Nat->Nat->Nat} {ro:Option Addr} {rc:Nat}
  (h:PlcW w0 w B b U M G a t r n ad cp ro rc) (hd:PlcD w0.heap.size B b):PlcW w0 (w.setCells b.TV 0 (bvs (List.replicate M false))) B b U M G a (fun _=>false) r n ad cp ro rc:=by
 have on:=Only.setCells_at w b.TV 0 (bvs (List.replicate M false));have hr:=hd.range b.TV (by simp);refine⟨h.reach.only on (hd.tv _ (by simp)),h.rown.of_block (fun g e hl=>on.block g hl (fun e2=>by have:=(h.rown.blk_lt e).1;omega)) on.size,h.rbox.only on (hd.tv _ (by simp)),h.tbox.only on (hd.tv _ (by simp)),?_,h.gbox.only on (hd.tv _ (by simp)),h.gv.only on (hd.tv _ (by simp)),fun i hi=>(h.maps i hi).of_block (on.block _ (h.maps i hi).lt (fun e=>hd.mb i hi b.TV (by simp) e.symm)),fun i m hi hm=>(h.own i m hi hm).of_block (fun g e hl=>on.block g hl (fun e2=>by have:=((h.own i m hi hm).blk_lt e).1;omega)) on.size,h.sep,h.rsep,h.abox.only on (hd.tv _ (by simp)),h.av.only on (hd.tv _ (by simp)),h.pbox.only on (hd.tv _ (by simp)),Only.later h.below on (fun g hg=>by omega),đo h.big on.size⟩
 have e1:(List.range M).map (fun _:Nat=>false)=List.replicate M false:=by
  rw[List.map_const',List.length_range]
 have:=Zae.setCells (bvs (List.replicate M false)) [] _ w (by simp[bvs]) h.tv;rw[e1];exact this
theorem PlcW.clearR {w0 w:World} {B:Nat} {b:PlcB} {U M:Nat} {G:Nat->Nat->List Nat} {a:Nat->Int} {t:Nat->Bool} {r:List Nat} {n:Nat} {ad:Nat->Nat->Option Addr} {cp:Nat->Nat->Nat} {ro:Option Addr} {rc:Nat}
  (h:PlcW w0 w B b U M G a t r n ad cp ro rc) (hd:PlcD w0.heap.size B b):PlcW w0 (w.setCell ⟨b.R,0,none⟩ (.slice none 0 0)) B b U M G a t [] n ad cp none 0:=by
 have on:=(Only.refl w (· = b.R)).setCell (a:=⟨b.R,0,none⟩) (.slice none 0 0) rfl;have hr:=hd.range b.R (by simp);exact⟨h.reach.set 0 _,.nil rfl rfl rfl,h.rbox.only on (hd.r _ (by simp)),h.tbox.only on (hd.r _ (by simp)),h.tv.only on (hd.r _ (by simp)),h.gbox.only on (hd.r _ (by simp)),h.gv.only on (hd.r _ (by simp)),fun i hi=>(h.maps i hi).of_block (on.block _ (h.maps i hi).lt (fun e=>hd.mb i hi b.R (by simp) e.symm)),fun i m hi hm=>(h.own i m hi hm).of_block (fun g e hl=>on.block g hl (fun e2=>by have:=((h.own i m hi hm).blk_lt e).1;omega)) on.size,h.sep,fun i m hi hm g e e2=>(by cases e2),h.abox.only on (hd.r _ (by simp)),h.av.only on (hd.r _ (by simp)),h.pbox.only on (hd.r _ (by simp)),Only.later h.below on (fun g hg=>by omega),by rw[World.size_setCell];exact h.big⟩
theorem Zqe(w:World)(ty:TypeId)(g M c:Nat)(vs:List Value)(hv:Zae w g 4 vs)(hl:vs.length=M):(Builtin.clear_ #[87] ty #[.slice (some ⟨g,0,none⟩) M c]).run Tryz.prog w = .ok (.tuple #[]) (w.setCells g 0 (bvs (List.replicate M false))):=by
 by_cases h0:M=0
 ·subst h0
  simp[Builtin.clear_,run_underlying Tryz.underlying87,bvs];rfl
 ·have:=Lib.run_clear_slice (P:=Tryz.prog) w 87 4 ty (.bool false) Tryz.underlying87 Tryz.zeroValue4 rfl rfl g 0 M c (by omega) (fun j hj=>by rw[Nat.zero_add,hv.cell j (vs[j]'(by omega)) (đb _)];rfl) (fun j hj=>by rw[Nat.zero_add];exact hv.warm j)
  rw[this];unfold bvs;rw[List.map_replicate]
end
section
open Go.RowKit Go.Sort Go.Maps
def Zr7(w w':World)(T:Tbl)(e:Ending):Prop:=Below w.heap.size w w' /\
 match Zdz T T.U 0 Zpp with
 | .ok s=>∃ AV,e = .returned (.tuple #[.slice (some ⟨AV,0,none⟩) T.U T.U,.slice none 0 0])/\Zae w' AV 3 (ivs ((List.range T.U).map s.a))/\w.heap.size<=AV
 | .error r=>∃ g off cap,e = .returned (.tuple #[.slice none 0 0,.slice (some ⟨g,off,none⟩) r.length cap])/\OwnK w' w.heap.size 1 r.length cap (((r.map Int.ofNat).mergeSort leI).flatMap Zbg) (some ⟨g,off,none⟩)
def Zw0:List Value:=List.replicate 16 (Value.map none)
theorem Zw1(w:World):(Instr.makeSlice 187 (.int .i64 16) (.int .i64 16)).run Tryz.prog w = .ok (.slice (some ⟨w.heap.size,0,none⟩) 16 16) (w.alloc (.cells Zw0.toArray 188)):=by
 have h:=run_make_row' (P:=Tryz.prog) 187 188 (.map none) 8 Tryz.underlying187 (by kernel_rfl) rfl .i64 .i64 16 (by omega) (by omega) w
 have e:madeCells #[Value.map none] 16=Zw0.toArray:=by
  unfold Zw0;apply Array.ext
  ·simp[madeCells]
  ·intro i h1 h2
   simp only[List.getElem_toArray,List.getElem_replicate];simp[madeCells,Nat.mod_one]
 rw[e] at h;exact h
theorem Zto(w:World)(x:Int)(g o c N:Nat)(hg:w.cell? ⟨g,o,none⟩=some (.int .i64 x))(hgl:g<w.heap.size)(hN2:N<=1000) :
  Calls Tryz.prog 167 #[.slice (some ⟨g,o,none⟩) 1 c,.int .i64 (N:Int)] w fun e w'=>(∃ L,e = .returned (.slice (some ⟨L,0,none⟩) N N)/\Zae w' L 3 (ivs (List.replicate N x))/\w.heap.size<=L)/\Below w.heap.size w w':=by
 cases N with
 | zero=>exact Zqd w x g o c hg hgl
 | succ N=>exact Ztl w x g o c (N+1) hg hgl (by omega) hN2
theorem OwnK.low{w:World}{B B' k n cap:Nat}{xs:List Value}{p:Option Addr}(h:OwnK w B k n cap xs p)(hB:B'<=B):OwnK w B' k n cap xs p:=by
 cases h with
 | nil h1 h2 h3=>exact .nil h1 h2 h3
 | «at» g off h1 h2 h3 h4=>exact .at g off { h1 with own:=đo hB h1.own } h2 h3 h4
theorem Zo5(w:World)(g:Nat)(v:Value)(h:w.cell? ⟨g,0,none⟩=some v):(loadVar 33 ⟨g,0,none⟩).run Tryz.prog w = .ok v w:=by
 simp[loadVar,go_sem,h]
theorem Zg7{fn:Func}(hf:fn.results=#[.cell 2 33,.tmp 3])(tmps:Array Value)(w:World)(g:Nat)(v u:Value)(hp:tmps.getD 2 undef = .pointer (some ⟨g,0,none⟩))(hu:tmps.getD 3 undef=u)(h:w.cell? ⟨g,0,none⟩=some v) :
  (results fn tmps).run Tryz.prog w = .ok (.tuple #[v,u]) w:=by
 rw[results_cell_tmp hf,hp,hu];simp[asAddr,Zo5 w g v h,Result.andThen]
theorem Zg8(r:List Nat):Za0 r=(r.map Int.ofNat).flatMap Zbg:=by
 induction r with
 | nil=>rfl
 | cons x r ih =>
  show Value.int .i64 (x:Int)::Za0 r=Zbg (Int.ofNat x)++(r.map Int.ofNat).flatMap Zbg;rw[ih];rfl
theorem PlcW.start {w0 wr:World} {s0 GV L nm nu A:Nat} {f:Nat->Nat} (hs0:w0.heap.size=s0) (hL:s0+2<L/\L<GV) (hsz:GV+2<=wr.heap.size) (hB:Below s0 w0 wr)
  (RB:Zae wr s0 102 [.pointer (some ⟨A,0,none⟩)]) (AB:Zae wr (s0+1) 33 [.slice (some ⟨L,0,none⟩) nu nu]) (LV:Zae wr L 3 (ivs (List.replicate nu (-1))))
  (GB:Zae wr (GV+1) 187 [.slice (some ⟨GV,0,none⟩) 16 16]) (GV':Zae wr GV 188 ((List.range 16).map (fun j=>Value.map (some (f j)))))
  (HM:∀ j,j<16->Zlb wr (f j) 0 nm (fun _=>.slice none 0 0)/\GV+2<=f j) (HF:∀ j j',j<16->j'<16->j≠j'->f j≠f j') :
  PlcD w0.heap.size (wr.heap.size+4) ⟨wr.heap.size+2,s0,wr.heap.size+1,wr.heap.size,GV+1,GV,s0+1,L,wr.heap.size+3,A,f⟩ /\
  PlcW w0 (((((wr.alloc (.cells (bvs (List.replicate nm false)).toArray 4)).alloc (.cells #[.slice (some ⟨wr.heap.size,0,none⟩) nm nm] 87)).alloc (.cells #[.slice none 0 0] 33)).alloc (.cells #[.nilFunc] 114)).setCell ⟨wr.heap.size+3,0,none⟩ (.func (.func 168) #[] (PlcB.ptrs ⟨wr.heap.size+2,s0,wr.heap.size+1,wr.heap.size,GV+1,GV,s0+1,L,wr.heap.size+3,A,f⟩))) (wr.heap.size+4) ⟨wr.heap.size+2,s0,wr.heap.size+1,wr.heap.size,GV+1,GV,s0+1,L,wr.heap.size+3,A,f⟩ nu nm (fun _ _=>[]) (fun _=>-1) (fun _=>false) [] 0 (fun _ _=>none) (fun _ _=>0) none 0:=by
 have hfl:∀ j,j<16->f j<wr.heap.size:=fun j hj=>(HM j hj).1.lt
 refine⟨⟨fun g hg=>?_,fun i hi=>⟨by have:=(HM i hi).2;show _<=f i;omega,by have:=hfl i hi;show f i<_;omega⟩,fun g hg=>?_,fun g hg=>?_,fun g hg=>?_,fun i hi g hg=>?_,fun i j hi hj hne=>HF i j hi hj hne⟩,?_⟩
 ·simp only[List.mem_cons,List.not_mem_nil,or_false] at hg
  rcases hg with rfl | rfl | rfl | rfl | rfl | rfl | rfl | rfl | rfl<;>constructor<;>omega
 ·simp only[List.mem_cons,List.not_mem_nil,or_false] at hg
  show g≠wr.heap.size+2;rcases hg with rfl | rfl | rfl | rfl | rfl | rfl | rfl | rfl<;>omega
 ·simp only[List.mem_cons,List.not_mem_nil,or_false] at hg
  show g≠wr.heap.size;rcases hg with rfl | rfl | rfl | rfl | rfl | rfl | rfl | rfl<;>omega
 ·simp only[List.mem_cons,List.not_mem_nil,or_false] at hg
  show g≠L;rcases hg with rfl | rfl | rfl | rfl | rfl | rfl | rfl | rfl<;>omega
 ·simp only[List.mem_cons,List.not_mem_nil,or_false] at hg
  have h1:=(HM i hi).2;have h2:=hfl i hi;show g≠f i;rcases hg with rfl | rfl | rfl | rfl | rfl | rfl | rfl | rfl | rfl<;>omega
 ·obtain⟨Z,hZ⟩:∃ Z,wr.heap.size=Z:=⟨_,rfl⟩
  rw[hZ]
  have e1:(wr.alloc (.cells (bvs (List.replicate nm false)).toArray 4)).heap.size=Z+1:=by rw[đl,hZ]
  have n1:Zae (wr.alloc (.cells (bvs (List.replicate nm false)).toArray 4)) Z 4 (bvs (List.replicate nm false)):=Zae.newAt _ _ _ _ hZ.symm;have b1:Below Z wr (wr.alloc (.cells (bvs (List.replicate nm false)).toArray 4)):=(đc _ _).alloc (Nat.le_of_eq hZ.symm) _;generalize wr.alloc (.cells (bvs (List.replicate nm false)).toArray 4)=x1 at *
  have e2:(x1.alloc (.cells #[.slice (some ⟨Z,0,none⟩) nm nm] 87)).heap.size=Z+2:=by rw[đl,e1]
  have n2:Zae (x1.alloc (.cells #[.slice (some ⟨Z,0,none⟩) nm nm] 87)) (Z+1) 87 [.slice (some ⟨Z,0,none⟩) nm nm]:=Zae.newAt _ _ _ _ e1.symm;have b2:Below (Z+1) x1 (x1.alloc (.cells #[.slice (some ⟨Z,0,none⟩) nm nm] 87)):=(đc _ _).alloc (Nat.le_of_eq e1.symm) _;generalize x1.alloc (.cells #[.slice (some ⟨Z,0,none⟩) nm nm] 87)=x2 at *
  have e3:(x2.alloc (.cells #[.slice none 0 0] 33)).heap.size=Z+3:=by rw[đl,e2]
  have n3:Zae (x2.alloc (.cells #[.slice none 0 0] 33)) (Z+2) 33 [.slice none 0 0]:=Zae.newAt _ _ _ _ e2.symm;have b3:Below (Z+2) x2 (x2.alloc (.cells #[.slice none 0 0] 33)):=(đc _ _).alloc (Nat.le_of_eq e2.symm) _;generalize x2.alloc (.cells #[.slice none 0 0] 33)=x3 at *
  have e4:(x3.alloc (.cells #[.nilFunc] 114)).heap.size=Z+4:=by rw[đl,e3]
  have n4:Zae (x3.alloc (.cells #[.nilFunc] 114)) (Z+3) 114 [.nilFunc]:=Zae.newAt _ _ _ _ e3.symm;have b4:Below (Z+3) x3 (x3.alloc (.cells #[.nilFunc] 114)):=(đc _ _).alloc (Nat.le_of_eq e3.symm) _;generalize x3.alloc (.cells #[.nilFunc] 114)=x4 at *;have b14:Below Z wr x4:=((b1.trans (b2.mono (by omega))).trans (b3.mono (by omega))).trans (b4.mono (by omega));have on:=(Only.refl x4 (· = Z+3)).setCell (a:=⟨Z+3,0,none⟩) (.func (.func 168) #[] (PlcB.ptrs ⟨Z+2,s0,Z+1,Z,GV+1,GV,s0+1,L,Z+3,A,f⟩)) rfl
  have old:∀ {g:Nat} {t:TypeId} {cs:List Value},Zae wr g t cs->Zae (x4.setCell ⟨Z+3,0,none⟩ (.func (.func 168) #[] (PlcB.ptrs ⟨Z+2,s0,Z+1,Z,GV+1,GV,s0+1,L,Z+3,A,f⟩))) g t cs:=fun {g t cs} h=>by
   have hl:=h.lt;exact(h.below b14 (by omega)).only on (by omega)
  refine⟨?_,.nil rfl rfl rfl,old RB,?_,?_,old GB,old GV',fun i hi=>?_,fun i m hi hm=>.nil rfl rfl rfl,fun i m i' m' _ _ _ _ _ g e=>(by cases e),fun i m _ _ g e=>(by cases e),old AB,?_,n4.set 0 _,?_,by rw[World.size_setCell,e4];exact đd _⟩
  ·exact(n3.below b4 (by omega)).only on (by omega)
  ·exact((n2.below b3 (by omega)).below b4 (by omega)).only on (by omega)
  ·have h:=(((n1.below b2 (by omega)).below b3 (by omega)).below b4 (by omega)).only on (by omega)
   rw[List.map_const',List.length_range];exact h
  ·have h:=(HM i hi).1
   have hl:=h.lt;exact(h.of_block (b14.block _ (by omega))).of_block (on.block _ (by omega) (by show ¬ (f i=Z+3);omega))
  ·have:=old LV
   rw[List.map_const',List.length_range];exact this
  ·rw[hs0]
   have h1:Below s0 w0 x4:=hB.trans (b14.mono (by omega));rw[<- hs0] at h1;have:=Only.later h1 on (fun g hg=>by rw[hg];omega)
   rwa [hs0] at this
theorem Zw2(w:World)(A:Nat)(c:Crw)(H C:List (List Bool))(hr:Zbo w A c H C)(hok:ReckOk c C) :
  Calls Tryz.prog 119 #[.pointer (some ⟨A,0,none⟩)] w fun e w'=>Zr7 w w' (Za1 c C) e:=by
 have HR:=ħ hr;have HOK:=ħ hok;have hU:=hok.nu;have hM:=hok.nm;have hCl:=hok.len;obtain⟨qo,mo,uo,ho,co,qc,mc,uc,hc,cc,hA,hR,-⟩:=hr;have AW:=ħ (fun W (hW:Below w.heap.size w W)=>hA.step hW);unfold Ze0 at AW;rw[hCl] at AW;have HTU:Hid ((Za1 c C).U=c.us.length):=ħ rfl;have HTM:Hid ((Za1 c C).M=c.ms.length):=ħ rfl;clear hA hR hok hCl;generalize hnq:c.qs.length=nq at *;generalize hnm2:c.ms.length=nm at *;generalize hnu2:c.us.length=nu at *;generalize H.length=nh at *;have HNM:=ħ hnm2;have HNU:=ħ hnu2;clear hnq hnm2 hnu2;have HPL:=ħ (fun B b=>Zwz w B b c H C)
 have HW16:Hid (∀ k,k<nu->(Za1 c C).win k<16):=ħ (fun k hk=>by
  rw[<- HNU.o] at hk;have h1:=HOK.o.win c.us[k] (List.getElem_mem hk);show(c.us.getD k ⟨0,0,0,0⟩).w.toNat<16;rw[đf,đb hk,Option.getD_some]
  omega)
 go_enter Tryz.func119,Tryz.ntmps119
 go_upto_region 1 with(fail)
 obtain⟨s0,hs0⟩:∃ y,w.heap.size=y:=⟨_,rfl⟩
 have RB:Hid (Zae ((w.alloc (.cells #[.pointer (some ⟨A,0,none⟩)] 102)).alloc (.cells #[.slice none 0 0] 33)) s0 102 [.pointer (some ⟨A,0,none⟩)]):=ħ (by
  rw[<- hs0]
  exact(Zae.new w _ [.pointer (some ⟨A,0,none⟩)]).step ((đc _ _).alloc (đd _) _))
 have AB:Hid (Zae ((w.alloc (.cells #[.pointer (some ⟨A,0,none⟩)] 102)).alloc (.cells #[.slice none 0 0] 33)) (s0+1) 33 [.slice none 0 0]):=ħ (by
  have:=Zae.new (w.alloc (.cells #[.pointer (some ⟨A,0,none⟩)] 102)) 33 [.slice none 0 0];rw[đl,hs0] at this
  exact this)
 have BW:Hid (Below s0 w ((w.alloc (.cells #[.pointer (some ⟨A,0,none⟩)] 102)).alloc (.cells #[.slice none 0 0] 33))):=ħ (by
  rw[<- hs0]
  exact((đc _ _).alloc (đd _) _).alloc (by rw[đl];omega) _)
 have SZ:Hid (s0+2<=((w.alloc (.cells #[.pointer (some ⟨A,0,none⟩)] 102)).alloc (.cells #[.slice none 0 0] 33)).heap.size):=ħ (by rw[đl,đl];omega);have HS0:=ħ hs0;rw[hs0] at AW ⊢;generalize (w.alloc (.cells #[.pointer (some ⟨A,0,none⟩)] 102)).alloc (.cells #[.slice none 0 0] 33)=w1 at *;clear hs0;have bn:=(đc w1.heap.size w1).alloc (đd _) (.cells #[.int .i64 (-1)] 3);have rb:=(RB.o.step bn).cell 0 _ rfl;have a4:=(AW.o _ (BW.o.trans (bn.mono (by have:=SZ.o;omega)))).cell 4 _ rfl;have n1:(w1.alloc (.cells #[.int .i64 (-1)] 3)).cell? ⟨w1.heap.size,0,none⟩=some (.int .i64 (-1)):=(Zae.new w1 3 [.int .i64 (-1)]).cell 0 _ rfl;have HRP:=ħ (Zto _ (-1) w1.heap.size 0 1 nu n1 (by rw[đl];omega) hU);have HBN:=ħ bn;clear bn n1
 go_wp2_with fail
 refine HRP.o.mono ?_;intro e w2 hq;obtain⟨⟨L,rfl,hL,hLl⟩,hb2⟩:=hq;have BN2:=ħ (HBN.o.trans (hb2.mono HBN.o.size));have LV:=ħ hL;have HLS:Hid (s0+2<L):=ħ (by have h1:=SZ.o;rw[đl] at hLl;omega);clear rb a4 hb2 hL hLl HBN HRP;have ab:=(AB.o.step BN2.o).cell 0 _ rfl;have af:=(AB.o.step BN2.o).warm 0
 go_upto_region 2 with(fail)
 clear ab af;have on:=(Only.refl w2 (· = s0+1)).setCell (a:=⟨s0+1,0,none⟩) (.slice (some ⟨L,0,none⟩) nu nu) rfl;have AB3:=ħ ((AB.o.step BN2.o).set 0 (.slice (some ⟨L,0,none⟩) nu nu));simp only[List.set_cons_zero] at AB3;have RB3:=ħ ((RB.o.step BN2.o).only on (by omega));have LV3:=ħ (LV.o.only on (fun e=>by have:=HLS.o;omega));have B3:Hid (Below s0 w (w2.setCell ⟨s0+1,0,none⟩ (.slice (some ⟨L,0,none⟩) nu nu))):=ħ ((BW.o.trans (BN2.o.mono (by have:=SZ.o;omega))).setCell (by show s0<=s0+1;omega) _);clear on AB RB LV BW BN2 SZ;generalize w2.setCell ⟨s0+1,0,none⟩ (.slice (some ⟨L,0,none⟩) nu nu)=w3 at *;have hmk:=Zw1
 go_upto_region 3 with(fail)
 clear hmk;obtain⟨GV,hGV⟩:∃ y,w3.heap.size=y:=⟨_,rfl⟩;rw[hGV];have HGV:=ħ hGV;obtain⟨w4,hw4⟩:∃ y,(w3.alloc (.cells Zw0.toArray 188)).alloc (.cells #[.slice (some ⟨GV,0,none⟩) 16 16] 187)=y:=⟨_,rfl⟩
 have BA:Hid (Below GV w3 w4):=ħ (by
  rw[<- hGV,<- hw4]
  exact((đc _ _).alloc (đd _) _).alloc (by rw[đl];omega) _)
 have SZ4:Hid (w4.heap.size=GV+2):=ħ (by rw[<- hw4,đl,đl,hGV])
 have GB4:Hid (Zae w4 (GV+1) 187 [.slice (some ⟨GV,0,none⟩) 16 16]):=ħ (by
  rw[<- hw4]
  exact Zae.newAt _ _ _ _ (by rw[đl,hGV]))
 have GV4:Hid (Zae w4 GV 188 ((List.range 16).map (fun j=>if j<0 then Value.map (some 0) else .map none))):=ħ (by
  rw[<- hw4,<- hGV];have h1:=Zae.new w3 188 Zw0;have h2:=h1.step ((đc _ _).alloc (đd _) (.cells #[.slice (some ⟨w3.heap.size,0,none⟩) 16 16] 187))
  exact h2)
 rw[hw4];clear hw4;have AB4:=ħ (AB3.o.below BA.o (by rw[<- hGV];exact AB3.o.lt));have RB4:=ħ (RB3.o.below BA.o (by rw[<- hGV];exact RB3.o.lt));have LV4:=ħ (LV3.o.below BA.o (by rw[<- hGV];exact LV3.o.lt));have B4:Hid (Below s0 w w4):=ħ (B3.o.trans (BA.o.mono (by have:=RB3.o.lt;omega)));have HL4:Hid (s0+2<L/\L<GV):=ħ ⟨HLS.o,by rw[<- hGV];exact LV3.o.lt⟩;clear AB3 RB3 LV3 B3 BA HLS HGV hGV;have gb:=GB4.o.cell 0 _ rfl
 go_wp2_with fail
 clear gb
 go_loopw [20] (fun iv wr=>∃ (i:Nat) (f:Nat->Nat),iv = .int .i64 i/\i<=16/\Hid (Zae wr GV 188 ((List.range 16).map (fun j=>if j<i then Value.map (some (f j)) else .map none)))/\Hid (∀ j,j<i->Zlb wr (f j) 0 nm (fun _=>.slice none 0 0)/\GV+2<=f j)/\Hid (∀ j j',j<i->j'<i->j≠j'->f j≠f j')/\Hid (Only w4 wr (· = GV))) (fun k _=>(16-intOf k).toNat)
 case atStart=>exact⟨0,fun _=>0,rfl,by omega,GV4,ħ (fun j hj=>absurd hj (đu j)),ħ (fun j j' hj=>absurd hj (đu j)),ħ (Only.refl _ _)⟩
 case round =>
  clear GV4;obtain⟨i,f,rfl,hi,HV,HM,HF,HO⟩:=hrel;have e2:IntKind.i64.wrap ((i:Int)+1)=((i+1:Nat):Int):=đh _ (by omega);by_cases hin:i<16
  ·have kk:(i:Int)<16:=by omega
   have BM:=ħ ((đc wr.heap.size wr).alloc (đd _) (.map #[] 0));have gb:=(GB4.o.only HO.o (by omega)).cell 0 _ rfl;have gb2:=((GB4.o.only HO.o (by omega)).step BM.o).cell 0 _ rfl;have gv:=(HV.o.step BM.o).cell i (.map none) (by rw[đj,List.getElem?_range hin];simp);have gf:=(HV.o.step BM.o).warm i;have hmm:=@run_makeMap Tryz.prog
   go_upto_region 7 with(fail)
   clear hmm gb gb2 gv gf;have on:Only wr ((wr.alloc (.map #[] 0)).setCell ⟨GV,i,none⟩ (.map (some wr.heap.size))) (· = GV):=((Only.refl wr (· = GV)).step BM.o).setCell (a:=⟨GV,i,none⟩) (.map (some wr.heap.size)) rfl;have HO2:=ħ (HO.o.trans on);have HSW:Hid (GV+2<=wr.heap.size):=ħ (by have:=HO.o.size;rw[SZ4.o] at this;exact this)
   have HV2:Hid (Zae ((wr.alloc (.map #[] 0)).setCell ⟨GV,i,none⟩ (.map (some wr.heap.size))) GV 188 ((List.range 16).map (fun j=>if j<i+1 then Value.map (some (Zar f i wr.heap.size j)) else .map none))):=ħ (by
    have:=(HV.o.step BM.o).set i (.map (some wr.heap.size));rw[Zg6] at this
    have e:Zar (fun j=>if j<i then Value.map (some (f j)) else .map none) i (.map (some wr.heap.size))=(fun j=>if j<i+1 then Value.map (some (Zar f i wr.heap.size j)) else .map none):=by
     funext j
     by_cases e:j=i
     ·subst e;rw[Zag,Zag,if_pos (by omega)]
     ·rw[Zaf _ _ _ e,Zaf _ _ _ e]
      by_cases e2:j<i
      ·rw[if_pos e2,if_pos (by omega)]
      ·rw[if_neg e2,if_neg (by omega)]
    rw[e] at this
    exact this)
   have HM2:Hid (∀ j,j<i+1->Zlb ((wr.alloc (.map #[] 0)).setCell ⟨GV,i,none⟩ (.map (some wr.heap.size))) (Zar f i wr.heap.size j) 0 nm (fun _=>.slice none 0 0)/\GV+2<=Zar f i wr.heap.size j):=ħ (fun j hj=>by
    by_cases e:j=i
    ·subst e
     rw[Zag];exact⟨(Zlb.new wr nm).of_block (Zc4 _ _ _ _ (by have:=HSW.o;show wr.heap.size≠GV;omega)),HSW.o⟩
    ·rw[Zaf _ _ _ e]
     have:=HM.o j (by omega)
     exact⟨this.1.of_block (on.block _ this.1.lt (by omega)),this.2⟩)
   have HF2:Hid (∀ j j',j<i+1->j'<i+1->j≠j'->Zar f i wr.heap.size j≠Zar f i wr.heap.size j'):=ħ (fun j j' hj hj' hne=>by
    by_cases e:j=i
    ·have e2:j'≠i:=fun e2=>hne (e.trans e2.symm)
     rw[e,Zag,Zaf _ _ _ e2];have:=(HM.o j' (by omega)).1.lt;omega
    ·rw[Zaf _ _ _ e]
     by_cases e2:j'=i
     ·rw[e2,Zag]
      have:=(HM.o j (by omega)).1.lt;omega
     ·rw[Zaf _ _ _ e2]
      exact HF.o j j' (by omega) (by omega) hne)
   clear on HO HV HM HF BM HSW;generalize (wr.alloc (.map #[] 0)).setCell ⟨GV,i,none⟩ (.map (some wr.heap.size))=wr2 at *
   go_wp2_with fail
   go_roundw
   case rel=>exact⟨i+1,Zar f i wr.heap.size,by go_num,by omega,HV2,HM2,HF2,HO2⟩
   case measure=>simp only[intOf];omega
  ·have kk:¬ (i:Int)<16:=by omega
   obtain rfl:i=16:=by omega
   have RB5:=ħ (RB4.o.only HO.o (by have:=HL4.o;omega));have AB5:=ħ (AB4.o.only HO.o (by have:=HL4.o;omega));have LV5:=ħ (LV4.o.only HO.o (by have:=HL4.o;omega));have GB5:=ħ (GB4.o.only HO.o (by omega))
   have B5:Hid (Below s0 w wr):=ħ (by
    have:=B4.o;rw[<- HS0.o] at this ⊢
    exact Only.later this HO.o (fun g hg=>by have:=HL4.o;have:=HS0.o;omega))
   have HSW:Hid (GV+2<=wr.heap.size):=ħ (by have:=HO.o.size;rw[SZ4.o] at this;exact this)
   have GV5:Hid (Zae wr GV 188 ((List.range 16).map (fun j=>Value.map (some (f j))))):=ħ (by
    have:=HV.o;have e:(List.range 16).map (fun j=>if j<16 then Value.map (some (f j)) else .map none)=(List.range 16).map (fun j=>Value.map (some (f j))):=List.map_congr_left (fun j hj=>if_pos (List.mem_range.1 hj))
    rwa [e] at this)
   clear RB4 AB4 LV4 GB4 B4 SZ4 HV HO;have hmk:=run_make_row' (P:=Tryz.prog) 87 4 (.bool false) 1 Tryz.underlying87 Zdl rfl .i64 .i64 nm (by omega) (by omega);rw[Zew] at hmk;have rb:=RB5.o.cell 0 _ rfl;have a1:=(AW.o wr B5.o).cell 1 _ rfl
   go_upto_region 11 with(fail)
   clear hmk rb a1;obtain⟨HD0,W00⟩:=PlcW.start HS0.o HL4.o HSW.o B5.o RB5.o AB5.o LV5.o GB5.o GV5.o HM.o HF.o;obtain⟨b,hb⟩:∃ b:PlcB,⟨wr.heap.size+2,s0,wr.heap.size+1,wr.heap.size,GV+1,GV,s0+1,L,wr.heap.size+3,A,f⟩=b:=⟨_,rfl⟩;obtain⟨B,hB⟩:∃ B,wr.heap.size+4=B:=⟨_,rfl⟩;rw[hB] at HD0 W00;rw[hb] at HD0 W00
   have q3:wr.heap.size+1+1+1=b.PB:=by rw[<- hb]
   have q2:wr.heap.size+1+1=b.R:=by rw[<- hb]
   have q1:wr.heap.size+1=b.T:=by rw[<- hb]
   have q0:wr.heap.size=b.TV:=by rw[<- hb]
   have q4:GV+1=b.GB:=by rw[<- hb]
   have q5:GV=b.GV:=by rw[<- hb]
   have q6:s0+1=b.AB:=by rw[<- hb]
   have q7:s0=b.RB:=by rw[<- hb]
   have q8:L=b.AV:=by rw[<- hb]
   have q9:A=b.A:=by rw[<- hb]
   have q3':wr.heap.size+3=b.PB:=by rw[<- hb]
   rw[q3,q2,q1];obtain⟨x4,hx4⟩:∃ x,(((wr.alloc (.cells (bvs (List.replicate nm false)).toArray 4)).alloc (.cells #[.slice (some ⟨wr.heap.size,0,none⟩) nm nm] 87)).alloc (.cells #[.slice none 0 0] 33)).alloc (.cells #[.nilFunc] 114)=x:=⟨_,rfl⟩
   have pv:Zae x4 b.PB 114 [.nilFunc]:=by
    rw[<- hx4,<- q3'];exact Zae.newAt _ _ _ _ (by rw[đl,đl,đl])
   have pc:=pv.cell 0 _ rfl;have pw:=pv.warm 0;rw[hx4,q3'] at W00;rw[hx4,q0,q4,q5,q6,q7,q8,q9];unfold PlcB.ptrs at W00;have HD:=ħ HD0;have W0:=ħ W00;have HPB:Hid (b.PB≠b.PB->False):=ħ (fun h=>h rfl);have HAW:Hid (b.RB=w.heap.size):=ħ (by rw[<- hb];exact HS0.o.symm);have HAA:Hid (A=b.A):=ħ q9;have HWA:=ħ (fun W (hW:Below w.heap.size w W)=>AW.o W (by rw[HS0.o] at hW;exact hW));rw[q9] at HWA;clear HD0 W00 RB5 AB5 LV5 GB5 GV5 HM HF HL4 B5 q0 q1 q2 q3 q4 q5 q6 q7 q8 q9 q3' hb hB hx4 pv AW HSW
   have hsf:∀ (fn:Fn) (a b:Array Value) (p:Addr) (m:Mode) (w:World),(store p (.func fn a b) m).run Tryz.prog w=stored Tryz.prog w p (.func fn a b) m:=fun fn a b p m w=>run_store Tryz.prog w p _ m rfl
   go_upto_region 12 with(fail)
   clear pc pw hsf;generalize x4.setCell ⟨b.PB,0,none⟩ (.func (.func 168) #[] #[.pointer (some ⟨b.R,0,none⟩),.pointer (some ⟨b.RB,0,none⟩),.pointer (some ⟨b.T,0,none⟩),.pointer (some ⟨b.GB,0,none⟩),.pointer (some ⟨b.AB,0,none⟩),.pointer (some ⟨b.PB,0,none⟩)])=w6 at *;have HPS:Hid (∀ f,Znb w B b (Za1 c C) f):=ħ (HPL.o B b HD.o (by rw[<- HAA.o];exact HR.o) HOK.o);clear HPL HR HOK;obtain⟨T,hT⟩:∃ T,Za1 c C=T:=⟨_,rfl⟩;have HT:=ħ hT;rw[hT] at HPS HTU HTM HW16;clear hT;have rb:=W0.o.rbox.cell 0 _ rfl;have a4:=(HWA.o w6 W0.o.below).cell 4 _ rfl
   go_wp2_with fail
   clear rb a4;have HE0:Hid (Zdz T (nu-0) 0 Zpp=Zdz T T.U 0 Zpp):=ħ (by rw[HTU.o];rfl);have W0':Hid (PlcW w w6 B b nu nm Zpp.G Zpp.a (fun _=>false) [] 0 (fun _ _=>none) (fun _ _=>0) none 0):=ħ W0.o
   go_loopw [41] (fun iv wr=>∃ (k:Nat) (s:Mst) (n:Nat) (ad:Nat->Nat->Option Addr) (cp:Nat->Nat->Nat) (ro:Option Addr) (rc:Nat) (r:List Nat) (t:Nat->Bool),iv = .int .i64 k/\k<=nu/\n<=k/\Hid (Zdz T (nu-k) k s=Zdz T T.U 0 Zpp)/\Hid (MstOk T k s)/\Hid (PlcW w wr B b nu nm s.G s.a t r n ad cp ro rc)) (fun k _=>(nu-intOf k).toNat)
   case atStart=>exact⟨0,Zpp,0,_,_,_,_,_,_,rfl,by omega,đd _,HE0,ħ (Z1r T),W0'⟩
   case round =>
    clear W0 W0' HE0;obtain⟨k,s,n,ad,cp,ro,rc,r,t,rfl,hk,hn,HE,HS,W1⟩:=hrel;have e3:IntKind.i64.wrap ((k:Int)+1)=((k+1:Nat):Int):=đh _ (by omega);by_cases hkn:k<nu
    ·have kk:(k:Int)<nu:=by omega
     have tb:=W1.o.tbox.cell 0 _ rfl;have hcl:=Zqe wr 0 b.TV nm nm _ W1.o.tv (by simp[bvs])
     go_upto_region 16 with(fail)
     clear tb hcl;have W2:=ħ (W1.o.clearT HD.o);clear W1;generalize wr.setCells b.TV 0 (bvs (List.replicate nm false))=w7 at *;have q0:=W2.o.reach.cell 0 _ rfl;have qf:=W2.o.reach.warm 0
     go_upto_region 17 with(fail)
     clear q0 qf;have W3:=ħ (W2.o.clearR HD.o);clear W2;generalize w7.setCell ⟨b.R,0,none⟩ (.slice none 0 0)=w8 at *
     have HSP:Hid (Calls Tryz.prog 168 #[.int .i64 k,.pointer (some ⟨b.R,0,none⟩),.pointer (some ⟨b.RB,0,none⟩),.pointer (some ⟨b.T,0,none⟩),.pointer (some ⟨b.GB,0,none⟩),.pointer (some ⟨b.AB,0,none⟩),.pointer (some ⟨b.PB,0,none⟩)] w8 fun e w'=>Zwy w w' B b nu nm s.G (T.win k) n ad cp (fun _=>false) (Zy2 T k s) e):=ħ (by
      have key:=HPS.o T.M (T.win k) k ⟨s.G (T.win k),s.a,fun _=>false,[]⟩ w8 s.G n ad cp none 0 (HW16.o k hkn) rfl (by rw[HTU.o];exact hkn) (HS.o.call (by rw[HTU.o];exact hkn)) (Zmq _ _ _ _) (fun v hv=>by cases hv) (by omega);rw[HTU.o,HTM.o,Z2n] at key;have key:=key W3.o;unfold Zy2;rw[HTM.o]
      exact key)
     have pb:=W3.o.pbox.cell 0 _ rfl;unfold PlcB.ptrs at pb;clear HPS W3
     go_wp2_with fail
     refine HSP.o.mono ?_;intro e w9 hq;clear pb HSP;obtain⟨n4,ad4,cp4,ro4,rc4,rfl,W4,hn4,-⟩:=hq;have W4:=ħ W4
     have HE2:Hid (Zdz T (nu-k) k s=match Zy2 T k s with | (true,p)=>Zdz T (nu-(k+1)) (k+1) ⟨Zar s.G (T.win k) p.g,p.a⟩ | (false,p)=>.error p.r):=ħ (by
      obtain⟨m,hm⟩:∃ m,nu-k=m+1:=⟨nu-(k+1),by omega⟩
      have hm2:nu-(k+1)=m:=by omega
      rw[hm,hm2]
      rfl)
     cases hup:Zy2 T k s with
     | mk b3 p =>
      rw[hup] at W4 HE2 hn4;have HUP:=ħ hup;clear hup
      cases b3 with
      | true =>
       have hn4:n4<=n+1:=by simpa using hn4
       have W4':Hid (PlcW w w9 B b nu nm (Zar s.G (T.win k) p.g) p.a p.t p.r n4 ad4 cp4 ro4 rc4):=ħ W4.o;have HE3:Hid (Zdz T (nu-(k+1)) (k+1) ⟨Zar s.G (T.win k) p.g,p.a⟩=Zdz T T.U 0 Zpp):=ħ (by rw[<- HE.o,HE2.o]);have HS3:=ħ (HS.o.next (by rw[HTU.o];exact hkn) HUP.o);clear W4 HE2 HE HS
       go_wp2_with fail
       go_roundw
       case rel=>exact⟨k+1,⟨Zar s.G (T.win k) p.g,p.a⟩,n4,ad4,cp4,ro4,rc4,p.r,p.t,by go_num,by omega,by omega,HE3,HS3,W4'⟩
       case measure=>simp only[intOf];omega
      | false =>
       have W4':Hid (PlcW w w9 B b nu nm (Zar s.G (T.win k) p.g) p.a p.t p.r n4 ad4 cp4 ro4 rc4):=ħ W4.o;have HE3:Hid (Zdz T T.U 0 Zpp = .error p.r):=ħ (by rw[<- HE.o,HE2.o]);obtain⟨hsh,hkr⟩:=HS.o.short (by rw[HTU.o];exact hkn) HUP.o;have hlen:p.r.length<=nu:=Z3l (U:=nu) hsh.nodup (fun v hv=>by rw[<- HTU.o];exact(hsh.win v hv).1);have hown:=W4'.o.rown
       obtain⟨g,off,hro⟩:∃ g off,ro4=some ⟨g,off,none⟩:=by
        cases ro4 with
        | none =>
         cases hown with | nil h1 h2 h3 =>
         rw[List.map_eq_nil_iff.1 h1] at hkr;cases hkr
        | some a =>
         cases hown with
         | «at» g off h1 h2 h3 h4=>exact⟨g,off,rfl⟩
       subst hro;rw[Zg8] at hown;have hgB:=hown.blk_lt (g:=g) rfl;have HGB:=ħ hgB;have HIS:=ħ (Zwc w9 B p.r.length rc4 g off (p.r.map Int.ofNat) (by rw[đr]) hown (by omega));have q0:=W4'.o.reach.cell 0 _ rfl;clear W4 HE2 HE HS hsh hkr hown hgB
       go_wp2_with fail
       refine HIS.o.mono ?_;rintro e w10 ⟨rfl,ho10,on10⟩;have HO10:=ħ ho10;have ON:=ħ on10;clear q0 HIS ho10 on10;have q0:=(W4'.o.reach.only ON.o (by have:=HD.o.range b.R (by simp);have:=HGB.o.1;omega)).cell 0 _ rfl;have ab:=(W4'.o.abox.only ON.o (by have:=HD.o.range b.AB (by simp);have:=HGB.o.1;omega)).cell 0 _ rfl;have af:=(W4'.o.abox.only ON.o (by have:=HD.o.range b.AB (by simp);have:=HGB.o.1;omega)).warm 0;have on:=(Only.refl w10 (· = b.AB)).setCell (a:=⟨b.AB,0,none⟩) (.slice none 0 0) rfl;have q1:=((W4'.o.reach.only ON.o (by have:=HD.o.range b.R (by simp);have:=HGB.o.1;omega)).only on (HD.o.r b.AB (by simp)).symm).cell 0 _ rfl
       go_wp2_with fail
       go_region
       go_wp2_with fail
       have hA:Zae w10 b.AB 33 [.slice (some ⟨b.AV,0,none⟩) nu nu]:=W4'.o.abox.only ON.o (by have:=HD.o.range b.AB (by simp);have:=HGB.o.1;omega);have bd:=(đc (w10.setCell ⟨b.AB,0,none⟩ (.slice none 0 0)).heap.size (w10.setCell ⟨b.AB,0,none⟩ (.slice none 0 0))).drew;have hc:=((hA.set 0 (.slice none 0 0)).step bd).cell 0 _ rfl;refine bodyPost_ret (Zg7 (by kernel_rfl) _ _ b.AB _ _ rfl rfl hc) rfl ?_;unfold Zr7;rw[HT.o,HE3.o]
       have hBw:w.heap.size<=B:=by have:=HD.o.range b.AB (by simp);omega
       have ho:=(HO10.o.of_block (fun g' e hl=>on.block g' hl (fun e2=>by have:=(HO10.o.blk_lt e).1;have:=HD.o.range b.AB (by simp);omega)) on.size).below bd;exact⟨Only.later (Only.later W4'.o.below ON.o (fun g' hg=>by rw[hg];have:=HGB.o.1;omega)) (on.step bd) (fun g hg=>by rw[hg];exact(HD.o.range b.AB (by simp)).1),g,off,rc4,rfl,ho.low hBw⟩
    ·have kk:¬ (k:Int)<nu:=by omega
     obtain rfl:nu=k:=by omega
     have ab:=W1.o.abox.cell 0 _ rfl;have af:=W1.o.abox.warm 0
     go_wp2_with fail
     have on:=(Only.refl wr (· = b.AB)).setCell (a:=⟨b.AB,0,none⟩) (.slice (some ⟨b.AV,0,none⟩) nu nu) rfl;have hc:=(W1.o.abox.set 0 (.slice (some ⟨b.AV,0,none⟩) nu nu)).cell 0 _ rfl
     have HRE:Zdz T T.U 0 Zpp = .ok s:=by rw[<- HE.o,Nat.sub_self];rfl
     refine bodyPost_ret (Zg7 (by kernel_rfl) _ _ b.AB _ _ rfl rfl hc) rfl ?_;unfold Zr7;rw[HT.o,HRE,HTU.o];exact⟨Only.later W1.o.below on (fun g hg=>by rw[hg];exact(HD.o.range b.AB (by simp)).1),b.AV,rfl,W1.o.av.only on (fun e=>HD.o.av b.AB (by simp) e.symm),(HD.o.range b.AV (by simp)).1⟩
end
section
open Go.RowKit Go.Sort Go.Maps
theorem Zo6(w:World)(a:Option Addr)(n c:Nat):(binOp .eql 33 (.slice a n c) (.slice none 0 0)).run Tryz.prog w = .ok (.bool a.isNone) w:=Lib.run_eql_slice_nil w 33 3 a n c 0 0 Tryz.underlying33
theorem Znc(w:World)(A:Nat)(c:Crw)(H C:List (List Bool))(hr:Zbo w A c H C)(hok:ReckOk c C) :
  Calls Tryz.prog 142 #[.pointer (some ⟨A,0,none⟩)] w fun e w'=>e = .returned (.bool (Zfn (Za1 c C)))/\Below w.heap.size w w':=by
 have HM:=ħ (Zw2 w A c H C hr hok);obtain⟨T,hT⟩:∃ T,Za1 c C=T:=⟨_,rfl⟩;rw[hT] at HM ⊢;clear hr hok hT;have HF:Hid (Zfn T=match Zdz T T.U 0 Zpp with | .ok _=>true | .error _=>false):=ħ rfl;generalize Zfn T=fb at *;have hq:=Zo6
 go_enter Tryz.func142,Tryz.ntmps142
 go_wp2_with fail
 refine HM.o.mono ?_;intro e w' hmq;unfold Zr7 at hmq;obtain⟨hb,hres⟩:=hmq;have HB:=ħ hb;clear hb HM
 cases hm:Zdz T T.U 0 Zpp with
 | ok s =>
  rw[hm] at hres HF;obtain⟨AV,rfl,-,-⟩:=hres;have hfb:fb=true:=HF.o;subst hfb;clear HF hm
  go_wp2_with fail
  go_ret;exact⟨rfl,HB.o⟩
 | error r =>
  rw[hm] at hres HF;obtain⟨g,off,cap,rfl,-⟩:=hres;have hfb:fb=false:=HF.o;subst hfb;clear HF hm
  go_wp2_with fail
  go_ret;exact⟨rfl,HB.o⟩
theorem Znd(c:Crw)(C:List (List Bool))(u m:Nat):(Zcy c C u m).length=C.length:=by unfold Zcy;rw[List.length_set]
theorem ReckOk.fix{c:Crw}{C:List (List Bool)}(h:ReckOk c C)(u m:Nat):ReckOk c (Zcy c C u m) :=
 ⟨by rw[Znd];exact h.len,fun r hr=>by
  unfold Zcy at hr;rcases List.mem_or_eq_of_mem_set hr with h1 | h1
  ·exact h.row r h1
  ·rw[h1,List.length_set,List.length_replicate],h.win,h.tic,h.nm,h.nu⟩
def Zpm(c:Crw)(C:List (List Bool))(u m:Nat):Bool:=(Za1 c C).can u m&&Zfn (Za1 c (Zcy c C u m))
def Zk7(c:Crw)(C:List (List Bool))(u:Nat):List Nat:=(List.range c.ms.length).filter (Zpm c C u)
end
section
open Go.RowKit Go.Sort Go.Maps
theorem Zce(p:Nat->Bool)(k:Nat):(List.range (k+1)).filter p=if p k=true then(List.range k).filter p++[k] else(List.range k).filter p:=by
 rw[List.range_succ,List.filter_append];by_cases e:p k=true
 ·rw[if_pos e,List.filter_cons_of_pos e];rfl
 ·rw[if_neg e,List.filter_cons_of_neg e];simp
theorem Zb1(p:Nat->Bool)(k:Nat):((List.range k).filter p).length<=k:=by
 have:=List.length_filter_le p (List.range k)
 rwa [List.length_range] at this
theorem Zqf(w:World)(A:Nat)(c:Crw)(H C:List (List Bool))(u:Nat)(hr:Zbo w A c H C)(hok:ReckOk c C)(hu:u<c.us.length) :
  Calls Tryz.prog 86 #[.pointer (some ⟨A,0,none⟩),.int .i64 u] w fun e w'=>(∃ o cap,e = .returned (.slice o (Zk7 c C u).length cap)/\OwnK w' w.heap.size 1 (Zk7 c C u).length cap (Za0 (Zk7 c C u)) o)/\Below w.heap.size w w':=by
 have HR:=ħ hr;have HOK:=ħ hok;have hM:=hok.nm;have hU:=hok.nu;obtain⟨qo,mo,uo,ho,co,qc,mc,uc,hc,cc,hA,hR,-⟩:=hr;obtain⟨ru,hru⟩:∃ y,C[u]?=some y:=⟨_,đb (by rw[hok.len];exact hu)⟩;have HRL:Hid (ru.length=c.ms.length):=ħ (hok.row ru (đe hru))
 have HCAN:Hid (∀ k,(Za1 c C).can u k=ru.getD k false):=ħ (fun k=>by
  show(C.getD u []).getD k false=_
  rw[đf (l:=C),hru];rfl)
 have ha:=hA.cell 4 _ rfl;obtain⟨gc,oc,bo,bc,hco,hgc,hrc,hrb⟩:=hR.c.at u ru hru;have HRB:=ħ (fun W (hW:Below w.heap.size w W)=>hrb.below hW);rw[HRL.o] at hrc
 have HFX:Hid (∀ k,k<c.ms.length->∀ W,Below w.heap.size w W->Calls Tryz.prog 84 #[.pointer (some ⟨A,0,none⟩),.int .i64 u,.int .i64 k] W fun e w'=>∃ X,e = .returned (.pointer (some ⟨X,0,none⟩))/\Zbo w' X c H (Zcy c C u k)/\W.heap.size<=X/\Below W.heap.size W w'):=ħ (fun k hk W hW =>
  Zm9 W A c H C u k (HR.o.below hW) (by rw[hok.len];exact hu) hk hok.row (by rw[hok.len];omega) (by omega))
 have HFE:Hid (∀ k W X,Zbo W X c H (Zcy c C u k)->Calls Tryz.prog 142 #[.pointer (some ⟨X,0,none⟩)] W fun e w'=>e = .returned (.bool (Zfn (Za1 c (Zcy c C u k))))/\Below W.heap.size W w'):=ħ (fun k W X hX=>Znc W X c H (Zcy c C u k) hX (hok.fix u k))
 have uu:(u:Int)<C.length:=by rw[hok.len];omega
 have HPB:Hid (∀ k,Zpm c C u k=(ru.getD k false&&Zfn (Za1 c (Zcy c C u k)))):=ħ (fun k=>by unfold Zpm;rw[HCAN.o]);have HPF:Hid (Zk7 c C u=(List.range c.ms.length).filter (Zpm c C u)):=ħ rfl;clear hA hR hrb hru hok HOK HCAN;subst hco;generalize Zk7 c C u=PF at *;generalize Zpm c C u=pb at *;generalize hnm:c.ms.length=nm at *;generalize c.us.length=nu at *;generalize C.length=nc at *;have HNM:=ħ hnm;clear hnm
 go_enter Tryz.func86,Tryz.ntmps86
 go_wp2_with fail
 clear ha hrc
 go_loopw [15,4] (fun kv ov wr=>∃ (k:Nat) (n:Nat) (o:Option Addr) (cap:Nat),kv = .int .i64 k/\ov = .slice o n cap/\k<=nm/\n<=k/\Hid (((List.range k).filter pb).length=n)/\Hid (OwnK wr w.heap.size 1 n cap (Za0 ((List.range k).filter pb)) o)/\Hid (Below w.heap.size w wr)) (fun k _ _=>(nm-intOf k).toNat)
 case atStart=>exact⟨0,0,none,0,rfl,rfl,by omega,đd _,ħ rfl,ħ (.nil rfl rfl rfl),ħ (đc _ _)⟩
 case round =>
  obtain⟨k,n,o,cap,rfl,rfl,hk,hn,HN,HO,HB⟩:=hrel;have e2:IntKind.i64.wrap ((k:Int)+1)=((k+1:Nat):Int):=đh _ (by omega);by_cases hkn:k<nm
  ·have kk:(k:Int)<nm:=by omega
   obtain⟨gb,ob,hbo,hbc⟩:=(HRB.o wr HB.o).bool k (by rw[HRL.o];exact hkn);subst hbo;have HPK:=HPB.o k;obtain⟨bk,hbk⟩:∃ y,ru.getD k false=y:=⟨_,rfl⟩;rw[hbk] at hbc HPK;have HPK:=ħ HPK;clear hbk;have HNX:=ħ (Zce pb k)
   cases bk with
   | false =>
    have HPK2:Hid (pb k=false):=ħ (by rw[HPK.o];rfl);clear HPK
    go_wp2_with fail
    clear hbc;go_roundw
    case rel=>exact⟨k+1,n,o,cap,by go_num,rfl,by omega,by omega,ħ (by rw[HNX.o,HPK2.o];exact HN.o),ħ (by rw[HNX.o,HPK2.o];exact HO.o),HB⟩
    case measure=>simp only[intOf];omega
   | true =>
    have HC1:=ħ (HFX.o k hkn wr HB.o);obtain⟨fk,hfk⟩:∃ y,Zfn (Za1 c (Zcy c C u k))=y:=⟨_,rfl⟩;have HFK:Hid (∀ W X,Zbo W X c H (Zcy c C u k)->Calls Tryz.prog 142 #[.pointer (some ⟨X,0,none⟩)] W fun e w'=>e = .returned (.bool fk)/\Below W.heap.size W w'):=ħ (fun W X hX=>by rw[<- hfk];exact HFE.o k W X hX);have HPK2:Hid (pb k=fk):=ħ (by rw[HPK.o,hfk];rfl);clear HPK hfk
    go_wp2_with fail
    refine HC1.o.mono ?_;clear HC1;intro e w2 hq;obtain⟨X,rfl,hX,-,hb2⟩:=hq;have HB2:=ħ hb2;have HFC:=ħ (HFK.o w2 X hX);clear hX hb2 HFK
    go_wp2_with fail
    refine HFC.o.mono ?_;clear HFC;rintro e w3 ⟨rfl,hb3⟩;have B3:=ħ (HB.o.trans ((HB2.o.trans (hb3.mono HB2.o.size)).mono HB.o.size));have O3:=ħ (HO.o.below (HB2.o.trans (hb3.mono HB2.o.size)));clear hb3 HB2 hbc
    cases fk with
    | false =>
     go_wp2_with fail
     go_roundw
     case rel=>exact⟨k+1,n,o,cap,by go_num,rfl,by omega,by omega,ħ (by rw[HNX.o,HPK2.o];exact HN.o),ħ (by rw[HNX.o,HPK2.o];exact O3.o),B3⟩
     case measure=>simp only[intOf];omega
    | true =>
     go_upto_region 6 with(at_builtin;refine Zcn 33 3 (.int .i64 0) 1 8 Tryz.underlying33 Zbl rfl (by omega) (by omega) w3 w.heap.size rfl (.tmp 28) (.tmp 30) rfl o cap n (Za0 ((List.range k).filter pb)) ?q1 O3.o B3.o.size 1 1 #[.int .i64 (k:Int)] 3 ?q2 rfl (by omega) ?q3 ?q4 ?_;(case q1=>rfl);(case q2=>rfl);(case q3=>simp[Value.oneCell']);(case q4=>omega);intro g5 off5 c5 wa o8 gr8 b8 or8;have O8:=ħ o8;have B8:=ħ (B3.o.trans b8);clear o8 gr8 b8 or8)
     go_wp2_with fail
     go_roundw
     case rel=>exact⟨k+1,n+1,_,_,by go_num,rfl,by omega,by omega,ħ (by rw[HNX.o,HPK2.o,if_pos rfl,đn,HN.o];rfl),ħ (by rw[HNX.o,HPK2.o,if_pos rfl,<- Zbt];exact O8.o),B8⟩
     case measure=>simp only[intOf];omega
  ·have kk:¬ (k:Int)<nm:=by omega
   obtain rfl:nm=k:=by omega
   go_wp2_with fail
   go_ret;rw[HPF.o];exact⟨⟨o,cap,by rw[HN.o];rfl,by rw[HN.o];exact HO.o⟩,HB.o⟩
end
section
open Go.RowKit Go.Sort Go.Maps
def Zqg(c:Crw)(C:List (List Bool))(u:Nat):Option Nat:=(List.range c.ms.length).find? (Zpm c C u)
def Zcl(c:Crw):Nat->Nat->List (List Bool)->List Nat->List Nat
 | 0,_,_,out=>out
 | n+1,u,C,out=>match Zqg c C u with
  | some m=>Zcl c n (u+1) (Zcy c C u m) (out++[m])
  | none=>Zcl c n (u+1) C out
theorem OwnK.empty(w:World)(B:Nat)(T:TypeId)(hB:B<=w.heap.size):OwnK (w.alloc (.cells #[] T)) B 1 0 0 [] (some ⟨w.heap.size,0,none⟩) :=
 .at _ _ ⟨hB,by rw[đl];omega,by simp,fun j v hj=>by simp at hj,fun j hj=>by omega,fun j hj=>by omega⟩ rfl (Nat.zero_le _) (đd _)
theorem Zb5{w w':World}{row:Option Nat}(h:w.grownBy w' row):Only w w' (fun g=>row=some g):=⟨h.os,h.tape,h.output,h.size,fun i hi hp=>h.block i hi (fun e=>hp e.symm)⟩
def Zl9(w:World)(c:Crw)(C:List (List Bool))(e:Ending)(w':World):Prop:=Below w.heap.size w w' /\
 if Zfn (Za1 c C)=true then ∃ o cap,e = .returned (.tuple #[.slice o (Zcl c c.us.length 0 C []).length cap,.bool true])/\OwnK w' w.heap.size 1 (Zcl c c.us.length 0 C []).length cap (Za0 (Zcl c c.us.length 0 C [])) o
 else e = .returned (.tuple #[.slice none 0 0,.bool false])
theorem Zw3(w:World)(A:Nat)(c:Crw)(H C:List (List Bool))(hr:Zbo w A c H C)(hok:ReckOk c C) :
  Calls Tryz.prog 85 #[.pointer (some ⟨A,0,none⟩)] w fun e w'=>Zl9 w c C e w':=by
 have hM:=hok.nm;have hU:=hok.nu;have HR:=ħ hr;have HOK:=ħ hok;have HF:=ħ (Znc w A c H C hr hok)
 have HFX:Hid (∀ X C' Q u k W,Zd3 W Q X c H C'->(∀ g,Q g->g<W.heap.size)->ReckOk c C'->u<c.us.length->k<c.ms.length->Calls Tryz.prog 84 #[.pointer (some ⟨X,0,none⟩),.int .i64 u,.int .i64 k] W fun e w'=>∃ X,e = .returned (.pointer (some ⟨X,0,none⟩))/\Zd3 w' Q X c H (Zcy c C' u k)/\W.heap.size<=X/\Below W.heap.size W w'):=ħ (fun X C' Q u k W h1 hq h2 hu hk =>
  Z0d W Q X c H C' u k h1 hq (by rw[h2.len];exact hu) hk h2.row (by rw[h2.len];omega) (by omega))
 have HFE:Hid (∀ X C' W,Zbo W X c H C'->ReckOk c C'->Calls Tryz.prog 142 #[.pointer (some ⟨X,0,none⟩)] W fun e w'=>e = .returned (.bool (Zfn (Za1 c C')))/\Below W.heap.size W w'):=ħ (fun X C' W hX h2=>Znc W X c H C' hX h2)
 have HQ:Hid (∀ fb,Zfn (Za1 c C)=fb->∀ e w',Zl9 w c C e w'↔Below w.heap.size w w'/\if fb=true then ∃ o cap,e = .returned (.tuple #[.slice o (Zcl c c.us.length 0 C []).length cap,.bool true])/\OwnK w' w.heap.size 1 (Zcl c c.us.length 0 C []).length cap (Za0 (Zcl c c.us.length 0 C [])) o else e = .returned (.tuple #[.slice none 0 0,.bool false])):=ħ (fun fb h e w'=>by
  unfold Zl9
  rw[h])
 have HROW:Hid (∀ X C' u W,Zbo W X c H C'->ReckOk c C'->u<c.us.length->∃ gc oc cc bo bc ru,W.cell? ⟨X,4,none⟩=some (.slice (some ⟨gc,oc,none⟩) c.us.length cc)/\W.cell? ⟨gc,oc+u,none⟩=some (.slice bo c.ms.length bc)/\Zan Zc5 W bo ru/\ru.length=c.ms.length/\∀ k,(Za1 c C').can u k=ru.getD k false):=ħ (fun X C' u W h1 h2 hu=>by
  obtain⟨qo,mo,uo,ho,co,qc,mc,uc,hc,cc,hA,hR,-⟩:=h1;obtain⟨ru,hru⟩:∃ y,C'[u]?=some y:=⟨_,đb (by rw[h2.len];exact hu)⟩;have hrl:=h2.row ru (đe hru);have ha:=hA.cell 4 _ rfl;obtain⟨gc,oc,bo,bc,hco,hgc,hrc,hrb⟩:=hR.c.at u ru hru;rw[hco,h2.len] at ha;rw[hrl] at hrc
  exact⟨gc,oc,cc,bo,bc,ru,ha,hrc,hrb,hrl,fun k=>by
   show(C'.getD u []).getD k false=_
   rw[đf (l:=C'),hru];rfl⟩)
 have H4:Hid (∀ W,Below w.heap.size w W->∃ co cc,W.cell? ⟨A,4,none⟩=some (.slice co c.us.length cc)):=ħ (fun W hW=>by
  obtain⟨qo,mo,uo,ho,co,qc,mc,uc,hc,cc,hA,hR,-⟩:=HR.o.below hW;have:=hA.cell 4 _ rfl;rw[hok.len] at this
  exact⟨co,cc,this⟩)
 clear hok hr;obtain⟨fb,hfb⟩:∃ y,Zfn (Za1 c C)=y:=⟨_,rfl⟩;rw[hfb] at HF;have HQ:=ħ (HQ.o fb hfb);clear hfb
 have HST:Hid (∀ n u C' out m,Zpm c C' u m=true->m<c.ms.length->(∀ j,j<m->Zpm c C' u j=false)->Zcl c (n+1) u C' out=Zcl c n (u+1) (Zcy c C' u m) (out++[m])):=ħ (fun n u C' out m h1 h2 h3=>by
  have:Zqg c C' u=some m:=by
   unfold Zqg;rw[List.find?_range_eq_some];exact⟨h1,List.mem_range.2 h2,fun j hj=>by rw[h3 j hj];rfl⟩
  show(match Zqg c C' u with | some m=>_ | none=>_)=_
  rw[this])
 have HSN:Hid (∀ n u C' out,(∀ j,j<c.ms.length->Zpm c C' u j=false)->Zcl c (n+1) u C' out=Zcl c n (u+1) C' out):=ħ (fun n u C' out h=>by
  have:Zqg c C' u=none:=by
   unfold Zqg;rw[List.find?_range_eq_none]
   exact fun j hj=>by rw[h j hj];rfl
  show(match Zqg c C' u with | some m=>_ | none=>_)=_
  rw[this])
 obtain⟨RES,hRES⟩:∃ y,Zcl c c.us.length 0 C []=y:=⟨_,rfl⟩;rw[hRES] at HQ;have HRE:=ħ hRES;clear hRES;generalize hnm:c.ms.length=nm at *;generalize hnu:c.us.length=nu at *;have HNM:=ħ hnm;clear hnm hnu
 go_enter Tryz.func85,Tryz.ntmps85
 go_wp2_with fail
 refine HF.o.mono ?_;rintro e w1 ⟨rfl,hb1⟩;have B1:=ħ hb1;clear hb1 HF
 cases fb with
 | false =>
  go_wp2_with fail
  go_ret2
  rw[HQ.o];exact⟨B1.o,rfl⟩
 | true =>
  have HQ2:Hid (∀ e w',Below w.heap.size w w'->(∃ o cap,e = .returned (.tuple #[.slice o RES.length cap,.bool true])/\OwnK w' w.heap.size 1 RES.length cap (Za0 RES) o)->Zl9 w c C e w'):=ħ (fun e w' h1 h2=>(HQ.o e w').2 ⟨h1,by rw[if_pos rfl];exact h2⟩)
  go_upto_region 4 with(fail)
  have B2:=ħ (B1.o.alloc B1.o.size (.cells #[] 3));have O2:=ħ (OwnK.empty w1 w.heap.size 3 B1.o.size);generalize w1.alloc (.cells #[] 3)=w2 at *;obtain⟨co,cc,a4⟩:=H4.o w2 B2.o;have HR2:Hid (Zd3 w2 (fun g=>blk (some ⟨w1.heap.size,0,none⟩)=some g) A c H C):=ħ (HR.o.free B2.o (fun g h=>by have h1:w1.heap.size=g:=đa h;have:=B1.o.size;omega))
  go_wp2_with fail
  clear a4 H4 HR;have HE0:Hid (Zcl c (nu-0) 0 C []=RES):=ħ HRE.o
  go_loopw [18,4,0] (fun kv ov xv wr=>∃ (u n:Nat) (o:Option Addr) (cap X:Nat) (C':List (List Bool)) (out:List Nat),kv = .int .i64 u/\ov = .slice o n cap/\xv = .pointer (some ⟨X,0,none⟩)/\u<=nu/\n<=u/\Hid (out.length=n)/\Hid (OwnK wr w.heap.size 1 n cap (Za0 out) o)/\Hid (Below w.heap.size w wr)/\Hid (Zd3 wr (fun g=>blk o=some g) X c H C')/\Hid (ReckOk c C')/\Hid (Zcl c (nu-u) u C' out=RES)) (fun k _ _ _=>(nu-intOf k).toNat)
  case atStart=>exact⟨0,0,_,0,A,C,[],rfl,rfl,rfl,by omega,đd _,ħ rfl,O2,B2,HR2,HOK,HE0⟩
  case round =>
   clear O2 B2 HR2 HOK HE0;obtain⟨u,n,o,cap,X,C',out,rfl,rfl,rfl,hu,hn,HN,HO,HB,HX,HXO,HE⟩:=hrel;have e2:IntKind.i64.wrap ((u:Int)+1)=((u+1:Nat):Int):=đh _ (by omega);by_cases hun:u<nu
   ·have kk:(u:Int)<nu:=by omega
    obtain⟨gc,oc,cc',bo,bc,ru,x4,xr,hrb,hrl,hcan⟩:=HROW.o X C' u wr HX.o.reck HXO.o hun;have HRB:=ħ (fun W (hW:Below wr.heap.size wr W)=>hrb.below hW);have HRL:=ħ hrl;have HPB:Hid (∀ k,Zpm c C' u k=(ru.getD k false&&Zfn (Za1 c (Zcy c C' u k)))):=ħ (fun k=>by unfold Zpm;rw[hcan]);obtain⟨rest,hrest⟩:∃ y,nu-u=y+1:=⟨nu-(u+1),by omega⟩
    have hrest2:nu-(u+1)=rest:=by omega
    have HREST:=ħ hrest2;rw[hrest] at HE;clear hrb hrl hcan hrest hrest2
    go_wp2_with fail
    clear x4 xr;have HW0:=ħ (đc wr.heap.size wr);obtain⟨wz,hwz⟩:∃ y,wr=y:=⟨_,rfl⟩;have HWZ:=ħ hwz;rw[hwz] at HRB HW0 HX HO HB;clear hwz
    go_loopw [29,4,0] (fun kv ov xv ws=>∃ (k:Nat),kv = .int .i64 k/\ov = .slice o n cap/\xv = .pointer (some ⟨X,0,none⟩)/\k<=nm/\Hid (∀ j,j<k->Zpm c C' u j=false)/\Hid (Below wz.heap.size wz ws)) (fun k _ _ _=>(nm-intOf k).toNat)
    case atStart=>exact⟨0,rfl,rfl,rfl,by omega,ħ (fun j hj=>absurd hj (đu j)),ħ (by rw[HWZ.o];exact đc _ _)⟩
    case round =>
     obtain⟨k,rfl,rfl,rfl,hk,HJ,HBW⟩:=hrel;have e3:IntKind.i64.wrap ((k:Int)+1)=((k+1:Nat):Int):=đh _ (by omega);by_cases hkn:k<nm
     ·have kk2:(k:Int)<nm:=by omega
      obtain⟨gb,ob,hbo,hbc⟩:=(HRB.o wr HBW.o).bool k (by rw[HRL.o];exact hkn);subst hbo;have HPK:=HPB.o k;obtain⟨bk,hbk⟩:∃ y,ru.getD k false=y:=⟨_,rfl⟩;rw[hbk] at hbc HPK;have HPK:=ħ HPK;clear hbk;have HXs:Hid (Zd3 wr (fun g=>blk o=some g) X c H C'):=ħ (HX.o.only (Only.of_below HBW.o) (fun g _ h=>h));have HOs:=ħ (HO.o.below HBW.o)
      cases bk with
      | false =>
       have HJ2:Hid (∀ j,j<k+1->Zpm c C' u j=false):=ħ (fun j hj=>by
        rcases đw j k with h | h
        ·exact HJ.o j h
        ·obtain rfl:j=k:=by omega
         rw[HPK.o];rfl)
       clear HPK HJ
       go_wp2_with fail
       clear hbc;go_roundw
       case rel=>exact⟨k+1,by go_num,rfl,rfl,by omega,HJ2,HBW⟩
       case measure=>simp only[intOf];omega
      | true =>
       have HC1:=ħ (HFX.o X C' (fun g=>blk o=some g) u k wr HXs.o (fun g h=>(HOs.o.blk_lt h).2) HXO.o hun hkn);have HXO2:=ħ (HXO.o.fix u k);have HFK:=ħ (fun W X2 h=>HFE.o X2 (Zcy c C' u k) W h HXO2.o);obtain⟨fk,hfk⟩:∃ y,Zfn (Za1 c (Zcy c C' u k))=y:=⟨_,rfl⟩;rw[hfk] at HFK;have HPK2:Hid (Zpm c C' u k=fk):=ħ (by rw[HPK.o,hfk];rfl);clear HPK hfk
       go_wp2_with fail
       refine HC1.o.mono ?_;clear HC1;intro e w2 hq;obtain⟨X2,rfl,hX2,-,hb2⟩:=hq;have HX2:=ħ hX2;have HB2:=ħ hb2;have HFC:=ħ (HFK.o w2 X2 hX2.reck);clear hX2 hb2 HFK
       go_wp2_with fail
       refine HFC.o.mono ?_;clear HFC;rintro e w3 ⟨rfl,hb3⟩;have B23:=ħ (HB2.o.trans (hb3.mono HB2.o.size));have HX3:Hid (Zd3 w3 (fun g=>blk o=some g) X2 c H (Zcy c C' u k)):=ħ (HX2.o.only (Only.of_below hb3) (fun g _ h=>h));have B3:=ħ (HBW.o.trans (B23.o.mono HBW.o.size));clear hb3 HB2 HX2 hbc B23
       cases fk with
       | false =>
        have HJ2:Hid (∀ j,j<k+1->Zpm c C' u j=false):=ħ (fun j hj=>by
         rcases đw j k with h | h
         ·exact HJ.o j h
         ·obtain rfl:j=k:=by omega
          rw[HPK2.o])
        clear HPK2 HJ
        go_wp2_with fail
        go_roundw
        case rel=>exact⟨k+1,by go_num,rfl,rfl,by omega,HJ2,B3⟩
        case measure=>simp only[intOf];omega
       | true =>
        have O3:=ħ (HO.o.below B3.o);have HB3:=ħ (HB.o.trans (B3.o.mono HB.o.size));have HE3:Hid (Zcl c rest (u+1) (Zcy c C' u k) (out++[k])=RES):=ħ (by rw[<- HST.o rest u C' out k HPK2.o hkn HJ.o];exact HE.o);clear HE HRB HXs HX
        go_upto_region 15 with(at_builtin;refine Zcn 33 3 (.int .i64 0) 1 8 Tryz.underlying33 Zbl rfl (by omega) (by omega) w3 w.heap.size rfl (.tmp 42) (.tmp 44) rfl o cap n (Za0 out) ?q1 O3.o HB3.o.size 1 1 #[.int .i64 (k:Int)] 3 ?q2 rfl (by omega) ?q3 ?q4 ?_;(case q1=>rfl);(case q2=>rfl);(case q3=>simp[Value.oneCell']);(case q4=>omega);intro g5 off5 c5 wa o8 gr8 b8 or8;have O8:=ħ o8;have B8:=ħ (HB3.o.trans b8);have R8:=ħ (HX3.o.only (Zb5 gr8) (Q':=fun g=>blk (some ⟨g5,off5,none⟩)=some g) (fun g hg h=>or8.elim (fun h2=>h2.trans h) (fun h2=>absurd hg (by have h1:g5=g:=đa h;omega))));clear o8 gr8 b8 or8)
        go_wp2_with fail
        go_roundw
        case rel=>exact⟨u+1,n+1,_,_,X2,Zcy c C' u k,out++[k],by go_num,rfl,rfl,by omega,by omega,ħ (by rw[đn,HN.o];rfl),ħ (by rw[<- Zbt];exact O8.o),B8,R8,HXO2,ħ (by rw[HREST.o];exact HE3.o)⟩
        case measure=>simp only[intOf];omega
     ·have kk2:¬ (k:Int)<nm:=by omega
      obtain rfl:nm=k:=by omega
      have HE2:Hid (Zcl c rest (u+1) C' out=RES):=ħ (by rw[<- HSN.o rest u C' out HJ.o];exact HE.o);have O3:=ħ (HO.o.below HBW.o);have HB3:=ħ (HB.o.trans (HBW.o.mono HB.o.size));have HX3:Hid (Zd3 wr (fun g=>blk o=some g) X c H C'):=ħ (HX.o.only (Only.of_below HBW.o) (fun g _ h=>h))
      go_wp2_with fail
      go_roundw
      case rel=>exact⟨u+1,n,o,cap,X,C',out,by go_num,rfl,rfl,by omega,by omega,HN,O3,HB3,HX3,HXO,ħ (by rw[HREST.o];exact HE2.o)⟩
      case measure=>simp only[intOf];omega
   ·have kk:¬ (u:Int)<nu:=by omega
    obtain rfl:nu=u:=by omega
    have HRR:Hid (RES=out):=ħ (by rw[<- HE.o,Nat.sub_self];rfl)
    go_wp2_with fail
    go_ret2
    refine HQ2.o _ _ HB.o ?_;rw[HRR.o,HN.o];exact⟨o,cap,rfl,HO.o⟩
end
section
open Go.RowKit Go.Sort Go.Maps
theorem Zw4(w:World)(ao:Option Addr)(n cap:Nat)(hc:n<=cap)(ho:ao=none->n=0) :
  Calls Tryz.prog 159 #[.slice ao n cap] w fun e w'=>e = .returned (.slice ao n n)/\w'=w:=by
 have h0:(0:Int)<=(n:Int):=by omega
 have h1:(n:Int)<=(cap:Int):=by omega
 cases ao with
 | none =>
  obtain rfl:=ho rfl
  go_enter Tryz.func159,Tryz.ntmps159
  go_wp2
  go_ret;exact⟨by simp,rfl⟩
 | some a =>
  go_enter Tryz.func159,Tryz.ntmps159
  go_wp2
  go_ret;exact⟨by simp,rfl⟩
theorem Zw5(w:World)(ao:Option Addr)(n cap:Nat)(hc:n<=cap)(ho:ao=none->n=0) :
  Calls Tryz.prog 160 #[.slice ao n cap] w fun e w'=>e = .returned (.slice ao n n)/\w'=w:=by
 have h0:(0:Int)<=(n:Int):=by omega
 have h1:(n:Int)<=(cap:Int):=by omega
 cases ao with
 | none =>
  obtain rfl:=ho rfl
  go_enter Tryz.func160,Tryz.ntmps160
  go_wp2
  go_ret;exact⟨by simp,rfl⟩
 | some a =>
  go_enter Tryz.func160,Tryz.ntmps160
  go_wp2
  go_ret;exact⟨by simp,rfl⟩
theorem Zj0 {ops:Array Oper} {rest:List Oper} {o:Oper} {a:Act} {Q:Exit->Act->World->Prop} (T E:TypeId) (z:Value) (k bt:Nat)
  (hT:Tryz.prog.underlying T=some (.slice E)) (hE:(Tryz.prog.info? E).map (fun i=>(i.zero,i.size,i.bytes))=some (some z,k,bt)) (hz:z.cells.size=k) (hk:0<k) (hbt:bt<=1000)
  (w:World) (hg:o.guard=none) (s x:Operand) (hop:o.op=Op.call { callee:=Callee.builtin Builtin.append,args:=#[s,x],argTypes:=#[T,T] })
  (ao:Option Addr) (n:Nat) (xs:List Value) (hs:a.eval s = .slice ao n n) (hnone:ao=none->n=0) (hxs:xs.length=n*k) (hrd:xs=[]\/∃ g off,ao=some ⟨g,off,none⟩/\g<w.heap.size/\Zav w g off xs)
  (A m c:Nat) (cs:List Value) (te:TypeId) (hx:a.eval x = .slice (some ⟨A,0,none⟩) m c) (hA:Zae w A te cs) (hm:cs.length=m*k) (hm0:0<m) (h1c:∀ u∈cs,u.oneCell'=true)
  (b1:n+m<=1000000000)
  (hK:∀ g cap' w',OwnK w' w.heap.size k (n+m) cap' (xs++cs) (some ⟨g,0,none⟩)->Below w.heap.size w w'->wpList Tryz.prog ops Q rest (a.put o.dst (.slice (some ⟨g,0,none⟩) (n+m) cap')) w') :
  wpList Tryz.prog ops Q (o::rest) a w:=by
 obtain⟨i0,hi,hz0,hz1,hz2⟩:=Zd8 hE
 refine wpList_append_grows w hg s x T hop E i0 z k bt hT hi hz0 hz1 hz2 hz hk ao n n xs hs (fun h=>⟨hnone h,hnone h⟩) hxs (fun b hb j u hj=>?_) ⟨A,0,none⟩ m c cs hx hm (fun j u hj=>hA.addr j u hj) h1c (by omega)
  (by simp only[maxLen];omega) (đo (Nat.mul_le_mul b1 hbt) (by decide)) ?_
 ·rcases hrd with h | ⟨g,off,h1,h2,h3⟩
  ·rw[h] at hj;simp at hj
  ·rw[h1] at hb
   obtain rfl:=đa hb;rw[Addr.add_lit];exact h3 j u hj
 ·intro v' w' ho hgr
  obtain⟨g',cap',rfl,hw,hl',hcm,hle⟩:=OwnK.of_row ho (by omega);exact hK g' cap' w' (.at g' 0 hw hl' hcm hle) ⟨hgr.os,hgr.tape,hgr.output,hgr.size,fun i hi=>hgr.block i hi (by simp)⟩
theorem Zo7{w:World}{rows:List (List Bool)}{co:Option Addr}(h:Zfb w rows co):∃ vals:List Value,vals.length=rows.length/\(∀ (i:Nat) (row:List Bool),rows[i]?=some row->∃ (bo:Option Addr) (bc:Nat),vals[i]?=some (Value.slice bo row.length bc)/\Zan Zc5 w bo row)/\(co=none->rows.length=0)/\(rows.length=0\/∃ g off,co=some ⟨g,off,none⟩/\g<w.heap.size/\Zav w g off vals):=by
 rcases h with h | ⟨g,off,rfl,hg,hr⟩
 ·subst h
  exact⟨[],rfl,fun i row hi=>by simp at hi,fun _=>rfl,.inl rfl⟩
 have hex:∀ i,i<rows.length->∃ v:Value,w.cell? ⟨g,off+i,none⟩=some v/\∀ row,rows[i]?=some row->∃ (bo:Option Addr) (bc:Nat),v = .slice bo row.length bc/\Zan Zc5 w bo row:=fun i hi=>by
  obtain⟨bo,bc,h1,h2⟩:=hr i rows[i] (đb hi);refine⟨.slice bo rows[i].length bc,h1,fun row hrow=>?_⟩;rw[đb hi] at hrow;obtain rfl:=đa hrow;exact⟨bo,bc,rfl,h2⟩
 let vals:List Value:=(List.range rows.length).map (fun i=>if h:i<rows.length then(hex i h).choose else undef)
 have hvl:vals.length=rows.length:=by show((List.range rows.length).map _).length=_;rw[đr,List.length_range]
 have hv:∀ i (h:i<rows.length),vals[i]?=some (hex i h).choose:=fun i h=>by
  show((List.range rows.length).map _)[i]?=_;rw[đj,List.getElem?_range h];show some (if h:i<rows.length then _ else _)=_;rw[dif_pos h]
 refine⟨vals,hvl,fun i row hrow=>?_,fun h=>(by cases h),.inr ⟨g,off,rfl,hg,fun j u hj=>?_⟩⟩
 ·have hlt:=(đg.1 hrow).1
  obtain⟨bo,bc,h1,h2⟩:=(hex i hlt).choose_spec.2 row hrow;exact⟨bo,bc,by rw[hv i hlt,h1],h2⟩
 ·have hlt:j<rows.length:=by rw[<- hvl];exact(đg.1 hj).1
  rw[hv j hlt] at hj;obtain rfl:=đa hj;exact(hex j hlt).choose_spec.1
end
end Go.Proofs.YtbcgocpihobjnaaGreatDoor
