import Derived.Test.YtbcgocpihobjnaaGreatDoorCC26
import Derived.Test.YtbcgocpihobjnaaGreatDoorCC27
import Derived.Test.YtbcgocpihobjnaaGreatDoorCC24
import Derived.Test.YtbcgocpihobjnaaGreatDoorCC23
set_option linter.all false
set_option maxHeartbeats 8000000
set_option maxRecDepth 100000
namespace Go.Proofs.YtbcgocpihobjnaaGreatDoor
section
open Go.RowKit Go.Sort Go.Maps
theorem Zz7{s:List Nat}(h:NmL s):NmOk s:=⟨h.1,đo h.2 (by decide)⟩
theorem Zp6(w:World)(P:Nat->Prop)(l:List Bnd)(ao:Option Addr)(n cap B:Nat)(hT:Tab w B)(hn:n=l.length)(hbig:n<=10000000000000)(hok:∀ b∈l,NmL b.n)(hk:Zoq w P l ao) :
  Calls Tryz.prog 91 #[.slice ao n cap] w fun e w'=>e = .returned (.bool (vbP l))/\RowKit.Below w.heap.size w w':=by
 have HK:=ħ hk;have HN:=ħ hn;have HOK:=ħ hok;have HT:=ħ hT;have bx:=(đc w.heap.size w).alloc (đd _) (.map #[] 0);have BX:=ħ bx;have QX:Hid (Zin (w.alloc (.map #[] 0)) w.heap.size []):=ħ (Zin.nil w);obtain⟨V,hV⟩:∃ V,vbP l=V:=⟨_,rfl⟩;have HV:Hid (V=vbG ((l.take 0).map (·.n)) (l.drop 0)):=ħ (by rw[<- hV];rfl);rw[hV];clear hk hn hok hT bx hV;have hmm:=@run_makeMap Tryz.prog
 go_enter Tryz.func91,Tryz.ntmps91
 go_upto_region 2 with(fail)
 generalize hwx:w.alloc (.map #[] 0)=wx at *
 go_wp2_with fail
 have S0:Hid (Zin wx w.heap.size ((l.take 0).map (·.n))):=ħ (by simpa using QX.o);have O0:Hid (Only wx wx (· = w.heap.size)):=ħ (Only.refl _ _);clear QX;have HTS:=ħ (fun W (hW:RowKit.Below w.heap.size w W)=>Zbw.step (w:=w) HT.o hW);have HXX:=ħ (fun(W:World) (hW:Only wx W (· = w.heap.size))=>Only.later (đc w.heap.size w) (Only.trans (Only.of_below (p:=fun g=>w.heap.size<=g) BX.o) (hW.mono (fun g _ hg=>by rw[hg];exact đd _))) (fun g hg=>hg));generalize hb:w.heap.size=b at *
 go_loopw [9] (fun cc wr=>∃ (i:Nat),cc = .int .i64 i/\i<=n/\Hid (Zin wr b ((l.take i).map (·.n)))/\Hid (Only wx wr (· = b))/\Hid (V=vbG ((l.take i).map (·.n)) (l.drop i))) (fun c _=>(n-intOf c).toNat)
 case atStart=>exact⟨0,rfl,by omega,S0,O0,HV⟩
 case round =>
  clear S0 O0 HV;obtain⟨i,rfl,hi,hq,ho,hv⟩:=hrel;have e2:IntKind.i64.wrap ((i:Int)+1)=((i+1:Nat):Int):=đh _ (by omega);by_cases hlt:i<n
  ·have ii:(i:Int)<n:=by omega
   have HQ:Hid (∃ q,l[i]?=some q/\∃ g off,ao=some ⟨g,off,none⟩/\g<b/\Zav wr g (off+i*2) [.string (Zad q.n),.int .i64 q.v]):=ħ (by
    have hl:i<l.length:=by rw[<- HN.o];exact hlt
    refine⟨l[i],đb hl,?_⟩;rcases HK.o with h | ⟨g,off,h1,h2,h3,h4⟩
    ·rw[h] at hl;exact absurd hl (đu _)
    ·have hgb:g<b:=by rw[<- hb];exact h3
     have h5:=Zex h4 i _ (đb hl);have hbx:=BX.o
     exact⟨g,off,h1,hgb,(h5.of_block (hbx.block g hgb)).of_block (ho.o.block g (by have:=hbx.size;omega) (by omega))⟩)
   obtain⟨q,hqi,gk,off,hao,hgl,hrd⟩:=HQ.o;clear HQ;have HST:=ħ (hv.o.trans (Ziw l i q hqi));have HNM:=ħ (HOK.o q (đe hqi));have HTK:Hid ((l.take i).map (·.n)++[q.n]=(l.take (i+1)).map (·.n)):=ħ (by rw[đv,hqi,List.map_append];rfl)
   have HSO:Hid (∀ k∈(l.take i).map (·.n),NmOk k):=ħ (fun k hk=>by
    obtain⟨x,hx,rfl⟩:=List.mem_map.1 hk
    exact Zz7 (HOK.o x (List.mem_of_mem_take hx)))
   have s0:=hrd 0 _ rfl;have s1:=hrd 1 _ rfl;rw[Nat.add_zero] at s0;have HAO:=ħ hao;clear hrd hqi;subst hao;have HLK:=ħ (fun W (hW:Zin W b ((l.take i).map (·.n)))=>Zin.look HSO.o q.n (Zz7 HNM.o) hW);have HVN:=ħ (fun W (hW:Only wx W (· = b))=>Zl1 q.n W B (show Tab W B from HTS.o W (HXX.o W hW)) HNM.o.2 HNM.o.1);have bx:=(đc wr.heap.size wr).alloc (đd _) (.cells #[.string (Zad q.n),.int .i64 q.v] 164);have Y1:Hid (Zae (wr.alloc (.cells #[.string (Zad q.n),.int .i64 q.v] 164)) wr.heap.size 164 [.string (Zad q.n),.int .i64 q.v]):=ħ (heap_alloc_new wr _);have hq1:=ħ (hq.o.step bx);have ho1:=ħ (ho.o.step bx);clear bx hq ho hv
   go_upto_region 5 with(fail)
   have HKY:=ħ (Zdu q.n (Zz7 HNM.o));have HNK:=ħ (Zz7 HNM.o);clear HNM s0 s1;generalize wr.heap.size=A at *;generalize hnm:Zad q.n=y at *;clear hnm;generalize q.v=v at *;generalize wr.alloc (.cells #[.string y,.int .i64 v] 164)=wy at *;have y0:=Y1.o.cell 0 _ rfl;have y1:=Y1.o.cell 1 _ rfl;have hlk:=HLK.o wy hq1.o;generalize hmt:decide (q.n∈(l.take i).map (·.n))=mt at *;clear hmt;generalize Za5 q.n=vn at *
   cases mt with
   | true =>
    have HF:Hid (V=false):=ħ HST.o
    go_wp2
    go_ret;exact⟨Zac HF.o.symm,HXX.o _ ho1.o⟩
   | false =>
    have HST2:Hid (V=(vn&&(decide (0<=v)&&(decide (v<=65535)&&vbG ((l.take (i+1)).map (·.n)) (l.drop (i+1)))))):=ħ HST.o;clear HST
    go_wp2_with fail
    refine(HVN.o wy ho1.o).mono ?_;rintro e w2 ⟨rfl,d2⟩;have hq2:=ħ (hq1.o.step (Zbv d2));have ho2:=ħ (ho1.o.step (Zbv d2));have Y2:=ħ (Y1.o.step (Zbv d2));clear d2 y0 y1 hlk hq1 ho1 Y1;have y0:=Y2.o.cell 0 _ rfl;have y1:=Y2.o.cell 1 _ rfl
    cases vn with
    | false =>
     have HF:Hid (V=false):=ħ HST2.o
     go_wp2
     go_ret;exact⟨Zac HF.o.symm,hb ▸ HXX.o _ ho2.o⟩
    | true =>
     have HST3:Hid (V=(decide (0<=v)&&(decide (v<=65535)&&vbG ((l.take (i+1)).map (·.n)) (l.drop (i+1))))):=ħ HST2.o;clear HST2;by_cases v0:v<0
     ·have HF:Hid (V=false):=ħ (by rw[HST3.o,decide_eq_false (show ¬ 0<=v by omega),đq])
      go_wp2
      go_ret;exact⟨Zac HF.o.symm,hb ▸ HXX.o _ ho2.o⟩
     ·by_cases v1:65535<v
      ·have HF:Hid (V=false):=ħ (by rw[HST3.o,decide_eq_false (show ¬ v<=65535 by omega),đq,Bool.and_false])
       go_wp2
       go_ret;exact⟨Zac HF.o.symm,hb ▸ HXX.o _ ho2.o⟩
      ·have HF:Hid (V=vbG ((l.take (i+1)).map (·.n)) (l.drop (i+1))):=ħ (by rw[HST3.o,decide_eq_true (show 0<=v by omega),decide_eq_true (show v<=65535 by omega),đk,đk])
       have HLEN:Hid (((l.take i).map (·.n)).length<maxLen):=ħ (by rw[đr,List.length_take];exact Nat.lt_of_le_of_lt (Nat.min_le_left _ _) (Nat.lt_of_le_of_lt hi (Nat.lt_of_le_of_lt hbig (by decide))));obtain⟨D,hown,hh,ha⟩:=hq2.o;have HH:=ħ hh;have HA:=ħ ha;have HO:=ħ hown;clear hh ha hown
       go_wp2_with (at_mapUpdate;refine wpList_mapUpdate_own _ rfl (.tmp 33) (.tmp 35) _ 162 rfl 9 4 Zm2 Tryz.underlying162 (plainElem Tryz.prog 4) b ((l.take i).map (·.n)).length D rfl HO.o HLEN.o (.string y) (.bool true) (Zib q.n) rfl rfl HKY.o (.lit (.bool true)) [] (plainElem_bool Tryz.underlying4 true) ?_;intro w6 hown6 hgrow6;have hq6:=ħ (Zin.put q.n HNK.o HO.o HH.o HA.o hown6);have ho6:=ħ (ho2.o.trans (Zc1 hgrow6));clear hown6 hgrow6 y0 y1 hq2 ho2 Y2 HO HH HA)
       rw[HTK.o] at hq6;go_roundw
       case rel=>exact⟨i+1,by go_num,by omega,hq6,ho6,HF⟩
       case measure=>simp only[intOf];omega
  ·have ii:¬ ((i:Int)<n):=by omega
   have HF:Hid (V=true):=ħ (by rw[hv.o,List.drop_eq_nil_of_le (by rw[<- HN.o];omega),vbG])
   go_wp2
   go_ret;exact⟨Zac HF.o.symm,HXX.o _ ho.o⟩
def Zz8(n:Int):Bool:=!inB n 0 4096
theorem Z2c(n:Int)(w:World):Calls Tryz.prog 139 #[.int .i64 n] w fun e w'=>e = .returned (.bool (Zz8 n))/\w=w':=by
 have HW:=ħ (fun W=>Zbn n 0 4096 W);unfold Zz8;generalize inB n 0 4096=b at *
 go_enter Tryz.func139,Tryz.ntmps139
 go_wp2_with fail
 refine(HW.o w).mono ?_;rintro e wa ⟨rfl,rfl⟩
 go_wp2_with fail
 go_ret;exact⟨rfl,rfl⟩
theorem Zz9(w:World)(ao:Option Addr)(l:List Int)(c:Nat)(h:Zan Zbg w ao l)(hl:l.length<=100000000000000) :
  Calls Tryz.prog 88 #[.slice ao l.length c,.func (.func 139) #[] #[]] w fun e w'=>e = .returned (.bool (l.any Zz8))/\Below w.heap.size w w':=by
 rcases h with h | ⟨g,off,h1,h2,h3⟩
 ·subst h
  exact(Tryz.slices_ContainsFunc_empty (α:=Int) ao c _ w).mono (fun e w' ⟨a,b⟩=>⟨a,by rw[b];exact đc _ _⟩)
 ·subst h1
  refine(Tryz.slices_ContainsFunc (α:=Int) (.int .i64) Zz8 139 #[] (enters_of Tryz.func139 (by kernel_rfl) rfl) g off l.length c l w ?hp (đd _) (by omega) (fun j hj=>?_)).mono (fun e w' ⟨a,q,b⟩=>⟨by rw[a,List.take_length],Zbv ⟨q,b⟩⟩)
  case hp=>exact fun W x _=>(Z2c x W).mono (fun e w' ⟨a,b⟩=>⟨a,0,b.symm⟩)
  have:=h3 j (.int .i64 l[j]) (by rw[<- Zed];unfold ivs;rw[đj,đb hj];rfl);rw[this,getElem!_pos l j hj]
def Zc8(m:Mem):Bool:=vbP m.b&&decide (m.t.length<=16)&&!m.t.any Zz8&&inB m.r (-1) 16
theorem Ztd(w:World)(m:Mem)(cs:List Value)(hm:Zur w m cs)(B:Nat)(hT:Tab w B)(hb:∀ b∈m.b,NmL b.n)(h1:m.b.length<=10000000000000)(h2:m.t.length<=100000000000000) :
  Calls Tryz.prog 77 #[.agg cs.toArray] w fun e w'=>e = .returned (.bool (Zc8 m))/\Below w.heap.size w w':=by
 obtain⟨bo,bc,to',tc,rfl,hb1,ht⟩:=hm;have HVB:=ħ (fun W (hW:Below w.heap.size w W)=>Zp6 W (fun _=>True) m.b bo m.b.length bc B (Zbw.step (w:=w) hT hW) rfl h1 hb (hb1.below hW));have HOD:=ħ (fun W (hW:Below w.heap.size w W)=>Zz9 W to' m.t tc (ht.below hW) h2);have HWI:=ħ (fun W=>Zbn m.r (-1) 16 W);have bx:=(đc w.heap.size w).alloc (đd _) (.cells #[.slice bo m.b.length bc,.slice to' m.t.length tc,.int .i64 m.r] 44);have B1:=ħ bx;have X1:Hid (Zae (w.alloc (.cells #[.slice bo m.b.length bc,.slice to' m.t.length tc,.int .i64 m.r] 44)) w.heap.size 44 [.slice bo m.b.length bc,.slice to' m.t.length tc,.int .i64 m.r]):=ħ (heap_alloc_new w _);clear bx hT hb hb1 ht;unfold Zc8;generalize m.t.any Zz8=b3 at *;generalize vbP m.b=b1 at *;generalize m.b.length=nb at *;generalize m.t.length=nt at *;generalize inB m.r (-1) 16=b4 at *;generalize m.r=mr at *
 go_enter Tryz.func77,Tryz.ntmps77
 go_upto_region 1 with(fail)
 generalize w.alloc (.cells #[.slice bo nb bc,.slice to' nt tc,.int .i64 mr] 44)=w1 at *;have x0:=X1.o.cell 0 _ rfl
 go_wp2_with fail
 refine(HVB.o w1 B1.o).mono ?_;rintro e w2 ⟨rfl,b2⟩;have B2:=ħ (B1.o.trans (b2.mono B1.o.size));have X2:=ħ (X1.o.step b2);clear b2 x0 B1 X1;have x0:=X2.o.cell 0 _ rfl;have x1:=X2.o.cell 1 _ rfl;have x2:=X2.o.cell 2 _ rfl
 cases b1 with
 | false =>
  go_wp2_with fail
  go_ret;exact⟨Zac (by simp),B2.o⟩
 | true =>
  by_cases h16:nt<=16
  ·have hi:(nt:Int)<=16:=by omega
   have HD:Hid (decide (nt<=16)=true):=ħ (decide_eq_true h16)
   go_wp2_with fail
   refine(HOD.o w2 B2.o).mono ?_;rintro e w3 ⟨rfl,b3'⟩;have B3:=ħ (B2.o.trans (b3'.mono B2.o.size));have X3:=ħ (X2.o.step b3');clear b3' x0 x1 x2 B2 X2;have x2:=X3.o.cell 2 _ rfl
   cases b3 with
   | true =>
    go_wp2_with fail
    go_ret;exact⟨Zac (by simp),B3.o⟩
   | false =>
    go_wp2_with fail
    refine(HWI.o w3).mono ?_;rintro e w4 ⟨rfl,rfl⟩
    go_wp2_with fail
    go_ret;exact⟨Zac (by first | rfl | simp[HD.o]),B3.o⟩
  ·have hi:¬ (nt:Int)<=16:=by omega
   have HD:Hid (decide (nt<=16)=false):=ħ (decide_eq_false h16)
   go_wp2_with fail
   go_ret;exact⟨Zac (by first | rfl | simp[HD.o]),B2.o⟩
end
section
open Go.RowKit Go.Sort
def Z3g(q:Prd):Prop:=ByL q/\Zb0 q<=1000000
def Z2d(m:Mem):Prop:=(∀ b∈m.b,NmL b.n)/\m.b.length<=10000000000000/\m.t.length<=100000000000000
theorem Z2e(B:Nat):PrF (fun W=>Tab W B) (fun _=>True) 73 #[] (fun q=>!Zba q) Z3g:=by
 refine⟨enters_of Tryz.func73 (by kernel_rfl) rfl,fun w w' h hb=>h.step hb,fun q w vs hS h hT=>?_⟩;obtain⟨xa,xn,xc,rfl,-⟩:=h.form;have HV:=ħ (fun W (hW:Below w.heap.size w W)=>Ztc q W _ _ B hS.2 hS.1 (h.below hW) (Zbw.step (w:=w) hT hW));have bx:=(đc w.heap.size w).alloc (đd _) (.cells #[.int .i64 q.k,.string (Zad q.l),.string (Zad q.r),.int .i64 q.c,.slice xa xn xc] 54);have B1:=ħ bx;have X1:Hid (Zae (w.alloc (.cells #[.int .i64 q.k,.string (Zad q.l),.string (Zad q.r),.int .i64 q.c,.slice xa xn xc] 54)) w.heap.size 54 [.int .i64 q.k,.string (Zad q.l),.string (Zad q.r),.int .i64 q.c,.slice xa xn xc]):=ħ (heap_alloc_new w _);clear bx h hT hS;generalize Zba q=b at *;generalize q.k=q0 at *;generalize Zad q.l=q1 at *;generalize Zad q.r=q2 at *;generalize q.c=q3 at *
 go_enter Tryz.func73,Tryz.ntmps73
 go_upto_region 1 with(fail)
 generalize w.alloc (.cells #[.int .i64 q0,.string q1,.string q2,.int .i64 q3,.slice xa xn xc] 54)=w1 at *;have s0:=X1.o.cell 0 _ rfl;have s1:=X1.o.cell 1 _ rfl;have s2:=X1.o.cell 2 _ rfl;have s3:=X1.o.cell 3 _ rfl;have s4:=X1.o.cell 4 _ rfl
 go_wp2_with fail
 refine(HV.o w1 B1.o).mono ?_;rintro e w2 ⟨rfl,b2⟩;have B2:=ħ (B1.o.trans (b2.mono B1.o.size));clear b2 s0 s1 s2 s3 s4
 go_wp2_with fail
 go_ret;exact⟨rfl,B2.o⟩
theorem Z2f(B:Nat):memFn (fun W=>Tab W B) 76 #[] (fun q=>!Zc8 q) Z2d:=by
 refine⟨enters_of Tryz.func76 (by kernel_rfl) rfl,fun w w' h hb=>h.step hb,fun q w vs hS h hT=>?_⟩;have HV:=ħ (fun W (hW:Below w.heap.size w W)=>Ztd W q vs (h.below hW) B (Zbw.step (w:=w) hT hW) hS.1 hS.2.1 hS.2.2);obtain⟨bo,bc,to',tc,rfl,-,-⟩:=h;have bx:=(đc w.heap.size w).alloc (đd _) (.cells #[.slice bo q.b.length bc,.slice to' q.t.length tc,.int .i64 q.r] 44);have B1:=ħ bx;have X1:Hid (Zae (w.alloc (.cells #[.slice bo q.b.length bc,.slice to' q.t.length tc,.int .i64 q.r] 44)) w.heap.size 44 [.slice bo q.b.length bc,.slice to' q.t.length tc,.int .i64 q.r]):=ħ (heap_alloc_new w _);clear bx hT hS;generalize Zc8 q=b at *;generalize q.b.length=nb at *;generalize q.t.length=nt at *;generalize q.r=qr at *
 go_enter Tryz.func76,Tryz.ntmps76
 go_upto_region 1 with(fail)
 generalize w.alloc (.cells #[.slice bo nb bc,.slice to' nt tc,.int .i64 qr] 44)=w1 at *;have s0:=X1.o.cell 0 _ rfl;have s1:=X1.o.cell 1 _ rfl;have s2:=X1.o.cell 2 _ rfl
 go_wp2_with fail
 refine(HV.o w1 B1.o).mono ?_;rintro e w2 ⟨rfl,b2⟩;have B2:=ħ (B1.o.trans (b2.mono B1.o.size));clear b2 s0 s1 s2
 go_wp2_with fail
 go_ret;exact⟨rfl,B2.o⟩
theorem Z2g(A:Nat)(qo mo uo:Option Addr)(nq nm nu qc mc uc:Nat)(h1:nq<=1000000000)(h2:nm<=1000000000) :
  useFn (fun W=>Zae W A 26 [.slice qo nq qc,.slice mo nm mc,.slice uo nu uc]) 79 #[.pointer (some ⟨A,0,none⟩)] (fun q=>!Zch nq nm q) (fun _=>True):=by
 refine⟨enters_of Tryz.func79 (by kernel_rfl) rfl,fun w w' h hb=>h.step hb,fun q w vs hS h hT=>?_⟩;subst h;have HV:=ħ (fun W=>Zlz W qo mo uo nq nm nu qc mc uc q h1 h2);have bx:=(đc w.heap.size w).alloc (đd _) (.cells #[.int .i64 q.q,.int .i64 q.w,.int .i64 q.f,.int .i64 q.h] 39);have B1:=ħ bx;have X1:Hid (Zae (w.alloc (.cells #[.int .i64 q.q,.int .i64 q.w,.int .i64 q.f,.int .i64 q.h] 39)) w.heap.size 39 [.int .i64 q.q,.int .i64 q.w,.int .i64 q.f,.int .i64 q.h]):=ħ (heap_alloc_new w _);have C1:=ħ (hT.step bx);clear bx hT hS;unfold Zcg at *;generalize Zch nq nm q=b at *;generalize q.q=x0 at *;generalize q.w=x1 at *;generalize q.f=x2 at *;generalize q.h=x3 at *
 go_enter Tryz.func79,Tryz.ntmps79
 go_upto_region 1 with(fail)
 generalize w.alloc (.cells #[.int .i64 x0,.int .i64 x1,.int .i64 x2,.int .i64 x3] 39)=w1 at *;have s0:=X1.o.cell 0 _ rfl;have s1:=X1.o.cell 1 _ rfl;have s2:=X1.o.cell 2 _ rfl;have s3:=X1.o.cell 3 _ rfl;have c0:=C1.o.cell 0 _ rfl;have c1:=C1.o.cell 1 _ rfl;have c2:=C1.o.cell 2 _ rfl
 go_wp2_with fail
 refine(HV.o w1).mono ?_;rintro e w2 ⟨rfl,b2⟩;have B2:=ħ (B1.o.trans (b2.mono B1.o.size));clear b2 s0 s1 s2 s3 c0 c1 c2
 go_wp2_with fail
 go_ret;exact⟨rfl,B2.o⟩
def Zal(c:Crw):Bool:=decide (c.qs.length<=128)&&decide (c.ms.length<=64)&&decide (c.us.length<=4096)&&!c.qs.any (fun q=>!Zba q)&&!c.ms.any (fun m=>!Zc8 m)&&!c.us.any (fun x=>!Zch c.qs.length c.ms.length x)
structure CrwOk (c:Crw):Prop where
 q:∀ p∈c.qs,Z3g p
 m:∀ m∈c.ms,Z2d m
 nq:c.qs.length<=1000000
 nm:c.ms.length<=1000000
 nu:c.us.length<=1000000
theorem Zte(w:World)(c:Crw)(cs:List Value)(hc:Zhs w c cs)(B:Nat)(hT:Tab w B)(hok:CrwOk c) :
  Calls Tryz.prog 20 #[.agg cs.toArray] w fun e w'=>e = .returned (.bool (Zal c))/\Below w.heap.size w w':=by
 obtain⟨qo,qc,mo,mc,uo,uc,rfl,hq,hm,hu,-⟩:=hc
 have HQ:=ħ (fun W (hW:Below w.heap.size w W)=>Zoo W (fun _=>True) c.qs qo c.qs.length qc rfl hok.nq (by
  rcases hq.below hW with h | ⟨g,off,h1,h2,h3,h4⟩
  ·exact .inl h
  ·exact .inr ⟨g,off,h1,h2,h3,h4⟩) _ _ _ _ _ (Z2e B) hok.q (Zbw.step (w:=w) hT hW))
 have HM:=ħ (fun W (hW:Below w.heap.size w W)=>Zp4 W c.ms mo c.ms.length mc rfl hok.nm (hm.below hW) _ _ _ _ _ (Z2f B) hok.m (Zbw.step (w:=w) hT hW));have HU:=ħ (fun W (hW:Below w.heap.size w W) A (hA:Zae W A 26 [.slice qo c.qs.length qc,.slice mo c.ms.length mc,.slice uo c.us.length uc])=>Zp5 W c.us uo c.us.length uc rfl hok.nu (hu.below hW) _ _ _ _ _ (Z2g A qo mo uo c.qs.length c.ms.length c.us.length qc mc uc (by have:=hok.nq;omega) (by have:=hok.nm;omega)) (fun _ _=>trivial) hA);have hnq:=hok.nq;have hnm:=hok.nm;have hnu:=hok.nu;clear hq hm hu hok hT;unfold Zal;generalize c.qs.any (fun q=>!Zba q)=b1 at *;generalize c.ms.any (fun m=>!Zc8 m)=b2 at *;generalize c.us.any (fun x=>!Zch c.qs.length c.ms.length x)=b3 at *;generalize c.qs.length=nq at *;generalize c.ms.length=nm at *;generalize c.us.length=nu at *;have bx:=(đc w.heap.size w).alloc (đd _) (.cells #[.slice qo nq qc,.slice mo nm mc,.slice uo nu uc] 26);have B1:=ħ bx;have X1:Hid (Zae (w.alloc (.cells #[.slice qo nq qc,.slice mo nm mc,.slice uo nu uc] 26)) w.heap.size 26 [.slice qo nq qc,.slice mo nm mc,.slice uo nu uc]):=ħ (heap_alloc_new w _);clear bx
 go_enter Tryz.func20,Tryz.ntmps20
 go_upto_region 1 with(fail)
 generalize w.alloc (.cells #[.slice qo nq qc,.slice mo nm mc,.slice uo nu uc] 26)=w1 at *;have c0:=X1.o.cell 0 _ rfl;have c1:=X1.o.cell 1 _ rfl;have c2:=X1.o.cell 2 _ rfl;by_cases g1:128<nq
 ·have i1:(128:Int)<(nq:Int):=by omega
  have HD:Hid (decide (nq<=128)=false):=ħ (decide_eq_false (by omega))
  go_wp2_with fail
  go_ret;exact⟨Zac (by first | rfl | simp[HD.o]),B1.o⟩
 have i1:¬ (128:Int)<(nq:Int):=by omega
 have HD1:Hid (decide (nq<=128)=true):=ħ (decide_eq_true (by omega));by_cases g2:64<nm
 ·have i2:(64:Int)<(nm:Int):=by omega
  have HD:Hid (decide (nm<=64)=false):=ħ (decide_eq_false (by omega))
  go_wp2_with fail
  go_ret;exact⟨Zac (by first | rfl | simp[HD.o]),B1.o⟩
 have i2:¬ (64:Int)<(nm:Int):=by omega
 have HD2:Hid (decide (nm<=64)=true):=ħ (decide_eq_true (by omega));by_cases g3:4096<nu
 ·have i3:(4096:Int)<(nu:Int):=by omega
  have HD:Hid (decide (nu<=4096)=false):=ħ (decide_eq_false (by omega))
  go_wp2_with fail
  go_ret;exact⟨Zac (by first | rfl | simp[HD.o]),B1.o⟩
 have i3:¬ (4096:Int)<(nu:Int):=by omega
 have HD3:Hid (decide (nu<=4096)=true):=ħ (decide_eq_true (by omega))
 go_wp2_with fail
 refine(HQ.o w1 B1.o).mono ?_;rintro e w2 ⟨rfl,b2'⟩;have B2:=ħ (B1.o.trans (b2'.mono B1.o.size));have X2:=ħ (X1.o.step b2');clear b2' c0 c1 c2 i1 i2 i3 B1 X1;have c0:=X2.o.cell 0 _ rfl;have c1:=X2.o.cell 1 _ rfl;have c2:=X2.o.cell 2 _ rfl
 cases b1 with
 | true =>
  go_wp2_with fail
  go_ret;exact⟨Zac (by first | rfl | simp[HD1.o,HD2.o,HD3.o]),B2.o⟩
 | false =>
  go_wp2_with fail
  refine(HM.o w2 B2.o).mono ?_;rintro e w3 ⟨rfl,b3'⟩;have B3:=ħ (B2.o.trans (b3'.mono B2.o.size));have X3:=ħ (X2.o.step b3');clear b3' c0 c1 c2 B2 X2;have c0:=X3.o.cell 0 _ rfl;have c1:=X3.o.cell 1 _ rfl;have c2:=X3.o.cell 2 _ rfl
  cases b2 with
  | true =>
   go_wp2_with fail
   go_ret;exact⟨Zac (by first | rfl | simp[HD1.o,HD2.o,HD3.o]),B3.o⟩
  | false =>
   go_wp2_with fail
   refine(HU.o w3 B3.o _ X3.o).mono ?_;rintro e w4 ⟨rfl,b4'⟩;have B4:=ħ (B3.o.trans (b4'.mono B3.o.size));clear b4' c0 c1 c2 B3 X3
   go_wp2_with fail
   go_ret;exact⟨Zac (by first | rfl | simp[HD1.o,HD2.o,HD3.o]),B4.o⟩
end
end Go.Proofs.YtbcgocpihobjnaaGreatDoor
