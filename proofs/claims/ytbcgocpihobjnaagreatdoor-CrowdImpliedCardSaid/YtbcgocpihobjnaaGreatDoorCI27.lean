import Derived.Test.YtbcgocpihobjnaaGreatDoorCI26
import Derived.Test.YtbcgocpihobjnaaGreatDoorIter
import Derived.Test.YtbcgocpihobjnaaGreatDoorCI22
import Derived.Test.YtbcgocpihobjnaaGreatDoorCI23
set_option linter.all false
set_option maxHeartbeats 16000000
set_option maxRecDepth 100000
namespace Go.Proofs.YtbcgocpihobjnaaGreatDoor
section
open Go.RowKit Go.Sort Go.Maps
def Zcl (w:World) (P:Nat→Prop) (l:List Prd) (ao:Option Addr):Prop:=l=[]∨∃ g off,ao=some ⟨g,off,none⟩∧P g∧g<w.heap.size∧Za6 w P l g off
def Zcg (ks:List Ky):List (List Nat):=ks.flatMap Zuy
theorem Zts (ks:List Ky) (j:Nat) (k:Ky) (h:ks[j]?=some k):Zcg (ks.take (j+1))=Zcg (ks.take j)++[k.l]++[k.r]:=by
 unfold Zcg;rw[List.take_add_one,h,List.flatMap_append];simp[Zuy]
theorem Ztt (l:List Prd) (i:Nat) (q:Prd) (h:l[i]?=some q):Zcg ((l.take (i+1)).flatMap Zam)=Zcg ((l.take i).flatMap Zam)++Zcg (Zam q):=by
 unfold Zcg;rw[List.take_add_one,h,List.flatMap_append,List.flatMap_append];simp
theorem Zfu (ks:List Ky):(Zcg ks).length=2*ks.length:=by
 unfold Zcg
 induction ks with
 | nil=>rfl
 | cons k ks ih=>rw[List.flatMap_cons,List.length_append,ih];simp[Zuy];omega
theorem Zqk (ks:List Ky) (x:List Nat):x∈Znt ks↔x∈(Zcg ks).filter (fun s=>s != []):=by
 rw[Zji,List.mem_filter];simp[Zcg,Zuy,List.mem_flatMap,and_comm]
def Z4t (s:List Nat):Value:=.string (Zac s)
theorem Zo5 (l:List Prd) (w:World) (P:Nat→Prop) (ao:Option Addr) (n cap:Nat) (hn:n=l.length) (hl:Zcl w P l ao) (hf:∀ q∈l,Zcc q=true) (hc:∀ q∈l,Zcx q≤1000000) (hbig:(l.flatMap Zam).length≤1000000) (hnb:n≤1000000) :
  Calls Tryz.prog 203 #[.slice ao n cap] w fun e w'=>∃ (ro:Option Addr) (rc:Nat),e = .returned (.slice ro (Znt (l.flatMap Zam)).length rc)∧OwnK w' w.heap.size 1 (Znt (l.flatMap Zam)).length rc ((Znt (l.flatMap Zam)).map Z4t) ro∧RowKit.Below w.heap.size w w':=by
 have HL:=ħ hl;have HN:=ħ hn;have HF:=ħ hf;have HC:=ħ hc;have HBG:=ħ hbig;have HFK:=ħ (fun (q:Prd) (hq:q∈l) (k:Ky) (hk:k∈Zam q)=>Zd5 q (hf q hq) k ((Zb8 q k).1 hk))
 have HSO:Hid (∀ s∈Zcg (l.flatMap Zam),NmOk s):=ħ (fun s hs=>by
  unfold Zcg at hs;obtain⟨k,hk,hs⟩:=List.mem_flatMap.1 hs;obtain⟨q,hq,hk⟩:=List.mem_flatMap.1 hk;have hko:=HFK.o q hq k hk;simp only[Zuy,List.mem_cons,List.not_mem_nil,or_false] at hs;rcases hs with rfl | rfl
  ·exact Zl0 hko
  ·exact Zl1 hko)
 have bx:=(RowKit.Below.refl w.heap.size w).alloc (Nat.le_refl _) (.map #[] 0);have BX:=ħ bx;have QX:Hid (Zfa (w.alloc (.map #[] 0)) w.heap.size []):=ħ (Zfa.nil w);clear hl hn hf hc hbig bx;have hmm:=@run_makeMap Tryz.prog
 go_enter Tryz.func203,Tryz.ntmps203
 go_upto_region 2 with (fail)
 clear hmm;generalize hwx:w.alloc (.map #[] 0)=wx at *;clear hwx
 go_wp2_with fail
 have S0:Hid (Zfa wx w.heap.size (Zcg ((l.take 0).flatMap Zam))):=ħ QX.o;have O0:Hid (Only wx wx (· = w.heap.size)):=ħ (Only.refl _ _);clear QX;have HXX:=ħ (fun (W:World) (hW:Only wx W (· = w.heap.size))=>Only.later (RowKit.Below.refl w.heap.size w) (Only.trans (Only.of_below (p:=fun g=>w.heap.size≤g) BX.o) (hW.mono (fun g _ hg=>by rw[hg];exact Nat.le_refl _))) (fun g hg=>hg))
 have HLB:Hid (l=[]∨∃ g off,ao=some ⟨g,off,none⟩∧g<w.heap.size∧∀ W,Only wx W (· = w.heap.size)→Za6 W (fun g=>g<w.heap.size) l g off∧w.heap.size<W.heap.size):=ħ (by
  rcases HL.o with h | ⟨g,off,h1,h2,h3,h4⟩
  ·exact .inl h
  ·refine .inr ⟨g,off,h1,h3,fun W hW=>⟨?_,?_⟩⟩
   ·have hbx:=BX.o
    have hall:∀ x,x<w.heap.size→W.heap[x]?=w.heap[x]?:=fun x hx=>(hW.block x (Nat.lt_of_lt_of_le hx hbx.size) (by omega)).trans (hbx.block x hx)
    exact Za6.keep (fun x _ hx=>hall x hx) (Nat.le_trans hbx.size hW.size) (fun x _ hx=>hx) l g off h2 h3 h4
   ·have:=S0.o.lt
    exact Nat.lt_of_lt_of_le this hW.size)
 clear HL;generalize hb:w.heap.size=b at *
 go_loopw [11] (fun cc wr=>∃ (i:Nat),cc = .int .i64 i∧i≤n∧Hid (Zfa wr b (Zcg ((l.take i).flatMap Zam)))∧Hid (Only wx wr (· = b))) (fun c _=>(n-intOf c).toNat)
 case atStart=>exact⟨0,rfl,by omega,S0,O0⟩
 case round =>
  clear S0 O0;obtain⟨i,rfl,hi,hq,ho⟩:=hrel;have e2:IntKind.i64.wrap ((i:Int)+1)=((i+1:Nat):Int):=IntWalk.i64_in _ (by omega);by_cases hlt:i<n
  ·have ii:(i:Int)<n:=by omega
   have HQ:Hid (∃ q,l[i]?=some q∧∃ g off,ao=some ⟨g,off,none⟩∧∃ vs,Zan wr (fun g=>g<b) q vs∧Zau wr g (off+i*5) vs):=ħ (by
    have hll:i<l.length:=by rw[← HN.o];exact hlt
    refine⟨l[i],List.getElem?_eq_getElem hll,?_⟩;rcases HLB.o with h | ⟨g,off,h1,h3,h4⟩
    ·rw[h] at hll;exact absurd hll (Nat.not_lt_zero _)
    ·obtain⟨vs,hv1,hv2⟩:=Za6.at l g off i _ (List.getElem?_eq_getElem hll) (h4 wr ho.o).1
     exact⟨g,off,h1,vs,hv1,hv2⟩)
   obtain⟨q,hqi,gk,off,hao,vs,hpc,hrd⟩:=HQ.o;clear HQ;have HQM:=ħ (List.mem_of_getElem? hqi);have HTK:=ħ (Ztt l i q hqi);obtain⟨xa,xn,xc,hvf,-⟩:=hpc.form;rw[hvf] at hrd hpc;have PC:=ħ hpc;have s0:=hrd 0 _ rfl;have s1:=hrd 1 _ rfl;have s2:=hrd 2 _ rfl;have s3:=hrd 3 _ rfl;have s4:=hrd 4 _ rfl;rw[Nat.add_zero] at s0;have HAO:=ħ hao;have HAT:=ħ (fun W (hW:Zan W (fun g=>g<b) q [.int .i64 q.k,.string (Zac q.l),.string (Zac q.r),.int .i64 q.c,.slice xa xn xc])=>Zj9 W (fun g=>g<b) q _ hW (HF.o q HQM.o) (HC.o q HQM.o));have HKF:=ħ (HFK.o q HQM.o)
   have HLN:Hid ((Zcg ((l.take i).flatMap Zam)).length+2*(Zam q).length≤2000000):=ħ (by
    have e1:=congrArg List.length HTK.o;rw[List.length_append,Zfu (Zam q)] at e1;rw[← e1,Zfu]
    have:((l.take (i+1)).flatMap Zam).length≤(l.flatMap Zam).length:=by
     conv=>rhs;rw[← List.take_append_drop (i+1) l,List.flatMap_append,List.length_append]
     omega
    have:=HBG.o
    omega)
   have HSS:Hid (∀ s∈Zcg ((l.take i).flatMap Zam),NmOk s):=ħ (fun s hs=>HSO.o s (by
    unfold Zcg at hs ⊢;obtain⟨k,hk,hs⟩:=List.mem_flatMap.1 hs;obtain⟨p,hp,hk⟩:=List.mem_flatMap.1 hk
    exact List.mem_flatMap.2 ⟨k,List.mem_flatMap.2 ⟨p,List.mem_of_mem_take hp,hk⟩,hs⟩))
   clear hrd hpc hvf vs hqi;subst hao;generalize q.k=q0 at *;generalize Zac q.l=q1 at *;generalize Zac q.r=q2 at *;generalize q.c=q3 at *;obtain⟨S,hS⟩:∃ S,Zcg ((l.take i).flatMap Zam)=S:=⟨_,rfl⟩;rw[hS] at HTK HLN HSS hq;clear hS;have bx:=(RowKit.Below.refl wr.heap.size wr).alloc (Nat.le_refl _) (.cells #[.int .i64 q0,.string q1,.string q2,.int .i64 q3,.slice xa xn xc] 54);have Y1:Hid (Zae (wr.alloc (.cells #[.int .i64 q0,.string q1,.string q2,.int .i64 q3,.slice xa xn xc] 54)) wr.heap.size 54 [.int .i64 q0,.string q1,.string q2,.int .i64 q3,.slice xa xn xc]):=ħ (heap_alloc_new _ _);have PX:=ħ (PC.o.below bx);have hq1:=ħ (hq.o.step bx);have ho1:=ħ (ho.o.step bx);have hbl:Hid (b<wr.heap.size):=ħ hq.o.lt;clear bx PC hq ho
   go_upto_region 5 with (fail)
   clear s0 s1 s2 s3 s4;generalize wr.alloc (.cells #[.int .i64 q0,.string q1,.string q2,.int .i64 q3,.slice xa xn xc] 54)=wy at *
   go_wp2_with (refine wpList_load_row rfl 54 (.tmp 5) rfl wr.heap.size ?x1 54 #[.int .i64 q0,.string q1,.string q2,.int .i64 q3,.slice xa xn xc] (0,0) _ Y1.o Tryz.underlying54 rfl (Za1 _ rfl) ?_;(case x1=>rfl))
   refine (HAT.o wy PX.o).mono ?_;rintro e w3 ⟨ak,ck,rfl,hok,b3⟩;have hq3:=ħ (hq1.o.step b3);have ho3:=ħ (ho1.o.step b3);have K3:=ħ (hok.keysR rfl);have KB3:Hid (∀ g,blk ak=some g→b<g):=ħ (fun g hg=>Nat.lt_of_lt_of_le (Nat.lt_of_lt_of_le hbl.o (Nat.le_of_lt Y1.o.lt)) (hok.blk_lt hg).1);clear b3 hok HAT PX hq1 ho1 Y1;obtain⟨ks,hks⟩:∃ ks,Zam q=ks:=⟨_,rfl⟩;rw[hks] at HTK HLN K3 HKF;rw[hks];clear hks;obtain⟨m,hm⟩:∃ m,ks.length=m:=⟨_,rfl⟩;have HM:=ħ hm;rw[hm] at HLN;rw[hm];clear hm;have hlen:=HLN.o;have Z0:Hid (Zfa w3 b (S++Zcg (ks.take 0))):=ħ (by have:=hq3.o;rwa [show Zcg (ks.take 0)=[] from rfl,List.append_nil]);have Z1:Hid (Only w3 w3 (· = b)):=ħ (Only.refl _ _)
   go_wp2_with fail
   go_loopw [18] (fun cc wr=>∃ (j:Nat),cc = .int .i64 j∧j≤m∧Hid (Zfa wr b (S++Zcg (ks.take j)))∧Hid (Only w3 wr (· = b))) (fun c _=>(m-intOf c).toNat)
   case atStart=>exact⟨0,rfl,by omega,Z0,Z1⟩
   case round =>
    clear Z0 Z1;obtain⟨j,rfl,hj,hz,hy⟩:=hrel;have e3:IntKind.i64.wrap ((j:Int)+1)=((j+1:Nat):Int):=IntWalk.i64_in _ (by omega);by_cases hjl:j<m
    ·have jj:(j:Int)<m:=by omega
     have HQ:Hid (∃ k,ks[j]?=some k):=ħ (by
      have hl:j<ks.length:=by rw[HM.o];exact hjl
      exact⟨ks[j],List.getElem?_eq_getElem hl⟩)
     obtain⟨k,hki⟩:=HQ.o;clear HQ;have HTJ:=ħ (Zts ks j k hki);have HKO:=ħ (HKF.o k (List.mem_of_getElem? hki))
     have HKR:Hid (Zop wr ak ks):=ħ (by
      rcases K3.o with h | ⟨g,o,h1,h2,h3⟩
      ·exact .inl h
      ·have:=KB3.o g (by rw[h1];rfl)
       exact .inr ⟨g,o,h1,Nat.lt_of_lt_of_le h2 hy.o.size,h3.of_block (hy.o.block g h2 (by omega))⟩)
     obtain⟨g,o,hak,hg,s0,s1,s2⟩:=HKR.o.at j k hki;have HAK:=ħ hak
     have HSJ:Hid (∀ s∈S++Zcg (ks.take j),NmOk s):=ħ (fun s hs=>by
      rcases List.mem_append.1 hs with hs | hs
      ·exact HSS.o s hs
      ·unfold Zcg at hs
       obtain⟨x,hx,hs⟩:=List.mem_flatMap.1 hs;have hko:=HKF.o x (List.mem_of_mem_take hx);simp only[Zuy,List.mem_cons,List.not_mem_nil,or_false] at hs;rcases hs with rfl | rfl
       ·exact Zl0 hko
       ·exact Zl1 hko)
     have HL1:Hid ((S++Zcg (ks.take j)).length<maxLen):=ħ (by
      rw[List.length_append,Zfu,List.length_take]
      have:min j ks.length≤m:=by rw[HM.o];exact Nat.min_le_right _ _
      exact Nat.lt_of_le_of_lt (show _≤2000000 by omega) (by decide))
     have HL2:Hid ((S++Zcg (ks.take j)++[k.l]).length<maxLen):=ħ (by
      rw[List.length_append,List.length_append,Zfu,List.length_take]
      have:min j ks.length≤m:=by rw[HM.o];exact Nat.min_le_right _ _
      exact Nat.lt_of_le_of_lt (show _≤2000001 by simp;omega) (by decide))
     have HKL:=ħ (Zcj k.l (Zl0 HKO.o));have HKR2:=ħ (Zcj k.r (Zl1 HKO.o));clear hki HKR hg;subst hak;generalize hyl:Zac k.l=y1 at *;generalize hyr:Zac k.r=y2 at *;generalize k.c=y3 at *;have bx:=(RowKit.Below.refl wr.heap.size wr).alloc (Nat.le_refl _) (.cells #[.string y1,.string y2,.int .i64 y3] 121);have Y1:Hid (Zae (wr.alloc (.cells #[.string y1,.string y2,.int .i64 y3] 121)) wr.heap.size 121 [.string y1,.string y2,.int .i64 y3]):=ħ (heap_alloc_new _ _);have hz1:=ħ (hz.o.step bx);have hy1:=ħ (hy.o.step bx);have hbn:Hid (b<wr.heap.size):=ħ hz.o.lt;clear bx hz hy hyl hyr
     go_upto_region 8 with (fail)
     clear s0 s1 s2;generalize wr.alloc (.cells #[.string y1,.string y2,.int .i64 y3] 121)=wk at *;refine Zcs [0,1,2,3,4,5] [6,7] (fun w'=>Zae w' wr.heap.size 121 [.string y1,.string y2,.int .i64 y3]) (by kernel_rfl) (by kernel_rfl) (by kernel_rfl) (fun _ _ d _ _ h=>by cases d<;>exact h) Y1.o ?_;simp only[Zbq,List.filterMap_cons,List.filterMap_nil,List.getElem?_cons_zero,List.getElem?_cons_succ,Option.map_some,List.map_cons,List.map_nil];apply Exists.intro;refine⟨?hh,?ht⟩
     case hh =>
      intro w' hw';have c0:=hw'.cell 0 _ rfl;have c1:=hw'.cell 1 _ rfl;clear hw'
      repeat still_step
      exact wpStill_nil rfl
     case ht =>
      have BD:=(RowKit.Below.refl wk.heap.size wk).drew;have Y2:=ħ (Y1.o.step BD);have hz2:=ħ (hz1.o.step BD);have hy2:=ħ (hy1.o.step BD);clear BD Y1 hz1 hy1;generalize wk.drew=wd at *;refine Za4 ?_;obtain⟨D,hown,hh,ha⟩:=hz2.o;have HH:=ħ hh;have HA:=ħ ha;have HO:=ħ hown;clear hh ha hown
      go_wp2_with (at_mapUpdate;refine wpList_mapUpdate_own _ rfl (.tmp 22) (.tmp 24) _ 162 rfl 9 4 Zhv Tryz.underlying162 (plainElem Tryz.prog 4) b (S++Zcg (ks.take j)).length D rfl HO.o HL1.o (.string y1) (.bool true) (Ze9 k.l) rfl rfl HKL.o (.lit (.bool true)) [] (plainElem_bool Tryz.underlying4 true) ?_;intro w6 hown6 hgrow6;have hz6:=ħ (Zfa.put k.l (Zl0 HKO.o) HO.o HH.o HA.o hown6);have hy6:=ħ (hy2.o.trans (Za8 hgrow6));have Y6:=ħ (Y2.o.grownBy hgrow6 (by intro e;have:=hbn.o;have:=Option.some.inj e;omega));clear hown6 hgrow6)
      clear HO HH HA hz2 hy2 Y2;refine Zaa ⟨Y6.o,?_⟩;refine Za4 ?_;obtain⟨D,hown,hh,ha⟩:=hz6.o;have HH:=ħ hh;have HA:=ħ ha;have HO:=ħ hown;clear hh ha hown
      go_wp2_with (at_mapUpdate;refine wpList_mapUpdate_own _ rfl (.tmp 25) (.tmp 27) _ 162 rfl 9 4 Zhv Tryz.underlying162 (plainElem Tryz.prog 4) b (S++Zcg (ks.take j)++[k.l]).length D rfl HO.o HL2.o (.string y2) (.bool true) (Ze9 k.r) rfl rfl HKR2.o (.lit (.bool true)) [] (plainElem_bool Tryz.underlying4 true) ?_;intro w7 hown7 hgrow7;have hz7:=ħ (Zfa.put k.r (Zl1 HKO.o) HO.o HH.o HA.o hown7);have hy7:=ħ (hy6.o.trans (Za8 hgrow7));have Y7:=ħ (Y6.o.grownBy hgrow7 (by intro e;have:=hbn.o;have:=Option.some.inj e;omega));clear hown7 hgrow7)
      clear HO HH HA hz6 hy6 Y6;refine Zaa ⟨Y7.o,?_⟩;unfold Zd4;have hz8:Hid (Zfa w7 b (S++Zcg (ks.take (j+1)))):=ħ (by have:=hz7.o;rwa [HTJ.o,← List.append_assoc,← List.append_assoc]);clear hz7 Y7
      go_wp2
      go_roundw
      case rel=>exact⟨j+1,by go_num,by omega,hz8,hy7⟩
      case measure=>simp only[intOf];omega
    ·have jj:¬ ((j:Int)<m):=by omega
     have hz9:Hid (Zfa wr b (Zcg ((l.take (i+1)).flatMap Zam))):=ħ (by
      have:=hz.o
      rwa [HTK.o,← show ks.take j=ks from List.take_of_length_le (by rw[HM.o];omega)])
     have hy9:=ħ (ho3.o.trans hy.o);clear hz hy hq3 ho3 K3
     go_wp2
     go_roundw
     case rel=>exact⟨i+1,by go_num,by omega,hz9,hy9⟩
     case measure=>simp only[intOf];omega
  ·have ii:¬ ((i:Int)<n):=by omega
   have HQE:Hid (Zfa wr b (Zcg (l.flatMap Zam))):=ħ (by
    have:=hq.o
    rwa [show l.take i=l from List.take_of_length_le (by rw[← HN.o];omega)] at this)
   clear hq;have HZE:=ħ (Zcj [] Zjm);obtain⟨D,hown,hh,ha⟩:=HQE.o;have HH:=ħ hh;have HO:=ħ hown;clear hh ha hown
   go_wp2_with (at_delete;refine wpList_delete_own _ rfl _ _ 162 9 rfl 4 Zhv Tryz.underlying162 (plainElem Tryz.prog 4) b (Zcg (l.flatMap Zam)).length D rfl HO.o (.string ⟨#[]⟩) (Ze9 []) rfl HZE.o ?_;intro w6 hown6 hturn6;have HO6:=ħ hown6;have ho6:=ħ (ho.o.trans (Za8 hturn6.grown));clear hown6 hturn6)
   have HNS:=ħ (fun (ss:List (List UInt8)) (hp:ss.Perm (strKeys (D.del (Ze9 []))))=>Zo4 HO6.o (Znt (l.flatMap Zam)) (fun s hs=>HSO.o s (List.mem_filter.1 ((Zqk _ s).1 hs)).1) (Zmz _) (fun z=>by
    rw[Zfa.del [] HH.o HSO.o Zjm z];constructor
    ·rintro⟨x,hx,hl⟩;exact⟨x,(Zqk _ x).2 hx,hl⟩
    ·rintro⟨x,hx,hl⟩;exact⟨x,(Zqk _ x).1 hx,hl⟩) ss hp)
   have HSZ:Hid (Maps.size (D.del (Ze9 []))≤2000000):=ħ (by
    have h1:=HO6.o.size_le;rw[Zfu] at h1;have:=HBG.o
    omega)
   have HMX:Hid (2000000≤maxLen):=ħ (by decide);have B6:=ħ (hb ▸ HXX.o w6 ho6.o);clear HO HH ho
   go_wp2_with fail
   refine (callsIn_wide.1 (Tryz.maps_Keys_239 (some b) w6)).mono ?_;rintro e w7 ⟨rfl,hw7⟩;have HW7:=ħ hw7;clear hw7
   go_wp2_with fail
   have HS:=ħ (callsIn_wide.1 (Tryz.slices_Sorted_keys_238_239 b _ _ _ w6 HO6.o (Nat.le_trans HSZ.o HMX.o) (by have:=HSZ.o;omega)));rw[← HW7.o] at HS;refine HS.o.mono ?_;rintro e w8 ⟨v,ss,rfl,hp,hrow,hnil,hb8⟩
   have h7:RowKit.Below w6.heap.size w6 w7:=by rw[HW7.o];exact (RowKit.Below.refl _ _).alloc (Nat.le_refl _) _
   have B7:=ħ (B6.o.trans (h7.mono B6.o.size));have B8:=ħ (B7.o.trans (hb8.mono B7.o.size));have HE:=ħ (HNS.o ss hp)
   have HR:Hid (∃ (ro:Option Addr) (rc:Nat),v = .slice ro (Znt (l.flatMap Zam)).length rc∧OwnK w8 w.heap.size 1 (Znt (l.flatMap Zam)).length rc ((Znt (l.flatMap Zam)).map Z4t) ro):=ħ (by
    obtain⟨e1,e2⟩:=HE.o;rw[e1,e2] at hrow
    have e3:((Znt (l.flatMap Zam)).map byL).map encStr=(Znt (l.flatMap Zam)).map Z4t:=by rw[List.map_map];rfl
    rw[e3] at hrow;by_cases h0:(Znt (l.flatMap Zam)).length=0
    ·have hss:ss=[]:=List.eq_nil_of_length_eq_zero (by rw[e2];exact h0)
     have hn0:=List.eq_nil_of_length_eq_zero h0;rw[hn0];exact⟨none,0,hnil.2 hss,.nil rfl rfl rfl⟩
    ·obtain⟨g,c,hv,ho,hl,hc1,hc2⟩:=OwnK.of_row hrow (by omega)
     exact⟨some ⟨g,0,none⟩,c,hv,(OwnK.at g 0 ho hl hc1 hc2).lower B7.o.size⟩)
   obtain⟨ro,rc,hv,hO⟩:=HR.o;have HOO:=ħ hO;clear hrow hnil hb8 h7 hp hO HR;subst hv
   go_wp2
   go_ret;exact⟨ro,rc,rfl,HOO.o,B8.o⟩
end
section
open Go.RowKit Go.Sort Go.Maps
def Zf3 (w:World) (ao:Option Addr) (l:List (List Nat)):Prop:=l=[]∨∃ g off,ao=some ⟨g,off,none⟩∧g<w.heap.size∧Zau w g off (l.map Z4t)
theorem Zf3.below {w w':World} {ao:Option Addr} {l:List (List Nat)} (h:Zf3 w ao l) (hb:RowKit.Below w.heap.size w w'):Zf3 w' ao l:=by
 rcases h with h | ⟨g,off,h1,h2,h3⟩
 ·exact .inl h
 ·exact .inr ⟨g,off,h1,Nat.lt_of_lt_of_le h2 hb.size,h3.of_block (hb.block g h2)⟩
theorem OwnK.strsR {w:World} {B n cap:Nat} {ao:Option Addr} {l:List (List Nat)} (h:OwnK w B 1 n cap (l.map Z4t) ao) (hn:n=l.length):Zf3 w ao l:=by
 cases h with
 | nil h h1 h2=>exact .inl (List.eq_nil_of_length_eq_zero (by omega))
 | «at» g off h h1 h2 h3=>exact .inr ⟨g,off,rfl,h.lt,h.cells⟩
theorem Zf3.at {w:World} {ao:Option Addr} {l:List (List Nat)} (h:Zf3 w ao l) (i:Nat) (s:List Nat) (hs:l[i]?=some s):∃ g off,ao=some ⟨g,off,none⟩∧g<w.heap.size∧w.cell? ⟨g,off+i,none⟩=some (.string (Zac s)):=by
 rcases h with h | ⟨g,off,h1,h2,h3⟩
 ·rw[h] at hs;simp at hs
 ·exact⟨g,off,h1,h2,h3 i _ (by rw[List.getElem?_map,hs];rfl)⟩
end
section
theorem Zwq (M L:Nat):∀ (ks:List Prd) (n:Nat),n≤Zlk M L n ks
 | [],n=>by rw[Zlk];exact Nat.le_refl _
 | q::qs,n=>by
  rw[Zlk];split
  ·exact Nat.le_trans (Nat.le_add_right _ _) (Zwq M L qs _)
  ·exact Nat.le_refl _
theorem Zsc (M L:Nat) (h:∀ q,Zkh M L q≤M→Zcx q≤Zkh M L q):∀ (ks:List Prd) (n:Nat),Zlk M L n ks≤M→n+Ze0 ks≤Zlk M L n ks
 | [],n,_=>by rw[Zlk,Ze0];exact Nat.le_refl _
 | q::qs,n,hn=>by
  rw[Zlk] at hn ⊢;rw[Ze0];by_cases hm:n≤M
  ·rw[if_pos hm] at hn ⊢
   have h1:=Zwq M L qs (n+Zkh M L q);have h2:=h q (by omega);have h3:=Zsc M L h qs _ hn;omega
  ·rw[if_neg hm] at hn
   exact absurd hn hm
theorem Zsd (M:Nat):∀ (L:Nat) (p:Prd),Zkh M L p≤M→Zcx p≤Zkh M L p
 | 0,p,h=>by rw[Zkh] at h;omega
 | L+1,.mk k l r c ks,h=>by
  rw[Zkh] at h ⊢;rw[Zcx];exact Zsc M L (Zsd M L) ks 1 h
theorem Z3q {p:Prd} {M L:Nat} (h:Zuz p M L=true):Zcx p≤M:=by
 have h1:=of_decide_eq_true h;exact Nat.le_trans (Zsd M L p h1) h1
theorem Zse {l:List Nat} (h:Zhn l=true):NmB l:=⟨(Zho h).1,by have:=(Zho h).2;omega⟩
mutual
theorem Zgy:∀ p,Zcc p=true→Zox p
 | .mk k l r c ks,h=>by
  unfold Zcc at h;unfold Zox;by_cases hk:k=0
  ·rw[if_pos hk] at h
   simp only[Bool.and_eq_true] at h;obtain⟨⟨⟨h1,h2⟩,h3⟩,h4⟩:=h
   have hkn:ks=[]:=by simpa using h1
   subst hkn;exact⟨Zse h2,Zse h3,by unfold Z0n;trivial⟩
  ·rw[if_neg hk] at h
   simp only[Bool.and_eq_true,beq_iff_eq] at h;obtain⟨⟨⟨h1,rfl⟩,rfl⟩,h2⟩:=h;exact⟨⟨by simp,by simp⟩,⟨by simp,by simp⟩,Zo6 ks h2⟩
theorem Zo6:∀ ks,Zil ks=true→Z0n ks
 | [],_=>by unfold Z0n;trivial
 | p::ps,h=>by
  unfold Zil at h;rw[Bool.and_eq_true] at h;unfold Z0n;exact⟨Zgy p h.1,Zo6 ps h.2⟩
end
end
section
open Go.RowKit Go.Sort
def Zu0:List (List Nat)→Bool
 | []=>true
 | [_]=>true
 | x::y::l=>ltL x y&&Zu0 (y::l)
theorem Zsf:∀ l,Zu0 l=true↔Zlx l
 | []=>by simp[Zu0,Zlx]
 | [x]=>by simp[Zu0,Zlx]
 | x::y::l=>by
  have ih:=Zsf (y::l);show (ltL x y&&Zu0 (y::l))=true↔_;rw[Bool.and_eq_true,ih];constructor
  ·rintro⟨h1,h2⟩
   refine List.pairwise_cons.2 ⟨fun z hz=>?_,h2⟩;rcases List.mem_cons.1 hz with rfl | hz
   ·exact h1
   ·exact Zdb _ _ _ h1 ((List.pairwise_cons.1 h2).1 z hz)
  ·intro h
   have h':=List.pairwise_cons.1 h;exact⟨h'.1 y (by simp),h'.2⟩
def Zf8 (ns:List (List Nat)) (most:Int):Bool:=(decide (ns.length≤16)&&(decide (0≤most)&&decide (most≤65535)))&&(ns.all Zbo&&Zu0 ns)
def Z0x (ns:List (List Nat)) (i:Nat):Prop:=∀ j s,j<i→ns[j]?=some s→Zbo s=true∧∀ r,0<j→ns[j-1]?=some r→ltL r s=true
theorem Zo7:∀ (ns:List (List Nat)),Z0x ns ns.length→(ns.all Zbo&&Zu0 ns)=true
 | [],_=>rfl
 | [x],h=>by
  have:=(h 0 x (by simp) rfl).1;simp[Zu0,this]
 | x::y::l,h=>by
  have ih:=Zo7 (y::l) (fun j s hj hs=>by
   obtain⟨h1,h2⟩:=h (j+1) s (by simpa using hj) (by simpa using hs);refine⟨h1,fun r h0 hr=>h2 r (by omega) ?_⟩;rw[show j+1-1=(j-1)+1 by omega,List.getElem?_cons_succ]
   exact hr)
  rw[Bool.and_eq_true] at ih ⊢;have h1:=(h 0 x (by simp) rfl).1;have h2:=(h 1 y (by simp) rfl).2 x (by omega) rfl;refine⟨?_,?_⟩
  ·rw[List.all_cons,h1,ih.1];rfl
  ·show (ltL x y&&Zu0 (y::l))=true
   rw[h2,ih.2];rfl
theorem Zo8 {ns:List (List Nat)} {i:Nat} {s:List Nat} (hs:ns[i]?=some s) (h:Zbo s=false∨∃ r,0<i∧ns[i-1]?=some r∧ltL r s=false):(ns.all Zbo&&Zu0 ns)=false:=by
 rw[Bool.eq_false_iff];intro ht;rw[Bool.and_eq_true,List.all_eq_true,Zsf] at ht;rcases h with h | ⟨r,h0,h1,h2⟩
 ·have:=ht.1 s (List.mem_of_getElem? hs)
  rw[h] at this;cases this
 ·have e1:=(List.getElem?_eq_some_iff.1 h1)
  have e2:=(List.getElem?_eq_some_iff.1 hs);have:=List.pairwise_iff_getElem.1 ht.2 (i-1) i e1.1 e2.1 (by omega);rw[e1.2,e2.2,h2] at this;cases this
theorem Zl3 {ns:List (List Nat)} {i:Nat} {s:List Nat} (h:Z0x ns i) (hs:ns[i]?=some s) (hv:Zbo s=true) (ha:∀ r,0<i→ns[i-1]?=some r→ltL r s=true):Z0x ns (i+1):=by
 intro j s' hj hs';rcases Nat.lt_succ_iff_lt_or_eq.1 hj with h1 | rfl
 ·exact h j s' h1 hs'
 ·rw[hs] at hs'
  cases hs';exact⟨hv,ha⟩
theorem Zwr (ns:List (List Nat)) (most:Int) (ao:Option Addr) (n cap:Nat) (w:World) (B:Nat) (hT:Tab w B) (hn:n=ns.length) (hr:Zf3 w ao ns) (hb:∀ s∈ns,NmB s) (hbig:n≤1000000) :
  Calls Tryz.prog 202 #[.slice ao n cap,.int .i64 most] w fun e w'=>e = .returned (.bool (Zf8 ns most))∧Below w.heap.size w w':=by
 have HV:Hid (Zf8 ns most=((decide (n≤16)&&(decide (0≤most)&&decide (most≤65535)))&&(ns.all Zbo&&Zu0 ns))):=ħ (by rw[hn];rfl);generalize Zf8 ns most=V at *;have HR:=ħ hr;have HB:=ħ hb;have HN:=ħ hn;have HT:=ħ (fun W (hW:Below w.heap.size w W)=>Tab.keep hT (fun k hk=>hW.block k (Nat.lt_of_lt_of_le hk hT.size)) hW.size);have B0:=ħ (Below.refl w.heap.size w);clear hr hb hn hT
 go_enter Tryz.func202,Tryz.ntmps202
 by_cases h16:16<n
 ·have h1:(16:Int)<n:=by omega
  go_wp2
  go_ret;exact⟨Zad (by rw[HV.o,decide_eq_false (by omega)];rfl),B0.o⟩
 ·have h1:¬ (16:Int)<n:=by omega
  by_cases hm0:most<0
  ·go_wp2
   go_ret;exact⟨Zad (by rw[HV.o,decide_eq_false (by omega:¬ 0≤most)];simp),B0.o⟩
  ·by_cases hm1:65535<most
   ·go_wp2
    go_ret;exact⟨Zad (by rw[HV.o,decide_eq_false (by omega:¬ most≤65535)];simp),B0.o⟩
   ·have HV2:Hid (V=(ns.all Zbo&&Zu0 ns)):=ħ (by rw[HV.o,decide_eq_true (by omega),decide_eq_true (by omega),decide_eq_true (by omega)];rfl)
    clear HV
    go_wp2_with fail
    go_loopw [20] (fun c wr=>∃ i:Nat,c = .int .i64 i∧i≤n∧Hid (Z0x ns i)∧Hid (Below w.heap.size w wr)) (fun c _=>(n-intOf c).toNat)
    case atStart=>exact⟨0,rfl,by omega,ħ (fun j s hj=>absurd hj (Nat.not_lt_zero _)),B0⟩
    case round =>
     clear B0;obtain⟨i,rfl,hi,hg,hw⟩:=hrel;have e2:IntKind.i64.wrap ((i:Int)+1)=((i+1:Nat):Int):=IntWalk.i64_in _ (by omega);by_cases hlt:i<n
     ·have ii:(i:Int)<n:=by omega
      obtain⟨s,hs⟩:∃ s,ns[i]?=some s:=⟨_,List.getElem?_eq_getElem (by rw[← HN.o];exact hlt)⟩;have HS:=ħ hs;obtain⟨g,off,hao,hgl,hc⟩:=(HR.o.below hw.o).at i s hs;have HAO:=ħ hao;subst hao;have HNM:=ħ (HB.o s (List.mem_of_getElem? hs));have HVN:=ħ (Zkf s wr B (HT.o wr hw.o) HNM.o.2 HNM.o.1);obtain⟨v,hv⟩:∃ v,Zbo s=v:=⟨_,rfl⟩;rw[hv] at HVN;have HVV:=ħ hv;clear hv hs hgl
      cases v with
      | false =>
       generalize hy:Zac s=y at *;clear hy
       go_wp2_with fail
       refine HVN.o.mono ?_;rintro e w2 ⟨rfl,b2⟩;have B2:=ħ (hw.o.trans ((Za9 b2).mono hw.o.size));clear b2
       go_wp2
       go_ret;exact⟨Zad (by rw[HV2.o];exact (Zo8 HS.o (.inl HVV.o)).symm),B2.o⟩
      | true =>
       by_cases h0:i=0
       ·have i0:¬ (0:Int)<(i:Int):=by omega
        have HG2:=ħ (Zl3 hg.o HS.o HVV.o (fun r hr _=>absurd hr (by omega)));generalize hy:Zac s=y at *;clear hy h0
        go_wp2_with fail
        refine HVN.o.mono ?_;rintro e w2 ⟨rfl,b2⟩;have B2:=ħ (hw.o.trans ((Za9 b2).mono hw.o.size));clear b2 hw
        go_wp2_with fail
        go_roundw
        case rel=>exact⟨i+1,by go_num,by omega,HG2,B2⟩
        case measure=>simp only[intOf];omega
       ·have i0:(0:Int)<(i:Int):=by omega
        obtain⟨j,rfl⟩:∃ j,i=j+1:=⟨i-1,by omega⟩
        have e3:IntKind.i64.wrap (((j+1:Nat):Int)-1)=(j:Int):=by rw[show ((j+1:Nat):Int)-1=(j:Int) by omega];exact IntWalk.i64_in _ (by omega)
        obtain⟨r,hr⟩:∃ r,ns[j]?=some r:=⟨_,List.getElem?_eq_getElem (by rw[← HN.o];omega)⟩;have HRJ:=ħ hr
        have jj:(j:Int)<n:=by omega
        have HNR:=ħ (HB.o r (List.mem_of_getElem? hr));have hl:=Zd3 r s HNR.o.1 HNM.o.1;have HLT:Hid (∀ b,ltL r s=b→Op.bytesLess (Zac r).toList (Zac s).toList=b):=ħ (fun b h=>hl.trans h)
        have HCR:Hid (∀ W,Below wr.heap.size wr W→W.cell? ⟨g,off+j,none⟩=some (.string (Zac r))):=ħ (fun W hW=>by
         obtain⟨g',off',e',h1,h2⟩:=((HR.o.below hw.o).below hW).at j r hr;cases e'
         exact h2)
        clear hl hr;have HYR:Hid True:=ħ trivial
        cases hlr:ltL r s with
        | true =>
         have HG2:=ħ (Zl3 hg.o HS.o HVV.o (fun r' _ hr'=>by
          rw[show j+1-1=j by omega,HRJ.o] at hr';cases hr'
          exact hlr))
         have l1:=HLT.o true hlr;clear hlr HLT h0;generalize hy:Zac s=y at *;generalize hz:Zac r=z at *;clear hy hz
         go_wp2_with fail
         refine HVN.o.mono ?_;rintro e w2 ⟨rfl,b2⟩;have B2:=ħ (hw.o.trans ((Za9 b2).mono hw.o.size));have c2:=HCR.o w2 (Za9 b2);clear b2 hw
         go_wp2_with fail
         go_roundw
         case rel=>exact⟨j+1+1,by go_num,by omega,HG2,B2⟩
         case measure=>simp only[intOf];omega
        | false =>
         have l1:=HLT.o false hlr;have HF:=ħ (Zo8 HS.o (.inr ⟨r,by omega,HRJ.o,hlr⟩));clear hlr HLT h0;generalize hy:Zac s=y at *;generalize hz:Zac r=z at *;clear hy hz
         go_wp2_with fail
         refine HVN.o.mono ?_;rintro e w2 ⟨rfl,b2⟩;have B2:=ħ (hw.o.trans ((Za9 b2).mono hw.o.size));have c2:=HCR.o w2 (Za9 b2);clear b2 hw
         go_wp2
         go_ret;exact⟨Zad (by rw[HV2.o];exact HF.o.symm),B2.o⟩
     ·obtain rfl:i=n:=by omega
      have ii:¬ ((i:Int)<(i:Int)):=by omega
      go_wp2
      go_ret;exact⟨Zad (by rw[HV2.o];exact (Zo7 ns (by rw[← HN.o];exact hg.o)).symm),hw.o⟩
end
section
open Go.RowKit Go.Sort
theorem Zws (a b:List Nat) (w:World) (ha:∀ y∈a,y<256) (hb:∀ y∈b,y<256) :
  Calls Tryz.prog 267 #[.string (Zac a),.string (Zac b)] w fun e w'=>e = .returned (.bool (ltL a b))∧w=w':=by
 have h1:=Zd3 a b ha hb;generalize ltL a b=V at *;generalize Zac a=s at *;generalize Zac b=t at *
 cases V with
 | true =>
  go_enter Tryz.func267,Tryz.ntmps267
  go_wp2
  go_ret;exact⟨rfl,rfl⟩
 | false =>
  go_enter Tryz.func267,Tryz.ntmps267
  go_wp2
  go_ret;exact⟨rfl,rfl⟩
theorem Zl4 {l:List (List Nat)} (hl:Zlx l) {x:List Nat} {i:Nat} (hlo:∀ m k,m<i→l[m]?=some k→ltL k x=true) (hhi:∀ m k,i≤m→l[m]?=some k→ltL k x=false) (hx:x∈l):l[i]?=some x:=by
 obtain⟨m,hm⟩:=List.mem_iff_getElem?.1 hx;rcases Nat.lt_trichotomy m i with h | rfl | h
 ·have:=hlo m x h hm
  rw[Za3] at this;cases this
 ·exact hm
 ·have hml:=(List.getElem?_eq_some_iff.1 hm).1
  have hil:i<l.length:=by omega
  have h1:=List.pairwise_iff_getElem.1 hl i m hil hml h;rw[(List.getElem?_eq_some_iff.1 hm).2] at h1;have h2:=hhi i l[i] (Nat.le_refl _) (List.getElem?_eq_getElem hil);rw[h1] at h2;cases h2
theorem Z0y {l:List (List Nat)} (hl:Zlx l) {x:List Nat} {i:Nat} (h:l[i]?=some x):l.idxOf x=i:=by
 have hx:=List.mem_of_getElem? h;have hlt:=List.idxOf_lt_length_iff.2 hx;have h1:=List.getElem_idxOf hlt;obtain⟨hil,hie⟩:=List.getElem?_eq_some_iff.1 h;rcases Nat.lt_trichotomy (l.idxOf x) i with h2 | h2 | h2
 ·have:=List.pairwise_iff_getElem.1 hl _ _ hlt hil h2
  rw[h1,hie,Za3] at this;cases this
 ·exact h2
 ·have:=List.pairwise_iff_getElem.1 hl _ _ hil hlt h2
  rw[h1,hie,Za3] at this;cases this
theorem Z0z (w:World) (ao:Option Addr) (n cp:Nat) (l:List (List Nat)) (x:List Nat) (hn:n=l.length) (h:Zf3 w ao l) (hb:∀ k∈l,NmB k) (hx:NmB x) (hl:Zlx l) (hbig:n≤1000000) :
  Calls Tryz.prog 236 #[.slice ao n cp,.string (Zac x)] w fun e w'=>(∃ i:Nat,i≤n∧e = .returned (.tuple #[.int .i64 (i:Int),.bool (l.contains x)])∧(x∈l→l.idxOf x=i))∧w=w':=by
 have H:=ħ h;have HN:=ħ hn;have HB:=ħ hb;have HL:=ħ hl;have HX:=ħ hx;have HLS:=ħ (fun k (hk:k∈l) w=>Zws k x w (hb k hk).1 hx.1);have HEQ:=ħ (fun k (hk:k∈l)=>Zhf k x (hb k hk).1 hx.1);obtain⟨D,hD⟩:∃ D,l.contains x=D:=⟨_,rfl⟩;have HD:=ħ hD;rw[hD];clear h hn hb hl hx hD;generalize Zac x=x1 at *
 go_enter Tryz.func236,Tryz.ntmps236
 go_wp2_with fail
 go_loopw [7,8] (fun ii jj wr=>∃ (i j:Nat),ii = .int .i64 i∧jj = .int .i64 j∧i≤j∧j≤n∧Hid (∀ m k,m<i→l[m]?=some k→ltL k x=true)∧Hid (∀ m k,j≤m→l[m]?=some k→ltL k x=false)∧w=wr) (fun i j _=>(intOf j-intOf i).toNat)
 case atStart=>exact⟨0,n,rfl,rfl,by omega,by omega,ħ (fun m k hm=>absurd hm (Nat.not_lt_zero m)),ħ (fun m k hm hk=>by
  have:=(List.getElem?_eq_some_iff.1 hk).1
  rw[← HN.o] at this;omega),rfl⟩
 case round =>
  obtain⟨i,j,rfl,rfl,hij,hj,hlo,hhi,rfl⟩:=hrel;by_cases hlt:i<j
  ·have ij:(i:Int)<j:=by omega
   have e1:IntKind.i64.wrap ((i:Int)+j)=((i+j:Nat):Int):=IntWalk.i64_in _ (by omega)
   go_upto_region 5 with (fail)
   obtain⟨m,hm⟩:∃ m:Nat,((i:Int)+j)/2=(m:Int):=⟨(i+j)/2,by omega⟩;rw[hm]
   have him:i≤m:=by omega
   have hmj:m<j:=by omega
   have mn:(m:Int)<n:=by omega
   clear hm e1;obtain⟨k,hk⟩:∃ k,l[m]?=some k:=⟨_,List.getElem?_eq_getElem (by rw[← HN.o];omega)⟩;have HKI:=ħ hk;obtain⟨g,off,hao,hg,hc⟩:=H.o.at m k hk;have HAO:=ħ hao;subst hao;have HCK:=ħ (HLS.o k (List.mem_of_getElem? hk));obtain⟨b,hbk⟩:∃ b,ltL k x=b:=⟨_,rfl⟩;rw[hbk] at HCK;have HBK:=ħ hbk;have e2:IntKind.i64.wrap ((m:Int)+1)=((m+1:Nat):Int):=IntWalk.i64_in _ (by omega);clear hk hg hbk;generalize Zac k=k1 at *
   go_wp2_with fail
   refine (HCK.o w).mono ?_;rintro e w2 ⟨rfl,rfl⟩
   cases b with
   | true =>
    go_wp2_with fail
    go_roundw
    case rel=>exact⟨m+1,j,by go_num,rfl,by omega,by omega,ħ (fun m' k' hm' hk'=>by
      rcases Nat.lt_or_ge m' m with h | h
      ·have h1:=List.pairwise_iff_getElem.1 HL.o m' m (List.getElem?_eq_some_iff.1 hk').1 (List.getElem?_eq_some_iff.1 HKI.o).1 h
       rw[(List.getElem?_eq_some_iff.1 hk').2,(List.getElem?_eq_some_iff.1 HKI.o).2] at h1;exact Zdb _ _ _ h1 HBK.o
      ·obtain rfl:m'=m:=by omega
       rw[HKI.o] at hk';obtain rfl:=Option.some.inj hk'
       exact HBK.o),hhi,by trivial⟩
    case measure=>simp only[intOf];omega
   | false =>
    go_wp2_with fail
    go_roundw
    case rel=>exact⟨i,m,rfl,rfl,by omega,by omega,hlo,ħ (fun m' k' hm' hk'=>by
      rcases Nat.lt_or_ge m m' with h | h
      ·have h1:=List.pairwise_iff_getElem.1 HL.o m m' (List.getElem?_eq_some_iff.1 HKI.o).1 (List.getElem?_eq_some_iff.1 hk').1 h
       rw[(List.getElem?_eq_some_iff.1 HKI.o).2,(List.getElem?_eq_some_iff.1 hk').2] at h1;rw[Bool.eq_false_iff];intro h2;have:=Zdb _ _ _ h1 h2;rw[HBK.o] at this;cases this
      ·obtain rfl:m'=m:=by omega
       rw[HKI.o] at hk';obtain rfl:=Option.some.inj hk'
       exact HBK.o),by trivial⟩
    case measure=>simp only[intOf];omega
  ·obtain rfl:i=j:=by omega
   have ij:¬ ((i:Int)<(i:Int)):=by omega
   by_cases hin:i<n
   ·have bi:(i:Int)<n:=by omega
    have bib:decide ((i:Int)<n)=true:=decide_eq_true bi;have bic:decide (i<n)=true:=decide_eq_true hin;obtain⟨k,hk⟩:∃ k,l[i]?=some k:=⟨_,List.getElem?_eq_getElem (by rw[← HN.o];omega)⟩;have HKI:=ħ hk;obtain⟨g,off,hao,hg,hc⟩:=H.o.at i k hk;have HAO:=ħ hao;subst hao;have heq:=HEQ.o k (List.mem_of_getElem? hk);by_cases hkx:k=x
    ·have hb1:(k==x)=true:=beq_iff_eq.2 hkx
     have HF:Hid (D=true):=ħ (by rw[← HD.o,← hkx];simpa using List.mem_of_getElem? HKI.o);have HI:Hid (l.idxOf x=i):=ħ (Z0y HL.o (by rw[← hkx];exact HKI.o));rw[hb1] at heq;clear hkx hb1 hk hg;generalize Zac k=k1 at *
     go_wp2
     go_ret2
     exact⟨⟨i,by omega,by rw[HF.o];rfl,fun _=>HI.o⟩,rfl⟩
    ·have hb1:(k==x)=false:=beq_eq_false_iff_ne.2 hkx
     have HF0:Hid (x ∉ l):=ħ (fun hm=>by
      have:=Zl4 HL.o hlo.o hhi.o hm;rw[HKI.o] at this
      exact hkx (Option.some.inj this))
     have HF:Hid (D=false):=ħ (by rw[← HD.o,Bool.eq_false_iff];intro h;exact HF0.o (by simpa using h));rw[hb1] at heq;clear hkx hb1 hk hg;generalize Zac k=k1 at *
     go_wp2
     go_ret2
     exact⟨⟨i,by omega,by rw[HF.o];rfl,fun h=>absurd h HF0.o⟩,rfl⟩
   ·have bi:¬ ((i:Int)<n):=by omega
    have bib:decide ((i:Int)<n)=false:=decide_eq_false bi;have bic:decide (i<n)=false:=decide_eq_false hin
    have HF0:Hid (x ∉ l):=ħ (fun hm=>by
      have:=Zl4 HL.o hlo.o hhi.o hm;have:=(List.getElem?_eq_some_iff.1 this).1;rw[← HN.o] at this
      omega)
    have HF:Hid (D=false):=ħ (by rw[← HD.o,Bool.eq_false_iff];intro h;exact HF0.o (by simpa using h))
    go_wp2
    go_ret2
    exact⟨⟨i,by omega,by rw[HF.o];rfl,fun h=>absurd h HF0.o⟩,rfl⟩
def Zll (ns:List (List Nat)) (s:List Nat):Int:=if Zfs ns s=true then (Zin ns s:Int) else -1
theorem Zsg {ns:List (List Nat)} {s:List Nat}:Zll ns s<0↔Zfs ns s=false:=by
 unfold Zll;by_cases h:Zfs ns s=true
 ·rw[if_pos h,h];simp
 ·rw[if_neg h];simpa using h
theorem Z3r (v0 v1:Value):(Tryz.prog.info? 216).map (·.size)=some #[v0,v1].size:=by
 show _=some 2
 kernel_rfl
theorem Zkk (w:World) (ao:Option Addr) (n cp:Nat) (most:Int) (l:List (List Nat)) (x:List Nat) (hn:n=l.length) (h:Zf3 w ao l) (hb:∀ k∈l,NmB k) (hx:NmB x) (hl:Zlx l) (hbig:n≤1000000) :
  Calls Tryz.prog 200 #[.agg #[.slice ao n cp,.int .i64 most],.string (Zac x)] w fun e w'=>e = .returned (.int .i64 (Zll l x))∧Below w.heap.size w w':=by
 have HX:=ħ hx;have bx:=(Below.refl w.heap.size w).alloc (Nat.le_refl _) (.cells #[.slice ao n cp,.int .i64 most] 216);have B1:=ħ bx;have X1:Hid (Zae (w.alloc (.cells #[.slice ao n cp,.int .i64 most] 216)) w.heap.size 216 [.slice ao n cp,.int .i64 most]):=ħ (heap_alloc_new w _);have HBS:=ħ (Z0z (w.alloc (.cells #[.slice ao n cp,.int .i64 most] 216)) ao n cp l x hn (h.below bx) hb hx hl hbig)
 have HIN:Hid (∀ i:Nat,i≤n→(x∈l→l.idxOf x=i)→x≠[]→Zll l x=if l.contains x=true then ((i:Int)+1) else -1):=ħ (fun i _ hi hx0=>by
  unfold Zll Zfs Zin;rw[show (x==[])=false by rw[beq_eq_false_iff_ne];exact hx0,Bool.false_or,if_neg hx0];by_cases hm:l.contains x=true
  ·rw[if_pos hm,if_pos hm,hi (by simpa using hm)];omega
  ·rw[if_neg hm,if_neg hm])
 clear bx hb hl h hn;by_cases h0:x=[]
 ·have he:=Zfv
  have HV:Hid (Zll l x=0):=ħ (by unfold Zll Zfs Zin;rw[h0];rfl);rw[HV.o];subst h0;clear HBS HIN HX hx;generalize Zac []=s at *
  go_enter Tryz.func200,Tryz.ntmps200
  go_wp2
  go_ret;exact⟨rfl,B1.o⟩
 ·have he:=Zf2 x (fun h=>h0 (List.eq_nil_of_length_eq_zero h))
  have HI:=ħ (fun i h1 h2=>HIN.o i h1 h2 h0);generalize Zll l x=V at *;generalize l.contains x=D at *;clear h0 HIN hx HX;generalize Zac x=s at *
  go_enter Tryz.func200,Tryz.ntmps200
  go_upto_region 3 with (fail)
  generalize w.alloc (.cells #[.slice ao n cp,.int .i64 most] 216)=w1 at *;have x0:=X1.o.cell 0 _ rfl
  go_wp2_with fail
  refine HBS.o.mono ?_;rintro e w2 ⟨⟨i,hi,rfl,hix⟩,rfl⟩;have HVV:=ħ (HI.o i hi hix);clear hix x0;have e2:IntKind.i64.wrap ((i:Int)+1)=(i:Int)+1:=IntWalk.i64_in _ (by omega)
  cases D with
  | true =>
   go_wp2
   go_ret;exact⟨Za0 (by rw[HVV.o];rfl),B1.o⟩
  | false =>
   go_wp2
   go_ret;exact⟨Za0 (by rw[HVV.o];rfl),B1.o⟩
end
section
open Go.RowKit Go.Sort
def Zal {α:Type} (f:α→List Value) (w:World) (ao:Option Addr) (l:List α):Prop:=l=[]∨∃ g off,ao=some ⟨g,off,none⟩∧g<w.heap.size∧Zau w g off (l.flatMap f)
theorem Zal.below {α:Type} {f:α→List Value} {w w':World} {ao:Option Addr} {l:List α} (h:Zal f w ao l) (hb:Below w.heap.size w w'):Zal f w' ao l:=by
 rcases h with h | ⟨g,off,h1,h2,h3⟩
 ·exact .inl h
 ·exact .inr ⟨g,off,h1,Nat.lt_of_lt_of_le h2 hb.size,h3.of_block (hb.block g h2)⟩
theorem Zal.at {α:Type} {f:α→List Value} {k:Nat} (hf:∀ x,(f x).length=k) {w:World} {ao:Option Addr} {l:List α} (h:Zal f w ao l) (i:Nat) (x:α) (hx:l[i]?=some x) :
  ∃ g off,ao=some ⟨g,off,none⟩∧g<w.heap.size∧∀ j u,(f x)[j]?=some u→w.cell? ⟨g,off+i*k+j,none⟩=some u:=by
 rcases h with h | ⟨g,off,h1,h2,h3⟩
 ·rw[h] at hx;simp at hx
 ·refine⟨g,off,h1,h2,fun j u hj=>?_⟩
  have hl:j<k:=by rw[← hf x];exact (List.getElem?_eq_some_iff.1 hj).1
  have:=h3 (i*k+j) u (by rw[Zda f k hf l i j x hx hl];exact hj)
  rwa [show off+(i*k+j)=off+i*k+j by omega] at this
theorem OwnK.flatR {α:Type} {f:α→List Value} {w:World} {B k n cap:Nat} {ao:Option Addr} {l:List α} (h:OwnK w B k n cap (l.flatMap f) ao) (hk:∀ x,(f x).length=k) (hn:n=l.length):Zal f w ao l:=by
 cases h with
 | nil h h1 h2=>exact .inl (List.eq_nil_of_length_eq_zero (by omega))
 | «at» g off h h1 h2 h3=>exact .inr ⟨g,off,rfl,h.lt,h.cells⟩
def Zl5 (c:Con):List Value:=[.int .i64 (c.l:Int),.int .i64 (c.r:Int),.int .i64 c.c]
theorem Zm8 (c:Con):(Zl5 c).length=3:=rfl
def Z57:Value:=.agg #[.int .i64 0,.int .i64 0,.int .i64 0]
theorem Zsh:(Tryz.prog.info? 259).map (fun i=>(i.zero,i.size,i.bytes))=some (some Z57,3,24):=by kernel_rfl
theorem Zql (vs:Array Value) (h:vs.size=3):(Tryz.prog.info? 259).map (·.size)=some vs.size:=by
 rw[h]
 kernel_rfl
def Z6k:List Value:=[.int .i64 0,.int .i64 0,.int .i64 0]
theorem Z2w (w:World) (ao:Option Addr) (n cp:Nat) (most:Int) (l:List (List Nat)) (k:Ky) (hn:n=l.length) (h:Zf3 w ao l) (hb:∀ s∈l,NmB s) (hl:Zlx l) (hbig:n≤1000000) (hkl:NmB k.l) (hkr:NmB k.r) :
  Calls Tryz.prog 243 #[.agg #[.slice ao n cp,.int .i64 most],.agg (kyC k).toArray] w fun e w'=>e = .returned (.agg #[.int .i64 (Zll l k.l),.int .i64 (Zll l k.r),.int .i64 k.c])∧Below w.heap.size w w':=by
 have HI1:=ħ (fun W (hW:Below w.heap.size w W)=>Zkk W ao n cp most l k.l hn (h.below hW) hb hkl hl hbig);have HI2:=ħ (fun W (hW:Below w.heap.size w W)=>Zkk W ao n cp most l k.r hn (h.below hW) hb hkr hl hbig);have HKX:Hid (kyC k=[.string (Zac k.l),.string (Zac k.r),.int .i64 k.c]):=ħ rfl;rw[HKX.o];clear HKX h hb hl hn hkl hkr;generalize Zac k.l=y1 at *;generalize Zac k.r=y2 at *;generalize k.c=y3 at *;generalize Zll l k.l=i1 at *;generalize Zll l k.r=i2 at *;have b0:=(((Below.refl w.heap.size w).alloc (Nat.le_refl _) (.cells #[.slice ao n cp,.int .i64 most] 216)).alloc (by simp) (.cells #[.string y1,.string y2,.int .i64 y3] 121)).alloc (by simp;omega) (.cells #[.int .i64 0,.int .i64 0,.int .i64 0] 259);have B1:=ħ b0;have X1:Hid (Zae (((w.alloc (.cells #[.slice ao n cp,.int .i64 most] 216)).alloc (.cells #[.string y1,.string y2,.int .i64 y3] 121)).alloc (.cells #[.int .i64 0,.int .i64 0,.int .i64 0] 259)) w.heap.size 216 [.slice ao n cp,.int .i64 most]):=ħ (Zj0 _ _ _ _);have Y1:Hid (Zae (((w.alloc (.cells #[.slice ao n cp,.int .i64 most] 216)).alloc (.cells #[.string y1,.string y2,.int .i64 y3] 121)).alloc (.cells #[.int .i64 0,.int .i64 0,.int .i64 0] 259)) (w.heap.size+1) 121 [.string y1,.string y2,.int .i64 y3]):=ħ (Zjz _ _ _ _);have Z1:Hid (Zae (((w.alloc (.cells #[.slice ao n cp,.int .i64 most] 216)).alloc (.cells #[.string y1,.string y2,.int .i64 y3] 121)).alloc (.cells #[.int .i64 0,.int .i64 0,.int .i64 0] 259)) (w.heap.size+1+1) 259 Z6k):=ħ (Zjy _ _ _ _);clear b0
 go_enter Tryz.func243,Tryz.ntmps243
 go_upto_region 1 with (fail)
 generalize ((w.alloc (.cells #[.slice ao n cp,.int .i64 most] 216)).alloc (.cells #[.string y1,.string y2,.int .i64 y3] 121)).alloc (.cells #[.int .i64 0,.int .i64 0,.int .i64 0] 259)=w1 at *;have HA:Hid (w.heap.size+1<w1.heap.size):=ħ Y1.o.lt;have HS:Hid (∀ W,Below w1.heap.size w1 W→Zae W w.heap.size 216 [.slice ao n cp,.int .i64 most]∧Zae W (w.heap.size+1) 121 [.string y1,.string y2,.int .i64 y3]):=ħ (fun W hW=>⟨X1.o.step hW,Y1.o.step hW⟩);obtain⟨A,hA⟩:∃ A,w.heap.size+1+1=A:=⟨_,rfl⟩;obtain⟨A',hA'⟩:∃ A',w.heap.size+1=A':=⟨_,rfl⟩;rw[hA'] at hA HS HA ⊢;rw[hA',hA] at Z1;rw[hA];have HAA:Hid (A=A'+1∧A'=w.heap.size+1):=ħ ⟨hA.symm,hA'.symm⟩;clear hA hA' X1 Y1;refine Zaw [0,1,2,4,5,6,8,9] [3,7,10,11] (fun w'=>Zae w' w.heap.size 216 [.slice ao n cp,.int .i64 most]∧Zae w' A' 121 [.string y1,.string y2,.int .i64 y3]) (by kernel_rfl) (by kernel_rfl) (by kernel_rfl) (fun _ _ d _ _ h=>by cases d<;>exact h) (HS.o _ (Below.refl _ _).drew) ?_;simp only[Zbq,List.filterMap_cons,List.filterMap_nil,List.getElem?_cons_zero,List.getElem?_cons_succ,Option.map_some,List.map_cons,List.map_nil];apply Exists.intro;refine⟨?hh,?ht⟩
 case hh =>
  intro w' hw';have c0:=hw'.1.cell 0 _ rfl;have c1:=hw'.1.cell 1 _ rfl;have d0:=hw'.2.cell 0 _ rfl;have d1:=hw'.2.cell 1 _ rfl;have d2:=hw'.2.cell 2 _ rfl;clear hw'
  repeat still_step
  exact wpStill_nil rfl
 case ht =>
  have BD:=ħ (Below.refl w1.heap.size w1).drew;have Z2:=ħ (Z1.o.step BD.o);generalize wdq:w1.drew=wd at *;clear wdq;refine Zah ?_
  go_wp2_with fail
  refine (HI1.o wd (B1.o.trans (BD.o.mono B1.o.size))).mono ?_;rintro e w2 ⟨rfl,b2⟩;have B2:=ħ (BD.o.trans (b2.mono BD.o.size));have Z3:=ħ (Z2.o.step b2);clear b2 BD Z2 Z1 HI1
  go_wp2_with fail
  refine Zaa ⟨HS.o _ B2.o,?_⟩;refine Zah ?_
  go_wp2_with fail
  refine (HI2.o w2 (B1.o.trans (B2.o.mono B1.o.size))).mono ?_;rintro e w3 ⟨rfl,b3⟩;have B3:=ħ (B2.o.trans (b3.mono B2.o.size));have Z4:=ħ (Z3.o.step b3);clear b3 B2 Z3 HI2
  go_wp2_with fail
  refine Zaa ⟨HS.o _ B3.o,?_⟩;refine Zah ?_
  go_wp2_with fail
  refine Zaa ⟨HS.o _ B3.o,?_⟩;refine Zbj ?_
  go_wp2_with (refine Zao rfl 259 (.tmp 4) (.tmp 15) rfl A #[.int .i64 i1,.int .i64 i2,.int .i64 y3] ?s1 ?s2 259 _ Z4.o (Zql _ rfl) rfl (by simp[Value.oneCell']) ?_;(case s1=>rfl);(case s2=>rfl);intro w9 s9 u9;have S9:=ħ s9;have U9:=ħ u9;clear s9 u9)
  exact bodyPost_ret (results_cell_row (p:=4) (by kernel_rfl) _ _ A 259 #[.int .i64 i1,.int .i64 i2,.int .i64 y3] (0,0) _ rfl S9.o Tryz.underlying259 rfl (Zql _ rfl)) rfl ⟨rfl,U9.o.below (B1.o.trans (B3.o.mono B1.o.size)) (by have:=HAA.o;omega)⟩
end
end Go.Proofs.YtbcgocpihobjnaaGreatDoor
