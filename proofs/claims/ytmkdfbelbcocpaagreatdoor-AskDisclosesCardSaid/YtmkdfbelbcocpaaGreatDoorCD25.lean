import Derived.Test.YtmkdfbelbcocpaaGreatDoorCD24
import Derived.Test.YtmkdfbelbcocpaaGreatDoorIter
import Derived.Test.YtmkdfbelbcocpaaGreatDoorCD20
import Derived.Test.YtmkdfbelbcocpaaGreatDoorCD21
set_option linter.unusedVariables false
set_option linter.unusedSimpArgs false
set_option maxHeartbeats 16000000
set_option maxRecDepth 100000
namespace Go.Proofs.YtmkdfbelbcocpaaGreatDoor
section
open Go.RowKit Go.Sort Go.Maps
def Zbj (w:World) (P:Nat→Prop) (l:List Prd) (ao:Option Addr):Prop:=l=[]∨∃ g off,ao=some ⟨g,off,none⟩∧P g∧g<w.heap.size∧Za1 w P l g off
def Zc7 (ks:List Ky):List (List Nat):=ks.flatMap Zxc
theorem Zwi (ks:List Ky) (j:Nat) (k:Ky) (h:ks[j]?=some k):Zc7 (ks.take (j+1))=Zc7 (ks.take j)++[k.l]++[k.r]:=by
 unfold Zc7
 rw[List.take_add_one,h,List.flatMap_append]
 simp[Zxc]
theorem Zwj (l:List Prd) (i:Nat) (q:Prd) (h:l[i]?=some q):Zc7 ((l.take (i+1)).flatMap Zan)=Zc7 ((l.take i).flatMap Zan)++Zc7 (Zan q):=by
 unfold Zc7
 rw[List.take_add_one,h,List.flatMap_append,List.flatMap_append]
 simp
theorem Zg4 (ks:List Ky):(Zc7 ks).length=2*ks.length:=by
 unfold Zc7
 induction ks with
 | nil=>rfl
 | cons k ks ih=>rw[List.flatMap_cons,List.length_append,ih];simp[Zxc];omega
theorem Zs5 (ks:List Ky) (x:List Nat):x∈Zo5 ks↔x∈(Zc7 ks).filter (fun s=>s != []):=by
 rw[Zem,List.mem_filter]
 simp[Zc7,Zxc,List.mem_flatMap,and_comm]
def Z3d (s:List Nat):Value:=.string (Zad s)
theorem Zkb (l:List Prd) (w:World) (P:Nat→Prop) (ao:Option Addr) (n cap:Nat) (hn:n=l.length) (hl:Zbj w P l ao) (hf:∀ q∈l,Zcz q=true) (hc:∀ q∈l,Za8 q≤1000000) (hbig:(l.flatMap Zan).length≤1000000) (hnb:n≤1000000) :
  Calls Tryz.prog 120 #[.slice ao n cap] w fun e w'=>∃ (ro:Option Addr) (rc:Nat),e = .returned (.slice ro (Zo5 (l.flatMap Zan)).length rc)∧OwnK w' w.heap.size 1 (Zo5 (l.flatMap Zan)).length rc ((Zo5 (l.flatMap Zan)).map Z3d) ro∧RowKit.Below w.heap.size w w':=by
 have HL:=ħ hl
 have HN:=ħ hn
 have HF:=ħ hf
 have HC:=ħ hc
 have HBG:=ħ hbig
 have HFK:=ħ (fun (q:Prd) (hq:q∈l) (k:Ky) (hk:k∈Zan q)=>Zea q (hf q hq) k ((Zbm q k).1 hk))
 have HSO:Hid (∀ s∈Zc7 (l.flatMap Zan),NmOk s):=ħ (fun s hs=>by
  unfold Zc7 at hs
  obtain⟨k,hk,hs⟩:=List.mem_flatMap.1 hs
  obtain⟨q,hq,hk⟩:=List.mem_flatMap.1 hk
  have hko:=HFK.o q hq k hk
  simp only[Zxc,List.mem_cons,List.not_mem_nil,or_false] at hs
  rcases hs with rfl | rfl
  ·exact Zn4 hko
  ·exact Zn5 hko)
 have bx:=(RowKit.Below.refl w.heap.size w).alloc (Nat.le_refl _) (.map #[] 0)
 have BX:=ħ bx
 have QX:Hid (Zh2 (w.alloc (.map #[] 0)) w.heap.size []):=ħ (Zh2.nil w)
 clear hl hn hf hc hbig bx
 have hmm:=@run_makeMap Tryz.prog
 go_enter Tryz.func120,Tryz.ntmps120
 go_upto_region 2 with (fail)
 clear hmm
 generalize hwx:w.alloc (.map #[] 0)=wx at *
 clear hwx
 go_wp2_with fail
 have S0:Hid (Zh2 wx w.heap.size (Zc7 ((l.take 0).flatMap Zan))):=ħ QX.o
 have O0:Hid (Only wx wx (· = w.heap.size)):=ħ (Only.refl _ _)
 clear QX
 have HXX:=ħ (fun (W:World) (hW:Only wx W (· = w.heap.size))=>Only.later (RowKit.Below.refl w.heap.size w) (Only.trans (Only.of_below (p:=fun g=>w.heap.size≤g) BX.o) (hW.mono (fun g _ hg=>by rw[hg];exact Nat.le_refl _))) (fun g hg=>hg))
 have HLB:Hid (l=[]∨∃ g off,ao=some ⟨g,off,none⟩∧g<w.heap.size∧∀ W,Only wx W (· = w.heap.size)→Za1 W (fun g=>g<w.heap.size) l g off∧w.heap.size<W.heap.size):=ħ (by
  rcases HL.o with h | ⟨g,off,h1,h2,h3,h4⟩
  ·exact .inl h
  ·refine .inr ⟨g,off,h1,h3,fun W hW=>⟨?_,?_⟩⟩
   ·have hbx:=BX.o
    have hall:∀ x,x<w.heap.size→W.heap[x]?=w.heap[x]?:=fun x hx=>(hW.block x (Nat.lt_of_lt_of_le hx hbx.size) (by omega)).trans (hbx.block x hx)
    exact Za1.keep (fun x _ hx=>hall x hx) (Nat.le_trans hbx.size hW.size) (fun x _ hx=>hx) l g off h2 h3 h4
   ·have:=S0.o.lt
    exact Nat.lt_of_lt_of_le this hW.size)
 clear HL
 generalize hb:w.heap.size=b at *
 go_loopw [11] (fun cc wr=>∃ (i:Nat),cc = .int .i64 i∧i≤n∧Hid (Zh2 wr b (Zc7 ((l.take i).flatMap Zan)))∧Hid (Only wx wr (· = b))) (fun c _=>(n-intOf c).toNat)
 case atStart=>exact⟨0,rfl,by omega,S0,O0⟩
 case round =>
  clear S0 O0
  obtain⟨i,rfl,hi,hq,ho⟩:=hrel
  have e2:IntKind.i64.wrap ((i:Int)+1)=((i+1:Nat):Int):=IntWalk.i64_in _ (by omega)
  by_cases hlt:i<n
  ·have ii:(i:Int)<n:=by omega
   have HQ:Hid (∃ q,l[i]?=some q∧∃ g off,ao=some ⟨g,off,none⟩∧∃ vs,Zai wr (fun g=>g<b) q vs∧Za3 wr g (off+i*5) vs):=ħ (by
    have hll:i<l.length:=by rw[← HN.o];exact hlt
    refine⟨l[i],List.getElem?_eq_getElem hll,?_⟩
    rcases HLB.o with h | ⟨g,off,h1,h3,h4⟩
    ·rw[h] at hll;exact absurd hll (Nat.not_lt_zero _)
    ·obtain⟨vs,hv1,hv2⟩:=Za1.at l g off i _ (List.getElem?_eq_getElem hll) (h4 wr ho.o).1
     exact⟨g,off,h1,vs,hv1,hv2⟩)
   obtain⟨q,hqi,gk,off,hao,vs,hpc,hrd⟩:=HQ.o
   clear HQ
   have HQM:=ħ (List.mem_of_getElem? hqi)
   have HTK:=ħ (Zwj l i q hqi)
   obtain⟨xa,xn,xc,hvf,-⟩:=hpc.form
   rw[hvf] at hrd hpc
   have PC:=ħ hpc
   have s0:=hrd 0 _ rfl
   have s1:=hrd 1 _ rfl
   have s2:=hrd 2 _ rfl
   have s3:=hrd 3 _ rfl
   have s4:=hrd 4 _ rfl
   rw[Nat.add_zero] at s0
   have HAO:=ħ hao
   have HAT:=ħ (fun W (hW:Zai W (fun g=>g<b) q [.int .i64 q.k,.string (Zad q.l),.string (Zad q.r),.int .i64 q.c,.slice xa xn xc])=>Zl4 W (fun g=>g<b) q _ hW (HF.o q HQM.o) (HC.o q HQM.o))
   have HKF:=ħ (HFK.o q HQM.o)
   have HLN:Hid ((Zc7 ((l.take i).flatMap Zan)).length+2*(Zan q).length≤2000000):=ħ (by
    have e1:=congrArg List.length HTK.o
    rw[List.length_append,Zg4 (Zan q)] at e1
    rw[← e1,Zg4]
    have:((l.take (i+1)).flatMap Zan).length≤(l.flatMap Zan).length:=by
     conv=>rhs;rw[← List.take_append_drop (i+1) l,List.flatMap_append,List.length_append]
     omega
    have:=HBG.o
    omega)
   have HSS:Hid (∀ s∈Zc7 ((l.take i).flatMap Zan),NmOk s):=ħ (fun s hs=>HSO.o s (by
    unfold Zc7 at hs ⊢
    obtain⟨k,hk,hs⟩:=List.mem_flatMap.1 hs
    obtain⟨p,hp,hk⟩:=List.mem_flatMap.1 hk
    exact List.mem_flatMap.2 ⟨k,List.mem_flatMap.2 ⟨p,List.mem_of_mem_take hp,hk⟩,hs⟩))
   clear hrd hpc hvf vs hqi
   subst hao
   generalize q.k=q0 at *
   generalize Zad q.l=q1 at *
   generalize Zad q.r=q2 at *
   generalize q.c=q3 at *
   obtain⟨S,hS⟩:∃ S,Zc7 ((l.take i).flatMap Zan)=S:=⟨_,rfl⟩
   rw[hS] at HTK HLN HSS hq
   clear hS
   have bx:=(RowKit.Below.refl wr.heap.size wr).alloc (Nat.le_refl _) (.cells #[.int .i64 q0,.string q1,.string q2,.int .i64 q3,.slice xa xn xc] 25)
   have Y1:Hid (Zah (wr.alloc (.cells #[.int .i64 q0,.string q1,.string q2,.int .i64 q3,.slice xa xn xc] 25)) wr.heap.size 25 [.int .i64 q0,.string q1,.string q2,.int .i64 q3,.slice xa xn xc]):=ħ (heap_alloc_new _ _)
   have PX:=ħ (PC.o.below bx)
   have hq1:=ħ (hq.o.step bx)
   have ho1:=ħ (ho.o.step bx)
   have hbl:Hid (b<wr.heap.size):=ħ hq.o.lt
   clear bx PC hq ho
   go_upto_region 5 with (fail)
   clear s0 s1 s2 s3 s4
   generalize wr.alloc (.cells #[.int .i64 q0,.string q1,.string q2,.int .i64 q3,.slice xa xn xc] 25)=wy at *
   go_wp2_with (refine wpList_load_row rfl 25 (.tmp 5) rfl wr.heap.size ?x1 25 #[.int .i64 q0,.string q1,.string q2,.int .i64 q3,.slice xa xn xc] (0,0) _ Y1.o Tryz.underlying25 rfl (Zae _ rfl) ?_;(case x1=>rfl))
   refine (HAT.o wy PX.o).mono ?_
   rintro e w3 ⟨ak,ck,rfl,hok,b3⟩
   have hq3:=ħ (hq1.o.step b3)
   have ho3:=ħ (ho1.o.step b3)
   have K3:=ħ (hok.keysR rfl)
   have KB3:Hid (∀ g,blk ak=some g→b<g):=ħ (fun g hg=>Nat.lt_of_lt_of_le (Nat.lt_of_lt_of_le hbl.o (Nat.le_of_lt Y1.o.lt)) (hok.blk_lt hg).1)
   clear b3 hok HAT PX hq1 ho1 Y1
   obtain⟨ks,hks⟩:∃ ks,Zan q=ks:=⟨_,rfl⟩
   rw[hks] at HTK HLN K3 HKF
   rw[hks]
   clear hks
   obtain⟨m,hm⟩:∃ m,ks.length=m:=⟨_,rfl⟩
   have HM:=ħ hm
   rw[hm] at HLN
   rw[hm]
   clear hm
   have hlen:=HLN.o
   have Z0:Hid (Zh2 w3 b (S++Zc7 (ks.take 0))):=ħ (by have:=hq3.o;rwa [show Zc7 (ks.take 0)=[] from rfl,List.append_nil])
   have Z1:Hid (Only w3 w3 (· = b)):=ħ (Only.refl _ _)
   go_wp2_with fail
   go_loopw [18] (fun cc wr=>∃ (j:Nat),cc = .int .i64 j∧j≤m∧Hid (Zh2 wr b (S++Zc7 (ks.take j)))∧Hid (Only w3 wr (· = b))) (fun c _=>(m-intOf c).toNat)
   case atStart=>exact⟨0,rfl,by omega,Z0,Z1⟩
   case round =>
    clear Z0 Z1
    obtain⟨j,rfl,hj,hz,hy⟩:=hrel
    have e3:IntKind.i64.wrap ((j:Int)+1)=((j+1:Nat):Int):=IntWalk.i64_in _ (by omega)
    by_cases hjl:j<m
    ·have jj:(j:Int)<m:=by omega
     have HQ:Hid (∃ k,ks[j]?=some k):=ħ (by
      have hl:j<ks.length:=by rw[HM.o];exact hjl
      exact⟨ks[j],List.getElem?_eq_getElem hl⟩)
     obtain⟨k,hki⟩:=HQ.o
     clear HQ
     have HTJ:=ħ (Zwi ks j k hki)
     have HKO:=ħ (HKF.o k (List.mem_of_getElem? hki))
     have HKR:Hid (Zql wr ak ks):=ħ (by
      rcases K3.o with h | ⟨g,o,h1,h2,h3⟩
      ·exact .inl h
      ·have:=KB3.o g (by rw[h1];rfl)
       exact .inr ⟨g,o,h1,Nat.lt_of_lt_of_le h2 hy.o.size,h3.of_block (hy.o.block g h2 (by omega))⟩)
     obtain⟨g,o,hak,hg,s0,s1,s2⟩:=HKR.o.at j k hki
     have HAK:=ħ hak
     have HSJ:Hid (∀ s∈S++Zc7 (ks.take j),NmOk s):=ħ (fun s hs=>by
      rcases List.mem_append.1 hs with hs | hs
      ·exact HSS.o s hs
      ·unfold Zc7 at hs
       obtain⟨x,hx,hs⟩:=List.mem_flatMap.1 hs
       have hko:=HKF.o x (List.mem_of_mem_take hx)
       simp only[Zxc,List.mem_cons,List.not_mem_nil,or_false] at hs
       rcases hs with rfl | rfl
       ·exact Zn4 hko
       ·exact Zn5 hko)
     have HL1:Hid ((S++Zc7 (ks.take j)).length<maxLen):=ħ (by
      rw[List.length_append,Zg4,List.length_take]
      have:min j ks.length≤m:=by rw[HM.o];exact Nat.min_le_right _ _
      exact Nat.lt_of_le_of_lt (show _≤2000000 by omega) (by decide))
     have HL2:Hid ((S++Zc7 (ks.take j)++[k.l]).length<maxLen):=ħ (by
      rw[List.length_append,List.length_append,Zg4,List.length_take]
      have:min j ks.length≤m:=by rw[HM.o];exact Nat.min_le_right _ _
      exact Nat.lt_of_le_of_lt (show _≤2000001 by simp;omega) (by decide))
     have HKL:=ħ (Zdl k.l (Zn4 HKO.o))
     have HKR2:=ħ (Zdl k.r (Zn5 HKO.o))
     clear hki HKR hg
     subst hak
     generalize hyl:Zad k.l=y1 at *
     generalize hyr:Zad k.r=y2 at *
     generalize k.c=y3 at *
     have bx:=(RowKit.Below.refl wr.heap.size wr).alloc (Nat.le_refl _) (.cells #[.string y1,.string y2,.int .i64 y3] 123)
     have Y1:Hid (Zah (wr.alloc (.cells #[.string y1,.string y2,.int .i64 y3] 123)) wr.heap.size 123 [.string y1,.string y2,.int .i64 y3]):=ħ (heap_alloc_new _ _)
     have hz1:=ħ (hz.o.step bx)
     have hy1:=ħ (hy.o.step bx)
     have hbn:Hid (b<wr.heap.size):=ħ hz.o.lt
     clear bx hz hy hyl hyr
     go_upto_region 8 with (fail)
     clear s0 s1 s2
     generalize wr.alloc (.cells #[.string y1,.string y2,.int .i64 y3] 123)=wk at *
     refine Ze2 [0,1,2,3,4,5] [6,7] (fun w'=>Zah w' wr.heap.size 123 [.string y1,.string y2,.int .i64 y3]) (by kernel_rfl) (by kernel_rfl) (by kernel_rfl) (fun _ _ d _ _ h=>by cases d<;>exact h) Y1.o ?_
     simp only[Zbx,List.filterMap_cons,List.filterMap_nil,List.getElem?_cons_zero,List.getElem?_cons_succ,Option.map_some,List.map_cons,List.map_nil]
     apply Exists.intro
     refine⟨?hh,?ht⟩
     case hh =>
      intro w' hw'
      have c0:=hw'.cell 0 _ rfl
      have c1:=hw'.cell 1 _ rfl
      clear hw'
      repeat still_step
      exact wpStill_nil rfl
     case ht =>
      have BD:=(RowKit.Below.refl wk.heap.size wk).drew
      have Y2:=ħ (Y1.o.step BD)
      have hz2:=ħ (hz1.o.step BD)
      have hy2:=ħ (hy1.o.step BD)
      clear BD Y1 hz1 hy1
      generalize wk.drew=wd at *
      refine Zbp ?_
      obtain⟨D,hown,hh,ha⟩:=hz2.o
      have HH:=ħ hh
      have HA:=ħ ha
      have HO:=ħ hown
      clear hh ha hown
      go_wp2_with (at_mapUpdate;refine wpList_mapUpdate_own _ rfl (.tmp 22) (.tmp 24) _ 195 rfl 9 4 Zkk Tryz.underlying195 (plainElem Tryz.prog 4) b (S++Zc7 (ks.take j)).length D rfl HO.o HL1.o (.string y1) (.bool true) (Zgp k.l) rfl rfl HKL.o (.lit (.bool true)) [] (plainElem_bool Tryz.underlying4 true) ?_;intro w6 hown6 hgrow6;have hz6:=ħ (Zh2.put k.l (Zn4 HKO.o) HO.o HH.o HA.o hown6);have hy6:=ħ (hy2.o.trans (Zbq hgrow6));have Y6:=ħ (Y2.o.grownBy hgrow6 (by intro e;have:=hbn.o;have:=Option.some.inj e;omega));clear hown6 hgrow6)
      clear HO HH HA hz2 hy2 Y2
      refine Zaa ⟨Y6.o,?_⟩
      refine Zbp ?_
      obtain⟨D,hown,hh,ha⟩:=hz6.o
      have HH:=ħ hh
      have HA:=ħ ha
      have HO:=ħ hown
      clear hh ha hown
      go_wp2_with (at_mapUpdate;refine wpList_mapUpdate_own _ rfl (.tmp 25) (.tmp 27) _ 195 rfl 9 4 Zkk Tryz.underlying195 (plainElem Tryz.prog 4) b (S++Zc7 (ks.take j)++[k.l]).length D rfl HO.o HL2.o (.string y2) (.bool true) (Zgp k.r) rfl rfl HKR2.o (.lit (.bool true)) [] (plainElem_bool Tryz.underlying4 true) ?_;intro w7 hown7 hgrow7;have hz7:=ħ (Zh2.put k.r (Zn5 HKO.o) HO.o HH.o HA.o hown7);have hy7:=ħ (hy6.o.trans (Zbq hgrow7));have Y7:=ħ (Y6.o.grownBy hgrow7 (by intro e;have:=hbn.o;have:=Option.some.inj e;omega));clear hown7 hgrow7)
      clear HO HH HA hz6 hy6 Y6
      refine Zaa ⟨Y7.o,?_⟩
      unfold Zfr
      have hz8:Hid (Zh2 w7 b (S++Zc7 (ks.take (j+1)))):=ħ (by have:=hz7.o;rwa [HTJ.o,← List.append_assoc,← List.append_assoc])
      clear hz7 Y7
      go_wp2
      go_roundw
      case rel=>exact⟨j+1,by go_num,by omega,hz8,hy7⟩
      case measure=>simp only[intOf];omega
    ·have jj:¬ ((j:Int)<m):=by omega
     have hz9:Hid (Zh2 wr b (Zc7 ((l.take (i+1)).flatMap Zan))):=ħ (by
      have:=hz.o
      rwa [HTK.o,← show ks.take j=ks from List.take_of_length_le (by rw[HM.o];omega)])
     have hy9:=ħ (ho3.o.trans hy.o)
     clear hz hy hq3 ho3 K3
     go_wp2
     go_roundw
     case rel=>exact⟨i+1,by go_num,by omega,hz9,hy9⟩
     case measure=>simp only[intOf];omega
  ·have ii:¬ ((i:Int)<n):=by omega
   have HQE:Hid (Zh2 wr b (Zc7 (l.flatMap Zan))):=ħ (by
    have:=hq.o
    rwa [show l.take i=l from List.take_of_length_le (by rw[← HN.o];omega)] at this)
   clear hq
   have HZE:=ħ (Zdl [] Zlf)
   obtain⟨D,hown,hh,ha⟩:=HQE.o
   have HH:=ħ hh
   have HO:=ħ hown
   clear hh ha hown
   go_wp2_with (at_delete;refine wpList_delete_own _ rfl _ _ 195 9 rfl 4 Zkk Tryz.underlying195 (plainElem Tryz.prog 4) b (Zc7 (l.flatMap Zan)).length D rfl HO.o (.string ⟨#[]⟩) (Zgp []) rfl HZE.o ?_;intro w6 hown6 hturn6;have HO6:=ħ hown6;have ho6:=ħ (ho.o.trans (Zbq hturn6.grown));clear hown6 hturn6)
   have HNS:=ħ (fun (ss:List (List UInt8)) (hp:ss.Perm (strKeys (D.del (Zgp []))))=>Zq7 HO6.o (Zo5 (l.flatMap Zan)) (fun s hs=>HSO.o s (List.mem_filter.1 ((Zs5 _ s).1 hs)).1) (Zo6 _) (fun z=>by
    rw[Zh2.del [] HH.o HSO.o Zlf z]
    constructor
    ·rintro⟨x,hx,hl⟩;exact⟨x,(Zs5 _ x).2 hx,hl⟩
    ·rintro⟨x,hx,hl⟩;exact⟨x,(Zs5 _ x).1 hx,hl⟩) ss hp)
   have HSZ:Hid (Maps.size (D.del (Zgp []))≤2000000):=ħ (by
    have h1:=HO6.o.size_le
    rw[Zg4] at h1
    have:=HBG.o
    omega)
   have HMX:Hid (2000000≤maxLen):=ħ (by decide)
   have B6:=ħ (hb ▸ HXX.o w6 ho6.o)
   clear HO HH ho
   go_wp2_with fail
   refine (callsIn_wide.1 (Tryz.maps_Keys_180 (some b) w6)).mono ?_
   rintro e w7 ⟨rfl,hw7⟩
   have HW7:=ħ hw7
   clear hw7
   go_wp2_with fail
   have HS:=ħ (callsIn_wide.1 (Tryz.slices_Sorted_keys_179_180 b _ _ _ w6 HO6.o (Nat.le_trans HSZ.o HMX.o) (by have:=HSZ.o;omega)))
   rw[← HW7.o] at HS
   refine HS.o.mono ?_
   rintro e w8 ⟨v,ss,rfl,hp,hrow,hnil,hb8⟩
   have h7:RowKit.Below w6.heap.size w6 w7:=by rw[HW7.o];exact (RowKit.Below.refl _ _).alloc (Nat.le_refl _) _
   have B7:=ħ (B6.o.trans (h7.mono B6.o.size))
   have B8:=ħ (B7.o.trans (hb8.mono B7.o.size))
   have HE:=ħ (HNS.o ss hp)
   have HR:Hid (∃ (ro:Option Addr) (rc:Nat),v = .slice ro (Zo5 (l.flatMap Zan)).length rc∧OwnK w8 w.heap.size 1 (Zo5 (l.flatMap Zan)).length rc ((Zo5 (l.flatMap Zan)).map Z3d) ro):=ħ (by
    obtain⟨e1,e2⟩:=HE.o
    rw[e1,e2] at hrow
    have e3:((Zo5 (l.flatMap Zan)).map byL).map encStr=(Zo5 (l.flatMap Zan)).map Z3d:=by rw[List.map_map];rfl
    rw[e3] at hrow
    by_cases h0:(Zo5 (l.flatMap Zan)).length=0
    ·have hss:ss=[]:=List.eq_nil_of_length_eq_zero (by rw[e2];exact h0)
     have hn0:=List.eq_nil_of_length_eq_zero h0
     rw[hn0]
     exact⟨none,0,hnil.2 hss,.nil rfl rfl rfl⟩
    ·obtain⟨g,c,hv,ho,hl,hc1,hc2⟩:=OwnK.of_row hrow (by omega)
     exact⟨some ⟨g,0,none⟩,c,hv,(OwnK.at g 0 ho hl hc1 hc2).lower B7.o.size⟩)
   obtain⟨ro,rc,hv,hO⟩:=HR.o
   have HOO:=ħ hO
   clear hrow hnil hb8 h7 hp hO HR
   subst hv
   go_wp2
   go_ret
   exact⟨ro,rc,rfl,HOO.o,B8.o⟩
end
section
open Go.RowKit Go.Sort Go.Maps
def Zhq (p:Prd):List (List Nat):=if Zau p=true then Zj6 p else []
theorem Zn6 (p:Prd) (w:World) (P:Nat→Prop) (vs:List Value) (B:Nat) (hN:Za8 p≤1000000) (hb:Zib p) (h:Zai w P p vs) (hT:Tab w B) :
  Calls Tryz.prog 54 #[.agg vs.toArray] w fun e w'=>∃ (ao:Option Addr) (cp:Nat),e = .returned (.slice ao (Zhq p).length cp)∧OwnK w' w.heap.size 1 (Zhq p).length cp ((Zhq p).map Z3d) ao∧RowKit.Below w.heap.size w w':=by
 obtain⟨xa,xn,xc,rfl,-⟩:=h.form
 have bx:=(RowKit.Below.refl w.heap.size w).alloc (Nat.le_refl _) (.cells #[.int .i64 p.k,.string (Zad p.l),.string (Zad p.r),.int .i64 p.c,.slice xa xn xc] 25)
 have B1:=ħ bx
 have X1:Hid (Zah (w.alloc (.cells #[.int .i64 p.k,.string (Zad p.l),.string (Zad p.r),.int .i64 p.c,.slice xa xn xc] 25)) w.heap.size 25 [.int .i64 p.k,.string (Zad p.l),.string (Zad p.r),.int .i64 p.c,.slice xa xn xc]):=ħ (heap_alloc_new w _)
 have HVP:=ħ (fun W (hW:RowKit.Below w.heap.size w W)=>Ziu p W P _ B hN hb (h.below hW) (Zc0.step (w:=w) hT hW))
 have HLK:Hid ((Zan p).length≤1000000):=ħ (by
  refine Nat.le_trans (Zfi _ (Zcl p) (Zmc (Zf0 p)) (fun x hx=>(Zbm p x).1 hx)) ?_
  exact Nat.le_trans (Zfz p) hN)
 have HNM:=ħ (fun (hv:Zau p=true) W (hW:RowKit.Below w.heap.size w W) =>
  (show Calls Tryz.prog 120 #[.slice (some ⟨W.heap.size,0,none⟩) 1 1] (W.alloc (.cells #[.int .i64 p.k,.string (Zad p.l),.string (Zad p.r),.int .i64 p.c,.slice xa xn xc] 25)) fun e w'=>∃ (ro:Option Addr) (rc:Nat),e = .returned (.slice ro (Zj6 p).length rc)∧OwnK w' (W.heap.size+1) 1 (Zj6 p).length rc ((Zj6 p).map Z3d) ro∧RowKit.Below (W.heap.size+1) (W.alloc (.cells #[.int .i64 p.k,.string (Zad p.l),.string (Zad p.r),.int .i64 p.c,.slice xa xn xc] 25)) w' by
   have by1:=(RowKit.Below.refl W.heap.size W).alloc (Nat.le_refl _) (.cells #[.int .i64 p.k,.string (Zad p.l),.string (Zad p.r),.int .i64 p.c,.slice xa xn xc] 25)
   have hp:=((h.below hW).below by1).mono (P':=fun g=>g<W.heap.size+1) (fun g _ hg=>by simpa using hg)
   have hv5:Zah (W.alloc (.cells #[.int .i64 p.k,.string (Zad p.l),.string (Zad p.r),.int .i64 p.c,.slice xa xn xc] 25)) W.heap.size 25 [.int .i64 p.k,.string (Zad p.l),.string (Zad p.r),.int .i64 p.c,.slice xa xn xc]:=heap_alloc_new _ _
   have:=Zkb [p] (W.alloc (.cells #[.int .i64 p.k,.string (Zad p.l),.string (Zad p.r),.int .i64 p.c,.slice xa xn xc] 25)) (fun g=>g<W.heap.size+1) (some ⟨W.heap.size,0,none⟩) 1 1 rfl
    (.inr ⟨W.heap.size,0,rfl,Nat.lt_succ_self _,by simp,by
     unfold Za1
     exact⟨⟨_,hp,fun j u hj=>by rw[Nat.zero_add];exact hv5.cell j u hj⟩,by unfold Za1;trivial⟩⟩)
    (fun q hq=>by rw[List.mem_singleton] at hq;subst hq;exact Zet hv) (fun q hq=>by rw[List.mem_singleton] at hq;subst hq;exact hN) (by simpa using HLK.o) (by omega)
   have e1:[p].flatMap Zan=Zan p:=by simp
   rw[e1,World.size_alloc] at this
   exact this))
 have HV:Hid (Zhq p=if Zau p=true then Zj6 p else []):=ħ rfl
 obtain⟨V,hV⟩:∃ V,Zhq p=V:=⟨_,rfl⟩
 rw[hV] at HV ⊢
 clear bx h hT hb hN hV
 generalize Zau p=s at *
 generalize Zj6 p=ns at *
 generalize p.k=q0 at *
 generalize Zad p.l=q1 at *
 generalize Zad p.r=q2 at *
 generalize p.c=q3 at *
 go_enter Tryz.func54,Tryz.ntmps54
 go_upto_region 1 with (fail)
 generalize w.alloc (.cells #[.int .i64 q0,.string q1,.string q2,.int .i64 q3,.slice xa xn xc] 25)=w1 at *
 go_wp2_with (refine wpList_load_row rfl 25 (.tmp 1) rfl w.heap.size ?x1 25 #[.int .i64 q0,.string q1,.string q2,.int .i64 q3,.slice xa xn xc] (0,0) _ X1.o Tryz.underlying25 rfl (Zae _ rfl) ?_;(case x1=>rfl))
 refine (HVP.o w1 B1.o).mono ?_
 rintro e w2 ⟨rfl,b2⟩
 have B2:=ħ (B1.o.trans (b2.mono B1.o.size))
 have X2:=ħ (X1.o.step b2)
 clear b2 HVP B1 X1
 cases s with
 | false =>
  have HX:Hid (V=[]):=ħ (by rw[HV.o];rfl)
  go_wp2
  go_ret
  exact⟨none,0,by rw[HX.o];rfl,by rw[HX.o];exact .nil rfl rfl rfl,B2.o⟩
 | true =>
  have HX:Hid (V=ns):=ħ (by rw[HV.o];rfl)
  have HC:=ħ (HNM.o (by trivial) w2 B2.o)
  have bx:=(RowKit.Below.refl w2.heap.size w2).alloc (Nat.le_refl _) (.cells #[.int .i64 q0,.string q1,.string q2,.int .i64 q3,.slice xa xn xc] 25)
  have B3:=ħ (B2.o.trans (bx.mono B2.o.size))
  have S3:Hid ((w2.alloc (.cells #[.int .i64 q0,.string q1,.string q2,.int .i64 q3,.slice xa xn xc] 25)).heap.size=w2.heap.size+1):=ħ (by simp)
  clear bx
  go_wp2_with (refine wpList_load_row rfl 25 (.tmp 1) rfl w.heap.size ?x2 25 #[.int .i64 q0,.string q1,.string q2,.int .i64 q3,.slice xa xn xc] (0,0) _ X2.o Tryz.underlying25 rfl (Zae _ rfl) ?_;(case x2=>rfl))
  refine HC.o.mono ?_
  rintro e w4 ⟨ro,rc,rfl,ho,hb4⟩
  have B4:=ħ (B3.o.trans (hb4.mono (by rw[← S3.o];exact B3.o.size)))
  have O4:=ħ (ho.lower (B':=w.heap.size) (by rw[← S3.o];exact B3.o.size))
  clear ho hb4
  go_wp2
  go_ret
  exact⟨ro,rc,by rw[HX.o];rfl,by rw[HX.o];exact O4.o,B4.o⟩
def Zcr (w:World) (ao:Option Addr) (l:List (List Nat)):Prop:=l=[]∨∃ g off,ao=some ⟨g,off,none⟩∧g<w.heap.size∧Za3 w g off (l.map Z3d)
theorem Zcr.below {w w':World} {ao:Option Addr} {l:List (List Nat)} (h:Zcr w ao l) (hb:RowKit.Below w.heap.size w w'):Zcr w' ao l:=by
 rcases h with h | ⟨g,off,h1,h2,h3⟩
 ·exact .inl h
 ·exact .inr ⟨g,off,h1,Nat.lt_of_lt_of_le h2 hb.size,h3.of_block (hb.block g h2)⟩
theorem OwnK.strsR {w:World} {B n cap:Nat} {ao:Option Addr} {l:List (List Nat)} (h:OwnK w B 1 n cap (l.map Z3d) ao) (hn:n=l.length):Zcr w ao l:=by
 cases h with
 | nil h h1 h2=>exact .inl (List.eq_nil_of_length_eq_zero (by omega))
 | «at» g off h h1 h2 h3=>exact .inr ⟨g,off,rfl,h.lt,h.cells⟩
theorem Zcr.at {w:World} {ao:Option Addr} {l:List (List Nat)} (h:Zcr w ao l) (i:Nat) (s:List Nat) (hs:l[i]?=some s):∃ g off,ao=some ⟨g,off,none⟩∧g<w.heap.size∧w.cell? ⟨g,off+i,none⟩=some (.string (Zad s)):=by
 rcases h with h | ⟨g,off,h1,h2,h3⟩
 ·rw[h] at hs;simp at hs
 ·exact⟨g,off,h1,h2,h3 i _ (by rw[List.getElem?_map,hs];rfl)⟩
end
section
theorem Zzf (M L:Nat):∀ (ks:List Prd) (n:Nat),n≤Zni M L n ks
 | [],n=>by rw[Zni];exact Nat.le_refl _
 | q::qs,n=>by
  rw[Zni]
  split
  ·exact Nat.le_trans (Nat.le_add_right _ _) (Zzf M L qs _)
  ·exact Nat.le_refl _
theorem Zuy (M L:Nat) (h:∀ q,Zmd M L q≤M→Za8 q≤Zmd M L q):∀ (ks:List Prd) (n:Nat),Zni M L n ks≤M→n+Zb9 ks≤Zni M L n ks
 | [],n,_=>by rw[Zni,Zb9];exact Nat.le_refl _
 | q::qs,n,hn=>by
  rw[Zni] at hn ⊢
  rw[Zb9]
  by_cases hm:n≤M
  ·rw[if_pos hm] at hn ⊢
   have h1:=Zzf M L qs (n+Zmd M L q)
   have h2:=h q (by omega)
   have h3:=Zuy M L h qs _ hn
   omega
  ·rw[if_neg hm] at hn
   exact absurd hn hm
theorem Zuz (M:Nat):∀ (L:Nat) (p:Prd),Zmd M L p≤M→Za8 p≤Zmd M L p
 | 0,p,h=>by rw[Zmd] at h;omega
 | L+1,.mk k l r c ks,h=>by
  rw[Zmd] at h ⊢
  rw[Za8]
  exact Zuy M L (Zuz M L) ks 1 h
theorem Z6q {p:Prd} {M L:Nat} (h:Z7s p M L=true):Za8 p≤M:=by
 have h1:=of_decide_eq_true h
 exact Nat.le_trans (Zuz M L p h1) h1
theorem Zu0 {l:List Nat} (h:Zjl l=true):NmB l:=⟨(Zjm h).1,by have:=(Zjm h).2;omega⟩
mutual
theorem Ziw:∀ p,Zcz p=true→Zib p
 | .mk k l r c ks,h=>by
  unfold Zcz at h
  unfold Zib
  by_cases hk:k=0
  ·rw[if_pos hk] at h
   simp only[Bool.and_eq_true] at h
   obtain⟨⟨⟨h1,h2⟩,h3⟩,h4⟩:=h
   have hkn:ks=[]:=by simpa using h1
   subst hkn
   exact⟨Zu0 h2,Zu0 h3,by unfold Zxd;trivial⟩
  ·rw[if_neg hk] at h
   simp only[Bool.and_eq_true,beq_iff_eq] at h
   obtain⟨⟨⟨h1,rfl⟩,rfl⟩,h2⟩:=h
   exact⟨⟨by simp,by simp⟩,⟨by simp,by simp⟩,Zq8 ks h2⟩
theorem Zq8:∀ ks,Zki ks=true→Zxd ks
 | [],_=>by unfold Zxd;trivial
 | p::ps,h=>by
  unfold Zki at h
  rw[Bool.and_eq_true] at h
  unfold Zxd
  exact⟨Ziw p h.1,Zq8 ps h.2⟩
end
end
section
open Go.RowKit Go.Sort
def Zwk:List (List Nat)→Bool
 | []=>true
 | [_]=>true
 | x::y::l=>ltL x y&&Zwk (y::l)
theorem Zlg:∀ l,Zwk l=true↔Zjh l
 | []=>by simp[Zwk,Zjh]
 | [x]=>by simp[Zwk,Zjh]
 | x::y::l=>by
  have ih:=Zlg (y::l)
  show (ltL x y&&Zwk (y::l))=true↔_
  rw[Bool.and_eq_true,ih]
  constructor
  ·rintro⟨h1,h2⟩
   refine List.pairwise_cons.2 ⟨fun z hz=>?_,h2⟩
   rcases List.mem_cons.1 hz with rfl | hz
   ·exact h1
   ·exact Zdh _ _ _ h1 ((List.pairwise_cons.1 h2).1 z hz)
  ·intro h
   have h':=List.pairwise_cons.1 h
   exact⟨h'.1 y (by simp),h'.2⟩
def Zcy (ns:List (List Nat)) (most:Int):Bool:=(decide (ns.length≤16)&&(decide (0≤most)&&decide (most≤65535)))&&(ns.all Zbo&&Zwk ns)
def Z3e (ns:List (List Nat)) (i:Nat):Prop:=∀ j s,j<i→ns[j]?=some s→Zbo s=true∧∀ r,0<j→ns[j-1]?=some r→ltL r s=true
theorem Zq9:∀ (ns:List (List Nat)),Z3e ns ns.length→(ns.all Zbo&&Zwk ns)=true
 | [],_=>rfl
 | [x],h=>by
  have:=(h 0 x (by simp) rfl).1
  simp[Zwk,this]
 | x::y::l,h=>by
  have ih:=Zq9 (y::l) (fun j s hj hs=>by
   obtain⟨h1,h2⟩:=h (j+1) s (by simpa using hj) (by simpa using hs)
   refine⟨h1,fun r h0 hr=>h2 r (by omega) ?_⟩
   rw[show j+1-1=(j-1)+1 by omega,List.getElem?_cons_succ]
   exact hr)
  rw[Bool.and_eq_true] at ih ⊢
  have h1:=(h 0 x (by simp) rfl).1
  have h2:=(h 1 y (by simp) rfl).2 x (by omega) rfl
  refine⟨?_,?_⟩
  ·rw[List.all_cons,h1,ih.1];rfl
  ·show (ltL x y&&Zwk (y::l))=true
   rw[h2,ih.2];rfl
theorem Zra {ns:List (List Nat)} {i:Nat} {s:List Nat} (hs:ns[i]?=some s) (h:Zbo s=false∨∃ r,0<i∧ns[i-1]?=some r∧ltL r s=false):(ns.all Zbo&&Zwk ns)=false:=by
 rw[Bool.eq_false_iff]
 intro ht
 rw[Bool.and_eq_true,List.all_eq_true,Zlg] at ht
 rcases h with h | ⟨r,h0,h1,h2⟩
 ·have:=ht.1 s (List.mem_of_getElem? hs)
  rw[h] at this;cases this
 ·have e1:=(List.getElem?_eq_some_iff.1 h1)
  have e2:=(List.getElem?_eq_some_iff.1 hs)
  have:=List.pairwise_iff_getElem.1 ht.2 (i-1) i e1.1 e2.1 (by omega)
  rw[e1.2,e2.2,h2] at this
  cases this
theorem Zn7 {ns:List (List Nat)} {i:Nat} {s:List Nat} (h:Z3e ns i) (hs:ns[i]?=some s) (hv:Zbo s=true) (ha:∀ r,0<i→ns[i-1]?=some r→ltL r s=true):Z3e ns (i+1):=by
 intro j s' hj hs'
 rcases Nat.lt_succ_iff_lt_or_eq.1 hj with h1 | rfl
 ·exact h j s' h1 hs'
 ·rw[hs] at hs'
  cases hs'
  exact⟨hv,ha⟩
theorem Zrb (ns:List (List Nat)) (most:Int) (ao:Option Addr) (n cap:Nat) (w:World) (B:Nat) (hT:Tab w B) (hn:n=ns.length) (hr:Zcr w ao ns) (hb:∀ s∈ns,NmB s) (hbig:n≤1000000) :
  Calls Tryz.prog 174 #[.slice ao n cap,.int .i64 most] w fun e w'=>e = .returned (.bool (Zcy ns most))∧Below w.heap.size w w':=by
 have HV:Hid (Zcy ns most=((decide (n≤16)&&(decide (0≤most)&&decide (most≤65535)))&&(ns.all Zbo&&Zwk ns))):=ħ (by rw[hn];rfl)
 generalize Zcy ns most=V at *
 have HR:=ħ hr
 have HB:=ħ hb
 have HN:=ħ hn
 have HT:=ħ (fun W (hW:Below w.heap.size w W)=>Tab.keep hT (fun k hk=>hW.block k (Nat.lt_of_lt_of_le hk hT.size)) hW.size)
 have B0:=ħ (Below.refl w.heap.size w)
 clear hr hb hn hT
 go_enter Tryz.func174,Tryz.ntmps174
 by_cases h16:16<n
 ·have h1:(16:Int)<n:=by omega
  go_wp2
  go_ret
  exact⟨Zag (by rw[HV.o,decide_eq_false (by omega)];rfl),B0.o⟩
 ·have h1:¬ (16:Int)<n:=by omega
  by_cases hm0:most<0
  ·go_wp2
   go_ret
   exact⟨Zag (by rw[HV.o,decide_eq_false (by omega:¬ 0≤most)];simp),B0.o⟩
  ·by_cases hm1:65535<most
   ·go_wp2
    go_ret
    exact⟨Zag (by rw[HV.o,decide_eq_false (by omega:¬ most≤65535)];simp),B0.o⟩
   ·have HV2:Hid (V=(ns.all Zbo&&Zwk ns)):=ħ (by rw[HV.o,decide_eq_true (by omega),decide_eq_true (by omega),decide_eq_true (by omega)];rfl)
    clear HV
    go_wp2_with fail
    go_loopw [20] (fun c wr=>∃ i:Nat,c = .int .i64 i∧i≤n∧Hid (Z3e ns i)∧Hid (Below w.heap.size w wr)) (fun c _=>(n-intOf c).toNat)
    case atStart=>exact⟨0,rfl,by omega,ħ (fun j s hj=>absurd hj (Nat.not_lt_zero _)),B0⟩
    case round =>
     clear B0
     obtain⟨i,rfl,hi,hg,hw⟩:=hrel
     have e2:IntKind.i64.wrap ((i:Int)+1)=((i+1:Nat):Int):=IntWalk.i64_in _ (by omega)
     by_cases hlt:i<n
     ·have ii:(i:Int)<n:=by omega
      obtain⟨s,hs⟩:∃ s,ns[i]?=some s:=⟨_,List.getElem?_eq_getElem (by rw[← HN.o];exact hlt)⟩
      have HS:=ħ hs
      obtain⟨g,off,hao,hgl,hc⟩:=(HR.o.below hw.o).at i s hs
      have HAO:=ħ hao
      subst hao
      have HNM:=ħ (HB.o s (List.mem_of_getElem? hs))
      have HVN:=ħ (Zmb s wr B (HT.o wr hw.o) HNM.o.2 HNM.o.1)
      obtain⟨v,hv⟩:∃ v,Zbo s=v:=⟨_,rfl⟩
      rw[hv] at HVN
      have HVV:=ħ hv
      clear hv hs hgl
      cases v with
      | false =>
       generalize hy:Zad s=y at *
       clear hy
       go_wp2_with fail
       refine HVN.o.mono ?_
       rintro e w2 ⟨rfl,b2⟩
       have B2:=ħ (hw.o.trans ((Zbr b2).mono hw.o.size))
       clear b2
       go_wp2
       go_ret
       exact⟨Zag (by rw[HV2.o];exact (Zra HS.o (.inl HVV.o)).symm),B2.o⟩
      | true =>
       by_cases h0:i=0
       ·have i0:¬ (0:Int)<(i:Int):=by omega
        have HG2:=ħ (Zn7 hg.o HS.o HVV.o (fun r hr _=>absurd hr (by omega)))
        generalize hy:Zad s=y at *
        clear hy h0
        go_wp2_with fail
        refine HVN.o.mono ?_
        rintro e w2 ⟨rfl,b2⟩
        have B2:=ħ (hw.o.trans ((Zbr b2).mono hw.o.size))
        clear b2 hw
        go_wp2_with fail
        go_roundw
        case rel=>exact⟨i+1,by go_num,by omega,HG2,B2⟩
        case measure=>simp only[intOf];omega
       ·have i0:(0:Int)<(i:Int):=by omega
        obtain⟨j,rfl⟩:∃ j,i=j+1:=⟨i-1,by omega⟩
        have e3:IntKind.i64.wrap (((j+1:Nat):Int)-1)=(j:Int):=by rw[show ((j+1:Nat):Int)-1=(j:Int) by omega];exact IntWalk.i64_in _ (by omega)
        obtain⟨r,hr⟩:∃ r,ns[j]?=some r:=⟨_,List.getElem?_eq_getElem (by rw[← HN.o];omega)⟩
        have HRJ:=ħ hr
        have jj:(j:Int)<n:=by omega
        have HNR:=ħ (HB.o r (List.mem_of_getElem? hr))
        have hl:=Ze1 r s HNR.o.1 HNM.o.1
        have HLT:Hid (∀ b,ltL r s=b→Op.bytesLess (Zad r).toList (Zad s).toList=b):=ħ (fun b h=>hl.trans h)
        have HCR:Hid (∀ W,Below wr.heap.size wr W→W.cell? ⟨g,off+j,none⟩=some (.string (Zad r))):=ħ (fun W hW=>by
         obtain⟨g',off',e',h1,h2⟩:=((HR.o.below hw.o).below hW).at j r hr
         cases e'
         exact h2)
        clear hl hr
        have HYR:Hid True:=ħ trivial
        cases hlr:ltL r s with
        | true =>
         have HG2:=ħ (Zn7 hg.o HS.o HVV.o (fun r' _ hr'=>by
          rw[show j+1-1=j by omega,HRJ.o] at hr'
          cases hr'
          exact hlr))
         have l1:=HLT.o true hlr
         clear hlr HLT h0
         generalize hy:Zad s=y at *
         generalize hz:Zad r=z at *
         clear hy hz
         go_wp2_with fail
         refine HVN.o.mono ?_
         rintro e w2 ⟨rfl,b2⟩
         have B2:=ħ (hw.o.trans ((Zbr b2).mono hw.o.size))
         have c2:=HCR.o w2 (Zbr b2)
         clear b2 hw
         go_wp2_with fail
         go_roundw
         case rel=>exact⟨j+1+1,by go_num,by omega,HG2,B2⟩
         case measure=>simp only[intOf];omega
        | false =>
         have l1:=HLT.o false hlr
         have HF:=ħ (Zra HS.o (.inr ⟨r,by omega,HRJ.o,hlr⟩))
         clear hlr HLT h0
         generalize hy:Zad s=y at *
         generalize hz:Zad r=z at *
         clear hy hz
         go_wp2_with fail
         refine HVN.o.mono ?_
         rintro e w2 ⟨rfl,b2⟩
         have B2:=ħ (hw.o.trans ((Zbr b2).mono hw.o.size))
         have c2:=HCR.o w2 (Zbr b2)
         clear b2 hw
         go_wp2
         go_ret
         exact⟨Zag (by rw[HV2.o];exact HF.o.symm),B2.o⟩
     ·obtain rfl:i=n:=by omega
      have ii:¬ ((i:Int)<(i:Int)):=by omega
      go_wp2
      go_ret
      exact⟨Zag (by rw[HV2.o];exact (Zq9 ns (by rw[← HN.o];exact hg.o)).symm),hw.o⟩
end
section
open Go.RowKit Go.Sort
theorem Zzg (a b:List Nat) (w:World) (ha:∀ y∈a,y<256) (hb:∀ y∈b,y<256) :
  Calls Tryz.prog 267 #[.string (Zad a),.string (Zad b)] w fun e w'=>e = .returned (.bool (ltL a b))∧w=w':=by
 have h1:=Ze1 a b ha hb
 generalize ltL a b=V at *
 generalize Zad a=s at *
 generalize Zad b=t at *
 cases V with
 | true =>
  go_enter Tryz.func267,Tryz.ntmps267
  go_wp2
  go_ret
  exact⟨rfl,rfl⟩
 | false =>
  go_enter Tryz.func267,Tryz.ntmps267
  go_wp2
  go_ret
  exact⟨rfl,rfl⟩
theorem Zn8 {l:List (List Nat)} (hl:Zjh l) {x:List Nat} {i:Nat} (hlo:∀ m k,m<i→l[m]?=some k→ltL k x=true) (hhi:∀ m k,i≤m→l[m]?=some k→ltL k x=false) (hx:x∈l):l[i]?=some x:=by
 obtain⟨m,hm⟩:=List.mem_iff_getElem?.1 hx
 rcases Nat.lt_trichotomy m i with h | rfl | h
 ·have:=hlo m x h hm
  rw[Za4] at this
  cases this
 ·exact hm
 ·have hml:=(List.getElem?_eq_some_iff.1 hm).1
  have hil:i<l.length:=by omega
  have h1:=List.pairwise_iff_getElem.1 hl i m hil hml h
  rw[(List.getElem?_eq_some_iff.1 hm).2] at h1
  have h2:=hhi i l[i] (Nat.le_refl _) (List.getElem?_eq_getElem hil)
  rw[h1] at h2
  cases h2
theorem Z3f {l:List (List Nat)} (hl:Zjh l) {x:List Nat} {i:Nat} (h:l[i]?=some x):l.idxOf x=i:=by
 have hx:=List.mem_of_getElem? h
 have hlt:=List.idxOf_lt_length_iff.2 hx
 have h1:=List.getElem_idxOf hlt
 obtain⟨hil,hie⟩:=List.getElem?_eq_some_iff.1 h
 rcases Nat.lt_trichotomy (l.idxOf x) i with h2 | h2 | h2
 ·have:=List.pairwise_iff_getElem.1 hl _ _ hlt hil h2
  rw[h1,hie,Za4] at this;cases this
 ·exact h2
 ·have:=List.pairwise_iff_getElem.1 hl _ _ hil hlt h2
  rw[h1,hie,Za4] at this;cases this
theorem Z3g (w:World) (ao:Option Addr) (n cp:Nat) (l:List (List Nat)) (x:List Nat) (hn:n=l.length) (h:Zcr w ao l) (hb:∀ k∈l,NmB k) (hx:NmB x) (hl:Zjh l) (hbig:n≤1000000) :
  Calls Tryz.prog 233 #[.slice ao n cp,.string (Zad x)] w fun e w'=>(∃ i:Nat,i≤n∧e = .returned (.tuple #[.int .i64 (i:Int),.bool (l.contains x)])∧(x∈l→l.idxOf x=i))∧w=w':=by
 have H:=ħ h
 have HN:=ħ hn
 have HB:=ħ hb
 have HL:=ħ hl
 have HX:=ħ hx
 have HLS:=ħ (fun k (hk:k∈l) w=>Zzg k x w (hb k hk).1 hx.1)
 have HEQ:=ħ (fun k (hk:k∈l)=>Zd6 k x (hb k hk).1 hx.1)
 obtain⟨D,hD⟩:∃ D,l.contains x=D:=⟨_,rfl⟩
 have HD:=ħ hD
 rw[hD]
 clear h hn hb hl hx hD
 generalize Zad x=x1 at *
 go_enter Tryz.func233,Tryz.ntmps233
 go_wp2_with fail
 go_loopw [7,8] (fun ii jj wr=>∃ (i j:Nat),ii = .int .i64 i∧jj = .int .i64 j∧i≤j∧j≤n∧Hid (∀ m k,m<i→l[m]?=some k→ltL k x=true)∧Hid (∀ m k,j≤m→l[m]?=some k→ltL k x=false)∧w=wr) (fun i j _=>(intOf j-intOf i).toNat)
 case atStart=>exact⟨0,n,rfl,rfl,by omega,by omega,ħ (fun m k hm=>absurd hm (Nat.not_lt_zero m)),ħ (fun m k hm hk=>by
  have:=(List.getElem?_eq_some_iff.1 hk).1
  rw[← HN.o] at this;omega),rfl⟩
 case round =>
  obtain⟨i,j,rfl,rfl,hij,hj,hlo,hhi,rfl⟩:=hrel
  by_cases hlt:i<j
  ·have ij:(i:Int)<j:=by omega
   have e1:IntKind.i64.wrap ((i:Int)+j)=((i+j:Nat):Int):=IntWalk.i64_in _ (by omega)
   go_upto_region 5 with (fail)
   obtain⟨m,hm⟩:∃ m:Nat,((i:Int)+j)/2=(m:Int):=⟨(i+j)/2,by omega⟩
   rw[hm]
   have him:i≤m:=by omega
   have hmj:m<j:=by omega
   have mn:(m:Int)<n:=by omega
   clear hm e1
   obtain⟨k,hk⟩:∃ k,l[m]?=some k:=⟨_,List.getElem?_eq_getElem (by rw[← HN.o];omega)⟩
   have HKI:=ħ hk
   obtain⟨g,off,hao,hg,hc⟩:=H.o.at m k hk
   have HAO:=ħ hao
   subst hao
   have HCK:=ħ (HLS.o k (List.mem_of_getElem? hk))
   obtain⟨b,hbk⟩:∃ b,ltL k x=b:=⟨_,rfl⟩
   rw[hbk] at HCK
   have HBK:=ħ hbk
   have e2:IntKind.i64.wrap ((m:Int)+1)=((m+1:Nat):Int):=IntWalk.i64_in _ (by omega)
   clear hk hg hbk
   generalize Zad k=k1 at *
   go_wp2_with fail
   refine (HCK.o w).mono ?_
   rintro e w2 ⟨rfl,rfl⟩
   cases b with
   | true =>
    go_wp2_with fail
    go_roundw
    case rel=>exact⟨m+1,j,by go_num,rfl,by omega,by omega,ħ (fun m' k' hm' hk'=>by
      rcases Nat.lt_or_ge m' m with h | h
      ·have h1:=List.pairwise_iff_getElem.1 HL.o m' m (List.getElem?_eq_some_iff.1 hk').1 (List.getElem?_eq_some_iff.1 HKI.o).1 h
       rw[(List.getElem?_eq_some_iff.1 hk').2,(List.getElem?_eq_some_iff.1 HKI.o).2] at h1
       exact Zdh _ _ _ h1 HBK.o
      ·obtain rfl:m'=m:=by omega
       rw[HKI.o] at hk'
       obtain rfl:=Option.some.inj hk'
       exact HBK.o),hhi,by trivial⟩
    case measure=>simp only[intOf];omega
   | false =>
    go_wp2_with fail
    go_roundw
    case rel=>exact⟨i,m,rfl,rfl,by omega,by omega,hlo,ħ (fun m' k' hm' hk'=>by
      rcases Nat.lt_or_ge m m' with h | h
      ·have h1:=List.pairwise_iff_getElem.1 HL.o m m' (List.getElem?_eq_some_iff.1 HKI.o).1 (List.getElem?_eq_some_iff.1 hk').1 h
       rw[(List.getElem?_eq_some_iff.1 HKI.o).2,(List.getElem?_eq_some_iff.1 hk').2] at h1
       rw[Bool.eq_false_iff]
       intro h2
       have:=Zdh _ _ _ h1 h2
       rw[HBK.o] at this
       cases this
      ·obtain rfl:m'=m:=by omega
       rw[HKI.o] at hk'
       obtain rfl:=Option.some.inj hk'
       exact HBK.o),by trivial⟩
    case measure=>simp only[intOf];omega
  ·obtain rfl:i=j:=by omega
   have ij:¬ ((i:Int)<(i:Int)):=by omega
   by_cases hin:i<n
   ·have bi:(i:Int)<n:=by omega
    have bib:decide ((i:Int)<n)=true:=decide_eq_true bi
    have bic:decide (i<n)=true:=decide_eq_true hin
    obtain⟨k,hk⟩:∃ k,l[i]?=some k:=⟨_,List.getElem?_eq_getElem (by rw[← HN.o];omega)⟩
    have HKI:=ħ hk
    obtain⟨g,off,hao,hg,hc⟩:=H.o.at i k hk
    have HAO:=ħ hao
    subst hao
    have heq:=HEQ.o k (List.mem_of_getElem? hk)
    by_cases hkx:k=x
    ·have hb1:(k==x)=true:=beq_iff_eq.2 hkx
     have HF:Hid (D=true):=ħ (by rw[← HD.o,← hkx];simpa using List.mem_of_getElem? HKI.o)
     have HI:Hid (l.idxOf x=i):=ħ (Z3f HL.o (by rw[← hkx];exact HKI.o))
     rw[hb1] at heq
     clear hkx hb1 hk hg
     generalize Zad k=k1 at *
     go_wp2
     go_ret2
     exact⟨⟨i,by omega,by rw[HF.o];rfl,fun _=>HI.o⟩,rfl⟩
    ·have hb1:(k==x)=false:=beq_eq_false_iff_ne.2 hkx
     have HF0:Hid (x ∉ l):=ħ (fun hm=>by
      have:=Zn8 HL.o hlo.o hhi.o hm
      rw[HKI.o] at this
      exact hkx (Option.some.inj this))
     have HF:Hid (D=false):=ħ (by rw[← HD.o,Bool.eq_false_iff];intro h;exact HF0.o (by simpa using h))
     rw[hb1] at heq
     clear hkx hb1 hk hg
     generalize Zad k=k1 at *
     go_wp2
     go_ret2
     exact⟨⟨i,by omega,by rw[HF.o];rfl,fun h=>absurd h HF0.o⟩,rfl⟩
   ·have bi:¬ ((i:Int)<n):=by omega
    have bib:decide ((i:Int)<n)=false:=decide_eq_false bi
    have bic:decide (i<n)=false:=decide_eq_false hin
    have HF0:Hid (x ∉ l):=ħ (fun hm=>by
      have:=Zn8 HL.o hlo.o hhi.o hm
      have:=(List.getElem?_eq_some_iff.1 this).1
      rw[← HN.o] at this
      omega)
    have HF:Hid (D=false):=ħ (by rw[← HD.o,Bool.eq_false_iff];intro h;exact HF0.o (by simpa using h))
    go_wp2
    go_ret2
    exact⟨⟨i,by omega,by rw[HF.o];rfl,fun h=>absurd h HF0.o⟩,rfl⟩
def Zh3 (ns:List (List Nat)) (s:List Nat):Int:=if Ze4 ns s=true then (Zco ns s:Int) else -1
theorem Zlh {ns:List (List Nat)} {s:List Nat}:Zh3 ns s<0↔Ze4 ns s=false:=by
 unfold Zh3
 by_cases h:Ze4 ns s=true
 ·rw[if_pos h,h];simp
 ·rw[if_neg h];simpa using h
theorem Ze7 (v0 v1:Value):(Tryz.prog.info? 139).map (·.size)=some #[v0,v1].size:=by
 show _=some 2
 kernel_rfl
theorem Zix (w:World) (ao:Option Addr) (n cp:Nat) (most:Int) (l:List (List Nat)) (x:List Nat) (hn:n=l.length) (h:Zcr w ao l) (hb:∀ k∈l,NmB k) (hx:NmB x) (hl:Zjh l) (hbig:n≤1000000) :
  Calls Tryz.prog 175 #[.agg #[.slice ao n cp,.int .i64 most],.string (Zad x)] w fun e w'=>e = .returned (.int .i64 (Zh3 l x))∧Below w.heap.size w w':=by
 have HX:=ħ hx
 have bx:=(Below.refl w.heap.size w).alloc (Nat.le_refl _) (.cells #[.slice ao n cp,.int .i64 most] 139)
 have B1:=ħ bx
 have X1:Hid (Zah (w.alloc (.cells #[.slice ao n cp,.int .i64 most] 139)) w.heap.size 139 [.slice ao n cp,.int .i64 most]):=ħ (heap_alloc_new w _)
 have HBS:=ħ (Z3g (w.alloc (.cells #[.slice ao n cp,.int .i64 most] 139)) ao n cp l x hn (h.below bx) hb hx hl hbig)
 have HIN:Hid (∀ i:Nat,i≤n→(x∈l→l.idxOf x=i)→x≠[]→Zh3 l x=if l.contains x=true then ((i:Int)+1) else -1):=ħ (fun i _ hi hx0=>by
  unfold Zh3 Ze4 Zco
  rw[show (x==[])=false by rw[beq_eq_false_iff_ne];exact hx0,Bool.false_or,if_neg hx0]
  by_cases hm:l.contains x=true
  ·rw[if_pos hm,if_pos hm,hi (by simpa using hm)];omega
  ·rw[if_neg hm,if_neg hm])
 clear bx hb hl h hn
 by_cases h0:x=[]
 ·have he:=Zf2
  have HV:Hid (Zh3 l x=0):=ħ (by unfold Zh3 Ze4 Zco;rw[h0];rfl)
  rw[HV.o]
  subst h0
  clear HBS HIN HX hx
  generalize Zad []=s at *
  go_enter Tryz.func175,Tryz.ntmps175
  go_wp2
  go_ret
  exact⟨rfl,B1.o⟩
 ·have he:=Zgg x (fun h=>h0 (List.eq_nil_of_length_eq_zero h))
  have HI:=ħ (fun i h1 h2=>HIN.o i h1 h2 h0)
  generalize Zh3 l x=V at *
  generalize l.contains x=D at *
  clear h0 HIN hx HX
  generalize Zad x=s at *
  go_enter Tryz.func175,Tryz.ntmps175
  go_upto_region 3 with (fail)
  generalize w.alloc (.cells #[.slice ao n cp,.int .i64 most] 139)=w1 at *
  have x0:=X1.o.cell 0 _ rfl
  go_wp2_with fail
  refine HBS.o.mono ?_
  rintro e w2 ⟨⟨i,hi,rfl,hix⟩,rfl⟩
  have HVV:=ħ (HI.o i hi hix)
  clear hix x0
  have e2:IntKind.i64.wrap ((i:Int)+1)=(i:Int)+1:=IntWalk.i64_in _ (by omega)
  cases D with
  | true =>
   go_wp2
   go_ret
   exact⟨Za2 (by rw[HVV.o];rfl),B1.o⟩
  | false =>
   go_wp2
   go_ret
   exact⟨Za2 (by rw[HVV.o];rfl),B1.o⟩
end
section
open Go.RowKit Go.Sort
def Za7 {α:Type} (f:α→List Value) (w:World) (ao:Option Addr) (l:List α):Prop:=l=[]∨∃ g off,ao=some ⟨g,off,none⟩∧g<w.heap.size∧Za3 w g off (l.flatMap f)
theorem Za7.below {α:Type} {f:α→List Value} {w w':World} {ao:Option Addr} {l:List α} (h:Za7 f w ao l) (hb:Below w.heap.size w w'):Za7 f w' ao l:=by
 rcases h with h | ⟨g,off,h1,h2,h3⟩
 ·exact .inl h
 ·exact .inr ⟨g,off,h1,Nat.lt_of_lt_of_le h2 hb.size,h3.of_block (hb.block g h2)⟩
theorem Za7.at {α:Type} {f:α→List Value} {k:Nat} (hf:∀ x,(f x).length=k) {w:World} {ao:Option Addr} {l:List α} (h:Za7 f w ao l) (i:Nat) (x:α) (hx:l[i]?=some x) :
  ∃ g off,ao=some ⟨g,off,none⟩∧g<w.heap.size∧∀ j u,(f x)[j]?=some u→w.cell? ⟨g,off+i*k+j,none⟩=some u:=by
 rcases h with h | ⟨g,off,h1,h2,h3⟩
 ·rw[h] at hx;simp at hx
 ·refine⟨g,off,h1,h2,fun j u hj=>?_⟩
  have hl:j<k:=by rw[← hf x];exact (List.getElem?_eq_some_iff.1 hj).1
  have:=h3 (i*k+j) u (by rw[Zby f k hf l i j x hx hl];exact hj)
  rwa [show off+(i*k+j)=off+i*k+j by omega] at this
theorem OwnK.flatR {α:Type} {f:α→List Value} {w:World} {B k n cap:Nat} {ao:Option Addr} {l:List α} (h:OwnK w B k n cap (l.flatMap f) ao) (hk:∀ x,(f x).length=k) (hn:n=l.length):Za7 f w ao l:=by
 cases h with
 | nil h h1 h2=>exact .inl (List.eq_nil_of_length_eq_zero (by omega))
 | «at» g off h h1 h2 h3=>exact .inr ⟨g,off,rfl,h.lt,h.cells⟩
def Zjv (c:Con):List Value:=[.int .i64 (c.l:Int),.int .i64 (c.r:Int),.int .i64 c.c]
theorem Zc9 (c:Con):(Zjv c).length=3:=rfl
def Z80:Value:=.agg #[.int .i64 0,.int .i64 0,.int .i64 0]
theorem Zu1:(Tryz.prog.info? 147).map (fun i=>(i.zero,i.size,i.bytes))=some (some Z80,3,24):=by kernel_rfl
theorem Zmg (vs:Array Value) (h:vs.size=3):(Tryz.prog.info? 147).map (·.size)=some vs.size:=by
 rw[h]
 kernel_rfl
def Z89:List Value:=[.int .i64 0,.int .i64 0,.int .i64 0]
theorem Zu2 (w:World) (ao:Option Addr) (n cp:Nat) (most:Int) (l:List (List Nat)) (k:Ky) (hn:n=l.length) (h:Zcr w ao l) (hb:∀ s∈l,NmB s) (hl:Zjh l) (hbig:n≤1000000) (hkl:NmB k.l) (hkr:NmB k.r) :
  Calls Tryz.prog 185 #[.agg #[.slice ao n cp,.int .i64 most],.agg (kyC k).toArray] w fun e w'=>e = .returned (.agg #[.int .i64 (Zh3 l k.l),.int .i64 (Zh3 l k.r),.int .i64 k.c])∧Below w.heap.size w w':=by
 have HI1:=ħ (fun W (hW:Below w.heap.size w W)=>Zix W ao n cp most l k.l hn (h.below hW) hb hkl hl hbig)
 have HI2:=ħ (fun W (hW:Below w.heap.size w W)=>Zix W ao n cp most l k.r hn (h.below hW) hb hkr hl hbig)
 have HKX:Hid (kyC k=[.string (Zad k.l),.string (Zad k.r),.int .i64 k.c]):=ħ rfl
 rw[HKX.o]
 clear HKX h hb hl hn hkl hkr
 generalize Zad k.l=y1 at *
 generalize Zad k.r=y2 at *
 generalize k.c=y3 at *
 generalize Zh3 l k.l=i1 at *
 generalize Zh3 l k.r=i2 at *
 have b0:=(((Below.refl w.heap.size w).alloc (Nat.le_refl _) (.cells #[.slice ao n cp,.int .i64 most] 139)).alloc (by simp) (.cells #[.string y1,.string y2,.int .i64 y3] 123)).alloc (by simp;omega) (.cells #[.int .i64 0,.int .i64 0,.int .i64 0] 147)
 have B1:=ħ b0
 have X1:Hid (Zah (((w.alloc (.cells #[.slice ao n cp,.int .i64 most] 139)).alloc (.cells #[.string y1,.string y2,.int .i64 y3] 123)).alloc (.cells #[.int .i64 0,.int .i64 0,.int .i64 0] 147)) w.heap.size 139 [.slice ao n cp,.int .i64 most]):=ħ (Zbg _ _ _ _)
 have Y1:Hid (Zah (((w.alloc (.cells #[.slice ao n cp,.int .i64 most] 139)).alloc (.cells #[.string y1,.string y2,.int .i64 y3] 123)).alloc (.cells #[.int .i64 0,.int .i64 0,.int .i64 0] 147)) (w.heap.size+1) 123 [.string y1,.string y2,.int .i64 y3]):=ħ (Zbf _ _ _ _)
 have Z1:Hid (Zah (((w.alloc (.cells #[.slice ao n cp,.int .i64 most] 139)).alloc (.cells #[.string y1,.string y2,.int .i64 y3] 123)).alloc (.cells #[.int .i64 0,.int .i64 0,.int .i64 0] 147)) (w.heap.size+1+1) 147 Z89):=ħ (Za6 _ _ _ _)
 clear b0
 go_enter Tryz.func185,Tryz.ntmps185
 go_upto_region 1 with (fail)
 generalize ((w.alloc (.cells #[.slice ao n cp,.int .i64 most] 139)).alloc (.cells #[.string y1,.string y2,.int .i64 y3] 123)).alloc (.cells #[.int .i64 0,.int .i64 0,.int .i64 0] 147)=w1 at *
 have HA:Hid (w.heap.size+1<w1.heap.size):=ħ Y1.o.lt
 have HS:Hid (∀ W,Below w1.heap.size w1 W→Zah W w.heap.size 139 [.slice ao n cp,.int .i64 most]∧Zah W (w.heap.size+1) 123 [.string y1,.string y2,.int .i64 y3]):=ħ (fun W hW=>⟨X1.o.step hW,Y1.o.step hW⟩)
 obtain⟨A,hA⟩:∃ A,w.heap.size+1+1=A:=⟨_,rfl⟩
 obtain⟨A',hA'⟩:∃ A',w.heap.size+1=A':=⟨_,rfl⟩
 rw[hA'] at hA HS HA ⊢
 rw[hA',hA] at Z1
 rw[hA]
 have HAA:Hid (A=A'+1∧A'=w.heap.size+1):=ħ ⟨hA.symm,hA'.symm⟩
 clear hA hA' X1 Y1
 refine Zaw [0,1,2,4,5,6,8,9] [3,7,10,11] (fun w'=>Zah w' w.heap.size 139 [.slice ao n cp,.int .i64 most]∧Zah w' A' 123 [.string y1,.string y2,.int .i64 y3]) (by kernel_rfl) (by kernel_rfl) (by kernel_rfl) (fun _ _ d _ _ h=>by cases d<;>exact h) (HS.o _ (Below.refl _ _).drew) ?_
 simp only[Zbx,List.filterMap_cons,List.filterMap_nil,List.getElem?_cons_zero,List.getElem?_cons_succ,Option.map_some,List.map_cons,List.map_nil]
 apply Exists.intro
 refine⟨?hh,?ht⟩
 case hh =>
  intro w' hw'
  have c0:=hw'.1.cell 0 _ rfl
  have c1:=hw'.1.cell 1 _ rfl
  have d0:=hw'.2.cell 0 _ rfl
  have d1:=hw'.2.cell 1 _ rfl
  have d2:=hw'.2.cell 2 _ rfl
  clear hw'
  repeat still_step
  exact wpStill_nil rfl
 case ht =>
  have BD:=ħ (Below.refl w1.heap.size w1).drew
  have Z2:=ħ (Z1.o.step BD.o)
  generalize wdq:w1.drew=wd at *
  clear wdq
  refine Zaf ?_
  go_wp2_with fail
  refine (HI1.o wd (B1.o.trans (BD.o.mono B1.o.size))).mono ?_
  rintro e w2 ⟨rfl,b2⟩
  have B2:=ħ (BD.o.trans (b2.mono BD.o.size))
  have Z3:=ħ (Z2.o.step b2)
  clear b2 BD Z2 Z1 HI1
  go_wp2_with fail
  refine Zaa ⟨HS.o _ B2.o,?_⟩
  refine Zaf ?_
  go_wp2_with fail
  refine (HI2.o w2 (B1.o.trans (B2.o.mono B1.o.size))).mono ?_
  rintro e w3 ⟨rfl,b3⟩
  have B3:=ħ (B2.o.trans (b3.mono B2.o.size))
  have Z4:=ħ (Z3.o.step b3)
  clear b3 B2 Z3 HI2
  go_wp2_with fail
  refine Zaa ⟨HS.o _ B3.o,?_⟩
  refine Zaf ?_
  go_wp2_with fail
  refine Zaa ⟨HS.o _ B3.o,?_⟩
  refine Zaz ?_
  go_wp2_with (refine Zab rfl 147 (.tmp 4) (.tmp 15) rfl A #[.int .i64 i1,.int .i64 i2,.int .i64 y3] ?s1 ?s2 147 _ Z4.o (Zmg _ rfl) rfl (by simp[Value.oneCell']) ?_;(case s1=>rfl);(case s2=>rfl);intro w9 s9 u9;have S9:=ħ s9;have U9:=ħ u9;clear s9 u9)
  exact bodyPost_ret (results_cell_row (p:=4) (by kernel_rfl) _ _ A 147 #[.int .i64 i1,.int .i64 i2,.int .i64 y3] (0,0) _ rfl S9.o Tryz.underlying147 rfl (Zmg _ rfl)) rfl ⟨rfl,U9.o.below (B1.o.trans (B3.o.mono B1.o.size)) (by have:=HAA.o;omega)⟩
end
end Go.Proofs.YtmkdfbelbcocpaaGreatDoor
