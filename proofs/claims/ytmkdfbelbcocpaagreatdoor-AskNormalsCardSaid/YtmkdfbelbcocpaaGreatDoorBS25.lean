import Derived.Test.YtmkdfbelbcocpaaGreatDoorBS24
import Derived.Test.YtmkdfbelbcocpaaGreatDoorBS22
import Derived.Test.YtmkdfbelbcocpaaGreatDoorBS13
set_option linter.unusedVariables false
set_option linter.unusedSimpArgs false
namespace Go.Proofs.YtmkdfbelbcocpaaGreatDoor
open Go.RowKit Go.Sort Go.Maps
theorem vbG_ok:∀ (S:List (List Nat)) (l:List Bnd),vbG S l = true→∀ b∈l,validN b.n = true∧0≤b.v∧b.v≤65535
 | _,[],_,b,hb=>by cases hb
 | S,x :: xs,h,b,hb=>by
  unfold vbG at h
  simp only [Bool.and_eq_true,decide_eq_true_eq] at h
  rcases List.mem_cons.1 hb with hb | hb
  ·subst hb; exact ⟨h.2.1,h.2.2.1,h.2.2.2.1⟩
  ·exact vbG_ok _ xs h.2.2.2.2 b hb
theorem vbP_val {l:List Bnd} (h:vbP l = true):∀ b∈l,0≤b.v∧b.v≤65535:=fun b hb=>(vbG_ok [] l h b hb).2
theorem valM_bd {l:List Bnd} (h:vbP l = true):ValB (valM l):=fun e he=>by
 unfold valM at he
 rcases List.mem_append.1 he with he | he
 ·rw [List.mem_reverse,List.mem_map] at he
  obtain ⟨b,hb,rfl⟩:=he
  exact vbP_val h b hb
 ·rw [List.mem_singleton] at he
  subst he
  exact ⟨by decide,by decide⟩
theorem BndR.below {w w':World} {P:Nat→Prop} {l:List Bnd} {ao:Option Addr} (h:BndR w P l ao) (hb:RowKit.Below w.heap.size w w'):BndR w' P l ao:=by
 rcases h with h | ⟨g,off,h1,h2,h3,h4⟩
 ·exact .inl h
 ·exact .inr ⟨g,off,h1,h2,Nat.lt_of_lt_of_le h3 hb.size,h4.of_block (hb.block g h3)⟩
set_option maxHeartbeats 8000000 in
set_option maxRecDepth 100000 in
theorem bycl_any (b:Nat) (w:World):Calls Tryz.prog 104 #[.map (some b)] w fun e w'=>e = .returned (.func (.func 172) #[] #[.pointer (some ⟨w.heap.size,0,none⟩)])∧w' = w.alloc (.cells #[.map (some b)] 127):=by
 go_enter Tryz.func104,Tryz.ntmps104
 go_wp2
 go_ret
 exact ⟨rfl,rfl⟩
def ByC (Bm b:Nat) (M:List (List Nat × Int)) (w:World):Prop:=MapV w b M∧HasV w Bm 127 [.map (some b)]
theorem by_is (Bm b:Nat) (M:List (List Nat × Int)) (hv:ValB M):IsF (ByC Bm b M) 172 #[.pointer (some ⟨Bm,0,none⟩)] (fV M) KyOk :=
 ⟨enters_of Tryz.func172 (by kernel_rfl) rfl,fun w w' h hb=>⟨h.1.step hb,h.2.step hb⟩,fun k w hk hC=>by1_any k hk Bm b M w hC.1 hv hC.2⟩
end Go.Proofs.YtmkdfbelbcocpaaGreatDoor
namespace Go.Proofs.YtmkdfbelbcocpaaGreatDoor
open Go.RowKit Go.Sort Go.Maps
def vatP (q:Prd):Bool:=atomB q.k q.l q.r q.c q.ks.length
def badC (c:Chc):Bool:=c.atoms.any (fun q=>!vatP q)
def boundC (M:List (List Nat × Int)) (c:Chc):Bool:=c.atoms.all (fun q=>bdV M (kyOf q))
def cntY (f:Ky→Bool) (aa:List Prd):Nat:=aa.countP (fun q=>f (kyOf q))
def needC (f:Ky→Bool) (c:Chc):Bool:=decide (c.need≤(cntY f c.atoms:Int))
def metP (cs:List Chc) (l:List Bnd):Bool × Int :=
 if cs.any badC = true then (false,1) else if vbP l = false then (false,1) else if cs.all (boundC (valM l)) = false then (false,4) else (cs.all (needC (fV (valM l))),0)
theorem vat_ok {q:Prd} (h:vatP q = true):KyOk (kyOf q):=by
 unfold vatP atomB at h
 simp only [Bool.and_eq_true] at h
 exact ky_ok h.2.2.1 h.2.2.2.1 (by unfold inC; rw [Bool.and_eq_true]; exact h.2.2.2.2)
theorem any_dropG {α:Type} (f:α→Bool) (l:List α) (i:Nat) (k:α) (h:l[i]? = some k):(l.drop i).any f = (f k || (l.drop (i + 1)).any f):=by
 rw [drop_cons_get l i k h,List.any_cons]
theorem all_dropG {α:Type} (f:α→Bool) (l:List α) (i:Nat) (k:α) (h:l[i]? = some k):(l.drop i).all f = (f k && (l.drop (i + 1)).all f):=by
 rw [drop_cons_get l i k h,List.all_cons]
theorem all_takeG {α:Type} (f:α→Bool) (l:List α) (i:Nat) (k:α) (h:l[i]? = some k):(l.take (i + 1)).all f = ((l.take i).all f && f k):=by
 rw [List.take_add_one,h,List.all_append]
 simp
theorem cntY_take (f:Ky→Bool) (aa:List Prd) (j:Nat) (q:Prd) (h:aa[j]? = some q):cntY f (aa.take (j + 1)) = cntY f (aa.take j) + (if f (kyOf q) = true then 1 else 0):=by
 unfold cntY
 rw [List.take_add_one,h,List.countP_append]
 simp [List.countP_cons]
theorem ChsR.get {w:World} {cs:List Chc} {ao:Option Addr} (h:ChsR w cs ao) {i:Nat} (hi:i < cs.length):∃ c,cs[i]? = some c∧∃ g off,ao = some ⟨g,off,none⟩∧g < w.heap.size∧∃ xo xc,Reads w g (off + i * 2) [.int .i64 c.need,.slice xo c.atoms.length xc]∧KidR w (fun g=>g < w.heap.size) c.atoms xo:=by
 rcases h with h | ⟨g,off,h1,h2,h3⟩
 ·rw [h] at hi; exact absurd hi (Nat.not_lt_zero _)
 ·obtain ⟨xo,xc,h4,h5⟩:=h3 i _ (List.getElem?_eq_getElem hi)
  exact ⟨cs[i],List.getElem?_eq_getElem hi,g,off,h1,h2,xo,xc,h4,h5⟩
theorem KidR.get {w:World} {P:Nat→Prop} {ks:List Prd} {ao:Option Addr} (h:KidR w P ks ao) {i:Nat} (hi:i < ks.length):∃ q,ks[i]? = some q∧∃ g off,ao = some ⟨g,off,none⟩∧g < w.heap.size∧∃ vs,PredC w P q vs∧Reads w g (off + i * 5) vs:=by
 rcases h with h | ⟨g,off,h1,h2,h3,h4⟩
 ·rw [h] at hi; exact absurd hi (Nat.not_lt_zero _)
 ·obtain ⟨vs,hv1,hv2⟩:=KidsC.at ks g off i _ (List.getElem?_eq_getElem hi) h4
  exact ⟨ks[i],List.getElem?_eq_getElem hi,g,off,h1,h3,vs,hv1,hv2⟩
set_option maxHeartbeats 8000000 in
set_option maxRecDepth 100000 in
theorem mets1_any (B:Nat) (q:Prd) (W:World) (P:Nat→Prop) (us:List Value) (hq:BytP q) (hpc:PredC W P q us) (hT:TabIn B W) :
  Calls Tryz.prog 100 #[.agg us.toArray] W fun e w'=>e = .returned (.bool (!vatP q))∧RowKit.Below W.heap.size W w':=by
 obtain ⟨xa,xn,xc,rfl,hxn⟩:=hpc.form
 have by1:=(RowKit.Below.refl W.heap.size W).alloc (Nat.le_refl _) (.cells #[.int .i64 q.k,.string (strN q.l),.string (strN q.r),.int .i64 q.c,.slice xa xn xc] 25)
 have hb:NmB q.l∧NmB q.r:=by
  obtain ⟨k,l,r,c,ks⟩:=q
  unfold BytP at hq
  exact ⟨hq.1,hq.2.1⟩
 have HI:=mkHid (vatom_any q.k q.l q.r q.c xa xn xc _ B (TabIn.step (w:=W) hT by1) hb.1 hb.2)
 rw [show atomB q.k q.l q.r q.c xn = vatP q from by unfold vatP; rw [hxn]] at HI
 have BY:=mkHid by1
 have Y1:Hid (HasV (W.alloc (.cells #[.int .i64 q.k,.string (strN q.l),.string (strN q.r),.int .i64 q.c,.slice xa xn xc] 25)) W.heap.size 25 [.int .i64 q.k,.string (strN q.l),.string (strN q.r),.int .i64 q.c,.slice xa xn xc]):=mkHid (heap_alloc_new W _)
 clear by1 hpc hT hq hb hxn
 generalize vatP q = V at *
 generalize q.k = q0 at *
 generalize strN q.l = q1 at *
 generalize strN q.r = q2 at *
 generalize q.c = q3 at *
 go_enter Tryz.func100,Tryz.ntmps100
 go_wp2_with (refine wpList_load_row rfl 25 (.tmp 1) rfl W.heap.size ?x1 25 #[.int .i64 q0,.string q1,.string q2,.int .i64 q3,.slice xa xn xc] (0,0) _ Y1.out Tryz.underlying25 rfl (inf_pred _ rfl) ?_; (case x1=>rfl))
 refine HI.out.mono ?_
 rintro e w2 ⟨rfl,b2⟩
 have B2:=mkHid (BY.out.trans (b2.mono BY.out.size))
 clear b2
 go_wp2
 go_ret
 exact ⟨rfl,B2.out⟩
theorem mets1_is (B:Nat) (P:Nat→Prop):PrF (TabIn B) P 100 #[] (fun q=>!vatP q) BytP :=
 ⟨enters_of Tryz.func100 (by kernel_rfl) rfl,fun w w' h hb=>h.step hb,fun q w vs hq hpc hC=>mets1_any B q w P vs hq hpc hC⟩
set_option maxHeartbeats 16000000 in
set_option maxRecDepth 100000 in
theorem meets_any (w:World) (cs:List Chc) (ao:Option Addr) (n cap B:Nat) (l:List Bnd) (bo:Option Addr) (m bc:Nat) (Pb:Nat→Prop) (hT:Tab w B) (hn:n = cs.length) (hnb:n≤1000000) (hat:∀ c∈cs,c.atoms.length≤1000000∧∀ q∈c.atoms,q.ks = []∧BytP q) (hc:ChsR w cs ao)
  (hm:m = l.length) (hbig:m≤1000000) (hok:BndOk l) (hk:BndR w Pb l bo) :
  Calls Tryz.prog 39 #[.slice ao n cap,.slice bo m bc] w fun e w'=>e = .returned (.tuple #[.bool (metP cs l).1,.int .i64 (metP cs l).2])∧RowKit.Below w.heap.size w w':=by
 have HVB:=mkHid (fun W (hW:RowKit.Below w.heap.size w W)=>vbinds_any W Pb l bo m bc B (show Tab W B from TabIn.step (w:=w) hT hW) hm hbig hok (hk.below hW))
 have HVL:=mkHid (fun (hv:vbP l = true) W (hW:RowKit.Below w.heap.size w W)=>values_any W Pb l bo m bc hm hbig hok (vbP_val hv) (hk.below hW))
 have HMB:=mkHid (fun (hv:vbP l = true)=>valM_bd hv)
 have HT:=mkHid (fun W (hW:RowKit.Below w.heap.size w W)=>(show TabIn B W from TabIn.step (w:=w) (w':=W) hT hW))
 have HC:=mkHid (fun W (hW:RowKit.Below w.heap.size w W)=>hc.below hW)
 have HN:=mkHid hn
 have HA:=mkHid hat
 have HV:Hid (metP cs l = if cs.any badC = true then (false,1) else if vbP l = false then (false,1) else if cs.all (boundC (valM l)) = false then (false,4) else (cs.all (needC (fV (valM l))),0)):=mkHid rfl
 obtain ⟨V,hV⟩:∃ V,metP cs l = V:=⟨_,rfl⟩
 rw [hV] at HV ⊢
 have B0:=mkHid (RowKit.Below.refl w.heap.size w)
 clear hT hn hat hc hm hok hk hV hbig
 generalize vbP l = t at *
 obtain ⟨M,hM⟩:∃ M,valM l = M:=⟨_,rfl⟩
 rw [hM] at HV HVL HMB
 clear hM
 go_enter Tryz.func39,Tryz.ntmps39
 go_wp2_with fail
 have S0:Hid (cs.any badC = (cs.drop 0).any badC):=mkHid rfl
 go_loopw [18] (fun cc wr=>∃ (i:Nat),cc = .int .i64 i∧i≤n∧Hid (RowKit.Below w.heap.size w wr)∧Hid (cs.any badC = (cs.drop i).any badC)) (fun c _=>(n - intOf c).toNat)
 case atStart=>exact ⟨0,rfl,by omega,B0,S0⟩
 case round =>
  clear S0 B0
  obtain ⟨i,rfl,hi,hw,hv⟩:=hrel
  have e2:IntKind.i64.wrap ((i:Int) + 1) = ((i + 1:Nat):Int):=IntWalk.i64_in _ (by omega)
  by_cases hlt:i < n
  ·have ii:(i:Int) < n:=by omega
   obtain ⟨c,hci,g,off,hao,hg,xo,xc,hrd,hkr⟩:=(HC.out wr hw.out).get (i:=i) (by rw [← HN.out]; exact hlt)
   have HST:=mkHid (hv.out.trans (any_dropG badC cs i c hci))
   have HAC:=mkHid (HA.out c (List.mem_of_getElem? hci))
   have bx:=(RowKit.Below.refl wr.heap.size wr).alloc (Nat.le_refl _) (.cells #[.int .i64 c.need,.slice xo c.atoms.length xc] 47)
   have Y1:Hid (HasV (wr.alloc (.cells #[.int .i64 c.need,.slice xo c.atoms.length xc] 47)) wr.heap.size 47 [.int .i64 c.need,.slice xo c.atoms.length xc]):=mkHid (heap_alloc_new wr _)
   have BW:=mkHid (hw.out.trans (bx.mono hw.out.size))
   have HCO:=mkHid (pcont_any (wr.alloc (.cells #[.int .i64 c.need,.slice xo c.atoms.length xc] 47)) _ c.atoms xo c.atoms.length xc rfl HAC.out.1 (hkr.any bx) (TabIn B) 100 #[] (fun q=>!vatP q) BytP (mets1_is B _) (fun q hq=>(HAC.out.2 q hq).2) (HT.out _ BW.out))
   rw [show (c.atoms.any fun q=>!vatP q) = badC c from rfl] at HCO
   have s0:=hrd 0 _ rfl
   have s1:=hrd 1 _ rfl
   rw [Nat.add_zero] at s0
   have HAO:=mkHid hao
   clear hrd hkr hci HAC bx hv hw
   subst hao
   generalize badC c = bd at *
   generalize c.need = nd at *
   generalize c.atoms.length = na at *
   go_upto_region 4 with (fail)
   clear s0 s1
   generalize wr.alloc (.cells #[.int .i64 nd,.slice xo na xc] 47) = wy at *
   have y1:=Y1.out.cell 1 _ rfl
   go_wp2_with fail
   refine HCO.out.mono ?_
   rintro e w2 ⟨rfl,b2⟩
   have B2:=mkHid (BW.out.trans (b2.mono BW.out.size))
   clear b2 y1 Y1 BW HCO
   cases bd with
   | true =>
    have HX:Hid (V = (false,1)):=mkHid (by rw [HV.out,HST.out]; rfl)
    go_wp2
    go_ret2
    exact ⟨by rw [HX.out]; rfl,B2.out⟩
   | false =>
    have HS2:Hid (cs.any badC = (cs.drop (i + 1)).any badC):=mkHid (by rw [HST.out,Bool.false_or])
    go_wp2
    go_roundw
    case rel=>exact ⟨i + 1,by go_num,by omega,B2,HS2⟩
    case measure=>simp only [intOf]; omega
  ·have ii:¬ ((i:Int) < n):=by omega
   have HNB:Hid (cs.any badC = false):=mkHid (by rw [hv.out,List.drop_eq_nil_of_le (by rw [← HN.out]; omega)]; rfl)
   have HOK:Hid (∀ c∈cs,∀ q∈c.atoms,KyOk (kyOf q)):=mkHid (fun c hc q hq=>by
    have h1:=HNB.out
    rw [List.any_eq_false] at h1
    have h2:=h1 c hc
    unfold badC at h2
    have h3:∀ x∈c.atoms,¬ ((!vatP x) = true):=List.any_eq_false.1 (by simpa using h2)
    exact vat_ok (by simpa using h3 q hq))
   have HV1:Hid (V = if t = false then (false,1) else if cs.all (boundC M) = false then (false,4) else (cs.all (needC (fV M)),0)):=mkHid (by rw [HV.out,HNB.out,if_neg (by simp)])
   clear HV HNB hv
   go_wp2_with fail
   refine (HVB.out wr hw.out).mono ?_
   rintro e w3 ⟨rfl,b3⟩
   have B3:=mkHid (hw.out.trans (b3.mono hw.out.size))
   clear b3 hw HVB
   cases t with
   | false =>
    have HX:Hid (V = (false,1)):=mkHid (by rw [HV1.out]; rfl)
    go_wp2
    go_ret2
    exact ⟨by rw [HX.out]; rfl,B3.out⟩
   | true =>
    have HV2:Hid (V = if cs.all (boundC M) = false then (false,4) else (cs.all (needC (fV M)),0)):=mkHid (by rw [HV1.out]; rfl)
    clear HV1
    go_wp2_with fail
    refine (HVL.out (by trivial) w3 B3.out).mono ?_
    rintro e w4 ⟨rfl,m4,b4⟩
    have M4:=mkHid m4
    have B4:=mkHid (B3.out.trans (b4.mono B3.out.size))
    clear b4 m4 HVL B3
    generalize w3.heap.size = mb at *
    go_wp2_with fail
    refine (bycl_any mb w4).mono ?_
    rintro e w5 ⟨rfl,rfl⟩
    have BA:=(RowKit.Below.refl w4.heap.size w4).alloc (Nat.le_refl _) (.cells #[.map (some mb)] 127)
    have C5:Hid (ByC w4.heap.size mb M (w4.alloc (.cells #[.map (some mb)] 127))):=mkHid ⟨M4.out.step BA,heap_alloc_new _ _⟩
    have B5:=mkHid (B4.out.trans (BA.mono B4.out.size))
    have HIS:=mkHid (by_is w4.heap.size mb M (HMB.out (by trivial)))
    clear BA M4 B4
    generalize w4.alloc (.cells #[.map (some mb)] 127) = w5 at *
    generalize w4.heap.size = Bm at *
    have eg:=HIS.out.enters
    go_wp2_with fail
    have S1:Hid (true = (cs.take 0).all (needC (fV M))):=mkHid rfl
    have S2:Hid (cs.all (boundC M) = (cs.drop 0).all (boundC M)):=mkHid rfl
    have Z5:=mkHid (RowKit.Below.refl w5.heap.size w5)
    go_loopw [35,10] (fun cc mv wr=>∃ (i:Nat) (bv:Bool),cc = .int .i64 i∧mv = .bool bv∧i≤n∧Hid (RowKit.Below w5.heap.size w5 wr)∧Hid (bv = (cs.take i).all (needC (fV M)))∧Hid (cs.all (boundC M) = (cs.drop i).all (boundC M))) (fun c _ _=>(n - intOf c).toNat)
    case atStart=>exact ⟨0,true,rfl,rfl,by omega,Z5,S1,S2⟩
    case round =>
     clear S1 S2 Z5
     obtain ⟨i,bv,rfl,rfl,hi,hw,hbv,hv⟩:=hrel
     have e2:IntKind.i64.wrap ((i:Int) + 1) = ((i + 1:Nat):Int):=IntWalk.i64_in _ (by omega)
     by_cases hlt:i < n
     ·have ii:(i:Int) < n:=by omega
      obtain ⟨c,hci,g,off,hao,hg,xo,xc,hrd,hkr⟩:=(HC.out wr (B5.out.trans (hw.out.mono B5.out.size))).get (i:=i) (by rw [← HN.out]; exact hlt)
      have HST:=mkHid (hv.out.trans (all_dropG (boundC M) cs i c hci))
      have HTK:=mkHid (all_takeG (needC (fV M)) cs i c hci)
      rw [← hbv.out] at HTK
      have HAC:=mkHid (HA.out c (List.mem_of_getElem? hci))
      have HKO:=mkHid (HOK.out c (List.mem_of_getElem? hci))
      have bx:=(RowKit.Below.refl wr.heap.size wr).alloc (Nat.le_refl _) (.cells #[.int .i64 c.need,.slice xo c.atoms.length xc] 47)
      have Y1:Hid (HasV (wr.alloc (.cells #[.int .i64 c.need,.slice xo c.atoms.length xc] 47)) wr.heap.size 47 [.int .i64 c.need,.slice xo c.atoms.length xc]):=mkHid (heap_alloc_new wr _)
      have BW:=mkHid (hw.out.trans (bx.mono hw.out.size))
      have HKR:=mkHid (hkr.any bx)
      have HBC:Hid (boundC M c = (c.atoms.drop 0).all (fun q=>bdV M (kyOf q))):=mkHid rfl
      have HNC:Hid (needC (fV M) c = decide (c.need≤(cntY (fV M) c.atoms:Int))):=mkHid rfl
      have s0:=hrd 0 _ rfl
      have s1:=hrd 1 _ rfl
      rw [Nat.add_zero] at s0
      have HAO:=mkHid hao
      clear hrd hkr hci bx hv hw hbv
      subst hao
      obtain ⟨aa,has⟩:∃ aa,c.atoms = aa:=⟨_,rfl⟩
      rw [has] at s1 Y1 BW HKR HAC HKO HBC HNC
      clear has
      generalize boundC M c = bd at *
      generalize needC (fV M) c = nc at *
      generalize c.need = nd at *
      obtain ⟨na,hna⟩:∃ na,aa.length = na:=⟨_,rfl⟩
      have HNA:=mkHid hna
      rw [hna] at s1 Y1 BW HKR HAC
      clear hna
      have hna8:=HAC.out.1
      go_upto_region 15 with (fail)
      clear s0 s1
      generalize wr.heap.size = cx at *
      generalize wr.alloc (.cells #[.int .i64 nd,.slice xo na xc] 47) = wo at *
      have y1:=Y1.out.cell 1 _ rfl
      go_wp2_with fail
      clear y1
      have T0:Hid ((0:Nat) = cntY (fV M) (aa.take 0)):=mkHid rfl
      have Z0:=mkHid (RowKit.Below.refl wo.heap.size wo)
      go_loopw [42,13] (fun jv mv wr=>∃ (j k:Nat),jv = .int .i64 j∧mv = .int .i64 k∧j≤na∧k≤j∧Hid (RowKit.Below wo.heap.size wo wr)∧Hid (k = cntY (fV M) (aa.take j))∧Hid (bd = (aa.drop j).all (fun q=>bdV M (kyOf q)))) (fun j _ _=>(na - intOf j).toNat)
      case atStart=>exact ⟨0,0,rfl,rfl,by omega,by omega,Z0,T0,HBC⟩
      case round =>
       clear T0 Z0 HBC
       obtain ⟨j,k,rfl,rfl,hj,hkj,hq,hct,hbq⟩:=hrel
       have e3:IntKind.i64.wrap ((j:Int) + 1) = ((j + 1:Nat):Int):=IntWalk.i64_in _ (by omega)
       have e4:IntKind.i64.wrap ((k:Int) + 1) = ((k + 1:Nat):Int):=IntWalk.i64_in _ (by omega)
       by_cases hjl:j < na
       ·have jj:(j:Int) < na:=by omega
        obtain ⟨q,hqi,g2,off2,hxo,hg2,us,hpc,hrd⟩:=(HKR.out.any hq.out).get (i:=j) (by rw [HNA.out]; exact hjl)
        have HB1:=mkHid (hbq.out.trans (all_dropG (fun q=>bdV M (kyOf q)) aa j q hqi))
        have HC1:=mkHid (cntY_take (fV M) aa j q hqi)
        rw [← hct.out] at HC1
        have HKQ:=mkHid (HKO.out q (List.mem_of_getElem? hqi))
        obtain ⟨xa,xn,xd,rfl,-⟩:=hpc.form
        have s0:=hrd 0 _ rfl
        have s1:=hrd 1 _ rfl
        have s2:=hrd 2 _ rfl
        have s3:=hrd 3 _ rfl
        have s4:=hrd 4 _ rfl
        rw [Nat.add_zero] at s0
        have HXO:=mkHid hxo
        have bx:=(RowKit.Below.refl wr.heap.size wr).alloc (Nat.le_refl _) (.cells #[.int .i64 q.k,.string (strN q.l),.string (strN q.r),.int .i64 q.c,.slice xa xn xd] 25)
        have P1:Hid (HasV (wr.alloc (.cells #[.int .i64 q.k,.string (strN q.l),.string (strN q.r),.int .i64 q.c,.slice xa xn xd] 25)) wr.heap.size 25 [.int .i64 q.k,.string (strN q.l),.string (strN q.r),.int .i64 q.c,.slice xa xn xd]):=mkHid (heap_alloc_new wr _)
        have Q1:=mkHid (hq.out.trans (bx.mono hq.out.size))
        have HKF:=mkHid (fun W=>keyOf_any q.k q.l q.r q.c (.slice xa xn xd) rfl W)
        have HBD:=mkHid (fun W (hW:MapV W mb M)=>bound_any (kyOf q) HKQ.out mb M W hW)
        have HIC:=mkHid (fun W (hW:ByC Bm mb M W)=>HIS.out.calls (kyOf q) W HKQ.out hW)
        have hkc:(keyC q.l q.r q.c).toArray = (kyC (kyOf q)).toArray:=rfl
        rw [hkc] at HKF
        clear hrd hpc hqi bx hq hbq hct hkc HKQ
        subst hxo
        generalize (kyC (kyOf q)).toArray = kv at *
        generalize bdV M (kyOf q) = b1 at *
        generalize fV M (kyOf q) = b2 at *
        generalize q.k = q0 at *
        generalize strN q.l = q1 at *
        generalize strN q.r = q2 at *
        generalize q.c = q3 at *
        go_upto_region 19 with (fail)
        clear s0 s1 s2 s3 s4
        generalize wr.heap.size = px at *
        generalize wr.alloc (.cells #[.int .i64 q0,.string q1,.string q2,.int .i64 q3,.slice xa xn xd] 25) = wp at *
        go_wp2_with (refine wpList_load_row rfl 25 (.tmp 15) rfl px ?x1 25 #[.int .i64 q0,.string q1,.string q2,.int .i64 q3,.slice xa xn xd] (0,0) _ P1.out Tryz.underlying25 rfl (inf_pred _ rfl) ?_; (case x1=>rfl))
        refine (HKF.out wp).mono ?_
        rintro e w6 ⟨rfl,b6⟩
        have P6:=mkHid (P1.out.step b6)
        have Q6:=mkHid (Q1.out.trans (b6.mono Q1.out.size))
        clear b6 P1 Q1
        go_wp2_with fail
        have C6:=mkHid (HIS.out.step _ _ (HIS.out.step _ _ C5.out BW.out) Q6.out)
        refine (HBD.out w6 C6.out.1).mono ?_
        rintro e w7 ⟨rfl,b7⟩
        have P7:=mkHid (P6.out.step b7)
        have Q7:=mkHid (Q6.out.trans (b7.mono Q6.out.size))
        have C7:=mkHid (HIS.out.step _ _ C6.out b7)
        clear b7 P6 Q6 C6
        cases b1 with
        | false =>
         have HX:Hid (V = (false,4)):=mkHid (by rw [HV2.out,HST.out,HB1.out]; rfl)
         go_wp2
         go_ret2
         exact ⟨by rw [HX.out]; rfl,(B5.out.trans (BW.out.mono B5.out.size)).trans (Q7.out.mono (B5.out.trans (BW.out.mono B5.out.size)).size)⟩
        | true =>
         have HB2:Hid (bd = (aa.drop (j + 1)).all (fun q=>bdV M (kyOf q))):=mkHid (by rw [HB1.out,Bool.true_and])
         clear HB1
         go_upto_region 21 with (fail)
         go_wp2_with (refine wpList_load_row rfl 25 (.tmp 15) rfl px ?x2 25 #[.int .i64 q0,.string q1,.string q2,.int .i64 q3,.slice xa xn xd] (0,0) _ P7.out Tryz.underlying25 rfl (inf_pred _ rfl) ?_; (case x2=>rfl))
         refine (HKF.out w7).mono ?_
         rintro e w8 ⟨rfl,b8⟩
         have Q8:=mkHid (Q7.out.trans (b8.mono Q7.out.size))
         have C8:=mkHid (HIS.out.step _ _ C7.out b8)
         clear b8 P7 Q7 C7
         go_wp2_with fail
         refine (HIC.out w8 C8.out).mono ?_
         rintro e w9 ⟨rfl,b9⟩
         have Q9:=mkHid (Q8.out.trans (b9.mono Q8.out.size))
         clear b9 Q8 C8
         cases b2 with
         | true =>
          rw [if_pos rfl] at HC1
          go_wp2
          go_roundw
          case rel=>exact ⟨j + 1,k + 1,by go_num,by go_num,by omega,by omega,Q9,mkHid HC1.out.symm,HB2⟩
          case measure=>simp only [intOf]; omega
         | false =>
          rw [if_neg (by simp)] at HC1
          go_wp2
          go_roundw
          case rel=>exact ⟨j + 1,k,by go_num,rfl,by omega,by omega,Q9,mkHid HC1.out.symm,HB2⟩
          case measure=>simp only [intOf]; omega
       ·have jj:¬ ((j:Int) < na):=by omega
        have HKE:Hid (nc = decide (nd≤(k:Int))):=mkHid (by rw [HNC.out,hct.out,show aa.take j = aa from List.take_of_length_le (by rw [HNA.out]; omega)])
        have HBE:Hid (bd = true):=mkHid (by rw [hbq.out,List.drop_eq_nil_of_le (by rw [HNA.out]; omega)]; rfl)
        have HS2:Hid (cs.all (boundC M) = (cs.drop (i + 1)).all (boundC M)):=mkHid (by rw [HST.out,HBE.out,Bool.true_and])
        have y0:=(Y1.out.step hq.out).cell 0 _ rfl
        have Q2:=mkHid (BW.out.trans (hq.out.mono BW.out.size))
        clear hq hct hbq
        cases bv with
        | false =>
         go_wp2
         go_roundw
         case rel=>exact ⟨i + 1,false,by go_num,rfl,by omega,Q2,mkHid (by rw [HTK.out,Bool.false_and]),HS2⟩
         case measure=>simp only [intOf]; omega
        | true =>
         by_cases hnd:nd≤(k:Int)
         ·have HT2:Hid (true = (cs.take (i + 1)).all (needC (fV M))):=mkHid (by rw [HTK.out,HKE.out,decide_eq_true hnd]; rfl)
          go_wp2
          go_roundw
          case rel=>exact ⟨i + 1,true,by go_num,by go_num,by omega,Q2,HT2,HS2⟩
          case measure=>simp only [intOf]; omega
         ·have HT2:Hid (false = (cs.take (i + 1)).all (needC (fV M))):=mkHid (by rw [HTK.out,HKE.out,decide_eq_false hnd]; rfl)
          go_wp2
          go_roundw
          case rel=>exact ⟨i + 1,false,by go_num,by go_num,by omega,Q2,HT2,HS2⟩
          case measure=>simp only [intOf]; omega
     ·have ii:¬ ((i:Int) < n):=by omega
      have HX:Hid (V = (bv,0)):=mkHid (by
       rw [HV2.out,hv.out,hbv.out,List.drop_eq_nil_of_le (by rw [← HN.out]; omega),show cs.take i = cs from List.take_of_length_le (by rw [← HN.out]; omega)]; rfl)
      have BF:=mkHid (B5.out.trans (hw.out.mono B5.out.size))
      clear hbv hv hw
      go_wp2
      go_ret2
      exact ⟨by rw [HX.out]; rfl,BF.out⟩
end Go.Proofs.YtmkdfbelbcocpaaGreatDoor
namespace Go.Proofs.YtmkdfbelbcocpaaGreatDoor
open Go.RowKit Go.Sort Go.Maps
set_option maxHeartbeats 4000000 in
set_option maxRecDepth 100000 in
theorem rfree_any (l:List Nat) (w:World) (hl:l.length≤1000000) (hb:∀ y∈l,y < 256) :
  Calls Tryz.prog 85 #[.string (strN l)] w fun e w'=>e = .returned (.bool (freeB l))∧RowKit.Below w.heap.size w w':=by
 have H1:=mkHid (rname_any l w hl hb)
 have H2:=mkHid (fun (W:World) (g:Nat) (hr:HasV W g 9 (wordsL.map (fun s=>.string (strN s))))=>rhas_any g 0 8 8 wordsL l W rfl (by omega) (fun j u hj=>by rw [Nat.zero_add]; exact hr.cell j u hj) hb words_byte)
 have HV:Hid (freeB l = (nameB l && !hasL wordsL l)):=mkHid rfl
 have B0:=mkHid (RowKit.Below.refl w.heap.size w)
 clear hl hb
 generalize freeB l = V at *
 generalize nameB l = b1 at *
 generalize hasL wordsL l = b2 at *
 generalize strN l = t at *
 go_enter Tryz.func85,Tryz.ntmps85
 go_wp2_with fail
 refine H1.out.mono ?_
 rintro e w1 ⟨rfl,rfl⟩
 cases b1 with
 | false =>
  go_wp2
  go_ret
  exact ⟨ret_bool (by rw [HV.out]; rfl),B0.out⟩
 | true =>
  go_wp2_with fail
  refine (rwords_any w).mono ?_
  rintro e w2 ⟨rfl,hv,b2'⟩
  have HH:=mkHid (H2.out w2 _ hv)
  have B2:=mkHid b2'
  clear hv b2'
  go_wp2_with fail
  refine HH.out.mono ?_
  rintro e w3 ⟨rfl,rfl⟩
  go_wp2
  go_ret
  exact ⟨ret_bool (by rw [HV.out]; rfl),B2.out⟩
theorem dot_stop (l:List Nat) (i:Nat) (hi:i < l.length) (h:∀ j,j < i→l.getD j 0 ≠ 46) (h2:l.getD i 0 = 46):runN notDot l = i :=
 (runN_eq notDot l i (by omega) (fun j hj=>by unfold notDot; simpa using h j hj) (fun _=>by unfold notDot; rw [h2]; rfl)).symm
theorem dot_none (l:List Nat) (h:∀ j,j < l.length→l.getD j 0 ≠ 46):runN notDot l = l.length :=
 (runN_eq notDot l l.length (by omega) (fun j hj=>by unfold notDot; simpa using h j hj) (fun h=>absurd h (by omega))).symm
set_option maxHeartbeats 8000000 in
set_option maxRecDepth 100000 in
theorem rvname_any (l:List Nat) (w:World) (hl:l.length≤1000000) (hb:∀ y∈l,y < 256) :
  Calls Tryz.prog 22 #[.string (strN l)] w fun e w'=>e = .returned (.bool (validN l))∧RowKit.Below w.heap.size w w':=by
 have SZ:=mkHid (strN_size l)
 have HX:Hid (∀ i:Nat,i < l.length→∀ w,(Instr.index 9 (.string (strN l)) (.int .i64 (i:Int))).run Tryz.prog w = .ok (.int .u8 ((l.getD i 0:Nat):Int)) w):=mkHid (fun i hi w=>str_at l i hi hb w)
 have HS:Hid (∀ i:Nat,i≤l.length→∀ w,(Instr.slice 9 (.string (strN l)) (some (.int .i64 (i:Int))) none none).run Tryz.prog w = .ok (.string (strN (l.drop i))) w):=mkHid (fun i hi w=>str_from l i hi w)
 have HU:Hid (∀ i:Nat,i≤l.length→∀ w,(Instr.slice 9 (.string (strN l)) none (some (.int .i64 (i:Int))) none).run Tryz.prog w = .ok (.string (strN (l.take i))) w):=mkHid (fun i hi w=>str_upto l i hi w)
 have HF1:=mkHid (fun (i:Nat) W=>rfree_any (l.take i) W (by rw [List.length_take]; omega) (fun y hy=>hb y (List.mem_of_mem_take hy)))
 have HF2:=mkHid (fun (i:Nat) W=>rfree_any (l.drop i) W (by rw [List.length_drop]; omega) (fun y hy=>hb y (List.mem_of_mem_drop hy)))
 have HV:Hid (validN l = (decide (runN notDot l < l.length) && (freeB (l.take (runN notDot l)) && freeB (l.drop (runN notDot l + 1))))):=mkHid rfl
 have HB:=mkHid hb
 have B0:=mkHid (RowKit.Below.refl w.heap.size w)
 clear hb
 generalize validN l = V at *
 generalize strN l = t at *
 go_enter Tryz.func22,Tryz.ntmps22
 go_wp2_with fail
 go_loop [3] (fun c=>∃ i:Nat,c = .int .i64 i∧i≤l.length∧Hid (∀ j,j < i→l.getD j 0 ≠ 46)) (fun c=>(l.length - intOf c).toNat)
 case atStart=>exact ⟨0,rfl,by omega,mkHid (fun j hj=>absurd hj (Nat.not_lt_zero j))⟩
 case round =>
  obtain ⟨i,rfl,hi,hz⟩:=hrel
  have hsz:=SZ.out
  have e2:IntKind.i64.wrap ((i:Int) + 1) = ((i + 1:Nat):Int):=IntWalk.i64_in _ (by omega)
  by_cases hlt:i < l.length
  ·have hx:=HX.out i hlt
   have ii:(i:Int) < l.length:=by omega
   obtain ⟨v,hv⟩:∃ v,l.getD i 0 = v:=⟨_,rfl⟩
   rw [hv] at hx
   have HVV:=mkHid hv
   clear hv
   by_cases h46:v = 46
   ·have c1:((v:Int) == 46) = true:=by rw [beq_iff_eq]; omega
    have HR:Hid (runN notDot l = i):=mkHid (dot_stop l i hlt hz.out (by rw [HVV.out]; exact h46))
    have HV2:Hid (V = (freeB (l.take i) && freeB (l.drop (i + 1)))):=mkHid (by rw [HV.out,HR.out,decide_eq_true hlt,Bool.true_and])
    have hu:=HU.out i (by omega)
    have hs:∀ w,(Instr.slice 9 (.string t) (some (.int .i64 ((i:Int) + 1))) none none).run Tryz.prog w = .ok (.string (strN (l.drop (i + 1)))) w:=fun w=>by
     have h:=HS.out (i + 1) (by omega) w
     rwa [show ((i + 1:Nat):Int) = (i:Int) + 1 from by omega] at h
    have F1:=mkHid (HF1.out i)
    have F2:=mkHid (HF2.out (i + 1))
    clear h46 HR HV hz HVV
    generalize freeB (l.take i) = b1 at *
    generalize freeB (l.drop (i + 1)) = b2 at *
    generalize strN (l.take i) = s1 at *
    generalize strN (l.drop (i + 1)) = s2 at *
    go_wp2_with fail
    refine (F1.out w).mono ?_
    rintro e w1 ⟨rfl,b1'⟩
    have B1:=mkHid b1'
    clear b1'
    cases b1 with
    | false =>
     go_wp2
     go_ret
     exact ⟨ret_bool (by rw [HV2.out]; rfl),B1.out⟩
    | true =>
     go_wp2_with fail
     refine (F2.out w1).mono ?_
     rintro e w2 ⟨rfl,b2'⟩
     have B2:=mkHid (B1.out.trans (b2'.mono B1.out.size))
     clear b2' hu hs hx F1 F2
     cases b2 with
     | false =>
      go_wp2
      go_ret
      exact ⟨ret_bool (by rw [HV2.out]; rfl),B2.out⟩
     | true =>
      go_wp2
      go_ret
      exact ⟨ret_bool (by rw [HV2.out]; rfl),B2.out⟩
   ·have c1:((v:Int) == 46) = false:=by rw [beq_eq_false_iff_ne]; omega
    have HZ:Hid (∀ j,j < i + 1→l.getD j 0 ≠ 46):=mkHid (fun j hj=>by
     rcases Nat.lt_or_ge j i with h | h
     ·exact hz.out j h
     ·obtain rfl:j = i:=by omega
      rw [HVV.out]; exact h46)
    clear h46 hz
    go_wp2
    go_round
    case rel=>exact ⟨i + 1,by go_num,by omega,HZ⟩
    case measure=>simp only [intOf]; omega
  ·have ii:¬ ((i:Int) < l.length):=by omega
   have HX:Hid (V = false):=mkHid (by rw [HV.out,dot_none l (fun j hj=>hz.out j (by omega)),decide_eq_false (by omega)]; rfl)
   go_wp2
   go_ret
   exact ⟨ret_bool HX.out.symm,B0.out⟩
set_option maxHeartbeats 8000000 in
set_option maxRecDepth 100000 in
theorem rvatom_any (κ:Int) (l r:List Nat) (c:Int) (ao:Option Addr) (n cap:Nat) (w:World) (hl:NmB l) (hr:NmB r) :
  Calls Tryz.prog 48 #[.agg #[.int .i64 κ,.string (strN l),.string (strN r),.int .i64 c,.slice ao n cap]] w fun e w'=>e = .returned (.bool (atomB κ l r c n))∧RowKit.Below w.heap.size w w':=by
 have bx:=(RowKit.Below.refl w.heap.size w).alloc (Nat.le_refl _) (.cells #[.int .i64 κ,.string (strN l),.string (strN r),.int .i64 c,.slice ao n cap] 25)
 have B1:=mkHid bx
 have X1:Hid (HasV (w.alloc (.cells #[.int .i64 κ,.string (strN l),.string (strN r),.int .i64 c,.slice ao n cap] 25)) w.heap.size 25 [.int .i64 κ,.string (strN l),.string (strN r),.int .i64 c,.slice ao n cap]):=mkHid (heap_alloc_new w _)
 have H1:=mkHid (fun W=>rvname_any l W hl.2 hl.1)
 have H2:=mkHid (fun W=>rvname_any r W hr.2 hr.1)
 have HV:Hid (atomB κ l r c n = (κ == 0 && (n == 0 && ((l == [] || validN l) && ((r == [] || validN r) && (decide (-1099511627776≤c) && decide (c < 1099511627776))))))):=mkHid rfl
 have HE:∀ m:List Nat,(strN m).toList.isEmpty = (m == []):=fun m=>by
  cases m with
  | nil=>exact strN_isE0.trans rfl
  | cons a b=>rw [strN_isE _ (by simp)]; rfl
 have he1:=HE l
 have he2:=HE r
 obtain ⟨V,hV⟩:∃ V,atomB κ l r c n = V:=⟨_,rfl⟩
 rw [hV] at HV ⊢
 clear bx hl hr HE hV
 generalize (l == []) = e1 at *
 generalize (r == []) = e2 at *
 generalize validN l = v1 at *
 generalize validN r = v2 at *
 generalize strN l = y at *
 generalize strN r = z at *
 go_enter Tryz.func48,Tryz.ntmps48
 go_upto_region 1 with (fail)
 generalize w.alloc (.cells #[.int .i64 κ,.string y,.string z,.int .i64 c,.slice ao n cap] 25) = w1 at *
 have x0:=X1.out.cell 0 _ rfl
 have x1:=X1.out.cell 1 _ rfl
 have x2:=X1.out.cell 2 _ rfl
 have x3:=X1.out.cell 3 _ rfl
 have x4:=X1.out.cell 4 _ rfl
 by_cases k0:κ = 0
 ·have k0b:(κ == 0) = true:=beq_iff_eq.mpr k0
  rw [k0b,Bool.true_and] at HV
  clear k0
  by_cases n0:n = 0
  ·have n0b:(n == 0) = true:=beq_iff_eq.mpr n0
   have n0c:((n:Int) == 0) = true:=by rw [n0]; rfl
   rw [n0b,Bool.true_and] at HV
   clear n0 n0b
   cases e1 with
   | true =>
    rw [Bool.true_or,Bool.true_and] at HV
    cases e2 with
    | true =>
     rw [Bool.true_or,Bool.true_and] at HV
     by_cases c1:-1099511627776≤c
     ·rw [decide_eq_true c1,Bool.true_and] at HV
      go_wp2
      go_ret
      exact ⟨ret_bool (by rw [HV.out]),B1.out⟩
     ·rw [decide_eq_false c1,Bool.false_and] at HV
      go_wp2
      go_ret
      exact ⟨ret_bool (by rw [HV.out]),B1.out⟩
    | false =>
     rw [Bool.false_or] at HV
     go_wp2_with fail
     refine (H2.out w1).mono ?_
     rintro e w2 ⟨rfl,b2⟩
     have B2:=mkHid (B1.out.trans (b2.mono B1.out.size))
     have X2:=mkHid (X1.out.step b2)
     clear b2 x0 x1 x2 x3 x4
     have x3:=X2.out.cell 3 _ rfl
     cases v2 with
     | false =>
      rw [Bool.false_and] at HV
      go_wp2
      go_ret
      exact ⟨ret_bool (by rw [HV.out]),B2.out⟩
     | true =>
      rw [Bool.true_and] at HV
      by_cases c1:-1099511627776≤c
      ·rw [decide_eq_true c1,Bool.true_and] at HV
       go_wp2
       go_ret
       exact ⟨ret_bool (by rw [HV.out]),B2.out⟩
      ·rw [decide_eq_false c1,Bool.false_and] at HV
       go_wp2
       go_ret
       exact ⟨ret_bool (by rw [HV.out]),B2.out⟩
   | false =>
    rw [Bool.false_or] at HV
    go_wp2_with fail
    refine (H1.out w1).mono ?_
    rintro e w2 ⟨rfl,b2⟩
    have B2:=mkHid (B1.out.trans (b2.mono B1.out.size))
    have X2:=mkHid (X1.out.step b2)
    clear b2 x0 x1 x2 x3 x4
    have x2:=X2.out.cell 2 _ rfl
    have x3:=X2.out.cell 3 _ rfl
    cases v1 with
    | false =>
     rw [Bool.false_and] at HV
     go_wp2
     go_ret
     exact ⟨ret_bool (by rw [HV.out]),B2.out⟩
    | true =>
     rw [Bool.true_and] at HV
     cases e2 with
     | true =>
      rw [Bool.true_or,Bool.true_and] at HV
      by_cases c1:-1099511627776≤c
      ·rw [decide_eq_true c1,Bool.true_and] at HV
       go_wp2
       go_ret
       exact ⟨ret_bool (by rw [HV.out]),B2.out⟩
      ·rw [decide_eq_false c1,Bool.false_and] at HV
       go_wp2
       go_ret
       exact ⟨ret_bool (by rw [HV.out]),B2.out⟩
     | false =>
      rw [Bool.false_or] at HV
      go_wp2_with fail
      refine (H2.out w2).mono ?_
      rintro e w3 ⟨rfl,b3⟩
      have B3:=mkHid (B2.out.trans (b3.mono B2.out.size))
      have X3:=mkHid (X2.out.step b3)
      clear b3 x2 x3
      have x3:=X3.out.cell 3 _ rfl
      cases v2 with
      | false =>
       rw [Bool.false_and] at HV
       go_wp2
       go_ret
       exact ⟨ret_bool (by rw [HV.out]),B3.out⟩
      | true =>
       rw [Bool.true_and] at HV
       by_cases c1:-1099511627776≤c
       ·rw [decide_eq_true c1,Bool.true_and] at HV
        go_wp2
        go_ret
        exact ⟨ret_bool (by rw [HV.out]),B3.out⟩
       ·rw [decide_eq_false c1,Bool.false_and] at HV
        go_wp2
        go_ret
        exact ⟨ret_bool (by rw [HV.out]),B3.out⟩
  ·have n0b:(n == 0) = false:=beq_eq_false_iff_ne.mpr n0
   have n0c:((n:Int) == 0) = false:=by rw [beq_eq_false_iff_ne]; omega
   rw [n0b,Bool.false_and] at HV
   clear n0 n0b
   go_wp2
   go_ret
   exact ⟨ret_bool (by rw [HV.out]),B1.out⟩
 ·have k0b:(κ == 0) = false:=beq_eq_false_iff_ne.mpr k0
  rw [k0b,Bool.false_and] at HV
  clear k0
  go_wp2
  go_ret
  exact ⟨ret_bool (by rw [HV.out]),B1.out⟩
end Go.Proofs.YtmkdfbelbcocpaaGreatDoor
namespace Go.Proofs.YtmkdfbelbcocpaaGreatDoor
open Go.RowKit Go.Sort Go.Maps
def rvP (l:List Bnd) (x:List Nat):Int × Bool:=match l.find? (fun b=>b.n == x) with
 | some b=>(b.v,true)
 | none=>(0,x == [])
theorem find_drop (l:List Bnd) (x:List Nat) (i:Nat) (b:Bnd) (h:l[i]? = some b):(l.drop i).find? (fun b=>b.n == x) = if (b.n == x) = true then some b else (l.drop (i + 1)).find? (fun b=>b.n == x):=by
 rw [drop_cons_get l i b h,List.find?_cons]
 cases b.n == x <;> rfl
theorem vbG_pair:∀ (S:List (List Nat)) (l:List Bnd),vbG S l = true→(∀ b∈l,b.n ∉ S)∧l.Pairwise (fun a b=>a.n ≠ b.n)
 | S,[],_=>⟨fun b hb=>absurd hb List.not_mem_nil,.nil⟩
 | S,x :: xs,h=>by
  unfold vbG at h
  simp only [Bool.and_eq_true,Bool.not_eq_true',decide_eq_false_iff_not] at h
  obtain ⟨h1,h2⟩:=vbG_pair (S ++ [x.n]) xs h.2.2.2.2
  refine ⟨fun b hb=>?_,List.pairwise_cons.2 ⟨fun b hb e=>?_,h2⟩⟩
  ·rcases List.mem_cons.1 hb with rfl | hb
   ·exact h.1
   ·exact fun hm=>h1 b hb (List.mem_append_left _ hm)
  ·exact h1 b hb (List.mem_append_right _ (by rw [e]; simp))
theorem pair_eq {l:List Bnd} (h:l.Pairwise (fun a b=>a.n ≠ b.n)) {a b:Bnd} (ha:a∈l) (hb:b∈l) (e:a.n = b.n):a = b:=by
 induction l with
 | nil=>cases ha
 | cons x xs ih =>
  obtain ⟨h1,h2⟩:=List.pairwise_cons.1 h
  rcases List.mem_cons.1 ha with ha2 | ha2
  ·rcases List.mem_cons.1 hb with hb2 | hb2
   ·rw [ha2,hb2]
   ·exact absurd (by rw [← ha2]; exact e) (h1 b hb2)
  ·rcases List.mem_cons.1 hb with hb2 | hb2
   ·exact absurd (by rw [← hb2]; exact e.symm) (h1 a ha2)
   ·exact ih h2 ha2 hb2
theorem valid_ne {x:List Nat} (h:validN x = true):x ≠ []:=by
 rintro rfl
 exact absurd h (by decide)
theorem rvP_eq (l:List Bnd) (x:List Nat) (h:vbP l = true):rvP l x = ((getV (valM l) x).getD 0,(getV (valM l) x).isSome):=by
 have hp:=(vbG_pair [] l h).2
 have hok:=vbG_ok [] l h
 unfold rvP
 cases hf:l.find? (fun b=>b.n == x) with
 | some b =>
  have hb:=List.mem_of_find?_eq_some hf
  have hx:b.n = x:=by simpa using List.find?_some hf
  have hex:∃ e∈valM l,e.1 = x:=⟨(b.n,b.v),by unfold valM; simp only [List.mem_append,List.mem_reverse,List.mem_map]; exact .inl ⟨b,hb,rfl⟩,hx⟩
  obtain ⟨v,hv⟩:=getV_some hex
  have hm:=getV_mem hv
  rw [hv]
  unfold valM at hm
  rcases List.mem_append.1 hm with hm | hm
  ·rw [List.mem_reverse,List.mem_map] at hm
   obtain ⟨b',hb',he⟩:=hm
   injection he with e1 e2
   have:b' = b:=pair_eq hp hb' hb (by rw [e1,hx])
   rw [← this]
   show (b'.v,true) = (v,true)
   rw [e2]
  ·rw [List.mem_singleton] at hm
   injection hm with e1 e2
   exact absurd (hx.trans e1) (valid_ne (hok b hb).1)
 | none =>
  have hn:=List.find?_eq_none.1 hf
  by_cases h0:x = []
  ·subst h0
   have hex:∃ e∈valM l,e.1 = ([]:List Nat):=⟨([],0),by unfold valM; simp,rfl⟩
   obtain ⟨v,hv⟩:=getV_some hex
   have hm:=getV_mem hv
   rw [hv]
   unfold valM at hm
   rcases List.mem_append.1 hm with hm | hm
   ·rw [List.mem_reverse,List.mem_map] at hm
    obtain ⟨b',hb',he⟩:=hm
    injection he with e1 e2
    exact absurd e1 (valid_ne (hok b' hb').1)
   ·rw [List.mem_singleton] at hm
    injection hm with e1 e2
    rw [e2]
    rfl
  ·have hno:¬ ∃ e∈valM l,e.1 = x:=by
    rintro ⟨e,he,hx⟩
    unfold valM at he
    rcases List.mem_append.1 he with he | he
    ·rw [List.mem_reverse,List.mem_map] at he
     obtain ⟨b,hb,rfl⟩:=he
     exact hn b hb (by simpa using hx)
    ·rw [List.mem_singleton] at he
     subst he
     exact h0 hx.symm
   rw [getV_none hno]
   show ((0:Int),x == []) = (0,false)
   rw [beq_eq_false_iff_ne.mpr h0]
set_option maxHeartbeats 8000000 in
set_option maxRecDepth 100000 in
theorem rvalue2_any (x:List Nat) (w:World) (Pb:Nat→Prop) (l:List Bnd) (bo:Option Addr) (m bc:Nat) (hx:∀ y∈x,y < 256) (hm:m = l.length) (hbig:m≤1000000) (hok:BndOk l) (hk:BndR w Pb l bo) :
  Calls Tryz.prog 108 #[.string (strN x),.slice bo m bc] w fun e w'=>e = .returned (.tuple #[.int .i64 (rvP l x).1,.bool (rvP l x).2])∧w = w':=by
 have HM:=mkHid hm
 have HK:=mkHid hk
 have HE:=mkHid (fun (b:Bnd) (hb:b∈l)=>strN_eqL b.n x (hok.nm b hb).1 hx)
 have hxe:(strN x).toList.isEmpty = (x == []):=by
  cases x with
  | nil=>exact strN_isE0.trans rfl
  | cons a b=>rw [strN_isE _ (by simp)]; rfl
 have HV:Hid (rvP l x = match (l.drop 0).find? (fun b=>b.n == x) with | some b=>(b.v,true) | none=>(0,x == [])):=mkHid rfl
 obtain ⟨V,hV⟩:∃ V,rvP l x = V:=⟨_,rfl⟩
 rw [hV] at HV ⊢
 clear hm hok hk hV hx
 generalize (x == []) = xe at *
 generalize strN x = y at *
 go_enter Tryz.func108,Tryz.ntmps108
 go_wp2_with fail
 go_loop [6] (fun c=>∃ i:Nat,c = .int .i64 i∧i≤m∧Hid (V = match (l.drop i).find? (fun b=>b.n == x) with | some b=>(b.v,true) | none=>(0,xe))) (fun c=>(m - intOf c).toNat)
 case atStart=>exact ⟨0,rfl,by omega,HV⟩
 case round =>
  clear HV
  obtain ⟨i,rfl,hi,hv⟩:=hrel
  have e2:IntKind.i64.wrap ((i:Int) + 1) = ((i + 1:Nat):Int):=IntWalk.i64_in _ (by omega)
  by_cases hlt:i < m
  ·have ii:(i:Int) < m:=by omega
   have HQ:Hid (∃ q,l[i]? = some q∧∃ g off,bo = some ⟨g,off,none⟩∧Reads w g (off + i * 2) [.string (strN q.n),.int .i64 q.v]):=mkHid (by
    have hl:i < l.length:=by rw [← HM.out]; exact hlt
    refine ⟨l[i],List.getElem?_eq_getElem hl,?_⟩
    rcases HK.out with h | ⟨g,off,h1,h2,h3,h4⟩
    ·rw [h] at hl; exact absurd hl (Nat.not_lt_zero _)
    ·exact ⟨g,off,h1,bnd_cells h4 i _ (List.getElem?_eq_getElem hl)⟩)
   obtain ⟨q,hqi,g,off,hbo,hrd⟩:=HQ.out
   clear HQ
   have HST:=mkHid (find_drop l x i q hqi)
   have he:=HE.out q (List.mem_of_getElem? hqi)
   have s0:=hrd 0 _ rfl
   have s1:=hrd 1 _ rfl
   rw [Nat.add_zero] at s0
   have HBO:=mkHid hbo
   clear hrd hqi
   subst hbo
   generalize (q.n == x) = rb at *
   generalize strN q.n = z at *
   generalize hqv:q.v = v at *
   have HQV:=mkHid hqv
   clear hqv
   cases rb with
   | true =>
    have HX:Hid (V = (v,true)):=mkHid (by rw [hv.out,HST.out,if_pos rfl,← HQV.out])
    go_wp2
    go_ret2
    exact ⟨by rw [HX.out]; rfl,rfl⟩
   | false =>
    have HX:Hid (V = match (l.drop (i + 1)).find? (fun b=>b.n == x) with | some b=>(b.v,true) | none=>(0,xe)):=mkHid (by rw [hv.out,HST.out,if_neg (by simp)])
    go_wp2
    go_round
    case rel=>exact ⟨i + 1,by go_num,by omega,HX⟩
    case measure=>simp only [intOf]; omega
  ·have ii:¬ ((i:Int) < m):=by omega
   have HX:Hid (V = (0,xe)):=mkHid (by rw [hv.out,List.drop_eq_nil_of_le (by rw [← HM.out]; omega)]; rfl)
   go_wp2
   go_ret2
   exact ⟨by rw [HX.out]; rfl,rfl⟩
def fR (l:List Bnd) (k:Ky):Bool:=decide ((rvP l k.l).1 - (rvP l k.r).1≤k.c)
theorem rvP_bd {l:List Bnd} (h:vbP l = true) (x:List Nat):0≤(rvP l x).1∧(rvP l x).1≤65535:=by
 rw [rvP_eq l x h]
 exact gvD_bd (valM_bd h) x
theorem fR_eq {l:List Bnd} (h:vbP l = true) (k:Ky):fR l k = fV (valM l) k:=by
 unfold fR fV gvD
 rw [rvP_eq l k.l h,rvP_eq l k.r h]
set_option maxHeartbeats 8000000 in
set_option maxRecDepth 100000 in
theorem rtru_atom (l' r':List Nat) (c:Int) (x:Value) (hx1:x.oneCell' = true) (w:World) (Pb:Nat→Prop) (l:List Bnd) (bo:Option Addr) (m bc:Nat) (hl:∀ y∈l',y < 256) (hr:∀ y∈r',y < 256) (hm:m = l.length) (hbig:m≤1000000) (hok:BndOk l) (hk:BndR w Pb l bo) (hv:vbP l = true) :
  Calls Tryz.prog 109 #[.agg #[.int .i64 0,.string (strN l'),.string (strN r'),.int .i64 c,x],.slice bo m bc] w fun e w'=>e = .returned (.bool (fR l ⟨l',r',c⟩))∧RowKit.Below w.heap.size w w':=by
 have bx:=(RowKit.Below.refl w.heap.size w).alloc (Nat.le_refl _) (.cells #[.int .i64 0,.string (strN l'),.string (strN r'),.int .i64 c,x] 25)
 have B1:=mkHid bx
 have X1:Hid (HasV (w.alloc (.cells #[.int .i64 0,.string (strN l'),.string (strN r'),.int .i64 c,x] 25)) w.heap.size 25 [.int .i64 0,.string (strN l'),.string (strN r'),.int .i64 c,x]):=mkHid (heap_alloc_new w _)
 have H1:=mkHid (fun W (hW:RowKit.Below w.heap.size w W)=>rvalue2_any l' W Pb l bo m bc hl hm hbig hok (hk.below hW))
 have H2:=mkHid (fun W (hW:RowKit.Below w.heap.size w W)=>rvalue2_any r' W Pb l bo m bc hr hm hbig hok (hk.below hW))
 have b1:=rvP_bd hv l'
 have b2:=rvP_bd hv r'
 have HV:Hid (fR l ⟨l',r',c⟩ = decide ((rvP l l').1 - (rvP l r').1≤c)):=mkHid rfl
 obtain ⟨V,hV⟩:∃ V,fR l ⟨l',r',c⟩ = V:=⟨_,rfl⟩
 rw [hV] at HV ⊢
 clear bx hl hr hm hok hk hv hV
 generalize (rvP l l').1 = a at *
 generalize (rvP l r').1 = d at *
 generalize (rvP l l').2 = p1 at *
 generalize (rvP l r').2 = p2 at *
 generalize strN l' = y at *
 generalize strN r' = z at *
 have ew:IntKind.i64.wrap (a - d) = a - d:=IntWalk.i64_in _ (by omega)
 go_enter Tryz.func109,Tryz.ntmps109
 go_upto_region 1 with (fail)
 generalize w.alloc (.cells #[.int .i64 0,.string y,.string z,.int .i64 c,x] 25) = w1 at *
 have x0:=X1.out.cell 0 _ rfl
 have x1:=X1.out.cell 1 _ rfl
 have x2:=X1.out.cell 2 _ rfl
 have x3:=X1.out.cell 3 _ rfl
 go_wp2_with fail
 refine (H1.out w1 B1.out).mono ?_
 rintro e w2 ⟨rfl,rfl⟩
 go_wp2_with fail
 refine (H2.out w1 B1.out).mono ?_
 rintro e w2 ⟨rfl,rfl⟩
 go_wp2
 go_ret
 exact ⟨ret_bool HV.out.symm,B1.out⟩
set_option maxHeartbeats 8000000 in
set_option maxRecDepth 100000 in
theorem rvbinds_any (w:World) (P:Nat→Prop) (l:List Bnd) (ao:Option Addr) (n cap:Nat) (hn:n = l.length) (hbig:n≤1000000) (hok:BndOk l) (hk:BndR w P l ao) :
  Calls Tryz.prog 107 #[.slice ao n cap] w fun e w'=>e = .returned (.bool (vbP l))∧RowKit.Below w.heap.size w w':=by
 have HK:=mkHid (fun W (hW:RowKit.Below w.heap.size w W)=>hk.below hW)
 have HN:=mkHid hn
 have HOK:=mkHid hok.nm
 have B0:=mkHid (RowKit.Below.refl w.heap.size w)
 obtain ⟨V,hV⟩:∃ V,vbP l = V:=⟨_,rfl⟩
 have HV:Hid (V = vbG ((l.take 0).map (·.n)) (l.drop 0)):=mkHid (by rw [← hV]; rfl)
 rw [hV]
 clear hk hn hok hV
 go_enter Tryz.func107,Tryz.ntmps107
 go_wp2_with fail
 go_loopw [3] (fun cc wr=>∃ (i:Nat),cc = .int .i64 i∧i≤n∧Hid (RowKit.Below w.heap.size w wr)∧Hid (V = vbG ((l.take i).map (·.n)) (l.drop i))) (fun c _=>(n - intOf c).toNat)
 case atStart=>exact ⟨0,rfl,by omega,B0,HV⟩
 case round =>
  clear B0 HV
  obtain ⟨i,rfl,hi,hw,hv⟩:=hrel
  have e2:IntKind.i64.wrap ((i:Int) + 1) = ((i + 1:Nat):Int):=IntWalk.i64_in _ (by omega)
  by_cases hlt:i < n
  ·have ii:(i:Int) < n:=by omega
   have HQA:Hid (∀ W,RowKit.Below w.heap.size w W→∃ g off,ao = some ⟨g,off,none⟩∧g < w.heap.size∧∀ j b,l[j]? = some b→Reads W g (off + j * 2) [.string (strN b.n),.int .i64 b.v]):=mkHid (fun W hW=>by
    rcases HK.out W hW with h | ⟨g,off,h1,h2,h3,h4⟩
    ·rw [h] at HN; have:=HN.out; simp at this; omega
    ·rcases HK.out w (RowKit.Below.refl _ _) with h' | ⟨g',off',h1',h2',h3',h4'⟩
     ·rw [h'] at HN; have:=HN.out; simp at this; omega
     ·have e:g' = g:=by rw [h1] at h1'; injection h1' with h1'; injection h1' with h1' _; exact h1'.symm
      exact ⟨g,off,h1,by rw [← e]; exact h3',fun j b hb=>bnd_cells h4 j b hb⟩)
   obtain ⟨g,off,hao,hg,-⟩:=HQA.out w (RowKit.Below.refl _ _)
   have HRD:Hid (∀ W,RowKit.Below w.heap.size w W→∀ j b,l[j]? = some b→Reads W g (off + j * 2) [.string (strN b.n),.int .i64 b.v]):=mkHid (fun W hW=>by
    obtain ⟨g',off',h1,-,h3⟩:=HQA.out W hW
    rw [hao] at h1
    injection h1 with h1
    injection h1 with e1 e2
    subst e1 e2
    exact h3)
   have HGS:=mkHid hg
   have HAO:=mkHid hao
   clear HQA hg
   subst hao
   have HQ:Hid (∃ q,l[i]? = some q):=mkHid ⟨_,List.getElem?_eq_getElem (by rw [← HN.out]; exact hlt)⟩
   obtain ⟨q,hqi⟩:=HQ.out
   have HQI:=mkHid hqi
   have HST:=mkHid (hv.out.trans (vbG_step l i q hqi))
   have HNM:=mkHid (HOK.out q (List.mem_of_getElem? hqi))
   have hrd:=HRD.out wr hw.out i q hqi
   have s0:=hrd 0 _ rfl
   have s1:=hrd 1 _ rfl
   rw [Nat.add_zero] at s0
   have HVN:=mkHid (fun W=>rvname_any q.n W HNM.out.2 HNM.out.1)
   have HEQ:=mkHid (fun (b:Bnd) (hb:b∈l)=>strN_eqL b.n q.n (HOK.out b hb).1 HNM.out.1)
   have HMT:Hid (decide (q.n∈(l.take i).map (·.n)) = decide (q.n∈(l.take i).map (·.n))):=mkHid rfl
   clear hrd hqi HQ hv
   obtain ⟨mt,hmt⟩:∃ mt,decide (q.n∈(l.take i).map (·.n)) = mt:=⟨_,rfl⟩
   have HM2:=mkHid hmt
   rw [hmt] at HST
   clear hmt HMT
   generalize hnm:strN q.n = y at *
   have HNY:=mkHid hnm
   clear hnm
   generalize q.v = v at *
   generalize validN q.n = vn at *
   go_wp2_with fail
   refine (HVN.out wr).mono ?_
   rintro e w2 ⟨rfl,b2⟩
   have W2:=mkHid (hw.out.trans (b2.mono hw.out.size))
   have s0':=cell_later b2 s0
   have s1':=cell_later b2 s1
   clear b2 hw s0 s1
   cases vn with
   | false =>
    have HF:Hid (V = false):=mkHid (by rw [HST.out,Bool.false_and,Bool.and_false])
    go_wp2
    go_ret
    exact ⟨ret_bool HF.out.symm,W2.out⟩
   | true =>
    by_cases v0:v < 0
    ·have HF:Hid (V = false):=mkHid (by rw [HST.out,decide_eq_false (show ¬ 0≤v by omega),Bool.false_and,Bool.and_false,Bool.and_false])
     go_wp2
     go_ret
     exact ⟨ret_bool HF.out.symm,W2.out⟩
    ·by_cases v1:65535 < v
     ·have HF:Hid (V = false):=mkHid (by rw [HST.out,decide_eq_false (show ¬ v≤65535 by omega),Bool.false_and,Bool.and_false,Bool.and_false,Bool.and_false])
      go_wp2
      go_ret
      exact ⟨ret_bool HF.out.symm,W2.out⟩
     ·have HF:Hid (V = (!mt && vbG ((l.take (i + 1)).map (·.n)) (l.drop (i + 1)))):=mkHid (by rw [HST.out,decide_eq_true (show 0≤v by omega),decide_eq_true (show v≤65535 by omega),Bool.true_and,Bool.true_and,Bool.true_and])
      clear HST
      go_wp2_with fail
      clear s0' s1'
      have Z2:=mkHid (RowKit.Below.refl w2.heap.size w2)
      have N0:Hid (q.n ∉ (l.take 0).map (·.n)):=mkHid (by simp)
      go_loopw [4] (fun cc wr=>∃ (k:Nat),cc = .int .i64 k∧k≤i∧Hid (RowKit.Below w2.heap.size w2 wr)∧Hid (q.n ∉ (l.take k).map (·.n))) (fun c _=>(i - intOf c).toNat)
      case atStart=>exact ⟨0,rfl,by omega,Z2,N0⟩
      case round =>
       clear Z2 N0
       obtain ⟨k,rfl,hk,hq,hnk⟩:=hrel
       have e3:IntKind.i64.wrap ((k:Int) + 1) = ((k + 1:Nat):Int):=IntWalk.i64_in _ (by omega)
       have W3:=mkHid (W2.out.trans (hq.out.mono W2.out.size))
       by_cases hkl:k < i
       ·have kk:(k:Int) < i:=by omega
        have kn:(k:Int) < n:=by omega
        have HQ:Hid (∃ b,l[k]? = some b):=mkHid ⟨_,List.getElem?_eq_getElem (by rw [← HN.out]; omega)⟩
        obtain ⟨b,hbk⟩:=HQ.out
        have t0:wr.cell? ⟨g,off + k * 2,none⟩ = some (.string (strN b.n)):=HRD.out wr W3.out k b hbk 0 _ rfl
        have s0:wr.cell? ⟨g,off + i * 2,none⟩ = some (.string y):=by rw [← HNY.out]; exact HRD.out wr W3.out i q HQI.out 0 _ rfl
        have he:=HEQ.out b (List.mem_of_getElem? hbk)
        have HTK:Hid ((l.take (k + 1)).map (·.n) = (l.take k).map (·.n) ++ [b.n]):=mkHid (by rw [List.take_add_one,hbk,List.map_append]; rfl)
        have HBI:Hid ((b.n == q.n) = true→q.n∈(l.take i).map (·.n)):=mkHid (fun h=>by
         have hb2:b∈l.take i:=List.mem_of_getElem? (i:=k) (by rw [List.getElem?_take,if_pos hkl]; exact hbk)
         exact List.mem_map.2 ⟨b,hb2,by simpa using h⟩)
        have HNB:Hid ((b.n == q.n) = false→q.n ≠ b.n):=mkHid (fun h e=>by rw [e] at h; simp at h)
        clear hbk HQ
        generalize (b.n == q.n) = rb at *
        generalize strN b.n = z at *
        go_upto_region 9 with (fail)
        go_quiet (fail)
        have Q2:=mkHid (below_drewN hq.out nq)
        have W4:=mkHid (below_drewN W3.out nq)
        clear hq s0 t0 W3
        generalize wr.drewN nq = wd at *
        cases rb with
        | true =>
         have HX:Hid (V = false):=mkHid (by rw [HF.out,← HM2.out,decide_eq_true (HBI.out rfl)]; rfl)
         go_wp2
         go_ret
         exact ⟨ret_bool HX.out.symm,W4.out⟩
        | false =>
         have HN2:Hid (q.n ∉ (l.take (k + 1)).map (·.n)):=mkHid (by
          rw [HTK.out,List.mem_append]
          rintro (h | h)
          ·exact hnk.out h
          ·exact HNB.out rfl (by simpa using h))
         go_wp2
         go_roundw
         case rel=>exact ⟨k + 1,by go_num,by omega,Q2,HN2⟩
         case measure=>simp only [intOf]; omega
       ·have kk:¬ ((k:Int) < i):=by omega
        obtain rfl:k = i:=by omega
        have HX:Hid (V = vbG ((l.take (k + 1)).map (·.n)) (l.drop (k + 1))):=mkHid (by rw [HF.out,← HM2.out,decide_eq_false hnk.out]; rfl)
        go_wp2
        go_roundw
        case rel=>exact ⟨k + 1,by go_num,by omega,W3,HX⟩
        case measure=>simp only [intOf]; omega
  ·have ii:¬ ((i:Int) < n):=by omega
   have HX:Hid (V = true):=mkHid (by rw [hv.out,List.drop_eq_nil_of_le (by rw [← HN.out]; omega),vbG])
   go_wp2
   go_ret
   exact ⟨ret_bool HX.out.symm,hw.out⟩
end Go.Proofs.YtmkdfbelbcocpaaGreatDoor
namespace Go.Proofs.YtmkdfbelbcocpaaGreatDoor
open Go.RowKit Go.Sort Go.Maps
def fineA (l:List Bnd) (q:Prd):Bool:=(rvP l q.l).2 && (rvP l q.r).2
def okC (c:Chc):Bool:=c.atoms.all vatP
def fineC (l:List Bnd) (c:Chc):Bool:=c.atoms.all (fineA l)
theorem rmet_eq (cs:List Chc) (l:List Bnd):metP cs l = if (vbP l && cs.all okC) = false then (false,1) else if cs.all (fineC l) = false then (false,4) else (cs.all (needC (fR l)),0):=by
 have h1:cs.any badC = !cs.all okC:=by
  rw [Bool.eq_iff_iff,List.any_eq_true,Bool.not_eq_true',List.all_eq_false]
  constructor
  ·rintro ⟨c,hc,h⟩
   refine ⟨c,hc,?_⟩
   unfold badC at h
   rw [List.any_eq_true] at h
   obtain ⟨q,hq,h2⟩:=h
   unfold okC
   rw [List.all_eq_true]
   intro h3
   rw [h3 q hq] at h2
   cases h2
  ·rintro ⟨c,hc,h⟩
   refine ⟨c,hc,?_⟩
   unfold okC at h
   unfold badC
   rw [Bool.not_eq_true,List.all_eq_false] at h
   obtain ⟨q,hq,h2⟩:=h
   rw [List.any_eq_true]
   exact ⟨q,hq,by simpa using h2⟩
 unfold metP
 rw [h1]
 cases hb:vbP l with
 | false =>
  rw [Bool.false_and,if_pos rfl]
  cases cs.all okC <;> simp
 | true =>
  rw [Bool.true_and]
  cases hc:cs.all okC with
  | false=>simp
  | true =>
   have h2:cs.all (boundC (valM l)) = cs.all (fineC l):=by
    congr 1
    funext c
    unfold boundC fineC
    congr 1
    funext q
    unfold bdV fineA
    rw [rvP_eq l q.l hb,rvP_eq l q.r hb]
    rfl
   have h3:cs.all (needC (fV (valM l))) = cs.all (needC (fR l)):=by
    congr 1
    funext c
    unfold needC cntY
    have:(fun q=>fV (valM l) (kyOf q)) = (fun q=>fR l (kyOf q)):=by
     funext q
     rw [fR_eq hb]
    rw [this]
   rw [h2,h3]
   simp
theorem nmY_of2 {q:Prd} (h:BytP q):NmB q.l∧NmB q.r:=by
 obtain ⟨k,l,r,c,ks⟩:=q
 unfold BytP at h
 exact ⟨h.1,h.2.1⟩
theorem vat_kind {q:Prd} (h:vatP q = true):q.k = 0:=by
 unfold vatP atomB at h
 rw [Bool.and_eq_true] at h
 simpa using h.1
set_option maxHeartbeats 16000000 in
set_option maxRecDepth 100000 in
theorem rmeets_any (w:World) (cs:List Chc) (ao:Option Addr) (n cap:Nat) (l:List Bnd) (bo:Option Addr) (m bc:Nat) (Pb:Nat→Prop) (hn:n = cs.length) (hnb:n≤1000000) (hat:∀ c∈cs,c.atoms.length≤1000000∧∀ q∈c.atoms,q.ks = []∧BytP q) (hc:ChsR w cs ao)
  (hm:m = l.length) (hbig:m≤1000000) (hok:BndOk l) (hk:BndR w Pb l bo) :
  Calls Tryz.prog 40 #[.slice ao n cap,.slice bo m bc] w fun e w'=>e = .returned (.tuple #[.bool (metP cs l).1,.int .i64 (metP cs l).2])∧RowKit.Below w.heap.size w w':=by
 have HVB:=mkHid (rvbinds_any w Pb l bo m bc hm hbig hok hk)
 have HVL:=mkHid (fun (x:List Nat) (hx:∀ y∈x,y < 256) W (hW:RowKit.Below w.heap.size w W)=>rvalue2_any x W Pb l bo m bc hx hm hbig hok (hk.below hW))
 have HTR:=mkHid (fun (hv:vbP l = true) (l' r':List Nat) (c:Int) (x:Value) (hx:x.oneCell' = true) (hl:∀ y∈l',y < 256) (hr:∀ y∈r',y < 256) W (hW:RowKit.Below w.heap.size w W)=>rtru_atom l' r' c x hx W Pb l bo m bc hl hr hm hbig hok (hk.below hW) hv)
 have HC:=mkHid (fun W (hW:RowKit.Below w.heap.size w W)=>hc.below hW)
 have HN:=mkHid hn
 have HA:=mkHid hat
 have HV:=mkHid (rmet_eq cs l)
 obtain ⟨V,hV⟩:∃ V,metP cs l = V:=⟨_,rfl⟩
 rw [hV] at HV ⊢
 clear hn hat hc hm hok hk hV hbig
 obtain ⟨t,ht⟩:∃ t,vbP l = t:=⟨_,rfl⟩
 rw [ht] at HVB HV HTR
 clear ht
 go_enter Tryz.func40,Tryz.ntmps40
 go_wp2_with fail
 refine HVB.out.mono ?_
 rintro e w1 ⟨rfl,b1⟩
 have B1:=mkHid b1
 clear b1 HVB
 go_wp2_with fail
 have S1:Hid (t = (t && (cs.take 0).all okC)):=mkHid (by simp)
 have S2:Hid (true = (cs.take 0).all (fineC l)):=mkHid rfl
 have S3:Hid (t = true→true = true→true = (cs.take 0).all (needC (fR l))):=mkHid (fun _ _=>rfl)
 have Z1:=mkHid (RowKit.Below.refl w1.heap.size w1)
 go_loopw [9,6,7,8] (fun cc vv ff mm wr=>∃ (i:Nat) (v f q:Bool),cc = .int .i64 i∧vv = .bool v∧ff = .bool f∧mm = .bool q∧i≤n∧Hid (RowKit.Below w1.heap.size w1 wr)∧Hid (v = (t && (cs.take i).all okC))∧Hid (f = (cs.take i).all (fineC l))∧Hid (v = true→f = true→q = (cs.take i).all (needC (fR l)))) (fun c _ _ _ _=>(n - intOf c).toNat)
 case atStart=>exact ⟨0,t,true,true,rfl,rfl,rfl,rfl,by omega,Z1,S1,S2,mkHid (fun _ _=>rfl)⟩
 case round =>
  clear S1 S2 S3 Z1
  obtain ⟨i,v0,f0,q0,rfl,rfl,rfl,rfl,hi,hw,hv,hf,hq⟩:=hrel
  have e2:IntKind.i64.wrap ((i:Int) + 1) = ((i + 1:Nat):Int):=IntWalk.i64_in _ (by omega)
  by_cases hlt:i < n
  ·have ii:(i:Int) < n:=by omega
   have W1:=mkHid (B1.out.trans (hw.out.mono B1.out.size))
   obtain ⟨c,hci,g,off,hao,hg,xo,xc,hrd,hkr⟩:=(HC.out wr W1.out).get (i:=i) (by rw [← HN.out]; exact hlt)
   have HT1:=mkHid (all_takeG okC cs i c hci)
   have HT2:=mkHid (all_takeG (fineC l) cs i c hci)
   have HT3:=mkHid (all_takeG (needC (fR l)) cs i c hci)
   have HAC:=mkHid (HA.out c (List.mem_of_getElem? hci))
   have HOC:Hid (okC c = c.atoms.all vatP):=mkHid rfl
   have HFC:Hid (fineC l c = c.atoms.all (fineA l)):=mkHid rfl
   have HNC:Hid (needC (fR l) c = decide (c.need≤(cntY (fR l) c.atoms:Int))):=mkHid rfl
   have HRD:=mkHid hrd
   have HKR:=mkHid hkr
   have HG:=mkHid hg
   have HAO:=mkHid hao
   clear hrd hkr hci hg
   subst hao
   obtain ⟨aa,has⟩:∃ aa,c.atoms = aa:=⟨_,rfl⟩
   rw [has] at HAC HOC HFC HNC HRD HKR
   clear has
   generalize okC c = oc at *
   generalize fineC l c = fc at *
   generalize needC (fR l) c = nc at *
   generalize c.need = nd at *
   obtain ⟨na,hna⟩:∃ na,aa.length = na:=⟨_,rfl⟩
   have HNA:=mkHid hna
   rw [hna] at HAC HRD
   clear hna
   have hna8:=HAC.out.1
   go_wp2_with fail
   generalize wr = wo at *
   have T1:Hid (v0 = (v0 && (aa.take 0).all vatP)):=mkHid (by simp)
   have T2:Hid (f0 = (f0 && (aa.take 0).all (fineA l))):=mkHid (by simp)
   have Z0:=mkHid (RowKit.Below.refl wo.heap.size wo)
   go_loopw [11,6,7,10] (fun jv vv ff mv wr=>∃ (j k:Nat) (v f:Bool),jv = .int .i64 j∧vv = .bool v∧ff = .bool f∧mv = .int .i64 k∧j≤na∧k≤j∧Hid (RowKit.Below wo.heap.size wo wr)∧Hid (v = (v0 && (aa.take j).all vatP))∧Hid (f = (f0 && (aa.take j).all (fineA l)))∧Hid (v = true→f = true→k = cntY (fR l) (aa.take j))) (fun j _ _ _ _=>(na - intOf j).toNat)
   case atStart=>exact ⟨0,0,v0,f0,rfl,rfl,rfl,rfl,by omega,by omega,Z0,T1,T2,mkHid (fun _ _=>rfl)⟩
   case round =>
    clear T1 T2 Z0
    obtain ⟨j,k,v,f,rfl,rfl,rfl,rfl,hj,hkj,hwq,hvv,hff,hct⟩:=hrel
    have e3:IntKind.i64.wrap ((j:Int) + 1) = ((j + 1:Nat):Int):=IntWalk.i64_in _ (by omega)
    have e4:IntKind.i64.wrap ((k:Int) + 1) = ((k + 1:Nat):Int):=IntWalk.i64_in _ (by omega)
    have HR2:=mkHid (HRD.out.of_block (hwq.out.block g HG.out))
    have W2:=mkHid (W1.out.trans (hwq.out.mono W1.out.size))
    have r0:=HR2.out 0 _ rfl
    have r1:=HR2.out 1 _ rfl
    rw [Nat.add_zero] at r0
    clear HR2
    by_cases hjl:j < na
    ·have jj:(j:Int) < na:=by omega
     obtain ⟨q,hqi,g2,off2,hxo,hg2,us,hpc,hrd⟩:=(HKR.out.any hwq.out).get (i:=j) (by rw [HNA.out]; exact hjl)
     have HV1:Hid ((v && vatP q) = (v0 && (aa.take (j + 1)).all vatP)):=mkHid (by rw [all_takeG vatP aa j q hqi,← Bool.and_assoc,← hvv.out])
     have HF1:Hid ((f && fineA l q) = (f0 && (aa.take (j + 1)).all (fineA l))):=mkHid (by rw [all_takeG (fineA l) aa j q hqi,← Bool.and_assoc,← hff.out])
     have HC1:=mkHid (cntY_take (fR l) aa j q hqi)
     obtain ⟨hqk,hqb⟩:=HAC.out.2 q (List.mem_of_getElem? hqi)
     have hny:=nmY_of2 hqb
     have HVT:Hid (t = false→v = false):=mkHid (fun h=>by rw [hvv.out,hv.out,h]; simp)
     obtain ⟨xa,xn,xd,rfl,hxn⟩:=hpc.form
     have hxn0:xn = q.ks.length:=hxn
     have HVA:=mkHid (fun W=>rvatom_any q.k q.l q.r q.c xa xn xd W hny.1 hny.2)
     rw [show atomB q.k q.l q.r q.c xn = vatP q from by unfold vatP; rw [hxn0]] at HVA
     have HL1:=mkHid (fun W hW=>HVL.out q.l hny.1.1 W hW)
     have HL2:=mkHid (fun W hW=>HVL.out q.r hny.2.1 W hW)
     have HK0:=mkHid (fun (h:vatP q = true)=>vat_kind h)
     have HTQ:=mkHid (fun (ht:t = true) W hW=>HTR.out ht q.l q.r q.c (.slice xa xn xd) rfl hny.1.1 hny.2.1 W hW)
     have HKY:Hid ((⟨q.l,q.r,q.c⟩:Ky) = kyOf q):=mkHid rfl
     rw [HKY.out] at HTQ
     have HFA:Hid (fineA l q = ((rvP l q.l).2 && (rvP l q.r).2)):=mkHid rfl
     have t0:=hrd 0 _ rfl
     have t1:=hrd 1 _ rfl
     have t2:=hrd 2 _ rfl
     have t3:=hrd 3 _ rfl
     have t4:=hrd 4 _ rfl
     rw [Nat.add_zero] at t0
     have HXO:=mkHid hxo
     have bx:=(RowKit.Below.refl wr.heap.size wr).alloc (Nat.le_refl _) (.cells #[.int .i64 q.k,.string (strN q.l),.string (strN q.r),.int .i64 q.c,.slice xa xn xd] 25)
     have P1:Hid (HasV (wr.alloc (.cells #[.int .i64 q.k,.string (strN q.l),.string (strN q.r),.int .i64 q.c,.slice xa xn xd] 25)) wr.heap.size 25 [.int .i64 q.k,.string (strN q.l),.string (strN q.r),.int .i64 q.c,.slice xa xn xd]):=mkHid (heap_alloc_new wr _)
     have Q1:=mkHid (hwq.out.trans (bx.mono hwq.out.size))
     have HK1:=mkHid (fun (h:vatP q = true)=>HK0.out h)
     clear hrd hpc hqi hqk hqb hny hxn hxn0 bx hwq hvv hff HK0 HKY
     subst hxo
     generalize vatP q = va at *
     generalize fineA l q = fa at *
     generalize fR l (kyOf q) = tb at *
     generalize (rvP l q.l).1 = a1 at *
     generalize (rvP l q.r).1 = a2 at *
     generalize (rvP l q.l).2 = p1 at *
     generalize (rvP l q.r).2 = p2 at *
     generalize q.k = x0 at *
     generalize strN q.l = x1 at *
     generalize strN q.r = x2 at *
     generalize q.c = x3 at *
     go_upto_region 12 with (fail)
     clear t0 t1 t2 t3 t4 r0 r1
     generalize wr.heap.size = px at *
     generalize wr.alloc (.cells #[.int .i64 x0,.string x1,.string x2,.int .i64 x3,.slice xa xn xd] 25) = wp at *
     cases v with
     | false =>
      have y1:=P1.out.cell 1 _ rfl
      have y2:=P1.out.cell 2 _ rfl
      have D1:=mkHid (W1.out.trans (Q1.out.mono W1.out.size))
      go_wp2_with fail
      refine (HL1.out wp D1.out).mono ?_
      rintro e w6 ⟨rfl,rfl⟩
      go_wp2_with fail
      refine (HL2.out wp D1.out).mono ?_
      rintro e w6 ⟨rfl,rfl⟩
      cases f with
      | false =>
       go_wp2
       go_roundw
       case rel=>exact ⟨j + 1,k,false,false,by go_num,rfl,rfl,rfl,by omega,by omega,Q1,HV1,HF1,mkHid (fun h=>by cases h)⟩
       case measure=>simp only [intOf]; omega
      | true =>
       cases p1 with
       | false =>
        go_wp2
        go_roundw
        case rel=>exact ⟨j + 1,k,false,false,by go_num,rfl,rfl,rfl,by omega,by omega,Q1,HV1,mkHid (by rw [← HF1.out,HFA.out]; rfl),mkHid (fun h=>by cases h)⟩
        case measure=>simp only [intOf]; omega
       | true =>
        go_wp2
        go_roundw
        case rel=>exact ⟨j + 1,k,false,p2,by go_num,rfl,rfl,rfl,by omega,by omega,Q1,HV1,mkHid (by rw [← HF1.out,HFA.out]; rfl),mkHid (fun h=>by cases h)⟩
        case measure=>simp only [intOf]; omega
     | true =>
      have ht:t = true:=by
       cases t with
       | true=>rfl
       | false=>exact absurd (HVT.out rfl) (by simp)
      have HTT:=mkHid (HTQ.out ht)
      have D0:=mkHid (W1.out.trans (Q1.out.mono W1.out.size))
      clear ht HTQ HVT
      go_wp2_with (refine wpList_load_wanted (by rfl) 25 (.tmp 12) rfl px (by rfl) 25 #[.int .i64 x0,.string x1,.string x2,.int .i64 x3,.slice xa xn xd] (0,0) _ P1.out Tryz.underlying25 rfl (inf_pred _ rfl) ?_)
      refine (HVA.out wp).mono ?_
      rintro e w6 ⟨rfl,b6⟩
      have P6:=mkHid (P1.out.step b6)
      have Q6:=mkHid (Q1.out.trans (b6.mono Q1.out.size))
      have D6:=mkHid (D0.out.trans (b6.mono D0.out.size))
      clear b6 P1 Q1 D0
      have y1:=P6.out.cell 1 _ rfl
      have y2:=P6.out.cell 2 _ rfl
      go_wp2_with fail
      refine (HL1.out w6 D6.out).mono ?_
      rintro e w7 ⟨rfl,rfl⟩
      go_wp2_with fail
      refine (HL2.out w6 D6.out).mono ?_
      rintro e w7 ⟨rfl,rfl⟩
      cases va with
      | false =>
       cases f with
       | false =>
        go_wp2
        go_roundw
        case rel=>exact ⟨j + 1,k,false,false,by go_num,rfl,rfl,rfl,by omega,by omega,Q6,HV1,HF1,mkHid (fun h=>by cases h)⟩
        case measure=>simp only [intOf]; omega
       | true =>
        cases p1 with
        | false =>
         go_wp2
         go_roundw
         case rel=>exact ⟨j + 1,k,false,false,by go_num,rfl,rfl,rfl,by omega,by omega,Q6,HV1,mkHid (by rw [← HF1.out,HFA.out]; rfl),mkHid (fun h=>by cases h)⟩
         case measure=>simp only [intOf]; omega
        | true =>
         go_wp2
         go_roundw
         case rel=>exact ⟨j + 1,k,false,p2,by go_num,rfl,rfl,rfl,by omega,by omega,Q6,HV1,mkHid (by rw [← HF1.out,HFA.out]; rfl),mkHid (fun h=>by cases h)⟩
         case measure=>simp only [intOf]; omega
      | true =>
       cases f with
       | false =>
        go_wp2
        go_roundw
        case rel=>exact ⟨j + 1,k,true,false,by go_num,rfl,rfl,rfl,by omega,by omega,Q6,HV1,HF1,mkHid (fun _ h=>by cases h)⟩
        case measure=>simp only [intOf]; omega
       | true =>
        cases p1 with
        | false =>
         go_wp2
         go_roundw
         case rel=>exact ⟨j + 1,k,true,false,by go_num,rfl,rfl,rfl,by omega,by omega,Q6,HV1,mkHid (by rw [← HF1.out,HFA.out]; rfl),mkHid (fun _ h=>by cases h)⟩
         case measure=>simp only [intOf]; omega
        | true =>
         cases p2 with
         | false =>
          go_wp2
          go_roundw
          case rel=>exact ⟨j + 1,k,true,false,by go_num,rfl,rfl,rfl,by omega,by omega,Q6,HV1,mkHid (by rw [← HF1.out,HFA.out]; rfl),mkHid (fun _ h=>by cases h)⟩
          case measure=>simp only [intOf]; omega
         | true =>
          have hx0:x0 = 0:=HK1.out rfl
          subst hx0
          have HCK:=mkHid (hct.out (by trivial) (by trivial))
          go_wp2_with (refine wpList_load_wanted (by rfl) 25 (.tmp 12) rfl px (by rfl) 25 #[.int .i64 0,.string x1,.string x2,.int .i64 x3,.slice xa xn xd] (0,0) _ P6.out Tryz.underlying25 rfl (inf_pred _ rfl) ?_)
          refine (HTT.out w6 D6.out).mono ?_
          rintro e w8 ⟨rfl,b8⟩
          have Q8:=mkHid (Q6.out.trans (b8.mono Q6.out.size))
          clear b8
          cases tb with
          | true =>
           rw [if_pos rfl] at HC1
           go_wp2
           go_roundw
           case rel=>exact ⟨j + 1,k + 1,true,true,by go_num,rfl,rfl,by go_num,by omega,by omega,Q8,HV1,mkHid (by rw [← HF1.out,HFA.out]; rfl),mkHid (fun _ _=>by rw [HC1.out,← HCK.out])⟩
           case measure=>simp only [intOf]; omega
          | false =>
           rw [if_neg (by simp)] at HC1
           go_wp2
           go_roundw
           case rel=>exact ⟨j + 1,k,true,true,by go_num,rfl,rfl,rfl,by omega,by omega,Q8,HV1,mkHid (by rw [← HF1.out,HFA.out]; rfl),mkHid (fun _ _=>by rw [HC1.out,← HCK.out]; rfl)⟩
           case measure=>simp only [intOf]; omega
    ·have jj:¬ ((j:Int) < na):=by omega
     have HTA:Hid (aa.take j = aa):=mkHid (List.take_of_length_le (by rw [HNA.out]; omega))
     rw [HTA.out] at hvv hff hct
     have HV2:Hid (v = (t && (cs.take (i + 1)).all okC)):=mkHid (by rw [HT1.out,hvv.out,hv.out,HOC.out,Bool.and_assoc])
     have HF2:Hid (f = (cs.take (i + 1)).all (fineC l)):=mkHid (by rw [HT2.out,hff.out,hf.out,HFC.out])
     have HV0:Hid (v = true→v0 = true):=mkHid (fun h=>by rw [hvv.out,Bool.and_eq_true] at h; exact h.1)
     have HF0:Hid (f = true→f0 = true):=mkHid (fun h=>by rw [hff.out,Bool.and_eq_true] at h; exact h.1)
     have Q2:=mkHid (hw.out.trans (hwq.out.mono hw.out.size))
     clear hwq hvv hff
     cases q0 with
     | false =>
      go_wp2
      go_roundw
      case rel=>exact ⟨i + 1,v,f,false,by go_num,rfl,rfl,rfl,by omega,Q2,HV2,HF2,mkHid (fun h1 h2=>by rw [HT3.out,← hq.out (HV0.out h1) (HF0.out h2)]; rfl)⟩
      case measure=>simp only [intOf]; omega
     | true =>
      by_cases hnd:nd≤(k:Int)
      ·have HX:Hid (v = true→f = true→true = (cs.take (i + 1)).all (needC (fR l))):=mkHid (fun h1 h2=>by rw [HT3.out,← hq.out (HV0.out h1) (HF0.out h2),HNC.out,← hct.out h1 h2,decide_eq_true hnd]; rfl)
       go_wp2
       go_roundw
       case rel=>exact ⟨i + 1,v,f,true,by go_num,rfl,rfl,by go_num,by omega,Q2,HV2,HF2,HX⟩
       case measure=>simp only [intOf]; omega
      ·have HX:Hid (v = true→f = true→false = (cs.take (i + 1)).all (needC (fR l))):=mkHid (fun h1 h2=>by rw [HT3.out,← hq.out (HV0.out h1) (HF0.out h2),HNC.out,← hct.out h1 h2,decide_eq_false hnd]; rfl)
       go_wp2
       go_roundw
       case rel=>exact ⟨i + 1,v,f,false,by go_num,rfl,rfl,by go_num,by omega,Q2,HV2,HF2,HX⟩
       case measure=>simp only [intOf]; omega
  ·have ii:¬ ((i:Int) < n):=by omega
   have HTA:Hid (cs.take i = cs):=mkHid (List.take_of_length_le (by rw [← HN.out]; omega))
   rw [HTA.out] at hv hf hq
   have BF:=mkHid (B1.out.trans (hw.out.mono B1.out.size))
   have HV2:Hid (V = if v0 = false then (false,1) else if f0 = false then (false,4) else (cs.all (needC (fR l)),0)):=mkHid (by rw [HV.out,← hv.out,← hf.out])
   clear hw HV hv hf
   cases v0 with
   | false =>
    have HX:Hid (V = (false,1)):=mkHid (by rw [HV2.out]; rfl)
    go_wp2
    go_ret2
    exact ⟨by rw [HX.out]; rfl,BF.out⟩
   | true =>
    cases f0 with
    | false =>
     have HX:Hid (V = (false,4)):=mkHid (by rw [HV2.out]; rfl)
     go_wp2
     go_ret2
     exact ⟨by rw [HX.out]; rfl,BF.out⟩
    | true =>
     have HX:Hid (V = (q0,0)):=mkHid (by rw [HV2.out,hq.out rfl rfl]; rfl)
     go_wp2
     go_ret2
     exact ⟨by rw [HX.out]; rfl,BF.out⟩
end Go.Proofs.YtmkdfbelbcocpaaGreatDoor
namespace Go.Proofs.YtmkdfbelbcocpaaGreatDoor
open Go.RowKit Go.Sort Go.Maps
def NmY (q:Prd):Prop:=(∀ y∈q.l,y < 256)∧(∀ y∈q.r,y < 256)
theorem nmY_of {q:Prd} (h:BytP q):NmY q:=by
 obtain ⟨k,l,r,c,ks⟩:=q
 unfold BytP at h
 exact ⟨h.1.1,h.2.1.1⟩
theorem ltK_ifs (a b:Ky):ltK a b = if (a.l == b.l) = false then ltL a.l b.l else if (a.r == b.r) = false then ltL a.r b.r else decide (a.c < b.c):=by
 rw [Bool.eq_iff_iff,ltK_iff]
 by_cases h1:a.l = b.l
 ·have e1:(a.l == b.l) = true:=beq_iff_eq.mpr h1
  rw [e1,if_neg (by simp)]
  by_cases h2:a.r = b.r
  ·have e2:(a.r == b.r) = true:=beq_iff_eq.mpr h2
   rw [e2,if_neg (by simp),h1,h2,ltL_irrefl,ltL_irrefl,decide_eq_true_eq]
   simp
  ·have e2:(a.r == b.r) = false:=beq_eq_false_iff_ne.mpr h2
   rw [e2,if_pos rfl,h1,ltL_irrefl]
   simp [h2]
 ·have e1:(a.l == b.l) = false:=beq_eq_false_iff_ne.mpr h1
  rw [e1,if_pos rfl]
  simp [h1]
theorem same_key (a b:Ky):(!ltK a b && !ltK b a) = (a == b):=by
 rw [Bool.eq_iff_iff,Bool.and_eq_true,beq_iff_eq]
 simp only [Bool.not_eq_true']
 constructor
 ·rintro ⟨h1,h2⟩
  rcases ltK_total a b with h | h | h
  ·rw [h1] at h; cases h
  ·exact h
  ·rw [h2] at h; cases h
 ·rintro rfl
  exact ⟨ltK_irrefl a,ltK_irrefl a⟩
set_option maxHeartbeats 8000000 in
set_option maxRecDepth 100000 in
theorem before_any (ka kb:Int) (al ar bl br:List Nat) (ac bc:Int) (x y:Value) (hx:x.oneCell' = true) (hy:y.oneCell' = true) (w:World) (h1:∀ z∈al,z < 256) (h2:∀ z∈ar,z < 256) (h3:∀ z∈bl,z < 256) (h4:∀ z∈br,z < 256) :
  Calls Tryz.prog 173 #[.agg #[.int .i64 ka,.string (strN al),.string (strN ar),.int .i64 ac,x],.agg #[.int .i64 kb,.string (strN bl),.string (strN br),.int .i64 bc,y]] w fun e w'=>e = .returned (.bool (ltK ⟨al,ar,ac⟩ ⟨bl,br,bc⟩))∧RowKit.Below w.heap.size w w':=by
 have HV:Hid (ltK ⟨al,ar,ac⟩ ⟨bl,br,bc⟩ = if (al == bl) = false then ltL al bl else if (ar == br) = false then ltL ar br else decide (ac < bc)):=mkHid (ltK_ifs _ _)
 have he1:=strN_eqL al bl h1 h3
 have he2:=strN_eqL ar br h2 h4
 have hl1:=strN_less al bl h1 h3
 have hl2:=strN_less ar br h2 h4
 have bx:=((RowKit.Below.refl w.heap.size w).alloc (Nat.le_refl _) (.cells #[.int .i64 ka,.string (strN al),.string (strN ar),.int .i64 ac,x] 25)).alloc (by simp) (.cells #[.int .i64 kb,.string (strN bl),.string (strN br),.int .i64 bc,y] 25)
 have B1:=mkHid bx
 have X1:Hid (HasV ((w.alloc (.cells #[.int .i64 ka,.string (strN al),.string (strN ar),.int .i64 ac,x] 25)).alloc (.cells #[.int .i64 kb,.string (strN bl),.string (strN br),.int .i64 bc,y] 25)) w.heap.size 25 [.int .i64 ka,.string (strN al),.string (strN ar),.int .i64 ac,x]):=mkHid (heap_alloc2_old _ _ _)
 have Y1:Hid (HasV ((w.alloc (.cells #[.int .i64 ka,.string (strN al),.string (strN ar),.int .i64 ac,x] 25)).alloc (.cells #[.int .i64 kb,.string (strN bl),.string (strN br),.int .i64 bc,y] 25)) (w.heap.size + 1) 25 [.int .i64 kb,.string (strN bl),.string (strN br),.int .i64 bc,y]):=mkHid (heap_alloc2_new _ _ _)
 obtain ⟨V,hV⟩:∃ V,ltK ⟨al,ar,ac⟩ ⟨bl,br,bc⟩ = V:=⟨_,rfl⟩
 rw [hV] at HV ⊢
 clear bx hV h1 h2 h3 h4
 generalize (al == bl) = e1 at *
 generalize (ar == br) = e2 at *
 generalize ltL al bl = l1 at *
 generalize ltL ar br = l2 at *
 generalize strN al = y1 at *
 generalize strN ar = y2 at *
 generalize strN bl = z1 at *
 generalize strN br = z2 at *
 go_enter Tryz.func173,Tryz.ntmps173
 go_upto_region 1 with (fail)
 generalize (w.alloc (.cells #[.int .i64 ka,.string y1,.string y2,.int .i64 ac,x] 25)).alloc (.cells #[.int .i64 kb,.string z1,.string z2,.int .i64 bc,y] 25) = w1 at *
 have x1:=X1.out.cell 1 _ rfl
 have x2:=X1.out.cell 2 _ rfl
 have x3:=X1.out.cell 3 _ rfl
 have u1:=Y1.out.cell 1 _ rfl
 have u2:=Y1.out.cell 2 _ rfl
 have u3:=Y1.out.cell 3 _ rfl
 cases e1 with
 | false =>
  have HX:Hid (V = l1):=mkHid (by rw [HV.out,if_pos rfl])
  go_wp2
  go_ret
  exact ⟨ret_bool HX.out.symm,B1.out⟩
 | true =>
  rw [if_neg (by simp)] at HV
  cases e2 with
  | false =>
   have HX:Hid (V = l2):=mkHid (by rw [HV.out,if_pos rfl])
   go_wp2
   go_ret
   exact ⟨ret_bool HX.out.symm,B1.out⟩
  | true =>
   have HX:Hid (V = decide (ac < bc)):=mkHid (by rw [HV.out,if_neg (by simp)])
   go_wp2
   go_ret
   exact ⟨ret_bool HX.out.symm,B1.out⟩
set_option maxHeartbeats 8000000 in
set_option maxRecDepth 100000 in
theorem satom_any (ka kb:Int) (al ar bl br:List Nat) (ac bc:Int) (x y:Value) (hx:x.oneCell' = true) (hy:y.oneCell' = true) (w:World) (h1:∀ z∈al,z < 256) (h2:∀ z∈ar,z < 256) (h3:∀ z∈bl,z < 256) (h4:∀ z∈br,z < 256) :
  Calls Tryz.prog 112 #[.agg #[.int .i64 ka,.string (strN al),.string (strN ar),.int .i64 ac,x],.agg #[.int .i64 kb,.string (strN bl),.string (strN br),.int .i64 bc,y]] w fun e w'=>e = .returned (.bool ((⟨al,ar,ac⟩:Ky) == ⟨bl,br,bc⟩))∧RowKit.Below w.heap.size w w':=by
 have HV:Hid (((⟨al,ar,ac⟩:Ky) == ⟨bl,br,bc⟩) = (!ltK ⟨al,ar,ac⟩ ⟨bl,br,bc⟩ && !ltK ⟨bl,br,bc⟩ ⟨al,ar,ac⟩)):=mkHid (same_key _ _).symm
 have H1:=mkHid (fun W=>before_any ka kb al ar bl br ac bc x y hx hy W h1 h2 h3 h4)
 have H2:=mkHid (fun W=>before_any kb ka bl br al ar bc ac y x hy hx W h3 h4 h1 h2)
 have bx:=((RowKit.Below.refl w.heap.size w).alloc (Nat.le_refl _) (.cells #[.int .i64 ka,.string (strN al),.string (strN ar),.int .i64 ac,x] 25)).alloc (by simp) (.cells #[.int .i64 kb,.string (strN bl),.string (strN br),.int .i64 bc,y] 25)
 have B1:=mkHid bx
 have X1:Hid (HasV ((w.alloc (.cells #[.int .i64 ka,.string (strN al),.string (strN ar),.int .i64 ac,x] 25)).alloc (.cells #[.int .i64 kb,.string (strN bl),.string (strN br),.int .i64 bc,y] 25)) w.heap.size 25 [.int .i64 ka,.string (strN al),.string (strN ar),.int .i64 ac,x]):=mkHid (heap_alloc2_old _ _ _)
 have Y1:Hid (HasV ((w.alloc (.cells #[.int .i64 ka,.string (strN al),.string (strN ar),.int .i64 ac,x] 25)).alloc (.cells #[.int .i64 kb,.string (strN bl),.string (strN br),.int .i64 bc,y] 25)) (w.heap.size + 1) 25 [.int .i64 kb,.string (strN bl),.string (strN br),.int .i64 bc,y]):=mkHid (heap_alloc2_new _ _ _)
 obtain ⟨V,hV⟩:∃ V,((⟨al,ar,ac⟩:Ky) == ⟨bl,br,bc⟩) = V:=⟨_,rfl⟩
 rw [hV] at HV ⊢
 clear bx hV h1 h2 h3 h4
 generalize ltK ⟨al,ar,ac⟩ ⟨bl,br,bc⟩ = l1 at *
 generalize ltK ⟨bl,br,bc⟩ ⟨al,ar,ac⟩ = l2 at *
 generalize strN al = y1 at *
 generalize strN ar = y2 at *
 generalize strN bl = z1 at *
 generalize strN br = z2 at *
 go_enter Tryz.func112,Tryz.ntmps112
 go_upto_region 1 with (fail)
 generalize (w.alloc (.cells #[.int .i64 ka,.string y1,.string y2,.int .i64 ac,x] 25)).alloc (.cells #[.int .i64 kb,.string z1,.string z2,.int .i64 bc,y] 25) = w1 at *
 go_wp2_with (first | (refine wpList_load_row rfl 25 (.tmp 2) rfl w.heap.size ?a1 25 #[.int .i64 ka,.string y1,.string y2,.int .i64 ac,x] (0,0) _ X1.out Tryz.underlying25 rfl (inf_pred _ rfl) ?_; (case a1=>rfl)) | (refine wpList_load_row rfl 25 (.tmp 3) rfl (w.heap.size + 1) ?a2 25 #[.int .i64 kb,.string z1,.string z2,.int .i64 bc,y] (0,0) _ Y1.out Tryz.underlying25 rfl (inf_pred _ rfl) ?_; (case a2=>rfl)))
 refine (H1.out w1).mono ?_
 rintro e w2 ⟨rfl,b2⟩
 have X2:=mkHid (X1.out.step b2)
 have Y2:=mkHid (Y1.out.step b2)
 have B2:=mkHid (B1.out.trans (b2.mono B1.out.size))
 clear b2 X1 Y1 B1
 cases l1 with
 | true =>
  have HX:Hid (V = false):=mkHid (by rw [HV.out]; rfl)
  go_wp2
  go_ret
  exact ⟨ret_bool HX.out.symm,B2.out⟩
 | false =>
  have HX:Hid (V = !l2):=mkHid (by rw [HV.out]; rfl)
  go_wp2_with (first | (refine wpList_load_wanted (by rfl) 25 (.tmp 2) rfl w.heap.size (by rfl) 25 #[.int .i64 ka,.string y1,.string y2,.int .i64 ac,x] (0,0) _ X2.out Tryz.underlying25 rfl (inf_pred _ rfl) ?_) | (refine wpList_load_wanted (by rfl) 25 (.tmp 3) rfl (w.heap.size + 1) (by rfl) 25 #[.int .i64 kb,.string z1,.string z2,.int .i64 bc,y] (0,0) _ Y2.out Tryz.underlying25 rfl (inf_pred _ rfl) ?_))
  refine (H2.out w2).mono ?_
  rintro e w3 ⟨rfl,b3⟩
  have B3:=mkHid (B2.out.trans (b3.mono B2.out.size))
  clear b3 X2 Y2 B2
  go_wp2
  go_ret
  exact ⟨ret_bool HX.out.symm,B3.out⟩
def fndG (k:Ky):Nat→List Prd→Int
 | _,[]=>-1
 | i,q :: qs=>if (kyOf q == k) = true then (i:Int) else fndG k (i + 1) qs
def fndP (ks:List Prd) (k:Ky):Int:=fndG k 0 ks
theorem fndG_drop (k:Ky) (ks:List Prd) (i:Nat) (q:Prd) (h:ks[i]? = some q):fndG k i (ks.drop i) = if (kyOf q == k) = true then (i:Int) else fndG k (i + 1) (ks.drop (i + 1)):=by
 rw [drop_cons_get ks i q h,fndG]
set_option maxHeartbeats 8000000 in
set_option maxRecDepth 100000 in
theorem find_any (w:World) (P P':Nat→Prop) (ks:List Prd) (ao:Option Addr) (n cap:Nat) (x:Prd) (us:List Value) (hn:n = ks.length) (hbig:n≤1000000) (hks:∀ q∈ks,NmY q) (hx:NmY x) (hk:KidR w P ks ao) (hxp:PredC w P' x us) :
  Calls Tryz.prog 43 #[.slice ao n cap,.agg us.toArray] w fun e w'=>e = .returned (.int .i64 (fndP ks (kyOf x)))∧RowKit.Below w.heap.size w w':=by
 obtain ⟨va,vn,vc,rfl,-⟩:=hxp.form
 have bx:=(RowKit.Below.refl w.heap.size w).alloc (Nat.le_refl _) (.cells #[.int .i64 x.k,.string (strN x.l),.string (strN x.r),.int .i64 x.c,.slice va vn vc] 25)
 have B1:=mkHid bx
 have X1:Hid (HasV (w.alloc (.cells #[.int .i64 x.k,.string (strN x.l),.string (strN x.r),.int .i64 x.c,.slice va vn vc] 25)) w.heap.size 25 [.int .i64 x.k,.string (strN x.l),.string (strN x.r),.int .i64 x.c,.slice va vn vc]):=mkHid (heap_alloc_new w _)
 have HSA:=mkHid (fun (q:Prd) (hq:NmY q) (v:Value) (hv:v.oneCell' = true) W=>satom_any q.k x.k q.l q.r x.l x.r q.c x.c v (.slice va vn vc) hv rfl W hq.1 hq.2 hx.1 hx.2)
 have HK:=mkHid (fun W (hW:RowKit.Below w.heap.size w W)=>hk.below hW)
 have HN:=mkHid hn
 have HKS:=mkHid hks
 have S0:Hid (fndP ks (kyOf x) = fndG (kyOf x) 0 (ks.drop 0)):=mkHid rfl
 have hky:(⟨x.l,x.r,x.c⟩:Ky) = kyOf x:=rfl
 rw [hky] at HSA
 clear bx hk hn hks hx hxp hky
 obtain ⟨V,hV⟩:∃ V,fndP ks (kyOf x) = V:=⟨_,rfl⟩
 rw [hV] at S0 ⊢
 clear hV
 generalize kyOf x = K at *
 generalize x.k = v0 at *
 generalize strN x.l = v1 at *
 generalize strN x.r = v2 at *
 generalize x.c = v3 at *
 go_enter Tryz.func43,Tryz.ntmps43
 go_upto_region 1 with (fail)
 generalize w.alloc (.cells #[.int .i64 v0,.string v1,.string v2,.int .i64 v3,.slice va vn vc] 25) = w1 at *
 go_wp2_with fail
 go_loopw [5] (fun cc wr=>∃ (i:Nat),cc = .int .i64 i∧i≤n∧Hid (RowKit.Below w.heap.size w wr)∧Hid (HasV wr w.heap.size 25 [.int .i64 v0,.string v1,.string v2,.int .i64 v3,.slice va vn vc])∧Hid (V = fndG K i (ks.drop i))) (fun c _=>(n - intOf c).toNat)
 case atStart=>exact ⟨0,rfl,by omega,B1,X1,S0⟩
 case round =>
  clear S0 B1 X1
  obtain ⟨i,rfl,hi,hw,hx,hv⟩:=hrel
  have e2:IntKind.i64.wrap ((i:Int) + 1) = ((i + 1:Nat):Int):=IntWalk.i64_in _ (by omega)
  by_cases hlt:i < n
  ·have ii:(i:Int) < n:=by omega
   obtain ⟨q,hqi,g,off,hao,hg,us,hpc,hrd⟩:=(HK.out wr hw.out).get (i:=i) (by rw [← HN.out]; exact hlt)
   have HST:=mkHid (hv.out.trans (fndG_drop K ks i q hqi))
   obtain ⟨xa,xn,xc,rfl,-⟩:=hpc.form
   have HCL:=mkHid (fun W (_:RowKit.Below wr.heap.size wr W)=>HSA.out q (HKS.out q (List.mem_of_getElem? hqi)) (.slice xa xn xc) rfl W)
   have hkq:(⟨q.l,q.r,q.c⟩:Ky) = kyOf q:=rfl
   rw [hkq] at HCL
   have s0:=hrd 0 _ rfl
   have s1:=hrd 1 _ rfl
   have s2:=hrd 2 _ rfl
   have s3:=hrd 3 _ rfl
   have s4:=hrd 4 _ rfl
   rw [Nat.add_zero] at s0
   have t0:=hx.out.cell 0 _ rfl
   have t1:=hx.out.cell 1 _ rfl
   have t2:=hx.out.cell 2 _ rfl
   have t3:=hx.out.cell 3 _ rfl
   have t4:=hx.out.cell 4 _ rfl
   have HAO:=mkHid hao
   clear hrd hpc hqi hv hkq
   subst hao
   generalize (kyOf q == K) = rb at *
   generalize q.k = q0 at *
   generalize strN q.l = q1 at *
   generalize strN q.r = q2 at *
   generalize q.c = q3 at *
   go_upto_region 4 with (fail)
   have r1:=regr wr (fun W hW=>HCL.out W hW)
   have a0':=cell_regrown s0
   have a1':=cell_regrown s1
   have a2':=cell_regrown s2
   have a3':=cell_regrown s3
   have a4':=cell_regrown s4
   have b0':=cell_regrown t0
   have b1':=cell_regrown t1
   have b2':=cell_regrown t2
   have b3':=cell_regrown t3
   have b4':=cell_regrown t4
   clear s0 s1 s2 s3 s4 t0 t1 t2 t3 t4
   refine wp_region_quiet_below (by kernel_rfl) (by kernel_rfl) ?_
   repeat (quiet_step (with_reducible (exact r1 _ _)))
   refine wpQuiet_nil ?_
   intro _ hw'
   obtain ⟨⟨dq,osq⟩,hw''⟩:=hw'
   subst hw''
   have BB:=below_regrown wr dq osq
   have B3:=mkHid (hw.out.trans (BB.mono hw.out.size))
   have X3:=mkHid (hx.out.step BB)
   clear r1 a0' a1' a2' a3' a4' b0' b1' b2' b3' b4' BB hw hx
   generalize grow (redrawn wr dq) osq = wy at *
   cases rb with
   | true =>
    have HX:Hid (V = (i:Int)):=mkHid (by rw [HST.out,if_pos rfl])
    go_wp2
    go_ret
    exact ⟨ret_int HX.out.symm,B3.out⟩
   | false =>
    have HX:Hid (V = fndG K (i + 1) (ks.drop (i + 1))):=mkHid (by rw [HST.out,if_neg (by simp)])
    go_wp2
    go_roundw
    case rel=>exact ⟨i + 1,by go_num,by omega,B3,X3,HX⟩
    case measure=>simp only [intOf]; omega
  ·have ii:¬ ((i:Int) < n):=by omega
   have HX:Hid (V = -1):=mkHid (by rw [hv.out,List.drop_eq_nil_of_le (by rw [← HN.out]; omega),fndG])
   go_wp2
   go_ret
   exact ⟨ret_int HX.out.symm,hw.out⟩
end Go.Proofs.YtmkdfbelbcocpaaGreatDoor
namespace Go.Proofs.YtmkdfbelbcocpaaGreatDoor
mutual
theorem form_vat:∀ p:Prd,formP p = true→∀ k∈keysP p,vatP (atomK k) = true
 | .mk k l r c ks,h=>by
  rw [formP_eq] at h
  unfold keysP
  by_cases h0:k = 0
  ·rw [if_pos h0] at h ⊢
   unfold atomB at h
   simp only [Bool.and_eq_true] at h
   have hks:ks = []:=by simpa using h.2.1
   subst hks
   intro x hx
   have hx':x = ⟨l,r,c⟩:=by simpa [keysL] using hx
   subst hx'
   unfold vatP atomK atomB
   show ((0:Int) == 0 && (([]:List Prd).length == 0 && (optN l && (optN r && (decide (-1099511627776≤c) && decide (c < 1099511627776)))))) = true
   simp [h.2.2.1,h.2.2.2.1,of_decide_eq_true h.2.2.2.2.1,of_decide_eq_true h.2.2.2.2.2]
  ·rw [if_neg h0] at h ⊢
   simp only [Bool.and_eq_true] at h
   intro x hx
   rw [List.nil_append] at hx
   have hL:formL ks = true:=by
    rw [formL_iff]
    have:=h.2.2.2
    simpa using this
   exact form_vatL ks hL x hx
theorem form_vatL:∀ ks:List Prd,formL ks = true→∀ k∈keysL ks,vatP (atomK k) = true
 | [],_,k,hk=>by rw [keysL] at hk; cases hk
 | p :: ps,h,k,hk=>by
  unfold formL at h
  rw [Bool.and_eq_true] at h
  rw [keysL,List.mem_append] at hk
  rcases hk with hk | hk
  ·exact form_vat p h.1 k hk
  ·exact form_vatL ps h.2 k hk
end
theorem vat_name {k:Ky} (h:vatP (atomK k) = true):k.l.length≤1000000∧k.r.length≤1000000:=by
 unfold vatP atomB at h
 simp only [Bool.and_eq_true] at h
 exact ⟨Nat.le_trans (optN_ok h.2.2.1).2 (by decide),Nat.le_trans (optN_ok h.2.2.2.1).2 (by decide)⟩
theorem valid_form2 {p:Prd} (h:validP p = true):formP p = true:=by
 unfold validP at h
 rw [Bool.and_eq_true] at h
 exact h.2
end Go.Proofs.YtmkdfbelbcocpaaGreatDoor
namespace Go.Proofs.YtmkdfbelbcocpaaGreatDoor
theorem fnd_idx (k:Ky):∀ (l:List Ky) (i:Nat),fndG k i (l.map atomK) = (match l.findIdx? (fun x=>x == k) with | some j=>((i + j:Nat):Int) | none=>-1)
 | [],i=>by simp [fndG]
 | x :: l,i=>by
  rw [List.map_cons,fndG,List.findIdx?_cons]
  by_cases h:(x == k) = true
  ·have h2:(kyOf (atomK x) == k) = true:=h
   rw [if_pos h2,if_pos h]
   simp
  ·have h2:¬ (kyOf (atomK x) == k) = true:=h
   rw [if_neg h2,if_neg h,fnd_idx k l (i + 1)]
   cases l.findIdx? (fun x=>x == k) with
   | none=>rfl
   | some j=>show ((i + 1 + j:Nat):Int) = ((i + (j + 1):Nat):Int); congr 1; omega
theorem fnd_P (k:Ky) (l:List Ky):fndP (l.map atomK) k = (match l.findIdx? (fun x=>x == k) with | some j=>(j:Int) | none=>-1):=by
 unfold fndP
 rw [fnd_idx]
 cases l.findIdx? (fun x=>x == k) with
 | none=>rfl
 | some j=>simp
theorem pickU_in (l:List Ky) (s:Nat) (k:Ky) (n:Nat) (h:k∈pickU l s n):k∈l:=by
 obtain ⟨j,-,-,hj⟩:=(pickU_iff l s k n).1 h
 exact List.mem_of_getElem? hj
end Go.Proofs.YtmkdfbelbcocpaaGreatDoor
namespace Go.Proofs.YtmkdfbelbcocpaaGreatDoor
def exS1:List Nat:=[113,117,101,115,116,105,111,110,32,97,100,117,108,116,32,123,32,105,100,32,46,32,97,103,101,32,62,61,32,49,56,32,125]
def exT1:List Nat:=[113,117,101,115,116,105,111,110,32,97,100,117,108,116,32,123,32,48,32,60,61,32,105,100,32,46,32,97,103,101,32,45,32,49,56,32,125]
def exS2:List Nat:=[113,117,101,115,116,105,111,110,32,97,32,123,32,120,46,121,32,105,110,32,123,32,51,32,44,32,53,32,46,46,32,55,32,125,32,125]
def exT2:List Nat:=[113,117,101,115,116,105,111,110,32,97,32,123,32,40,32,48,32,60,61,32,120,32,46,32,121,32,45,32,51,32,97,110,100,32,120,32,46,32,121,32,60,61,32,51,32,41,32,111,114,32,40,32,48,32,60,61,32,120,32,46,32,121,32,45,32,53,32,97,110,100,32,120,32,46,32,121,32,60,61,32,55,32,41,32,125]
def exS3:List Nat:=[113,117,101,115,116,105,111,110,32,97,32,123,32,110,111,116,32,40,32,120,46,121,32,60,32,51,32,97,110,100,32,120,46,122,32,61,32,49,32,41,32,125]
def exT3:List Nat:=[113,117,101,115,116,105,111,110,32,97,32,123,32,48,32,60,61,32,120,32,46,32,121,32,45,32,51,32,111,114,32,40,32,48,32,60,61,32,120,32,46,32,122,32,45,32,50,32,111,114,32,120,32,46,32,122,32,60,61,32,48,32,41,32,125]
def exS4:List Nat:=[113,117,101,115,116,105,111,110,32,97,32,123,32,120,46,121,32,60,32,125]
def exS5:List Nat:=[113,117,101,115,116,105,111,110,32,97,32,123,32,97,116,32,108,101,97,115,116,32,51,32,111,102,32,40,32,120,46,121,32,60,32,49,32,44,32,120,46,121,32,62,32,53,32,41,32,125]
def exS6:List Nat:=[120,46,97,32,60,61,32,51,32,97,110,100,32,97,116,32,108,101,97,115,116,32,50,32,111,102,32,40,32,120,46,97,32,60,61,32,49,32,44,32,120,46,98,32,60,61,32,50,32,44,32,120,46,99,32,60,61,32,53,32,41]
def exS7:List Nat:=[40,32,120,46,97,32,60,61,32,49,32,97,110,100,32,120,46,98,32,60,61,32,50,32,41,32,111,114,32,120,46,99,32,60,61,32,53]
def exP1:Prd:=.mk 0 [] [105,100,46,97,103,101] (-18) []
def exP2:Prd:=.mk 2 [] [] 0 [.mk 1 [] [] 0 [.mk 0 [] [120,46,121] (-3) [],.mk 0 [120,46,121] [] (3) []],.mk 1 [] [] 0 [.mk 0 [] [120,46,121] (-5) [],.mk 0 [120,46,121] [] (7) []]]
def exP3:Prd:=.mk 2 [] [] 0 [.mk 0 [] [120,46,121] (-3) [],.mk 2 [] [] 0 [.mk 0 [] [120,46,122] (-2) [],.mk 0 [120,46,122] [] (0) []]]
def exPA:Prd:=.mk 0 [120,46,97] [] (1) []
def exPB:Prd:=.mk 0 [120,46,98] [] (2) []
def exPC:Prd:=.mk 0 [120,46,99] [] (5) []
def exPD:Prd:=.mk 0 [120,46,97] [] (3) []
def exP6:Prd:=.mk 1 [] [] 0 [exPD,.mk 3 [] [] 2 [exPA,exPB,exPC]]
def exP7:Prd:=.mk 2 [] [] 0 [.mk 1 [] [] 0 [exPA,exPB],exPC]
def exL6:List Nat:=[113,117,101,115,116,105,111,110,32,97,32,123,32] ++ exS6 ++ [32,125]
def exL7:List Nat:=[113,117,101,115,116,105,111,110,32,97,32,123,32] ++ exS7 ++ [32,125]
theorem ex1:parseF exS1 = ([97,100,117,108,116],exP1,0,0):=by kernel_rfl
theorem ex2:parseF exS2 = ([97],exP2,0,0):=by kernel_rfl
theorem ex3:parseF exS3 = ([97],exP3,0,0):=by kernel_rfl
theorem ex4:(parseF exS4).2.2.1 = 19∧(parseF exS4).2.2.2 = 12:=⟨by kernel_rfl,by kernel_rfl⟩
theorem ex5:(parseF exS5).2.2.1 = 13∧(parseF exS5).2.2.2 = 3:=⟨by kernel_rfl,by kernel_rfl⟩
theorem ex6:(parseF exL6).2.1 = exP6:=by kernel_rfl
theorem ex7:(parseF exL7).2.1 = exP7:=by kernel_rfl
theorem pr1:prnP [97,100,117,108,116] exP1 = some exT1:=by kernel_rfl
theorem pr2:prnP [97] exP2 = some exT2:=by kernel_rfl
theorem pr3:prnP [97] exP3 = some exT3:=by kernel_rfl
def nmB (l:List Nat):Bool:=l.all (fun y=>decide (y < 256)) && decide (l.length≤1000)
mutual
def bytB:Prd→Bool
 | .mk k l r c ks=>nmB l && (nmB r && bytBL ks)
def bytBL:List Prd→Bool
 | []=>true
 | p :: ps=>bytB p && bytBL ps
end
theorem nmB_ok {l:List Nat} (h:nmB l = true):NmB l:=by
 unfold nmB at h
 rw [Bool.and_eq_true,List.all_eq_true] at h
 exact ⟨fun y hy=>of_decide_eq_true (h.1 y hy),Nat.le_trans (of_decide_eq_true h.2) (by omega)⟩
mutual
theorem bytB_ok:∀ p:Prd,bytB p = true→BytP p
 | .mk k l r c ks,h=>by
  unfold bytB at h
  rw [Bool.and_eq_true,Bool.and_eq_true] at h
  unfold BytP
  exact ⟨nmB_ok h.1,nmB_ok h.2.1,bytBL_ok ks h.2.2⟩
theorem bytBL_ok:∀ ks:List Prd,bytBL ks = true→BytL ks
 | [],_=>by unfold BytL; trivial
 | p :: ps,h=>by
  unfold bytBL at h
  rw [Bool.and_eq_true] at h
  unfold BytL
  exact ⟨bytB_ok p h.1,bytBL_ok ps h.2⟩
end
def exC6:List Chc:=[⟨1,[exPD]⟩,⟨2,[exPA,exPB,exPC]⟩]
def exC7:List Chc:=[⟨1,[exPA,exPC]⟩,⟨1,[exPB,exPC]⟩]
theorem cl_of (p:Prd) (L:List (List Ky)) (h:outU (fun set=>truthP (inSet (properP p) set) p) (properP p) (2 ^ (properP p).length) = L) (hs:L.Pairwise (fun a b=>leC a b = true)):clausesP p = L:=by
 unfold clausesP
 rw [h]
 exact List.mergeSort_of_pairwise hs
def kyA:Ky:=⟨[120,46,97],[],1⟩
def kyB':Ky:=⟨[120,46,98],[],2⟩
def kyC':Ky:=⟨[120,46,99],[],5⟩
def kyD:Ky:=⟨[120,46,97],[],3⟩
theorem cl_D:clausesP exPD = [[kyD]]:=cl_of exPD [[kyD]] (by kernel_rfl) (List.pairwise_singleton _ _)
theorem cl_7:clausesP exP7 = [[kyA,kyC'],[kyB',kyC']]:=cl_of exP7 [[kyA,kyC'],[kyB',kyC']] (by kernel_rfl) (by decide +kernel)
theorem ch_node {k:Int} {l r:List Nat} {c:Int} {ks:List Prd} (h:plainP (.mk k l r c ks) = false) (hk:k ≠ 1):choP (.mk k l r c ks) = (clausesP (.mk k l r c ks)).map clC:=by
 rw [choP,if_neg (by rw [h]; simp),if_neg hk]
theorem ch_all {l r:List Nat} {c:Int} {ks:List Prd} (h:plainP (.mk 1 l r c ks) = false):choP (.mk 1 l r c ks) = choL ks:=by
 rw [choP,if_neg (by rw [h]; simp),if_pos rfl]
theorem ch_plain {k:Int} {l r:List Nat} {c:Int} {ks:List Prd} (h:plainP (.mk k l r c ks) = true):choP (.mk k l r c ks) = [⟨c,ks⟩]:=by
 rw [choP,if_pos h]
theorem ch_D:choP exPD = [⟨1,[exPD]⟩]:=by
 have h:=ch_node (k:=0) (l:=[120,46,97]) (r:=[]) (c:=3) (ks:=[]) (by kernel_rfl) (by decide)
 exact h.trans ((congrArg (List.map clC) cl_D).trans (by kernel_rfl))
theorem ch_7:choP exP7 = exC7:=by
 have h:=ch_node (k:=2) (l:=[]) (r:=[]) (c:=0) (ks:=[.mk 1 [] [] 0 [exPA,exPB],exPC]) (by kernel_rfl) (by decide)
 exact h.trans ((congrArg (List.map clC) cl_7).trans (by kernel_rfl))
theorem ch_6:choP exP6 = exC6:=by
 have h:=ch_all (l:=[]) (r:=[]) (c:=0) (ks:=[exPD,.mk 3 [] [] 2 [exPA,exPB,exPC]]) (by kernel_rfl)
 refine h.trans ?_
 rw [choL,choL,choL,ch_D,ch_plain (by kernel_rfl)]
 rfl
theorem norm_of {p:Prd} {cs:List Chc} (hv:validP p = true) (h8:(properP p).length≤8) (hc:choP p = cs) (hl:cs.length≤100):normP p = .ok cs:=by
 unfold normP
 rw [if_neg (by rw [hv]; simp),if_neg (by omega),hc,if_neg (by omega)]
theorem nm6:normP exP6 = .ok exC6:=norm_of (by kernel_rfl) (of_decide_eq_true (by kernel_rfl)) ch_6 (by decide)
theorem nm7:normP exP7 = .ok exC7:=norm_of (by kernel_rfl) (of_decide_eq_true (by kernel_rfl)) ch_7 (by decide)
end Go.Proofs.YtmkdfbelbcocpaaGreatDoor
namespace Go.Proofs.YtmkdfbelbcocpaaGreatDoor
open Go.RowKit Go.Sort
set_option maxRecDepth 100000 in
theorem arr72 (t:Array Value) (h:t.size = 72):∃ x0 x1 x2 x3 x4 x5 x6 x7 x8 x9 x10 x11 x12 x13 x14 x15 x16 x17 x18 x19 x20 x21 x22 x23 x24 x25 x26 x27 x28 x29 x30 x31 x32 x33 x34 x35 x36 x37 x38 x39 x40 x41 x42 x43 x44 x45 x46 x47 x48 x49 x50 x51 x52 x53 x54 x55 x56 x57 x58 x59 x60 x61 x62 x63 x64 x65 x66 x67 x68 x69 x70 x71,t = #[x0,x1,x2,x3,x4,x5,x6,x7,x8,x9,x10,x11,x12,x13,x14,x15,x16,x17,x18,x19,x20,x21,x22,x23,x24,x25,x26,x27,x28,x29,x30,x31,x32,x33,x34,x35,x36,x37,x38,x39,x40,x41,x42,x43,x44,x45,x46,x47,x48,x49,x50,x51,x52,x53,x54,x55,x56,x57,x58,x59,x60,x61,x62,x63,x64,x65,x66,x67,x68,x69,x70,x71]:=by
 obtain ⟨l⟩:=t
 have hl:l.length = 72:=h
 have e:l = (List.range 72).map (fun i=>l.getD i undef):=by
  apply List.ext_getElem
  ·simp [hl]
  ·intro i h1 h2
   simp [List.getD,h1]
 exact ⟨l.getD 0 undef,l.getD 1 undef,l.getD 2 undef,l.getD 3 undef,l.getD 4 undef,l.getD 5 undef,l.getD 6 undef,l.getD 7 undef,l.getD 8 undef,l.getD 9 undef,l.getD 10 undef,l.getD 11 undef,l.getD 12 undef,l.getD 13 undef,l.getD 14 undef,l.getD 15 undef,l.getD 16 undef,l.getD 17 undef,l.getD 18 undef,l.getD 19 undef,l.getD 20 undef,l.getD 21 undef,l.getD 22 undef,l.getD 23 undef,l.getD 24 undef,l.getD 25 undef,l.getD 26 undef,l.getD 27 undef,l.getD 28 undef,l.getD 29 undef,l.getD 30 undef,l.getD 31 undef,l.getD 32 undef,l.getD 33 undef,l.getD 34 undef,l.getD 35 undef,l.getD 36 undef,l.getD 37 undef,l.getD 38 undef,l.getD 39 undef,l.getD 40 undef,l.getD 41 undef,l.getD 42 undef,l.getD 43 undef,l.getD 44 undef,l.getD 45 undef,l.getD 46 undef,l.getD 47 undef,l.getD 48 undef,l.getD 49 undef,l.getD 50 undef,l.getD 51 undef,l.getD 52 undef,l.getD 53 undef,l.getD 54 undef,l.getD 55 undef,l.getD 56 undef,l.getD 57 undef,l.getD 58 undef,l.getD 59 undef,l.getD 60 undef,l.getD 61 undef,l.getD 62 undef,l.getD 63 undef,l.getD 64 undef,l.getD 65 undef,l.getD 66 undef,l.getD 67 undef,l.getD 68 undef,l.getD 69 undef,l.getD 70 undef,l.getD 71 undef,congrArg List.toArray e⟩
def atV (s:ByteArray) (c:Int):Value:=.agg #[.int .i64 0,.string s,.string ⟨#[]⟩,.int .i64 c,.slice none 0 0]
def sxa:ByteArray:=⟨#[120,46,97]⟩
def sxb:ByteArray:=⟨#[120,46,98]⟩
def sxc:ByteArray:=⟨#[120,46,99]⟩
def SlK (ks:List Prd) (n:Nat) (w:World) (v:Value):Prop:=∃ g,v = .slice (some ⟨g,0,none⟩) n n∧KidR w (fun x=>x < w.heap.size) ks (some ⟨g,0,none⟩)
def AgK (nd:Int) (ks:List Prd) (n:Nat) (w:World) (v:Value):Prop:=∃ g,v = .agg #[.int .i64 nd,.slice (some ⟨g,0,none⟩) n n]∧KidR w (fun x=>x < w.heap.size) ks (some ⟨g,0,none⟩)
def SlC (cs:List Chc) (w:World) (v:Value):Prop:=∃ g,v = .slice (some ⟨g,0,none⟩) 2 2∧ChsR w cs (some ⟨g,0,none⟩)
def sF (v6 v8:Value) (i:Nat) (w:World) (v:Value):Prop :=
 match i with
 | 0=>v = v6
 | 1=>v = atV sxa 3
 | 2=>SlK [exPD] 1 w v
 | 3=>AgK 1 [exPD] 1 w v
 | 4=>v = atV sxa 1
 | 5=>v = atV sxb 2
 | 6=>v = atV sxc 5
 | 7=>SlK [exPA,exPB,exPC] 3 w v
 | 8=>AgK 2 [exPA,exPB,exPC] 3 w v
 | 9=>SlC exC6 w v
 | 10=>v = .bool true
 | 11=>v = .bool true
 | 12=>v = v8
 | 13=>v = atV sxa 1
 | 14=>v = atV sxc 5
 | 15=>SlK [exPA,exPC] 2 w v
 | 16=>AgK 1 [exPA,exPC] 2 w v
 | 17=>v = atV sxb 2
 | 18=>v = atV sxc 5
 | 19=>SlK [exPB,exPC] 2 w v
 | 20=>AgK 1 [exPB,exPC] 2 w v
 | 21=>SlC exC7 w v
 | _=>v = .bool true
theorem SlK.step {ks:List Prd} {n:Nat} {w w':World} {v:Value} (h:SlK ks n w v) (hb:Below w.heap.size w w'):SlK ks n w' v:=by
 obtain ⟨g,h1,h2⟩:=h
 exact ⟨g,h1,h2.any hb⟩
theorem AgK.step {nd:Int} {ks:List Prd} {n:Nat} {w w':World} {v:Value} (h:AgK nd ks n w v) (hb:Below w.heap.size w w'):AgK nd ks n w' v:=by
 obtain ⟨g,h1,h2⟩:=h
 exact ⟨g,h1,h2.any hb⟩
theorem SlC.step {cs:List Chc} {w w':World} {v:Value} (h:SlC cs w v) (hb:Below w.heap.size w w'):SlC cs w' v:=by
 obtain ⟨g,h1,h2⟩:=h
 exact ⟨g,h1,h2.below hb⟩
theorem sF_step (v6 v8:Value):∀ (i:Nat) (w w':World) (v:Value),sF v6 v8 i w v→Below w.heap.size w w'→sF v6 v8 i w' v:=by
 intro i w w' v h hb
 unfold sF at h ⊢
 split at h <;> first | exact h | exact SlK.step h hb | exact AgK.step h hb | exact SlC.step h hb
def atL (s:ByteArray) (c:Int):List Value:=[.int .i64 0,.string s,.string ⟨#[]⟩,.int .i64 c,.slice none 0 0]
theorem atL_pred {w:World} {P:Nat→Prop} {p:Prd} {s:ByteArray} {c:Int} {l:List Nat} (hp:p = .mk 0 l [] c []) (hs:strN l = s):PredC w P p (atL s c):=by
 subst hp hs
 unfold PredC
 exact ⟨none,0,rfl,.inl rfl⟩
theorem kidR_new (w:World) (ks:List Prd) (vss:List (List Value)) (cs:Array Value) (T:TypeId) (hcs:cs = vss.flatten.toArray) (hl:vss.length = ks.length) (hp:∀ (w':World) (P:Nat→Prop) (i:Nat) (p:Prd) (vs:List Value),ks[i]? = some p→vss[i]? = some vs→PredC w' P p vs) :
  KidR (w.alloc (.cells cs T)) (fun x=>x < (w.alloc (.cells cs T)).heap.size) ks (some ⟨w.heap.size,0,none⟩):=by
 refine .inr ⟨w.heap.size,0,rfl,by simp,by simp,KidsC.of ks vss w.heap.size 0 hl (hp _ _) (fun j u hj=>?_)⟩
 have:=cells_new w cs T j
 rw [Addr.add_lit] at this
 rw [this,hcs]
 simpa using hj
theorem chsR_new (w:World) (c1 c2:Chc) (g1 g2:Nat) (T:TypeId) (h1:KidR w (fun x=>x < w.heap.size) c1.atoms (some ⟨g1,0,none⟩)) (h2:KidR w (fun x=>x < w.heap.size) c2.atoms (some ⟨g2,0,none⟩)) :
  ChsR (w.alloc (.cells #[.int .i64 c1.need,.slice (some ⟨g1,0,none⟩) c1.atoms.length c1.atoms.length,.int .i64 c2.need,.slice (some ⟨g2,0,none⟩) c2.atoms.length c2.atoms.length] T)) [c1,c2] (some ⟨w.heap.size,0,none⟩):=by
 have hA:Below w.heap.size w (w.alloc (.cells #[.int .i64 c1.need,.slice (some ⟨g1,0,none⟩) c1.atoms.length c1.atoms.length,.int .i64 c2.need,.slice (some ⟨g2,0,none⟩) c2.atoms.length c2.atoms.length] T)):=(Below.refl _ _).alloc (Nat.le_refl _) _
 have hc:=fun j=>cells_new w #[.int .i64 c1.need,.slice (some ⟨g1,0,none⟩) c1.atoms.length c1.atoms.length,.int .i64 c2.need,.slice (some ⟨g2,0,none⟩) c2.atoms.length c2.atoms.length] T j
 refine .inr ⟨w.heap.size,0,rfl,by simp,fun i c hi=>?_⟩
 match i,hi with
 | 0,hi =>
  obtain rfl:c1 = c:=by simpa using hi
  refine ⟨some ⟨g1,0,none⟩,c1.atoms.length,fun j u hj=>?_,h1.any hA⟩
  have:=hc (0 + j)
  rw [Addr.add_lit] at this
  match j,hj with
  | 0,hj=>rw [← hj]; exact this
  | 1,hj=>rw [← hj]; exact this
  | j + 2,hj=>simp at hj
 | 1,hi =>
  obtain rfl:c2 = c:=by simpa using hi
  refine ⟨some ⟨g2,0,none⟩,c2.atoms.length,fun j u hj=>?_,h2.any hA⟩
  have:=hc (2 + j)
  rw [Addr.add_lit] at this
  match j,hj with
  | 0,hj=>rw [← hj]; exact this
  | 1,hj=>rw [← hj]; exact this
  | j + 2,hj=>simp at hj
 | i + 2,hi=>simp at hi
end Go.Proofs.YtmkdfbelbcocpaaGreatDoor
