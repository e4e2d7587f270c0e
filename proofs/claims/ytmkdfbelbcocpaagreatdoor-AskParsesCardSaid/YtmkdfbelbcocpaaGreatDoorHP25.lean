import Derived.Deep.OwnRows
import Derived.Test.YtmkdfbelbcocpaaGreatDoorHP24
set_option linter.unusedVariables false
set_option linter.unusedSimpArgs false
set_option maxHeartbeats 8000000
set_option maxRecDepth 100000
namespace Go.Proofs.YtmkdfbelbcocpaaGreatDoor
section
open Go.RowKit Go.Sort
theorem info_bool:(Tryz.prog.info? 4).map (fun i=>(i.zero,i.size,i.bytes))=some (some (.bool false),1,1):=by kernel_rfl
theorem info_row:(Tryz.prog.info? 120).map (fun i=>(i.zero,i.size,i.bytes))=some (some (.slice none 0 0),1,24):=by kernel_rfl
def atomK (k:Ky):Prd:=.mk 0 k.l k.r k.c []
def clC (c:List Ky):Chc:=⟨1,c.map atomK⟩
def atomV (k:Ky):List Value:=atomC k.l k.r k.c
theorem RowM.lower {α:Type} {EL:World→(Nat→Prop)→α→List Value→Prop} (hE:Keeps EL) {k base base' lo lo':Nat} {wr:World} {bad:Nat→Prop} {ao:Option Addr} {n cp:Nat} {xs:List α} {vss:List (List Value)} (h:RowM EL k base wr lo bad ao n cp xs vss) (hb:base'≤base) (hl:lo'≤lo):RowM EL k base' wr lo' bad ao n cp xs vss :=
 ⟨h.own.lower hl,h.len,h.cnt,h.elk,fun i x vs hx hv=>hE wr wr _ _ x vs (fun _ _ _=>rfl) (Nat.le_refl _) (fun g hg _=>⟨Nat.le_trans hb hg.1,hg.2⟩) (h.each i x vs hx hv)⟩
theorem pickU_mem (l:List Ky) (s:Nat):∀ j,∀ k∈pickU l s j,k∈l
 | 0,k,h=>by simp[pickU] at h
 | j+1,k,h=>by
  rw[pickU] at h
  rcases List.mem_append.1 h with h | h
  ·exact pickU_mem l s j k h
  ·cases hj:l[j]? with
   | none=>simp[hj] at h
   | some x =>
    simp only[hj] at h
    split at h
    ·rw[List.mem_singleton] at h
     subst h
     exact List.mem_of_getElem? hj
    ·simp at h
theorem outU_mem (t:Nat→Bool) (l:List Ky):∀ s,∀ c∈outU t l s,∃ s',c=pickU l s' l.length
 | 0,c,h=>by simp[outU] at h
 | s+1,c,h=>by
  rw[outU] at h
  rcases List.mem_append.1 h with h | h
  ·exact outU_mem t l s c h
  ·split at h
   ·rw[List.mem_singleton] at h;exact⟨s,h⟩
   ·simp at h
theorem info_chc:(Tryz.prog.info? 47).map (fun i=>(i.zero,i.size,i.bytes))=some (some (.agg #[.int .i64 0,.slice none 0 0]),2,32):=by kernel_rfl
theorem kids_of_keys (w:World) (P:Nat→Prop) (c:List Ky) (g off:Nat) (h:Reads w g off (c.flatMap atomV)):KidsC w P (c.map atomK) g off:=by
 refine KidsC.of _ (c.map atomV) g off (by simp) (fun i q vs hq hv=>?_) (by rwa [List.flatMap_def] at h)
 rw[List.getElem?_map] at hq hv
 obtain⟨k,hk,rfl⟩:=Option.map_eq_some_iff.1 hq
 rw[hk] at hv
 obtain rfl:=Option.some.inj hv
 exact atomC_pred w P k.l k.r k.c
theorem OwnK.readsAt {w:World} {B k n cap:Nat} {xs:List Value} {ao:Option Addr} (h:OwnK w B k n cap xs ao) (hn:0<n):∃ g off,ao=some ⟨g,off,none⟩∧B≤g∧g<w.heap.size∧Reads w g off xs:=by
 cases h with
 | nil h1 h2 h3=>omega
 | «at» g off h1 h2 h3 h4=>exact⟨g,off,rfl,h1.own,h1.lt,h1.cells⟩
def bvs (bs:List Bool):List Value:=bs.map Value.bool
theorem proper_ok {p:Prd} (hf:formP p=true):AscK (properP p)∧∀ k∈properP p,KyB k:=by
 refine⟨(atomsP_asc p).filter _,fun k hk=>?_⟩
 unfold properP at hk
 have hk:=(List.mem_filter.1 hk).1
 exact (form_keys p hf k ((atomsP_mem p k).1 hk)).bytes
theorem bvs_set (bs:List Bool) (i:Nat) (v:Bool):bvs (bs.set i v)=(bvs bs).set i (.bool v):=by unfold bvs;rw[List.map_set]
theorem made_bools (N:Nat):(madeCells #[Value.bool false] N)=(bvs (List.replicate N false)).toArray:=by
 apply Array.ext
 ·simp[madeCells,bvs]
 ·intro i h1 h2
  simp[madeCells,bvs,Nat.mod_one]
theorem shl_all:∀ j:Fin 9,wrap64 (2^(j:Nat))=((2^(j:Nat):Nat):Int):=by decide +kernel
theorem shl_at {j:Nat} (hj:j≤8):wrap64 ((2:Int)^j)=((2^j:Nat):Int):=shl_all ⟨j,by omega⟩
theorem pickU_len (l:List Ky) (s:Nat):∀ j,(pickU l s j).length≤j
 | 0=>Nat.le_refl _
 | j+1=>by
  have:=pickU_len l s j
  rw[pickU,List.length_append]
  split
  ·split<;>simp<;>omega
  ·simp;omega
theorem all_sets:∀ m:Fin 9,∃ A:Fin 256,wrap64 (wrap64 (2^(m:Nat))-1)=((A:Nat):Int)∧(A:Nat)+1=2^(m:Nat):=by decide +kernel
theorem all_at {m:Nat} (hm:m≤8):∃ A:Nat,wrap64 (wrap64 (2^m)-1)=(A:Int)∧A+1=2^m∧A<256:=by
 obtain⟨A,h1,h2⟩:=all_sets ⟨m,by omega⟩
 exact⟨A,h1,h2,A.2⟩
theorem clau_any (w:World) (P:Nat→Prop) (p:Prd) (vs:List Value) (h:PredC w P p vs) (hf:formP p=true) (hc:cntP p≤1000000) (h8:(properP p).length≤8) :
  Calls Tryz.prog 164 #[.agg vs.toArray] w fun e w'=>∃ (ao:Option Addr) (cp:Nat) (vss:List (List Value)),e = .returned (.slice ao ((clausesP p).map clC).length cp)∧RowM ChE 2 w.heap.size w' w.heap.size (fun _=>False) ao ((clausesP p).map clC).length cp ((clausesP p).map clC) vss∧Below w.heap.size w w':=by
 obtain⟨a,n,c,rfl,-⟩:=h.form
 have h2:=h.mono (P':=fun g=>g<w.heap.size) (fun g _ hl=>hl)
 have b1:=(Below.refl w.heap.size w).alloc (Nat.le_refl _) (.cells #[.int .i64 p.k,.string (strN p.l),.string (strN p.r),.int .i64 p.c,.slice a n c] 25)
 have HPR:=ħ (fun (w':World) hp=>proper_any w' (fun g=>g<w.heap.size) p [.int .i64 p.k,.string (strN p.l),.string (strN p.r),.int .i64 p.c,.slice a n c] hp hf hc)
 have HTR:=ħ (fun (w':World) (C:World→Prop) (g:Nat) (cb:Array Value) (f:Ky→Bool) (S:Ky→Prop) h1 h2 h3 h4=>truth_any (cntP p) p w' (fun g=>g<w.heap.size) [.int .i64 p.k,.string (strN p.l),.string (strN p.r),.int .i64 p.c,.slice a n c] C g cb f S (Nat.le_refl _) hc h1 h2 h3 h4)
 have PX:=ħ (h2.below b1)
 have X0:Hid (HasV (w.alloc (.cells #[.int .i64 p.k,.string (strN p.l),.string (strN p.r),.int .i64 p.c,.slice a n c] 25)) w.heap.size 25 [.int .i64 p.k,.string (strN p.l),.string (strN p.r),.int .i64 p.c,.slice a n c]):=ħ (heap_alloc_new _ _)
 have BX:=ħ b1
 have HOKP:=ħ (proper_ok hf)
 have H8:=ħ h8
 have HFK:=ħ (form_keys p hf)
 clear h h2 b1 hf hc h8
 generalize p.k=q0 at *
 generalize strN p.l=q1 at *
 generalize strN p.r=q2 at *
 generalize p.c=q3 at *
 go_enter Tryz.func164,Tryz.ntmps164
 go_wp2_with (refine wpList_load_row rfl 25 (.tmp 1) rfl w.heap.size ?x1 25 (rawC q0 q1 q2 q3 a n c).toArray (0,0) _ X0.o Tryz.underlying25 rfl (inf_pred _ rfl) ?_;(case x1=>rfl))
 generalize w.alloc (.cells #[.int .i64 q0,.string q1,.string q2,.int .i64 q3,.slice a n c] 25)=w1 at *
 refine (HPR.o w1 PX.o).mono ?_
 rintro e w2 ⟨al,cl,rfl,ho,hb⟩
 have X2:=ħ (X0.o.step hb)
 have P2:=ħ (PX.o.below hb)
 have B2:=ħ (BX.o.trans (hb.mono BX.o.size))
 have O2:=ħ (ho.lower (B':=w.heap.size) BX.o.size)
 clear ho hb X0 PX BX HPR
 obtain⟨l,hl⟩:∃ l,properP p=l:=⟨_,rfl⟩
 rw[hl] at O2 HOKP H8 ⊢
 have HL:=ħ hl
 clear hl
 have bx:=(Below.refl w2.heap.size w2).alloc (Nat.le_refl _) (.cells #[.slice al l.length cl] 120)
 have L3:Hid (HasV (w2.alloc (.cells #[.slice al l.length cl] 120)) w2.heap.size 120 [.slice al l.length cl]):=ħ (heap_alloc_new _ _)
 have X3:=ħ (X2.o.step bx)
 have P3:=ħ (P2.o.below bx)
 have B3:=ħ (B2.o.trans (bx.mono B2.o.size))
 have K3:=ħ ((O2.o.keysR rfl).below bx)
 have LA:Hid (w.heap.size<w2.heap.size):=ħ X2.o.lt
 have SZ3:Hid ((w2.alloc (.cells #[.slice al l.length cl] 120)).heap.size=w2.heap.size+1):=ħ (by simp)
 have l0:=L3.o.cell 0 _ rfl
 clear bx X2 P2 B2
 obtain⟨m,hm⟩:∃ m,l.length=m:=⟨_,rfl⟩
 rw[hm] at O2 L3 X3 P3 B3 K3 SZ3 l0 H8
 have HM:=ħ hm
 rw[hm]
 clear hm
 have m8:m≤8:=H8.o
 have mz:2^m≤256:=Nat.le_trans (Nat.pow_le_pow_right (by omega) m8) (by decide)
 have mp:0<2^m:=Nat.pow_pos (by omega)
 go_upto_region 3 with (fail)
 obtain⟨A,hA,hAN,hA2⟩:=all_at m8
 rw[hA]
 clear hA
 obtain⟨N,hN⟩:∃ N,A+1=N:=⟨_,rfl⟩
 have HAN:=ħ hN
 have HNM:Hid (N=2^m):=ħ (by omega)
 have eA:IntKind.i64.wrap ((A:Int)+1)=(N:Int):=by rw[IntWalk.i64_in _ (by omega)];omega
 have hN2:N≤256:=by omega
 have hmk:=run_make_row' (P:=Tryz.prog) 70 4 (.bool false) 1 Tryz.underlying70 info_bool rfl .i64 .i64 N (by omega) (by omega)
 clear hAN hN mz mp
 rw[made_bools] at hmk
 have bx:=(Below.refl (w2.alloc (.cells #[.slice al m cl] 120)).heap.size (w2.alloc (.cells #[.slice al m cl] 120))).alloc (Nat.le_refl _) (.cells (bvs (List.replicate N false)).toArray 4)
 have L4:=ħ (L3.o.step bx)
 have X4:=ħ (X3.o.step bx)
 have P4:=ħ (P3.o.below bx)
 have B4:=ħ (B3.o.trans (bx.mono B3.o.size))
 have K4:=ħ (K3.o.below bx)
 have O4:=ħ ((O2.o.below ((Below.refl w2.heap.size w2).alloc (Nat.le_refl _) (.cells #[.slice al m cl] 120))).below bx)
 have T4:Hid (HasV ((w2.alloc (.cells #[.slice al m cl] 120)).alloc (.cells (bvs (List.replicate N false)).toArray 4)) (w2.heap.size+1) 4 (bvs (List.replicate N false))):=ħ (heap_alloc2_new _ _ _)
 have SZ4:Hid (((w2.alloc (.cells #[.slice al m cl] 120)).alloc (.cells (bvs (List.replicate N false)).toArray 4)).heap.size=w2.heap.size+2):=ħ (by simp)
 have OB2:=ħ (fun g (hg:blk al=some g)=>(O2.o.blk_lt hg).2)
 clear bx L3 X3 P3 B3 K3 SZ3 l0 O2
 go_wp2_with fail
 generalize (w2.alloc (.cells #[.slice al m cl] 120)).alloc (.cells (bvs (List.replicate N false)).toArray 4)=w4 at *
 clear hmk eA
 have TF:Hid (∀ set,inSet l set=inSet l set):=ħ (fun _=>rfl)
 go_loopw [31] (fun cc wr=>∃ (s:Nat) (bs:List Bool),cc = .int .i64 s∧s≤N∧Hid (bs.length=N)∧Hid (∀ j,j<s→bs[j]?=some (truthP (inSet l j) p))∧Hid (HasV wr (w2.heap.size+1) 4 (bvs bs))∧Hid (Only w4 wr (· = w2.heap.size+1))) (fun c _=>(N-intOf c).toNat)
 case atStart=>exact⟨0,List.replicate N false,rfl,by omega,ħ (by simp),ħ (fun j hj=>absurd hj (Nat.not_lt_zero j)),T4,ħ (Only.refl _ _)⟩
 case round =>
  clear T4
  obtain⟨s,bs,rfl,hs,hbl,hbt,ht,hon⟩:=hrel
  have e2:IntKind.i64.wrap ((s:Int)+1)=((s+1:Nat):Int):=IntWalk.i64_in _ (by omega)
  by_cases hlt:s<N
  ·have ss:(s:Int)<N:=by omega
   have bx:=(Below.refl wr.heap.size wr).alloc (Nat.le_refl _) (.cells #[.int .i64 (s:Int)] 3)
   have HX:Hid (HasV (wr.alloc (.cells #[.int .i64 (s:Int)] 3)) wr.heap.size 3 [.int .i64 (s:Int)]):=ħ (heap_alloc_new _ _)
   have hTne:∀ g,g<w4.heap.size→g≠w2.heap.size+1→(wr.alloc (.cells #[.int .i64 (s:Int)] 3)).heap[g]?=w4.heap[g]?:=fun g hg hne=>(bx.block g (Nat.lt_of_lt_of_le hg hon.o.size)).trans (hon.o.block g hg hne)
   have HP:=ħ (X4.o.only (hon.o.step bx) (fun e=>by have:=LA.o;omega))
   have HLB:=ħ (L4.o.only (hon.o.step bx) (fun e=>by omega))
   have HT1:=ħ (ht.o.step bx)
   have HON:=ħ (hon.o.step bx)
   have HKR:Hid (KeysR (wr.alloc (.cells #[.int .i64 (s:Int)] 3)) al l):=ħ (by
    cases O4.o.keysR HM.o.symm with
    | inl h=>exact .inl h
    | inr h =>
     obtain⟨g,off,h1,h2,h3⟩:=h
     have hg:=OB2.o g (by rw[h1];rfl)
     exact .inr ⟨g,off,h1,Nat.lt_of_lt_of_le h2 HON.o.size,h3.of_block (hTne g h2 (by omega))⟩)
   have HPC:=ħ (PredC.keep (P':=fun g=>g<w.heap.size) (fun g hg hl=>hTne g hl (by have:=LA.o;omega)) HON.o.size (fun g hg _=>hg) _ _ P4.o)
   clear bx hTne
   go_upto_region 7 with (fail)
   have XLT:Hid (wr.heap.size<(wr.alloc (.cells #[.int .i64 (s:Int)] 3)).heap.size):=ħ HX.o.lt
   have XGE:Hid (w4.heap.size≤wr.heap.size):=ħ hon.o.size
   generalize wr.alloc (.cells #[.int .i64 (s:Int)] 3)=wx at *
   refine wp_region_pickS [0,1,2] [3,4,5,6] (fun w'=>HasV w' w.heap.size 25 [.int .i64 q0,.string q1,.string q2,.int .i64 q3,.slice a n c]∧HasV w' wr.heap.size 3 [.int .i64 (s:Int)]) (by kernel_rfl) (by kernel_rfl) (by kernel_rfl) (fun _ _ d _ _ h=>by cases d<;>exact h) ⟨HP.o,HX.o⟩ ?_
   simp only[pickI,List.filterMap_cons,List.filterMap_nil,List.getElem?_cons_zero,List.getElem?_cons_succ,Option.map_some,List.map_cons,List.map_nil]
   apply Exists.intro
   refine⟨?hh,?ht⟩
   case hh =>
    intro w' hw'
    have c0:=hw'.1.cell 0 _ rfl
    have c1:=hw'.1.cell 1 _ rfl
    have c2:=hw'.1.cell 2 _ rfl
    have c3:=hw'.1.cell 3 _ rfl
    have c4:=hw'.1.cell 4 _ rfl
    have d0:=hw'.2.cell 0 _ rfl
    clear hw'
    repeat still_step
    exact wpStill_nil rfl
   case ht =>
    have BD:=(Below.refl wx.heap.size wx).drew
    have HP2:=ħ (HP.o.step BD)
    have HX2:=ħ (HX.o.step BD)
    have HT2:=ħ (HT1.o.step BD)
    have HON2:=ħ (HON.o.step BD)
    have HSB:Hid (SetB w2.heap.size wr.heap.size al cl l s wx.drew):=ħ ⟨by rw[HM.o];exact HLB.o.step BD,HX2.o,HKR.o.below BD⟩
    have HPC2:=ħ (HPC.o.below BD)
    clear BD HP HX HT1 HON HLB HKR HPC
    generalize wx.drew=wd at *
    refine wpTailS_cons ?_
    go_wp2_with fail
    refine postOf_normal ⟨⟨HP2.o,HX2.o⟩,?_⟩
    refine wpTailS_cons ?_
    have HIF:Hid (IsF (SetB w2.heap.size wr.heap.size al cl l s) 225 #[.pointer (some ⟨w2.heap.size,0,none⟩),.pointer (some ⟨wr.heap.size,0,none⟩)] (inSet l s) KyB):=ħ
     ⟨enters_of Tryz.func225 (by kernel_rfl) rfl,fun w w' h hb=>h.step hb,fun k w hk hC=>clau1_any w2.heap.size wr.heap.size cl s al l k w hC HOKP.o.2 hk HOKP.o.1 (by rw[HM.o];exact m8) (by omega)⟩
    go_wp2_with fail
    refine (HTR.o wd (SetB w2.heap.size wr.heap.size al cl l s) 225 _ (inSet l s) KyB HIF.o (fun k hk=>(HFK.o k hk).bytes) HPC2.o HSB.o).mono ?_
    rintro e w5 ⟨rfl,b5⟩
    have HP5:=ħ (HP2.o.step b5)
    have HX5:=ħ (HX2.o.step b5)
    have HT5:=ħ (HT2.o.step b5)
    have HON5:=ħ (HON2.o.step b5)
    clear b5 HIF
    go_wp2_with fail
    refine postOf_normal ⟨⟨HP5.o,HX5.o⟩,?_⟩
    refine wpTailS_cons ?_
    obtain⟨v,hv⟩:∃ v,truthP (inSet l s) p=v:=⟨_,rfl⟩
    rw[hv]
    have HV:=ħ hv
    clear hv
    have tc:∃ u,w5.cell? ⟨w2.heap.size+1,s,none⟩=some u:=by
     have hsl:s<(bvs bs).length:=by unfold bvs;rw[List.length_map,hbl.o];exact hlt
     exact⟨_,HT5.o.cell s _ (List.getElem?_eq_getElem hsl)⟩
    obtain⟨u,tu⟩:=tc
    have tf:=HT5.o.warm s
    go_wp2_with fail
    refine postOf_normal ⟨⟨HP5.o,HX5.o⟩,?_⟩
    refine wpTailS_cons ?_
    have HS6:=ħ (HT5.o.set s (.bool v))
    have HN6:=ħ (HON5.o.trans ((Only.refl w5 (· = w2.heap.size+1)).setCell (a:=⟨w2.heap.size+1,s,none⟩) (.bool v) rfl))
    have HP6:=ħ (HP5.o.only ((Only.refl w5 (· = w2.heap.size+1)).setCell (a:=⟨w2.heap.size+1,s,none⟩) (.bool v) rfl) (fun e=>by have:=LA.o;omega))
    have HX6:=ħ (HX5.o.only ((Only.refl w5 (· = w2.heap.size+1)).setCell (a:=⟨w2.heap.size+1,s,none⟩) (.bool v) rfl) (fun e=>by have:=XGE.o;have:=SZ4.o;omega))
    go_wp2_with fail
    refine postOf_normal ⟨⟨HP6.o,HX6.o⟩,?_⟩
    unfold wpTailS
    go_wp2
    go_roundw
    case rel=>exact⟨s+1,bs.set s v,by go_num,by omega,ħ (by rw[List.length_set];exact hbl.o),ħ (fun j hj=>by
     rcases Nat.lt_or_ge j s with h | h
     ·rw[List.getElem?_set_ne (by omega)];exact hbt.o j h
     ·obtain rfl:j=s:=by omega
      rw[List.getElem?_set_self (by rw[hbl.o];exact hlt),HV.o]),ħ (by have:=HS6.o;rwa [bvs_set]),HN6⟩
    case measure=>simp only[intOf];omega
  ·have ss:¬ ((s:Int)<N):=by omega
   have HP5:=ħ (X4.o.only hon.o (fun e=>by have:=LA.o;omega))
   have HLB:=ħ (L4.o.only hon.o (fun e=>by omega))
   have HKR:Hid (KeysR wr al l):=ħ (by
    cases O4.o.keysR HM.o.symm with
    | inl h=>exact .inl h
    | inr h =>
     obtain⟨g,off,h1,h2,h3⟩:=h
     have hg:=OB2.o g (by rw[h1];rfl)
     exact .inr ⟨g,off,h1,Nat.lt_of_lt_of_le h2 hon.o.size,h3.of_block (hon.o.block g h2 (by omega))⟩)
   have HB5:Hid (Below w.heap.size w wr):=ħ (Only.later B4.o hon.o (fun g hg=>by have:=LA.o;omega))
   have HTB:Hid (∀ j,j<N→bs[j]?=some (truthP (inSet l j) p)):=ħ (fun j hj=>hbt.o j (by omega))
   have HT5:=ħ ht.o
   have HLT5:Hid (w2.heap.size+2≤wr.heap.size):=ħ (by rw[← SZ4.o];exact hon.o.size)
   clear hbt ht hon X4 P4 B4 K4 L4 O4 hs e2
   generalize wr=w5 at *
   go_wp2_with fail
   obtain⟨tt,htt⟩:∃ tt:Nat→Bool,(fun set=>truthP (inSet l set) p)=tt:=⟨_,rfl⟩
   have HTT:=ħ htt
   have HTB2:Hid (∀ j,j<N→bs[j]?=some (tt j)):=ħ (fun j hj=>by rw[← HTT.o];exact HTB.o j hj)
   clear htt HTB
   go_loopw [43,7] (fun cc ov wr=>∃ (s:Nat) (outs:List (List Ky)) (ao:Option Addr) (n cp:Nat) (vss:List (List Value)),cc = .int .i64 s∧ov = .slice ao n cp∧s≤N∧n≤s∧Hid (outs=outU tt l s)∧Hid (RowM ClE 1 w5.heap.size wr w5.heap.size (fun _=>False) ao n cp outs vss)∧Hid (Below w5.heap.size w5 wr)) (fun c _ _=>(N-intOf c).toNat)
   case atStart=>exact⟨0,[],none,0,0,[],rfl,rfl,by omega,by omega,ħ rfl,ħ (RowM.nil _ _ _),ħ (Below.refl _ _)⟩
   case round =>
    obtain⟨s,outs,ao,no,cp,vss,rfl,rfl,hs,hno,hou,hrm,hw⟩:=hrel
    have e2:IntKind.i64.wrap ((s:Int)+1)=((s+1:Nat):Int):=IntWalk.i64_in _ (by omega)
    by_cases hlt:s<N
    ·have ss:(s:Int)<N:=by omega
     obtain⟨oth,hoth⟩:∃ oth,A-s=oth:=⟨_,rfl⟩
     have HOTH:Hid (2^m-1-s=oth∧oth<N∧s<2^m):=ħ (by have:=HNM.o;have:=HAN.o;omega)
     have eN:bits .andNot .i64 (A:Int) (s:Int)=(oth:Int):=by
      have:=not_at m8 HOTH.o.2.2
      rw[HOTH.o.1,show 2^m-1=A by have:=HNM.o;have:=HAN.o;omega] at this
      exact this
     clear hoth
     obtain⟨b,hb⟩:∃ b,tt oth=b:=⟨_,rfl⟩
     have HB:=ħ hb
     have tc:wr.cell? ⟨w2.heap.size+1,oth,none⟩=some (.bool b):=(HT5.o.step hw.o).cell oth _ (by
      unfold bvs
      rw[List.getElem?_map,HTB2.o oth HOTH.o.2.1,hb];rfl)
     have ot:(oth:Int)<N:=by have:=HOTH.o.2.1;omega
     clear hb
     have HOU:Hid (outU tt l (s+1)=outU tt l s++(if (!b&&primeU tt s oth m)=true then [pickU l s m] else [])):=ħ (by
      rw[outU,HM.o,HOTH.o.1,HB.o])
     have HAOL:=ħ (fun g (hg:blk ao=some g)=>(hrm.o.own.blk_lt hg).2)
     cases b with
     | true =>
      have HOU2:Hid (outs=outU tt l (s+1)):=ħ (by rw[HOU.o,hou.o];simp)
      go_wp2_with fail
      go_roundw
      case rel=>exact⟨s+1,outs,ao,no,cp,vss,by go_num,rfl,by omega,by omega,HOU2,hrm,hw⟩
      case measure=>simp only[intOf];omega
     | false =>
      simp only[Bool.not_false,Bool.true_and] at HOU
      have l0:=(HLB.o.step hw.o).cell 0 _ rfl
      go_wp2_with fail
      clear tc l0
      generalize wr=wo at *
      go_loopw [55,10,11] (fun jv cv pv wq=>∃ (j:Nat) (ac:Option Addr) (cc:Nat),jv = .int .i64 j∧cv = .slice ac (pickU l s j).length cc∧pv = .bool (primeU tt s oth j)∧j≤m∧Hid (OwnK wq wo.heap.size 3 (pickU l s j).length cc ((pickU l s j).flatMap kyC) ac)∧Hid (Below wo.heap.size wo wq)) (fun j _ _ _=>(m-intOf j).toNat)
      case atStart=>exact⟨0,none,0,rfl,rfl,rfl,by omega,ħ (.nil rfl rfl rfl),ħ (Below.refl _ _)⟩
      case round =>
       obtain⟨j,ac,cc,rfl,rfl,rfl,hj,hown,hq⟩:=hrel
       have e3:IntKind.i64.wrap ((j:Int)+1)=((j+1:Nat):Int):=IntWalk.i64_in _ (by omega)
       by_cases hjl:j<m
       ·have jj:(j:Int)<m:=by omega
        have HK:Hid (∃ k,l[j]?=some k):=ħ (by have:j<l.length:=(by rw[HM.o];exact hjl);exact⟨l[j],List.getElem?_eq_getElem this⟩)
        obtain⟨k,hk⟩:=HK.o
        have HKI:=ħ hk
        obtain⟨g,off,hao,hg,k0,k1,k2⟩:=((HKR.o.below hw.o).below hq.o).at j k hk
        have HAO:=ħ hao
        subst hao
        have bx:=(Below.refl wr.heap.size wr).alloc (Nat.le_refl _) (.cells (kyC k).toArray 123)
        have HO1:=ħ (hown.o.below bx)
        have HQ1:=ħ (hq.o.trans (bx.mono hq.o.size))
        have HX1:Hid (HasV (wr.alloc (.cells (kyC k).toArray 123)) wr.heap.size 123 (kyC k)):=ħ (heap_alloc_new _ _)
        have HPU:Hid (pickU l s (j+1)=pickU l s j++(if s.testBit j=true then [k] else [])∧primeU tt s oth (j+1)=(primeU tt s oth j&&(!s.testBit j||tt (oth+2^j)))):=ħ ⟨by rw[pickU,hk],by rw[primeU]⟩
        have HKC:Hid (kyC k=[.string (strN k.l),.string (strN k.r),.int .i64 k.c]):=ħ rfl
        have HBT:=bit_at (s:=s) (i:=j) (by have:=HOTH.o.2.1;omega) (by omega)
        obtain⟨tb,htb⟩:∃ tb,s.testBit j=tb:=⟨_,rfl⟩
        have HTBJ:=ħ htb
        rw[htb] at HPU HBT
        rw[HKC.o] at HO1 HQ1 HX1
        clear hk HK bx htb hown hq
        generalize strN k.l=y1 at *
        generalize strN k.r=y2 at *
        generalize k.c=y3 at *
        cases tb with
        | false =>
         simp only[Bool.false_eq_true,if_false,List.append_nil,Bool.not_false,Bool.true_or,Bool.and_true] at HPU
         go_wp2_with fail
         go_roundw
         case rel=>exact⟨j+1,ac,cc,by go_num,by rw[HPU.o.1],by rw[HPU.o.2],by omega,ħ (by rw[HPU.o.1];exact HO1.o),HQ1⟩
         case measure=>simp only[intOf];omega
        | true =>
         obtain⟨q,hq2⟩:∃ q,2^j=q:=⟨_,rfl⟩
         obtain⟨x,hx⟩:∃ x,oth+q=x:=⟨_,rfl⟩
         have hor:=or_at (m:=m) (s:=s) (i:=j) m8 HOTH.o.2.2 (by omega) HTBJ.o
         rw[HOTH.o.1,hq2,hx] at hor
         have HXN:Hid (x<N):=ħ (by rw[HNM.o];exact hor.2)
         have eO:=hor.1
         have eS:wrap64 ((2:Int)^j)=(q:Int):=by rw[← hq2];exact shl_at (by omega)
         rw[hq2,hx] at HPU
         have xN:(x:Int)<N:=by have:=HXN.o;omega
         obtain⟨tv,htv⟩:∃ tv,tt x=tv:=⟨_,rfl⟩
         obtain⟨pv,hpv⟩:∃ pv,primeU tt s oth j=pv:=⟨_,rfl⟩
         have HTV:=ħ htv
         rw[htv,hpv] at HPU
         rw[hpv]
         clear hor hq2 hx htv hpv
         go_upto_region 21 with (fail)
         generalize wr.alloc (.cells #[.string y1,.string y2,.int .i64 y3] 123)=wx at *
         have x0:=HX1.o.cell 0 _ rfl
         have x1:=HX1.o.cell 1 _ rfl
         have x2:=HX1.o.cell 2 _ rfl
         obtain⟨np,hnp⟩:∃ np,(pickU l s j).length=np:=⟨_,rfl⟩
         have HNP:=ħ hnp
         rw[hnp] at HO1 ⊢
         clear hnp
         have HNPJ:Hid (np≤j):=ħ (by rw[← HNP.o];exact pickU_len l s j)
         have HWO:Hid (w2.heap.size+2≤wo.heap.size):=ħ (by have:=HLT5.o;have:=hw.o.size;omega)
         have HTW:=ħ ((HT5.o.step hw.o).step HQ1.o)
         cases pv with
         | true =>
          go_wp2_with (at_builtin;refine app_k 120 123 keyZ 3 40 Tryz.underlying120 info_key rfl (by omega) (by omega) wx wo.heap.size rfl (.tmp 65) (.tmp 67) rfl ac cc np ((pickU l s j).flatMap kyC) ?q1 HO1.o ?q5 1 1 #[.string y1,.string y2,.int .i64 y3] 123 ?q2 rfl (by omega) ?q3 ?q4 ?_;(case q1=>rfl);(case q5=>exact HQ1.o.size);(case q2=>rfl);(case q3=>intro u hu;rw[show (#[.string y1,.string y2,.int .i64 y3]:Array Value).toList=kyC k from HKC.o.symm] at hu;exact kyC_one k u hu);(case q4=>have:=HNPJ.o;omega);intro g5 off5 c5 wa o8 gr8 b8 or8;have O8:=ħ o8;have B8:=ħ (HQ1.o.trans b8);have tc:=((HTW.o.below b8 (by have:=HWO.o;omega)).cell x _ (by unfold bvs;rw[List.getElem?_map,HTB2.o x HXN.o,HTV.o];rfl));clear o8 gr8 b8 or8)
          go_roundw
          case rel=>exact⟨j+1,some ⟨g5,off5,none⟩,c5,by go_num,by rw[HPU.o.1,List.length_append,HNP.o];rfl,by rw[HPU.o.2];rfl,by omega,ħ (by rw[HPU.o.1,List.length_append,HNP.o,List.flatMap_append];have:=O8.o;rw[show (#[.string y1,.string y2,.int .i64 y3]:Array Value).toList=kyC k from HKC.o.symm] at this;simpa using this),B8⟩
          case measure=>simp only[intOf];omega
         | false =>
          go_wp2_with (at_builtin;refine app_k 120 123 keyZ 3 40 Tryz.underlying120 info_key rfl (by omega) (by omega) wx wo.heap.size rfl (.tmp 65) (.tmp 67) rfl ac cc np ((pickU l s j).flatMap kyC) ?r1 HO1.o ?r5 1 1 #[.string y1,.string y2,.int .i64 y3] 123 ?r2 rfl (by omega) ?r3 ?r4 ?_;(case r1=>rfl);(case r5=>exact HQ1.o.size);(case r2=>rfl);(case r3=>intro u hu;rw[show (#[.string y1,.string y2,.int .i64 y3]:Array Value).toList=kyC k from HKC.o.symm] at hu;exact kyC_one k u hu);(case r4=>have:=HNPJ.o;omega);intro g5 off5 c5 wa o8 gr8 b8 or8;have O8:=ħ o8;have B8:=ħ (HQ1.o.trans b8);clear o8 gr8 b8 or8)
          go_roundw
          case rel=>exact⟨j+1,some ⟨g5,off5,none⟩,c5,by go_num,by rw[HPU.o.1,List.length_append,HNP.o];rfl,by rw[HPU.o.2];rfl,by omega,ħ (by rw[HPU.o.1,List.length_append,HNP.o,List.flatMap_append];have:=O8.o;rw[show (#[.string y1,.string y2,.int .i64 y3]:Array Value).toList=kyC k from HKC.o.symm] at this;simpa using this),B8⟩
          case measure=>simp only[intOf];omega
       ·have jj:¬ ((j:Int)<m):=by omega
        obtain rfl:j=m:=by omega
        obtain⟨pv,hpv⟩:∃ pv,primeU tt s oth j=pv:=⟨_,rfl⟩
        rw[hpv] at HOU ⊢
        clear hpv
        obtain⟨cls,hcls⟩:∃ cls,pickU l s j=cls:=⟨_,rfl⟩
        have HCLL:=ħ (pickU_len l s j)
        rw[hcls] at HOU hown HCLL ⊢
        have HW2:=ħ (hw.o.trans (hq.o.mono hw.o.size))
        have HR2:=ħ (hrm.o.step ClE.keeps hq.o)
        clear hcls
        cases pv with
        | false =>
         have HOU2:Hid (outs=outU tt l (s+1)):=ħ (by rw[HOU.o,hou.o];simp)
         go_wp2_with fail
         go_roundw
         case rel=>exact⟨s+1,outs,ao,no,cp,vss,by go_num,rfl,by omega,by omega,HOU2,HR2,HW2⟩
         case measure=>simp only[intOf];omega
        | true =>
         have HOU2:Hid (outs++[cls]=outU tt l (s+1)):=ħ (by rw[HOU.o,hou.o];simp)
         have HCE:Hid (ClE wr (fun g=>wo.heap.size≤g) cls [.slice ac cls.length cc]):=ħ ⟨ac,cc,rfl,by
          cases hown.o.keysR rfl with
          | inl h=>exact .inl h
          | inr h =>
           obtain⟨g,off,h1,h2,h3⟩:=h
           exact .inr ⟨g,off,h1,(hown.o.blk_lt (by rw[h1];rfl)).1,h2,h3⟩⟩
         go_wp2_with (at_builtin;refine app_k 241 120 (.slice none 0 0) 1 24 Tryz.underlying241 info_row rfl (by omega) (by omega) wr w5.heap.size rfl (.tmp 81) (.tmp 83) rfl ao cp no vss.flatten ?t1 HR2.o.own ?t5 1 1 #[.slice ac cls.length cc] 120 ?t2 rfl (by omega) ?t3 ?t4 ?_;(case t1=>rfl);(case t5=>exact HW2.o.size);(case t2=>rfl);(case t3=>intro u hu;simp at hu;subst hu;rfl);(case t4=>omega);intro g5 off5 c5 wa o8 gr8 b8 or8;have R8:=ħ (RowM.add ClE.keeps HR2.o HAOL.o hw.o.size (fun g hg=>hg.elim) HCE.o rfl (by simpa using o8) gr8 or8);have B8:=ħ (HW2.o.trans b8);clear o8 gr8 b8 or8)
         go_roundw
         case rel=>exact⟨s+1,outs++[cls],some ⟨g5,off5,none⟩,no+1,c5,vss++[[.slice ac cls.length cc]],by go_num,rfl,by omega,by omega,HOU2,R8,B8⟩
         case measure=>simp only[intOf];omega
    ·have ss:¬ ((s:Int)<N):=by omega
     obtain rfl:s=N:=by omega
     have HSRT:Hid (outs.mergeSort leC=clausesP p):=ħ (by
      unfold clausesP
      rw[HL.o,HTT.o,hou.o,HM.o,HNM.o])
     have HOM:Hid (∀ c∈outs,(∀ k∈c,KyB k)∧c.length≤1000):=ħ (by
      intro c hc
      rw[hou.o] at hc
      obtain⟨s',rfl⟩:=outU_mem _ _ _ c hc
      exact⟨fun k hk=>HOKP.o.2 k (pickU_mem l s' _ k hk),Nat.le_trans (pickU_len l s' _) (by rw[HM.o];omega)⟩)
     have HSC:=ħ (csort_any wr w5.heap.size w5.heap.size (fun _=>False) ao no cp outs vss hrm.o (fun c hc=>(HOM.o c hc).1) (fun c hc=>(HOM.o c hc).2) (by omega))
     go_wp2_with fail
     refine HSC.o.mono ?_
     rintro e w6 ⟨rfl,⟨vs6,hr6⟩,on6⟩
     rw[HSRT.o] at hr6
     have HR6:=ħ hr6
     have HB6:=ħ (Only.later hw.o on6 (fun g hg=>(hrm.o.own.blk_lt hg).1))
     clear hr6 on6 hrm hw HSC
     obtain⟨cps,hcps⟩:∃ cps,clausesP p=cps:=⟨_,rfl⟩
     have HCPS:=ħ hcps
     rw[hcps] at HR6
     have HCN:Hid (no=cps.length∧no≤256):=ħ ⟨HR6.o.cnt,by omega⟩
     have HLC:Hid (∀ cl∈cps,cl.length≤1000):=ħ (by
      intro cl hcl
      rw[← hcps,← HSRT.o] at hcl
      exact (HOM.o cl (List.mem_mergeSort.1 hcl)).2)
     have HBW:Hid (Below w.heap.size w w6):=ħ (HB5.o.trans (HB6.o.mono HB5.o.size))
     clear hcps HSRT HOM HTT HTB2 HT5 HKR HLB HP5 HOKP H8 HFK HL HTR hou HB5 HB6
     go_wp2_with fail
     go_loopw [90,14] (fun iv ov wr=>∃ (i:Nat) (a4:Option Addr) (c4:Nat) (v4:List (List Value)),iv = .int .i64 i∧ov = .slice a4 i c4∧i≤no∧Hid (RowM ChE 2 w6.heap.size wr w6.heap.size (fun _=>False) a4 i c4 ((cps.take i).map clC) v4)∧Hid (Below w6.heap.size w6 wr)) (fun i _ _=>(no-intOf i).toNat)
     case atStart=>exact⟨0,none,0,[],rfl,rfl,by omega,ħ (RowM.nil _ _ _),ħ (Below.refl _ _)⟩
     case round =>
      obtain⟨i,a4,c4,v4,rfl,rfl,hi,hr4,hw4⟩:=hrel
      have e4:IntKind.i64.wrap ((i:Int)+1)=((i+1:Nat):Int):=IntWalk.i64_in _ (by omega)
      by_cases hlt:i<no
      ·have ii:(i:Int)<no:=by omega
       have HC:Hid (∃ cl,cps[i]?=some cl):=ħ (by have:i<cps.length:=(by rw[← HCN.o.1];exact hlt);exact⟨cps[i],List.getElem?_eq_getElem this⟩)
       obtain⟨cl,hcl⟩:=HC.o
       have HCL:=ħ hcl
       obtain⟨g,off,vs,hao,hg,hge,hvi,hvl,hrd,hce⟩:=HR6.o.at i cl hcl
       have HAO:=ħ hao
       subst hao
       obtain⟨ac,cc,rfl,hck⟩:=hce
       have HCK:Hid (KeysR w6 ac cl):=ħ (by
        rcases hck with h | ⟨g',off',h1,_,h3,h4⟩
        ·exact .inl h
        ·exact .inr ⟨g',off',h1,h3,h4⟩)
       have r0:wr.cell? ⟨g,off+i,none⟩=some (.slice ac cl.length cc):=(hw4.o.cell (p:=⟨g,off+i,none⟩) hg).trans (by have:=hrd 0 _ rfl;rwa [Nat.mul_one,Nat.add_zero] at this)
       have HLL:=ħ (HLC.o cl (List.mem_of_getElem? hcl))
       clear hcl HC hg hge hvi hvl hrd hck
       obtain⟨nc,hnc⟩:∃ nc,cl.length=nc:=⟨_,rfl⟩
       have HNC:=ħ hnc
       rw[hnc] at r0 HLL
       have HLL2:nc≤1000:=HLL.o
       clear hnc
       have HA4:=ħ (fun g (hg:blk a4=some g)=>(hr4.o.own.blk_lt hg).2)
       generalize wr=wo at *
       have bx:=(Below.refl wo.heap.size wo).alloc (Nat.le_refl _) (.cells #[.int .i64 1,.slice none 0 0] 47)
       have HCH:Hid (HasV (wo.alloc (.cells #[.int .i64 1,.slice none 0 0] 47)) wo.heap.size 47 [.int .i64 1,.slice none 0 0]):=ħ (heap_alloc_new _ _)
       have HSX:Hid ((wo.alloc (.cells #[.int .i64 1,.slice none 0 0] 47)).heap.size=wo.heap.size+1):=ħ (by simp)
       have HBX:=ħ bx
       clear bx
       go_wp2_with fail
       generalize wo.alloc (.cells #[.int .i64 1,.slice none 0 0] 47)=wx at *
       clear r0
       go_loopw [97] (fun jv wr=>∃ (j:Nat) (a5:Option Addr) (c5:Nat),jv = .int .i64 j∧j≤nc∧Hid (HasV wr wo.heap.size 47 [.int .i64 1,.slice a5 j c5])∧Hid (OwnK wr (wo.heap.size+1) 5 j c5 ((cl.take j).flatMap atomV) a5)∧Hid (Only wx wr (· = wo.heap.size))) (fun j _=>(nc-intOf j).toNat)
       case atStart=>exact⟨0,none,0,rfl,by omega,HCH,ħ (.nil rfl rfl rfl),ħ (Only.refl _ _)⟩
       case round =>
        clear HCH
        obtain⟨j,a5,c5,rfl,hj,hch,ho5,hon⟩:=hrel
        have e5:IntKind.i64.wrap ((j:Int)+1)=((j+1:Nat):Int):=IntWalk.i64_in _ (by omega)
        by_cases hjl:j<nc
        ·have jj:(j:Int)<nc:=by omega
         have HK:Hid (∃ k,cl[j]?=some k):=ħ (by have:j<cl.length:=(by rw[HNC.o];exact hjl);exact⟨cl[j],List.getElem?_eq_getElem this⟩)
         obtain⟨k,hk⟩:=HK.o
         have HKI:=ħ hk
         have HKR:Hid (KeysR wr ac cl):=ħ (by
          rcases HCK.o with h | ⟨g',off',h1,h2,h3⟩
          ·exact .inl h
          ·have hl0:g'<wo.heap.size:=Nat.lt_of_lt_of_le h2 hw4.o.size
           exact .inr ⟨g',off',h1,by have:=hon.o.size;have:=HSX.o;omega,h3.of_block ((hon.o.block g' (by have:=HSX.o;omega) (by omega)).trans ((HBX.o.block g' hl0).trans (hw4.o.block g' h2)))⟩)
         obtain⟨gk,ok,hack,hgk,k0,k1,k2⟩:=HKR.o.at j k hk
         have HACK:=ħ hack
         subst hack
         have bx:=(Below.refl wr.heap.size wr).alloc (Nat.le_refl _) (.cells (kyC k).toArray 123)
         have HKB:Hid (HasV (wr.alloc (.cells (kyC k).toArray 123)) wr.heap.size 123 (kyC k)):=ħ (heap_alloc_new _ _)
         have HCH1:=ħ (hch.o.step bx)
         have HO1:=ħ (ho5.o.below bx)
         have HN1:=ħ (hon.o.step bx)
         have HLX:Hid (wo.heap.size<wr.heap.size):=ħ hch.o.lt
         have HA5:=ħ (fun g (hg:blk a5=some g)=>(ho5.o.blk_lt hg).2)
         have HKA:=ħ (fun w=>katom_any k.l k.r k.c w)
         have HTK:Hid ((cl.take (j+1)).flatMap atomV=(cl.take j).flatMap atomV++atomV k):=ħ (by
          rw[List.take_add_one,hk,List.flatMap_append];simp)
         have HKC:Hid (kyC k=[.string (strN k.l),.string (strN k.r),.int .i64 k.c]):=ħ rfl
         have HAV:Hid (atomV k=[.int .i64 0,.string (strN k.l),.string (strN k.r),.int .i64 k.c,.slice none 0 0]):=ħ rfl
         rw[HKC.o] at HKB HCH1 HO1 HN1
         rw[HAV.o] at HTK
         unfold keyC atomC at HKA
         clear hk HK bx hch ho5 hon hgk HKC HAV
         generalize strN k.l=y1 at *
         generalize strN k.r=y2 at *
         generalize k.c=y3 at *
         go_upto_region 36 with (fail)
         generalize wr.alloc (.cells #[.string y1,.string y2,.int .i64 y3] 123)=wk at *
         refine wp_region_pick [0,1,2] [3,4,5,6,7] (fun w'=>w'.cell? ⟨wo.heap.size,1,none⟩=some (.slice a5 j c5)∧HasV w' wr.heap.size 123 [.string y1,.string y2,.int .i64 y3]) (by kernel_rfl) (by kernel_rfl) (by kernel_rfl) (fun _ _ d _ _ h=>by cases d<;>exact h) ⟨HCH1.o.cell 1 _ rfl,HKB.o⟩ ?_
         simp only[pickI,List.filterMap_cons,List.filterMap_nil,List.getElem?_cons_zero,List.getElem?_cons_succ,Option.map_some,List.map_cons,List.map_nil]
         apply Exists.intro
         refine⟨?hh,?ht⟩
         case hh =>
          intro w' hw'
          have m1:=hw'.1
          have d0:=hw'.2.cell 0 _ rfl
          have d1:=hw'.2.cell 1 _ rfl
          have d2:=hw'.2.cell 2 _ rfl
          clear hw'
          repeat still_step
          exact wpStill_nil rfl
         case ht =>
          have BD:=(Below.refl wk.heap.size wk).drew
          have CH2:=ħ (HCH1.o.step BD)
          have KB2:=ħ (HKB.o.step BD)
          have O2:=ħ (HO1.o.below BD)
          have N2:=ħ (HN1.o.step BD)
          clear BD HCH1 HKB HO1 HN1 k0 k1 k2
          generalize wk.drew=wd at *
          refine wpTailT_cons ?_
          go_wp2_with fail
          refine (HKA.o wd).mono ?_
          rintro e w8 ⟨rfl,b8⟩
          have CH3:=ħ (CH2.o.step b8)
          have KB3:=ħ (KB2.o.step b8)
          have O3:=ħ (O2.o.below b8)
          have N3:=ħ (N2.o.step b8)
          clear b8 CH2 KB2 O2 N2
          go_wp2_with fail
          refine postOf_normal ⟨⟨CH3.o.cell 1 _ rfl,KB3.o⟩,?_⟩
          refine wpTailT_cons ?_
          have bx:=(Below.refl w8.heap.size w8).alloc (Nat.le_refl _) (.cells #[.int .i64 0,.string y1,.string y2,.int .i64 y3,.slice none 0 0] 25)
          go_wp2_with fail
          refine postOf_normal ⟨⟨(CH3.o.step bx).cell 1 _ rfl,KB3.o.step bx⟩,?_⟩
          clear bx
          refine wpTailT_cons ?_
          go_wp2_with (at_builtin;refine app_k 23 25 predZ 5 72 Tryz.underlying23 info_pred rfl (by omega) (by omega) w8 (wo.heap.size+1) rfl (.tmp 102) (.tmp 105) rfl a5 c5 j ((cl.take j).flatMap atomV) ?u1 O3.o ?u5 1 1 #[.int .i64 0,.string y1,.string y2,.int .i64 y3,.slice none 0 0] 25 ?u2 rfl (by omega) ?u3 ?u4 ?_;(case u1=>rfl);(case u5=>have:=CH3.o.lt;omega);(case u2=>rfl);(case u3=>intro u hu;simp at hu;rcases hu with rfl | rfl | rfl | rfl | rfl<;>rfl);(case u4=>omega);intro g7 off7 c7 wa o9 gr9 b9 or9;have O9:=ħ o9;have B9:=ħ b9;have GR9:=ħ gr9;clear o9 gr9 b9 or9)
          have CH4:=ħ (CH3.o.below B9.o (Nat.lt_succ_self _))
          have KB4:=ħ (KB3.o.grownBy GR9.o (fun e=>by have:=HA5.o _ e;omega))
          have N4:=ħ (N3.o.belowB (by rw[HSX.o];exact B9.o))
          refine postOf_normal ⟨⟨CH4.o.cell 1 _ rfl,KB4.o⟩,?_⟩
          refine wpTailT_cons ?_
          go_wp2_with fail
          refine postOf_normal ⟨⟨CH4.o.cell 1 _ rfl,KB4.o⟩,?_⟩
          refine wpTailT_one ?_
          have m1:=CH4.o.cell 1 _ rfl
          have f1:=CH4.o.warm 1
          go_wp2_with fail
          have hg7:wo.heap.size+1≤g7:=(O9.o.blk_lt rfl).1
          go_roundw
          case rel=>exact⟨j+1,some ⟨g7,off7,none⟩,c7,by go_num,by omega,ħ (CH4.o.set 1 _),ħ (by
           rw[HTK.o]
           exact O9.o.setCell _ (by intro e;have:g7=wo.heap.size:=Option.some.inj e;omega)),ħ (N4.o.setCell _ rfl)⟩
          case measure=>simp only[intOf];omega
        ·have jj:¬ ((j:Int)<nc):=by omega
         obtain rfl:j=nc:=by omega
         have HTC:Hid (cl.take j=cl):=ħ (by rw[← HNC.o,List.take_length])
         rw[HTC.o] at ho5
         have HW5:Hid (Below wo.heap.size wo wr):=ħ (Only.later HBX.o hon.o (fun g hg=>by omega))
         have HW6:=ħ (hw4.o.trans (HW5.o.mono hw4.o.size))
         have HR5:=ħ (hr4.o.step ChE.keeps HW5.o)
         have HCE:Hid (ChE wr (fun g=>wo.heap.size≤g) (clC cl) [.int .i64 1,.slice a5 j c5]):=ħ ⟨a5,c5,by unfold clC;rw[List.length_map,HNC.o],by
          unfold clC
          rcases Nat.eq_zero_or_pos j with h | h
          ·left
           have:cl=[]:=List.eq_nil_of_length_eq_zero (by rw[HNC.o];exact h)
           rw[this];rfl
          ·right
           obtain⟨g,off,h1,h2,h3,h4⟩:=ho5.o.readsAt h
           exact⟨g,off,h1,by omega,h3,kids_of_keys _ _ cl g off h4⟩⟩
         have HTI:Hid (((cps.take (i+1)).map clC)=(cps.take i).map clC++[clC cl]):=ħ (by rw[List.take_add_one,HCL.o,List.map_append];rfl)
         have c0:=hch.o.cell 0 _ rfl
         have c1:=hch.o.cell 1 _ rfl
         clear ho5
         go_wp2_with (at_builtin;refine app_k 41 47 (.agg #[.int .i64 0,.slice none 0 0]) 2 32 Tryz.underlying41 info_chc rfl (by omega) (by omega) wr w6.heap.size rfl (.tmp 109) (.tmp 111) rfl a4 c4 i v4.flatten ?v1 HR5.o.own ?v5 1 1 #[.int .i64 1,.slice a5 j c5] 47 ?v2 rfl (by omega) ?v3 ?v4 ?_;(case v1=>rfl);(case v5=>exact HW6.o.size);(case v2=>rfl);(case v3=>intro u hu;simp at hu;rcases hu with rfl | rfl<;>rfl);(case v4=>have:=HCN.o.2;omega);intro g7 off7 c7 wa o9 gr9 b9 or9;have R9:=ħ (RowM.add ChE.keeps HR5.o HA4.o hw4.o.size (fun g hg=>hg.elim) HCE.o rfl (by simpa using o9) gr9 or9);have B9:=ħ (HW6.o.trans b9);clear o9 gr9 b9 or9)
         go_roundw
         case rel=>exact⟨i+1,some ⟨g7,off7,none⟩,c7,v4++[[.int .i64 1,.slice a5 j c5]],by go_num,rfl,by omega,ħ (by rw[HTI.o];exact R9.o),B9⟩
         case measure=>simp only[intOf];omega
      ·have ii:¬ ((i:Int)<no):=by omega
       obtain rfl:i=no:=by omega
       have HTC:Hid (cps.take i=cps):=ħ (by rw[HCN.o.1,List.take_length])
       rw[HTC.o] at hr4
       have HFIN:=ħ (HBW.o.trans (hw4.o.mono HBW.o.size))
       have HR9:=ħ (hr4.o.lower ChE.keeps HBW.o.size HBW.o.size)
       have HNL:Hid (i=(cps.map clC).length):=ħ (by rw[List.length_map];exact HCN.o.1)
       go_wp2
       go_ret
       rw[HCPS.o,← HCN.o.1]
       exact⟨a4,c4,rfl,⟨v4,HR9.o⟩,HFIN.o⟩
end
section
open Go.RowKit Go.Sort
theorem index_dot:∀ l:List Nat,(∀ y∈l,y<256)→Lib.index (l.map UInt8.ofNat) [46]=if runN notDot l<l.length then (runN notDot l:Int) else -1
 | [],_=>rfl
 | c::l,h=>by
  have hc:=h c (List.mem_cons_self ..)
  have ih:=index_dot l (fun y hy=>h y (List.mem_cons_of_mem _ hy))
  have hp:([46]:List UInt8).isPrefixOf (UInt8.ofNat c::l.map UInt8.ofNat)=(c==46):=by
   rw[Bool.eq_iff_iff]
   simp only[List.isPrefixOf_cons_cons,List.isPrefixOf_nil_left,Bool.and_true,beq_iff_eq]
   rw[← UInt8.toNat_inj]
   simp[Nat.mod_eq_of_lt hc]
   exact eq_comm
  rw[List.map_cons,Lib.index,hp]
  by_cases h46:c=46
  ·subst h46
   have:runN notDot (46::l)=0:=by simp[runN,notDot]
   rw[this]
   simp
  ·have hn:notDot c=true:=by simp[notDot,h46]
   have:runN notDot (c::l)=runN notDot l+1:=by unfold runN;rw[List.takeWhile_cons,if_pos hn];rfl
   have h46b:(c==46)=false:=by rw[beq_eq_false_iff_ne];exact h46
   rw[this,h46b,List.length_cons]
   by_cases hl:runN notDot l<l.length
   ·rw[if_pos hl] at ih
    have e1:((runN notDot l:Int) == -1)=false:=by rw[beq_eq_false_iff_ne];omega
    rw[ih,e1,if_pos (show runN notDot l+1<l.length+1 by omega)]
    simp
   ·rw[if_neg hl] at ih
    rw[ih,if_neg (show ¬ runN notDot l+1<l.length+1 by omega)]
    simp
theorem strN_data (l:List Nat):(strN l).data.toList=l.map UInt8.ofNat:=by simp[strN]
theorem strN_of (l:List Nat):(⟨(l.map UInt8.ofNat).toArray⟩:ByteArray)=strN l:=rfl
theorem cut_dot (l:List Nat) (hb:∀ y∈l,y<256):Lib.cut (strN l).data.toList (⟨#[46]⟩:ByteArray).data.toList=(if runN notDot l<l.length then ((l.take (runN notDot l)).map UInt8.ofNat,(l.drop (runN notDot l+1)).map UInt8.ofNat,true) else (l.map UInt8.ofNat,[],false)):=by
 unfold Lib.cut
 rw[strN_data]
 show (if 0≤Lib.index (l.map UInt8.ofNat) [46] then _ else _)=_
 rw[index_dot l hb]
 by_cases h:runN notDot l<l.length
 ·rw[if_pos h,if_pos h,if_pos (by omega)]
  simp[List.map_take,List.map_drop]
 ·rw[if_neg h,if_neg h,if_neg (by omega)]
theorem vname_any (l:List Nat) (w:World) (B:Nat) (hT:Tab w B) (hl:l.length≤1000000) (hb:∀ y∈l,y<256) :
  Calls Tryz.prog 21 #[.string (strN l)] w fun e w'=>e = .returned (.bool (validN l))∧∃ n,w'=w.drewN n:=by
 obtain⟨mm,hmm⟩:=hT.maxl
 have HC:=ħ (Tryz.strings_Cut (strN l) ⟨#[46]⟩ mm w (by rw[strN_size];omega) hmm)
 rw[cut_dot l hb] at HC
 have HF:=ħ (fun (m:List Nat) (n:Nat) h1 h2=>free_any m (w.drewN n) B (hT.keep (fun _ _=>rfl) (Nat.le_refl _)) h1 h2)
 have HB:=ħ hb
 have HLL:=ħ hl
 have HV:Hid (validN l=(decide (runN notDot l<l.length)&&(freeB (l.take (runN notDot l))&&freeB (l.drop (runN notDot l+1))))):=ħ rfl
 clear hT hmm hb hl
 by_cases h:runN notDot l<l.length
 ·rw[decide_eq_true h,Bool.true_and] at HV
  rw[if_pos h] at HC
  simp only[strN_of] at HC
  have H1:=ħ (fun n=>HF.o (l.take (runN notDot l)) n (by rw[List.length_take];have:=HLL.o;omega) (fun y hy=>HB.o y (List.mem_of_mem_take hy)))
  have H2:=ħ (fun n=>HF.o (l.drop (runN notDot l+1)) n (by rw[List.length_drop];have:=HLL.o;omega) (fun y hy=>HB.o y (List.mem_of_mem_drop hy)))
  generalize freeB (l.take (runN notDot l))=b1 at *
  generalize freeB (l.drop (runN notDot l+1))=b2 at *
  generalize strN (l.take (runN notDot l))=s1 at *
  generalize strN (l.drop (runN notDot l+1))=s2 at *
  generalize validN l=V at *
  clear h HF HB HLL
  generalize strN l=s0 at *
  go_enter Tryz.func21,Tryz.ntmps21
  go_wp2_with fail
  refine HC.o.mono ?_
  rintro e w1 ⟨rfl,n,rfl⟩
  go_wp2_with fail
  refine (H1.o n).mono ?_
  rintro e w2 ⟨rfl,rfl⟩
  cases b1 with
  | true =>
   go_wp2_with fail
   refine (H2.o n).mono ?_
   rintro e w3 ⟨rfl,rfl⟩
   go_wp2
   go_ret
   exact⟨ret_bool (by rw[HV.o];rfl),n,rfl⟩
  | false =>
   go_wp2
   go_ret
   exact⟨ret_bool (by rw[HV.o];rfl),n,rfl⟩
 ·rw[decide_eq_false h,Bool.false_and] at HV
  rw[if_neg h] at HC
  generalize validN l=V at *
  generalize l.map UInt8.ofNat=lm at *
  clear h HF HB HLL
  generalize strN l=s0 at *
  go_enter Tryz.func21,Tryz.ntmps21
  go_wp2_with fail
  refine HC.o.mono ?_
  rintro e w1 ⟨rfl,n,rfl⟩
  go_wp2
  go_ret
  exact⟨ret_bool HV.o.symm,n,rfl⟩
theorem vopt_any (l:List Nat) (w:World) (B:Nat) (hT:Tab w B) (hl:l.length≤1000000) (hb:∀ y∈l,y<256) :
  Calls Tryz.prog 171 #[.string (strN l)] w fun e w'=>e = .returned (.bool (optN l))∧∃ n,w'=w.drewN n:=by
 have HN:=ħ (vname_any l w B hT hl hb)
 have HV:Hid (optN l=(l==[]||validN l)):=ħ rfl
 clear hT hl
 by_cases h0:l=[]
 ·have he:=strN_isE0
  rw[h0] at HV ⊢
  generalize optN []=V at *
  clear HN h0
  generalize strN []=s at *
  go_enter Tryz.func171,Tryz.ntmps171
  go_wp2
  go_ret
  exact⟨ret_bool (by rw[HV.o];rfl),0,rfl⟩
 ·have he:=strN_isE l (fun h=>h0 (List.eq_nil_of_length_eq_zero h))
  have hbq:(l==[])=false:=by rw[beq_eq_false_iff_ne];exact h0
  rw[hbq,Bool.false_or] at HV
  clear hb hbq h0
  generalize validN l=v at *
  generalize optN l=V at *
  generalize strN l=s at *
  go_enter Tryz.func171,Tryz.ntmps171
  go_wp2_with fail
  refine HN.o.mono ?_
  rintro e w2 ⟨rfl,n,rfl⟩
  go_wp2
  go_ret
  exact⟨ret_bool HV.o.symm,n,rfl⟩
end
section
open Go.RowKit Go.Sort
def NmB (l:List Nat):Prop:=(∀ y∈l,y<256)∧l.length≤1000000
mutual
def BytP:Prd→Prop
 | .mk k l r c ks=>NmB l∧NmB r∧BytL ks
def BytL:List Prd→Prop
 | []=>True
 | p::ps=>BytP p∧BytL ps
end
theorem BytL_iff:∀ ks:List Prd,BytL ks↔∀ q∈ks,BytP q
 | []=>by simp[BytL]
 | p::ps=>by simp[BytL,BytL_iff ps]
def atomB (κ:Int) (l r:List Nat) (c:Int) (n:Nat):Bool:=κ==0&&(n==0&&(optN l&&(optN r&&(decide (-1099511627776≤c)&&decide (c<1099511627776)))))
theorem below_dn {w w':World} (h:∃ n,w'=w.drewN n):Below w.heap.size w w':=by obtain⟨n,rfl⟩:=h;exact below_drewN (Below.refl _ _) n
theorem vatom_any (κ:Int) (l r:List Nat) (c:Int) (ao:Option Addr) (n cap:Nat) (w:World) (B:Nat) (hT:Tab w B) (hl:NmB l) (hr:NmB r) :
  Calls Tryz.prog 101 #[.agg #[.int .i64 κ,.string (strN l),.string (strN r),.int .i64 c,.slice ao n cap]] w fun e w'=>e = .returned (.bool (atomB κ l r c n))∧Below w.heap.size w w':=by
 have bx:=(Below.refl w.heap.size w).alloc (Nat.le_refl _) (.cells #[.int .i64 κ,.string (strN l),.string (strN r),.int .i64 c,.slice ao n cap] 25)
 have B1:=ħ bx
 have X1:Hid (HasV (w.alloc (.cells #[.int .i64 κ,.string (strN l),.string (strN r),.int .i64 c,.slice ao n cap] 25)) w.heap.size 25 [.int .i64 κ,.string (strN l),.string (strN r),.int .i64 c,.slice ao n cap]):=ħ (heap_alloc_new w _)
 have TT:Hid (∀ W:World,Below w.heap.size w W→Tab W B):=ħ (fun W hW=>hT.keep (fun k hk=>hW.block k (Nat.lt_of_lt_of_le hk hT.size)) hW.size)
 have H1:=ħ (fun W hW=>vopt_any l W B (TT.o W hW) hl.2 hl.1)
 have H2:=ħ (fun W hW=>vopt_any r W B (TT.o W hW) hr.2 hr.1)
 have HV:Hid (atomB κ l r c n=(κ==0&&(n==0&&(optN l&&(optN r&&(decide (-1099511627776≤c)&&decide (c<1099511627776))))))):=ħ rfl
 clear bx hT hl hr TT
 generalize atomB κ l r c n=V at *
 generalize optN l=b1 at *
 generalize optN r=b2 at *
 generalize strN l=y at *
 generalize strN r=z at *
 go_enter Tryz.func101,Tryz.ntmps101
 go_upto_region 2 with (fail)
 generalize w.alloc (.cells #[.int .i64 κ,.string y,.string z,.int .i64 c,.slice ao n cap] 25)=w1 at *
 have x0:=X1.o.cell 0 _ rfl
 have x1:=X1.o.cell 1 _ rfl
 have x2:=X1.o.cell 2 _ rfl
 have x3:=X1.o.cell 3 _ rfl
 have x4:=X1.o.cell 4 _ rfl
 by_cases k0:κ=0
 ·have k0b:(κ==0)=true:=beq_iff_eq.mpr k0
  rw[k0b,Bool.true_and] at HV
  clear k0
  by_cases n0:n=0
  ·have n0b:(n==0)=true:=beq_iff_eq.mpr n0
   have n0c:((n:Int)==0)=true:=by rw[n0];rfl
   rw[n0b,Bool.true_and] at HV
   clear n0
   go_wp2_with fail
   refine (H1.o w1 B1.o).mono ?_
   rintro e w2 ⟨rfl,d2⟩
   have B2:=ħ (B1.o.trans ((below_dn d2).mono B1.o.size))
   have X2:=ħ (X1.o.step (below_dn d2))
   clear d2 x0 x1 x2 x3 x4
   have x0:=X2.o.cell 0 _ rfl
   have x1:=X2.o.cell 1 _ rfl
   have x2:=X2.o.cell 2 _ rfl
   have x3:=X2.o.cell 3 _ rfl
   have x4:=X2.o.cell 4 _ rfl
   cases b1 with
   | true =>
    rw[Bool.true_and] at HV
    go_wp2_with fail
    refine (H2.o w2 B2.o).mono ?_
    rintro e w3 ⟨rfl,d3⟩
    have B3:=ħ (B2.o.trans ((below_dn d3).mono B2.o.size))
    have X3:=ħ (X2.o.step (below_dn d3))
    clear d3 x0 x1 x2 x3 x4
    have x3:=X3.o.cell 3 _ rfl
    cases b2 with
    | true =>
     rw[Bool.true_and] at HV
     by_cases c1:-1099511627776≤c
     ·have c1b:decide (-1099511627776≤c)=true:=decide_eq_true c1
      rw[c1b,Bool.true_and] at HV
      clear c1
      go_wp2
      go_ret
      exact⟨ret_bool HV.o.symm,B3.o⟩
     ·have c1b:decide (-1099511627776≤c)=false:=decide_eq_false c1
      rw[c1b,Bool.false_and] at HV
      clear c1
      go_wp2
      go_ret
      exact⟨ret_bool HV.o.symm,B3.o⟩
    | false =>
     rw[Bool.false_and] at HV
     go_wp2
     go_ret
     exact⟨ret_bool HV.o.symm,B3.o⟩
   | false =>
    rw[Bool.false_and] at HV
    go_wp2
    go_ret
    exact⟨ret_bool HV.o.symm,B2.o⟩
  ·have n0b:(n==0)=false:=beq_eq_false_iff_ne.mpr n0
   have n0c:((n:Int)==0)=false:=by rw[beq_eq_false_iff_ne];omega
   rw[n0b,Bool.false_and] at HV
   clear n0
   go_wp2
   go_ret
   exact⟨ret_bool HV.o.symm,B1.o⟩
 ·have k0b:(κ==0)=false:=beq_eq_false_iff_ne.mpr k0
  rw[k0b,Bool.false_and] at HV
  clear k0
  go_wp2
  go_ret
  exact⟨ret_bool HV.o.symm,B1.o⟩
end
section
open Go.RowKit Go.Sort
structure PrF (C:World→Prop) (P:Nat→Prop) (g:Nat) (cb:Array Value) (f:Prd→Bool) (S:Prd→Prop):Prop where
 enters:∀ args w,(callFunc g args).run Tryz.prog w = .ok (.enter g args) w
 step:∀ w w',C w→Below w.heap.size w w'→C w'
 calls:∀ q w vs,S q→PredC w P q vs→C w→Calls Tryz.prog g (#[.agg vs.toArray]++cb) w fun e w'=>e = .returned (.bool (f q))∧Below w.heap.size w w'
def idxP (f:Prd→Bool) (ks:List Prd):Int:=match ks.findIdx? f with
 | some i=>(i:Int)
 | none=>-1
theorem pidx_any (w:World) (P:Nat→Prop) (ks:List Prd) (ao:Option Addr) (n cap:Nat) (hn:n=ks.length) (hbig:n≤1000000)
  (hk:ks=[]∨∃ g off,ao=some ⟨g,off,none⟩∧P g∧g<w.heap.size∧KidsC w P ks g off)
  (C:World→Prop) (g:Nat) (cb:Array Value) (f:Prd→Bool) (S:Prd→Prop) (hf:PrF C P g cb f S) (hS:∀ q∈ks,S q) (hC:C w) :
  Calls Tryz.prog 170 #[.slice ao n cap,.func (.func g) #[] cb] w fun e w'=>e = .returned (.int .i64 (idxP f ks))∧Below w.heap.size w w':=by
 have HK:=ħ hk
 have HN:=ħ hn
 have HS:=ħ hS
 have HST:=ħ hf.step
 have HCA:=ħ hf.calls
 have eg:=hf.enters
 have HI:Hid (idxP f ks=match ks.findIdx? f with | some i=>(i:Int) | none=>-1):=ħ rfl
 obtain⟨V,hV⟩:∃ V,idxP f ks=V:=⟨_,rfl⟩
 rw[hV] at HI ⊢
 have C0:=ħ hC
 have B0:=ħ (Below.refl w.heap.size w)
 clear hk hn hS hC hf hV
 go_enter Tryz.func170,Tryz.ntmps170
 go_wp2_with fail
 go_loopw [8] (fun cc wr=>∃ (i:Nat),cc = .int .i64 i∧i≤n∧Hid (Below w.heap.size w wr)∧Hid (C wr)∧Hid (∀ j k,j<i→ks[j]?=some k→f k=false)) (fun c _=>(n-intOf c).toNat)
 case atStart=>exact⟨0,rfl,by omega,B0,C0,ħ (fun j k hj=>absurd hj (Nat.not_lt_zero j))⟩
 case round =>
  clear B0 C0
  obtain⟨i,rfl,hi,hw,hc,hno⟩:=hrel
  have e2:IntKind.i64.wrap ((i:Int)+1)=((i+1:Nat):Int):=IntWalk.i64_in _ (by omega)
  by_cases hlt:i<n
  ·have ii:(i:Int)<n:=by omega
   have HQ:Hid (∃ q,ks[i]?=some q∧∃ g off,ao=some ⟨g,off,none⟩∧g<w.heap.size∧∃ vs,PredC wr P q vs∧Reads wr g (off+i*5) vs):=ħ (by
    have hl:i<ks.length:=by rw[← HN.o];exact hlt
    refine⟨ks[i],List.getElem?_eq_getElem hl,?_⟩
    rcases HK.o with h | ⟨g,off,h1,h2,h3,h4⟩
    ·rw[h] at hl;exact absurd hl (Nat.not_lt_zero _)
    ·obtain⟨vs,hv1,hv2⟩:=KidsC.at ks g off i _ (List.getElem?_eq_getElem hl) h4
     exact⟨g,off,h1,h3,vs,hv1.below hw.o,hv2.of_block (hw.o.block g h3)⟩)
   obtain⟨q,hqi,gk,off,hao,hg,vs,hpc,hrd⟩:=HQ.o
   clear HQ
   have HQI:=ħ hqi
   obtain⟨xa,xn,xc,hvf,-⟩:=hpc.form
   rw[hvf] at hrd hpc
   have PC:=ħ hpc
   have s0:=hrd 0 _ rfl
   have s1:=hrd 1 _ rfl
   have s2:=hrd 2 _ rfl
   have s3:=hrd 3 _ rfl
   have s4:=hrd 4 _ rfl
   clear hrd hpc hvf vs hqi
   rw[Nat.add_zero] at s0
   have HAO:=ħ hao
   subst hao
   generalize q.k=q0 at *
   generalize strN q.l=q1 at *
   generalize strN q.r=q2 at *
   generalize q.c=q3 at *
   go_wp2_with fail
   refine (HCA.o q wr _ (HS.o q (List.mem_of_getElem? HQI.o)) PC.o hc.o).mono ?_
   rintro e w3 ⟨rfl,b3⟩
   have hw3:=ħ (hw.o.trans (b3.mono hw.o.size))
   have hc3:=ħ (HST.o _ _ hc.o b3)
   clear b3 s0 s1 s2 s3 s4 hw hc PC
   cases hq:f q with
   | true =>
    have HX:Hid (V=(i:Int)):=ħ (by
     have hlt':i<ks.length:=by rw[← HN.o];exact hlt
     have:ks.findIdx? f=some i:=by
      rw[List.findIdx?_eq_some_iff_getElem]
      refine⟨hlt',?_,fun j hj=>?_⟩
      ·have:ks[i]=q:=by have:=HQI.o;rw[List.getElem?_eq_getElem hlt'] at this;exact Option.some.inj this
       rw[this];exact hq
      ·have:=hno.o j ks[j] hj (List.getElem?_eq_getElem (by omega))
       simp[this]
     rw[HI.o,this])
    clear hq
    go_wp2
    go_ret
    exact⟨ret_int HX.o.symm,hw3.o⟩
   | false =>
    have HQ2:=ħ hq
    clear hq
    go_wp2
    go_roundw
    case rel=>exact⟨i+1,by go_num,by omega,hw3,hc3,ħ (fun j k' hj hk'=>by
     rcases Nat.lt_or_ge j i with h | h
     ·exact hno.o j k' h hk'
     ·obtain rfl:j=i:=by omega
      rw[HQI.o] at hk'
      obtain rfl:=Option.some.inj hk'
      exact HQ2.o)⟩
    case measure=>simp only[intOf];omega
  ·have ii:¬ ((i:Int)<n):=by omega
   have HX:Hid (V = -1):=ħ (by
    have:ks.findIdx? f=none:=by
     rw[List.findIdx?_eq_none_iff]
     intro k hk
     obtain⟨j,hj⟩:=List.mem_iff_getElem?.1 hk
     have hjl:=(List.getElem?_eq_some_iff.1 hj).1
     exact hno.o j k (by rw[← HN.o] at hjl;omega) hj
    rw[HI.o,this])
   go_wp2
   go_ret
   exact⟨ret_int HX.o.symm,hw.o⟩
theorem idxP_any (f:Prd→Bool) (ks:List Prd):decide (0≤idxP f ks)=ks.any f:=by
 unfold idxP
 cases h:ks.findIdx? f with
 | none =>
  rw[List.findIdx?_eq_none_iff] at h
  have:ks.any f=false:=by rw[List.any_eq_false];intro x hx;simp[h x hx]
  rw[this];rfl
 | some i =>
  rw[List.findIdx?_eq_some_iff_getElem] at h
  obtain⟨h1,h2,_⟩:=h
  have:ks.any f=true:=List.any_eq_true.2 ⟨_,List.getElem_mem h1,h2⟩
  rw[this];show decide (0≤(i:Int))=true;exact decide_eq_true (by omega)
theorem pcont_any (w:World) (P:Nat→Prop) (ks:List Prd) (ao:Option Addr) (n cap:Nat) (hn:n=ks.length) (hbig:n≤1000000)
  (hk:ks=[]∨∃ g off,ao=some ⟨g,off,none⟩∧P g∧g<w.heap.size∧KidsC w P ks g off)
  (C:World→Prop) (g:Nat) (cb:Array Value) (f:Prd→Bool) (S:Prd→Prop) (hf:PrF C P g cb f S) (hS:∀ q∈ks,S q) (hC:C w) :
  Calls Tryz.prog 99 #[.slice ao n cap,.func (.func g) #[] cb] w fun e w'=>e = .returned (.bool (ks.any f))∧Below w.heap.size w w':=by
 have HC:=ħ (pidx_any w P ks ao n cap hn hbig hk C g cb f S hf hS hC)
 have HV:=ħ (idxP_any f ks)
 generalize idxP f ks=x at *
 generalize ks.any f=V at *
 clear hk hf hS hC hn
 go_enter Tryz.func99,Tryz.ntmps99
 go_wp2_with fail
 refine HC.o.mono ?_
 rintro e w3 ⟨rfl,b3⟩
 have B3:=ħ b3
 clear b3
 go_wp2
 go_ret
 exact⟨ret_bool (by rw[← HV.o]),B3.o⟩
end
section
open Go.RowKit Go.Sort
def TabIn (B:Nat) (w:World):Prop:=Tab w B
theorem TabIn.step {B:Nat} {w w':World} (h:TabIn B w) (hb:Below w.heap.size w w'):TabIn B w':=Tab.keep h (fun k hk=>hb.block k (Nat.lt_of_lt_of_le hk h.size)) hb.size
theorem formP_eq (k:Int) (l r:List Nat) (c:Int) (ks:List Prd):formP (.mk k l r c ks)=if k=0 then atomB k l r c ks.length else (listB k ks.length c&&(l==[]&&(r==[]&&!(ks.any (fun q=>!formP q))))):=by
 rw[formP]
 by_cases h:k=0
 ·rw[if_pos h,if_pos h]
  unfold atomB inC
  subst h
  have:ks.isEmpty=(ks.length==0):=by cases ks<;>rfl
  rw[this]
  simp[Bool.and_assoc]
 ·rw[if_neg h,if_neg h]
  have:formL ks=!(ks.any (fun q=>!formP q)):=by
   rw[Bool.eq_iff_iff,formL_iff]
   simp
  rw[this]
  simp[Bool.and_assoc]
theorem form_atom (l r:List Nat) (c:Int) (ao:Option Addr) (n cap:Nat) (w:World) (B:Nat) (hT:Tab w B) (hl:NmB l) (hr:NmB r) :
  Calls Tryz.prog 89 #[.agg #[.int .i64 0,.string (strN l),.string (strN r),.int .i64 c,.slice ao n cap]] w fun e w'=>e = .returned (.bool (atomB 0 l r c n))∧Below w.heap.size w w':=by
 have bx:=(Below.refl w.heap.size w).alloc (Nat.le_refl _) (.cells #[.int .i64 0,.string (strN l),.string (strN r),.int .i64 c,.slice ao n cap] 25)
 have B1:=ħ bx
 have X1:Hid (HasV (w.alloc (.cells #[.int .i64 0,.string (strN l),.string (strN r),.int .i64 c,.slice ao n cap] 25)) w.heap.size 25 [.int .i64 0,.string (strN l),.string (strN r),.int .i64 c,.slice ao n cap]):=ħ (heap_alloc_new w _)
 have HA:=ħ (fun W hW=>vatom_any 0 l r c ao n cap W B (TabIn.step (w:=w) (w':=W) hT hW) hl hr)
 clear bx hT hl hr
 generalize atomB 0 l r c n=V at *
 generalize strN l=y at *
 generalize strN r=z at *
 go_enter Tryz.func89,Tryz.ntmps89
 go_upto_region 1 with (fail)
 generalize w.alloc (.cells #[.int .i64 0,.string y,.string z,.int .i64 c,.slice ao n cap] 25)=w1 at *
 have x0:=X1.o.cell 0 _ rfl
 have x4:=X1.o.cell 4 _ rfl
 go_wp2_with (refine wpList_load_row rfl 25 (.tmp 1) rfl w.heap.size ?x1 25 (rawC 0 y z c ao n cap).toArray (0,0) _ X1.o Tryz.underlying25 rfl (inf_pred _ rfl) ?_;(case x1=>rfl))
 refine (HA.o w1 B1.o).mono ?_
 rintro e w2 ⟨rfl,b2⟩
 have B2:=ħ (B1.o.trans (b2.mono B1.o.size))
 clear b2
 go_wp2
 go_ret
 exact⟨rfl,B2.o⟩
theorem form_node (w:World) (P:Nat→Prop) (κ:Int) (l r:List Nat) (c:Int) (ks:List Prd) (ao:Option Addr) (n cap:Nat) (hκ:κ≠0) (hn:n=ks.length) (hbig:n≤1000000) (B:Nat) (hT:Tab w B)
  (hk:ks=[]∨∃ g off,ao=some ⟨g,off,none⟩∧P g∧g<w.heap.size∧KidsC w P ks g off)
  (ih:∀ (q:Prd) (w:World) (vs:List Value),q∈ks→PredC w P q vs→Tab w B→Calls Tryz.prog 89 #[.agg vs.toArray] w fun e w'=>e = .returned (.bool (formP q))∧Below w.heap.size w w') :
  Calls Tryz.prog 89 #[.agg #[.int .i64 κ,.string (strN l),.string (strN r),.int .i64 c,.slice ao n cap]] w fun e w'=>e = .returned (.bool (formP (.mk κ l r c ks)))∧Below w.heap.size w w':=by
 have HV:Hid (formP (.mk κ l r c ks)=(listB κ n c&&(l==[]&&(r==[]&&!(ks.any (fun q=>!formP q)))))):=ħ (by rw[formP_eq,if_neg hκ,hn])
 obtain⟨V,hV⟩:∃ V,formP (.mk κ l r c ks)=V:=⟨_,rfl⟩
 rw[hV] at HV ⊢
 clear hV
 have bx:=(Below.refl w.heap.size w).alloc (Nat.le_refl _) (.cells #[.int .i64 κ,.string (strN l),.string (strN r),.int .i64 c,.slice ao n cap] 25)
 have B1:=ħ bx
 have X1:Hid (HasV (w.alloc (.cells #[.int .i64 κ,.string (strN l),.string (strN r),.int .i64 c,.slice ao n cap] 25)) w.heap.size 25 [.int .i64 κ,.string (strN l),.string (strN r),.int .i64 c,.slice ao n cap]):=ħ (heap_alloc_new w _)
 have hcl:∀ q W us,q∈ks→PredC W P q us→Tab W B→Calls Tryz.prog 154 #[.agg us.toArray] W fun e w'=>e = .returned (.bool (!formP q))∧Below W.heap.size W w':=by
  intro q W us hq hpc hTW
  have HI:=ħ (fun W' us' h1 h2=>ih q W' us' hq h1 h2)
  obtain⟨xa,xn,xc,hvf,-⟩:=hpc.form
  rw[hvf] at hpc ⊢
  have by1:=(Below.refl W.heap.size W).alloc (Nat.le_refl _) (.cells #[.int .i64 q.k,.string (strN q.l),.string (strN q.r),.int .i64 q.c,.slice xa xn xc] 25)
  have HP1:=ħ (hpc.below by1)
  have HT1:=ħ (TabIn.step (w:=W) hTW by1)
  have BY:=ħ by1
  have Y1:Hid (HasV (W.alloc (.cells #[.int .i64 q.k,.string (strN q.l),.string (strN q.r),.int .i64 q.c,.slice xa xn xc] 25)) W.heap.size 25 [.int .i64 q.k,.string (strN q.l),.string (strN q.r),.int .i64 q.c,.slice xa xn xc]):=ħ (heap_alloc_new W _)
  clear by1 hpc hTW hvf ih
  generalize q.k=q0 at *
  generalize strN q.l=q1 at *
  generalize strN q.r=q2 at *
  generalize q.c=q3 at *
  go_enter Tryz.func154,Tryz.ntmps154
  go_wp2_with (refine wpList_load_row rfl 25 (.tmp 1) rfl W.heap.size ?x1 25 #[.int .i64 q0,.string q1,.string q2,.int .i64 q3,.slice xa xn xc] (0,0) _ Y1.o Tryz.underlying25 rfl (inf_pred _ rfl) ?_;(case x1=>rfl))
  refine (HI.o _ _ HP1.o HT1.o).mono ?_
  rintro e w2 ⟨rfl,b2⟩
  have B2:=ħ (BY.o.trans (b2.mono BY.o.size))
  clear b2
  go_wp2
  go_ret
  exact⟨rfl,B2.o⟩
 have HPF:Hid (PrF (TabIn B) P 154 #[] (fun q=>!formP q) (fun q=>q∈ks)):=ħ ⟨enters_of Tryz.func154 (by kernel_rfl) rfl,fun w w' h hb=>h.step hb,fun q w vs hq hpc hC=>hcl q w vs hq hpc hC⟩
 have HCO:=ħ (fun W (hW:Below w.heap.size w W)=>pcont_any W P ks ao n cap hn hbig (by
  rcases hk with h | ⟨g,off,h1,h2,h3,h4⟩
  ·exact .inl h
  ·exact .inr ⟨g,off,h1,h2,Nat.lt_of_lt_of_le h3 hW.size,KidsC.keep (fun x _ hx=>hW.block x hx) hW.size (fun _ h _=>h) ks g off h2 h3 h4⟩) (TabIn B) 154 #[] (fun q=>!formP q) (fun q=>q∈ks) HPF.o (fun q hq=>hq) (TabIn.step (w:=w) hT hW))
 obtain⟨A,hA⟩:∃ A,ks.any (fun q=>!formP q)=A:=⟨_,rfl⟩
 simp only[hA] at HCO
 rw[hA] at HV
 have hκb:(κ==0)=false:=beq_eq_false_iff_ne.mpr hκ
 have HLE:Hid ((strN l).toList.isEmpty=(l==[])∧(strN r).toList.isEmpty=(r==[])):=ħ (by
  have:∀ m:List Nat,(strN m).toList.isEmpty=(m==[]):=fun m=>by
   cases m with
   | nil=>exact strN_isE0.trans rfl
   | cons a b=>rw[strN_isE _ (by simp)];rfl
  exact⟨this l,this r⟩)
 have hle1:=HLE.o.1
 have hle2:=HLE.o.2
 generalize (l==[])=e1 at *
 generalize (r==[])=e2 at *
 clear bx hk ih hT hn hA hκ hcl HPF HLE
 generalize strN l=y at *
 generalize strN r=z at *
 go_enter Tryz.func89,Tryz.ntmps89
 go_upto_region 1 with (fail)
 generalize w.alloc (.cells #[.int .i64 κ,.string y,.string z,.int .i64 c,.slice ao n cap] 25)=w1 at *
 have x0:=X1.o.cell 0 _ rfl
 have x1:=X1.o.cell 1 _ rfl
 have x2:=X1.o.cell 2 _ rfl
 have x3:=X1.o.cell 3 _ rfl
 have x4:=X1.o.cell 4 _ rfl
 have HB:Hid (listB κ n c=(((κ==1||κ==2)&&decide (2≤n)&&c==0)||(κ==3&&decide (1≤c)&&decide (c≤(n:Int))))):=ħ rfl
 obtain⟨LB,hLB⟩:∃ LB,listB κ n c=LB:=⟨_,rfl⟩
 rw[hLB] at HB HV
 clear hLB
 by_cases k12:κ=1∨κ=2
 ·by_cases n2:n<2
  ·have HV2:Hid (V=false):=ħ (by
    have:LB=false:=by rw[HB.o];rcases k12 with h | h<;>subst h<;>simp<;>omega
    rw[HV.o,this,Bool.false_and])
   clear HV HB HCO
   have n2':(n:Int)<2:=by omega
   clear n2
   rcases k12 with h | h
   ·subst h
    go_wp2
    go_ret
    exact⟨ret_bool HV2.o.symm,B1.o⟩
   ·subst h
    go_wp2
    go_ret
    exact⟨ret_bool HV2.o.symm,B1.o⟩
  ·have n2':¬ (n:Int)<2:=by omega
   by_cases c0:c=0
   ·have HV2:Hid (V=(e1&&(e2&&!A))):=ħ (by
     have:LB=true:=by rw[HB.o];rcases k12 with h | h<;>subst h<;>simp[c0]<;>omega
     rw[HV.o,this,Bool.true_and])
    clear HV HB n2
    rename Hid (V=_)=>HV
    subst c0
    rcases k12 with h | h
    ·subst h
     cases e1 with
     | true =>
      cases e2 with
      | true =>
       rw[Bool.true_and,Bool.true_and] at HV
       go_wp2_with fail
       refine (HCO.o w1 B1.o).mono ?_
       rintro e w2 ⟨rfl,b2⟩
       have B2:=ħ (B1.o.trans (b2.mono B1.o.size))
       clear b2
       go_wp2
       go_ret
       exact⟨ret_bool HV.o.symm,B2.o⟩
      | false =>
       rw[Bool.true_and,Bool.false_and] at HV
       go_wp2
       go_ret
       exact⟨ret_bool HV.o.symm,B1.o⟩
     | false =>
      rw[Bool.false_and] at HV
      go_wp2
      go_ret
      exact⟨ret_bool HV.o.symm,B1.o⟩
    ·subst h
     cases e1 with
     | true =>
      cases e2 with
      | true =>
       rw[Bool.true_and,Bool.true_and] at HV
       go_wp2_with fail
       refine (HCO.o w1 B1.o).mono ?_
       rintro e w2 ⟨rfl,b2⟩
       have B2:=ħ (B1.o.trans (b2.mono B1.o.size))
       clear b2
       go_wp2
       go_ret
       exact⟨ret_bool HV.o.symm,B2.o⟩
      | false =>
       rw[Bool.true_and,Bool.false_and] at HV
       go_wp2
       go_ret
       exact⟨ret_bool HV.o.symm,B1.o⟩
     | false =>
      rw[Bool.false_and] at HV
      go_wp2
      go_ret
      exact⟨ret_bool HV.o.symm,B1.o⟩
   ·have HV2:Hid (V=false):=ħ (by
     have:LB=false:=by rw[HB.o];rcases k12 with h | h<;>subst h<;>simp[c0]
     rw[HV.o,this,Bool.false_and])
    have c0b:(c==0)=false:=beq_eq_false_iff_ne.mpr c0
    clear HV HB HCO n2 c0
    rcases k12 with h | h
    ·subst h
     go_wp2
     go_ret
     exact⟨ret_bool HV2.o.symm,B1.o⟩
    ·subst h
     go_wp2
     go_ret
     exact⟨ret_bool HV2.o.symm,B1.o⟩
 ·have k1b:(κ==1)=false:=beq_eq_false_iff_ne.mpr (fun h=>k12 (.inl h))
  have k2b:(κ==2)=false:=beq_eq_false_iff_ne.mpr (fun h=>k12 (.inr h))
  clear k12
  by_cases k3:κ=3
  ·subst k3
   by_cases c1:c<1
   ·have HV2:Hid (V=false):=ħ (by
     have:LB=false:=by rw[HB.o];simp;omega
     rw[HV.o,this,Bool.false_and])
    clear HV HB HCO
    go_wp2
    go_ret
    exact⟨ret_bool HV2.o.symm,B1.o⟩
   ·by_cases cn:(n:Int)<c
    ·have HV2:Hid (V=false):=ħ (by
      have:LB=false:=by rw[HB.o];simp;omega
      rw[HV.o,this,Bool.false_and])
     clear HV HB HCO
     go_wp2
     go_ret
     exact⟨ret_bool HV2.o.symm,B1.o⟩
    ·have HV2:Hid (V=(e1&&(e2&&!A))):=ħ (by
      have:LB=true:=by rw[HB.o];simp;omega
      rw[HV.o,this,Bool.true_and])
     clear HV HB
     rename Hid (V=_)=>HV
     cases e1 with
     | true =>
      cases e2 with
      | true =>
       rw[Bool.true_and,Bool.true_and] at HV
       go_wp2_with fail
       refine (HCO.o w1 B1.o).mono ?_
       rintro e w2 ⟨rfl,b2⟩
       have B2:=ħ (B1.o.trans (b2.mono B1.o.size))
       clear b2
       go_wp2
       go_ret
       exact⟨ret_bool HV.o.symm,B2.o⟩
      | false =>
       rw[Bool.true_and,Bool.false_and] at HV
       go_wp2
       go_ret
       exact⟨ret_bool HV.o.symm,B1.o⟩
     | false =>
      rw[Bool.false_and] at HV
      go_wp2
      go_ret
      exact⟨ret_bool HV.o.symm,B1.o⟩
  ·have HV2:Hid (V=false):=ħ (by
     have:LB=false:=by rw[HB.o,k1b,k2b];simp[k3]
     rw[HV.o,this,Bool.false_and])
   have k3b:(κ==3)=false:=beq_eq_false_iff_ne.mpr k3
   clear HV HB HCO k3
   go_wp2
   go_ret
   exact⟨ret_bool HV2.o.symm,B1.o⟩
theorem formed_any:∀ (N:Nat) (p:Prd) (w:World) (P:Nat→Prop) (vs:List Value) (B:Nat),cntP p≤N→N≤1000000→BytP p→PredC w P p vs→Tab w B →
  Calls Tryz.prog 89 #[.agg vs.toArray] w fun e w'=>e = .returned (.bool (formP p))∧Below w.heap.size w w'
 | 0,p,w,P,vs,B,hN,_,_,_,_=>by have:=cnt_pos p;omega
 | N+1,.mk κ l r c ks,w,P,vs,B,hN,hM,hb,h,hT=>by
  have hc2:cntL ks≤N:=by unfold cntP at hN;omega
  have hl:=len_le_cntL ks
  unfold PredC at h
  unfold BytP at hb
  obtain⟨ao,cap,rfl,hk⟩:=h
  by_cases hκ:κ=0
  ·subst hκ
   have:=form_atom l r c ao ks.length cap w B hT hb.1 hb.2.1
   rw[formP_eq,if_pos rfl]
   exact this
  ·exact form_node w P κ l r c ks ao ks.length cap hκ rfl (by omega) B hT hk (fun q w' us hq hpc hT'=>formed_any N q w' P us B (by
    obtain⟨i,hi⟩:=List.mem_iff_getElem?.1 hq
    have:=cnt_kid ks i q hi
    omega) (by omega) ((BytL_iff ks).1 hb.2.2 q hq) hpc hT')
theorem wpList_load_wanted {P:Program} {ops:Array Oper} {rest:List Oper} {o:Oper} {a:Act} {w:World} {Q:Exit→Act→World→Prop} (hw:Region.wanted o (yielded ops a.tmps)=true) (ty:TypeId) (x:Operand) (ho:o.op = .load ty x)
  (g:Nat) (hx:a.eval x = .pointer (some ⟨g,0,none⟩)) (t:TypeId) (cs:Array Value) (fr:Nat×Nat) (d:TypeDesc) (hg:w.heap[g]?=some (.cells cs t fr))
  (hu:P.underlying ty=some d) (hd:(match d with | .struct _ | .array _ _=>true | _=>false)=true) (hi:(P.info? ty).map (·.size)=some cs.size)
  (h:wpList P ops Q rest (a.put o.dst (.agg cs)) w):wpList P ops Q (o::rest) a w :=
 BigFrame.wpList_want hw fun K hK=>wp_load_row ty x ho g hx t cs fr d hg hu hd hi (hK _ _ h)
theorem vpred_any (p:Prd) (w:World) (P:Nat→Prop) (vs:List Value) (B:Nat) (hN:cntP p≤1000000) (hb:BytP p) (h:PredC w P p vs) (hT:Tab w B) :
  Calls Tryz.prog 25 #[.agg vs.toArray] w fun e w'=>e = .returned (.bool (validP p))∧Below w.heap.size w w':=by
 obtain⟨xa,xn,xc,rfl,-⟩:=h.form
 have bx:=(Below.refl w.heap.size w).alloc (Nat.le_refl _) (.cells #[.int .i64 p.k,.string (strN p.l),.string (strN p.r),.int .i64 p.c,.slice xa xn xc] 25)
 have B1:=ħ bx
 have X1:Hid (HasV (w.alloc (.cells #[.int .i64 p.k,.string (strN p.l),.string (strN p.r),.int .i64 p.c,.slice xa xn xc] 25)) w.heap.size 25 [.int .i64 p.k,.string (strN p.l),.string (strN p.r),.int .i64 p.c,.slice xa xn xc]):=ħ (heap_alloc_new w _)
 have HS:=ħ (fun W (hW:Below w.heap.size w W)=>small_any W P p [.int .i64 p.k,.string (strN p.l),.string (strN p.r),.int .i64 p.c,.slice xa xn xc] (h.below hW) hN)
 have HF:=ħ (fun W (hW:Below w.heap.size w W)=>formed_any 1000000 p W P [.int .i64 p.k,.string (strN p.l),.string (strN p.r),.int .i64 p.c,.slice xa xn xc] B hN (Nat.le_refl _) hb (h.below hW) (TabIn.step (w:=w) hT hW))
 have HV:Hid (validP p=(smallP p&&formP p)):=ħ rfl
 obtain⟨V,hV⟩:∃ V,validP p=V:=⟨_,rfl⟩
 rw[hV] at HV ⊢
 clear bx h hT hb hN hV
 generalize smallP p=s at *
 generalize formP p=f at *
 generalize p.k=q0 at *
 generalize strN p.l=q1 at *
 generalize strN p.r=q2 at *
 generalize p.c=q3 at *
 go_enter Tryz.func25,Tryz.ntmps25
 go_upto_region 1 with (fail)
 generalize w.alloc (.cells #[.int .i64 q0,.string q1,.string q2,.int .i64 q3,.slice xa xn xc] 25)=w1 at *
 go_wp2_with (refine wpList_load_row rfl 25 (.tmp 1) rfl w.heap.size ?x1 25 #[.int .i64 q0,.string q1,.string q2,.int .i64 q3,.slice xa xn xc] (0,0) _ X1.o Tryz.underlying25 rfl (inf_pred _ rfl) ?_;(case x1=>rfl))
 refine (HS.o w1 B1.o).mono ?_
 rintro e w2 ⟨rfl,b2⟩
 have B2:=ħ (B1.o.trans (b2.mono B1.o.size))
 have X2:=ħ (X1.o.step b2)
 clear b2
 cases s with
 | false =>
  rw[Bool.false_and] at HV
  go_wp2
  go_ret
  exact⟨ret_bool HV.o.symm,B2.o⟩
 | true =>
  rw[Bool.true_and] at HV
  go_wp2_with (refine wpList_load_wanted (by rfl) 25 (.tmp 1) rfl w.heap.size ?x2 25 #[.int .i64 q0,.string q1,.string q2,.int .i64 q3,.slice xa xn xc] (0,0) _ X2.o Tryz.underlying25 rfl (inf_pred _ rfl) ?_;(case x2=>rfl))
  refine (HF.o w2 B2.o).mono ?_
  rintro e w3 ⟨rfl,b3⟩
  have B3:=ħ (B2.o.trans (b3.mono B2.o.size))
  clear b3
  go_wp2
  go_ret
  exact⟨ret_bool HV.o.symm,B3.o⟩
end
section
open Go.RowKit Go.Sort Go.Maps
def kyOf (q:Prd):Ky:=⟨q.l,q.r,q.c⟩
def plnG (S:List Ky):List Prd→Bool
 | []=>true
 | q::qs=>q.k==0&&(!conK (kyOf q)&&(!decide (kyOf q∈S)&&plnG (S++[kyOf q]) qs))
def plainP (p:Prd):Bool:=plnG [] p.ks&&p.k==3
theorem plainElem_bool_inv {H:Type} {P:Program} {e:TypeId} (he:P.underlying e=some .bool) {v:Value} {x:Bool} {ps:List MemPlace} (h:plainElem (H:=H) P e v=some (.lit (.bool x),ps)):v = .bool x:=by
 unfold plainElem at h
 rw[he] at h
 cases v<;>simp at h
 rw[h.1]
theorem zero_bool (w:World):(zeroValue 4).run Tryz.prog w = .ok (.bool false) w:=Tryz.zeroValue4 w
theorem SetK.look {w:World} {b:Nat} {S:List Ky} (hS:∀ k∈S,KyOk k) (k:Ky) (hk:KyOk k) (h:SetK w b S) :
  (Instr.lookup 185 (.map (some b)) (.agg (kyC k).toArray) false).run Tryz.prog w = .ok (.bool (decide (k∈S))) w:=by
 obtain⟨D,h1,h2,h3⟩:=h
 obtain⟨v,ps,hrun,hv⟩:=h1.lookup kyLaw Tryz.underlying185 (z:=.bool false) (zero_bool w) (zd:=.lit (.bool false)) (zp:=[]) (plainElem_bool Tryz.underlying4 false) (keyOf_ky k hk)
 by_cases hm:k∈S
 ·rw[h3 k hm] at hv
  rw[decide_eq_true hm]
  rw[hrun,plainElem_bool_inv Tryz.underlying4 hv]
 ·have hf:has D (litKy k)=false:=by
   cases hh:has D (litKy k) with
   | false=>rfl
   | true =>
    obtain⟨x,hx,he⟩:=(h2 _).1 hh
    exact absurd (litKy_inj x k (hS x hx) hk he ▸ hx) hm
  rw[atKey_of_not_has hf] at hv
  rw[decide_eq_false hm]
  rw[hrun,plainElem_bool_inv Tryz.underlying4 hv]
theorem plnG_step (ks:List Prd) (i:Nat) (q:Prd) (h:ks[i]?=some q) (V:Bool) (hV:V=plnG ((ks.take i).map kyOf) (ks.drop i)) :
  V=(q.k==0&&(!conK (kyOf q)&&(!decide (kyOf q∈(ks.take i).map kyOf)&&plnG ((ks.take (i+1)).map kyOf) (ks.drop (i+1))))):=by
 have h1:ks.drop i=q::ks.drop (i+1):=List.drop_eq_getElem?_toList_append .. |>.trans (by rw[h];rfl)
 have h2:ks.take (i+1)=ks.take i++[q]:=by rw[List.take_add_one,h];rfl
 rw[hV,h1,h2,List.map_append]
 rfl
theorem plnp_any (w:World) (P:Nat→Prop) (p:Prd) (vs:List Value) (hf:formP p=true) (hbig:p.ks.length≤1000000) (h:PredC w P p vs) (hP:∀ g,P g→g<w.heap.size) :
  Calls Tryz.prog 162 #[.agg vs.toArray] w fun e w'=>e = .returned (.bool (plainP p))∧RowKit.Below w.heap.size w w':=by
 obtain⟨κ,l,r,c,ks⟩:=p
 unfold PredC at h
 obtain⟨ao,cap,rfl,hk⟩:=h
 have hkid:∀ q∈ks,q.k=0→KyOk (kyOf q):=fun q hq h0=>by
  obtain⟨k',l',r',c',ks'⟩:=q
  have h0':k'=0:=h0
  subst h0'
  by_cases hκ:κ=0
  ·unfold formP at hf
   rw[if_pos hκ] at hf
   simp only[Bool.and_eq_true] at hf
   have hkn:ks=[]:=by simpa using hf.1.1.1
   rw[hkn] at hq
   exact absurd hq List.not_mem_nil
  ·unfold formP at hf
   rw[if_neg hκ] at hf
   simp only[Bool.and_eq_true] at hf
   have:=(formL_iff ks).1 hf.2 _ hq
   unfold formP at this
   rw[if_pos rfl] at this
   simp only[Bool.and_eq_true] at this
   exact ky_ok this.1.1.2 this.1.2 this.2
 have HKID:=ħ hkid
 have HK:=ħ hk
 have HBIG:=ħ hbig
 obtain⟨n,hn⟩:∃ n,ks.length=n:=⟨_,rfl⟩
 have HN:Hid (n=ks.length):=ħ hn.symm
 have hbig2:n≤1000000:=by rw[← hn];exact hbig
 rw[hn]
 have HV:Hid (plainP (.mk κ l r c ks)=(plnG [] ks&&κ==3)):=ħ rfl
 obtain⟨V,hV⟩:∃ V,plainP (.mk κ l r c ks)=V:=⟨_,rfl⟩
 rw[hV] at HV ⊢
 obtain⟨G,hG⟩:∃ G,plnG [] ks=G:=⟨_,rfl⟩
 rw[hG] at HV
 have b1:=((RowKit.Below.refl w.heap.size w).alloc (Nat.le_refl _) (.cells #[.int .i64 κ,.string (strN l),.string (strN r),.int .i64 c,.slice ao n cap] 25)).alloc (by simp) (.map #[] 0)
 have X0:Hid (HasV ((w.alloc (.cells #[.int .i64 κ,.string (strN l),.string (strN r),.int .i64 c,.slice ao n cap] 25)).alloc (.map #[] 0)) w.heap.size 25 [.int .i64 κ,.string (strN l),.string (strN r),.int .i64 c,.slice ao n cap]):=ħ (heap_alloc2_old _ _ _)
 have QX:Hid (SetK ((w.alloc (.cells #[.int .i64 κ,.string (strN l),.string (strN r),.int .i64 c,.slice ao n cap] 25)).alloc (.map #[] 0)) (w.heap.size+1) []):=ħ (by have:=SetK.nil (w.alloc (.cells #[.int .i64 κ,.string (strN l),.string (strN r),.int .i64 c,.slice ao n cap] 25));rwa [World.size_alloc] at this)
 have BX:=ħ b1
 have XX:=ħ (fun (w':World) (hb:Only ((w.alloc (.cells #[.int .i64 κ,.string (strN l),.string (strN r),.int .i64 c,.slice ao n cap] 25)).alloc (.map #[] 0)) w' (· = w.heap.size+1))=>Only.later (RowKit.Below.refl w.heap.size w) (Only.trans (Only.of_below (p:=fun g=>w.heap.size≤g) BX.o) (hb.mono (fun g _ hg=>by rw[hg];exact Nat.le_succ _))) (fun g hg=>hg))
 have HNEW:Hid (∀ (w':World),Only ((w.alloc (.cells #[.int .i64 κ,.string (strN l),.string (strN r),.int .i64 c,.slice ao n cap] 25)).alloc (.map #[] 0)) w' (· = w.heap.size+1)→w.heap.size+2≤w'.heap.size):=ħ (fun w' hb=>by have:=hb.size;simp at this;exact this)
 have HPB:=ħ hP
 clear hk hf hbig hkid hn hV b1 hP
 generalize strN l=y at *
 generalize strN r=z at *
 have hmm:=@run_makeMap Tryz.prog
 go_enter Tryz.func162,Tryz.ntmps162
 go_upto_region 2 with (fail)
 generalize hwx:(w.alloc (.cells #[.int .i64 κ,.string y,.string z,.int .i64 c,.slice ao n cap] 25)).alloc (.map #[] 0)=wx at *
 have x0:=X0.o.cell 0 _ rfl
 have x4:=X0.o.cell 4 _ rfl
 go_wp2_with fail
 clear x4 x0
 have S0:Hid (SetK wx (w.heap.size+1) ((ks.take 0).map kyOf)):=ħ (by simpa using QX.o)
 have O0:Hid (Only wx wx (· = w.heap.size+1)):=ħ (Only.refl _ _)
 have G0:Hid (G=plnG ((ks.take 0).map kyOf) (ks.drop 0)):=ħ (by rw[List.take_zero,List.drop_zero];exact hG.symm)
 clear QX hG
 generalize hb:w.heap.size+1=b at *
 have HPB2:Hid (∀ g,P g→g≠b):=ħ (fun g hg e=>by have:=HPB.o g hg;omega)
 go_loopw [11] (fun cc wr=>∃ (i:Nat),cc = .int .i64 i∧i≤n∧Hid (SetK wr b ((ks.take i).map kyOf))∧Hid (Only wx wr (· = b))∧Hid (G=plnG ((ks.take i).map kyOf) (ks.drop i))∧Hid (∀ k∈(ks.take i).map kyOf,KyOk k)) (fun c _=>(n-intOf c).toNat)
 case atStart=>exact⟨0,rfl,by omega,S0,O0,G0,ħ (fun k hk=>by simp at hk)⟩
 case round =>
  clear S0 O0 G0
  obtain⟨i,rfl,hi,hq,ho,hg,hok⟩:=hrel
  have e2:IntKind.i64.wrap ((i:Int)+1)=((i+1:Nat):Int):=IntWalk.i64_in _ (by omega)
  by_cases hlt:i<n
  ·have ii:(i:Int)<n:=by omega
   have HQ:Hid (∃ q,ks[i]?=some q∧∃ g off,ao=some ⟨g,off,none⟩∧g<w.heap.size∧∃ vs,PredC wr P q vs∧Reads wr g (off+i*5) vs):=ħ (by
    have hl:i<ks.length:=by rw[← HN.o];exact hlt
    refine⟨ks[i],List.getElem?_eq_getElem hl,?_⟩
    rcases HK.o with h | ⟨g,off,h1,h2,h3,h4⟩
    ·rw[h] at hl;exact absurd hl (Nat.not_lt_zero _)
    ·have hb1:=BX.o
     have h4':KidsC wx P ks g off:=KidsC.keep (fun x _ hl=>hb1.block x hl) hb1.size (fun _ h _=>h) ks g off h2 h3 h4
     obtain⟨vs,hv1,hv2⟩:=KidsC.at ks g off i _ (List.getElem?_eq_getElem hl) h4'
     have h3':g<wx.heap.size:=Nat.lt_of_lt_of_le h3 hb1.size
     exact⟨g,off,h1,h3,vs,PredC.keep (fun x hx hl=>ho.o.block x hl (HPB2.o x hx)) ho.o.size (fun x hx _=>hx) _ _ hv1,hv2.of_block (ho.o.block g h3' (HPB2.o g h2))⟩)
   obtain⟨q,hqi,gk,off,hao,hgl,vs,hpc,hrd⟩:=HQ.o
   clear HQ
   have HST:=ħ (plnG_step ks i q hqi G hg.o)
   have HQI:=ħ hqi
   have HKO:=ħ (HKID.o q (List.mem_of_getElem? hqi))
   have HTK:Hid (ks.take (i+1)=ks.take i++[q]):=ħ (by rw[List.take_add_one,hqi];rfl)
   obtain⟨xa,xn,xc,hvf,-⟩:=hpc.form
   rw[hvf] at hrd
   have s0:=hrd 0 _ rfl
   have s1:=hrd 1 _ rfl
   have s2:=hrd 2 _ rfl
   have s3:=hrd 3 _ rfl
   have s4:=hrd 4 _ rfl
   clear hrd hpc hvf vs hqi
   rw[Nat.add_zero] at s0
   have HAO:=ħ hao
   subst hao
   have HCA:=ħ (fun W=>keyOf_any q.k q.l q.r q.c (.slice xa xn xc) rfl W)
   have HKV:Hid (keyC q.l q.r q.c=[.string (strN q.l),.string (strN q.r),.int .i64 q.c]):=ħ rfl
   have HCN:Hid (q.k=0→∀ W,Calls Tryz.prog 161 #[.agg #[.string (strN q.l),.string (strN q.r),.int .i64 q.c]] W fun e w'=>e = .returned (.bool (conK (kyOf q)))∧RowKit.Below W.heap.size W w'):=ħ (fun h0 W=>const_any (kyOf q) W (HKO.o h0).bytes)
   have HLK:Hid (q.k=0→∀ W,SetK W b ((ks.take i).map kyOf)→(Instr.lookup 185 (.map (some b)) (.agg #[.string (strN q.l),.string (strN q.r),.int .i64 q.c]) false).run Tryz.prog W = .ok (.bool (decide (kyOf q∈(ks.take i).map kyOf))) W):=ħ (fun h0 W hW=>SetK.look hok.o (kyOf q) (HKO.o h0) hW)
   have HKY:Hid (q.k=0→keyOf Tryz.prog 123 (.agg #[.string (strN q.l),.string (strN q.r),.int .i64 q.c])=some (litKy (kyOf q))):=ħ (fun h0=>keyOf_ky (kyOf q) (HKO.o h0))
   rw[HKV.o] at HCA
   clear HKV
   generalize q.k=q0 at *
   generalize strN q.l=q1 at *
   generalize strN q.r=q2 at *
   generalize q.c=q3 at *
   go_wp2_with fail
   have bx:=(RowKit.Below.refl wr.heap.size wr).alloc (Nat.le_refl _) (.cells #[.int .i64 q0,.string q1,.string q2,.int .i64 q3,.slice xa xn xc] 25)
   have Y1:Hid (HasV (wr.alloc (.cells #[.int .i64 q0,.string q1,.string q2,.int .i64 q3,.slice xa xn xc] 25)) wr.heap.size 25 [.int .i64 q0,.string q1,.string q2,.int .i64 q3,.slice xa xn xc]):=ħ (heap_alloc_new wr _)
   have hq2:=ħ (hq.o.step bx)
   have ho2:=ħ (ho.o.step bx)
   clear s0 s1 s2 s3 s4 bx hq ho
   generalize hA:wr.heap.size=A at *
   clear hA
   generalize wr.alloc (.cells #[.int .i64 q0,.string q1,.string q2,.int .i64 q3,.slice xa xn xc] 25)=wy at *
   refine (HCA.o wy).mono ?_
   rintro e w3 ⟨rfl,b3⟩
   have hq3:=ħ (hq2.o.step b3)
   have ho3:=ħ (ho2.o.step b3)
   have Y3:=ħ (Y1.o.step b3)
   clear b3 hq2 ho2 Y1 HCA
   have bx:=(RowKit.Below.refl w3.heap.size w3).alloc (Nat.le_refl _) (.cells #[.string q1,.string q2,.int .i64 q3] 123)
   have Z4:Hid (HasV (w3.alloc (.cells #[.string q1,.string q2,.int .i64 q3] 123)) w3.heap.size 123 [.string q1,.string q2,.int .i64 q3]):=ħ (heap_alloc_new w3 _)
   have Y4:=ħ (Y3.o.step bx)
   have hq4:=ħ (hq3.o.step bx)
   have ho4:=ħ (ho3.o.step bx)
   clear bx hq3 ho3 Y3
   go_upto_region 6 with (fail)
   generalize hC:w3.heap.size=C at *
   clear hC
   generalize w3.alloc (.cells #[.string q1,.string q2,.int .i64 q3] 123)=wz at *
   have y0:=Y4.o.cell 0 _ rfl
   by_cases h0:q0=0
   ·subst h0
    have HST2:Hid (G=(!conK (kyOf q)&&(!decide (kyOf q∈(ks.take i).map kyOf)&&plnG ((ks.take (i+1)).map kyOf) (ks.drop (i+1))))):=ħ (by rw[HST.o];rfl)
    have HCN2:=ħ (HCN.o rfl)
    have HLK2:=ħ (HLK.o rfl)
    have HKY2:=ħ (HKY.o rfl)
    have HKO2:=ħ (HKO.o rfl)
    clear HST HCN HLK HKY HKO
    generalize conK (kyOf q)=cn at *
    generalize hm:decide (kyOf q∈(ks.take i).map kyOf)=mt at *
    clear hm
    go_wp2_with (refine wpList_load_wanted (by rfl) 123 (.tmp 6) rfl C ?x1 123 #[.string q1,.string q2,.int .i64 q3] (0,0) _ Z4.o Tryz.underlying123 rfl (inf_ky _ rfl) ?_;(case x1=>rfl))
    refine (HCN2.o wz).mono ?_
    rintro e w5 ⟨rfl,b5⟩
    have hq5:=ħ (hq4.o.step b5)
    have ho5:=ħ (ho4.o.step b5)
    have Z5:=ħ (Z4.o.step b5)
    have Y5:=ħ (Y4.o.step b5)
    clear b5 hq4 ho4 Z4 Y4 y0 HCN2
    cases cn with
    | true =>
     have HX:Hid (G=false):=ħ HST2.o
     clear HST2 HLK2 HKY2
     go_wp2
     go_ret
     exact⟨ret_bool (by rw[HV.o,HX.o,Bool.false_and]),XX.o _ ho5.o⟩
    | false =>
     have hlk:=HLK2.o w5 hq5.o
     cases mt with
     | true =>
      have HX:Hid (G=false):=ħ HST2.o
      clear HST2 HLK2 HKY2
      go_wp2_with (refine wpList_load_wanted (by rfl) 123 (.tmp 6) rfl C ?x2 123 #[.string q1,.string q2,.int .i64 q3] (0,0) _ Z5.o Tryz.underlying123 rfl (inf_ky _ rfl) ?_;(case x2=>rfl))
      go_ret
      exact⟨ret_bool (by rw[HV.o,HX.o,Bool.false_and]),XX.o _ ho5.o⟩
     | false =>
      have HX:Hid (G=plnG ((ks.take (i+1)).map kyOf) (ks.drop (i+1))):=ħ HST2.o
      clear HST2 HLK2
      obtain⟨D,hown,hh,ha⟩:=hq5.o
      have HH:=ħ hh
      have HA:=ħ ha
      have HO:=ħ hown
      have HLEN:Hid (((ks.take i).map kyOf).length<maxLen):=ħ (by rw[List.length_map,List.length_take];exact Nat.lt_of_le_of_lt (Nat.min_le_left _ _) (Nat.lt_of_le_of_lt hi (Nat.lt_of_le_of_lt hbig2 (by decide))))
      have HTM:Hid ((ks.take i).map kyOf++[kyOf q]=(ks.take (i+1)).map kyOf):=ħ (by rw[HTK.o,List.map_append];rfl)
      clear hh ha hown
      go_wp2_with (first | (refine wpList_load_wanted (by rfl) 123 (.tmp 6) rfl C (by rfl) 123 #[.string q1,.string q2,.int .i64 q3] (0,0) _ Z5.o Tryz.underlying123 rfl (inf_ky _ rfl) ?_) | (at_mapUpdate;refine wpList_mapUpdate_own _ rfl (.tmp 29) (.tmp 30) _ 185 rfl 123 4 kyLaw Tryz.underlying185 (plainElem Tryz.prog 4) b ((ks.take i).map kyOf).length D rfl HO.o HLEN.o (.agg #[.string q1,.string q2,.int .i64 q3]) (.bool true) (litKy (kyOf q)) rfl rfl HKY2.o (.lit (.bool true)) [] (plainElem_bool Tryz.underlying4 true) ?_;intro w6 hown6 hgrow6;have hq6:=ħ (SetK.put hok.o (kyOf q) HKO2.o HO.o HH.o HA.o hown6);have ho6:=ħ (ho5.o.trans (only_of_grown hgrow6));clear hown6 hgrow6 hlk hq5 ho5 HO HH HA Z5 Y5 HKY2))
      rw[HTM.o] at hq6
      go_roundw
      case rel=>exact⟨i+1,by go_num,by omega,hq6,ho6,HX,ħ (by
       rw[← HTM.o]
       intro k hk
       rcases List.mem_append.1 hk with hk | hk
       ·exact hok.o k hk
       ·rw[List.mem_singleton] at hk;rw[hk];exact HKO2.o)⟩
      case measure=>simp only[intOf];omega
   ·have h0b:(q0==0)=false:=beq_eq_false_iff_ne.mpr h0
    have HX:Hid (G=false):=ħ (by rw[HST.o,h0b,Bool.false_and])
    clear HST HLK HCN HKY
    go_wp2
    go_ret
    exact⟨ret_bool (by rw[HV.o,HX.o,Bool.false_and]),XX.o _ ho4.o⟩
  ·have ii:¬ ((i:Int)<n):=by omega
   have HX:Hid (G=true):=ħ (by
    have:ks.drop i=[]:=List.drop_eq_nil_of_le (by rw[← HN.o];omega)
    rw[hg.o,this];rfl)
   have Xw:=ħ (show HasV wr w.heap.size 25 [.int .i64 κ,.string y,.string z,.int .i64 c,.slice ao n cap] from (ho.o.block _ (by have:=BX.o.size;have:=HNEW.o wx (Only.refl _ _);omega) (by omega)).trans X0.o)
   have x0:=Xw.o.cell 0 _ rfl
   by_cases k3:κ=3
   ·subst k3
    go_wp2
    go_ret
    exact⟨ret_bool (by rw[HV.o,HX.o];rfl),XX.o _ ho.o⟩
   ·have k3b:(κ==3)=false:=beq_eq_false_iff_ne.mpr k3
    go_wp2
    go_ret
    exact⟨ret_bool (by rw[HV.o,HX.o,Bool.true_and,k3b]),XX.o _ ho.o⟩
end
section
open Go.RowKit Go.Sort
theorem app_s {ops:Array Oper} {rest:List Oper} {o:Oper} {a:Act} {Q:Exit→Act→World→Prop} (T E:TypeId) (z:Value) (k bt:Nat)
  (hT:Tryz.prog.underlying T=some (.slice E)) (hE:(Tryz.prog.info? E).map (fun i=>(i.zero,i.size,i.bytes))=some (some z,k,bt)) (hz:z.cells.size=k) (hk:0<k) (hbt:bt≤1000)
  (w1:World) (B:Nat) (hg:o.guard=none) (s x:Operand) (hop:o.op=Op.call { callee:=Callee.builtin Builtin.append,args:=#[s,x],argTypes:=#[T,T] })
  (ao:Option Addr) (cap n:Nat) (xs:List Value) (hs:a.eval s = .slice ao n cap) (hO:OwnK w1 B k n cap xs ao) (hB:B≤w1.heap.size)
  (gx ox m c:Nat) (news:List Value) (hx:a.eval x = .slice (some ⟨gx,ox,none⟩) m c) (hm:news.length=m*k) (hm0:0<m) (hr:Reads w1 gx ox news) (h1c:∀ u∈news,u.oneCell'=true)
  (b1:n+m≤1000000000)
  (hK:∀ g off cap' w',OwnK w' B k (n+m) cap' (xs++news) (some ⟨g,off,none⟩)→w1.grownBy w' (blk ao)→(blk ao=some g∨w1.heap.size≤g)→wpList Tryz.prog ops Q rest (a.put o.dst (.slice (some ⟨g,off,none⟩) (n+m) cap')) w') :
  wpList Tryz.prog ops Q (o::rest) a w1:=by
 obtain⟨i0,hi,hz0,hz1,hz2⟩:=infoParts hE
 exact wpList_append_ownsK w1 B k hk hg s x T hop E i0 z bt hT hi hz0 hz1 hz2 hz ao cap xs n hs hO hB ⟨gx,ox,none⟩ m c news hx hm hm0 (fun j u hj=>by rw[Addr.add_lit];exact hr j u hj) h1c
  (by simp only[maxLen];omega) (Nat.le_trans (Nat.mul_le_mul b1 hbt) (by decide)) hK
theorem KidsC.cells {w:World} {P:Nat→Prop}:∀ (ks:List Prd) (g off:Nat),KidsC w P ks g off→∃ vss:List (List Value),vss.length=ks.length∧(∀ (i:Nat) (p:Prd) (vs:List Value),ks[i]?=some p→vss[i]?=some vs→PredC w P p vs)∧Reads w g off vss.flatten∧vss.flatten.length=ks.length*5∧∀ u∈vss.flatten,u.oneCell'=true
 | [],_,_,_=>⟨[],rfl,fun i p vs h=>by simp at h,fun j u h=>by simp at h,rfl,fun u h=>by simp at h⟩
 | p::ps,g,off,h=>by
  unfold KidsC at h
  obtain⟨⟨vs,hp,hr⟩,h2⟩:=h
  obtain⟨vss,h3,h4,h5,h6,h7⟩:=KidsC.cells ps g (off+5) h2
  have hl:=hp.len
  refine⟨vs::vss,by simp[h3],fun i q us hq hu=>?_,fun j u hj=>?_,by simp[hl,h6];omega,fun u hu=>?_⟩
  ·cases i with
   | zero=>simp at hq hu;subst hq;subst hu;exact hp
   | succ i=>exact h4 i q us (by simpa using hq) (by simpa using hu)
  ·rw[List.flatten_cons] at hj
   by_cases hj5:j<5
   ·rw[List.getElem?_append_left (by omega)] at hj
    exact hr j u hj
   ·rw[List.getElem?_append_right (by omega),hl] at hj
    have:=h5 (j-5) u hj
    rwa [show off+5+(j-5)=off+j by omega] at this
  ·rw[List.flatten_cons] at hu
   rcases List.mem_append.1 hu with hu | hu
   ·have:=hp.ones u (by simpa using hu)
    exact this
   ·exact h7 u hu
theorem OwnK.made (w:World) (T:TypeId) (k:Nat):OwnK (w.alloc (.cells #[] T)) w.heap.size k 0 0 [] (some ⟨w.heap.size,0,none⟩) :=
 .at w.heap.size 0 ⟨Nat.le_refl _,by simp,by simp,fun j u h=>by simp at h,fun j h=>by simp at h,fun j h=>by simp at h⟩ (by simp) (by simp[maxLen]) (Nat.le_refl _)
theorem kclone_any (w:World) (g off n cap:Nat) (news:List Value) (hn:0<n) (hbig:n≤1000000) (hl:news.length=n*5) (h1:∀ u∈news,u.oneCell'=true) (hg:g<w.heap.size) (hr:Reads w g off news) :
  Calls Tryz.prog 163 #[.slice (some ⟨g,off,none⟩) n cap] w fun e w'=>∃ g' off' cap',e = .returned (.slice (some ⟨g',off',none⟩) n cap')∧OwnK w' w.heap.size 5 n cap' news (some ⟨g',off',none⟩)∧Below w.heap.size w w':=by
 have HL:=ħ hl
 have H1:=ħ h1
 have bx:=(Below.refl w.heap.size w).alloc (Nat.le_refl _) (.cells #[] 25)
 have HR:=ħ (hr.of_block (bx.block g hg))
 have HO:=ħ (OwnK.made w 25 5)
 have BX:=ħ bx
 clear hl h1 hr bx
 have hq:∀ (w:World) (a:Option Addr) (n c n' c':Nat),(binOp .eql 23 (.slice a n c) (.slice none n' c')).run Tryz.prog w = .ok (.bool a.isNone) w:=fun w a n c n' c'=>Lib.run_eql_slice_nil w _ _ a n c n' c' Tryz.underlying23
 go_enter Tryz.func163,Tryz.ntmps163
 go_wp2_with (at_builtin;refine app_s 23 25 predZ 5 72 Tryz.underlying23 info_pred rfl (by omega) (by omega) (w.alloc (.cells #[] 25)) w.heap.size rfl (.tmp 5) (.tmp 6) rfl (some ⟨w.heap.size,0,none⟩) 0 0 [] ?q1 HO.o ?q5 g off n cap news ?q2 HL.o hn HR.o H1.o ?q4 ?_;(case q1=>rfl);(case q5=>exact BX.o.size);(case q2=>rfl);(case q4=>omega);intro g5 off5 c5 wa o8 gr8 or8;have O8:=ħ o8;have G8:=ħ gr8;clear o8 gr8 or8)
 rw[Nat.zero_add] at *
 go_ret
 refine⟨g5,off5,c5,rfl,by simpa using O8.o,?_⟩
 have hb:=BX.o
 exact⟨G8.o.os.trans hb.os,G8.o.tape.trans hb.tape,G8.o.output.trans hb.output,Nat.le_trans hb.size G8.o.size,fun k hk=>(G8.o.block k (Nat.lt_of_lt_of_le hk hb.size) (fun e=>by have e':k=w.heap.size:=Option.some.inj e;omega)).trans (hb.block k hk)⟩
end
section
open Go.RowKit Go.Sort
mutual
def choP:Prd→List Chc
 | .mk k l r c ks=>if plainP (.mk k l r c ks)=true then [⟨c,ks⟩] else if k=1 then choL ks else (clausesP (.mk k l r c ks)).map clC
def choL:List Prd→List Chc
 | []=>[]
 | p::ps=>choP p++choL ps
end
theorem choL_append:∀ a b:List Prd,choL (a++b)=choL a++choL b
 | [],b=>by simp[choL]
 | p::a,b=>by simp[choL,choL_append a b]
theorem app_none (W:World) (ao:Option Addr) (n cap:Nat) (hn:n≤cap) (x:Option Addr) (c:Nat) (ty:TypeId) :
  (Builtin.append_ #[41,41] ty #[.slice ao n cap,.slice x 0 c]).run Tryz.prog W = .ok (.slice ao n cap) W:=by
 obtain⟨i,hi,-⟩:=infoParts info_chc
 cases ao<;>cases x<;>simp[Builtin.append_,run_underlying Tryz.underlying41,sizeOf,typeInfo,hi,hn,Builtin.lenOf,Builtin.firstCells,loadCells,loadCellsFrom,storeCells]
theorem nodup_len_le {α:Type} [DecidableEq α]:∀ (l m:List α),l.Nodup→(∀ x∈l,x∈m)→l.length≤m.length
 | [],m,_,_=>Nat.zero_le _
 | x::l,m,hd,hs=>by
  have hx:x∈m:=hs x (by simp)
  have hd':=List.nodup_cons.1 hd
  have h:=nodup_len_le l (m.erase x) hd'.2 (fun y hy=>(List.mem_erase_of_ne (by rintro rfl;exact hd'.1 hy)).2 (hs y (by simp[hy])))
  rw[List.length_erase_of_mem hx] at h
  have:0<m.length:=List.length_pos_of_mem hx
  rw[List.length_cons]
  omega
theorem asc_nodup {m:List Ky} (hm:AscK m):m.Nodup:=hm.imp (fun {a b} hab e=>by rw[e,ltK_irrefl] at hab;cases hab)
theorem proper_kid {k:Int} {l r:List Nat} {c:Int} {ks:List Prd} {q:Prd} (hq:q∈ks):(properP q).length≤(properP (.mk k l r c ks)).length:=by
 refine nodup_len_le _ _ ?_ ?_
 ·exact (asc_nodup (atomsP_asc q)).sublist List.filter_sublist
 ·intro x hx
  unfold properP at hx ⊢
  rw[List.mem_filter,atomsP_mem] at hx ⊢
  refine⟨?_,hx.2⟩
  unfold keysP
  exact List.mem_append_right _ ((keysL_mem x ks).2 ⟨q,hq,hx.1⟩)
section
variable {α:Type} {EL:World→(Nat→Prop)→α→List Value→Prop} {k base:Nat}
theorem RowM.join (hE:Keeps EL) {w0 w2 wa:World} {lo lo2:Nat} {bad:Nat→Prop} {ao a2:Option Addr} {n cp m c2 g5 off5 c5:Nat} {xs ys:List α} {vss uss:List (List Value)} (h:RowM EL k base w2 lo bad ao n cp xs vss)
  (hao:∀ g,blk ao=some g→g<w0.heap.size) (hb0:base≤w0.heap.size) (hbad:∀ g,bad g→g<w0.heap.size)
  (h2:RowM EL k w0.heap.size w2 lo2 (fun _=>False) a2 m c2 ys uss) (ho:OwnK wa lo k (n+m) c5 (vss.flatten++uss.flatten) (some ⟨g5,off5,none⟩)) (hg:w2.grownBy wa (blk ao)) (hor:blk ao=some g5∨w2.heap.size≤g5) :
  RowM EL k base wa lo bad (some ⟨g5,off5,none⟩) (n+m) c5 (xs++ys) (vss++uss):=by
 have hnew:∀ g,blk ao≠some g→g<w2.heap.size→blk (some (⟨g5,off5,none⟩:Addr))≠some g:=fun g hb hl e=>by
  have e':g5=g:=Option.some.inj e
  subst e'
  rcases hor with h1 | h1
  ·exact hb h1
  ·omega
 have hlen:=h.len
 have hlen2:=h2.len
 refine⟨by rw[List.flatten_append];exact ho,by rw[List.length_append,List.length_append,hlen,hlen2],by rw[List.length_append,← h.cnt,← h2.cnt],fun us hu=>?_,?_⟩
 ·rcases List.mem_append.1 hu with hu | hu
  ·exact h.elk us hu
  ·exact h2.elk us hu
 intro i y us hq hu
 by_cases hi:i<xs.length
 ·rw[List.getElem?_append_left hi] at hq
  rw[List.getElem?_append_left (by omega)] at hu
  exact hE w2 wa (fun g=>base≤g∧¬ bad g∧blk ao≠some g) _ y us (fun g hx hl=>hg.block g hl (fun e=>hx.2.2 e.symm)) hg.size (fun g hx hl=>⟨hx.1,hx.2.1,hnew g hx.2.2 hl⟩) (h.each i y us hq hu)
 ·rw[List.getElem?_append_right (by omega)] at hq hu
  rw[hlen] at hu
  have hne:∀ g,w0.heap.size≤g→blk ao≠some g:=fun g hge e=>by
   have:=hao g e
   omega
  exact hE w2 wa (fun g=>w0.heap.size≤g∧¬ False∧blk a2≠some g) _ y us (fun g hx hl=>hg.block g hl (fun e=>hne g hx.1 e.symm)) hg.size (fun g hx hl=>⟨Nat.le_trans hb0 hx.1,fun hb=>by have:=hbad g hb;have:=hx.1;omega,hnew g (hne g hx.1) hl⟩) (h2.each (i-xs.length) y us hq hu)
theorem RowM.cells {wr:World} {lo:Nat} {bad:Nat→Prop} {ao:Option Addr} {n cp:Nat} {xs:List α} {vss:List (List Value)} (h:RowM EL k base wr lo bad ao n cp xs vss) (hn:0<n) :
  ∃ g off,ao=some ⟨g,off,none⟩∧Reads wr g off vss.flatten∧vss.flatten.length=n*k:=by
 have hc:=h.own.count
 cases ao with
 | none=>cases h.own with | nil h1 h2 h3=>omega
 | some a =>
  obtain⟨g,off,si⟩:=a
  cases h.own with
  | «at» g off h1 h2 h3 h4=>exact⟨g,off,rfl,fun j u hj=>h1.cells j u hj,hc⟩
theorem RowM.blk_lt {wr:World} {lo:Nat} {bad:Nat→Prop} {ao:Option Addr} {n cp:Nat} {xs:List α} {vss:List (List Value)} (h:RowM EL k base wr lo bad ao n cp xs vss) (g:Nat) (e:blk ao=some g):lo≤g∧g<wr.heap.size:=by
 cases ao with
 | none=>cases e
 | some a =>
  obtain⟨g',off,si⟩:=a
  cases h.own with
  | «at» g' off h1 h2 h3 h4 =>
   have e':g'=g:=Option.some.inj e
   subst e'
   exact⟨h1.own,h1.lt⟩
end
theorem atom_kids {q:Prd} (h0:q.k=0) (hf:formP q=true):q.ks=[]:=by
 obtain⟨k,l,r,c,ks⟩:=q
 have h0':k=0:=h0
 unfold formP at hf
 rw[if_pos h0'] at hf
 simp only[Bool.and_eq_true] at hf
 have:ks=[]:=by simpa using hf.1.1.1
 exact this
theorem PredC.atom {w w':World} {P P':Nat→Prop} {q:Prd} {vs:List Value} (hk:q.ks=[]) (h:PredC w P q vs):PredC w' P' q vs:=by
 obtain⟨k,l,r,c,ks⟩:=q
 have hk':ks=[]:=hk
 subst hk'
 unfold PredC at h ⊢
 obtain⟨ao,cap,h1,-⟩:=h
 exact⟨ao,cap,h1,.inl rfl⟩
theorem plnG_atoms:∀ (S:List Ky) (ks:List Prd),plnG S ks=true→∀ q∈ks,q.k=0
 | S,[],_,q,hq=>absurd hq List.not_mem_nil
 | S,p::ps,h,q,hq=>by
  simp only[plnG,Bool.and_eq_true,beq_iff_eq] at h
  rcases List.mem_cons.1 hq with rfl | hq
  ·exact h.1
  ·exact plnG_atoms _ ps h.2.2.2 q hq
theorem outU_len (t:Nat→Bool) (l:List Ky):∀ s,(outU t l s).length≤s
 | 0=>by simp[outU]
 | s+1=>by
  have:=outU_len t l s
  simp only[outU]
  split<;>simp<;>omega
theorem clausesP_len (p:Prd) (h8:(properP p).length≤8):(clausesP p).length≤256:=by
 unfold clausesP
 rw[List.length_mergeSort]
 exact Nat.le_trans (outU_len _ _ _) (Nat.le_trans (Nat.pow_le_pow_right (by omega) h8) (by decide))
theorem choP_len0 (p:Prd) (h8:(properP p).length≤8):((clausesP p).map clC).length≤256:=by
 have h:((clausesP p).map clC).length=(clausesP p).length:=List.length_map _
 exact h ▸ clausesP_len p h8
mutual
theorem choP_len:∀ p:Prd,(properP p).length≤8→(choP p).length≤cntP p*256
 | .mk k l r c ks,h8=>by
  unfold choP cntP
  split
  ·rw[List.length_singleton];omega
  ·split
   ·exact Nat.le_trans (choL_len ks (fun q hq=>Nat.le_trans (proper_kid hq) h8)) (Nat.mul_le_mul_right 256 (Nat.le_add_left _ 1))
   ·exact Nat.le_trans (choP_len0 _ h8) (Nat.le_mul_of_pos_left 256 (Nat.lt_of_lt_of_le Nat.zero_lt_one (Nat.le_add_right 1 _)))
theorem choL_len:∀ ks:List Prd,(∀ q∈ks,(properP q).length≤8)→(choL ks).length≤cntL ks*256
 | [],_=>by simp[choL]
 | p::ps,h=>by
  have h1:=choP_len p (h p (by simp))
  have h2:=choL_len ps (fun q hq=>h q (by simp[hq]))
  unfold choL cntL
  rw[List.length_append]
  omega
end
end
section
open Go.RowKit Go.Sort
def ChoR (w:World) (cs:List Chc) (e:Ending) (w':World):Prop:=∃ ao cp vss,e = .returned (.slice ao cs.length cp)∧RowM ChE 2 w.heap.size w' w.heap.size (fun _=>False) ao cs.length cp cs vss∧Below w.heap.size w w'
theorem ChoR.after {w w1 w':World} {cs:List Chc} {e:Ending} (h:ChoR w1 cs e w') (hb:Below w.heap.size w w1):ChoR w cs e w':=by
 obtain⟨ao,cp,vss,h1,h2,h3⟩:=h
 exact⟨ao,cp,vss,h1,h2.lower ChE.keeps hb.size hb.size,hb.trans (h3.mono hb.size)⟩
theorem one_choice {w w2:World} {g off cap:Nat} {c:Int} {ks:List Prd} {vss:List (List Value)} {P:Nat→Prop} (hb:Below w.heap.size w w2) (hO:OwnK w2 w.heap.size 5 ks.length cap vss.flatten (some ⟨g,off,none⟩)) (hl:vss.length=ks.length) (hks:∀ q∈ks,q.ks=[])
  (hv:∀ (i:Nat) (p:Prd) (vs:List Value),ks[i]?=some p→vss[i]?=some vs→PredC w P p vs) :
  ChoR w [⟨c,ks⟩] (.returned (.slice (some ⟨w2.heap.size,0,none⟩) 1 1)) (w2.alloc (.cells #[.int .i64 c,.slice (some ⟨g,off,none⟩) ks.length cap] 47)):=by
 have hA:Below w2.heap.size w2 (w2.alloc (.cells #[.int .i64 c,.slice (some ⟨g,off,none⟩) ks.length cap] 47)):=(Below.refl _ _).alloc (Nat.le_refl _) _
 have hO2:=hO.below hA
 refine⟨_,_,[[.int .i64 c,.slice (some ⟨g,off,none⟩) ks.length cap]],rfl,⟨?_,rfl,rfl,fun vs h=>by rw[List.mem_singleton] at h;rw[h];rfl,?_⟩,hb.trans (hA.mono hb.size)⟩
 ·refine .at w2.heap.size 0 ⟨hb.size,by simp,by simp,fun j u hj=>?_,fun j hj=>?_,fun j hj=>?_⟩ rfl (by simp[maxLen]) (Nat.le_refl _)
  ·have:=cells_new w2 #[.int .i64 c,.slice (some ⟨g,off,none⟩) ks.length cap] 47 j
   rw[Addr.add_lit] at this
   rw[this]
   have e:[[Value.int .i64 c,.slice (some ⟨g,off,none⟩) ks.length cap]].flatten=[Value.int .i64 c,.slice (some ⟨g,off,none⟩) ks.length cap]:=rfl
   rw[e] at hj
   rw[← hj]
   simp
  ·have:=cells_new w2 #[.int .i64 c,.slice (some ⟨g,off,none⟩) ks.length cap] 47 j
   rw[Addr.add_lit] at this
   rw[this]
   have h2:j<2:=hj
   rw[Array.getElem?_eq_getElem h2];rfl
  ·have h:=heap_alloc_new w2 (.cells #[.int .i64 c,.slice (some ⟨g,off,none⟩) ks.length cap] 47)
   unfold World.frozen?
   simp only[h]
   simp
 ·intro i x vs hx hu
  have hi:i=0:=by
   have:=(List.getElem?_eq_some_iff.1 hx).1
   simpa using this
  subst hi
  obtain rfl:(⟨c,ks⟩:Chc)=x:=by simpa using hx
  obtain rfl:[Value.int .i64 c,.slice (some ⟨g,off,none⟩) ks.length cap]=vs:=by simpa using hu
  refine⟨_,cap,rfl,.inr ⟨g,off,rfl,?_,?_,?_⟩⟩
  ·cases hO with
   | «at» g off h1=>exact⟨h1.own,not_false,fun e=>by have e':w2.heap.size=g:=Option.some.inj e;have:=h1.lt;omega⟩
  ·cases hO2 with
   | «at» g off h1=>exact h1.lt
  ·refine KidsC.of ks vss g off hl (fun i q us hq hu=>(hv i q us hq hu).atom (hks q (List.mem_of_getElem? hq))) ?_
   cases hO2 with
   | «at» g off h1=>exact fun j u hj=>h1.cells j u hj
theorem app_nil {ops:Array Oper} {rest:List Oper} {o:Oper} {a:Act} {Q:Exit→Act→World→Prop} (w1:World) (hg:o.guard=none) (s x:Operand) (hop:o.op=Op.call { callee:=Callee.builtin Builtin.append,args:=#[s,x],argTypes:=#[41,41] })
  (ao:Option Addr) (cap n:Nat) (hs:a.eval s = .slice ao n cap) (hn:n≤cap) (xo:Option Addr) (c:Nat) (hx:a.eval x = .slice xo 0 c)
  (hK:wpList Tryz.prog ops Q rest (a.put o.dst (.slice ao n cap)) w1):wpList Tryz.prog ops Q (o::rest) a w1 :=
 wpList_plain hg fun K hK'=>by
  have hrun:=app_none w1 ao n cap hn xo c o.type
  unfold Oper.wp
  simp[execOp,hop,resolve,invoke,builtin,hs,hx,hrun,Result.andThen]
  exact hK' _ _ hK
theorem ChE.ones {wr:World} {base lo:Nat} {bad:Nat→Prop} {ao:Option Addr} {n cp:Nat} {xs:List Chc} {vss:List (List Value)} (h:RowM ChE 2 base wr lo bad ao n cp xs vss):∀ u∈vss.flatten,u.oneCell'=true:=by
 intro u hu
 obtain⟨vs,hvs,hu⟩:=List.mem_flatten.1 hu
 obtain⟨i,hi⟩:=List.mem_iff_getElem?.1 hvs
 have hil:=(List.getElem?_eq_some_iff.1 hi).1
 have hx:xs[i]?=some (xs[i]'(by rw[← h.len];exact hil)):=List.getElem?_eq_getElem _
 obtain⟨a,c,rfl,-⟩:=h.each i _ vs hx hi
 simp at hu
 rcases hu with rfl | rfl<;>rfl
theorem cho_plain (w:World) (P:Nat→Prop) (κ:Int) (l r:List Nat) (c:Int) (ks:List Prd) (ao:Option Addr) (n cap:Nat) (hn:n=ks.length) (hn0:0<n) (hbig:n≤1000000)
  (hk:∃ g off,ao=some ⟨g,off,none⟩∧P g∧g<w.heap.size∧KidsC w P ks g off) (hks:∀ q∈ks,q.ks=[])
  (hpl:∀ W,Below w.heap.size w W→Calls Tryz.prog 162 #[.agg #[.int .i64 κ,.string (strN l),.string (strN r),.int .i64 c,.slice ao n cap]] W fun e w'=>e = .returned (.bool true)∧RowKit.Below W.heap.size W w') :
  Calls Tryz.prog 94 #[.agg #[.int .i64 κ,.string (strN l),.string (strN r),.int .i64 c,.slice ao n cap]] w (ChoR w [⟨c,ks⟩]):=by
 have bx:=(Below.refl w.heap.size w).alloc (Nat.le_refl _) (.cells #[.int .i64 κ,.string (strN l),.string (strN r),.int .i64 c,.slice ao n cap] 25)
 have B1:=ħ bx
 have X1:Hid (HasV (w.alloc (.cells #[.int .i64 κ,.string (strN l),.string (strN r),.int .i64 c,.slice ao n cap] 25)) w.heap.size 25 [.int .i64 κ,.string (strN l),.string (strN r),.int .i64 c,.slice ao n cap]):=ħ (heap_alloc_new w _)
 have HPL:=ħ hpl
 obtain⟨gk,off,hao,hP,hg,hkc⟩:=hk
 obtain⟨vss,hv1,hv2,hv3,hv4,hv5⟩:=KidsC.cells ks gk off hkc
 have HV1:=ħ hv1
 have HV2:=ħ hv2
 have HCL:=ħ (fun W (hW:Below w.heap.size w W)=>kclone_any W gk off n cap vss.flatten hn0 hbig (by rw[hn];exact hv4) hv5 (Nat.lt_of_lt_of_le hg hW.size) (hv3.of_block (hW.block gk hg)))
 have HKS:=ħ hks
 have HNN:=ħ hn
 subst hao
 clear bx hpl hkc hv1 hv2 hv3 hv4 hv5 hks hn
 generalize strN l=y at *
 generalize strN r=z at *
 go_enter Tryz.func94,Tryz.ntmps94
 go_upto_region 1 with (fail)
 generalize w.alloc (.cells #[.int .i64 κ,.string y,.string z,.int .i64 c,.slice (some ⟨gk,off,none⟩) n cap] 25)=w1 at *
 go_wp2_with (refine wpList_load_row rfl 25 (.tmp 1) rfl w.heap.size ?x1 25 #[.int .i64 κ,.string y,.string z,.int .i64 c,.slice (some ⟨gk,off,none⟩) n cap] (0,0) _ X1.o Tryz.underlying25 rfl (inf_pred _ rfl) ?_;(case x1=>rfl))
 refine (HPL.o w1 B1.o).mono ?_
 rintro e w2 ⟨rfl,b2⟩
 have B2:=ħ (B1.o.trans (b2.mono B1.o.size))
 have X2:=ħ (X1.o.step b2)
 clear b2 B1 X1 HPL
 go_upto_region 2 with (fail)
 have HB:Hid (w.heap.size<w2.heap.size):=ħ X2.o.lt
 have c3:=X2.o.cell 3 _ rfl
 have c4:=X2.o.cell 4 _ rfl
 refine wp_region_pick [0,1,2,3] [4,5,6,7] (fun w'=>w'.cell? ⟨w.heap.size,3,none⟩=some (.int .i64 c)∧w'.cell? ⟨w.heap.size,4,none⟩=some (.slice (some ⟨gk,off,none⟩) n cap)) (by kernel_rfl) (by kernel_rfl) (by kernel_rfl) (fun _ _ d _ _ h=>by cases d<;>exact h) ⟨c3,c4⟩ ?_
 simp only[pickI,List.filterMap_cons,List.filterMap_nil,List.getElem?_cons_zero,List.getElem?_cons_succ,Option.map_some,List.map_cons,List.map_nil]
 apply Exists.intro
 refine⟨?hh,?ht⟩
 case hh =>
  intro w' hw'
  obtain⟨c3,c4⟩:=hw'
  repeat still_step
  exact wpStill_nil rfl
 case ht =>
  have BD:Below w2.heap.size w2 w2.drew:=(Below.refl w2.heap.size w2).drew
  have B3:=ħ (B2.o.trans (BD.mono B2.o.size))
  have X3:=ħ (X2.o.step BD)
  clear BD B2 X2 c3 c4 HB
  generalize w2.drew=w3 at *
  refine wpTailT_cons ?_
  go_wp2_with fail
  refine (HCL.o w3 B3.o).mono ?_
  rintro e w4 ⟨g',off',cap',rfl,o4,b4⟩
  have O4:=ħ (o4.lower (B':=w.heap.size) B3.o.size)
  have B4:=ħ (B3.o.trans (b4.mono B3.o.size))
  have X4:=ħ (X3.o.step b4)
  clear o4 b4 X3 B3 HCL
  have c3:=X4.o.cell 3 _ rfl
  have c4:=X4.o.cell 4 _ rfl
  go_wp2_with fail
  refine postOf_normal ⟨⟨c3,c4⟩,?_⟩
  refine wpTailT_cons ?_
  go_wp2_with fail
  refine postOf_normal ⟨⟨c3,c4⟩,?_⟩
  have HR:Hid (ChoR w [⟨c,ks⟩] (.returned (.slice (some ⟨w4.heap.size,0,none⟩) 1 1)) (w4.alloc (.cells #[.int .i64 c,.slice (some ⟨g',off',none⟩) n cap'] 47))):=ħ (by
   have o:=O4.o
   rw[HNN.o] at o ⊢
   exact one_choice B4.o o HV1.o HKS.o HV2.o)
  have hA:Below w4.heap.size w4 (w4.alloc (.cells #[.int .i64 c,.slice (some ⟨g',off',none⟩) n cap'] 47)):=(Below.refl _ _).alloc (Nat.le_refl _) _
  have X5:=ħ (X4.o.step hA)
  clear hA X4 O4 B4 c3 c4
  have c3:=X5.o.cell 3 _ rfl
  have c4:=X5.o.cell 4 _ rfl
  refine wpTailT_cons ?_
  go_wp2_with fail
  refine postOf_normal ⟨⟨c3,c4⟩,?_⟩
  refine wpTailT_one ?_
  go_wp2_with fail
  go_wp2
  go_ret
  exact HR.o
theorem cho_some (w:World) (P:Nat→Prop) (κ:Int) (l r:List Nat) (c:Int) (ks:List Prd) (ao:Option Addr) (n cap:Nat) (hκ:κ≠1) (cs:List Chc)
  (hpl:∀ W,Below w.heap.size w W→Calls Tryz.prog 162 #[.agg #[.int .i64 κ,.string (strN l),.string (strN r),.int .i64 c,.slice ao n cap]] W fun e w'=>e = .returned (.bool false)∧RowKit.Below W.heap.size W w')
  (hcl:∀ W,Below w.heap.size w W→Calls Tryz.prog 164 #[.agg #[.int .i64 κ,.string (strN l),.string (strN r),.int .i64 c,.slice ao n cap]] W (ChoR W cs)) :
  Calls Tryz.prog 94 #[.agg #[.int .i64 κ,.string (strN l),.string (strN r),.int .i64 c,.slice ao n cap]] w (ChoR w cs):=by
 have bx:=(Below.refl w.heap.size w).alloc (Nat.le_refl _) (.cells #[.int .i64 κ,.string (strN l),.string (strN r),.int .i64 c,.slice ao n cap] 25)
 have B1:=ħ bx
 have X1:Hid (HasV (w.alloc (.cells #[.int .i64 κ,.string (strN l),.string (strN r),.int .i64 c,.slice ao n cap] 25)) w.heap.size 25 [.int .i64 κ,.string (strN l),.string (strN r),.int .i64 c,.slice ao n cap]):=ħ (heap_alloc_new w _)
 have HPL:=ħ hpl
 have HCL:=ħ hcl
 clear bx hpl hcl
 generalize strN l=y at *
 generalize strN r=z at *
 go_enter Tryz.func94,Tryz.ntmps94
 go_upto_region 1 with (fail)
 generalize w.alloc (.cells #[.int .i64 κ,.string y,.string z,.int .i64 c,.slice ao n cap] 25)=w1 at *
 go_wp2_with (refine wpList_load_row rfl 25 (.tmp 1) rfl w.heap.size ?x1 25 #[.int .i64 κ,.string y,.string z,.int .i64 c,.slice ao n cap] (0,0) _ X1.o Tryz.underlying25 rfl (inf_pred _ rfl) ?_;(case x1=>rfl))
 refine (HPL.o w1 B1.o).mono ?_
 rintro e w2 ⟨rfl,b2⟩
 have B2:=ħ (B1.o.trans (b2.mono B1.o.size))
 have X2:=ħ (X1.o.step b2)
 clear b2 B1 X1 HPL
 have x0:=X2.o.cell 0 _ rfl
 go_wp2_with (refine wpList_load_row rfl 25 (.tmp 1) rfl w.heap.size (by rfl) 25 #[.int .i64 κ,.string y,.string z,.int .i64 c,.slice ao n cap] (0,0) _ X2.o Tryz.underlying25 rfl (inf_pred _ rfl) ?_)
 refine (HCL.o w2 B2.o).mono ?_
 intro e w3 hr
 have HR:=ħ (hr.after B2.o)
 obtain⟨a3,c3,v3,rfl,-,-⟩:=hr
 clear x0
 go_wp2
 go_ret
 exact HR.o
theorem cho_all (w:World) (P:Nat→Prop) (κ:Int) (l r:List Nat) (c:Int) (ks:List Prd) (ao:Option Addr) (n cap:Nat) (hκ:κ=1) (hn:n=ks.length) (hbig:n≤1000000) (hlen:(choL ks).length≤500000000)
  (hk:ks=[]∨∃ g off,ao=some ⟨g,off,none⟩∧P g∧g<w.heap.size∧KidsC w P ks g off)
  (hpl:∀ W,Below w.heap.size w W→Calls Tryz.prog 162 #[.agg #[.int .i64 κ,.string (strN l),.string (strN r),.int .i64 c,.slice ao n cap]] W fun e w'=>e = .returned (.bool false)∧RowKit.Below W.heap.size W w')
  (ih:∀ (q:Prd) (W:World) (vs:List Value),q∈ks→w.heap.size≤W.heap.size→PredC W P q vs→Calls Tryz.prog 94 #[.agg vs.toArray] W (ChoR W (choP q))) :
  Calls Tryz.prog 94 #[.agg #[.int .i64 κ,.string (strN l),.string (strN r),.int .i64 c,.slice ao n cap]] w (ChoR w (choL ks)):=by
 have bx:=(Below.refl w.heap.size w).alloc (Nat.le_refl _) (.cells #[.int .i64 κ,.string (strN l),.string (strN r),.int .i64 c,.slice ao n cap] 25)
 have B1:=ħ bx
 have X1:Hid (HasV (w.alloc (.cells #[.int .i64 κ,.string (strN l),.string (strN r),.int .i64 c,.slice ao n cap] 25)) w.heap.size 25 [.int .i64 κ,.string (strN l),.string (strN r),.int .i64 c,.slice ao n cap]):=ħ (heap_alloc_new w _)
 have HPL:=ħ hpl
 have IH:=ħ ih
 have HK:=ħ hk
 have HN:=ħ hn
 have HLEN:=ħ hlen
 subst hκ
 clear bx hpl ih hk hn hlen
 generalize strN l=y at *
 generalize strN r=z at *
 go_enter Tryz.func94,Tryz.ntmps94
 go_upto_region 1 with (fail)
 generalize w.alloc (.cells #[.int .i64 1,.string y,.string z,.int .i64 c,.slice ao n cap] 25)=w1 at *
 go_wp2_with (refine wpList_load_row rfl 25 (.tmp 1) rfl w.heap.size ?x1 25 #[.int .i64 1,.string y,.string z,.int .i64 c,.slice ao n cap] (0,0) _ X1.o Tryz.underlying25 rfl (inf_pred _ rfl) ?_;(case x1=>rfl))
 refine (HPL.o w1 B1.o).mono ?_
 rintro e w2 ⟨rfl,b2⟩
 have B2:=ħ (B1.o.trans (b2.mono B1.o.size))
 have X2:=ħ (X1.o.step b2)
 clear b2 B1 X1 HPL
 have x0:=X2.o.cell 0 _ rfl
 have x4:=X2.o.cell 4 _ rfl
 go_wp2_with fail
 clear x0 x4 X2
 have R0:Hid (RowM ChE 2 w.heap.size w2 w.heap.size (fun _=>False) none 0 0 (choL (ks.take 0)) []):=ħ (.nil _ _ _)
 go_loopw [2,24] (fun c1 c2 wr=>∃ (i m:Nat) (a3:Option Addr) (cp:Nat) (vss:List (List Value)),c1 = .slice a3 m cp∧c2 = .int .i64 i∧i≤n∧m≤500000000∧m≤cp∧Hid (RowM ChE 2 w.heap.size wr w.heap.size (fun _=>False) a3 m cp (choL (ks.take i)) vss)∧Hid (Below w.heap.size w wr)) (fun _ c2 _=>(n-intOf c2).toNat)
 case atStart=>exact⟨0,0,none,0,[],rfl,rfl,by omega,by omega,by omega,R0,B2⟩
 case round =>
  clear R0 B2
  obtain⟨i,m,a3,cp,vss,rfl,rfl,hi,hm,hmc,hr,hw⟩:=hrel
  have e2:IntKind.i64.wrap ((i:Int)+1)=((i+1:Nat):Int):=IntWalk.i64_in _ (by omega)
  by_cases hlt:i<n
  ·have ii:(i:Int)<n:=by omega
   have HQ:Hid (∃ q,ks[i]?=some q∧∃ g off,ao=some ⟨g,off,none⟩∧g<w.heap.size∧∃ vs,PredC wr P q vs∧Reads wr g (off+i*5) vs):=ħ (by
    have hl:i<ks.length:=by rw[← HN.o];exact hlt
    refine⟨ks[i],List.getElem?_eq_getElem hl,?_⟩
    rcases HK.o with h | ⟨g,off,h1,h2,h3,h4⟩
    ·rw[h] at hl;exact absurd hl (Nat.not_lt_zero _)
    ·obtain⟨vs,hv1,hv2⟩:=KidsC.at ks g off i _ (List.getElem?_eq_getElem hl) h4
     exact⟨g,off,h1,h3,vs,hv1.below hw.o,hv2.of_block (hw.o.block g h3)⟩)
   obtain⟨q,hqi,gk,off,hao,hg,vs,hpc,hrd⟩:=HQ.o
   clear HQ
   have HQI:=ħ hqi
   obtain⟨xa,xn,xc,hvf,-⟩:=hpc.form
   rw[hvf] at hrd hpc
   have PC:=ħ hpc
   have s0:=hrd 0 _ rfl
   have s1:=hrd 1 _ rfl
   have s2:=hrd 2 _ rfl
   have s3:=hrd 3 _ rfl
   have s4:=hrd 4 _ rfl
   clear hrd hpc hvf vs hqi
   rw[Nat.add_zero] at s0
   have HAO:=ħ hao
   subst hao
   generalize q.k=q0 at *
   generalize strN q.l=q1 at *
   generalize strN q.r=q2 at *
   generalize q.c=q3 at *
   go_wp2_with fail
   have bx:=(Below.refl wr.heap.size wr).alloc (Nat.le_refl _) (.cells #[.int .i64 q0,.string q1,.string q2,.int .i64 q3,.slice xa xn xc] 25)
   have W2:=ħ (hw.o.trans (bx.mono hw.o.size))
   have PX:=ħ (PC.o.below bx)
   have R2:=ħ (hr.o.step ChE.keeps bx)
   clear s0 s1 s2 s3 s4 bx hw PC hr
   generalize wr.alloc (.cells #[.int .i64 q0,.string q1,.string q2,.int .i64 q3,.slice xa xn xc] 25)=wx at *
   refine (IH.o q wx _ (List.mem_of_getElem? HQI.o) W2.o.size PX.o).mono ?_
   rintro e w3 ⟨a4,cp4,v4,rfl,r4,b4⟩
   have HTK:Hid (choL (ks.take (i+1))=choL (ks.take i)++choP q):=ħ (by
    rw[List.take_add_one,HQI.o,choL_append]
    show _++choL [q]=_
    rw[show choL [q]=choP q by simp[choL]])
   have HLT:Hid ((choL (ks.take i)).length+(choP q).length≤500000000):=ħ (by
    have h1:choL ks=choL (ks.take (i+1))++choL (ks.drop (i+1)):=by rw[← choL_append,List.take_append_drop]
    have:=HLEN.o
    rw[h1,HTK.o] at this
    simp only[List.length_append] at this
    omega)
   have HM:Hid (m=(choL (ks.take i)).length):=ħ R2.o.cnt
   have R3:=ħ (R2.o.step ChE.keeps b4)
   have Q3:=ħ r4
   have W3:=ħ (W2.o.trans (b4.mono W2.o.size))
   have HAL:Hid (∀ g,blk a3=some g→g<wx.heap.size):=ħ (fun g e=>(R2.o.blk_lt g e).2)
   have WS:=ħ W2.o.size
   clear r4 b4 R2 W2 PX
   obtain⟨d,hd⟩:∃ d,(choP q).length=d:=⟨_,rfl⟩
   have HD:=ħ hd
   have hmd:m+d≤500000000:=by rw[HM.o,← hd];exact HLT.o
   rw[hd]
   rw[hd] at Q3
   clear hd
   rcases Nat.eq_zero_or_pos d with rfl | hpos
   ·go_wp2_with (at_builtin;refine app_nil w3 rfl (.tmp 28) (.tmp 30) rfl a3 cp m ?r1 hmc a4 cp4 ?r2 ?_;(case r1=>rfl);(case r2=>rfl))
    have HE:Hid (choL (ks.take (i+1))=choL (ks.take i)):=ħ (by rw[HTK.o,List.eq_nil_of_length_eq_zero HD.o,List.append_nil])
    go_roundw
    case rel=>exact⟨i+1,m,a3,cp,vss,rfl,by go_num,by omega,hm,hmc,ħ (by rw[HE.o];exact R3.o),W3⟩
    case measure=>simp only[intOf];omega
   ·obtain⟨g6,off6,rfl,hrd6,hln6⟩:=Q3.o.cells hpos
    have RD6:=ħ hrd6
    have LN6:=ħ hln6
    have H16:Hid (∀ u∈v4.flatten,u.oneCell'=true):=ħ (ChE.ones Q3.o)
    clear hrd6 hln6
    go_wp2_with (at_builtin;refine app_s 41 47 (.agg #[.int .i64 0,.slice none 0 0]) 2 32 Tryz.underlying41 info_chc rfl (by omega) (by omega) w3 w.heap.size rfl (.tmp 28) (.tmp 30) rfl a3 cp m vss.flatten ?q1 R3.o.own ?q5 g6 off6 d cp4 v4.flatten ?q2 LN6.o hpos RD6.o H16.o ?q4 ?_;(case q1=>rfl);(case q5=>exact W3.o.size);(case q2=>rfl);(case q4=>omega);intro g5 off5 c5 wa o8 gr8 or8;have JR:=ħ (RowM.join (w0:=wx) ChE.keeps R3.o HAL.o WS.o (fun g hg=>hg.elim) Q3.o o8 gr8 or8);have GW:=ħ gr8;clear o8 gr8 or8)
    have W5:=ħ (show Below w.heap.size w _ from W3.o.trans ⟨GW.o.os,GW.o.tape,GW.o.output,GW.o.size,fun k hk=>GW.o.block k (Nat.lt_of_lt_of_le hk W3.o.size) (fun e=>by have:=(R3.o.blk_lt k e.symm).1;omega)⟩)
    go_roundw
    case rel=>exact⟨i+1,m+d,some ⟨g5,off5,none⟩,c5,vss++v4,rfl,by go_num,by omega,hmd,(by have:=JR.o.own.len_le;exact this.1),ħ (by rw[HTK.o];exact JR.o),W5⟩
    case measure=>simp only[intOf];omega
  ·have ii:¬ ((i:Int)<n):=by omega
   have HT:Hid (ks.take i=ks):=ħ (by rw[show i=ks.length by rw[← HN.o];omega,List.take_length])
   have HM:Hid (m=(choL ks).length):=ħ (by have:=hr.o.cnt;rw[HT.o] at this;exact this)
   go_wp2
   go_ret
   refine⟨a3,cp,vss,(show _=Ending.returned (.slice a3 m cp) from rfl).trans (by rw[HM.o]),?_,hw.o⟩
   have:=hr.o
   rw[HT.o,HM.o] at this
   exact this
theorem choices_any:∀ (N:Nat) (p:Prd) (w:World) (P:Nat→Prop) (vs:List Value),cntP p≤N→N≤1000000→formP p=true→(properP p).length≤8→PredC w P p vs→(∀ g,P g→g<w.heap.size) →
  Calls Tryz.prog 94 #[.agg vs.toArray] w (ChoR w (choP p))
 | 0,p,w,P,vs,hN,_,_,_,_,_=>by have:=cnt_pos p;omega
 | N+1,.mk κ l r c ks,w,P,vs,hN,hM,hf,h8,h,hP=>by
  have hc2:cntL ks≤N:=by unfold cntP at hN;omega
  have hl:=len_le_cntL ks
  have hbig:ks.length≤1000000:=by omega
  have hfk:κ≠0→∀ q∈ks,formP q=true:=fun hκ q hq=>by
   unfold formP at hf
   rw[if_neg hκ] at hf
   simp only[Bool.and_eq_true] at hf
   exact (formL_iff ks).1 hf.2 q hq
  have hpl:∀ vs W,PredC w P (.mk κ l r c ks) vs→Below w.heap.size w W→Calls Tryz.prog 162 #[.agg vs.toArray] W fun e w'=>e = .returned (.bool (plainP (.mk κ l r c ks)))∧RowKit.Below W.heap.size W w' :=
   fun vs W h hW=>plnp_any W P _ vs hf hbig (h.below hW) (fun g hg=>Nat.lt_of_lt_of_le (hP g hg) hW.size)
  have hclau:∀ vs W,PredC w P (.mk κ l r c ks) vs→Below w.heap.size w W→Calls Tryz.prog 164 #[.agg vs.toArray] W (ChoR W ((clausesP (.mk κ l r c ks)).map clC)) :=
   fun vs W h hW=>clau_any W P _ vs (h.below hW) hf (by omega) h8
  have h0:=h
  unfold PredC at h
  obtain⟨ao,cap,rfl,hk⟩:=h
  cases hp:plainP (.mk κ l r c ks) with
  | true =>
   have e:choP (.mk κ l r c ks)=[⟨c,ks⟩]:=by unfold choP;rw[if_pos hp]
   have hp2:=hp
   unfold plainP at hp2
   simp only[Bool.and_eq_true,beq_iff_eq] at hp2
   obtain⟨hp3,hp4⟩:=hp2
   have hκ:κ=3:=hp4
   have hlb:listB κ ks.length c=true:=by
    unfold formP at hf
    rw[if_neg (by rw[hκ];decide)] at hf
    simp only[Bool.and_eq_true] at hf
    exact hf.1.1.1
   have hpos:0<ks.length:=by
    unfold listB at hlb
    rw[hκ] at hlb
    simp at hlb
    omega
   rw[e]
   refine cho_plain w P κ l r c ks ao ks.length cap rfl hpos hbig ?_ (fun q hq=>atom_kids (plnG_atoms [] ks hp3 q hq) (hfk (by rw[hκ];decide) q hq)) (fun W hW=>by have:=hpl _ W h0 hW;rw[hp] at this;exact this)
   rcases hk with h | h
   ·rw[h] at hpos;exact absurd hpos (Nat.lt_irrefl _)
   ·exact h
  | false =>
   by_cases hκ:κ=1
   ·have e:choP (.mk κ l r c ks)=choL ks:=by unfold choP;rw[if_neg (by rw[hp];simp),if_pos hκ]
    rw[e]
    refine cho_all w P κ l r c ks ao ks.length cap hκ rfl hbig (Nat.le_trans (choL_len ks (fun q hq=>Nat.le_trans (proper_kid hq) h8)) (by omega)) hk (fun W hW=>by have:=hpl _ W h0 hW;rw[hp] at this;exact this) (fun q W vs hq hW hpc=>?_)
    exact choices_any N q W P vs (by
     obtain⟨i,hi⟩:=List.mem_iff_getElem?.1 hq
     have:=cnt_kid ks i q hi
     omega) (by omega) (hfk (by rw[hκ];decide) q hq) (Nat.le_trans (proper_kid hq) h8) hpc (fun g hg=>Nat.lt_of_lt_of_le (hP g hg) hW)
   ·have e:choP (.mk κ l r c ks)=(clausesP (.mk κ l r c ks)).map clC:=by unfold choP;rw[if_neg (by rw[hp];simp),if_neg hκ]
    rw[e]
    exact cho_some w P κ l r c ks ao ks.length cap hκ _ (fun W hW=>by have:=hpl _ W h0 hW;rw[hp] at this;exact this) (fun W hW=>hclau _ W h0 hW)
end
section
open Go.RowKit Go.Sort
def normP (p:Prd):Except Int (List Chc) :=
 if validP p=false then .error 1 else if 8<(properP p).length then .error 6 else if 100<(choP p).length then .error 6 else .ok (choP p)
def NormR (w:World) (r:Except Int (List Chc)) (e:Ending) (w':World):Prop:=Below w.heap.size w w'∧match r with
 | .error x=>e = .returned (.tuple #[.slice none 0 0,.int .i64 x])
 | .ok cs=>∃ ao cp vss,e = .returned (.tuple #[.slice ao cs.length cp,.int .i64 0])∧RowM ChE 2 w.heap.size w' w.heap.size (fun _=>False) ao cs.length cp cs vss
theorem normal_any (p:Prd) (w:World) (P:Nat→Prop) (vs:List Value) (B:Nat) (hN:cntP p≤999999) (hb:BytP p) (h:PredC w P p vs) (hP:∀ g,P g→g<w.heap.size) (hT:Tab w B) :
  Calls Tryz.prog 32 #[.agg vs.toArray] w (NormR w (normP p)):=by
 obtain⟨xa,xn,xc,rfl,-⟩:=h.form
 have bx:=(Below.refl w.heap.size w).alloc (Nat.le_refl _) (.cells #[.int .i64 p.k,.string (strN p.l),.string (strN p.r),.int .i64 p.c,.slice xa xn xc] 25)
 have B1:=ħ bx
 have X1:Hid (HasV (w.alloc (.cells #[.int .i64 p.k,.string (strN p.l),.string (strN p.r),.int .i64 p.c,.slice xa xn xc] 25)) w.heap.size 25 [.int .i64 p.k,.string (strN p.l),.string (strN p.r),.int .i64 p.c,.slice xa xn xc]):=ħ (heap_alloc_new w _)
 have HVP:=ħ (fun W (hW:Below w.heap.size w W)=>vpred_any p W P _ B (Nat.le_succ_of_le hN) hb (h.below hW) (TabIn.step (w:=w) hT hW))
 have HPR:Hid (validP p=true→∀ W,Below w.heap.size w W→_):=ħ (fun (hv:validP p=true) W (hW:Below w.heap.size w W)=>proper_any W P p _ (h.below hW) (by unfold validP at hv;rw[Bool.and_eq_true] at hv;exact hv.2) (Nat.le_succ_of_le hN))
 have HCH:Hid (validP p=true→(properP p).length≤8→∀ W,Below w.heap.size w W→Calls Tryz.prog 94 #[.agg ([.int .i64 p.k,.string (strN p.l),.string (strN p.r),.int .i64 p.c,.slice xa xn xc]:List Value).toArray] W (ChoR W (choP p))):=ħ (fun (hv:validP p=true) h8 W (hW:Below w.heap.size w W)=>choices_any 1000000 p W P _ (Nat.le_succ_of_le hN) (Nat.le_refl _) (by unfold validP at hv;rw[Bool.and_eq_true] at hv;exact hv.2) h8 (h.below hW) (fun g hg=>Nat.lt_of_lt_of_le (hP g hg) hW.size))
 have HV:Hid (normP p=if validP p=false then .error 1 else if 8<(properP p).length then .error 6 else if 100<(choP p).length then .error 6 else .ok (choP p)):=ħ rfl
 have HLN:Hid ((properP p).length≤8→(choP p).length≤256000000):=ħ (fun h8=>Nat.le_trans (choP_len p h8) (by omega))
 have HLK:Hid ((properP p).length≤1000000):=ħ (by
  unfold properP
  refine Nat.le_trans (List.length_filter_le _ _) ?_
  refine Nat.le_trans (nodup_len_le _ (keysP p) (asc_nodup (atomsP_asc p)) (fun x hx=>(atomsP_mem p x).1 hx)) ?_
  exact Nat.le_trans (keysP_len p) (Nat.le_succ_of_le hN))
 obtain⟨V,hV⟩:∃ V,normP p=V:=⟨_,rfl⟩
 rw[hV] at HV ⊢
 clear bx h hT hb hN hV hP
 generalize validP p=s at *
 generalize (choP p)=cs at *
 generalize properP p=pp at *
 generalize p.k=q0 at *
 generalize strN p.l=q1 at *
 generalize strN p.r=q2 at *
 generalize p.c=q3 at *
 go_enter Tryz.func32,Tryz.ntmps32
 go_upto_region 1 with (fail)
 generalize w.alloc (.cells #[.int .i64 q0,.string q1,.string q2,.int .i64 q3,.slice xa xn xc] 25)=w1 at *
 go_wp2_with (refine wpList_load_row rfl 25 (.tmp 1) rfl w.heap.size ?x1 25 #[.int .i64 q0,.string q1,.string q2,.int .i64 q3,.slice xa xn xc] (0,0) _ X1.o Tryz.underlying25 rfl (inf_pred _ rfl) ?_;(case x1=>rfl))
 refine (HVP.o w1 B1.o).mono ?_
 rintro e w2 ⟨rfl,b2⟩
 have B2:=ħ (B1.o.trans (b2.mono B1.o.size))
 have X2:=ħ (X1.o.step b2)
 clear b2 HVP B1 X1
 cases s with
 | false =>
  have HX:Hid (V = .error 1):=ħ (by rw[HV.o];rfl)
  go_wp2
  go_ret2
  refine⟨B2.o,?_⟩
  rw[HX.o]
  rfl
 | true =>
  have HP2:=ħ (HPR.o rfl)
  have HC2:=ħ (HCH.o rfl)
  have HV2:Hid (V=if 8<pp.length then .error 6 else if 100<cs.length then .error 6 else .ok cs):=ħ (by rw[HV.o];rfl)
  clear HPR HCH HV
  go_wp2_with (refine wpList_load_row rfl 25 (.tmp 1) rfl w.heap.size (by rfl) 25 #[.int .i64 q0,.string q1,.string q2,.int .i64 q3,.slice xa xn xc] (0,0) _ X2.o Tryz.underlying25 rfl (inf_pred _ rfl) ?_)
  refine (HP2.o w2 B2.o).mono ?_
  rintro e w3 ⟨a3,c3,rfl,-,b3⟩
  have B3:=ħ (B2.o.trans (b3.mono B2.o.size))
  have X3:=ħ (X2.o.step b3)
  clear b3 HP2 B2 X2
  obtain⟨m,hm⟩:∃ m,pp.length=m:=⟨_,rfl⟩
  rw[hm] at HV2 HC2 HLN HLK ⊢
  have hmb:=HLK.o
  by_cases h8:8<m
  ·have h8':(8:Int)<m:=by omega
   have HX:Hid (V = .error 6):=ħ (by rw[HV2.o,if_pos h8])
   clear h8
   go_wp2
   go_ret2
   refine⟨B3.o,?_⟩
   rw[HX.o]
   rfl
  ·have h8':¬ (8:Int)<m:=by omega
   have HV3:Hid (V=if 100<cs.length then .error 6 else .ok cs):=ħ (by rw[HV2.o,if_neg h8])
   have HC3:=ħ (HC2.o (by omega))
   have hlen:=HLN.o (by omega)
   clear h8 HC2
   go_wp2_with (refine wpList_load_row rfl 25 (.tmp 1) rfl w.heap.size (by rfl) 25 #[.int .i64 q0,.string q1,.string q2,.int .i64 q3,.slice xa xn xc] (0,0) _ X3.o Tryz.underlying25 rfl (inf_pred _ rfl) ?_)
   refine (HC3.o w3 B3.o).mono ?_
   rintro e w4 ⟨a4,c4,v4,rfl,r4,b4⟩
   have B4:=ħ (B3.o.trans (b4.mono B3.o.size))
   have R4:=ħ (r4.lower ChE.keeps (base':=w.heap.size) (lo':=w.heap.size) B3.o.size B3.o.size)
   clear b4 r4 HC3 B3 X3
   obtain⟨d,hd⟩:∃ d,cs.length=d:=⟨_,rfl⟩
   rw[hd] at HV3 hlen R4 ⊢
   by_cases h9:100<d
   ·have h9':(100:Int)<d:=by omega
    have HX:Hid (V = .error 6):=ħ (by rw[HV3.o,if_pos h9])
    clear h9
    go_wp2
    go_ret2
    refine⟨B4.o,?_⟩
    rw[HX.o]
    rfl
   ·have h9':¬ (100:Int)<d:=by omega
    have HX:Hid (V = .ok cs):=ħ (by rw[HV3.o,if_neg h9])
    clear h9
    go_wp2
    go_ret2
    refine⟨B4.o,?_⟩
    rw[HX.o]
    exact⟨a4,c4,v4,by rw[hd];rfl,by rw[hd];exact R4.o⟩
end
section
open Go.RowKit Go.Sort
def sgC (s:List Nat):List Value:=tokC ⟨3,s,0,0⟩
theorem sgC_len (s:List Nat):(sgC s).length=4:=rfl
structure PrtS (w:World) (R:Nat) (ao:Option Addr) (cap:Nat) (ss:List (List Nat)):Prop where
 blk:HasV w R 116 [.slice ao ss.length cap]
 own:OwnK w 0 4 ss.length cap (ss.flatMap sgC) ao
 ne:Go.Proofs.YtmkdfbelbcocpaaGreatDoor.blk ao≠some R
def PutR (w:World) (R:Nat) (ao:Option Addr) (ss:List (List Nat)) (w':World):Prop :=
 ∃ ao' cap',PrtS w' R ao' cap' ss∧(∀ g,blk ao'=some g→blk ao=some g∨w.heap.size≤g)∧Only w w' (fun g=>g=R∨blk ao=some g)
theorem PrtS.only {w w':World} {R cap:Nat} {ao:Option Addr} {ss:List (List Nat)} {p:Nat→Prop} (h:PrtS w R ao cap ss) (hb:Only w w' p) (hR:¬ p R) (ha:∀ g,Go.Proofs.YtmkdfbelbcocpaaGreatDoor.blk ao=some g→¬ p g):PrtS w' R ao cap ss :=
 ⟨h.blk.only hb hR,h.own.of_block (fun g e hl=>hb.block g hl (ha g e)) hb.size,h.ne⟩
theorem PrtS.step {w w':World} {R cap:Nat} {ao:Option Addr} {ss:List (List Nat)} (h:PrtS w R ao cap ss) (hb:Below w.heap.size w w'):PrtS w' R ao cap ss :=
 h.only (Only.of_below (p:=fun _=>False) hb) (fun h=>h) (fun _ _ h=>h)
theorem PrtS.blk_lt {w:World} {R cap:Nat} {ao:Option Addr} {ss:List (List Nat)} (h:PrtS w R ao cap ss) (g:Nat) (e:Go.Proofs.YtmkdfbelbcocpaaGreatDoor.blk ao=some g):g<w.heap.size:=by
 have ho:=h.own
 cases ao with
 | none=>cases e
 | some a =>
  obtain⟨g',off,si⟩:=a
  cases ho with
  | «at» g' off h1 h2 h3 h4 =>
   have e':g'=g:=Option.some.inj e
   subst e'
   exact h1.lt
theorem PutR.here {w:World} {R cap:Nat} {ao:Option Addr} {ss:List (List Nat)} (h:PrtS w R ao cap ss):PutR w R ao ss w:=⟨ao,cap,h,fun g e=>.inl e,Only.refl _ _⟩
theorem PutR.trans {w w1 w2:World} {R:Nat} {ao a1:Option Addr} {s2:List (List Nat)} (h1:∀ g,blk a1=some g→blk ao=some g∨w.heap.size≤g) (h2:Only w w1 (fun g=>g=R∨blk ao=some g)) (h:PutR w1 R a1 s2 w2):PutR w R ao s2 w2:=by
 obtain⟨a2,c2,h3,h4,h5⟩:=h
 refine⟨a2,c2,h3,fun g e=>?_,⟨h5.os.trans h2.os,h5.tape.trans h2.tape,h5.output.trans h2.output,Nat.le_trans h2.size h5.size,fun g hl hp=>?_⟩⟩
 ·rcases h4 g e with h | h
  ·exact h1 g h
  ·exact .inr (Nat.le_trans h2.size h)
 ·refine (h5.block g (Nat.lt_of_lt_of_le hl h2.size) (fun hh=>?_)).trans (h2.block g hl hp)
  rcases hh with hh | hh
  ·exact hp (.inl hh)
  ·rcases h1 g hh with h | h
   ·exact hp (.inr h)
   ·omega
theorem PutR.after {w w1 w2:World} {R:Nat} {ao:Option Addr} {s2:List (List Nat)} (hb:Below w.heap.size w w1) (h:PutR w1 R ao s2 w2):PutR w R ao s2 w2 :=
 PutR.trans (fun g e=>.inl e) (Only.of_below hb) h
theorem PutR.then {w w1 w2:World} {R:Nat} {ao:Option Addr} {s2:List (List Nat)} (h:PutR w R ao s2 w1) (hb:Below w1.heap.size w1 w2):PutR w R ao s2 w2:=by
 obtain⟨a2,c2,h3,h4,h5⟩:=h
 exact⟨a2,c2,h3.step hb,h4,h5.step hb⟩
theorem put_any (w:World) (R:Nat) (ao:Option Addr) (cap:Nat) (ss ls:List (List Nat)) (h:PrtS w R ao cap ss) (g off n c:Nat) (hn:n=ls.length) (hg:g<w.heap.size) (hgR:g≠R) (hga:blk ao≠some g)
  (hr:Reads w g off (ls.map (fun s=>Value.string (strN s)))) (hbig:ss.length+n≤1000000) :
  Calls Tryz.prog 86 #[.pointer (some ⟨R,0,none⟩),.slice (some ⟨g,off,none⟩) n c] w fun e w'=>e = .returned (.tuple #[])∧PutR w R ao (ss++ls) w':=by
 have HN:=ħ hn
 have HR:=ħ hr
 have HGA:=ħ hga
 have H0:=ħ (show PutR w R ao (ss++ls.take 0) w by simpa using PutR.here h)
 clear hn hr hga h
 go_enter Tryz.func86,Tryz.ntmps86
 go_wp2_with fail
 go_loopw [8] (fun cc wr=>∃ (i:Nat),cc = .int .i64 i∧i≤n∧Hid (PutR w R ao (ss++ls.take i) wr)) (fun c _=>(n-intOf c).toNat)
 case atStart=>exact⟨0,rfl,by omega,H0⟩
 case round =>
  clear H0
  obtain⟨i,rfl,hi,hq⟩:=hrel
  have e2:IntKind.i64.wrap ((i:Int)+1)=((i+1:Nat):Int):=IntWalk.i64_in _ (by omega)
  by_cases hlt:i<n
  ·have ii:(i:Int)<n:=by omega
   obtain⟨a1,c1,hp1,ha1,ho1⟩:=hq.o
   have HX:Hid (∃ s,ls[i]?=some s):=ħ ⟨_,List.getElem?_eq_getElem (by rw[← HN.o];exact hlt)⟩
   obtain⟨s,hs⟩:=HX.o
   have HS:=ħ hs
   have xi:wr.cell? ⟨g,off+i,none⟩=some (.string (strN s)):=by
    refine ((HR.o.of_block (ho1.block g hg ?_)) i _ (by rw[List.getElem?_map,hs];rfl))
    rintro (h | h)
    ·exact hgR h
    ·exact HGA.o h
   have HP:=ħ hp1
   have HA:=ħ ha1
   have HO:=ħ ho1
   have r0:=hp1.blk.cell 0 _ rfl
   have HTK:Hid (ls.take (i+1)=ls.take i++[s]):=ħ (by rw[List.take_add_one,hs];rfl)
   have HL:Hid ((ss++ls.take i).length=ss.length+i):=ħ (by rw[List.length_append,List.length_take,← HN.o,Nat.min_eq_left hi])
   rw[HL.o] at r0
   clear hp1 ha1 ho1 hs hq HX
   have HC:Hid (sgC s=[.int .i64 3,.string (strN s),.int .i64 0,.int .i64 0]):=ħ rfl
   generalize strN s=y at *
   go_wp2_with (at_builtin;refine app_k 96 169 tokZ 4 40 Tryz.underlying96 info_tok rfl (by omega) (by omega) wr 0 rfl (.tmp 16) (.tmp 19) rfl a1 c1 (ss.length+i) ((ss++ls.take i).flatMap sgC) ?q1 ?q6 (Nat.zero_le _) 1 1 #[.int .i64 3,.string y,.int .i64 0,.int .i64 0] 169 ?q2 rfl (by omega) ?q3 ?q4 ?_;(case q1=>rfl);(case q6=>(have:=HP.o.own;rw[HL.o] at this;exact this));(case q2=>rfl);(case q3=>intro u hu;simp at hu;rcases hu with rfl | rfl | rfl | rfl<;>rfl);(case q4=>omega);intro g5 off5 c5 wa o8 gr8 b8 or8;have O8:=ħ o8;have GR8:=ħ gr8;have OR8:=ħ or8;have ra:=(HP.o.blk.grownBy gr8 HP.o.ne).cell 0 _ rfl;have fa:=(HP.o.blk.grownBy gr8 HP.o.ne).warm 0;clear o8 gr8 b8 or8 xi r0)
   have HG5:Hid (g5≠R):=ħ (fun e=>by
    rcases OR8.o with h | h
    ·exact HP.o.ne (e ▸ h)
    ·have:=HP.o.blk.lt;omega)
   refine⟨⟨i+1,by rw[Int.natCast_succ],by omega,ħ ⟨some ⟨g5,off5,none⟩,c5,⟨?_,?_,?_⟩,?_,?_⟩⟩,by simp only[intOf];omega⟩
   ·have hb:=(HP.o.blk.grownBy GR8.o HP.o.ne).set 0 (.slice (some ⟨g5,off5,none⟩) (ss.length+i+1) c5)
    have hl:(ss++ls.take (i+1)).length=ss.length+i+1:=by rw[HTK.o,← List.append_assoc,List.length_append,HL.o];rfl
    rw[hl]
    exact hb
   ·have ho:=O8.o.setCell (p:=⟨R,0,none⟩) (.slice (some ⟨g5,off5,none⟩) (ss.length+i+1) c5) (fun e=>HG5.o (Option.some.inj e))
    have hl:(ss++ls.take (i+1)).length=ss.length+i+1:=by rw[HTK.o,← List.append_assoc,List.length_append,HL.o];rfl
    rw[hl,HTK.o,← List.append_assoc,List.flatMap_append]
    have e:[s].flatMap sgC=[.int .i64 3,.string y,.int .i64 0,.int .i64 0]:=by simpa using HC.o
    rw[e]
    exact ho
   ·exact fun e=>HG5.o (Option.some.inj e)
   ·intro g' e
    have e':g5=g':=Option.some.inj e
    subst e'
    rcases OR8.o with h | h
    ·exact HA.o _ h
    ·exact .inr (Nat.le_trans HO.o.size h)
   ·have ho:Only w wa (fun g=>g=R∨blk ao=some g):=⟨GR8.o.os.trans HO.o.os,GR8.o.tape.trans HO.o.tape,GR8.o.output.trans HO.o.output,Nat.le_trans HO.o.size GR8.o.size,fun k hk hp=>(GR8.o.block k (Nat.lt_of_lt_of_le hk HO.o.size) (fun e=>by
     rcases HA.o k e.symm with h | h
     ·exact hp (.inr h)
     ·omega)).trans (HO.o.block k hk hp)⟩
    exact ho.setCell _ (.inl rfl)
  ·have ii:¬ ((i:Int)<n):=by omega
   have HT:Hid (ls.take i=ls):=ħ (by rw[show i=ls.length by rw[← HN.o];omega,List.take_length])
   go_wp2
   go_end0
   exact⟨rfl,by have:=hq.o;rwa [HT.o] at this⟩
theorem put_at (w:World) (R:Nat) (ao:Option Addr) (cap:Nat) (ss ls:List (List Nat)) (h:PrtS w R ao cap ss) (g n c:Nat) (hn:n=ls.length) (cs:Array Value) (T:TypeId) (hv:w.heap[g]?=some (.cells cs T (0,0))) (hcs:cs=(ls.map (fun s=>Value.string (strN s))).toArray) (hgR:g≠R) (hga:blk ao≠some g) (hbig:ss.length+n≤1000000) :
  Calls Tryz.prog 86 #[.pointer (some ⟨R,0,none⟩),.slice (some ⟨g,0,none⟩) n c] w fun e w'=>e = .returned (.tuple #[])∧PutR w R ao (ss++ls) w':=by
 subst hcs
 refine put_any w R ao cap ss ls h g 0 n c hn (Array.getElem?_eq_some_iff.1 hv).1 hgR hga (fun j u hj=>?_) hbig
 rw[Nat.zero_add]
 exact HasV.cell (t:=T) hv j u hj
end
end Go.Proofs.YtmkdfbelbcocpaaGreatDoor
