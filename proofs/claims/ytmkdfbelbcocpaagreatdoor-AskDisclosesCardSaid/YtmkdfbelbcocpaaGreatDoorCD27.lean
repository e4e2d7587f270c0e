import Derived.Test.YtmkdfbelbcocpaaGreatDoorCD26
import Derived.Test.YtmkdfbelbcocpaaGreatDoorCD20
import Derived.Test.YtmkdfbelbcocpaaGreatDoorCD10
import Derived.Test.YtmkdfbelbcocpaaGreatDoorCD21
import Derived.Test.YtmkdfbelbcocpaaGreatDoorCD19
import Derived.ArgAppend
import Derived.Test.YtmkdfbelbcocpaaGreatDoorShelf
set_option linter.unusedVariables false
set_option linter.unusedSimpArgs false
set_option maxHeartbeats 16000000
set_option maxRecDepth 100000
namespace Go.Proofs.YtmkdfbelbcocpaaGreatDoor
section
open Go.RowKit Go.Sort Go.Maps
theorem Zli (w:World) (P:Nat→Prop) (ps:List Prd) (po:Option Addr) (pn pc:Nat) (ao:Option Addr) (n cp:Nat) (most:Int) (ns:List (List Nat)) (B:Nat) (hT:Tab w B) (hps:Zbj w P ps po) (hpn:pn=ps.length) (hpb:∀ p∈ps,Zib p) (hpc:∀ p∈ps,Za8 p≤1000000) (hpl:pn≤1000)
  (hn:n=ns.length) (h:Zcr w ao ns) (hb:∀ s∈ns,NmB s) (hasc:Zjh ns) (hbig:n≤1000) :
  Calls Tryz.prog 121 #[.slice ao n cp,.int .i64 most,.slice po pn pc] w fun e w'=>Zi0 w (Zb1 ns most ps) (Zak ps) ao n cp most po pn pc e w':=by
 have HT:=ħ (fun W (hW:Below w.heap.size w W)=>Tab.keep hT (fun k hk=>hW.block k (Nat.lt_of_lt_of_le hk hT.size)) hW.size)
 have HGV:=ħ (fun W (hW:Below w.heap.size w W)=>Zrb ns most ao n cp W B (HT.o W hW) hn (h.below hW) hb (by omega))
 have HIX:=ħ (fun W (hW:Below w.heap.size w W) x (hx:NmB x)=>Zix W ao n cp most ns x hn (h.below hW) hb hx hasc (by omega))
 have HVP:=ħ (fun p (hp:p∈ps) (vs:List Value) W (hW:Below w.heap.size w W) (hpv:Zai W P p vs)=>Ziu p W P vs B (hpc p hp) (hpb p hp) hpv (HT.o W hW))
 have HPS:=ħ (fun W (hW:Below w.heap.size w W)=>hps.below hW)
 have HPN:=ħ hpn
 have HBAD:=ħ (fun p hp h=>Zzn (ns:=ns) (most:=most) (ps:=ps) (p:=p) hp h)
 have HALL:=ħ (fun h hg=>Zmk (ns:=ns) (most:=most) (ps:=ps) h hg)
 have HNG:=ħ (fun h=>Z3l (ns:=ns) (most:=most) (ps:=ps) h)
 have HCQ:=ħ (fun x=>Zob ps x)
 have HCA:=ħ (Zwm ps)
 have HCL:Hid (Zak ps=(Zgs (ps.flatMap Zan)).foldl Zow []):=ħ rfl
 clear hps hpn hpb hpc hT hn h hb hasc
 generalize hRR:Zb1 ns most ps=RR at *
 clear hRR
 generalize Zak ps=CS at *
 have bx:=((Below.refl w.heap.size w).alloc (Nat.le_refl _) (.cells #[.slice ao n cp,.int .i64 most,.slice po pn pc,.slice none 0 0] 162)).alloc (by simp) (.map #[] 0)
 have BX:=ħ bx
 have ZX:Hid (Zah ((w.alloc (.cells #[.slice ao n cp,.int .i64 most,.slice po pn pc,.slice none 0 0] 162)).alloc (.map #[] 0)) w.heap.size 162 [.slice ao n cp,.int .i64 most,.slice po pn pc,.slice none 0 0]):=ħ (Zar w _ _)
 have QX:Hid (Zpg ((w.alloc (.cells #[.slice ao n cp,.int .i64 most,.slice po pn pc,.slice none 0 0] 162)).alloc (.map #[] 0)) (w.heap.size+1) []):=ħ (by have:=Zpg.nil (w.alloc (.cells #[.slice ao n cp,.int .i64 most,.slice po pn pc,.slice none 0 0] 162));rwa [World.size_alloc] at this)
 clear bx
 have hmm:=@run_makeMap Tryz.prog
 go_enter Tryz.func121,Tryz.ntmps121
 go_upto_region 3 with (fail)
 clear hmm
 generalize hwx:(w.alloc (.cells #[.slice ao n cp,.int .i64 most,.slice po pn pc,.slice none 0 0] 162)).alloc (.map #[] 0)=wx at *
 clear hwx
 go_wp2_with fail
 have S0:Hid (Zpg wx (w.heap.size+1) (Zgs ((ps.take 0).flatMap Zan))):=ħ QX.o
 have O0:Hid (Only wx wx (· = w.heap.size+1)):=ħ (Only.refl _ _)
 have HXX:=ħ (fun (W:World) (hW:Only wx W (· = w.heap.size+1))=>Only.later (RowKit.Below.refl w.heap.size w) (Only.trans (Only.of_below (p:=fun g=>w.heap.size≤g) BX.o) (hW.mono (fun g _ hg=>by rw[hg];exact Nat.le_succ _))) (fun g hg=>hg))
 have HZZ:=ħ (fun (W:World) (hW:Only wx W (· = w.heap.size+1))=>ZX.o.only hW (by omega))
 clear QX ZX BX
 obtain⟨b,hb⟩:∃ b,w.heap.size+1=b:=⟨_,rfl⟩
 rw[hb] at S0 O0 HXX HZZ ⊢
 have HBN:Hid (b=w.heap.size+1):=ħ hb.symm
 clear hb
 go_loopw [25] (fun cc wr=>∃ (i:Nat),cc = .int .i64 i∧i≤pn∧Hid (Zpg wr b (Zgs ((ps.take i).flatMap Zan)))∧Hid (Only wx wr (· = b))∧Hid (∀ j p,j<i→ps[j]?=some p→okQ ns p=true)) (fun c _=>(pn-intOf c).toNat)
 case atStart=>exact⟨0,rfl,by omega,S0,O0,ħ (fun j p hj=>absurd hj (Nat.not_lt_zero _))⟩
 case round =>
  clear S0 O0
  obtain⟨i,rfl,hi,hq,ho,hok⟩:=hrel
  have e2:IntKind.i64.wrap ((i:Int)+1)=((i+1:Nat):Int):=IntWalk.i64_in _ (by omega)
  have HLS:Hid ((Zgs ((ps.take i).flatMap Zan)).length≤100*i):=ħ (by
   refine Nat.le_trans (Zva _) ?_
   have:∀ (l:List Prd),(∀ p∈l,Zau p=true)→(l.flatMap Zan).length≤100*l.length:=by
    intro l
    induction l with
    | nil=>intro _;simp
    | cons p l ih =>
     intro h
     rw[List.flatMap_cons,List.length_append,List.length_cons]
     have h1:=Zmj (h p List.mem_cons_self)
     have h2:=ih (fun x hx=>h x (List.mem_cons_of_mem _ hx))
     omega
   have h3:=this (ps.take i) (fun p hp=>by
    obtain⟨j,hj⟩:=List.mem_iff_getElem?.1 hp
    rw[List.getElem?_take] at hj
    by_cases hji:j<i
    ·rw[if_pos hji] at hj
     have:=hok.o j p hji hj
     unfold okQ at this
     rw[Bool.and_eq_true] at this
     exact this.1
    ·rw[if_neg hji] at hj;cases hj)
   rw[List.length_take] at h3
   have:min i ps.length≤i:=Nat.min_le_left _ _
   omega)
  have HKO:Hid (∀ k∈Zgs ((ps.take i).flatMap Zan),KyOk k):=ħ (Zzl (fun k hk=>by
   obtain⟨p,hp,hk⟩:=List.mem_flatMap.1 hk
   obtain⟨j,hj⟩:=List.mem_iff_getElem?.1 hp
   rw[List.getElem?_take] at hj
   by_cases hji:j<i
   ·rw[if_pos hji] at hj
    have:=hok.o j p hji hj
    unfold okQ at this
    rw[Bool.and_eq_true] at this
    exact Zf7 this.1 k hk
   ·rw[if_neg hji] at hj;cases hj))
  by_cases hlt:i<pn
  ·have ii:(i:Int)<pn:=by omega
   obtain⟨q,hqi⟩:∃ q,ps[i]?=some q:=⟨_,List.getElem?_eq_getElem (by rw[← HPN.o];exact hlt)⟩
   have HQI:=ħ hqi
   have HQM:=ħ (List.mem_of_getElem? hqi)
   have BR:=ħ (HXX.o wr ho.o)
   obtain⟨gk,off,vs,hao,hgl,hpc,hrd⟩:=(HPS.o wr BR.o).at i q hqi
   obtain⟨xa,xn,xc,hvf,-⟩:=hpc.form
   subst hvf
   have HVQ:=ħ (HVP.o q HQM.o [.int .i64 q.k,.string (Zad q.l),.string (Zad q.r),.int .i64 q.c,.slice xa xn xc])
   have PC:=ħ hpc
   have s0:=hrd 0 _ rfl
   have s1:=hrd 1 _ rfl
   have s2:=hrd 2 _ rfl
   have s3:=hrd 3 _ rfl
   have s4:=hrd 4 _ rfl
   rw[Nat.add_zero] at s0
   have HAO:=ħ hao
   have HAT:=ħ (fun W (hv:Zau q=true) (hp:Zai W P q [.int .i64 q.k,.string (Zad q.l),.string (Zad q.r),.int .i64 q.c,.slice xa xn xc])=>Zl4 W P q _ hp (by unfold Zau at hv;rw[Bool.and_eq_true] at hv;exact hv.2) (by
    unfold Zau Zeh at hv
    simp only[Bool.and_eq_true,decide_eq_true_eq] at hv
    omega))
   have HTK:Hid (Zgs ((ps.take (i+1)).flatMap Zan)=Zgs ((ps.take i).flatMap Zan)++Zgs (Zan q)):=ħ (by
    obtain⟨hi',he⟩:=List.getElem?_eq_some_iff.1 hqi
    rw[List.take_add_one,hqi,List.flatMap_append,Zu9];simp)
   clear hrd hpc hqi
   subst hao
   generalize q.k=q0 at *
   generalize Zad q.l=q1 at *
   generalize Zad q.r=q2 at *
   generalize q.c=q3 at *
   obtain⟨S,hS⟩:∃ S,Zgs ((ps.take i).flatMap Zan)=S:=⟨_,rfl⟩
   rw[hS] at HTK HLS HKO hq
   clear hS
   have bx:=(RowKit.Below.refl wr.heap.size wr).alloc (Nat.le_refl _) (.cells #[.int .i64 q0,.string q1,.string q2,.int .i64 q3,.slice xa xn xc] 25)
   have Y1:Hid (Zah (wr.alloc (.cells #[.int .i64 q0,.string q1,.string q2,.int .i64 q3,.slice xa xn xc] 25)) wr.heap.size 25 [.int .i64 q0,.string q1,.string q2,.int .i64 q3,.slice xa xn xc]):=ħ (heap_alloc_new _ _)
   have PX:=ħ (PC.o.below bx)
   have hq1:=ħ (hq.o.step bx)
   have ho1:=ħ (ho.o.step bx)
   have hbl:Hid (b<wr.heap.size):=ħ hq.o.setK.lt
   clear bx PC hq ho BR
   go_upto_region 6 with (fail)
   clear s0 s1 s2 s3 s4
   generalize wr.alloc (.cells #[.int .i64 q0,.string q1,.string q2,.int .i64 q3,.slice xa xn xc] 25)=wy at *
   go_wp2_with (refine wpList_load_row rfl 25 (.tmp 11) rfl wr.heap.size ?x1 25 #[.int .i64 q0,.string q1,.string q2,.int .i64 q3,.slice xa xn xc] (0,0) _ Y1.o Tryz.underlying25 rfl (Zae _ rfl) ?_;(case x1=>rfl))
   refine (HVQ.o wy (HXX.o wy ho1.o) PX.o).mono ?_
   rintro e w3 ⟨rfl,b3⟩
   have hq3:=ħ (hq1.o.step b3)
   have ho3:=ħ (ho1.o.step b3)
   have Y3:=ħ (Y1.o.step b3)
   have P3:=ħ (PX.o.below b3)
   clear b3 hq1 ho1 Y1 PX HVQ
   obtain⟨vb,hvb⟩:∃ v,Zau q=v:=⟨_,rfl⟩
   have HVB:=ħ hvb
   rw[hvb]
   clear hvb
   cases vb with
   | false =>
    have HR:=ħ (HBAD.o q HQM.o (Zs9 HVB.o))
    have B3:=ħ (HXX.o w3 ho3.o)
    go_wp2
    go_ret2
    exact Zi0.bad HR.o (by decide) rfl B3.o
   | true =>
    have HAS:=ħ (Zf7 HVB.o)
    go_wp2_with (refine wpList_load_row rfl 25 (.tmp 11) rfl wr.heap.size ?x1 25 #[.int .i64 q0,.string q1,.string q2,.int .i64 q3,.slice xa xn xc] (0,0) _ Y3.o Tryz.underlying25 rfl (Zae _ rfl) ?_;(case x1=>rfl))
    refine (HAT.o w3 HVB.o P3.o).mono ?_
    rintro e w4 ⟨ak,ck,rfl,hok4,b4⟩
    have hq4:=ħ (hq3.o.step b4)
    have ho4:=ħ (ho3.o.step b4)
    have K4:=ħ (hok4.keysR rfl)
    have KB4:Hid (∀ g,blk ak=some g→b<g):=ħ (fun g hg=>Nat.lt_of_lt_of_le (Nat.lt_of_lt_of_le hbl.o (Nat.le_of_lt Y3.o.lt)) (hok4.blk_lt hg).1)
    clear b4 hok4 HAT P3 hq3 ho3 Y3
    have HUN:=ħ (fun k hk h=>HBAD.o q HQM.o (Zta (ns:=ns) (k:=k) hk h))
    have HKN:=ħ (fun h=>Zml (ns:=ns) HVB.o h)
    have HAL:=ħ (Zmj HVB.o)
    obtain⟨ks,hks⟩:∃ ks,Zan q=ks:=⟨_,rfl⟩
    rw[hks] at HTK K4 HAS HUN HKN HAL ⊢
    clear hks
    obtain⟨m,hm⟩:∃ m,ks.length=m:=⟨_,rfl⟩
    have HM:=ħ hm
    rw[hm] at HAL ⊢
    clear hm
    have hlen:=HAL.o
    have Z0:Hid (Zpg w4 b (S++Zgs (ks.take 0))):=ħ (by have:=hq4.o;rwa [show Zgs (ks.take 0)=[] from rfl,List.append_nil])
    have Z1:Hid (Only wx w4 (· = b)):=ho4
    have Z2:Hid (Only w4 w4 (· = b)):=ħ (Only.refl _ _)
    clear hq4 ho4
    go_wp2_with fail
    go_loopw [35] (fun cc wr=>∃ (j:Nat),cc = .int .i64 j∧j≤m∧Hid (Zpg wr b (S++Zgs (ks.take j)))∧Hid (Only wx wr (· = b))∧Hid (Only w4 wr (· = b))∧Hid (∀ j' k,j'<j→ks[j']?=some k→Ze4 ns k.l=true∧Ze4 ns k.r=true)) (fun c _=>(m-intOf c).toNat)
    case atStart=>exact⟨0,rfl,by omega,Z0,Z1,Z2,ħ (fun j p hj=>absurd hj (Nat.not_lt_zero _))⟩
    case round =>
     clear Z0 Z1 Z2
     obtain⟨j,rfl,hj,hz,hx,hy,hkj⟩:=hrel
     have e3:IntKind.i64.wrap ((j:Int)+1)=((j+1:Nat):Int):=IntWalk.i64_in _ (by omega)
     by_cases hjl:j<m
     ·have jj:(j:Int)<m:=by omega
      obtain⟨k,hki⟩:∃ k,ks[j]?=some k:=⟨_,List.getElem?_eq_getElem (by rw[HM.o];exact hjl)⟩
      have HKI:=ħ hki
      have HTJ:=ħ (Zzk hki)
      have HKM:=ħ (List.mem_of_getElem? hki)
      have HGK:=ħ (HAS.o k HKM.o)
      have HKR:Hid (Zql wr ak ks):=ħ (by
       rcases K4.o with h | ⟨g,o,h1,h2,h3⟩
       ·exact .inl h
       ·have:=KB4.o g (by rw[h1];rfl)
        exact .inr ⟨g,o,h1,Nat.lt_of_lt_of_le h2 hy.o.size,h3.of_block (hy.o.block g h2 (by omega))⟩)
      obtain⟨g,o,hak,hg,s0,s1,s2⟩:=HKR.o.at j k hki
      have HAK:=ħ hak
      have HSJ:Hid (∀ x∈S++Zgs (ks.take j),KyOk x):=ħ (fun x hx=>by
       rcases List.mem_append.1 hx with hx | hx
       ·exact HKO.o x hx
       ·exact Zzl (fun y hy=>HAS.o y (List.mem_of_mem_take hy)) x hx)
      have HL1:Hid ((S++Zgs (ks.take j)).length<maxLen):=ħ (by
       rw[List.length_append]
       have h1:=Zva (ks.take j)
       rw[List.length_take] at h1
       have:min j ks.length≤m:=by rw[HM.o];exact Nat.min_le_right _ _
       have:=HLS.o
       exact Nat.lt_of_le_of_lt (show _≤200000 by omega) (by decide))
      have HI1:=ħ (fun W hW=>HIX.o W hW k.l HGK.o.nmb.1)
      have HI2:=ħ (fun W hW=>HIX.o W hW k.r HGK.o.nmb.2)
      have HOR:=ħ (fun W=>Zrc k HGK.o.ok.bytes HGK.o.2.2 W)
      have HOO:=ħ HGK.o.ori
      have HCK:=ħ (Zd6 (Zft k).1.l (Zft k).1.r HOO.o.lb HOO.o.rb)
      have HCV:Hid (((Zft k).1.l==(Zft k).1.r)=Zsr (Zft k).1):=ħ rfl
      rw[HCV.o] at HCK
      have HO1:=ħ (Z3k k)
      have HKY:=ħ (Zhm (Zft k).1 HOO.o)
      have HN1:=ħ (Zlh (ns:=ns) (s:=k.l))
      have HN2:=ħ (Zlh (ns:=ns) (s:=k.r))
      have HU1:=ħ (fun h=>HUN.o k HKM.o h)
      clear hki HKR hg HCV
      subst hak
      have HKC:Hid (kyC k=[.string (Zad k.l),.string (Zad k.r),.int .i64 k.c]):=ħ rfl
      rw[HKC.o] at HOR
      have HPC:Hid (kyC (Zft k).1=[.string (Zad (Zft k).1.l),.string (Zad (Zft k).1.r),.int .i64 (Zft k).1.c]):=ħ rfl
      rw[HPC.o] at HOR HKY
      clear HKC HPC
      generalize Zh3 ns k.l=il at *
      generalize Zh3 ns k.r=ir at *
      generalize Zad k.l=y1 at *
      generalize Zad k.r=y2 at *
      generalize k.c=y3 at *
      generalize Zad (Zft k).1.l=o1 at *
      generalize Zad (Zft k).1.r=o2 at *
      generalize (Zft k).1.c=o3 at *
      generalize (Zft k).2=o4 at *
      have bx:=(RowKit.Below.refl wr.heap.size wr).alloc (Nat.le_refl _) (.cells #[.string y1,.string y2,.int .i64 y3] 123)
      have Y1:Hid (Zah (wr.alloc (.cells #[.string y1,.string y2,.int .i64 y3] 123)) wr.heap.size 123 [.string y1,.string y2,.int .i64 y3]):=ħ (heap_alloc_new _ _)
      have hz1:=ħ (hz.o.step bx)
      have hx1:=ħ (hx.o.step bx)
      have hy1:=ħ (hy.o.step bx)
      have hbn:Hid (b<wr.heap.size):=ħ hz.o.setK.lt
      clear bx hz hx hy
      go_upto_region 11 with (fail)
      clear s0 s1 s2
      generalize wr.alloc (.cells #[.string y1,.string y2,.int .i64 y3] 123)=wk at *
      have HWX:=ħ (HXX.o wk hx1.o)
      have HI1b:=ħ (fun W (hW:Below wk.heap.size wk W)=>HI1.o W (HWX.o.trans (hW.mono HWX.o.size)))
      have HI2b:=ħ (fun W (hW:Below wk.heap.size wk W)=>HI2.o W (HWX.o.trans (hW.mono HWX.o.size)))
      have ZD:=ħ (HZZ.o wk hx1.o)
      have d0:=ZD.o.cell 0 _ rfl
      have d1:=ZD.o.cell 1 _ rfl
      have c0:=Y1.o.cell 0 _ rfl
      have c1:=Y1.o.cell 1 _ rfl
      have r1:=Z7r wk (fun W hW=>HI1b.o W hW)
      have r2:=Z7r wk (fun W hW=>HI2b.o W hW)
      have d0':=cell_regrown d0
      have d1':=cell_regrown d1
      have c0':=cell_regrown c0
      have c1':=cell_regrown c1
      clear d0 d1 c0 c1 HI1 HI2
      by_cases hil:il<0
      ·have HR:=ħ (HU1.o (.inl (HN1.o.1 hil)))
       refine wp_region_quiet_below (by kernel_rfl) (by kernel_rfl) ?_
       repeat (go_big_quiet_step (with_reducible (first | exact r1 _ _ | exact r2 _ _)))
       refine wpQuiet_nil ?_
       intro _ hw'
       obtain⟨⟨dq,osq⟩,hw''⟩:=hw'
       subst hw''
       have BB:=below_regrown wk dq osq
       have B5:=ħ (HWX.o.trans (BB.mono HWX.o.size))
       clear r1 r2 d0' d1' c0' c1' BB ZD HI1b HI2b HWX hz1 hx1 hy1 Y1
       generalize grow (redrawn wk dq) osq=wg at *
       go_wp2
       go_ret2
       exact Zi0.bad HR.o (by decide) rfl B5.o
      ·by_cases hir:ir<0
       ·have HR:=ħ (HU1.o (.inr (HN2.o.1 hir)))
        refine wp_region_quiet_below (by kernel_rfl) (by kernel_rfl) ?_
        repeat (go_big_quiet_step (with_reducible (first | exact r1 _ _ | exact r2 _ _)))
        refine wpQuiet_nil ?_
        intro _ hw'
        obtain⟨⟨dq,osq⟩,hw''⟩:=hw'
        subst hw''
        have BB:=below_regrown wk dq osq
        have B5:=ħ (HWX.o.trans (BB.mono HWX.o.size))
        clear r1 r2 d0' d1' c0' c1' BB ZD HI1b HI2b HWX hz1 hx1 hy1 Y1
        generalize grow (redrawn wk dq) osq=wg at *
        go_wp2
        go_ret2
        exact Zi0.bad HR.o (by decide) rfl B5.o
       ·have HKK:Hid (Ze4 ns k.l=true∧Ze4 ns k.r=true):=ħ (by
         constructor
         ·cases h:Ze4 ns k.l with
          | true=>rfl
          | false=>exact absurd (HN1.o.2 h) hil
         ·cases h:Ze4 ns k.r with
          | true=>rfl
          | false=>exact absurd (HN2.o.2 h) hir)
        have HKN2:Hid (∀ j' k,j'<j+1→ks[j']?=some k→Ze4 ns k.l=true∧Ze4 ns k.r=true):=ħ (fun j' k' hj' hk'=>by
         rcases Nat.lt_succ_iff_lt_or_eq.1 hj' with h1 | rfl
         ·exact hkj.o j' k' h1 hk'
         ·rw[HKI.o] at hk';cases hk';exact HKK.o)
        refine wp_region_quiet_below (by kernel_rfl) (by kernel_rfl) ?_
        repeat (go_big_quiet_step (with_reducible (first | exact r1 _ _ | exact r2 _ _)))
        refine wpQuiet_nil ?_
        intro _ hw'
        obtain⟨⟨dq,osq⟩,hw''⟩:=hw'
        subst hw''
        have BB:=below_regrown wk dq osq
        have hz5:=ħ (hz1.o.step BB)
        have hx5:=ħ (hx1.o.step BB)
        have hy5:=ħ (hy1.o.step BB)
        have Y5:=ħ (Y1.o.step BB)
        clear r1 r2 d0' d1' c0' c1' BB ZD HI1b HI2b HWX hz1 hx1 hy1 Y1
        generalize grow (redrawn wk dq) osq=wg at *
        go_upto_region 13 with (fail)
        go_wp2_with (refine wpList_load_row rfl 123 (.tmp 13) rfl wr.heap.size ?x1 123 #[.string y1,.string y2,.int .i64 y3] (0,0) _ Y5.o Tryz.underlying123 rfl (Zg1 _ rfl) ?_;(case x1=>rfl))
        refine (HOR.o wg).mono ?_
        rintro e w6 ⟨rfl,b6⟩
        have hz6:=ħ (hz5.o.step b6)
        have hx6:=ħ (hx5.o.step b6)
        have hy6:=ħ (hy5.o.step b6)
        have bx:=(RowKit.Below.refl w6.heap.size w6).alloc (Nat.le_refl _) (.cells #[.string o1,.string o2,.int .i64 o3] 123)
        have Y7:Hid (Zah (w6.alloc (.cells #[.string o1,.string o2,.int .i64 o3] 123)) w6.heap.size 123 [.string o1,.string o2,.int .i64 o3]):=ħ (heap_alloc_new _ _)
        have hz7:=ħ (hz6.o.step bx)
        have hx7:=ħ (hx6.o.step bx)
        have hy7:=ħ (hy6.o.step bx)
        have hb7:Hid (b<w6.heap.size):=ħ hz6.o.setK.lt
        clear b6 bx hz5 hx5 hy5 Y5 hz6 hx6 hy6 HOR
        go_upto_region 14 with (fail)
        generalize w6.alloc (.cells #[.string o1,.string o2,.int .i64 o3] 123)=w7 at *
        have o0:=Y7.o.cell 0 _ rfl
        have o1':=Y7.o.cell 1 _ rfl
        have hck:=HCK.o
        cases hcb:Zsr (Zft k).1 with
        | true =>
         rw[hcb] at hck
         rw[hcb,if_pos rfl] at HO1
         have hz8:Hid (Zpg w7 b (S++Zgs (ks.take (j+1)))):=ħ (by rw[HTJ.o,HO1.o,List.append_nil];exact hz7.o)
         clear HCK hcb hz7 Y7
         go_wp2
         go_roundw
         case rel=>exact⟨j+1,by go_num,by omega,hz8,hx7,hy7,HKN2⟩
         case measure=>simp only[intOf];omega
        | false =>
         rw[hcb] at hck
         rw[hcb,if_neg (by simp)] at HO1
         clear HCK hcb
         obtain⟨D,hown,hh,ha,hsz⟩:=hz7.o
         have HO:=ħ hown
         have HH:=ħ hh
         have HA:=ħ ha
         have HSZ:=ħ hsz
         clear hown hh ha hsz
         go_wp2_with (first | (refine wpList_load_row rfl 123 (.tmp 14) rfl w6.heap.size ?x1 123 #[.string o1,.string o2,.int .i64 o3] (0,0) _ Y7.o Tryz.underlying123 rfl (Zg1 _ rfl) ?_;(case x1=>rfl)) | (at_mapUpdate;refine wpList_mapUpdate_own _ rfl (.tmp 67) (.tmp 68) _ 185 rfl 123 4 Zqd Tryz.underlying185 (plainElem Tryz.prog 4) b (S++Zgs (ks.take j)).length D rfl HO.o HL1.o (.agg #[.string o1,.string o2,.int .i64 o3]) (.bool true) (Zca (Zft k).1) rfl rfl HKY.o (.lit (.bool true)) [] (plainElem_bool Tryz.underlying4 true) ?_;intro w8 hown8 hgrow8;have hz8:=ħ (Zpg.put HSJ.o (Zft k).1 HOO.o HO.o HH.o HA.o HSZ.o hown8);have hx8:=ħ (hx7.o.trans (Zbq hgrow8));have hy8:=ħ (hy7.o.trans (Zbq hgrow8));clear hown8 hgrow8 HO HH HA HSZ hz7 hx7 hy7 Y7 o0 o1'))
         have hz9:Hid (Zpg w8 b (S++Zgs (ks.take (j+1)))):=ħ (by rw[HTJ.o,HO1.o,← List.append_assoc];exact hz8.o)
         clear hz8
         go_roundw
         case rel=>exact⟨j+1,by go_num,by omega,hz9,hx8,hy8,HKN2⟩
         case measure=>simp only[intOf];omega
     ·have jj:¬ ((j:Int)<m):=by omega
      obtain rfl:j=m:=by omega
      have HTJ:Hid (ks.take j=ks):=ħ (List.take_of_length_le (by rw[HM.o];exact Nat.le_refl _))
      have hz9:Hid (Zpg wr b (Zgs ((ps.take (i+1)).flatMap Zan))):=ħ (by
       have:=hz.o
       rw[HTJ.o] at this
       rwa [HTK.o])
      have hok9:Hid (∀ j p,j<i+1→ps[j]?=some p→okQ ns p=true):=ħ (fun j' p' hj' hp'=>by
       rcases Nat.lt_succ_iff_lt_or_eq.1 hj' with h1 | rfl
       ·exact hok.o j' p' h1 hp'
       ·rw[HQI.o] at hp'
        cases hp'
        exact HKN.o (fun k hk=>by
         obtain⟨l,hl⟩:=List.mem_iff_getElem?.1 hk
         exact hkj.o l k (by have:=(List.getElem?_eq_some_iff.1 hl).1;have:=HM.o;omega) hl))
      clear hz hkj hok hy HKN HUN HAS
      go_wp2
      go_roundw
      case rel=>exact⟨i+1,by go_num,by omega,hz9,hx,hok9⟩
      case measure=>simp only[intOf];omega
  ·have ii:¬ ((i:Int)<pn):=by omega
   obtain rfl:i=pn:=by omega
   have HTI:Hid (ps.take i=ps):=ħ (List.take_of_length_le (by rw[← HPN.o];exact Nat.le_refl _))
   rw[HTI.o] at hq HLS HKO
   have HOKA:Hid (∀ p∈ps,okQ ns p=true):=ħ (fun p hp=>by
    obtain⟨l,hl⟩:=List.mem_iff_getElem?.1 hp
    exact hok.o l p (by have:=(List.getElem?_eq_some_iff.1 hl).1;have:=HPN.o;omega) hl)
   have HGA:=ħ (fun hg=>HALL.o HOKA.o hg)
   have BR:=ħ (HXX.o wr ho.o)
   clear hok HALL HBAD
   obtain⟨gb,hgb⟩:∃ g,Zcy ns most=g:=⟨_,rfl⟩
   rw[hgb] at HGV HNG HGA
   clear hgb
   go_wp2_with fail
   refine (HGV.o wr BR.o).mono ?_
   rintro e w3 ⟨rfl,b3⟩
   have B3:=ħ (BR.o.trans (b3.mono BR.o.size))
   have hq3:=ħ (hq.o.step b3)
   have Z3:=ħ ((HZZ.o wr ho.o).step b3)
   clear b3 BR hq ho HGV
   cases gb with
   | false =>
    have HR:=ħ (HNG.o rfl)
    go_wp2
    go_ret2
    exact Zi0.bad HR.o (by decide) rfl B3.o
   | true =>
    have HR:=ħ (HGA.o rfl)
    obtain⟨D,hown,hh,ha,hsz⟩:=hq3.o
    have HO:=ħ hown
    have HSZ:Hid (Maps.size D=CS.length):=ħ (by rw[hsz,HCL.o])
    clear hh ha hown hsz HGA HNG
    have HL8:=ħ (show IntKind.i64.wrap (CS.length:Int)=(CS.length:Int) from IntWalk.i64_in _ (by
     have h1:=HSZ.o
     have h2:=HO.o.size_le
     have h3:=HLS.o
     omega))
    by_cases h8:8<CS.length
    ·have HR6:Hid (RR=6):=ħ (by rw[HR.o,if_pos h8])
     have l8:(8:Int)<(CS.length:Int):=by omega
     clear HR
     go_wp2_with (at_len;refine wpList_len_own _ rfl _ 185 rfl 123 4 Tryz.underlying185 (plainElem Tryz.prog 4) b _ D rfl HO.o ?_;rw[HSZ.o])
     go_ret2
     exact Zi0.bad HR6.o (by decide) rfl B3.o
    ·have HR0:Hid (RR=0):=ħ (by rw[HR.o,if_neg h8])
     have l8:¬ (8:Int)<(CS.length:Int):=by omega
     have C3:Hid (Zhn w3 b (Zgs (ps.flatMap Zan))):=ħ hq3.o.setK
     clear HR hq3
     have A3:=(RowKit.Below.refl w3.heap.size w3).alloc (Nat.le_refl _) (.cells #[.map (some b)] 185)
     have S4:=ħ (C3.o.step A3)
     have B4:=ħ (B3.o.trans (A3.mono B3.o.size))
     have Z4:=ħ (Z3.o.step A3)
     have M4:Hid ((w3.alloc (.cells #[.map (some b)] 185)).cell? ⟨w3.heap.size,0,none⟩=some (.map (some b))):=ħ ((show Zah _ w3.heap.size 185 [.map (some b)] from heap_alloc_new w3 _).cell 0 _ rfl)
     have L4:Hid (w3.heap.size<(w3.alloc (.cells #[.map (some b)] 185)).heap.size):=ħ (by simp)
     have HKE:=ħ (callsIn_wide.1 (Zug Fence.wide 5 trivial rfl b w3))
     clear A3
     go_upto_region 22 with (at_len;refine wpList_len_own _ rfl _ 185 rfl 123 4 Tryz.underlying185 (plainElem Tryz.prog 4) b _ D rfl HO.o ?_;rw[HSZ.o])
     go_wp2_with fail
     refine HKE.o.mono ?_
     rintro e w4 ⟨rfl,hw4⟩
     subst hw4
     have HSD:=ħ (Zl3 w3.heap.size b (Zgs (ps.flatMap Zan)) HKO.o (by have:=HLS.o;omega) _ L4.o M4.o S4.o)
     clear HO HSZ C3 S4 M4 L4 HKE B3 Z3
     generalize w3.alloc (.cells #[.map (some b)] 185)=w4 at *
     go_wp2_with fail
     refine HSD.o.mono ?_
     rintro e w5 ⟨ro,rc,ss,rfl,ha,hx,hos,hb5⟩
     have HE:ss=CS:=Z5n ha HCA.o (fun x=>by rw[hx,HCQ.o])
     subst HE
     have B5:=ħ (B4.o.trans (hb5.mono B4.o.size))
     have Z5:=ħ (Z4.o.step hb5)
     have HBL:Hid (blk ro≠some w.heap.size):=ħ (fun e=>by
      have h1:=(hos.blk_lt e).1
      have h2:=Z4.o.lt
      omega)
     have O5:=ħ (hos.lower (B':=w.heap.size) B4.o.size)
     have Z6:=ħ (Z5.o.set 3 (.slice ro ss.length rc))
     have U6:=ħ (Zaj w5 ⟨w.heap.size,3,none⟩ (.slice ro ss.length rc))
     clear ha hx hos hb5 B4 Z4 HSD
     have x0:=Z5.o.cell 0 _ rfl
     have x1:=Z5.o.cell 1 _ rfl
     have x2:=Z5.o.cell 2 _ rfl
     have x3:=Z5.o.cell 3 _ rfl
     have f3:=Z5.o.warm 3
     clear Z5
     have LN:Hid (RowKit.Below w.heap.size w (w5.setCell ⟨w.heap.size,3,none⟩ (.slice ro ss.length rc))):=ħ (U6.o.below B5.o (Nat.le_refl _))
     have O6:=ħ (O5.o.upd U6.o HBL.o)
     go_wp2
     go_ret2
     exact Zi0.good HR0.o rfl (Nat.le_refl _) rfl Z6.o O6.o LN.o
end
section
open Go.RowKit Go.Shelf Go.Sort
theorem Za7.int {w:World} {ao:Option Addr} {l:List Int} (h:Za7 Zcc w ao l) (i:Nat) (x:Int) (hx:l[i]?=some x):∃ g off,ao=some ⟨g,off,none⟩∧g<w.heap.size∧w.cell? ⟨g,off+i,none⟩=some (.int .i64 x):=by
 obtain⟨g,off,h1,h2,h3⟩:=h.at Zbs i x hx
 refine⟨g,off,h1,h2,?_⟩
 have:=h3 0 (.int .i64 x) rfl
 rwa [Nat.mul_one,Nat.add_zero] at this
theorem Z3n (w:World) (ao1 ao2:Option Addr) (n1 n2 c1 c2:Nat) (l1 l2:List Int) (hn1:n1=l1.length) (hn2:n2=l2.length) (h1:Za7 Zcc w ao1 l1) (h2:Za7 Zcc w ao2 l2) (hbig1:n1≤1000000) (hbig2:n2≤1000000) :
  Calls Tryz.prog 188 #[.slice ao1 n1 c1,.slice ao2 n2 c2] w fun e w'=>e = .returned (.int .i64 (Ze6 l1 l2))∧Zr7 w w':=by
 have H1:=ħ h1
 have H2:=ħ h2
 have HN1:=ħ hn1
 have HN2:=ħ hn2
 obtain⟨V,hV⟩:∃ V,Ze6 l1 l2=V:=⟨_,rfl⟩
 have HV:=ħ hV
 rw[hV]
 clear h1 h2 hn1 hn2 hV
 have B0:=ħ (Zr7.refl w)
 go_enter Tryz.func188,Tryz.ntmps188
 go_wp2_with fail
 go_loopw [11] (fun cc wr=>∃ (i:Nat),cc = .int .i64 i∧i≤n1∧i≤n2∧Hid (Ze6 (l1.drop i) (l2.drop i)=V)∧Hid (Zr7 w wr)) (fun c _=>(n1-intOf c).toNat)
 case atStart=>exact⟨0,rfl,by omega,by omega,HV,B0⟩
 case round =>
  clear B0 HV
  obtain⟨i,rfl,hi1,hi2,hv,hw⟩:=hrel
  have e2:IntKind.i64.wrap ((i:Int)+1)=((i+1:Nat):Int):=IntWalk.i64_in _ (by omega)
  by_cases hlt:i<n1
  ·have ii:(i:Int)<n1:=by omega
   have HK1:Hid (∃ k,l1[i]?=some k):=ħ (by rw[HN1.o] at hlt;exact⟨l1[i],List.getElem?_eq_getElem hlt⟩)
   obtain⟨k1,hk1⟩:=HK1.o
   obtain⟨g1,off1,hao1,hg1,s0⟩:=(H1.o.below hw.o.below).int i k1 hk1
   have HG1:=ħ hao1
   by_cases hlt2:i<n2
   ·have jj:¬ (n2:Int)≤(i:Int):=by omega
    have jl:(i:Int)<n2:=by omega
    have HK2:Hid (∃ k,l2[i]?=some k):=ħ (by rw[HN2.o] at hlt2;exact⟨l2[i],List.getElem?_eq_getElem hlt2⟩)
    obtain⟨k2,hk2⟩:=HK2.o
    obtain⟨g2,off2,hao2,hg2,t0⟩:=(H2.o.below hw.o.below).int i k2 hk2
    have HG2:=ħ hao2
    have HC:=ħ (fun w=>Zuc k1 k2 w)
    have HVV:Hid (V=if Znr k1 k2≠0 then Znr k1 k2 else Ze6 (l1.drop (i+1)) (l2.drop (i+1))):=ħ (by
     rw[← hv.o,Zb5 l1 i k1 hk1,Zb5 l2 i k2 hk2,Ze6])
    subst hao1
    subst hao2
    clear hk1 hk2 HK1 HK2 hg1 hg2 hv
    generalize Znr k1 k2=x at *
    go_wp2_with fail
    refine (HC.o wr).mono ?_
    rintro e w3 ⟨rfl,b3'⟩
    subst b3'
    clear s0 t0
    by_cases hx:x=0
    ·have xb:(x != 0)=false:=by rw[hx];rfl
     have HW:Hid (Ze6 (l1.drop (i+1)) (l2.drop (i+1))=V):=ħ (by rw[HVV.o,if_neg (by simp[hx])])
     clear hx
     go_wp2
     go_roundw
     case rel=>exact⟨i+1,by go_num,by omega,by omega,HW,hw⟩
     case measure=>simp only[intOf];omega
    ·have xb:(x != 0)=true:=by rw[bne_iff_ne];exact hx
     have HW:Hid (V=x):=ħ (by rw[HVV.o,if_pos hx])
     clear hx
     go_wp2
     go_ret
     exact⟨Za2 HW.o.symm,hw.o⟩
   ·have jj:(n2:Int)≤(i:Int):=by omega
    have HW:Hid (V=1):=ħ (by
     have h2:l2.drop i=[]:=List.drop_eq_nil_of_le (by rw[← HN2.o];omega)
     rw[← hv.o,Zb5 l1 i k1 hk1,h2];rfl)
    subst hao1
    clear hk1 HK1 hg1 hv
    go_wp2
    go_ret
    exact⟨Za2 HW.o.symm,hw.o⟩
  ·have ii:¬ ((i:Int)<n1):=by omega
   have hd1:l1.drop i=[]:=List.drop_eq_nil_of_le (by rw[← HN1.o];omega)
   by_cases hlt2:n1<n2
   ·have jj:(n1:Int)<n2:=by omega
    have HW:Hid (V = -1):=ħ (by
     have hl:i<l2.length:=by rw[← HN2.o];omega
     rw[← hv.o,hd1,Zb5 l2 i _ (List.getElem?_eq_getElem hl)];rfl)
    clear hd1
    go_wp2
    go_ret
    exact⟨Za2 HW.o.symm,hw.o⟩
   ·have jj:¬ ((n1:Int)<n2):=by omega
    have HW:Hid (V=0):=ħ (by
     have h2:l2.drop i=[]:=List.drop_eq_nil_of_le (by rw[← HN2.o];omega)
     rw[← hv.o,hd1,h2];rfl)
    clear hd1
    go_wp2
    go_ret
    exact⟨Za2 HW.o.symm,hw.o⟩
def Zg8 (b:Bool):List Value:=[.bool b]
def Zjw (w:World) (P:Nat→Prop) (c:List Int×List Bool) (vs:List Value):Prop:=∃ ao cap bo cb,vs=[.slice ao c.1.length cap,.slice bo c.2.length cb]∧c.2.length≤cb ∧
 (c.1=[]∨∃ g off,ao=some ⟨g,off,none⟩∧P g∧g<w.heap.size∧Za3 w g off (c.1.flatMap Zcc))∧(c.2=[]∨∃ g off,bo=some ⟨g,off,none⟩∧P g∧g<w.heap.size∧Za3 w g off (c.2.flatMap Zg8))
theorem Zjw.keeps:Zv2 Zjw:=fun w w' P P' c vs hb hs hP ⟨ao,cap,bo,cb,hv,hcb,hk,hk2⟩=>⟨ao,cap,bo,cb,hv,hcb,by
 rcases hk with hk | ⟨g,off,h1,h2,h3,h4⟩
 ·exact .inl hk
 ·exact .inr ⟨g,off,h1,hP g h2 h3,Nat.lt_of_lt_of_le h3 hs,h4.of_block (hb g h2 h3)⟩,by
 rcases hk2 with hk | ⟨g,off,h1,h2,h3,h4⟩
 ·exact .inl hk
 ·exact .inr ⟨g,off,h1,hP g h2 h3,Nat.lt_of_lt_of_le h3 hs,h4.of_block (hb g h2 h3)⟩⟩
theorem Z6u (vs:Array Value) (h:vs.size=2):(Tryz.prog.info? 157).map (·.size)=some vs.size:=by
 rw[h]
 kernel_rfl
theorem Zzp (w:World) (ao1 ao2:Option Addr) (n1 n2 c1 c2:Nat) (b1 b2:Value) (l1 l2:List Int) (hb1:b1.oneCell'=true) (hb2:b2.oneCell'=true) (hn1:n1=l1.length) (hn2:n2=l2.length) (h1:Za7 Zcc w ao1 l1) (h2:Za7 Zcc w ao2 l2) (hbig1:n1≤1000000) (hbig2:n2≤1000000) :
  Calls Tryz.prog 187 #[.agg #[.slice ao1 n1 c1,b1],.agg #[.slice ao2 n2 c2,b2]] w fun e w'=>e = .returned (.int .i64 (Ze6 l1 l2))∧Zr7 w w':=by
 have bx:=((Below.refl w.heap.size w).alloc (Nat.le_refl _) (.cells #[.slice ao1 n1 c1,b1] 157)).alloc (by simp) (.cells #[.slice ao2 n2 c2,b2] 157)
 have G1:=ħ (((Zr7.refl w).alloc (.cells #[.slice ao1 n1 c1,b1] 157)).alloc (.cells #[.slice ao2 n2 c2,b2] 157))
 have HC:=ħ (Z3n _ ao1 ao2 n1 n2 c1 c2 l1 l2 hn1 hn2 (h1.below bx) (h2.below bx) hbig1 hbig2)
 have X1:Hid (Zah ((w.alloc (.cells #[.slice ao1 n1 c1,b1] 157)).alloc (.cells #[.slice ao2 n2 c2,b2] 157)) w.heap.size 157 [.slice ao1 n1 c1,b1]):=ħ (Zar _ _ _)
 have X2:Hid (Zah ((w.alloc (.cells #[.slice ao1 n1 c1,b1] 157)).alloc (.cells #[.slice ao2 n2 c2,b2] 157)) (w.heap.size+1) 157 [.slice ao2 n2 c2,b2]):=ħ (heap_alloc2_new _ _ _)
 clear bx hn1 hn2 h1 h2
 go_enter Tryz.func187,Tryz.ntmps187
 go_upto_region 1 with (fail)
 generalize (w.alloc (.cells #[.slice ao1 n1 c1,b1] 157)).alloc (.cells #[.slice ao2 n2 c2,b2] 157)=w1 at *
 have x0:=X1.o.cell 0 _ rfl
 have x1:=X2.o.cell 0 _ rfl
 go_wp2_with fail
 refine HC.o.mono ?_
 rintro e w3 ⟨rfl,b3⟩
 have B3:=ħ (G1.o.trans b3)
 clear b3 x0 x1
 go_wp2
 go_ret
 exact⟨rfl,B3.o⟩
end
section
open Go.RowKit Go.Shelf Go.Sort
abbrev Cel:=List Int×List Bool
def Z77 (w:World) (g base:Nat) (bad:Nat→Prop) (x:Cel×List Value):Prop :=
 Zjw w (fun h=>base≤h∧¬ bad h∧h≠g) x.1 x.2∧x.1.1.length≤1000
abbrev GE (w:World) (g base:Nat) (bad:Nat→Prop):={x:Cel×List Value // Z77 w g base bad x}
instance (w:World) (g base:Nat) (bad:Nat→Prop):Inhabited (GE w g base bad):=⟨⟨(([],[]),[.slice none 0 0,.slice none 0 0]),⟨none,0,none,0,rfl,Nat.le_refl _,.inl rfl,.inl rfl⟩,by simp⟩⟩
theorem Z9h (w:World) (g base:Nat) (bad:Nat→Prop):SWO (ltOf fun x y:GE w g base bad=>Ze6 x.1.1.1 y.1.1.1) where
 irrefl x:=by
  have:Ze6 x.1.1.1 x.1.1.1=0:=(Zf4 _ _).2 rfl
  simp[ltOf,this]
 trans x y z h1 h2:=by
  simp only[ltOf,decide_eq_true_eq] at *
  have h3:=Zf5 _ _ _ (Int.le_of_lt h1) (Int.le_of_lt h2)
  rcases Int.lt_or_eq_of_le h3 with h4 | h4
  ·exact h4
  ·have h5:=(Zf4 _ _).1 h4
   rw[h5] at h1
   have:=Zdk z.1.1.1 y.1.1.1
   omega
 ntrans x y z h1 h2:=by
  simp only[ltOf,decide_eq_false_iff_not] at *
  intro h3
  have a1:=Zdk x.1.1.1 y.1.1.1
  have a2:=Zdk y.1.1.1 z.1.1.1
  have a3:=Zdk x.1.1.1 z.1.1.1
  have:=Zf5 z.1.1.1 y.1.1.1 x.1.1.1 (by omega) (by omega)
  omega
theorem Zjw.two {w:World} {P:Nat→Prop} {c:Cel} {vs:List Value} (h:Zjw w P c vs):vs.length=2:=by
 obtain⟨ao,cap,bo,cb,rfl,-⟩:=h
 rfl
theorem Zjw.one {w:World} {P:Nat→Prop} {c:Cel} {vs:List Value} (h:Zjw w P c vs):∀ v∈vs,v.oneCell'=true:=by
 obtain⟨ao,cap,bo,cb,rfl,-⟩:=h
 simp[Value.oneCell']
theorem Ztb (w:World) (base lo:Nat) (bad:Nat→Prop) (ao:Option Addr) (n cp:Nat) (xs:List Cel) (vss:List (List Value)) (h:RowM Zjw 2 base w lo bad ao n cp xs vss) (hl:∀ c∈xs,c.1.length≤1000) (hn:n≤1000000) :
  Calls Tryz.prog 186 #[.slice ao n cp,.func (.func 187) #[] #[]] w fun e w'=>e = .returned (.tuple #[])∧(∃ ys vss',ys.Perm xs∧ys.Pairwise (fun a b=>leV a b=true)∧RowM Zjw 2 base w' lo bad ao n cp ys vss')∧Only w w' (fun g=>blk ao=some g):=by
 cases ao with
 | none =>
  have hO:=h.own
  have hn0:n=0:=by cases hO with | nil h1 h2 h3=>exact h2
  have hx:xs=[]:=List.eq_nil_of_length_eq_zero (by rw[← h.cnt];exact hn0)
  subst hx
  subst hn0
  refine (AnyF.slices_SortFunc_none Tryz.sortCell none cp _ w).mono ?_
  rintro e w' ⟨rfl,rfl⟩
  exact⟨rfl,⟨[],vss,.nil,.nil,h⟩,Only.refl _ _⟩
 | some a =>
  obtain⟨g,off,si⟩:=a
  have hO:=h.own
  have hsi:si=none:=by cases hO;rfl
  subst hsi
  have hlt:g<w.heap.size:=(hO.blk_lt rfl).2
  have hxl:xs.length=vss.length:=h.len.symm
  have hgood:∀ x∈xs.zip vss,Z77 w g base bad x:=by
   intro x hx
   obtain⟨i,hi⟩:=List.mem_iff_getElem?.1 hx
   rw[List.getElem?_zip_eq_some] at hi
   obtain⟨h1,h2⟩:=hi
   refine⟨Zjw.keeps w w _ _ _ _ (fun _ _ _=>rfl) (Nat.le_refl _) (fun y hy _=>⟨hy.1,hy.2.1,fun e=>hy.2.2 (by rw[e];rfl)⟩) (h.each i x.1 _ h1 h2),hl _ (List.mem_of_getElem? h1)⟩
  obtain⟨d,hd⟩:=Zqs _ hgood
  have hd1:d.map (fun x=>x.1.1)=xs:=by
   have:=congrArg (List.map Prod.fst) hd
   rw[List.map_map,List.map_fst_zip (by omega)] at this
   exact this
  have hd2:d.flatMap (fun x=>x.1.2)=vss.flatten:=by
   have:=congrArg (List.map Prod.snd) hd
   rw[List.map_map,List.map_snd_zip (by omega)] at this
   rw[← this,List.flatMap_def]
   rfl
  have hdl:d.length=n:=by rw[h.cnt,← hd1,List.length_map]
  have hO':=hO
  rw[← hd2] at hO'
  have hk2:∀ x:GE w g base bad,x.1.2.length=2:=fun x=>x.2.1.two
  have hH:=OwnK.holds (fun x:GE w g base bad=>x.1.2) 2 hk2 hO'
  have eg:∀ args w,(callFunc 187 args).run Tryz.prog w = .ok (.enter 187 args) w:=enters_of Tryz.func187 (by kernel_rfl) rfl
  have hkeep:∀ (m:Nat) (os:Array Obj) (dk:Array (GE w g base bad)),dk.size=d.length→Only w (sortWorldK (fun x:GE w g base bad=>x.1.2) 2 w g off m dk os) (· = g):=fun m os dk hs=>(OwnK.sorted (fun x:GE w g base bad=>x.1.2) 2 hk2 (m:=m) (os:=os) (d:=dk) hO' hs).2
  have hone:∀ x:GE w g base bad,∃ a c b cb,x.1.2=[.slice a x.1.1.1.length c,.slice b x.1.1.2.length cb]∧(x.1.1.1=[]∨∃ g' off',a=some ⟨g',off',none⟩∧(base≤g'∧¬ bad g'∧g'≠g)∧g'<w.heap.size∧Za3 w g' off' (x.1.1.1.flatMap Zcc)):=fun x=>by
   obtain⟨a,c,b,cb,hv,_,hr,_⟩:=x.2.1
   exact⟨a,c,b,cb,hv,hr⟩
  have hkr:∀ (x:GE w g base bad) (a:Option Addr) (W:World),Only w W (· = g)→(x.1.1.1=[]∨∃ g' off',a=some ⟨g',off',none⟩∧(base≤g'∧¬ bad g'∧g'≠g)∧g'<w.heap.size∧Za3 w g' off' (x.1.1.1.flatMap Zcc))→Za7 Zcc W a x.1.1.1:=fun x a W hW hr=>by
   rcases hr with hr | ⟨g',off',h1,h2,h3,h4⟩
   ·exact .inl hr
   ·exact .inr ⟨g',off',h1,Nat.lt_of_lt_of_le h3 hW.size,h4.of_block (hW.block g' h3 h2.2.2)⟩
  have hc:=AnyQ.slices_SortFunc Tryz.sortCell 2 Tryz.isAgg157 Tryz.sizeOf157 (fun x:GE w g base bad=>x.1.2) hk2 (fun x v hv=>x.2.1.one v hv) (fun x y=>Ze6 x.1.1.1 y.1.1.1) (Z9h w g base bad) 187 #[] g off cp d.toArray w eg
   (fun m os dk hs x y=>by
    obtain⟨a1,c1,b1,cb1,hv1,hr1⟩:=hone x
    obtain⟨a2,c2,b2,cb2,hv2,hr2⟩:=hone y
    have hW:=hkeep m os dk (by simpa using hs)
    have:=Zzp (sortWorldK (fun x:GE w g base bad=>x.1.2) 2 w g off m dk os) a1 a2 x.1.1.1.length y.1.1.1.length c1 c2 (.slice b1 x.1.1.2.length cb1) (.slice b2 y.1.1.2.length cb2) x.1.1.1 y.1.1.1 rfl rfl rfl rfl (hkr x a1 _ hW hr1) (hkr y a2 _ hW hr2) (Nat.le_trans x.2.2 (by omega)) (Nat.le_trans y.2.2 (by omega))
    rw[show #[Value.slice a1 x.1.1.1.length c1,Value.slice b1 x.1.1.2.length cb1]=x.1.2.toArray by rw[hv1],show #[Value.slice a2 y.1.1.1.length c2,Value.slice b2 y.1.1.2.length cb2]=y.1.2.toArray by rw[hv2]] at this
    exact this) hH hlt (by simp;omega)
  rw[List.size_toArray,hdl] at hc
  refine hc.mono ?_
  rintro e w' ⟨rfl,d',m,os,hp,hs,rfl⟩
  obtain⟨p1,_,p3⟩:=hp
  have hsz:d'.size=d.length:=by simpa using p1
  have hpp:d'.toList.Perm d:=by
   have e1:d'.extract 0 n=d':=by rw[← hdl,← hsz];exact Array.extract_size
   have e2:d.toArray.extract 0 n=d.toArray:=by rw[← hdl,← List.size_toArray];exact Array.extract_size
   rw[e1,e2] at p3
   simpa using p3
  obtain⟨hS,hOn⟩:=OwnK.sorted (fun x:GE w g base bad=>x.1.2) 2 hk2 (m:=m) (os:=os) (d:=d') hO' hsz
  refine⟨rfl,⟨d'.toList.map (fun x=>x.1.1),d'.toList.map (fun x=>x.1.2),by rw[← hd1];exact hpp.map _,?_,?_⟩,hOn.mono (fun x _ hx=>by rw[hx];rfl)⟩
  ·rw[List.pairwise_iff_getElem]
   intro i j hi hj hij
   rw[List.length_map,Array.length_toList] at hi hj
   have:=hs i j (Nat.zero_le _) hij (by omega)
   rw[getElem!_pos d' i hi,getElem!_pos d' j hj] at this
   simp only[List.getElem_map,Array.getElem_toList]
   simp only[ltOf,decide_eq_false_iff_not] at this
   have h1:=Zdk d'[i].1.1.1 d'[j].1.1.1
   unfold leV
   rw[decide_eq_true_eq]
   omega
  refine⟨?_,by rw[List.length_map,List.length_map],by rw[List.length_map,Array.length_toList];omega,fun vs hv=>?_,fun i x vs hx hv=>?_⟩
  ·rw[← List.flatMap_def];exact hS
  ·obtain⟨x,_,rfl⟩:=List.mem_map.1 hv
   exact hk2 x
  ·rw[List.getElem?_map] at hx
   rw[List.getElem?_map] at hv
   obtain⟨y,hy,rfl⟩:=Option.map_eq_some_iff.1 hx
   rw[hy] at hv
   obtain rfl:=Option.some.inj hv
   exact Zjw.keeps w _ _ _ _ _ (fun z hz hl=>hOn.block z hl hz.2.2) hOn.size (fun z hz _=>⟨hz.1,hz.2.1,fun e=>hz.2.2 (Option.some.inj e).symm⟩) y.2.1
end
section
open Go.RowKit Go.Sort
structure SpcR (w:World) (ns:List (List Nat)) (ao:Option Addr) (n:Nat):Prop where
 cnt:n=ns.length
 strs:Zcr w ao ns
 byts:∀ s∈ns,NmB s
 asc:Zjh ns
 big:n≤100
theorem SpcR.step {w w':World} {ns:List (List Nat)} {ao:Option Addr} {n:Nat} (h:SpcR w ns ao n) (hb:Below w.heap.size w w'):SpcR w' ns ao n:=⟨h.cnt,h.strs.below hb,h.byts,h.asc,h.big⟩
structure TruB (X Y D:Nat) (ns:List (List Nat)) (ao:Option Addr) (n cp:Nat) (most:Int) (c2 c3:Value) (vo:Option Addr) (vc:Nat) (v:List Int) (w:World):Prop where
 bx:Zah w X 151 [.pointer (some ⟨D,0,none⟩)]
 bd:Zah w D 162 [.slice ao n cp,.int .i64 most,c2,c3]
 bv:Zah w Y 60 [.slice vo v.length vc]
 vals:Za7 Zcc w vo v
 spc:SpcR w ns ao n
theorem TruB.step {X Y D:Nat} {ns:List (List Nat)} {ao:Option Addr} {n cp:Nat} {most:Int} {c2 c3:Value} {vo:Option Addr} {vc:Nat} {v:List Int} {w w':World} (h:TruB X Y D ns ao n cp most c2 c3 vo vc v w) (hb:Below w.heap.size w w'):TruB X Y D ns ao n cp most c2 c3 vo vc v w' :=
 ⟨h.bx.step hb,h.bd.step hb,h.bv.step hb,h.vals.below hb,h.spc.step hb⟩
theorem Z3o (t:Array Value) (h:t.size=26):∃ f:Nat→Value,t=#[f 0,f 1,f 2,f 3,f 4,f 5,f 6,f 7,f 8,f 9,f 10,f 11,f 12,f 13,f 14,f 15,f 16,f 17,f 18,f 19,f 20,f 21,f 22,f 23,f 24,f 25]:=by
 obtain⟨l⟩:=t
 have hl:l.length=26:=h
 have e:l=(List.range 26).map (fun i=>l.getD i undef):=by
  apply List.ext_getElem
  ·simp[hl]
  ·intro i h1 h2
   simp[List.getD,h1]
 exact⟨fun i=>l.getD i undef,congrArg List.toArray e⟩
theorem Zmm (i:Nat) (h:i<7):i=0∨i=1∨i=2∨i=3∨i=4∨i=5∨i=6:=by omega
def c1F (D N:Nat) (ao:Option Addr) (n cp:Nat) (most:Int) (y1 y2:ByteArray) (y3:Int) (i1 i2:Nat) (i:Nat) (W:World) (v:Value):Prop:=match i with
 | 0=>v = .pointer (some ⟨D,0,none⟩)
 | 1=>v = .pointer (some ⟨D,0,none⟩)
 | 2=>v = .pointer (some ⟨D,0,none⟩)
 | 3=>v = .agg #[.slice ao n cp,.int .i64 most]
 | 4=>v = .agg #[.string y1,.string y2,.int .i64 y3]
 | 5=>v = .agg #[.int .i64 (i1:Int),.int .i64 (i2:Int),.int .i64 y3]
 | 6=>∃ A,v = .pointer (some ⟨A,0,none⟩)∧Zah W A 147 Z89∧N≤A
 | _=>True
theorem Zph (D N:Nat) (ao:Option Addr) (n cp:Nat) (most:Int) (y1 y2:ByteArray) (y3:Int) (i1 i2:Nat):∀ i w w' v,c1F D N ao n cp most y1 y2 y3 i1 i2 i w v→Below w.heap.size w w'→c1F D N ao n cp most y1 y2 y3 i1 i2 i w' v:=by
 intro i w w' v h hb
 match i with
 | 0=>exact h
 | 1=>exact h
 | 2=>exact h
 | 3=>exact h
 | 4=>exact h
 | 5=>exact h
 | 6=>obtain⟨A,h1,h2,h3⟩:=h;exact⟨A,h1,h2.step hb,h3⟩
 | k+7=>trivial
theorem Zzq (X Y D:Nat) (ns:List (List Nat)) (ao:Option Addr) (n cp:Nat) (most:Int) (c2 c3:Value) (vo:Option Addr) (vc:Nat) (v:List Int) (k:Ky) (w:World) (h:TruB X Y D ns ao n cp most c2 c3 vo vc v w) (hk:NmB k.l∧NmB k.r) (hkn:Ze4 ns k.l=true∧Ze4 ns k.r=true) (hvl:v.length=n+1) (hvb:∀ i,0≤gv v i∧gv v i≤100000) :
  Calls Tryz.prog 184 #[.agg (kyC k).toArray,.pointer (some ⟨X,0,none⟩),.pointer (some ⟨Y,0,none⟩)] w fun e w'=>e = .returned (.bool (fK ns (gv v) k))∧Below w.heap.size w w':=by
 have bx:=(Below.refl w.heap.size w).alloc (Nat.le_refl _) (.cells (kyC k).toArray 123)
 have B1:=ħ bx
 have H1:=ħ (h.step bx)
 have X1:Hid (Zah (w.alloc (.cells (kyC k).toArray 123)) w.heap.size 123 (kyC k)):=ħ (heap_alloc_new w _)
 have HOF:=ħ (fun W (hs:SpcR W ns ao n)=>Zu2 W ao n cp most ns k hs.cnt hs.strs hs.byts hs.asc (by have:=hs.big;omega) hk.1 hk.2)
 have HVL:=ħ hvl
 have HVB:=ħ hvb
 have HV:Hid (fK ns (gv v) k=decide (gv v (Zco ns k.l)-gv v (Zco ns k.r)≤k.c)):=ħ rfl
 have e1:Zh3 ns k.l=(Zco ns k.l:Int):=by unfold Zh3;rw[if_pos hkn.1]
 have e2:Zh3 ns k.r=(Zco ns k.r:Int):=by unfold Zh3;rw[if_pos hkn.2]
 have hi1:=Zfs hkn.1
 have hi2:=Zfs hkn.2
 rw[← h.spc.cnt] at hi1 hi2
 rw[e1,e2] at HOF
 have HG1:=ħ (Zg7 (l:=v) (i:=Zco ns k.l) (by omega))
 have HG2:=ħ (Zg7 (l:=v) (i:=Zco ns k.r) (by omega))
 have g1:=hvb (Zco ns k.l)
 have g2:=hvb (Zco ns k.r)
 rw[HV.o]
 clear HV e1 e2 hk hkn hvb bx h
 generalize gv v (Zco ns k.l)=z1 at *
 generalize gv v (Zco ns k.r)=z2 at *
 generalize Zco ns k.l=i1 at *
 generalize Zco ns k.r=i2 at *
 have HKX:Hid (kyC k=[.string (Zad k.l),.string (Zad k.r),.int .i64 k.c]):=ħ rfl
 rw[HKX.o] at B1 X1 H1 HOF ⊢
 clear HKX
 generalize Zad k.l=y1 at *
 generalize Zad k.r=y2 at *
 generalize k.c=y3 at *
 go_enter Tryz.func184,Tryz.ntmps184
 go_upto_region 1 with (fail)
 generalize w.alloc (.cells #[.string y1,.string y2,.int .i64 y3] 123)=w1 at *
 refine Zhv 7 0 (c1F D w1.heap.size ao n cp most y1 y2 y3 i1 i2) (by kernel_rfl) rfl (Zph D w1.heap.size ao n cp most y1 y2 y3 i1 i2) (Ze0 (by kernel_rfl)) (Zh0 (by kernel_rfl)) (Zo0 (by kernel_rfl)) (Zp8 (by kernel_rfl)) ?hs ?he
 case hs =>
  intro i o hin hi listed a' w' H hl2
  have hl3:=Za9 hl2
  have hb:=ħ H.below
  have s1:=H.same 1 (Zap (by kernel_rfl))
  have s3:=H.same 3 (Zap (by kernel_rfl))
  have hdn:=H.done
  have hdf:=H.defers
  have hts:=H.tsize
  clear hl2 H
  obtain⟨t',df⟩:=a'
  obtain⟨f',rfl⟩:=Z3o t' hts
  have hdf':df=[]:=hdf
  subst hdf'
  have gs1:f' 1 = .pointer (some ⟨X,0,none⟩):=s1
  have gs3:f' 3 = .pointer (some ⟨w.heap.size,0,none⟩):=s3
  clear s1 s3
  clear hdf hts
  have hcases:i=0∨i=1∨i=2∨i=3∨i=4∨i=5∨i=6:=Zmm i hin
  clear hin
  rcases hcases with rfl | rfl | rfl | rfl | rfl | rfl | rfl
  ·obtain rfl:=Option.some.inj hi
   clear hdn hl3
   rw[gs1]
   clear gs1 gs3
   have x0:=(H1.o.step hb.o).bx.cell 0 _ rfl
   refine Zac rfl ?_
   go_wp2_with fail
   exact Zaa ⟨_,rfl,Below.refl _ _,rfl⟩
  ·obtain rfl:=Option.some.inj hi
   have dv0:f' 6 = .pointer (some ⟨D,0,none⟩):=hdn 0 _ 6 rfl (hl3 0 (by rfl)) rfl
   clear hdn hl3
   rw[dv0]
   clear dv0 gs1 gs3
   refine Zac rfl ?_
   go_wp2_with fail
   exact Zaa ⟨_,rfl,Below.refl _ _,rfl⟩
  ·obtain rfl:=Option.some.inj hi
   have dv1:f' 7 = .pointer (some ⟨D,0,none⟩):=hdn 1 _ 7 rfl (hl3 1 (by rfl)) rfl
   clear hdn hl3
   rw[dv1]
   clear dv1 gs1 gs3
   refine Zac rfl ?_
   go_wp2_with fail
   exact Zaa ⟨_,rfl,Below.refl _ _,rfl⟩
  ·obtain rfl:=Option.some.inj hi
   have dv2:f' 8 = .pointer (some ⟨D,0,none⟩):=hdn 2 _ 8 rfl (hl3 2 (by rfl)) rfl
   clear hdn hl3
   rw[dv2]
   clear dv2 gs1 gs3
   have d0:=(H1.o.step hb.o).bd.cell 0 _ rfl
   have d1:=(H1.o.step hb.o).bd.cell 1 _ rfl
   refine Zac rfl ?_
   go_wp2_with fail
   exact Zaa ⟨_,rfl,Below.refl _ _,rfl⟩
  ·obtain rfl:=Option.some.inj hi
   clear hdn hl3
   rw[gs3]
   clear gs1 gs3
   have k0:=(X1.o.step hb.o).cell 0 _ rfl
   have k1:=(X1.o.step hb.o).cell 1 _ rfl
   have k2:=(X1.o.step hb.o).cell 2 _ rfl
   refine Zac rfl ?_
   go_wp2_with fail
   exact Zaa ⟨_,rfl,Below.refl _ _,rfl⟩
  ·obtain rfl:=Option.some.inj hi
   have dv3:f' 9 = .agg #[.slice ao n cp,.int .i64 most]:=hdn 3 _ 9 rfl (hl3 3 (by rfl)) rfl
   have dv4:f' 10 = .agg #[.string y1,.string y2,.int .i64 y3]:=hdn 4 _ 10 rfl (hl3 4 (by rfl)) rfl
   clear hdn hl3
   rw[dv3,dv4]
   clear dv3 dv4 gs1 gs3
   refine Zac rfl ?_
   go_wp2_with fail
   refine (HOF.o w' (H1.o.step hb.o).spc).mono ?_
   rintro e w4 ⟨rfl,b4⟩
   have HB4:=ħ b4
   clear b4
   go_wp2_with fail
   exact Zaa ⟨_,rfl,HB4.o,rfl⟩
  ·obtain rfl:=Option.some.inj hi
   clear hdn hl3
   clear gs1 gs3
   refine Zac rfl ?_
   go_wp2_with fail
   exact Zaa ⟨_,rfl,(Below.refl w'.heap.size w').alloc (Nat.le_refl _) _,w'.heap.size,rfl,heap_alloc_new _ _,hb.o.size⟩
 case he =>
  intro listed a' w4 H hall
  have hd5:c1F D w1.heap.size ao n cp most y1 y2 y3 i1 i2 5 w4 (a'.tmps.getD 11 undef):=H.done 5 _ 11 rfl (hall 5 (by decide)) rfl
  have hd6:c1F D w1.heap.size ao n cp most y1 y2 y3 i1 i2 6 w4 (a'.tmps.getD 5 undef):=H.done 6 _ 5 rfl (hall 6 (by decide)) rfl
  have hb4:=ħ H.below
  have s2:=H.same 2 (Zap (by kernel_rfl))
  have s4:=H.same 4 (Zap (by kernel_rfl))
  have hdf:=H.defers
  have hts:=H.tsize
  clear H hall
  obtain⟨t',df⟩:=a'
  obtain⟨f',rfl⟩:=Z3o t' hts
  have hdf':df=[]:=hdf
  subst hdf'
  have gs2:f' 2 = .pointer (some ⟨Y,0,none⟩):=s2
  have gs4:f' 4 = .bool false:=s4
  have e5:f' 11 = .agg #[.int .i64 (i1:Int),.int .i64 (i2:Int),.int .i64 y3]:=hd5
  have e6:c1F D w1.heap.size ao n cp most y1 y2 y3 i1 i2 6 w4 (f' 5):=hd6
  clear hd6
  obtain⟨A,e6,hA,hNA⟩:=e6
  rw[gs2,gs4,e5,e6]
  clear s2 s4 gs2 gs4 hdf hts hd5 e5 e6
  have HA:=ħ hA
  have HNA:=ħ hNA
  clear hA hNA
  refine Zbn (Zac rfl ?_)
  refine Zab rfl 147 (.tmp 5) (.tmp 11) rfl A #[.int .i64 (i1:Int),.int .i64 (i2:Int),.int .i64 y3] ?s1 ?s2 147 _ HA.o (Zmg _ rfl) rfl (by simp[Value.oneCell']) ?_
  case s1=>rfl
  case s2=>rfl
  intro w9 s9 u9
  have S9:Hid (Zah w9 A 147 [.int .i64 (i1:Int),.int .i64 (i2:Int),.int .i64 y3]):=ħ s9
  have U9:=ħ u9
  clear s9 u9
  have B4:=ħ (B1.o.trans (hb4.o.mono B1.o.size))
  have H4:=ħ (H1.o.step (U9.o.below hb4.o HNA.o))
  have B9:=ħ (U9.o.below B4.o (Nat.le_trans B1.o.size HNA.o))
  clear HA H1 hb4 B4
  go_wp2_with fail
  refine Zaa (Zd1 ?_)
  change Exit.then _ _ Exit.normal ⟨#[f' 0,f' 1,.pointer (some ⟨Y,0,none⟩),f' 3,.bool false,.pointer (some ⟨A,0,none⟩),f' 6,f' 7,f' 8,f' 9,f' 10,.agg #[.int .i64 (i1:Int),.int .i64 (i2:Int),.int .i64 y3],f' 12,f' 13,f' 14,f' 15,f' 16,f' 17,f' 18,f' 19,f' 20,f' 21,f' 22,f' 23,f' 24,f' 25],[]⟩ w9
  have e3:IntKind.i64.wrap (z1-z2)=z1-z2:=IntWalk.i64_in _ (by omega)
  have j1:(0:Int)≤(i1:Int):=by omega
  have j2:(0:Int)≤(i2:Int):=by omega
  have j3:(i1:Int)<(n:Int)+1:=by omega
  have j4:(i2:Int)<(n:Int)+1:=by omega
  have c0:=S9.o.cell 0 _ rfl
  have c1:=S9.o.cell 1 _ rfl
  have c2:=S9.o.cell 2 _ rfl
  have v0:=H4.o.bv.cell 0 _ rfl
  obtain⟨g,off,hvo,hg,w1'⟩:=H4.o.vals.int i1 z1 HG1.o
  obtain⟨g',off',hvo',hg',w2'⟩:=H4.o.vals.int i2 z2 HG2.o
  rw[hvo] at hvo'
  simp only[Option.some.injEq,Addr.mk.injEq] at hvo'
  obtain⟨rfl,rfl,-⟩:=hvo'
  rw[hvo] at v0
  go_upto_region 2 with (fail)
  have c0':=cell_regrown c0
  have c1':=cell_regrown c1
  have c2':=cell_regrown c2
  have v0':=cell_regrown v0
  have q1':=cell_regrown w1'
  have q2':=cell_regrown w2'
  clear c0 c1 c2 v0 w1' w2'
  refine wp_region_quiet_below (by kernel_rfl) (by kernel_rfl) ?_
  repeat (go_big_quiet_step (fail))
  refine wpQuiet_nil ?_
  intro _ hw'
  obtain⟨⟨dq,osq⟩,hw''⟩:=hw'
  subst hw''
  have BB:=ħ (B9.o.trans ((below_regrown w9 dq osq).mono B9.o.size))
  clear c0' c1' c2' v0' q1' q2'
  generalize grow (redrawn w9 dq) osq=wy at *
  go_wp2
  go_ret
  exact⟨rfl,BB.o⟩
end
section
open Go.RowKit Go.Sort
def Zre {α:Type} (f:α→Bool) (l:List α):Int:=match l.findIdx? f with
 | some i=>(i:Int)
 | none=>-1
theorem Zvb {α:Type} {f:α→Bool} {l:List α} {i:Nat} {x:α} (hx:l[i]?=some x) (hf:f x=true) (hno:∀ j k,j<i→l[j]?=some k→f k=false):l.findIdx? f=some i:=by
 rw[List.findIdx?_eq_some_iff_getElem]
 have hl:=(List.getElem?_eq_some_iff.1 hx).1
 refine⟨hl,?_,fun j hj=>?_⟩
 ·have:l[i]=x:=by rw[List.getElem?_eq_getElem hl] at hx;exact Option.some.inj hx
  rw[this];exact hf
 ·have:=hno j l[j] hj (List.getElem?_eq_getElem (by omega))
  simp[this]
theorem Zrf {α:Type} {f:α→Bool} {l:List α} (hno:∀ j k,j<l.length→l[j]?=some k→f k=false):l.findIdx? f=none:=by
 rw[List.findIdx?_eq_none_iff]
 intro k hk
 obtain⟨j,hj⟩:=List.mem_iff_getElem?.1 hk
 exact hno j k (List.getElem?_eq_some_iff.1 hj).1 hj
theorem Z3p {α:Type} (f:α→Bool) (ks:List α):decide (0≤Zre f ks)=ks.any f:=by
 unfold Zre
 cases h:ks.findIdx? f with
 | none =>
  rw[List.findIdx?_eq_none_iff] at h
  have:ks.any f=false:=by rw[List.any_eq_false];intro x hx;simp[h x hx]
  rw[this];rfl
 | some i =>
  rw[List.findIdx?_eq_some_iff_getElem] at h
  obtain⟨h1,h2,_⟩:=h
  have:ks.any f=true:=List.any_eq_true.2 ⟨_,List.getElem_mem h1,h2⟩
  rw[this];show decide (0≤(i:Int))=true;exact decide_eq_true (by omega)
theorem Zvc (w:World) (l:List Int) (ao:Option Addr) (n cap:Nat) (hn:n=l.length) (hbig:n≤1000000) (hl:Za7 Zcc w ao l)
  (fg:Nat) (cb:Array Value) (f:Int→Bool) (eg:∀ args w,(callFunc fg args).run Tryz.prog w = .ok (.enter fg args) w) (hf:∀ W x,x∈l→Below w.heap.size w W→Calls Tryz.prog fg (#[.int .i64 x]++cb) W fun e w'=>e = .returned (.bool (f x))∧Below W.heap.size W w') :
  Calls Tryz.prog 178 #[.slice ao n cap,.func (.func fg) #[] cb] w fun e w'=>e = .returned (.int .i64 (Zre f l))∧Below w.heap.size w w':=by
 have HL:=ħ hl
 have HN:=ħ hn
 have HCA:=ħ hf
 have HI:Hid (Zre f l=match l.findIdx? f with | some i=>(i:Int) | none=>-1):=ħ rfl
 obtain⟨V,hV⟩:∃ V,Zre f l=V:=⟨_,rfl⟩
 rw[hV] at HI ⊢
 have B0:=ħ (Below.refl w.heap.size w)
 clear hl hn hf hV
 go_enter Tryz.func178,Tryz.ntmps178
 go_wp2_with fail
 go_loopw [8] (fun cc wr=>∃ (i:Nat),cc = .int .i64 i∧i≤n∧Hid (Below w.heap.size w wr)∧Hid (∀ j k,j<i→l[j]?=some k→f k=false)) (fun c _=>(n-intOf c).toNat)
 case atStart=>exact⟨0,rfl,by omega,B0,ħ (fun j k hj=>absurd hj (Nat.not_lt_zero j))⟩
 case round =>
  clear B0
  obtain⟨i,rfl,hi,hw,hno⟩:=hrel
  have e2:IntKind.i64.wrap ((i:Int)+1)=((i+1:Nat):Int):=IntWalk.i64_in _ (by omega)
  by_cases hlt:i<n
  ·have ii:(i:Int)<n:=by omega
   obtain⟨x,hx⟩:∃ x,l[i]?=some x:=⟨_,List.getElem?_eq_getElem (by rw[← HN.o];exact hlt)⟩
   have HX:=ħ hx
   obtain⟨g,off,hao,hg,s0⟩:=(HL.o.below hw.o).int i x hx
   clear hx
   have HAO:=ħ hao
   subst hao
   go_wp2_with fail
   refine (HCA.o wr x (List.mem_of_getElem? HX.o) hw.o).mono ?_
   rintro e w3 ⟨rfl,b3⟩
   have hw3:=ħ (hw.o.trans (b3.mono hw.o.size))
   clear b3 s0 hw
   obtain⟨fv,hfv⟩:∃ v,f x=v:=⟨_,rfl⟩
   rw[hfv]
   have HFV:=ħ hfv
   clear hfv
   cases fv with
   | true =>
    have HY:Hid (V=(i:Int)):=ħ (by rw[HI.o,Zvb HX.o HFV.o hno.o])
    go_wp2
    go_ret
    exact⟨Za2 HY.o.symm,hw3.o⟩
   | false =>
    go_wp2
    go_roundw
    case rel=>exact⟨i+1,by go_num,by omega,hw3,ħ (fun j k' hj hk'=>by
     rcases Nat.lt_or_ge j i with h | h
     ·exact hno.o j k' h hk'
     ·obtain rfl:j=i:=by omega
      rw[HX.o] at hk'
      obtain rfl:=Option.some.inj hk'
      exact HFV.o)⟩
    case measure=>simp only[intOf];omega
  ·have ii:¬ ((i:Int)<n):=by omega
   have HY:Hid (V = -1):=ħ (by rw[HI.o,Zrf (fun j k hj hk=>hno.o j k (by rw[← HN.o] at hj;omega) hk)])
   go_wp2
   go_ret
   exact⟨Za2 HY.o.symm,hw.o⟩
theorem Zzr (w:World) (l:List Int) (ao:Option Addr) (n cap:Nat) (hn:n=l.length) (hbig:n≤1000000) (hl:Za7 Zcc w ao l)
  (fg:Nat) (cb:Array Value) (f:Int→Bool) (eg:∀ args w,(callFunc fg args).run Tryz.prog w = .ok (.enter fg args) w) (hf:∀ W x,x∈l→Below w.heap.size w W→Calls Tryz.prog fg (#[.int .i64 x]++cb) W fun e w'=>e = .returned (.bool (f x))∧Below W.heap.size W w') :
  Calls Tryz.prog 118 #[.slice ao n cap,.func (.func fg) #[] cb] w fun e w'=>e = .returned (.bool (l.any f))∧Below w.heap.size w w':=by
 have HC:=ħ (Zvc w l ao n cap hn hbig hl fg cb f eg hf)
 have HV:=ħ (Z3p f l)
 generalize Zre f l=x at *
 generalize l.any f=V at *
 clear hl hf hn
 go_enter Tryz.func118,Tryz.ntmps118
 go_wp2_with fail
 refine HC.o.mono ?_
 rintro e w3 ⟨rfl,b3⟩
 have B3:=ħ b3
 clear b3
 go_wp2
 go_ret
 exact⟨Zag (by rw[← HV.o]),B3.o⟩
theorem Z3q (w:World) (B cap n g off:Nat) (l:List Int) (hn:n=l.length) (hO:OwnK w B 1 n cap (l.flatMap Zcc) (some ⟨g,off,none⟩)) (hbig:n≤1000000)
  (fg:Nat) (cb:Array Value) (f:Int→Bool) (eg:∀ args w,(callFunc fg args).run Tryz.prog w = .ok (.enter fg args) w) (hf:∀ W x,Only w W (· = g)→Calls Tryz.prog fg (#[.int .i64 x]++cb) W fun e w'=>e = .returned (.bool (f x))∧Below W.heap.size W w') :
  Calls Tryz.prog 192 #[.slice (some ⟨g,off,none⟩) n cap,.func (.func fg) #[] cb] w fun e w'=>e = .returned (.slice (some ⟨g,off,none⟩) (l.filter (fun x=>!f x)).length cap)∧OwnK w' B 1 (l.filter (fun x=>!f x)).length cap ((l.filter (fun x=>!f x)).flatMap Zcc) (some ⟨g,off,none⟩)∧Only w w' (· = g):=by
 have HI:=ħ (Zvc w l (some ⟨g,off,none⟩) n cap hn hbig (hO.flatR Zbs hn) fg cb f eg (fun W x _ hW=>hf W x (Only.of_below hW)))
 cases hi0:l.findIdx? f with
 | none =>
  have hfl:l.filter (fun x=>!f x)=l:=by
   rw[List.filter_eq_self]
   intro x hx
   rw[List.findIdx?_eq_none_iff] at hi0
   simp[hi0 x hx]
  have HIV:Hid (Zre f l = -1):=ħ (by unfold Zre;rw[hi0])
  rw[hfl,← hn]
  rw[HIV.o] at HI
  have HO:=ħ hO
  clear hO hf hn hbig hi0 hfl
  go_enter Tryz.func192,Tryz.ntmps192
  go_wp2_with fail
  refine HI.o.mono ?_
  rintro e w1 ⟨rfl,b1⟩
  have O1:=ħ (HO.o.below b1)
  have N1:=ħ (Only.of_below (p:=fun x=>x=g) b1)
  clear b1 HI HO
  go_wp2
  go_ret
  exact⟨rfl,O1.o,N1.o⟩
 | some i0 =>
  have HIV:Hid (Zre f l=(i0:Int)):=ħ (by unfold Zre;rw[hi0])
  rw[HIV.o] at HI
  have HIL:i0<n:=by
   rw[List.findIdx?_eq_some_iff_getElem] at hi0
   rw[hn];exact hi0.1
  have HT0:Hid (l.take i0=(l.take (i0+1)).filter (fun k=>!f k)):=ħ (by
   rw[List.findIdx?_eq_some_iff_getElem] at hi0
   obtain⟨h1,h2,h3⟩:=hi0
   rw[List.take_add_one,List.getElem?_eq_getElem h1,List.filter_append]
   have e1:(l.take i0).filter (fun k=>!f k)=l.take i0:=by
    rw[List.filter_eq_self]
    intro x hx
    obtain⟨j,hj⟩:=List.mem_iff_getElem?.1 hx
    rw[List.getElem?_take] at hj
    split at hj
    ·rename_i hji
     have:=h3 j hji
     rw[List.getElem?_eq_getElem (by omega)] at hj
     obtain rfl:=Option.some.inj hj
     simpa using this
    ·cases hj
   rw[e1]
   simp[h2])
  have HN:=ħ hn
  have HO:=ħ hO
  have HCA:=ħ hf
  have HF:Hid (∀ (m:Nat) (M:List Int),M.take m=l.filter (fun k=>!f k)→m≤M.length→(l.filter (fun k=>!f k)).length=m):=ħ (fun m M h hm=>by rw[← h,List.length_take];omega)
  have HOnly:=ħ (Only.refl w (· = g))
  clear hO hf hi0 hn
  have e0:IntKind.i64.wrap ((i0:Int)+1)=((i0+1:Nat):Int):=IntWalk.i64_in _ (by omega)
  have b0:((i0:Int) == -1)=false:=by rw[beq_eq_false_iff_ne];omega
  go_enter Tryz.func192,Tryz.ntmps192
  go_wp2_with fail
  refine HI.o.mono ?_
  rintro e w1 ⟨rfl,b1⟩
  have O1:=ħ (HO.o.below b1)
  have N1:=ħ (HOnly.o.step b1)
  clear b1 HI HO HOnly
  go_wp2_with fail
  go_loopw [5,6] (fun ii jj wr=>∃ (i j:Nat) (M:List Int),ii = .int .i64 i∧jj = .int .i64 j∧i<j∧j≤n∧Hid (M.length=n)∧Hid (M.take i=(l.take j).filter (fun k=>!f k))∧Hid (M.drop j=l.drop j)∧Hid (OwnK wr B 1 n cap (M.flatMap Zcc) (some ⟨g,off,none⟩))∧Hid (Only w wr (· = g))) (fun _ j _=>(n-intOf j).toNat)
  case atStart=>exact⟨i0,i0+1,l,rfl,by go_num,by omega,by omega,ħ HN.o.symm,HT0,ħ rfl,O1,N1⟩
  case round =>
   clear O1 N1 HT0 e0 b0
   obtain⟨i,j,M,rfl,rfl,hij,hj,hM,ht,hd,ho,hon⟩:=hrel
   have e2:IntKind.i64.wrap ((i:Int)+1)=((i+1:Nat):Int):=IntWalk.i64_in _ (by omega)
   have e3:IntKind.i64.wrap ((j:Int)+1)=((j+1:Nat):Int):=IntWalk.i64_in _ (by omega)
   by_cases hlt:j<n
   ·have jj:(j:Int)<n:=by omega
    obtain⟨k,hk⟩:∃ k,l[j]?=some k:=⟨_,List.getElem?_eq_getElem (by rw[← HN.o];exact hlt)⟩
    have HKI:=ħ hk
    have hkM:M[j]?=some k:=by
     have h:=congrArg (fun x=>x[0]?) hd.o
     simp only[List.getElem?_drop,Nat.add_zero] at h
     rw[h];exact hk
    have s0:wr.cell? ⟨g,off+j,none⟩=some (.int .i64 k):=by
     obtain⟨hr,-,-,-⟩:=ho.o.reads
     have:=hr j (.int .i64 k) (by
      have h9:=Zby Zcc 1 Zbs M j 0 k hkM (by omega)
      rw[Nat.mul_one,Nat.add_zero] at h9
      rw[h9];rfl)
     exact this
    clear hk hkM
    go_wp2_with fail
    refine (HCA.o wr k hon.o).mono ?_
    rintro e w3 ⟨rfl,b3⟩
    have ho3:=ħ (ho.o.below b3)
    have hon3:=ħ (hon.o.step b3)
    clear b3 s0 ho hon
    cases hq:f k with
    | true =>
     have HFT:Hid ((l.take (j+1)).filter (fun k=>!f k)=(l.take j).filter (fun k=>!f k)):=ħ (by
      rw[List.take_add_one,HKI.o,List.filter_append];simp[hq])
     clear hq
     go_wp2
     go_roundw
     case rel=>exact⟨i,j+1,M,rfl,by go_num,by omega,by omega,hM,ħ (by rw[HFT.o];exact ht.o),ħ (by
      have:=congrArg (fun x=>x.drop 1) hd.o
      simpa [List.drop_drop] using this),ho3,hon3⟩
     case measure=>simp only[intOf];omega
    | false =>
     have HFT:Hid ((l.take (j+1)).filter (fun k=>!f k)=(l.take j).filter (fun k=>!f k)++[k]):=ħ (by
      rw[List.take_add_one,HKI.o,List.filter_append];simp[hq])
     clear hq
     have ii:(i:Int)<n:=by omega
     have hil:i<M.length:=by rw[hM.o];omega
     obtain⟨S1,S2,S3⟩:=OwnK.store Zcc 1 Zbs ho3.o i hil k
     rw[Nat.mul_one] at S1 S2 S3
     have HS1:Hid (OwnK (w3.setCell ⟨g,off+i,none⟩ (.int .i64 k)) B 1 n cap ((M.set i k).flatMap Zcc) (some ⟨g,off,none⟩)):=ħ S1
     have HS2:Hid (Only w (w3.setCell ⟨g,off+i,none⟩ (.int .i64 k)) (· = g)):=ħ (hon3.o.trans S2)
     obtain⟨t0,t1⟩:=S3 0 (by omega)
     rw[Nat.add_zero] at t0 t1
     obtain⟨tv,t2⟩:=Option.isSome_iff_exists.1 t0
     clear S1 S2 S3 hil t0
     go_wp2_with fail
     go_roundw
     case rel=>exact⟨i+1,j+1,M.set i k,by go_num,by go_num,by omega,by omega,ħ (by rw[List.length_set];exact hM.o),ħ (by
      rw[HFT.o,← ht.o,List.take_add_one,List.take_set_of_le (Nat.le_refl _),List.getElem?_set_self (by rw[hM.o];omega)];rfl),ħ (by
      have:=congrArg (fun x=>x.drop 1) hd.o
      rw[List.drop_set_of_lt (by omega)]
      simpa [List.drop_drop] using this),HS1,HS2⟩
     case measure=>simp only[intOf];omega
   ·have jj:¬ ((j:Int)<n):=by omega
    have HJ:Hid (M.take i=l.filter (fun k=>!f k)):=ħ (by rw[ht.o,show j=l.length by rw[← HN.o];omega,List.take_length])
    have HLEN:=ħ (HF.o i M HJ.o (by rw[hM.o];omega))
    have hcapn:n≤cap:=ho.o.len_le.1
    have hcapm:cap≤maxLen:=ho.o.len_le.2
    have hcut:=OwnK.cut Zcc 1 Zbs ho.o i (by omega) hM.o
    simp only[Nat.mul_one] at hcut
    obtain⟨vs,hvl,hrun⟩:=Zsx wr 60 3 0 (.int .i64 0) 1 Tryz.underlying60 Tryz.zeroValue3 rfl (by omega) (fun u hu=>by simp[Value.cells] at hu;subst hu;rfl) g (off+i) (n-i) (cap-i) (by omega) (by rw[Nat.mul_one];exact (hcut (List.replicate (n-i) undef) (by simp)).2.2)
    rw[Nat.mul_one] at hvl
    obtain⟨C1,C2,-⟩:=hcut vs hvl
    have HC1:=ħ C1
    have HC2:=ħ (hon.o.trans C2)
    clear hcut C1 C2 hvl
    go_wp2
    go_ret
    rw[HLEN.o]
    refine⟨rfl,?_,HC2.o⟩
    have:=HC1.o
    rwa [HJ.o] at this
theorem Zrg (w:World) (g off n cap:Nat) (hc:n≤cap) (hm:cap≤maxLen) :
  Calls Tryz.prog 191 #[.slice (some ⟨g,off,none⟩) n cap] w fun e w'=>e = .returned (.slice (some ⟨g,off,none⟩) n n)∧w'=w:=by
 have h0:(0:Int)≤(n:Int):=by omega
 have h1:(n:Int)≤(cap:Int):=by omega
 go_enter Tryz.func191,Tryz.ntmps191
 go_wp2
 go_ret
 exact⟨by simp,rfl⟩
end
section
open Go.RowKit Go.Shelf Go.Sort
theorem Zah.addr {w:World} {g:Nat} {t:TypeId} {vs:List Value} (h:Zah w g t vs) (j:Nat) (u:Value) (hj:vs[j]?=some u):w.cell? ((⟨g,0,none⟩:Addr).add j)=some u:=by
 rw[Addr.add_lit,Nat.zero_add]
 exact h.cell j u hj
theorem Zvd {ops:Array Oper} {rest:List Oper} {o:Oper} {a:Act} {Q:Exit→Act→World→Prop} (T E:TypeId) (z:Value) (k bt:Nat)
  (hT:Tryz.prog.underlying T=some (.slice E)) (hE:(Tryz.prog.info? E).map (fun i=>(i.zero,i.size,i.bytes))=some (some z,k,bt)) (hz:z.cells.size=k) (hk:0<k) (hbt:bt≤1000)
  (w:World) (hg:o.guard=none) (s x:Operand) (hop:o.op=Op.call { callee:=Callee.builtin Builtin.append,args:=#[s,x],argTypes:=#[T,T] })
  (g off n:Nat) (xs:List Value) (hs:a.eval s = .slice (some ⟨g,off,none⟩) n n) (hl:xs.length=n*k) (hr:Za3 w g off xs)
  (A m c:Nat) (cs:List Value) (te:TypeId) (hx:a.eval x = .slice (some ⟨A,0,none⟩) m c) (hA:Zah w A te cs) (hm:cs.length=m*k) (hm0:0<m) (h1c:∀ u∈cs,u.oneCell'=true)
  (b1:n+m≤1000000000)
  (hK:∀ g' cap' w',OwnK w' w.heap.size k (n+m) cap' (xs++cs) (some ⟨g',0,none⟩)→Below w.heap.size w w'→wpList Tryz.prog ops Q rest (a.put o.dst (.slice (some ⟨g',0,none⟩) (n+m) cap')) w') :
  wpList Tryz.prog ops Q (o::rest) a w:=by
 obtain⟨i0,hi,hz0,hz1,hz2⟩:=Zgb hE
 refine wpList_append_grows w hg s x T hop E i0 z k bt hT hi hz0 hz1 hz2 hz hk (some ⟨g,off,none⟩) n n xs hs (fun h=>by cases h) hl (fun b hb j u hj=>by cases hb;rw[Addr.add_lit];exact hr j u hj) ⟨A,0,none⟩ m c cs hx hm (fun j u hj=>hA.addr j u hj) h1c (by omega)
  (by simp only[maxLen];omega) (Nat.le_trans (Nat.mul_le_mul b1 hbt) (by decide)) ?_
 intro v' w' ho hgr
 obtain⟨g',cap',rfl,hw,hl',hcm,hle⟩:=OwnK.of_row ho (by omega)
 exact hK g' cap' w' (.at g' 0 hw hl' hcm hle) ⟨hgr.os,hgr.tape,hgr.output,hgr.size,fun k hk=>hgr.block k hk (by simp)⟩
theorem Zzs {ops:Array Oper} {rest:List Oper} {o:Oper} {a:Act} {Q:Exit→Act→World→Prop} (T E:TypeId) (z:Value) (k bt:Nat)
  (hT:Tryz.prog.underlying T=some (.slice E)) (hE:(Tryz.prog.info? E).map (fun i=>(i.zero,i.size,i.bytes))=some (some z,k,bt)) (hz:z.cells.size=k) (hk:0<k) (hbt:bt≤1000)
  (w:World) (B:Nat) (hg:o.guard=none) (s x:Operand) (hop:o.op=Op.call { callee:=Callee.builtin Builtin.append,args:=#[s,x],argTypes:=#[T,T] })
  (ao:Option Addr) (cap n:Nat) (xs:List Value) (hs:a.eval s = .slice ao n cap) (hO:OwnK w B k n cap xs ao) (hB:B≤w.heap.size)
  (A m c:Nat) (cs:List Value) (te:TypeId) (hx:a.eval x = .slice (some ⟨A,0,none⟩) m c) (hA:Zah w A te cs) (hm:cs.length=m*k) (hm0:0<m) (h1c:∀ u∈cs,u.oneCell'=true)
  (b1:n+m≤1000000000)
  (hK:∀ g off cap' w',OwnK w' B k (n+m) cap' (xs++cs) (some ⟨g,off,none⟩)→Below B w w'→wpList Tryz.prog ops Q rest (a.put o.dst (.slice (some ⟨g,off,none⟩) (n+m) cap')) w') :
  wpList Tryz.prog ops Q (o::rest) a w:=by
 obtain⟨i0,hi,hz0,hz1,hz2⟩:=Zgb hE
 refine Zdc w B k hk hg s x T hop E i0 z bt hT hi hz0 hz1 hz2 hz ao cap xs n hs hO hB ⟨A,0,none⟩ m c cs hx hm hm0 (fun j u hj=>hA.addr j u hj) h1c (by simp only[maxLen];omega) (Nat.le_trans (Nat.mul_le_mul b1 hbt) (by decide)) ?_
 intro g off cap' w' ho hgr _
 refine hK g off cap' w' ho ⟨hgr.os,hgr.tape,hgr.output,hgr.size,fun i hi=>?_⟩
 refine hgr.block i (Nat.lt_of_lt_of_le hi hB) (fun e=>?_)
 have:=(hO.blk_lt e.symm).1
 omega
theorem OwnK.sortI {w:World} {B n cap g off m:Nat} {l:List Int} {d:List Int} {os:Array Obj} (h:OwnK w B 1 n cap (l.flatMap Zcc) (some ⟨g,off,none⟩)) (hd:d.length=l.length) :
  OwnK (grow (putRow (Value.int .i64) (Sort.ahead w m) g off d.toArray) os) B 1 n cap (d.flatMap Zcc) (some ⟨g,off,none⟩)∧Only w (grow (putRow (Value.int .i64) (Sort.ahead w m) g off d.toArray) os) (· = g)∧Holds (Value.int .i64) w g off l.toArray:=by
 have hlen:=h.count
 have hll:l.length=n:=by rw[Zbd Zcc 1 Zbs,Nat.mul_one,Nat.mul_one] at hlen;exact hlen
 cases h with
 | «at» g off h h1 h2 h3 =>
  have hlt:=h.lt
  have hle:=h.le
  rw[Nat.mul_one,h1,Nat.mul_one] at hle
  have hH:Holds (Value.int .i64) w g off l.toArray:=by
   intro j hj
   rw[List.size_toArray] at hj
   refine⟨?_,h.warm j (by omega)⟩
   rw[h.cells j (.int .i64 l.toArray[j]!) (by rw[← Zgi,ivs,List.getElem?_map,List.getElem?_eq_getElem hj,getElem!_pos l.toArray j (by simpa using hj)];simp)]
  have hH2:Holds (Value.int .i64) (grow (putRow (Value.int .i64) (Sort.ahead w m) g off d.toArray) os) g off d.toArray:=holds_sortWorld (Value.int .i64) w g off m l.toArray d.toArray os hlt hH (by simpa using hd)
  have hsz:w.heap.size≤(grow (putRow (Value.int .i64) (Sort.ahead w m) g off d.toArray) os).heap.size:=by
   rw[show grow (putRow (Value.int .i64) (Sort.ahead w m) g off d.toArray) os=sortWorld (Value.int .i64) w g off m d.toArray os from rfl]
   unfold sortWorld grow
   simp[Sort.ahead]
  have hg:∀ a:Addr,a.block<w.heap.size→(grow (putRow (Value.int .i64) (Sort.ahead w m) g off d.toArray) os).cell? a=(putRow (Value.int .i64) (Sort.ahead w m) g off d.toArray).cell? a:=fun a ha =>
   World.cell?_of_block (heap_grow_old _ _ (by rw[Sort.size_putRow];exact ha))
  have hgf:∀ a:Addr,a.block<w.heap.size→(grow (putRow (Value.int .i64) (Sort.ahead w m) g off d.toArray) os).frozen? a=(putRow (Value.int .i64) (Sort.ahead w m) g off d.toArray).frozen? a:=fun a ha =>
   World.frozen?_of_block (heap_grow_old _ _ (by rw[Sort.size_putRow];exact ha))
  have hfl:(d.flatMap Zcc).length=n*1:=by rw[Zbd Zcc 1 Zbs,hd,hll]
  refine⟨.at g off ⟨h.own,Nat.lt_of_lt_of_le hlt hsz,by rw[hfl];exact Nat.mul_le_mul_right 1 h3,fun j u hj=>?_,fun j hj=>?_,fun j hj=>?_⟩ hfl h2 h3,?_,hH⟩
  ·rw[← Zgi,ivs,List.getElem?_map] at hj
   obtain⟨x,hx,rfl⟩:=Option.map_eq_some_iff.1 hj
   have hjl:=(List.getElem?_eq_some_iff.1 hx).1
   rw[(hH2 j (by simpa using hjl)).1,getElem!_pos d.toArray j (by simpa using hjl)]
   simp[(List.getElem?_eq_some_iff.1 hx).2]
  ·by_cases hj2:j<d.length
   ·rw[(hH2 j (by simpa using hj2)).1];rfl
   ·rw[hg _ hlt,Sort.cell?_putRow_other _ _ _ _ _ _ (.inr (.inr (by rw[List.size_toArray];show off+d.length≤off+j;omega)))]
    exact h.room j hj
  ·rw[hgf _ hlt,Sort.frozen?_putRow]
   exact h.warm j hj
  ·refine⟨rfl,rfl,rfl,hsz,fun i hi hne=>?_⟩
   have e1:(grow (putRow (Value.int .i64) (Sort.ahead w m) g off d.toArray) os).heap[i]?=(putRow (Value.int .i64) (Sort.ahead w m) g off d.toArray).heap[i]?:=heap_grow_old _ _ (by rw[Sort.size_putRow];exact hi)
   rw[e1]
   show (w.heap.modify g _)[i]?=_
   rw[Array.getElem?_modify,if_neg (fun e=>hne e.symm)]
theorem Zzt (w:World) (B n cap g off:Nat) (l:List Int) (hn:n=l.length) (hO:OwnK w B 1 n cap (l.flatMap Zcc) (some ⟨g,off,none⟩)) (hbig:n≤1000000) :
  Calls Tryz.prog 194 #[.slice (some ⟨g,off,none⟩) n cap] w fun e w'=>e = .returned (.tuple #[])∧OwnK w' B 1 n cap ((l.mergeSort leI).flatMap Zcc) (some ⟨g,off,none⟩)∧Only w w' (· = g):=by
 have hlt:g<w.heap.size:=(hO.blk_lt rfl).2
 have hH:=(OwnK.sortI (m:=0) (os:=#[]) hO (d:=l) rfl).2.2
 rw[hn]
 refine (Tryz.slices_Sort_int g off cap l w hH hlt (by omega)).mono ?_
 rintro e w' ⟨rfl,m,os,rfl⟩
 obtain⟨h1,h2,-⟩:=OwnK.sortI (m:=m) (os:=os) hO (d:=l.mergeSort leI) (List.length_mergeSort ..)
 exact⟨rfl,by rw[← hn];exact h1,h2⟩
def Zf8 (ns:List (List Nat)) (v:List Int) (at':Nat) (most:Int) (ks:List Ky) (j:Nat):List Int:=[0,most+1]++(ks.take j).flatMap (Zpb ns v at')
theorem Ztc {ns:List (List Nat)} {v:List Int} {at':Nat} {most:Int} {ks:List Ky} {j:Nat} {k:Ky} (h:ks[j]?=some k):Zf8 ns v at' most ks (j+1)=Zf8 ns v at' most ks j++Zpb ns v at' k:=by
 unfold Zf8
 rw[List.take_add_one,h,List.flatMap_append,List.append_assoc]
 simp
theorem Zwn {ns:List (List Nat)} {v:List Int} {at':Nat} {most:Int} {ks:List Ky} {j:Nat} (h:ks.length≤j):Zf8 ns v at' most ks j=Zeb ns v at' most ks:=by
 unfold Zf8 Zeb
 rw[List.take_of_length_le h]
theorem Zzu (ns:List (List Nat)) (v:List Int) (at':Nat) (k:Ky):(Zpb ns v at' k).length≤1:=by
 unfold Zpb
 split
 ·simp
 ·split<;>simp
def Zhs (g:Int→Bool) (L:List Int):Nat→Int
 | 0=>0
 | i+1=>Zhs g L i+(if g (gv L i)=true then gv L (i+1)-gv L i else 0)
theorem Zoc (g:Int→Bool) (t:Int) (L:List Int):∀ i,Zhs g (t::L) (i+1)=(if g t=true then gv L 0-t else 0)+Zhs g L i
 | 0=>by
  show (0:Int)+(if g t=true then gv L 0-t else 0)=_+(0:Int)
  omega
 | i+1=>by
  show Zhs g (t::L) (i+1)+(if g (gv L i)=true then gv L (i+1)-gv L i else 0)=_
  rw[Zoc g t L i]
  show _=_+(Zhs g L i+(if g (gv L i)=true then gv L (i+1)-gv L i else 0))
  omega
theorem Zzv (g:Int→Bool):∀ L:List Int,Z5q g L=Zhs g L (L.length-1)
 | []=>rfl
 | [t]=>rfl
 | t::t2::ts=>by
  show (if g t=true then t2-t else 0)+Z5q g (t2::ts)=Zhs g (t::t2::ts) ((ts.length+1))
  rw[Zoc,Zzv g (t2::ts)]
  rfl
theorem Zrh {g:Int→Bool} {L:List Int} {M:Int} (hM:0≤M) (h:∀ i,i+1<L.length→0≤gv L (i+1)-gv L i∧gv L (i+1)-gv L i≤M):∀ i,i<L.length→0≤Zhs g L i∧Zhs g L i≤M*i
 | 0,_=>⟨Int.le_refl _,by simp[Zhs]⟩
 | i+1,hi=>by
  have h1:=Zrh (g:=g) hM h i (by omega)
  have h2:=h i hi
  have h3:M*((i+1:Nat):Int)=M*i+M:=by rw[show ((i+1:Nat):Int)=(i:Int)+1 from by omega,Int.mul_add,Int.mul_one]
  show 0≤Zhs g L i+(if g (gv L i)=true then gv L (i+1)-gv L i else 0)∧Zhs g L i+(if g (gv L i)=true then gv L (i+1)-gv L i else 0)≤_
  rw[h3]
  split<;>omega
theorem Zzw {ns:List (List Nat)} {v:List Int} {at':Nat} {most:Int} {ks:List Ky} (i:Nat) (hi:i+1<(Zcf ns v at' most ks).length) :
  0≤gv (Zcf ns v at' most ks) (i+1)-gv (Zcf ns v at' most ks) i∧gv (Zcf ns v at' most ks) (i+1)-gv (Zcf ns v at' most ks) i≤most+1:=by
 have hs:=Zj9 ns v at' most ks
 have h1:=Zg7 hi
 have h0:=Zg7 (show i<(Zcf ns v at' most ks).length by omega)
 have m1:=((Zg2 ns v at' most ks _).1 (List.mem_of_getElem? h1)).2
 have m0:=((Zg2 ns v at' most ks _).1 (List.mem_of_getElem? h0)).2
 have h2:leI (gv (Zcf ns v at' most ks) i) (gv (Zcf ns v at' most ks) (i+1))=true:=by
  have:=List.pairwise_iff_getElem.1 hs i (i+1) (by omega) hi (by omega)
  rw[List.getElem?_eq_getElem hi] at h1
  rw[List.getElem?_eq_getElem (by omega)] at h0
  rwa [Option.some.inj h0,Option.some.inj h1] at this
 have:=of_decide_eq_true h2
 omega
theorem Zzx (ns:List (List Nat)) (v:List Int) (at':Nat) (most:Int) (hm:0≤most) (ks:List Ky):2≤(Zcf ns v at' most ks).length∧(Zcf ns v at' most ks).length≤2+ks.length:=by
 unfold Zcf
 rw[List.length_mergeSort]
 constructor
 ·unfold Zeb
  rw[List.filter_append,List.length_append]
  have:([0,most+1].filter (inT most))=[0,most+1]:=by
   rw[List.filter_eq_self]
   intro t ht
   simp only[List.mem_cons,List.not_mem_nil,or_false] at ht
   unfold inT
   simp only[Bool.not_eq_true',Bool.or_eq_false_iff,decide_eq_false_iff_not]
   rcases ht with rfl | rfl<;>omega
  rw[this]
  simp
 ·refine Nat.le_trans (List.length_filter_le ..) ?_
  unfold Zeb
  rw[List.length_append]
  have:=flatMap_le1 (Zpb ns v at') (Zzu ns v at') ks
  simp only[List.length_cons,List.length_nil]
  omega
where flatMap_le1 {α:Type} (f:α→List Int) (h:∀ x,(f x).length≤1):∀ l:List α,(l.flatMap f).length≤l.length
 | []=>by simp
 | x::xs=>by
  rw[List.flatMap_cons,List.length_append,List.length_cons]
  have h1:=h x
  have h2:=flatMap_le1 f h xs
  omega
end
end Go.Proofs.YtmkdfbelbcocpaaGreatDoor
