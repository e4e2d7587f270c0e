import Derived.Test.YtmkdfbelbcocpaaGreatDoorCY26
import Derived.Test.YtmkdfbelbcocpaaGreatDoorCY10
import Derived.BigQuiet
import Derived.Test.YtmkdfbelbcocpaaGreatDoorCY22
set_option linter.unusedVariables false
set_option linter.unusedSimpArgs false
namespace Go.Proofs.YtmkdfbelbcocpaaGreatDoor
open Go.RowKit Go.Sort Go.Maps
def PtrD (ns:List (List Nat)) (EC:Int) (CS:List Ky) (ps:List Prd) (most:Int) (W:World) (x:Value):Prop :=
 (EC ≠ 0∧x = .pointer none)∨(EC = 0∧∃ D no nc po pn pc ro rc,x = .pointer (some ⟨D,0,none⟩)∧pn = ps.length∧DecR W (fun _=>True) D ns no ns.length nc most ps po pn pc CS ro rc)
theorem PtrD.step {ns:List (List Nat)} {EC:Int} {CS:List Ky} {ps:List Prd} {most:Int} {W W':World} {x:Value} (h:PtrD ns EC CS ps most W x) (hb:Below W.heap.size W W'):PtrD ns EC CS ps most W' x:=by
 rcases h with h | ⟨h0,D,no,nc,po,pn,pc,ro,rc,h1,h2,h3⟩
 ·exact .inl h
 ·exact .inr ⟨h0,D,no,nc,po,pn,pc,ro,rc,h1,h2,h3.step hb⟩
theorem ptrD_of {w w':World} {ns:List (List Nat)} {most:Int} {ps:List Prd} {no:Option Addr} {nc:Nat} {po:Option Addr} {pn pc:Nat} {e:Ending} (hpn:pn = ps.length) (hs:SpcR w ns no ns.length∨openE ns most ps ≠ 0) (hps:PrdsR w (fun _=>True) ps po) (h:OpenQ w (openE ns most ps) (compsP ps) no ns.length nc most po pn pc e w'):∃ x,e = .returned (.tuple #[x,.int .i64 (openE ns most ps)])∧PtrD ns (openE ns most ps) (compsP ps) ps most w' x∧Below w.heap.size w w':=by
 rcases h.open with ⟨hc,rfl,b3⟩ | ⟨hc,D,ro,rc,rfl,hD,hpv,hok,b3⟩
 ·exact ⟨_,rfl,.inl ⟨hc,rfl⟩,b3⟩
 ·rcases hs with hs | hs
  ·refine ⟨_,by rw [hc],.inr ⟨hc,D,no,nc,po,pn,pc,ro,rc,rfl,hpn,hpv,hs.step b3,hps.below b3,hok.flatR kyC_len rfl⟩,b3⟩
  ·exact absurd hc hs
set_option maxRecDepth 100000 in
theorem arr39 (t:Array Value) (h:t.size = 39):∃ f:Nat→Value,t = #[f 0,f 1,f 2,f 3,f 4,f 5,f 6,f 7,f 8,f 9,f 10,f 11,f 12,f 13,f 14,f 15,f 16,f 17,f 18,f 19,f 20,f 21,f 22,f 23,f 24,f 25,f 26,f 27,f 28,f 29,f 30,f 31,f 32,f 33,f 34,f 35,f 36,f 37,f 38]:=by
 obtain ⟨l⟩:=t
 have hl:l.length = 39:=h
 have e:l = (List.range 39).map (fun i=>l.getD i undef):=by
  apply List.ext_getElem
  ·simp [hl]
  ·intro i h1 h2
   simp [List.getD,h1]
 exact ⟨fun i=>l.getD i undef,congrArg List.toArray e⟩
theorem lt14_cases (i:Nat) (h:i < 14):i = 0∨i = 1∨i = 2∨i = 3∨i = 4∨i = 5∨i = 6∨i = 7∨i = 8∨i = 9∨i = 10∨i = 11∨i = 12∨i = 13:=by omega
def rfF (NS:List (List Nat)) (EC:Int) (CS:List Ky) (ps:List Prd) (most:Int) (va vb:Value) (i:Nat) (W:World) (v:Value):Prop:=match i with
 | 0=>v = va
 | 1=>v = vb
 | 2=>∃ A,v = .slice (some ⟨A,0,none⟩) 2 2∧PrdsR W (fun _=>True) ps (some ⟨A,0,none⟩)
 | 3=>∃ ro rc,v = .slice ro NS.length rc∧StrsR W ro NS
 | 4=>v = .int .i64 most
 | 5=>v = va
 | 6=>v = vb
 | 7=>∃ A,v = .slice (some ⟨A,0,none⟩) 2 2∧PrdsR W (fun _=>True) ps (some ⟨A,0,none⟩)
 | 8=>∃ x,v = .tuple #[x,.int .i64 EC]∧PtrD NS EC CS ps most W x
 | 9=>∃ x,v = .tuple #[x,.int .i64 EC]∧PtrD NS EC CS ps most W x
 | 10=>∃ x,v = x∧PtrD NS EC CS ps most W x
 | 11=>v = .int .i64 EC
 | 12=>∃ x,v = x∧PtrD NS EC CS ps most W x
 | 13=>v = .int .i64 EC
 | _=>True
theorem rfF_step (NS:List (List Nat)) (EC:Int) (CS:List Ky) (ps:List Prd) (most:Int) (va vb:Value):∀ i w w' v,rfF NS EC CS ps most va vb i w v→Below w.heap.size w w'→rfF NS EC CS ps most va vb i w' v:=by
 intro i w w' v h hb
 match i with
 | 0=>exact h
 | 1=>exact h
 | 2=>obtain ⟨A,h1,h2⟩:=h; exact ⟨A,h1,h2.below hb⟩
 | 3=>obtain ⟨ro,rc,h1,h2⟩:=h; exact ⟨ro,rc,h1,h2.below hb⟩
 | 4=>exact h
 | 5=>exact h
 | 6=>exact h
 | 7=>obtain ⟨A,h1,h2⟩:=h; exact ⟨A,h1,h2.below hb⟩
 | 8=>obtain ⟨x,h1,h2⟩:=h; exact ⟨x,h1,h2.step hb⟩
 | 9=>obtain ⟨x,h1,h2⟩:=h; exact ⟨x,h1,h2.step hb⟩
 | 10=>obtain ⟨x,h1,h2⟩:=h; exact ⟨x,h1,h2.step hb⟩
 | 11=>exact h
 | 12=>obtain ⟨x,h1,h2⟩:=h; exact ⟨x,h1,h2.step hb⟩
 | 13=>exact h
 | k + 14=>trivial
set_option maxHeartbeats 16000000 in
set_option maxRecDepth 100000 in
theorem refute_any (w:World) (P:Nat→Prop) (p q:Prd) (vs us:List Value) (most:Int) (B:Nat) (hT:Tab w B) (hp:PredC w P p vs) (hq:PredC w P q us) (hv:validP p = true∧validP q = true) (hpb:BytP p∧BytP q) (hpc:cntP p≤1000000∧cntP q≤1000000) (fg:Nat) (f:List Bool→Bool) (hf:IsT fg f 2) :
  Calls Tryz.prog 127 #[.agg vs.toArray,.agg us.toArray,.int .i64 most,.func (.func fg) #[] #[]] w fun e w'=>SatQ w (nomP [p,q]) (openE (nomP [p,q]) most [p,q]) (findP (nomP [p,q]) most (compsP [p,q]) [p,q] f) (!(findP (nomP [p,q]) most (compsP [p,q]) [p,q] f).isSome) e w':=by
 have hall:∀ {S:Prd→Prop},S p→S q→∀ x∈[p,q],S x:=fun {S} h1 h2 x hx=>by
  rcases List.mem_cons.1 hx with rfl | hx
  ·exact h1
  ·rw [List.mem_singleton.1 hx]; exact h2
 have PCp:=mkHid hp.wide
 have PCq:=mkHid hq.wide
 obtain ⟨xa,xn,xc,rfl,-⟩:=hp.form
 obtain ⟨ya,yn,yc,rfl,-⟩:=hq.form
 have HT:=mkHid (fun W (hW:Below w.heap.size w W)=>Tab.keep hT (fun k hk=>hW.block k (Nat.lt_of_lt_of_le hk hT.size)) hW.size)
 have hvA:=hall (S:=fun x=>validP x = true) hv.1 hv.2
 have hbA:=hall (S:=BytP) hpb.1 hpb.2
 have hcA:=hall (S:=fun x=>cntP x≤1000000) hpc.1 hpc.2
 have HNA:=mkHid (fun W po (hW:Below w.heap.size w W) (hr:PrdsR W (fun _=>True) [p,q] po)=>nomed_any W (fun _=>True) [p,q] po 2 2 B (HT.out W hW) hr rfl (by omega) (by omega) hvA hbA hcA)
 have hasc:=nomP_asc [p,q]
 have hnb:=nomP_byts hvA
 have hnl:(nomP [p,q]).length≤400:=nomP_len hvA
 have HOP:=mkHid (fun W no nc po (hW:Below w.heap.size w W) (hn:StrsR W no (nomP [p,q])) (hr:PrdsR W (fun _=>True) [p,q] po)=>(open_any W (fun _=>True) [p,q] po 2 2 no (nomP [p,q]).length nc most (nomP [p,q]) B (HT.out W hW) hr rfl hbA hcA (by omega) rfl hn hnb hasc (by omega)).mono (fun e w' hqq=>ptrD_of (w:=W) rfl (by
  by_cases hz:openE (nomP [p,q]) most [p,q] = 0
  ·exact .inl ⟨rfl,hn,hnb,hasc,by have:=(openE_cmp hz).2.2.2.2; omega⟩
  ·exact .inr hz) hr hqq))
 have HFI:=mkHid (fun (hz:openE (nomP [p,q]) most [p,q] = 0) W D no nc po pn pc ro rc (hpn:pn = 2) (hd:DecR W (fun _=>True) D (nomP [p,q]) no (nomP [p,q]).length nc most [p,q] po pn pc (compsP [p,q]) ro rc)=>by
  obtain ⟨h1,h2,h3,h4,h5⟩:=openE_cmp hz
  exact find_any W (fun _=>True) D (nomP [p,q]) no (nomP [p,q]).length nc most [p,q] po pn pc (compsP [p,q]) ro rc hd hpn (by omega) h1 h2 h3 hcA h4 fg f (by rw [hpn]; exact hf))
 obtain ⟨NS,hNS⟩:∃ N,nomP [p,q] = N:=⟨_,rfl⟩
 rw [hNS] at HNA HOP HFI ⊢
 obtain ⟨EC,hEC⟩:∃ c,openE NS most [p,q] = c:=⟨_,rfl⟩
 rw [hEC] at HOP HFI ⊢
 obtain ⟨CS,hCS⟩:∃ c,compsP [p,q] = c:=⟨_,rfl⟩
 rw [hCS] at HOP HFI ⊢
 generalize findP NS most CS [p,q] f = FR at *
 clear hT hp hq hv hpb hpc hf hall hvA hbA hcA hasc hnb hnl hNS hEC hCS
 have bx:=(Below.refl w.heap.size w).alloc (Nat.le_refl _) (.cells #[.int .i64 p.k,.string (strN p.l),.string (strN p.r),.int .i64 p.c,.slice xa xn xc] 25)
 have bx2:=(Below.refl (w.alloc (.cells #[.int .i64 p.k,.string (strN p.l),.string (strN p.r),.int .i64 p.c,.slice xa xn xc] 25)).heap.size (w.alloc (.cells #[.int .i64 p.k,.string (strN p.l),.string (strN p.r),.int .i64 p.c,.slice xa xn xc] 25))).alloc (Nat.le_refl _) (.cells #[.int .i64 q.k,.string (strN q.l),.string (strN q.r),.int .i64 q.c,.slice ya yn yc] 25)
 have B1:=mkHid (bx.trans (bx2.mono bx.size))
 have X1:Hid (HasV ((w.alloc (.cells #[.int .i64 p.k,.string (strN p.l),.string (strN p.r),.int .i64 p.c,.slice xa xn xc] 25)).alloc (.cells #[.int .i64 q.k,.string (strN q.l),.string (strN q.r),.int .i64 q.c,.slice ya yn yc] 25)) w.heap.size 25 [.int .i64 p.k,.string (strN p.l),.string (strN p.r),.int .i64 p.c,.slice xa xn xc]):=mkHid (heap_alloc2_old _ _ _)
 have Y1:Hid (HasV ((w.alloc (.cells #[.int .i64 p.k,.string (strN p.l),.string (strN p.r),.int .i64 p.c,.slice xa xn xc] 25)).alloc (.cells #[.int .i64 q.k,.string (strN q.l),.string (strN q.r),.int .i64 q.c,.slice ya yn yc] 25)) (w.heap.size + 1) 25 [.int .i64 q.k,.string (strN q.l),.string (strN q.r),.int .i64 q.c,.slice ya yn yc]):=mkHid (heap_alloc2_new _ _ _)
 have HP2:=mkHid (fun W (hW:Below w.heap.size w W)=>prds_two (w:=W.alloc (.cells #[.int .i64 p.k,.string (strN p.l),.string (strN p.r),.int .i64 p.c,.slice xa xn xc,.int .i64 q.k,.string (strN q.l),.string (strN q.r),.int .i64 q.c,.slice ya yn yc] 25)) (g:=W.heap.size) (t:=25) (PCp.out.below (hW.alloc hW.size _)) (PCq.out.below (hW.alloc hW.size _)) (heap_alloc_new _ _))
 clear bx bx2 PCp PCq
 generalize p.k = q0 at *
 generalize strN p.l = q1 at *
 generalize strN p.r = q2 at *
 generalize p.c = q3 at *
 generalize q.k = r0 at *
 generalize strN q.l = r1 at *
 generalize strN q.r = r2 at *
 generalize q.c = r3 at *
 go_enter Tryz.func127,Tryz.ntmps127
 go_upto_region 1 with (fail)
 generalize hw1:(w.alloc (.cells #[.int .i64 q0,.string q1,.string q2,.int .i64 q3,.slice xa xn xc] 25)).alloc (.cells #[.int .i64 r0,.string r1,.string r2,.int .i64 r3,.slice ya yn yc] 25) = w1 at *
 clear hw1
 have HP2:=mkHid (fun W (hW:Below w1.heap.size w1 W)=>HP2.out W (B1.out.trans (hW.mono B1.out.size)))
 have HNA:=mkHid (fun W po (hW:Below w1.heap.size w1 W)=>HNA.out W po (B1.out.trans (hW.mono B1.out.size)))
 have HOP:=mkHid (fun W no nc po (hW:Below w1.heap.size w1 W)=>HOP.out W no nc po (B1.out.trans (hW.mono B1.out.size)))
 refine wp_region_midB (rfF NS EC CS [p,q] most (.agg #[.int .i64 q0,.string q1,.string q2,.int .i64 q3,.slice xa xn xc]) (.agg #[.int .i64 r0,.string r1,.string r2,.int .i64 r3,.slice ya yn yc])) (by kernel_rfl) (rfF_step NS EC CS [p,q] most (.agg #[.int .i64 q0,.string q1,.string q2,.int .i64 q3,.slice xa xn xc]) (.agg #[.int .i64 r0,.string r1,.string r2,.int .i64 r3,.slice ya yn yc])) (hdst_of (by kernel_rfl)) (hin_of (by kernel_rfl)) (hacycB_of (by kernel_rfl)) ?hs ?he
 case hs =>
  intro i o hi listed a' w' H hl2
  have hl3:=after_listed hl2
  have hin:i < 14:=(Array.getElem?_eq_some_iff.1 hi).1
  have hb:=mkHid H.below
  have s2:=H.same 2 (nodst_of (by kernel_rfl))
  have s4:=H.same 4 (nodst_of (by kernel_rfl))
  have s5:=H.same 5 (nodst_of (by kernel_rfl))
  have hdn:=H.done
  have hdf:=H.defers
  have hts:=H.tsize
  clear hl2 H
  obtain ⟨t',df⟩:=a'
  obtain ⟨f',rfl⟩:=arr39 t' hts
  have hdf':df = []:=hdf
  subst hdf'
  have gs2:f' 2 = .int .i64 most:=s2
  have gs4:f' 4 = .pointer (some ⟨w.heap.size,0,none⟩):=s4
  have gs5:f' 5 = .pointer (some ⟨w.heap.size + 1,0,none⟩):=s5
  clear s2 s4 s5
  clear hdf hts
  have hcases:=lt14_cases i hin
  clear hin
  rcases hcases with rfl | rfl | rfl | rfl | rfl | rfl | rfl | rfl | rfl | rfl | rfl | rfl | rfl | rfl
  ·obtain rfl:=Option.some.inj hi
   clear hdn hl3
   rw [gs4]
   clear gs2 gs4 gs5
   refine wpOp_list rfl ?_
   go_wp2_with (refine wpList_load_row rfl 25 (.tmp 4) rfl w.heap.size ?x1 25 #[.int .i64 q0,.string q1,.string q2,.int .i64 q3,.slice xa xn xc] (0,0) _ (X1.out.step hb.out) Tryz.underlying25 rfl (inf_pred _ rfl) ?_; (case x1=>rfl))
   exact postOf_normal ⟨_,rfl,Below.refl _ _,rfl⟩
  ·obtain rfl:=Option.some.inj hi
   clear hdn hl3
   rw [gs5]
   clear gs2 gs4 gs5
   refine wpOp_list rfl ?_
   go_wp2_with (refine wpList_load_row rfl 25 (.tmp 5) rfl (w.heap.size + 1) ?x1 25 #[.int .i64 r0,.string r1,.string r2,.int .i64 r3,.slice ya yn yc] (0,0) _ (Y1.out.step hb.out) Tryz.underlying25 rfl (inf_pred _ rfl) ?_; (case x1=>rfl))
   exact postOf_normal ⟨_,rfl,Below.refl _ _,rfl⟩
  ·obtain rfl:=Option.some.inj hi
   have dv0:f' 16 = .agg #[.int .i64 q0,.string q1,.string q2,.int .i64 q3,.slice xa xn xc]:=hdn 0 _ 16 rfl (hl3 0 (by rfl)) rfl
   have dv1:f' 17 = .agg #[.int .i64 r0,.string r1,.string r2,.int .i64 r3,.slice ya yn yc]:=hdn 1 _ 17 rfl (hl3 1 (by rfl)) rfl
   clear hdn hl3
   rw [dv0,dv1]
   clear dv0 dv1 gs2 gs4 gs5
   refine wpOp_list rfl ?_
   go_wp2_with fail
   exact postOf_normal ⟨_,rfl,(Below.refl w'.heap.size w').alloc (Nat.le_refl _) _,w'.heap.size,rfl,HP2.out w' hb.out⟩
  ·obtain rfl:=Option.some.inj hi
   have dv2:rfF NS EC CS [p,q] most (.agg #[.int .i64 q0,.string q1,.string q2,.int .i64 q3,.slice xa xn xc]) (.agg #[.int .i64 r0,.string r1,.string r2,.int .i64 r3,.slice ya yn yc]) 2 w' (f' 18):=hdn 2 _ 18 rfl (hl3 2 (by rfl)) rfl
   obtain ⟨A1,dv2,hA1⟩:=dv2
   clear hdn hl3
   rw [dv2]
   clear dv2 gs2 gs4 gs5
   refine wpOp_list rfl ?_
   go_wp2_with fail
   refine (HNA.out w' (some ⟨A1,0,none⟩) hb.out hA1).mono ?_
   rintro e w4 ⟨ro,rc,rfl,ho4,b4⟩
   have HB4:=mkHid b4
   have HO4:=mkHid (ho4.strsR rfl)
   clear b4 ho4 hA1
   go_wp2_with fail
   exact postOf_normal ⟨_,rfl,HB4.out,ro,rc,rfl,HO4.out⟩
  ·obtain rfl:=Option.some.inj hi
   clear hdn hl3
   rw [gs2]
   clear gs2 gs4 gs5
   refine wpOp_list rfl ?_
   go_wp2_with fail
   exact postOf_normal ⟨_,rfl,Below.refl _ _,rfl⟩
  ·obtain rfl:=Option.some.inj hi
   clear hdn hl3
   rw [gs4]
   clear gs2 gs4 gs5
   refine wpOp_list rfl ?_
   go_wp2_with (refine wpList_load_row rfl 25 (.tmp 4) rfl w.heap.size ?x1 25 #[.int .i64 q0,.string q1,.string q2,.int .i64 q3,.slice xa xn xc] (0,0) _ (X1.out.step hb.out) Tryz.underlying25 rfl (inf_pred _ rfl) ?_; (case x1=>rfl))
   exact postOf_normal ⟨_,rfl,Below.refl _ _,rfl⟩
  ·obtain rfl:=Option.some.inj hi
   clear hdn hl3
   rw [gs5]
   clear gs2 gs4 gs5
   refine wpOp_list rfl ?_
   go_wp2_with (refine wpList_load_row rfl 25 (.tmp 5) rfl (w.heap.size + 1) ?x1 25 #[.int .i64 r0,.string r1,.string r2,.int .i64 r3,.slice ya yn yc] (0,0) _ (Y1.out.step hb.out) Tryz.underlying25 rfl (inf_pred _ rfl) ?_; (case x1=>rfl))
   exact postOf_normal ⟨_,rfl,Below.refl _ _,rfl⟩
  ·obtain rfl:=Option.some.inj hi
   have dv5:f' 21 = .agg #[.int .i64 q0,.string q1,.string q2,.int .i64 q3,.slice xa xn xc]:=hdn 5 _ 21 rfl (hl3 5 (by rfl)) rfl
   have dv6:f' 22 = .agg #[.int .i64 r0,.string r1,.string r2,.int .i64 r3,.slice ya yn yc]:=hdn 6 _ 22 rfl (hl3 6 (by rfl)) rfl
   clear hdn hl3
   rw [dv5,dv6]
   clear dv5 dv6 gs2 gs4 gs5
   refine wpOp_list rfl ?_
   go_wp2_with fail
   exact postOf_normal ⟨_,rfl,(Below.refl w'.heap.size w').alloc (Nat.le_refl _) _,w'.heap.size,rfl,HP2.out w' hb.out⟩
  ·obtain rfl:=Option.some.inj hi
   have dv3:rfF NS EC CS [p,q] most (.agg #[.int .i64 q0,.string q1,.string q2,.int .i64 q3,.slice xa xn xc]) (.agg #[.int .i64 r0,.string r1,.string r2,.int .i64 r3,.slice ya yn yc]) 3 w' (f' 19):=hdn 3 _ 19 rfl (hl3 3 (by rfl)) rfl
   obtain ⟨nr,nc,dv3,hNR⟩:=dv3
   have dv4:f' 20 = .int .i64 most:=hdn 4 _ 20 rfl (hl3 4 (by rfl)) rfl
   have dv7:rfF NS EC CS [p,q] most (.agg #[.int .i64 q0,.string q1,.string q2,.int .i64 q3,.slice xa xn xc]) (.agg #[.int .i64 r0,.string r1,.string r2,.int .i64 r3,.slice ya yn yc]) 7 w' (f' 23):=hdn 7 _ 23 rfl (hl3 7 (by rfl)) rfl
   obtain ⟨A2,dv7,hA2⟩:=dv7
   clear hdn hl3
   rw [dv3,dv4,dv7]
   clear dv3 dv4 dv7 gs2 gs4 gs5
   refine wpOp_list rfl ?_
   go_wp2_with fail
   refine (HOP.out w' nr nc (some ⟨A2,0,none⟩) hb.out hNR hA2).mono ?_
   intro e w4 hq
   obtain ⟨x,rfl,hx,b4⟩:=hq
   have HB4:=mkHid b4
   have HX4:=mkHid hx
   clear b4 hx hA2 hNR
   go_wp2_with fail
   exact postOf_normal ⟨_,rfl,HB4.out,x,rfl,HX4.out⟩
  ·obtain rfl:=Option.some.inj hi
   have dv8:rfF NS EC CS [p,q] most (.agg #[.int .i64 q0,.string q1,.string q2,.int .i64 q3,.slice xa xn xc]) (.agg #[.int .i64 r0,.string r1,.string r2,.int .i64 r3,.slice ya yn yc]) 8 w' (f' 24):=hdn 8 _ 24 rfl (hl3 8 (by rfl)) rfl
   obtain ⟨x,dv8,hx⟩:=dv8
   clear hdn hl3
   rw [dv8]
   clear dv8 gs2 gs4 gs5
   have HX:=mkHid hx
   clear hx
   refine wpOp_list rfl ?_
   go_wp2_with fail
   exact postOf_normal ⟨_,rfl,Below.refl _ _,x,rfl,HX.out⟩
  ·obtain rfl:=Option.some.inj hi
   have dv9:rfF NS EC CS [p,q] most (.agg #[.int .i64 q0,.string q1,.string q2,.int .i64 q3,.slice xa xn xc]) (.agg #[.int .i64 r0,.string r1,.string r2,.int .i64 r3,.slice ya yn yc]) 9 w' (f' 15):=hdn 9 _ 15 rfl (hl3 9 (by rfl)) rfl
   obtain ⟨x,dv9,hx⟩:=dv9
   clear hdn hl3
   rw [dv9]
   clear dv9 gs2 gs4 gs5
   have HX:=mkHid hx
   clear hx
   refine wpOp_list rfl ?_
   go_wp2_with fail
   exact postOf_normal ⟨_,rfl,Below.refl _ _,x,rfl,HX.out⟩
  ·obtain rfl:=Option.some.inj hi
   have dv9:rfF NS EC CS [p,q] most (.agg #[.int .i64 q0,.string q1,.string q2,.int .i64 q3,.slice xa xn xc]) (.agg #[.int .i64 r0,.string r1,.string r2,.int .i64 r3,.slice ya yn yc]) 9 w' (f' 15):=hdn 9 _ 15 rfl (hl3 9 (by rfl)) rfl
   obtain ⟨x,dv9,hx⟩:=dv9
   clear hdn hl3
   rw [dv9]
   clear dv9 gs2 gs4 gs5
   clear hx
   refine wpOp_list rfl ?_
   go_wp2_with fail
   exact postOf_normal ⟨_,rfl,Below.refl _ _,rfl⟩
  ·obtain rfl:=Option.some.inj hi
   have dv10:rfF NS EC CS [p,q] most (.agg #[.int .i64 q0,.string q1,.string q2,.int .i64 q3,.slice xa xn xc]) (.agg #[.int .i64 r0,.string r1,.string r2,.int .i64 r3,.slice ya yn yc]) 10 w' (f' 25):=hdn 10 _ 25 rfl (hl3 10 (by rfl)) rfl
   obtain ⟨x,dv10,hx⟩:=dv10
   clear hdn hl3
   rw [dv10]
   clear dv10 gs2 gs4 gs5
   have HX:=mkHid hx
   clear hx
   refine wpOp_list rfl ?_
   go_wp2_with fail
   exact postOf_normal ⟨_,rfl,Below.refl _ _,x,rfl,HX.out⟩
  ·obtain rfl:=Option.some.inj hi
   have dv11:f' 26 = .int .i64 EC:=hdn 11 _ 26 rfl (hl3 11 (by rfl)) rfl
   clear hdn hl3
   rw [dv11]
   clear dv11 gs2 gs4 gs5
   refine wpOp_list rfl ?_
   go_wp2_with fail
   exact postOf_normal ⟨_,rfl,Below.refl _ _,rfl⟩
 case he =>
  intro listed a' w4 H hall
  have hd12:rfF NS EC CS [p,q] most (.agg #[.int .i64 q0,.string q1,.string q2,.int .i64 q3,.slice xa xn xc]) (.agg #[.int .i64 r0,.string r1,.string r2,.int .i64 r3,.slice ya yn yc]) 12 w4 (a'.tmps.getD 11 undef):=H.done 12 _ 11 rfl (hall 12 (by decide)) rfl
  have hd13:rfF NS EC CS [p,q] most (.agg #[.int .i64 q0,.string q1,.string q2,.int .i64 q3,.slice xa xn xc]) (.agg #[.int .i64 r0,.string r1,.string r2,.int .i64 r3,.slice ya yn yc]) 13 w4 (a'.tmps.getD 12 undef):=H.done 13 _ 12 rfl (hall 13 (by decide)) rfl
  have hb4:=mkHid H.below
  have s3:=H.same 3 (nodst_of (by kernel_rfl))
  have s8:=H.same 8 (nodst_of (by kernel_rfl))
  have s9:=H.same 9 (nodst_of (by kernel_rfl))
  have s10:=H.same 10 (nodst_of (by kernel_rfl))
  have hdf:=H.defers
  have hts:=H.tsize
  clear H hall
  obtain ⟨t',df⟩:=a'
  obtain ⟨f',rfl⟩:=arr39 t' hts
  have hdf':df = []:=hdf
  subst hdf'
  have gs3:f' 3 = .func (.func fg) #[] #[]:=s3
  have gs8:f' 8 = .slice none 0 0:=s8
  have gs9:f' 9 = .bool false:=s9
  have gs10:f' 10 = .int .i64 0:=s10
  have e12:rfF NS EC CS [p,q] most (.agg #[.int .i64 q0,.string q1,.string q2,.int .i64 q3,.slice xa xn xc]) (.agg #[.int .i64 r0,.string r1,.string r2,.int .i64 r3,.slice ya yn yc]) 12 w4 (f' 11):=hd12
  clear hd12
  obtain ⟨x,e12,hx⟩:=e12
  have e13:f' 12 = .int .i64 EC:=hd13
  rw [gs3,gs8,gs9,gs10,e12,e13]
  clear s3 s8 s9 s10 gs3 gs8 gs9 gs10 hdf hts e12 hd13 e13
  have HX:=mkHid hx
  have B4:=mkHid (B1.out.trans (hb4.out.mono B1.out.size))
  clear hx HOP HNA HP2 X1 Y1 hb4
  generalize f' 11 = y11 at *
  rcases HX.out with ⟨hc,rfl⟩ | ⟨hc,D,no,nc,po,pn,pc,ro,rc,rfl,hpn,hd⟩
  ·have HC:=mkHid hc
   have HC2:¬ (EC = 0):=hc
   clear hc HX
   go_wp2
   go_ret3
   exact SatQ.bad HC.out B4.out
  ·have HC:=mkHid hc
   have HFQ:=mkHid (HFI.out hc w4 D no nc po pn pc ro rc hpn hd)
   rw [hc]
   clear hc hd HX HFI hpn
   go_wp2_with fail
   refine HFQ.out.mono ?_
   intro e w5 hq
   obtain ⟨⟨v,rfl,hv⟩,b5⟩:=hq.open
   have HV:=mkHid (hv.lower B4.out.size)
   have B5:=mkHid (B4.out.trans (b5.mono B4.out.size))
   clear hq hv b5 HFQ
   go_wp2
   go_ret3
   exact SatQ.good HC.out (by cases FR <;> rfl) HV.out B5.out
set_option maxHeartbeats 4000000 in
set_option maxRecDepth 100000 in
theorem implies_any (w:World) (P:Nat→Prop) (p q:Prd) (vs us:List Value) (most:Int) (B:Nat) (hT:Tab w B) (hp:PredC w P p vs) (hq:PredC w P q us) (hv:validP p = true∧validP q = true) (hpb:BytP p∧BytP q) (hpc:cntP p≤1000000∧cntP q≤1000000) :
  Calls Tryz.prog 60 #[.agg vs.toArray,.agg us.toArray,.int .i64 most] w fun e w'=>SatQ w (nomP [p,q]) (openE (nomP [p,q]) most [p,q]) (findP (nomP [p,q]) most (compsP [p,q]) [p,q] (fun l=>l.getD 0 false && !l.getD 1 false)) (!(findP (nomP [p,q]) most (compsP [p,q]) [p,q] (fun l=>l.getD 0 false && !l.getD 1 false)).isSome) e w':=by
 have HRF:=mkHid (fun W (hW:Below w.heap.size w W)=>refute_any W P p q vs us most B (Tab.keep hT (fun k hk=>hW.block k (Nat.lt_of_lt_of_le hk hT.size)) hW.size) (hp.below hW) (hq.below hW) hv hpb hpc 128 (fun l=>l.getD 0 false && !l.getD 1 false) (implies1_any 2 (by omega) (by omega)))
 obtain ⟨xa,xn,xc,rfl,-⟩:=hp.form
 obtain ⟨ya,yn,yc,rfl,-⟩:=hq.form
 generalize openE (nomP [p,q]) most [p,q] = EC at *
 generalize findP (nomP [p,q]) most (compsP [p,q]) [p,q] (fun l=>l.getD 0 false && !l.getD 1 false) = FR at *
 generalize nomP [p,q] = NS at *
 clear hT hp hq hv hpb hpc
 have bx:=(Below.refl w.heap.size w).alloc (Nat.le_refl _) (.cells #[.int .i64 p.k,.string (strN p.l),.string (strN p.r),.int .i64 p.c,.slice xa xn xc] 25)
 have bx2:=(Below.refl (w.alloc (.cells #[.int .i64 p.k,.string (strN p.l),.string (strN p.r),.int .i64 p.c,.slice xa xn xc] 25)).heap.size (w.alloc (.cells #[.int .i64 p.k,.string (strN p.l),.string (strN p.r),.int .i64 p.c,.slice xa xn xc] 25))).alloc (Nat.le_refl _) (.cells #[.int .i64 q.k,.string (strN q.l),.string (strN q.r),.int .i64 q.c,.slice ya yn yc] 25)
 have B1:=mkHid (bx.trans (bx2.mono bx.size))
 have X1:Hid (HasV ((w.alloc (.cells #[.int .i64 p.k,.string (strN p.l),.string (strN p.r),.int .i64 p.c,.slice xa xn xc] 25)).alloc (.cells #[.int .i64 q.k,.string (strN q.l),.string (strN q.r),.int .i64 q.c,.slice ya yn yc] 25)) w.heap.size 25 [.int .i64 p.k,.string (strN p.l),.string (strN p.r),.int .i64 p.c,.slice xa xn xc]):=mkHid (heap_alloc2_old _ _ _)
 have Y1:Hid (HasV ((w.alloc (.cells #[.int .i64 p.k,.string (strN p.l),.string (strN p.r),.int .i64 p.c,.slice xa xn xc] 25)).alloc (.cells #[.int .i64 q.k,.string (strN q.l),.string (strN q.r),.int .i64 q.c,.slice ya yn yc] 25)) (w.heap.size + 1) 25 [.int .i64 q.k,.string (strN q.l),.string (strN q.r),.int .i64 q.c,.slice ya yn yc]):=mkHid (heap_alloc2_new _ _ _)
 clear bx bx2
 generalize p.k = q0 at *
 generalize strN p.l = q1 at *
 generalize strN p.r = q2 at *
 generalize p.c = q3 at *
 generalize q.k = r0 at *
 generalize strN q.l = r1 at *
 generalize strN q.r = r2 at *
 generalize q.c = r3 at *
 go_enter Tryz.func60,Tryz.ntmps60
 go_upto_region 1 with (fail)
 generalize hw1:(w.alloc (.cells #[.int .i64 q0,.string q1,.string q2,.int .i64 q3,.slice xa xn xc] 25)).alloc (.cells #[.int .i64 r0,.string r1,.string r2,.int .i64 r3,.slice ya yn yc] 25) = w1 at *
 clear hw1
 go_wp2_with (first | (refine wpList_load_row rfl 25 (.tmp 3) rfl w.heap.size ?x1 25 #[.int .i64 q0,.string q1,.string q2,.int .i64 q3,.slice xa xn xc] (0,0) _ X1.out Tryz.underlying25 rfl (inf_pred _ rfl) ?_; (case x1=>rfl)) | (refine wpList_load_row rfl 25 (.tmp 4) rfl (w.heap.size + 1) ?x2 25 #[.int .i64 r0,.string r1,.string r2,.int .i64 r3,.slice ya yn yc] (0,0) _ Y1.out Tryz.underlying25 rfl (inf_pred _ rfl) ?_; (case x2=>rfl)))
 refine (HRF.out w1 B1.out).mono ?_
 intro e w2 hq
 obtain ⟨h1,b2⟩:=hq
 have B2:=mkHid (B1.out.trans (b2.mono B1.out.size))
 by_cases hz:EC = 0
 ·rw [if_pos hz] at h1
  obtain ⟨v,rfl,hv⟩:=h1
  have HZ:=mkHid hz
  have HV:=mkHid (hv.lower B1.out.size)
  clear hz hv b2 HRF
  go_wp2
  go_ret3
  exact SatQ.good HZ.out (by cases FR <;> rfl) HV.out B2.out
 ·rw [if_neg hz] at h1
  subst h1
  have HZ:=mkHid hz
  clear hz b2 HRF
  go_wp2
  go_ret3
  exact SatQ.bad HZ.out B2.out
end Go.Proofs.YtmkdfbelbcocpaaGreatDoor
namespace Go.Proofs.YtmkdfbelbcocpaaGreatDoor
open Go.RowKit Go.Sort Go.Maps
def fnP (ns:List (List Nat)):Bool:=decide (ns.length≤18) && ns.all (fun s=>decide (s.length≤60))
def fpP (M:Nat) (ps:List Prd):Bool:=decide (ps.length≤M) && ps.all shoP
set_option maxHeartbeats 8000000 in
set_option maxRecDepth 100000 in
theorem fewn_any (w:World) (l:List (List Nat)) (ao:Option Addr) (n cap:Nat) (hn:n = l.length) (hbig:n≤9223372036854775807) (hk:StrsR w ao l) :
  Calls Tryz.prog 46 #[.slice ao n cap] w fun e w'=>e = .returned (.bool (fnP l))∧Below w.heap.size w w':=by
 have HK:=mkHid hk
 have HN:=mkHid hn
 have B0:=mkHid (Below.refl w.heap.size w)
 obtain ⟨V,hV⟩:∃ V,fnP l = V:=⟨_,rfl⟩
 have HV:Hid (V = (decide (l.length≤18) && l.all (fun b=>decide (b.length≤60)))):=mkHid hV.symm
 rw [hV]
 clear hk hn hV
 go_enter Tryz.func46,Tryz.ntmps46
 go_wp2_with fail
 go_loopw [3] (fun cc wr=>∃ (i:Nat),cc = .int .i64 i∧i≤n∧i≤19∧Hid (∀ b∈l.take i,b.length≤60)∧Hid (Below w.heap.size w wr)) (fun c _=>(19 - intOf c).toNat)
 case atStart=>exact ⟨0,rfl,by omega,by omega,mkHid (by simp),B0⟩
 case round =>
  clear B0
  obtain ⟨i,rfl,hi,hi11,ha,hw⟩:=hrel
  have e2:IntKind.i64.wrap ((i:Int) + 1) = ((i + 1:Nat):Int):=IntWalk.i64_in _ (by omega)
  by_cases hlt:i < n
  ·have ii:(i:Int) < n:=by omega
   by_cases h11:i < 19
   ·have i11:(i:Int) < 19:=by omega
    obtain ⟨q,hq⟩:∃ q,l[i]? = some q:=⟨_,List.getElem?_eq_getElem (by rw [← HN.out]; exact hlt)⟩
    obtain ⟨g,off,hao,-,s0⟩:=(HK.out.below hw.out).at i q hq
    have HAO:=mkHid hao
    have HQI:=mkHid hq
    clear hq HK
    subst hao
    have hz:=strN_size q
    obtain ⟨z,hzz⟩:∃ z,q.length = z:=⟨_,rfl⟩
    have HZ:=mkHid hzz
    rw [hzz] at hz
    clear hzz
    generalize strN q = y at *
    by_cases h60:60 < z
    ·have h60':(60:Int) < (z:Int):=by omega
     have HF:Hid (V = false):=mkHid (by
      rw [HV.out]
      have:l.all (fun b=>decide (b.length≤60)) = false:=by
       rw [List.all_eq_false]
       exact ⟨q,List.mem_of_getElem? HQI.out,by rw [HZ.out]; simpa using h60⟩
      rw [this,Bool.and_false])
     clear h60
     go_wp2
     go_ret
     exact ⟨ret_bool HF.out.symm,hw.out⟩
    ·have h60':¬ (60:Int) < (z:Int):=by omega
     have HA2:Hid (∀ b∈l.take (i + 1),b.length≤60):=mkHid (fun b hb=>by
      rw [List.take_add_one,HQI.out] at hb
      rcases List.mem_append.1 hb with hb | hb
      ·exact ha.out b hb
      ·have:b = q:=by simpa using hb
       rw [this,HZ.out]; omega)
     clear h60
     go_wp2
     go_roundw
     case rel=>exact ⟨i + 1,by go_num,by omega,by omega,HA2,hw⟩
     case measure=>simp only [intOf]; omega
   ·have i11:¬ (i:Int) < 19:=by omega
    have hn10:¬ (n:Int)≤18:=by omega
    have HF:Hid (V = false):=mkHid (by rw [HV.out,decide_eq_false (by rw [← HN.out]; omega),Bool.false_and])
    go_wp2
    go_ret
    exact ⟨ret_bool HF.out.symm,hw.out⟩
  ·have ii:¬ ((i:Int) < n):=by omega
   have HA:Hid (l.all (fun b=>decide (b.length≤60)) = true):=mkHid (by
    rw [List.all_eq_true]
    intro b hb
    exact decide_eq_true (ha.out b (by rw [List.take_of_length_le (by rw [← HN.out]; omega)]; exact hb)))
   have HT:Hid (V = decide ((n:Int)≤18)):=mkHid (by
    rw [HV.out,HA.out,Bool.and_true,← HN.out]
    by_cases h:n≤18
    ·rw [decide_eq_true h,decide_eq_true (by omega)]
    ·rw [decide_eq_false h,decide_eq_false (by omega)])
   go_wp2
   go_ret
   exact ⟨ret_bool HT.out.symm,hw.out⟩
set_option maxHeartbeats 8000000 in
set_option maxRecDepth 100000 in
theorem fewp_any (w:World) (P:Nat→Prop) (l:List Prd) (ao:Option Addr) (n cap M:Nat) (hM:M≤1000) (hn:n = l.length) (hbig:n≤9223372036854775807) (hk:PrdsR w P l ao) (hlen:∀ p∈l,LenP p) :
  Calls Tryz.prog 45 #[.slice ao n cap,.int .i64 (M:Int)] w fun e w'=>e = .returned (.bool (fpP M l))∧Below w.heap.size w w':=by
 have HK:=mkHid hk
 have HN:=mkHid hn
 have HLE:=mkHid hlen
 have B0:=mkHid (Below.refl w.heap.size w)
 obtain ⟨V,hV⟩:∃ V,fpP M l = V:=⟨_,rfl⟩
 have HV:Hid (V = (decide (l.length≤M) && l.all shoP)):=mkHid hV.symm
 rw [hV]
 clear hk hn hV hlen
 go_enter Tryz.func45,Tryz.ntmps45
 go_wp2_with fail
 go_loopw [5] (fun cc wr=>∃ (i:Nat),cc = .int .i64 i∧i≤n∧i≤M + 1∧Hid (∀ b∈l.take i,shoP b = true)∧Hid (Below w.heap.size w wr)) (fun c _=>(M + 1 - intOf c).toNat)
 case atStart=>exact ⟨0,rfl,by omega,by omega,mkHid (by simp),B0⟩
 case round =>
  clear B0
  obtain ⟨i,rfl,hi,hi11,ha,hw⟩:=hrel
  have e2:IntKind.i64.wrap ((i:Int) + 1) = ((i + 1:Nat):Int):=IntWalk.i64_in _ (by omega)
  by_cases hlt:i < n
  ·have ii:(i:Int) < n:=by omega
   by_cases h11:i≤M
   ·have i11:(i:Int)≤(M:Int):=by omega
    obtain ⟨q,hq⟩:∃ q,l[i]? = some q:=⟨_,List.getElem?_eq_getElem (by rw [← HN.out]; exact hlt)⟩
    obtain ⟨g,off,vs,hao,hgl,hpc,hrd⟩:=(HK.out.below hw.out).at i q hq
    obtain ⟨xa,xn,xc,hvf,-⟩:=hpc.form
    subst hvf
    have HSH:=mkHid (short_any q wr P _ (HLE.out q (List.mem_of_getElem? hq)) hpc)
    have s0:=hrd 0 _ rfl
    have s1:=hrd 1 _ rfl
    have s2:=hrd 2 _ rfl
    have s3:=hrd 3 _ rfl
    have s4:=hrd 4 _ rfl
    rw [Nat.add_zero] at s0
    have HAO:=mkHid hao
    have HQI:=mkHid hq
    clear hq hpc hrd hgl
    subst hao
    obtain ⟨sv,hsv⟩:∃ v,shoP q = v:=⟨_,rfl⟩
    rw [hsv] at HSH
    have HSV:=mkHid hsv
    clear hsv
    generalize q.k = q0 at *
    generalize strN q.l = q1 at *
    generalize strN q.r = q2 at *
    generalize q.c = q3 at *
    go_wp2_with fail
    refine HSH.out.mono ?_
    rintro e w3 ⟨rfl,b3⟩
    have hw3:=mkHid (hw.out.trans (b3.mono hw.out.size))
    clear b3 s0 s1 s2 s3 s4 HSH hw
    cases sv with
    | false =>
     have HF:Hid (V = false):=mkHid (by
      rw [HV.out]
      have:l.all shoP = false:=by
       rw [List.all_eq_false]
       exact ⟨q,List.mem_of_getElem? HQI.out,by rw [HSV.out]; simp⟩
      rw [this,Bool.and_false])
     go_wp2
     go_ret
     exact ⟨ret_bool HF.out.symm,hw3.out⟩
    | true =>
     have HA2:Hid (∀ b∈l.take (i + 1),shoP b = true):=mkHid (fun b hb=>by
      rw [List.take_add_one,HQI.out] at hb
      rcases List.mem_append.1 hb with hb | hb
      ·exact ha.out b hb
      ·have:b = q:=by simpa using hb
       rw [this,HSV.out])
     go_wp2
     go_roundw
     case rel=>exact ⟨i + 1,by go_num,by omega,by omega,HA2,hw3⟩
     case measure=>simp only [intOf]; omega
   ·have i11:¬ (i:Int)≤(M:Int):=by omega
    have hn10:¬ (n:Int)≤(M:Int):=by omega
    have HF:Hid (V = false):=mkHid (by rw [HV.out,decide_eq_false (by rw [← HN.out]; omega),Bool.false_and])
    go_wp2
    go_ret
    exact ⟨ret_bool HF.out.symm,hw.out⟩
  ·have ii:¬ ((i:Int) < n):=by omega
   have HA:Hid (l.all shoP = true):=mkHid (by
    rw [List.all_eq_true]
    intro b hb
    exact ha.out b (by rw [List.take_of_length_le (by rw [← HN.out]; omega)]; exact hb))
   have HT:Hid (V = decide (n≤M)):=mkHid (by rw [HV.out,HA.out,Bool.and_true,← HN.out])
   go_wp2
   go_ret
   exact ⟨ret_bool HT.out.symm,hw.out⟩
set_option maxHeartbeats 8000000 in
set_option maxRecDepth 100000 in
theorem rgiven_any (ns:List (List Nat)) (most:Int) (ao:Option Addr) (n cap:Nat) (w:World) (hn:n = ns.length) (hr:StrsR w ao ns) (hb:∀ s∈ns,NmB s) (hbig:n≤1000000) :
  Calls Tryz.prog 47 #[.slice ao n cap,.int .i64 most] w fun e w'=>e = .returned (.bool (givenP ns most))∧Below w.heap.size w w':=by
 have HV:Hid (givenP ns most = ((decide (n≤16) && (decide (0≤most) && decide (most≤65535))) && (ns.all validN && ascB ns))):=mkHid (by rw [hn]; rfl)
 generalize givenP ns most = V at *
 have HR:=mkHid hr
 have HB:=mkHid hb
 have HN:=mkHid hn
 have B0:=mkHid (Below.refl w.heap.size w)
 clear hr hb hn
 go_enter Tryz.func47,Tryz.ntmps47
 by_cases h16:16 < n
 ·have h1:(16:Int) < n:=by omega
  go_wp2
  go_ret
  exact ⟨ret_bool (by rw [HV.out,decide_eq_false (by omega)]; rfl),B0.out⟩
 ·have h1:¬ (16:Int) < n:=by omega
  by_cases hm0:most < 0
  ·go_wp2
   go_ret
   exact ⟨ret_bool (by rw [HV.out,decide_eq_false (by omega:¬ 0≤most)]; simp),B0.out⟩
  ·by_cases hm1:65535 < most
   ·go_wp2
    go_ret
    exact ⟨ret_bool (by rw [HV.out,decide_eq_false (by omega:¬ most≤65535)]; simp),B0.out⟩
   ·have HV2:Hid (V = (ns.all validN && ascB ns)):=mkHid (by rw [HV.out,decide_eq_true (by omega),decide_eq_true (by omega),decide_eq_true (by omega)]; rfl)
    clear HV
    go_wp2_with fail
    go_loopw [5] (fun c wr=>∃ i:Nat,c = .int .i64 i∧i≤n∧Hid (goodN ns i)∧Hid (Below w.heap.size w wr)) (fun c _=>(n - intOf c).toNat)
    case atStart=>exact ⟨0,rfl,by omega,mkHid (fun j s hj=>absurd hj (Nat.not_lt_zero _)),B0⟩
    case round =>
     clear B0
     obtain ⟨i,rfl,hi,hg,hw⟩:=hrel
     have e2:IntKind.i64.wrap ((i:Int) + 1) = ((i + 1:Nat):Int):=IntWalk.i64_in _ (by omega)
     by_cases hlt:i < n
     ·have ii:(i:Int) < n:=by omega
      obtain ⟨s,hs⟩:∃ s,ns[i]? = some s:=⟨_,List.getElem?_eq_getElem (by rw [← HN.out]; exact hlt)⟩
      have HS:=mkHid hs
      obtain ⟨g,off,hao,hgl,hc⟩:=(HR.out.below hw.out).at i s hs
      have HAO:=mkHid hao
      subst hao
      have HNM:=mkHid (HB.out s (List.mem_of_getElem? hs))
      have HVN:=mkHid (fun W (_:Below wr.heap.size wr W)=>rvname_any s W HNM.out.2 HNM.out.1)
      obtain ⟨v,hv⟩:∃ v,validN s = v:=⟨_,rfl⟩
      rw [hv] at HVN
      have HVV:=mkHid hv
      clear hv hs hgl
      have r1:=regr wr (fun W hW=>HVN.out W hW)
      have hc':=cell_regrown hc
      cases v with
      | false =>
       generalize hy:strN s = y at *
       clear hy
       go_upto_region 6 with (fail)
       refine wp_region_quiet_below (by kernel_rfl) (by kernel_rfl) ?_
       repeat (go_big_quiet_step (with_reducible (exact r1 _ _)))
       refine wpQuiet_nil ?_
       intro _ hw'
       obtain ⟨⟨dq,osq⟩,hw''⟩:=hw'
       subst hw''
       have BB:=mkHid (hw.out.trans ((below_regrown wr dq osq).mono hw.out.size))
       clear r1 hc' hc HVN hw
       generalize grow (redrawn wr dq) osq = wy at *
       go_wp2
       go_ret
       exact ⟨ret_bool (by rw [HV2.out]; exact (goodN_bad HS.out (.inl HVV.out)).symm),BB.out⟩
      | true =>
       by_cases h0:i = 0
       ·have i0:¬ (0:Int) < (i:Int):=by omega
        have di:decide (0 < i) = false:=decide_eq_false (by omega)
        have HG2:=mkHid (goodN_next hg.out HS.out HVV.out (fun r hr _=>absurd hr (by omega)))
        generalize hy:strN s = y at *
        clear hy h0
        go_upto_region 6 with (fail)
        refine wp_region_quiet_below (by kernel_rfl) (by kernel_rfl) ?_
        repeat (go_big_quiet_step (with_reducible (exact r1 _ _)))
        refine wpQuiet_nil ?_
        intro _ hw'
        obtain ⟨⟨dq,osq⟩,hw''⟩:=hw'
        subst hw''
        have BB:=mkHid (hw.out.trans ((below_regrown wr dq osq).mono hw.out.size))
        clear r1 hc' hc HVN hw
        generalize grow (redrawn wr dq) osq = wy at *
        go_wp2_with fail
        go_roundw
        case rel=>exact ⟨i + 1,by go_num,by omega,HG2,BB⟩
        case measure=>simp only [intOf]; omega
       ·have i0:(0:Int) < (i:Int):=by omega
        obtain ⟨j,rfl⟩:∃ j,i = j + 1:=⟨i - 1,by omega⟩
        have e3:IntKind.i64.wrap (((j + 1:Nat):Int) - 1) = (j:Int):=by rw [show ((j + 1:Nat):Int) - 1 = (j:Int) by omega]; exact IntWalk.i64_in _ (by omega)
        obtain ⟨r,hr⟩:∃ r,ns[j]? = some r:=⟨_,List.getElem?_eq_getElem (by rw [← HN.out]; omega)⟩
        have HRJ:=mkHid hr
        have jj:(j:Int) < n:=by omega
        have j0:¬ (j:Int) < 0:=by omega
        have HNR:=mkHid (HB.out r (List.mem_of_getElem? hr))
        have hl:=strN_less r s HNR.out.1 HNM.out.1
        have HLT:Hid (∀ b,ltL r s = b→Op.bytesLess (strN r).toList (strN s).toList = b):=mkHid (fun b h=>hl.trans h)
        have hcr:wr.cell? ⟨g,off + j,none⟩ = some (.string (strN r)):=by
         obtain ⟨g',off',e',h1,h2⟩:=(HR.out.below hw.out).at j r hr
         cases e'
         exact h2
        have hcr':=cell_regrown hcr
        clear hl hr
        cases hlr:ltL r s with
        | true =>
         have HG2:=mkHid (goodN_next hg.out HS.out HVV.out (fun r' _ hr'=>by
          rw [show j + 1 - 1 = j by omega,HRJ.out] at hr'
          cases hr'
          exact hlr))
         have l1:=HLT.out true hlr
         clear hlr HLT h0
         generalize hy:strN s = y at *
         generalize hz:strN r = z at *
         clear hy hz
         go_upto_region 6 with (fail)
         refine wp_region_quiet_below (by kernel_rfl) (by kernel_rfl) ?_
         repeat (go_big_quiet_step (with_reducible (exact r1 _ _)))
         refine wpQuiet_nil ?_
         intro _ hw'
         obtain ⟨⟨dq,osq⟩,hw''⟩:=hw'
         subst hw''
         have BB:=mkHid (hw.out.trans ((below_regrown wr dq osq).mono hw.out.size))
         clear r1 hc' hc hcr hcr' HVN hw
         generalize grow (redrawn wr dq) osq = wy at *
         go_wp2_with fail
         go_roundw
         case rel=>exact ⟨j + 1 + 1,by go_num,by omega,HG2,BB⟩
         case measure=>simp only [intOf]; omega
        | false =>
         have l1:=HLT.out false hlr
         have HBD:=mkHid (goodN_bad HS.out (.inr ⟨r,by omega,HRJ.out,hlr⟩))
         clear hlr HLT h0
         generalize hy:strN s = y at *
         generalize hz:strN r = z at *
         clear hy hz
         go_upto_region 6 with (fail)
         refine wp_region_quiet_below (by kernel_rfl) (by kernel_rfl) ?_
         repeat (go_big_quiet_step (with_reducible (exact r1 _ _)))
         refine wpQuiet_nil ?_
         intro _ hw'
         obtain ⟨⟨dq,osq⟩,hw''⟩:=hw'
         subst hw''
         have BB:=mkHid (hw.out.trans ((below_regrown wr dq osq).mono hw.out.size))
         clear r1 hc' hc hcr hcr' HVN hw
         generalize grow (redrawn wr dq) osq = wy at *
         go_wp2
         go_ret
         exact ⟨ret_bool (by rw [HV2.out]; exact HBD.out.symm),BB.out⟩
     ·have ii:¬ ((i:Int) < n):=by omega
      have HG3:=mkHid (goodN_all ns (by rw [← HN.out,show n = i by omega]; exact hg.out))
      go_wp2
      go_ret
      exact ⟨ret_bool (by rw [HV2.out]; exact HG3.out.symm),hw.out⟩
end Go.Proofs.YtmkdfbelbcocpaaGreatDoor
