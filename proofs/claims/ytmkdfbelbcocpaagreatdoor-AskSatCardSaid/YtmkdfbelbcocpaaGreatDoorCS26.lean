import Derived.Deep.CutBlock
import Derived.Deep.DeepCutAuto
import Derived.Test.YtmkdfbelbcocpaaGreatDoorCS25
import Derived.Deep.OwnRows
import Derived.Test.YtmkdfbelbcocpaaGreatDoorCS22
import Derived.Test.YtmkdfbelbcocpaaGreatDoorCS21
import Derived.Maps.OwnSet
import Derived.Test.YtmkdfbelbcocpaaGreatDoorCS20
import Derived.Test.YtmkdfbelbcocpaaGreatDoorCS10
import Derived.Test.YtmkdfbelbcocpaaGreatDoorCS19
import Derived.ArgAppend
import Derived.Test.YtmkdfbelbcocpaaGreatDoorShelf
set_option linter.unusedVariables false
set_option linter.unusedSimpArgs false
set_option maxHeartbeats 16000000
set_option maxRecDepth 100000
namespace Go.Proofs.YtmkdfbelbcocpaaGreatDoor
section
open Go.RowKit Go.Sort
theorem Z92 (ns:List (List Nat)) (k:Ky) (h:Zfg ns k.l=true∧Zfg ns k.r=true):#[Value.int .i64 (Zh8 ns k.l),.int .i64 (Zh8 ns k.r),.int .i64 k.c]=(Zjs (Zgl ns k)).toArray:=by
 unfold Zh8 Zjs Zgl
 rw[if_pos h.1,if_pos h.2]
theorem Z37 (c:Con):∀ u∈(Zjs c),u.oneCell'=true:=by
 intro u hu
 simp only[Zjs,List.mem_cons,List.not_mem_nil,or_false] at hu
 rcases hu with rfl | rfl | rfl<;>rfl
theorem Zha {α:Type} (f:α→List Value) (l:List α) (x:α):l.flatMap f++f x=(l++[x]).flatMap f:=by simp
theorem Zv1 {α:Type} (f:α→List Value) (l:List α) (x y:α):l.flatMap f++(f x++f y)=(l++[x,y]).flatMap f:=by simp
theorem Zug (w:World) (ao:Option Addr) (n cp:Nat) (most:Int) (ns:List (List Nat)) (al:Option Addr) (nl cl:Nat) (ks:List Ky) (hn:n=ns.length) (h:Zcm w ao ns) (hb:∀ s∈ns,NmB s) (hl:Zkd ns) (hbig:n≤1000)
  (hkr:Za8 kyC w al ks) (hnl:nl=ks.length) (hk:Ziq ns ks) (hkb:∀ k∈ks,NmB k.l∧NmB k.r) (hnb:nl≤100000) :
  Calls Tryz.prog 176 #[.agg #[.slice ao n cp,.int .i64 most],.slice al nl cl] w fun e w'=>(∃ ro rc,e = .returned (.slice ro (Zcq ns most ks).length rc)∧OwnK w' w.heap.size 3 (Zcq ns most ks).length rc ((Zcq ns most ks).flatMap Zjs) ro)∧Below w.heap.size w w':=by
 have HOF:=ħ (fun W (hW:Below w.heap.size w W) k (hk2:k∈ks)=>Zuf W ao n cp most ns k hn (h.below hW) hb hl (by omega) (hkb k hk2).1 (hkb k hk2).2)
 have HKR:=ħ hkr
 have HNL:=ħ hnl
 have HKN:=ħ hk
 have bx:=(Below.refl w.heap.size w).alloc (Nat.le_refl _) (.cells #[.slice ao n cp,.int .i64 most] 139)
 have B1:=ħ bx
 have X1:Hid (Zah (w.alloc (.cells #[.slice ao n cp,.int .i64 most] 139)) w.heap.size 139 [.slice ao n cp,.int .i64 most]):=ħ (heap_alloc_new w _)
 have HLEN:Hid ((Zcq ns most ks).length=nl+2*n):=ħ (by unfold Zcq;rw[List.length_append,List.length_map,Zhs,hnl,hn])
 have HCP:Hid (Zcq ns most ks=ks.map (Zgl ns)++Ze8 most n):=ħ (by unfold Zcq;rw[hn])
 rw[HLEN.o]
 obtain⟨CP,hCP⟩:∃ c,Zcq ns most ks=c:=⟨_,rfl⟩
 rw[hCP] at HCP ⊢
 clear bx h hb hl hkr hnl hk hkb HLEN hCP hn
 go_enter Tryz.func176,Tryz.ntmps176
 go_upto_block 0 with (fail)
 generalize w.alloc (.cells #[.slice ao n cp,.int .i64 most] 139)=w1 at *
 go_cut [4] (fun o wx=>∃ (ro:Option Addr) (rc:Nat),o = .slice ro nl rc∧Hid (OwnK wx (w.heap.size+1) 3 nl rc ((ks.map (Zgl ns)).flatMap Zjs) ro)∧Hid (Zah wx w.heap.size 139 [.slice ao n cp,.int .i64 most])∧Hid (Below w.heap.size w wx))
 case first =>
  go_wp2_with fail
  go_loopw [4,10] (fun o c wr=>∃ (i:Nat) (ro:Option Addr) (rc:Nat),c = .int .i64 i∧i≤nl∧o = .slice ro i rc∧Hid (OwnK wr (w.heap.size+1) 3 i rc (((ks.take i).map (Zgl ns)).flatMap Zjs) ro)∧Hid (Zah wr w.heap.size 139 [.slice ao n cp,.int .i64 most])∧Hid (Below w.heap.size w wr)) (fun o c _=>(nl-intOf c).toNat)
  case atStart=>exact⟨0,none,0,rfl,by omega,rfl,ħ (.nil (by simp) rfl rfl),X1,B1⟩
  case round =>
   clear X1 B1
   obtain⟨i,ro,rc,rfl,hi,rfl,ho,hx,hw⟩:=hrel
   have e2:IntKind.i64.wrap ((i:Int)+1)=((i+1:Nat):Int):=IntWalk.i64_in _ (by omega)
   by_cases hlt:i<nl
   ·have ii:(i:Int)<nl:=by omega
    obtain⟨k,hk⟩:∃ k,ks[i]?=some k:=⟨_,List.getElem?_eq_getElem (by rw[← HNL.o];exact hlt)⟩
    have HKI:=ħ hk
    obtain⟨g,off,hao,hg,hc⟩:=(HKR.o.below hw.o).at (k:=3) (fun _=>rfl) i k hk
    have HAO:=ħ hao
    subst hao
    have s0:=hc 0 _ rfl
    have s1:=hc 1 _ rfl
    have s2:=hc 2 _ rfl
    rw[Nat.add_zero] at s0
    have HCV:=ħ (Z92 ns k (HKN.o k (List.mem_of_getElem? hk)))
    have HOK:=ħ (fun W hW=>HOF.o W hW k (List.mem_of_getElem? hk))
    have HTK:Hid (((ks.take i).map (Zgl ns)).flatMap Zjs++Zjs (Zgl ns k)=((ks.take (i+1)).map (Zgl ns)).flatMap Zjs):=ħ (by rw[Zha,List.take_add_one,hk];simp)
    rw[HCV.o,show (kyC k)=[.string (Zad k.l),.string (Zad k.r),.int .i64 k.c] from rfl] at HOK
    clear hc hk hg HCV
    generalize Zad k.l=y1 at *
    generalize Zad k.r=y2 at *
    generalize k.c=y3 at *
    have CL:=Zdb (Zgl ns k)
    have C1:=ħ (Z37 (Zgl ns k))
    generalize Zjs (Zgl ns k)=cv at *
    go_upto_region 4 with (fail)
    have bx:=(Below.refl wr.heap.size wr).alloc (Nat.le_refl _) (.cells #[.string y1,.string y2,.int .i64 y3] 123)
    have Kx:Hid (Zah (wr.alloc (.cells #[.string y1,.string y2,.int .i64 y3] 123)) wr.heap.size 123 [.string y1,.string y2,.int .i64 y3]):=ħ (heap_alloc_new _ _)
    have X2:=ħ (hx.o.step bx)
    have O2:=ħ (ho.o.below bx)
    have B2:=ħ (hw.o.trans (bx.mono hw.o.size))
    clear bx hx ho hw s0 s1 s2
    generalize wr.alloc (.cells #[.string y1,.string y2,.int .i64 y3] 123)=w2 at *
    generalize wr.heap.size=KA at *
    go_wp2_with (first
     | (refine wpList_load_row rfl 139 (.tmp 2) rfl w.heap.size ?la1 139 #[.slice ao n cp,.int .i64 most] (0,0) _ X2.o Tryz.underlying139 rfl (Zfc _ _) ?_;(case la1=>rfl))
     | (refine wpList_load_row rfl 123 (.tmp 6) rfl KA ?la2 123 #[.string y1,.string y2,.int .i64 y3] (0,0) _ Kx.o Tryz.underlying123 rfl (Zg6 _ rfl) ?_;(case la2=>rfl)))
    refine (HOK.o w2 B2.o).mono ?_
    rintro e w3 ⟨rfl,b3⟩
    have X3:=ħ (X2.o.step b3)
    have O3:=ħ (O2.o.below b3)
    have B3:=ħ (B2.o.trans (b3.mono B2.o.size))
    clear b3 X2 O2 B2 Kx HOK
    match cv,CL with
    | [v0,v1,v2],_ =>
    go_wp2_with (at_builtin;refine Zff 140 147 Z9k 3 24 Tryz.underlying140 Zue rfl (by omega) (by omega) w3 (w.heap.size+1) rfl (.tmp 14) (.tmp 18) rfl ro rc i (((ks.take i).map (Zgl ns)).flatMap Zjs) ?q1 O3.o X3.o.lt 1 1 #[v0,v1,v2] 147 ?q2 rfl (by omega) C1.o ?q4 ?_;(case q1=>rfl);(case q2=>rfl);(case q4=>omega);intro g5 off5 c5 wa o8 gr8 b8 or8;have O8:=ħ o8;have B8:=ħ b8;clear o8 gr8 b8 or8)
    have X4:=ħ (X3.o.below B8.o (Nat.lt_succ_self _))
    have B4:=ħ (B3.o.trans (B8.o.mono (Nat.le_succ _)))
    clear X3 O3 B3 B8
    go_roundw
    case rel=>exact⟨i+1,some ⟨g5,off5,none⟩,c5,by go_num,by omega,rfl,ħ (by rw[← HTK.o];exact O8.o),X4,B4⟩
    case measure=>simp only[intOf];omega
   ·obtain rfl:i=nl:=by omega
    have ii:¬ ((i:Int)<(i:Int)):=by omega
    go_wp2_with fail
    go_meet
    case rel=>exact⟨ro,rc,rfl,ħ (by have:=ho.o;rwa [List.take_of_length_le (by rw[← HNL.o];exact Nat.le_refl _)] at this),hx,hw⟩
 case rest =>
  clear X1 B1
  obtain⟨ro,rc,rfl,ho,hx,hw⟩:=hcut
  have x0:=hx.o.cell 0 _ rfl
  go_wp2_with fail
  go_loopw [4,24] (fun o c wr=>∃ (i:Nat) (ro:Option Addr) (rc:Nat),c = .int .i64 i∧i≤n∧o = .slice ro (nl+2*i) rc∧Hid (OwnK wr (w.heap.size+1) 3 (nl+2*i) rc ((ks.map (Zgl ns)++Ze8 most i).flatMap Zjs) ro)∧Hid (Zah wr w.heap.size 139 [.slice ao n cp,.int .i64 most])∧Hid (Below w.heap.size w wr)) (fun o c _=>(n-intOf c).toNat)
  case atStart=>exact⟨0,ro,rc,rfl,by omega,rfl,ħ (by have:=ho.o;simpa [Ze8] using this),hx,hw⟩
  case round =>
   clear ho hx hw x0
   obtain⟨i,ro,rc,rfl,hi,rfl,ho,hx,hw⟩:=hrel
   have e2:IntKind.i64.wrap ((i:Int)+1)=((i+1:Nat):Int):=IntWalk.i64_in _ (by omega)
   by_cases hlt:i<n
   ·have ii:(i:Int)<n:=by omega
    have x1:=hx.o.cell 1 _ rfl
    go_wp2_with (at_builtin;refine Zff 140 147 Z9k 3 24 Tryz.underlying140 Zue rfl (by omega) (by omega) wr (w.heap.size+1) rfl (.tmp 27) (.tmp 36) rfl ro rc (nl+2*i) ((ks.map (Zgl ns)++Ze8 most i).flatMap Zjs) ?q1 ho.o hx.o.lt 2 2 #[.int .i64 0,.int .i64 ((i+1:Nat):Int),.int .i64 0,.int .i64 ((i+1:Nat):Int),.int .i64 0,.int .i64 most] 147 ?q2 rfl (by omega) ?q3 ?q4 ?_;(case q1=>rfl);(case q2=>rfl);(case q3=>simp[Value.oneCell']);(case q4=>omega);intro g5 off5 c5 wa o8 gr8 b8 or8;have O8:=ħ o8;have B8:=ħ b8;clear o8 gr8 b8 or8)
    have X4:=ħ (hx.o.below B8.o (Nat.lt_succ_self _))
    have B4:=ħ (hw.o.trans (B8.o.mono (Nat.le_succ _)))
    have HTK:Hid ((ks.map (Zgl ns)++Ze8 most i).flatMap Zjs++[.int .i64 0,.int .i64 ((i+1:Nat):Int),.int .i64 0,.int .i64 ((i+1:Nat):Int),.int .i64 0,.int .i64 most]=(ks.map (Zgl ns)++Ze8 most (i+1)).flatMap Zjs):=ħ (by
     rw[show Ze8 most (i+1)=Ze8 most i++[⟨0,i+1,0⟩,⟨i+1,0,most⟩] from rfl,← List.append_assoc,← Zv1]
     rfl)
    clear ho hx hw x1 B8
    go_roundw
    case rel=>exact⟨i+1,some ⟨g5,off5,none⟩,c5,by go_num,by omega,rfl,ħ (by rw[← HTK.o];exact O8.o),X4,B4⟩
    case measure=>simp only[intOf];omega
   ·obtain rfl:i=n:=by omega
    have ii:¬ ((i:Int)<(i:Int)):=by omega
    go_wp2
    go_ret
    exact⟨⟨ro,rc,rfl,by rw[HCP.o];exact ho.o.lower (Nat.le_succ _)⟩,hw.o⟩
end
section
open Go.RowKit Go.Sort
def ivs (l:List Int):List Value:=l.map (Value.int .i64)
theorem Zh9 {l:List Int} {i:Nat} (h:i<l.length):(ivs l)[i]?=some (.int .i64 (gv l i)):=by
 unfold ivs gv
 rw[List.getElem?_map,List.getElem?_eq_getElem h,List.getD_eq_getElem?_getD,List.getElem?_eq_getElem h]
 rfl
theorem Zsb (l:List Int) (i:Nat) (x:Int):(ivs l).set i (.int .i64 x)=ivs (l.set i x):=by
 unfold ivs;rw[List.map_set]
theorem Zlq (x:Int) (N:Nat):madeCells #[Value.int .i64 x] N=(ivs (List.replicate N x)).toArray:=by
 unfold ivs
 apply Array.ext
 ·simp[madeCells]
 ·intro i h1 h2
  simp[madeCells,Nat.mod_one]
def Zgt (w:World) (N:Nat) (r:Option (List Int)) (e:Ending) (w':World):Prop :=
 (match r with
  | none=>e = .returned (.tuple #[.slice none 0 0,.bool false])
  | some v=>∃ V,e = .returned (.tuple #[.slice (some ⟨V,0,none⟩) N N,.bool true])∧Zah w' V 3 (ivs v)∧w.heap.size≤V)∧Below w.heap.size w w'
theorem Zgt.no {w w':World} {N:Nat} {r:Option (List Int)} (h:r=none) (hb:Below w.heap.size w w'):Zgt w N r (.returned (.tuple #[.slice none 0 0,.bool false])) w':=by
 subst h;exact⟨rfl,hb⟩
theorem Zgt.yes {w w':World} {N V:Nat} {r:Option (List Int)} {v:List Int} (h:r=some v) (hv:Zah w' V 3 (ivs v)) (hV:w.heap.size≤V) (hb:Below w.heap.size w w'):Zgt w N r (.returned (.tuple #[.slice (some ⟨V,0,none⟩) N N,.bool true])) w':=by
 subst h;exact⟨⟨V,rfl,hv,hV⟩,hb⟩
def Z8t (cs:List Con):Prop:=∀ c∈cs,-1099511627776≤c.c∧c.c≤1099511627776
theorem Zsc {cs:List Con} {f:Nat} {v:List Int} (h:Zdw cs v true=none):Zek cs (f+1) v=none:=by
 unfold Zek;rw[h]
theorem Zsd {cs:List Con} {f:Nat} {v v':List Int} (h:Zdw cs v true=some (v',true)):Zek cs (f+1) v=some v':=by
 unfold Zek;rw[h];rfl
theorem Zzp {cs:List Con} {f:Nat} {v v':List Int} (h:Zdw cs v true=some (v',false)):Zek cs (f+1) v=Zek cs f v':=by
 conv=>lhs;unfold Zek
 rw[h];rfl
theorem Zzq {c:Con} {l:List Con} {v:List Int} {s:Bool} (h:¬ gv v c.r<gv v c.l-c.c):Zdw (c::l) v s=Zdw l v s:=by
 conv=>lhs;unfold Zdw
 rw[if_neg h]
theorem Z38 {c:Con} {l:List Con} {v:List Int} {s:Bool} (h:gv v c.r<gv v c.l-c.c) (h0:c.r=0):Zdw (c::l) v s=none:=by
 unfold Zdw;rw[if_pos h,if_pos h0]
theorem Z7e {c:Con} {l:List Con} {v:List Int} {s:Bool} (h:gv v c.r<gv v c.l-c.c) (h0:¬ c.r=0):Zdw (c::l) v s=Zdw l (v.set c.r (gv v c.l-c.c)) false:=by
 conv=>lhs;unfold Zdw
 rw[if_pos h,if_neg h0]
theorem least_any' (w:World) (ao:Option Addr) (n cp:Nat) (most:Int) (al:Option Addr) (nl cl:Nat) (cs:List Con) (hc:Za8 Zjs w al cs) (hnl:nl=cs.length) (hI:InC (n+1) cs) (hn:n≤1000) (hb:Z8t cs) (hl:nl≤2000) :
  Calls Tryz.prog 115 #[.agg #[.slice ao n cp,.int .i64 most],.slice al nl cl] w fun e w'=>Zgt w (n+1) (Zel n cs) e w':=by
 have HC:=ħ hc
 have HNL:=ħ hnl
 have HI:=ħ hI
 have HBC:=ħ hb
 obtain⟨LL,hLL⟩:∃ LL,Zel n cs=LL:=⟨_,rfl⟩
 rw[hLL]
 have HLL:Hid (LL=Zek cs (n+2) (List.replicate (n+1) 0)):=ħ (by rw[← hLL];rfl)
 have bx:=(Below.refl w.heap.size w).alloc (Nat.le_refl _) (.cells #[.slice ao n cp,.int .i64 most] 139)
 have X1:Hid (Zah (w.alloc (.cells #[.slice ao n cp,.int .i64 most] 139)) w.heap.size 139 [.slice ao n cp,.int .i64 most]):=ħ (heap_alloc_new w _)
 have B1:=ħ bx
 obtain⟨N,hN⟩:∃ N,n+1=N:=⟨_,rfl⟩
 have HN:=ħ hN
 rw[hN] at HI HLL
 clear bx hc hnl hI hb hLL
 rw[hN]
 have hN2:N≤1001:=by omega
 have eN:IntKind.i64.wrap ((n:Int)+1)=(N:Int):=by rw[IntWalk.i64_in _ (by omega)];omega
 have eN2:IntKind.i64.wrap ((N:Int)+1)=((N+1:Nat):Int):=by rw[IntWalk.i64_in _ (by omega)];omega
 have hmk:=run_make_row' (P:=Tryz.prog) 60 3 (.int .i64 0) 8 Tryz.underlying60 Zes rfl .i64 .i64 N (by omega) (by omega)
 rw[Zlq] at hmk
 clear hN
 go_enter Tryz.func115,Tryz.ntmps115
 go_upto_region 1 with (fail)
 generalize w.alloc (.cells #[.slice ao n cp,.int .i64 most] 139)=w1 at *
 have x0:=X1.o.cell 0 _ rfl
 have bx:=(Below.refl w1.heap.size w1).alloc (Nat.le_refl _) (.cells (ivs (List.replicate N 0)).toArray 3)
 have V2:Hid (Zah (w1.alloc (.cells (ivs (List.replicate N 0)).toArray 3)) w1.heap.size 3 (ivs (List.replicate N 0))):=ħ (heap_alloc_new _ _)
 have B2:=ħ (B1.o.trans (bx.mono B1.o.size))
 have G2:Hid (w.heap.size≤w1.heap.size):=ħ B1.o.size
 clear bx B1 X1
 go_wp2_with fail
 clear hmk x0
 generalize w1.alloc (.cells (ivs (List.replicate N 0)).toArray 3)=w2 at *
 generalize w1.heap.size=V at *
 go_loopw [19] (fun cc wr=>∃ (i f:Nat) (v:List Int),cc = .int .i64 i∧i+f=N+1∧Hid (LL=Zek cs f v)∧Hid (v.length=N)∧Hid (∀ k,0≤gv v k∧gv v k≤((i*nl:Nat):Int)*1099511627776)∧Hid (Zah wr V 3 (ivs v))∧Hid (Below w.heap.size w wr)) (fun c _=>(N+1-intOf c).toNat)
 case atStart=>exact⟨0,N+1,List.replicate N 0,rfl,by omega,ħ (by rw[HLL.o];congr 1;have:=HN.o;omega),ħ List.length_replicate,ħ (fun k=>by rw[Zg0];simp),V2,B2⟩
 case round =>
  clear V2 B2 HLL eN eN2
  obtain⟨i,f,v0,rfl,hif,hll,hvl,hvb,hv,hw⟩:=hrel
  have e2:IntKind.i64.wrap ((i:Int)+1)=((i+1:Nat):Int):=IntWalk.i64_in _ (by omega)
  by_cases hlt:i<N+1
  ·have ii:(i:Int)<((N+1:Nat):Int):=by omega
   obtain⟨f',rfl⟩:∃ f',f=f'+1:=⟨f-1,by omega⟩
   have HIN:Hid (i*nl≤1001*2000):=ħ (Nat.mul_le_mul (by omega) hl)
   obtain⟨RP,hRP⟩:∃ r,Zdw cs v0 true=r:=⟨_,rfl⟩
   have HRP:Hid (RP=Zdw (cs.drop 0) v0 true):=ħ hRP.symm
   have HRQ:=ħ hRP
   clear hRP
   go_wp2_with fail
   generalize wr=wo at *
   go_loopw [7,23] (fun st cc wr=>∃ (j:Nat) (s:Bool) (v:List Int),cc = .int .i64 j∧st = .bool s∧j≤nl∧Hid (RP=Zdw (cs.drop j) v s)∧Hid (v.length=N)∧Hid (∀ k,0≤gv v k∧gv v k≤((i*nl+j:Nat):Int)*1099511627776)∧Hid (Zah wr V 3 (ivs v))∧Hid (Below w.heap.size w wr)) (fun _ c _=>(nl-intOf c).toNat)
   case atStart=>exact⟨0,true,v0,rfl,rfl,by omega,HRP,hvl,hvb,hv,hw⟩
   case round =>
    clear HRP hv hw hvl hvb
    obtain⟨j,s,v,rfl,rfl,hj,hrp,hvl,hvb,hv,hw⟩:=hrel
    have e3:IntKind.i64.wrap ((j:Int)+1)=((j+1:Nat):Int):=IntWalk.i64_in _ (by omega)
    by_cases hjl:j<nl
    ·have jj:(j:Int)<nl:=by omega
     obtain⟨c,hcj⟩:∃ c,cs[j]?=some c:=⟨_,List.getElem?_eq_getElem (by rw[← HNL.o];exact hjl)⟩
     have hcm:=List.mem_of_getElem? hcj
     obtain⟨g,off,hao,hg,hcc⟩:=(HC.o.below hw.o).at (k:=3) Zdb j c hcj
     have HAO:=ħ hao
     subst hao
     have s0:=hcc 0 _ rfl
     have s1:=hcc 1 _ rfl
     have s2:=hcc 2 _ rfl
     rw[Nat.add_zero] at s0
     obtain⟨hin1,hin2⟩:=HI.o c hcm
     obtain⟨hb1,hb2⟩:=HBC.o c hcm
     have HDR:Hid (cs.drop j=c::cs.drop (j+1)):=ħ (Zca cs j c hcj)
     have HCK:=ħ (fun (h:¬ gv v c.r<gv v c.l-c.c)=>Zzq (l:=cs.drop (j+1)) (s:=s) h)
     have HCB:=ħ (fun (h:gv v c.r<gv v c.l-c.c) (h0:c.r=0)=>Z38 (l:=cs.drop (j+1)) (s:=s) h h0)
     have HCU:=ħ (fun (h:gv v c.r<gv v c.l-c.c) (h0:¬ c.r=0)=>Z7e (l:=cs.drop (j+1)) (s:=s) h h0)
     rw[HDR.o] at hrp
     have q1:=Zh9 (l:=v) (i:=c.l) (by rw[hvl.o];exact hin1)
     have q2:=Zh9 (l:=v) (i:=c.r) (by rw[hvl.o];exact hin2)
     have hv1:=hvb.o c.l
     have hv2:=hvb.o c.r
     clear hcj hcm hcc hg HDR
     generalize hx1:gv v c.l=x1 at *
     generalize hx2:gv v c.r=x2 at *
     generalize Zdw (c::cs.drop (j+1)) v s=PC at *
     generalize c.l=cl' at *
     generalize c.r=cr at *
     generalize c.c=cc' at *
     clear hx1 hx2
     have i1:(cl':Int)<(N:Int):=by omega
     have i2:(cr:Int)<(N:Int):=by omega
     have HPW:Hid (((i*nl+j:Nat):Int)*1099511627776≤4398046511104*1099511627776/1000000):=ħ (by have:=HIN.o;omega)
     have ex:IntKind.i64.wrap (x1-cc')=x1-cc':=IntWalk.i64_in _ (by have:=HPW.o;omega)
     have bx:=(Below.refl wr.heap.size wr).alloc (Nat.le_refl _) (.cells #[.int .i64 (cl':Int),.int .i64 (cr:Int),.int .i64 cc'] 147)
     have K2:Hid (Zah (wr.alloc (.cells #[.int .i64 (cl':Int),.int .i64 (cr:Int),.int .i64 cc'] 147)) wr.heap.size 147 [.int .i64 (cl':Int),.int .i64 (cr:Int),.int .i64 cc']):=ħ (heap_alloc_new _ _)
     have V3:=ħ (hv.o.step bx)
     have B3:=ħ (hw.o.trans (bx.mono hw.o.size))
     have KV:Hid (wr.heap.size≠V):=ħ (by have:=hv.o.lt;omega)
     go_upto_region 8 with (fail)
     clear bx hv hw s0 s1 s2
     generalize wr.alloc (.cells #[.int .i64 (cl':Int),.int .i64 (cr:Int),.int .i64 cc'] 147)=w3 at *
     generalize wr.heap.size=KA at *
     have k0:=K2.o.cell 0 _ rfl
     have k1:=K2.o.cell 1 _ rfl
     have k2:=K2.o.cell 2 _ rfl
     have y1:=V3.o.cell cl' _ q1
     have y2:=V3.o.cell cr _ q2
     clear q1 q2
     by_cases hrel2:x2<x1-cc'
     ·by_cases h0:cr=0
      ·have HNO:Hid (LL=none):=ħ (by rw[hll.o];exact Zsc (by rw[HRQ.o,hrp.o];exact HCB.o hrel2 h0))
       subst h0
       clear HCK HCB HCU
       go_region
       go_wp2
       go_ret2
       exact Zgt.no HNO.o B3.o.drew
      ·have HUP:Hid (RP=Zdw (cs.drop (j+1)) (v.set cr (x1-cc')) false):=ħ (by rw[hrp.o];exact HCU.o hrel2 h0)
       have hcr0:¬ (cr:Int)=0:=by omega
       have hcr1:((cr:Int)==0)=false:=by rw[beq_eq_false_iff_ne];exact hcr0
       have f2:=V3.o.warm cr
       clear HCK HCB HCU h0
       go_region
       go_wp2_with fail
       have V4:Hid (Zah (w3.drew.setCell ⟨V,cr,none⟩ (.int .i64 (x1-cc'))) V 3 (ivs (v.set cr (x1-cc')))):=ħ (by rw[← Zsb];exact (V3.o.step (Below.refl _ _).drew).set cr _)
       have B4:=ħ (B3.o.drew.setCell (p:=⟨V,cr,none⟩) (by have:=G2.o;exact this) (.int .i64 (x1-cc')))
       have VL:Hid ((v.set cr (x1-cc')).length=N):=ħ (by rw[List.length_set];exact hvl.o)
       have VB:Hid (∀ k,0≤gv (v.set cr (x1-cc')) k∧gv (v.set cr (x1-cc')) k≤((i*nl+(j+1):Nat):Int)*1099511627776):=ħ (fun k=>by
        rw[Zgs _ _ _ _ (by rw[hvl.o];exact hin2)]
        have:=hvb.o k
        by_cases e:cr=k
        ·rw[if_pos e];omega
        ·rw[if_neg e];omega)
       go_roundw
       case rel=>exact⟨j+1,false,_,by go_num,rfl,by omega,HUP,VL,VB,V4,B4⟩
       case measure=>simp only[intOf];omega
     ·have HUP:Hid (RP=Zdw (cs.drop (j+1)) v s):=ħ (by rw[hrp.o];exact HCK.o hrel2)
      clear HCK HCB HCU
      go_region
      go_wp2_with fail
      have V4:=ħ (V3.o.step (Below.refl _ _).drew)
      have B4:=ħ (B3.o.drew)
      have VB:Hid (∀ k,0≤gv v k∧gv v k≤((i*nl+(j+1):Nat):Int)*1099511627776):=ħ (fun k=>by have:=hvb.o k;omega)
      go_roundw
      case rel=>exact⟨j+1,s,v,by go_num,rfl,by omega,HUP,hvl,VB,V4,B4⟩
      case measure=>simp only[intOf];omega
    ·obtain rfl:j=nl:=by omega
     have jj:¬ ((j:Int)<(j:Int)):=by omega
     have HEND:Hid (Zdw cs v0 true=some (v,s)):=ħ (by
      rw[HRQ.o,hrp.o,List.drop_eq_nil_of_le (by rw[← HNL.o];exact Nat.le_refl _)]
      rfl)
     cases s with
     | true =>
      have HSO:Hid (LL=some v):=ħ (by rw[hll.o];exact Zsd HEND.o)
      go_wp2
      go_ret2
      exact Zgt.yes HSO.o hv.o G2.o hw.o
     | false =>
      have HGO:Hid (LL=Zek cs f' v):=ħ (by rw[hll.o];exact Zzp HEND.o)
      have VB:Hid (∀ k,0≤gv v k∧gv v k≤(((i+1)*j:Nat):Int)*1099511627776):=ħ (fun k=>by have:=hvb.o k;rw[Nat.add_mul,Nat.one_mul];exact this)
      go_wp2_with fail
      go_roundw
      case rel=>exact⟨i+1,f',v,by go_num,by omega,HGO,hvl,VB,hv,hw⟩
      case measure=>simp only[intOf];omega
  ·obtain rfl:i=N+1:=by omega
   have ii:¬ (((N+1:Nat):Int)<((N+1:Nat):Int)):=by omega
   obtain rfl:f=0:=by omega
   have HNO:Hid (LL=none):=ħ hll.o
   go_wp2
   go_ret2
   exact Zgt.no HNO.o hw.o
end
section
open Go.RowKit Go.Sort
def Zct (x:Int):List Value:=[.int .i64 x]
theorem Zgn:∀ l:List Int,ivs l=l.flatMap Zct
 | []=>rfl
 | x::l=>by show _::ivs l=_;rw[Zgn l];rfl
theorem Zah.flatI {w:World} {V:Nat} {l:List Int} (h:Zah w V 3 (ivs l)):Za8 Zct w (some ⟨V,0,none⟩) l:=.inr ⟨V,0,rfl,h.lt,by
 rw[← Zgn]
 intro j u hj
 rw[Nat.zero_add]
 exact h.cell j u hj⟩
def Zc1 (ns:List (List Nat)) (v:List Int) (j:Nat):List Bnd:=(List.range j).map (fun i=>⟨ns.getD i [],gv v (i+1)⟩)
def Zfd (ns:List (List Nat)) (v:List Int):List Bnd:=Zc1 ns v ns.length
theorem Znc {ns:List (List Nat)} {v:List Int} {j:Nat} {s:List Nat} (h:ns[j]?=some s):Zc1 ns v (j+1)=Zc1 ns v j++[⟨s,gv v (j+1)⟩]:=by
 unfold Zc1
 rw[List.range_succ,List.map_append]
 simp[List.getD_eq_getElem?_getD,h]
theorem Zhb (ns:List (List Nat)) (v:List Int) (j:Nat):(Zc1 ns v j).length=j:=by unfold Zc1;simp
def Z9l:Value:=.agg #[.string ⟨#[]⟩,.int .i64 0]
theorem Zuh:(Tryz.prog.info? 87).map (fun i=>(i.zero,i.size,i.bytes))=some (some Z9l,2,24):=by kernel_rfl
theorem Zci (x:Int):(Zct x).length=1:=rfl
theorem Zhc {l:List Int} {i:Nat} (h:i<l.length):l[i]?=some (gv l i):=by
 unfold gv
 rw[List.getElem?_eq_getElem h,List.getD_eq_getElem?_getD,List.getElem?_eq_getElem h];rfl
theorem Zlr (w:World) (ao:Option Addr) (n cp:Nat) (most:Int) (ns:List (List Nat)) (vo:Option Addr) (vn vc:Nat) (v:List Int) (hn:n=ns.length) (h:Zcm w ao ns) (hbig:n≤100000) (hv:Za8 Zct w vo v) (hvn:vn=v.length) (hvl:v.length=n+1) :
  Calls Tryz.prog 116 #[.agg #[.slice ao n cp,.int .i64 most],.slice vo vn vc] w fun e w'=>(∃ ro rc,e = .returned (.slice ro n rc)∧OwnK w' w.heap.size 2 n rc ((Zfd ns v).flatMap Zfb) ro)∧Below w.heap.size w w':=by
 have HS:=ħ h
 have HV:=ħ hv
 have HN:=ħ hn
 have HVN:=ħ hvn
 have HVL:=ħ hvl
 have bx:=(Below.refl w.heap.size w).alloc (Nat.le_refl _) (.cells #[.slice ao n cp,.int .i64 most] 139)
 have B1:=ħ bx
 have X1:Hid (Zah (w.alloc (.cells #[.slice ao n cp,.int .i64 most] 139)) w.heap.size 139 [.slice ao n cp,.int .i64 most]):=ħ (heap_alloc_new w _)
 have iv:(vn:Int)=((n+1:Nat):Int):=by omega
 have HP:Hid (Zfd ns v=Zc1 ns v n):=ħ (by rw[hn];rfl)
 rw[HP.o]
 clear bx h hv hn hvn hvl HP
 go_enter Tryz.func116,Tryz.ntmps116
 go_upto_region 1 with (fail)
 generalize w.alloc (.cells #[.slice ao n cp,.int .i64 most] 139)=w1 at *
 have x0:=X1.o.cell 0 _ rfl
 go_wp2_with fail
 clear x0
 go_loopw [4,10] (fun o c wr=>∃ (i:Nat) (ro:Option Addr) (rc:Nat),c = .int .i64 i∧i≤n∧o = .slice ro i rc∧Hid (OwnK wr (w.heap.size+1) 2 i rc ((Zc1 ns v i).flatMap Zfb) ro)∧Hid (w.heap.size+1≤wr.heap.size)∧Hid (Below w.heap.size w wr)) (fun o c _=>(n-intOf c).toNat)
 case atStart=>exact⟨0,none,0,rfl,by omega,rfl,ħ (.nil (by simp[Zc1]) rfl rfl),ħ X1.o.lt,B1⟩
 case round =>
  clear X1 B1
  obtain⟨i,ro,rc,rfl,hi,rfl,ho,hx,hw⟩:=hrel
  have e2:IntKind.i64.wrap ((i:Int)+1)=((i+1:Nat):Int):=IntWalk.i64_in _ (by omega)
  by_cases hlt:i<n
  ·have ii:(i:Int)<n:=by omega
   obtain⟨s,hs⟩:∃ s,ns[i]?=some s:=⟨_,List.getElem?_eq_getElem (by rw[← HN.o];exact hlt)⟩
   obtain⟨g,off,hao,hg,hc⟩:=(HS.o.below hw.o).at i s hs
   have HAO:=ħ hao
   subst hao
   obtain⟨g2,off2,hvo,hg2,hc2⟩:=(HV.o.below hw.o).at (k:=1) Zci (i+1) (gv v (i+1)) (Zhc (by rw[HVL.o];omega))
   have HVO:=ħ hvo
   subst hvo
   have c2:=hc2 0 _ rfl
   rw[Nat.mul_one,Nat.add_zero] at c2
   have HTK:Hid ((Zc1 ns v i).flatMap Zfb++[.string (Zad s),.int .i64 (gv v (i+1))]=(Zc1 ns v (i+1)).flatMap Zfb):=ħ (by rw[Znc hs,← Zha];rfl)
   have iv2:((i+1:Nat):Int)<vn:=by omega
   clear hs hg hg2 hc2
   generalize Zad s=y at *
   generalize gv v (i+1)=x at *
   go_wp2_with (at_builtin;refine Zff 49 87 Z9l 2 24 Tryz.underlying49 Zuh rfl (by omega) (by omega) wr (w.heap.size+1) rfl (.tmp 15) (.tmp 23) rfl ro rc i ((Zc1 ns v i).flatMap Zfb) ?q1 ho.o hx.o 1 1 #[.string y,.int .i64 x] 87 ?q2 rfl (by omega) ?q3 ?q4 ?_;(case q1=>rfl);(case q2=>rfl);(case q3=>simp[Value.oneCell']);(case q4=>omega);intro g5 off5 c5 wa o8 gr8 b8 or8;have O8:=ħ o8;have B8:=ħ b8;clear o8 gr8 b8 or8)
   have B4:=ħ (hw.o.trans (B8.o.mono (Nat.le_succ _)))
   have X4:Hid (w.heap.size+1≤wa.heap.size):=ħ (Nat.le_trans hx.o B8.o.size)
   clear ho hx hw c2 hc B8
   go_roundw
   case rel=>exact⟨i+1,some ⟨g5,off5,none⟩,c5,by go_num,by omega,rfl,ħ (by rw[← HTK.o];exact O8.o),X4,B4⟩
   case measure=>simp only[intOf];omega
  ·obtain rfl:i=n:=by omega
   have ii:¬ ((i:Int)<(i:Int)):=by omega
   go_wp2
   go_ret
   exact⟨⟨ro,rc,rfl,ho.o.lower (Nat.le_succ _)⟩,hw.o⟩
def okA (ns:List (List Nat)) (p:Prd):Bool:=Zg8 p.k p.l p.r p.c p.ks.length&&(Zfg ns p.l&&Zfg ns p.r)
def Zia (ns:List (List Nat)) (most:Int) (ps:List Prd):Option (List Con):=if (Zc0 ns most&&ps.all (okA ns))=true then some (Zcq ns most (ps.map Zo2)) else none
def Zkg (w:World) (so:Value) (r:Option (List Con)) (e:Ending) (w':World):Prop :=
 (match r with
  | none=>e = .returned (.tuple #[so,.slice none 0 0,.bool false])
  | some cs=>∃ ro rc,e = .returned (.tuple #[so,.slice ro cs.length rc,.bool true])∧OwnK w' w.heap.size 3 cs.length rc (cs.flatMap Zjs) ro)∧Below w.heap.size w w'
theorem Zkg.no {w w':World} {so:Value} {r:Option (List Con)} (h:r=none) (hb:Below w.heap.size w w'):Zkg w so r (.returned (.tuple #[so,.slice none 0 0,.bool false])) w':=by
 subst h;exact⟨rfl,hb⟩
theorem Zkg.yes {w w':World} {so:Value} {r:Option (List Con)} {cs:List Con} {ro:Option Addr} {rc m:Nat} (h:r=some cs) (hm:m=cs.length) (ho:OwnK w' w.heap.size 3 m rc (cs.flatMap Zjs) ro) (hb:Below w.heap.size w w'):Zkg w so r (.returned (.tuple #[so,.slice ro m rc,.bool true])) w':=by
 subst h;subst hm;exact⟨⟨ro,rc,rfl,ho⟩,hb⟩
theorem Zga {ns:List (List Nat)} {most:Int} (h:Zc0 ns most=true):Zkd ns∧ns.length≤16∧(∀ s∈ns,Zbq s=true)∧0≤most∧most≤65535:=by
 unfold Zc0 at h
 simp only[Bool.and_eq_true,decide_eq_true_eq,List.all_eq_true] at h
 exact⟨(Zkn ns).1 h.2.2,h.1.1,h.2.1,h.1.2.1,h.1.2.2⟩
theorem Z39 {ns:List (List Nat)} {most:Int} {ps:List Prd} {i:Nat} {p:Prd} (h:ps[i]?=some p) (hp:okA ns p=false):Zia ns most ps=none:=by
 unfold Zia
 rw[if_neg]
 rw[Bool.and_eq_true,List.all_eq_true]
 rintro⟨-,h2⟩
 have:=h2 p (List.mem_of_getElem? h)
 rw[hp] at this
 cases this
theorem Zzr {ns:List (List Nat)} {most:Int} {ps:List Prd} (hg:Zc0 ns most=true) (h:∀ p∈ps,okA ns p=true):Zia ns most ps=some (Zcq ns most (ps.map Zo2)):=by
 unfold Zia
 rw[if_pos]
 rw[Bool.and_eq_true,List.all_eq_true]
 exact⟨hg,h⟩
end
section
open Go.RowKit Go.Sort
theorem Z7f (p:Prd):kyC (Zo2 p)=Zq8 p.l p.r p.c:=rfl
def Z9w:List Value:=[.slice none 0 0,.int .i64 0]
theorem Zcr.below {w w':World} {P:Nat→Prop} {l:List Prd} {ao:Option Addr} (h:Zcr w P l ao) (hb:Below w.heap.size w w'):Zcr w' P l ao:=by
 rcases h with h | ⟨g,off,h1,h2,h3,h4⟩
 ·exact .inl h
 ·exact .inr ⟨g,off,h1,h2,Nat.lt_of_lt_of_le h3 hb.size,Za4.keep (fun g _ hg=>hb.block g hg) hb.size (fun g hg _=>hg) l g off h2 h3 h4⟩
theorem Zcr.at {w:World} {P:Nat→Prop} {l:List Prd} {ao:Option Addr} (h:Zcr w P l ao) (i:Nat) (p:Prd) (hp:l[i]?=some p):∃ g off vs,ao=some ⟨g,off,none⟩∧g<w.heap.size∧Zai w P p vs∧Za2 w g (off+i*5) vs:=by
 rcases h with h | ⟨g,off,h1,h2,h3,h4⟩
 ·rw[h] at hp;simp at hp
 ·obtain⟨vs,hv1,hv2⟩:=Za4.at l g off i p hp h4
  exact⟨g,off,vs,h1,h3,hv1,hv2⟩
theorem Zui (w:World) (P:Nat→Prop) (ps:List Prd) (po:Option Addr) (pn pc:Nat) (ao:Option Addr) (n cp:Nat) (most:Int) (ns:List (List Nat)) (B:Nat) (hT:Tab w B) (hps:Zcr w P ps po) (hpn:pn=ps.length) (hpb:∀ p∈ps,Zhu p) (hpl:pn≤10000)
  (hn:n=ns.length) (h:Zcm w ao ns) (hb:∀ s∈ns,NmB s) (hbig:n≤1000) :
  Calls Tryz.prog 114 #[.slice po pn pc,.slice ao n cp,.int .i64 most] w fun e w'=>Zkg w (.agg #[.slice ao n cp,.int .i64 most]) (Zia ns most ps) e w':=by
 have HT:=ħ (fun W (hW:Below w.heap.size w W)=>Tab.keep hT (fun k hk=>hW.block k (Nat.lt_of_lt_of_le hk hT.size)) hW.size)
 have HGV:=ħ (fun W (hW:Below w.heap.size w W)=>Zql ns most ao n cp W B (HT.o W hW) hn (h.below hW) hb (by omega))
 have HIX:=ħ (fun (hg:Zc0 ns most=true) W (hW:Below w.heap.size w W) x (hx:NmB x)=>Zix W ao n cp most ns x hn (h.below hW) hb hx (Zga hg).1 (by omega))
 have HCN:=ħ (fun (hg:Zc0 ns most=true) W (hW:Below w.heap.size w W) al nl cl ks hkr hnl hk hkb hnb=>Zug W ao n cp most ns al nl cl ks hn (h.below hW) hb (Zga hg).1 (by omega) hkr hnl hk hkb hnb)
 have HVA:=ħ (fun κ l r c xo xn xc W (hW:Below w.heap.size w W) hl hr=>Zqb κ l r c xo xn xc W B (HT.o W hW) hl hr)
 have HPS:=ħ hps
 have HPN:=ħ hpn
 have HPB:=ħ hpb
 have HBAD:=ħ (fun i p h1 h2=>Z39 (ns:=ns) (most:=most) (ps:=ps) (i:=i) (p:=p) h1 h2)
 have HGOOD:=ħ (fun h1 h2=>Zzr (ns:=ns) (most:=most) (ps:=ps) h1 h2)
 have HNG:Hid (Zc0 ns most=false→Zia ns most ps=none):=ħ (fun h=>by unfold Zia;rw[h];rfl)
 have bx:=((Below.refl w.heap.size w).alloc (Nat.le_refl _) (.cells #[.slice none 0 0,.int .i64 0] 139)).alloc (by simp) (.cells #[.slice ao n cp,.int .i64 most] 139)
 have B1:=ħ bx
 have Z1:Hid (Zah ((w.alloc (.cells #[.slice none 0 0,.int .i64 0] 139)).alloc (.cells #[.slice ao n cp,.int .i64 most] 139)) w.heap.size 139 Z9w):=ħ (Zar w _ _)
 have X1:Hid (Zah ((w.alloc (.cells #[.slice none 0 0,.int .i64 0] 139)).alloc (.cells #[.slice ao n cp,.int .i64 most] 139)) (w.heap.size+1) 139 [.slice ao n cp,.int .i64 most]):=ħ (heap_alloc2_new w _ _)
 clear bx h hb hn hT hps hpn hpb
 obtain⟨RR,hRR⟩:∃ R,Zia ns most ps=R:=⟨_,rfl⟩
 rw[hRR] at HBAD HGOOD HNG ⊢
 clear hRR
 obtain⟨gb,hgb⟩:∃ b,Zc0 ns most=b:=⟨_,rfl⟩
 rw[hgb] at HGV HIX HCN HGOOD HNG
 clear hgb
 go_enter Tryz.func114,Tryz.ntmps114
 go_upto_region 2 with (fail)
 generalize (w.alloc (.cells #[.slice none 0 0,.int .i64 0] 139)).alloc (.cells #[.slice ao n cp,.int .i64 most] 139)=w1 at *
 obtain⟨A,hA⟩:∃ A,w.heap.size+1=A:=⟨_,rfl⟩
 rw[hA] at X1 ⊢
 have HA:Hid (A=w.heap.size+1):=ħ hA.symm
 clear hA
 go_wp2_with fail
 refine (HGV.o w1 B1.o).mono ?_
 rintro e w2 ⟨rfl,b2⟩
 have B2:=ħ (B1.o.trans (b2.mono B1.o.size))
 have Z2:=ħ (Z1.o.step b2)
 have X2:=ħ (X1.o.step b2)
 clear b2 B1 Z1 X1 HGV
 cases gb with
 | false =>
  have HNO:=ħ (HNG.o rfl)
  have x0:=X2.o.cell 0 _ rfl
  have x1:=X2.o.cell 1 _ rfl
  go_wp2_with (refine Zab rfl 139 (.tmp 6) (.tmp 20) rfl w.heap.size #[.slice ao n cp,.int .i64 most] ?s1 ?s2 139 _ Z2.o (Zfc _ _) rfl (by simp[Value.oneCell']) ?_;(case s1=>rfl);(case s2=>rfl);intro w9 s9 u9;have S9:=ħ s9;have U9:=ħ u9;clear s9 u9)
  exact bodyPost_ret (Zam (p:=6) (u:=7) (v:=8) (by kernel_rfl) _ _ w.heap.size 139 _ (0,0) _ rfl S9.o Tryz.underlying139 rfl (Zfc _ _)) rfl (Zkg.no HNO.o (U9.o.below B2.o (Nat.le_refl _)))
 | true =>
  have HI:=ħ (HIX.o rfl)
  have HC:=ħ (HCN.o rfl)
  have HG:=ħ (HGOOD.o rfl)
  clear HIX HCN HGOOD HNG
  go_wp2_with fail
  go_loopw [10,23] (fun o cc wr=>∃ (i:Nat) (ro:Option Addr) (rc:Nat),cc = .int .i64 i∧i≤pn∧o = .slice ro i rc∧Hid (∀ j p,j<i→ps[j]?=some p→okA ns p=true)∧Hid (OwnK wr (A+1) 3 i rc (((ps.take i).map Zo2).flatMap kyC) ro)∧Hid (Zah wr w.heap.size 139 Z9w)∧Hid (Zah wr A 139 [.slice ao n cp,.int .i64 most])∧Hid (Below w.heap.size w wr)) (fun o c _=>(pn-intOf c).toNat)
  case atStart=>exact⟨0,none,0,rfl,by omega,rfl,ħ (fun j p hj=>absurd hj (Nat.not_lt_zero _)),ħ (.nil (by simp) rfl rfl),Z2,X2,B2⟩
  case round =>
   clear B2 Z2 X2
   obtain⟨i,ro,rc,rfl,hi,rfl,hok,ho,hz,hx,hw⟩:=hrel
   have e2:IntKind.i64.wrap ((i:Int)+1)=((i+1:Nat):Int):=IntWalk.i64_in _ (by omega)
   by_cases hlt:i<pn
   ·have ii:(i:Int)<pn:=by omega
    obtain⟨p,hp⟩:∃ p,ps[i]?=some p:=⟨_,List.getElem?_eq_getElem (by rw[← HPN.o];exact hlt)⟩
    obtain⟨g,off,vs,hao,hg,hpc,hrd⟩:=(HPS.o.below hw.o).at i p hp
    have HAO:=ħ hao
    subst hao
    obtain⟨xa,xn,xc,hvf,hxn⟩:=hpc.form
    rw[hvf] at hrd
    have r0:=hrd 0 _ rfl
    have r1:=hrd 1 _ rfl
    have r2:=hrd 2 _ rfl
    have r3:=hrd 3 _ rfl
    have r4:=hrd 4 _ rfl
    rw[Nat.add_zero] at r0
    obtain⟨⟨hlb,hll⟩,⟨hrb,hrl⟩⟩:NmB p.l∧NmB p.r:=by
     have:=HPB.o p (List.mem_of_getElem? hp)
     cases p with
     | mk k l r c ks=>unfold Zhu at this;exact⟨this.1,this.2.1⟩
    have HLB:Hid (NmB p.l):=ħ ⟨hlb,hll⟩
    have HRB:Hid (NmB p.r):=ħ ⟨hrb,hrl⟩
    have HBD:Hid (okA ns p=false→RR=none):=ħ (fun h=>HBAD.o i p hp h)
    have HOK:Hid (okA ns p=(Zg8 p.k p.l p.r p.c xn&&(Zfg ns p.l&&Zfg ns p.r))):=ħ (by rw[hxn];rfl)
    have HPI:=ħ hp
    have KO:=ħ (fun W=>Zjc p.k p.l p.r p.c (.slice xa xn xc) rfl W)
    have HVV:=ħ (fun W hW=>HVA.o p.k p.l p.r p.c xa xn xc W hW HLB.o HRB.o)
    have HI1:=ħ (fun W hW=>HI.o W hW p.l HLB.o)
    have HI2:=ħ (fun W hW=>HI.o W hW p.r HRB.o)
    have HN1:=ħ (Zko (ns:=ns) (s:=p.l))
    have HN2:=ħ (Zko (ns:=ns) (s:=p.r))
    have HTK:Hid (((ps.take i).map Zo2).flatMap kyC++Zq8 p.l p.r p.c=((ps.take (i+1)).map Zo2).flatMap kyC):=ħ (by rw[← Z7f,Zha,List.take_add_one,hp];simp)
    have HKL:Hid ((Zq8 p.l p.r p.c).length=3):=ħ rfl
    have HK1:Hid (∀ u∈Zq8 p.l p.r p.c,u.oneCell'=true):=ħ (Zry (Zo2 p))
    clear hrd hpc hvf hp hg hlb hll hrb hrl hxn
    have HOKP:Hid (∀ b,okA ns p=b→okA ns p=b):=ħ (fun b h=>h)
    obtain⟨okp,hokp⟩:∃ b,okA ns p=b:=⟨_,rfl⟩
    have HOKE:=ħ hokp
    rw[hokp] at HOK HBD
    clear hokp HOKP
    generalize Zg8 p.k p.l p.r p.c xn=vb at *
    generalize Zfg ns p.l=kl at *
    generalize Zfg ns p.r=kr at *
    generalize Zh8 ns p.l=il at *
    generalize Zh8 ns p.r=ir at *
    generalize Zq8 p.l p.r p.c=kv at *
    generalize p.k=q0 at *
    generalize Zad p.l=q1 at *
    generalize Zad p.r=q2 at *
    generalize p.c=q3 at *
    go_upto_region 8 with (fail)
    have bx:=(Below.refl wr.heap.size wr).alloc (Nat.le_refl _) (.cells #[.int .i64 q0,.string q1,.string q2,.int .i64 q3,.slice xa xn xc] 25)
    have XP:Hid (Zah (wr.alloc (.cells #[.int .i64 q0,.string q1,.string q2,.int .i64 q3,.slice xa xn xc] 25)) wr.heap.size 25 [.int .i64 q0,.string q1,.string q2,.int .i64 q3,.slice xa xn xc]):=ħ (heap_alloc_new _ _)
    have Z3:=ħ (hz.o.step bx)
    have X3:=ħ (hx.o.step bx)
    have O3:=ħ (ho.o.below bx)
    have B3:=ħ (hw.o.trans (bx.mono hw.o.size))
    clear bx hz hx ho hw r0 r1 r2 r3 r4
    generalize wr.alloc (.cells #[.int .i64 q0,.string q1,.string q2,.int .i64 q3,.slice xa xn xc] 25)=w3 at *
    generalize wr.heap.size=PA at *
    go_wp2_with (refine wpList_load_row rfl 25 (.tmp 12) rfl PA ?la1 25 #[.int .i64 q0,.string q1,.string q2,.int .i64 q3,.slice xa xn xc] (0,0) _ XP.o Tryz.underlying25 rfl (Zae _ rfl) ?_;(case la1=>rfl))
    refine (HVV.o w3 B3.o).mono ?_
    rintro e w4 ⟨rfl,b4⟩
    have B4:=ħ (B3.o.trans (b4.mono B3.o.size))
    have Z4:=ħ (Z3.o.step b4)
    have X4:=ħ (X3.o.step b4)
    have XP4:=ħ (XP.o.step b4)
    have O4:=ħ (O3.o.below b4)
    clear b4 B3 Z3 X3 XP O3 HVV
    have x0:=X4.o.cell 0 _ rfl
    have x1:=X4.o.cell 1 _ rfl
    have p1:=XP4.o.cell 1 _ rfl
    cases vb with
    | false =>
     have HNO:=ħ (HBD.o (by rw[HOK.o];rfl))
     clear p1 HBD HOK
     go_wp2_with (refine Zab rfl 139 (.tmp 6) (.tmp 44) rfl w.heap.size #[.slice ao n cp,.int .i64 most] ?s1 ?s2 139 _ Z4.o (Zfc _ _) rfl (by simp[Value.oneCell']) ?_;(case s1=>rfl);(case s2=>rfl);intro w9 s9 u9;have S9:=ħ s9;have U9:=ħ u9;clear s9 u9)
     exact bodyPost_ret (Zam (p:=6) (u:=7) (v:=8) (by kernel_rfl) _ _ w.heap.size 139 _ (0,0) _ rfl S9.o Tryz.underlying139 rfl (Zfc _ _)) rfl (Zkg.no HNO.o (U9.o.below B4.o (Nat.le_refl _)))
    | true =>
     go_wp2_with fail
     refine (HI1.o w4 B4.o).mono ?_
     rintro e w5 ⟨rfl,b5⟩
     have B5:=ħ (B4.o.trans (b5.mono B4.o.size))
     have Z5:=ħ (Z4.o.step b5)
     have X5:=ħ (X4.o.step b5)
     have XP5:=ħ (XP4.o.step b5)
     have O5:=ħ (O4.o.below b5)
     clear b5 B4 Z4 X4 XP4 O4 HI1 x0 x1 p1
     have x0:=X5.o.cell 0 _ rfl
     have x1:=X5.o.cell 1 _ rfl
     have p2:=XP5.o.cell 2 _ rfl
     by_cases hil:il<0
     ·have HNO:=ħ (HBD.o (by rw[HOK.o,HN1.o.1 hil];simp))
      clear p2 HBD HOK
      go_wp2_with (refine Zab rfl 139 (.tmp 6) (.tmp 44) rfl w.heap.size #[.slice ao n cp,.int .i64 most] ?s1 ?s2 139 _ Z5.o (Zfc _ _) rfl (by simp[Value.oneCell']) ?_;(case s1=>rfl);(case s2=>rfl);intro w9 s9 u9;have S9:=ħ s9;have U9:=ħ u9;clear s9 u9)
      exact bodyPost_ret (Zam (p:=6) (u:=7) (v:=8) (by kernel_rfl) _ _ w.heap.size 139 _ (0,0) _ rfl S9.o Tryz.underlying139 rfl (Zfc _ _)) rfl (Zkg.no HNO.o (U9.o.below B5.o (Nat.le_refl _)))
     ·go_wp2_with fail
      refine (HI2.o w5 B5.o).mono ?_
      rintro e w6 ⟨rfl,b6⟩
      have B6:=ħ (B5.o.trans (b6.mono B5.o.size))
      have Z6:=ħ (Z5.o.step b6)
      have X6:=ħ (X5.o.step b6)
      have XP6:=ħ (XP5.o.step b6)
      have O6:=ħ (O5.o.below b6)
      clear b6 B5 Z5 X5 XP5 O5 HI2 x0 x1 p2
      by_cases hir:ir<0
      ·have HNO:=ħ (HBD.o (by rw[HOK.o,HN2.o.1 hir];simp))
       have x0:=X6.o.cell 0 _ rfl
       have x1:=X6.o.cell 1 _ rfl
       clear HBD HOK
       go_wp2_with (refine Zab rfl 139 (.tmp 6) (.tmp 44) rfl w.heap.size #[.slice ao n cp,.int .i64 most] ?s1 ?s2 139 _ Z6.o (Zfc _ _) rfl (by simp[Value.oneCell']) ?_;(case s1=>rfl);(case s2=>rfl);intro w9 s9 u9;have S9:=ħ s9;have U9:=ħ u9;clear s9 u9)
       exact bodyPost_ret (Zam (p:=6) (u:=7) (v:=8) (by kernel_rfl) _ _ w.heap.size 139 _ (0,0) _ rfl S9.o Tryz.underlying139 rfl (Zfc _ _)) rfl (Zkg.no HNO.o (U9.o.below B6.o (Nat.le_refl _)))
      ·have HOK2:Hid (okp=true):=ħ (by
        rw[HOK.o]
        cases kl with
        | false=>(have:=HN1.o.2 rfl;omega)
        | true=>cases kr with
         | false=>(have:=HN2.o.2 rfl;omega)
         | true=>rfl)
       have HOKP:Hid (okA ns p=true):=ħ (HOKE.o.trans HOK2.o)
       clear HBD HOK
       go_upto_region 10 with (fail)
       go_wp2_with (refine wpList_load_row rfl 25 (.tmp 12) rfl PA ?la2 25 #[.int .i64 q0,.string q1,.string q2,.int .i64 q3,.slice xa xn xc] (0,0) _ XP6.o Tryz.underlying25 rfl (Zae _ rfl) ?_;(case la2=>rfl))
       refine (KO.o w6).mono ?_
       rintro e w7 ⟨rfl,b7⟩
       have B7:=ħ (B6.o.trans (b7.mono B6.o.size))
       have Z7:=ħ (Z6.o.step b7)
       have X7:=ħ (X6.o.step b7)
       have O7:=ħ (O6.o.below b7)
       clear b7 B6 Z6 X6 XP6 O6 KO
       have hkl3:=HKL.o
       match kv,hkl3 with
       | [k0,k1,k2],_ =>
       go_wp2_with (at_builtin;refine Zff 120 123 Z8n 3 40 Tryz.underlying120 Zin rfl (by omega) (by omega) w7 (A+1) rfl (.tmp 45) (.tmp 48) rfl ro rc i (((ps.take i).map Zo2).flatMap kyC) ?q1 O7.o X7.o.lt 1 1 #[k0,k1,k2] 123 ?q2 rfl (by omega) HK1.o ?q4 ?_;(case q1=>rfl);(case q2=>rfl);(case q4=>omega);intro g5 off5 c5 wa o8 gr8 b8 or8;have O8:=ħ o8;have B8:=ħ b8;clear o8 gr8 b8 or8)
       have X9:=ħ (X7.o.below B8.o (Nat.lt_succ_self _))
       have Z9:=ħ (Z7.o.below B8.o (by have:=HA.o;omega))
       have B9:=ħ (B7.o.trans (B8.o.mono (by have:=HA.o;omega)))
       clear X7 Z7 B7 O7 B8
       go_roundw
       case rel=>exact⟨i+1,some ⟨g5,off5,none⟩,c5,by go_num,by omega,rfl,ħ (fun j p' hj hp'=>by
        rcases Nat.lt_succ_iff_lt_or_eq.1 hj with h1 | rfl
        ·exact hok.o j p' h1 hp'
        ·rw[HPI.o] at hp';cases hp';exact HOKP.o),ħ (by rw[← HTK.o];exact O8.o),Z9,X9,B9⟩
       case measure=>simp only[intOf];omega
   ·obtain rfl:i=pn:=by omega
    have ii:¬ ((i:Int)<(i:Int)):=by omega
    have HRD:=ħ (HG.o (fun p hp=>by
     obtain⟨j,hj⟩:=List.mem_iff_getElem?.1 hp
     exact hok.o j p (by have:=(List.getElem?_eq_some_iff.1 hj).1;have:=HPN.o;omega) hj))
    have HKN:Hid (Ziq ns (ps.map Zo2)∧∀ k∈ps.map Zo2,NmB k.l∧NmB k.r):=ħ ⟨fun k hk=>by
     obtain⟨p,hp,rfl⟩:=List.mem_map.1 hk
     obtain⟨j,hj⟩:=List.mem_iff_getElem?.1 hp
     have:=hok.o j p (by have:=(List.getElem?_eq_some_iff.1 hj).1;have:=HPN.o;omega) hj
     unfold okA at this
     rw[Bool.and_eq_true,Bool.and_eq_true] at this
     exact this.2,fun k hk=>by
     obtain⟨p,hp,rfl⟩:=List.mem_map.1 hk
     have:=HPB.o p hp
     cases p with
     | mk k l r c ks=>unfold Zhu at this;exact⟨this.1,this.2.1⟩⟩
    have HLN:Hid (i=(ps.map Zo2).length):=ħ (by rw[List.length_map];exact HPN.o)
    have HFL:Hid (OwnK wr (A+1) 3 i rc ((ps.map Zo2).flatMap kyC) ro):=ħ (by have:=ho.o;rwa [List.take_of_length_le (by rw[← HPN.o];exact Nat.le_refl _)] at this)
    have HCC:=ħ (fun W (hW:Below w.heap.size w W) (hb:Below wr.heap.size wr W)=>HC.o W hW ro i rc (ps.map Zo2) ((HFL.o.flatR (fun _=>rfl) HLN.o).below hb) HLN.o HKN.o.1 HKN.o.2 (by omega))
    generalize Zcq ns most (ps.map Zo2)=CS at *
    clear HC HG hok ho HKN HFL
    go_upto_region 12 with (fail)
    refine Zav [0,1,2] [3,4,5,6] (fun w'=>Zah w' A 139 [.slice ao n cp,.int .i64 most]) (by kernel_rfl) (by kernel_rfl) (by kernel_rfl) (fun _ _ d _ _ h=>by cases d<;>exact h) (hx.o.step (Below.refl _ _).drew) ?_
    simp only[Zb1,List.filterMap_cons,List.filterMap_nil,List.getElem?_cons_zero,List.getElem?_cons_succ,Option.map_some,List.map_cons,List.map_nil]
    apply Exists.intro
    refine⟨?hh,?ht⟩
    case hh =>
     intro w' hw'
     have x0:=hw'.cell 0 _ rfl
     have x1:=hw'.cell 1 _ rfl
     repeat still_step
     exact wpStill_nil rfl
    case ht =>
     have BD:=ħ (Below.refl wr.heap.size wr).drew
     have Bd:=ħ (hw.o.trans (BD.o.mono hw.o.size))
     have Xd:=ħ (hx.o.step BD.o)
     have Zd:=ħ (hz.o.step BD.o)
     have HCD:=ħ (HCC.o wr.drew Bd.o BD.o)
     generalize hwd:wr.drew=wd at *
     clear hwd hx hz hw HCC BD
     refine Zaf ?_
     go_wp2_with fail
     refine HCD.o.mono ?_
     rintro e w7 ⟨⟨r2,c2,rfl,ho7⟩,b7⟩
     have B7:=ħ (Bd.o.trans (b7.mono Bd.o.size))
     have Z7:=ħ (Zd.o.step b7)
     have X7:=ħ (Xd.o.step b7)
     have O7:=ħ ho7
     have LE7:Hid (w.heap.size≤wd.heap.size):=ħ Bd.o.size
     have LT7:Hid (w.heap.size<wd.heap.size):=ħ Zd.o.lt
     clear b7 ho7 HCD Bd Zd Xd
     go_wp2_with fail
     refine Zaa ⟨X7.o,?_⟩
     refine Zaf ?_
     go_wp2_with (refine Zab rfl 139 (.tmp 6) (.tmp 51) rfl w.heap.size #[.slice ao n cp,.int .i64 most] ?s1 ?s2 139 _ Z7.o (Zfc _ _) rfl (by simp[Value.oneCell']) ?_;(case s1=>rfl);(case s2=>rfl);intro w9 s9 u9;have S9:=ħ s9;have U9:=ħ u9;clear s9 u9)
     have X9:=ħ (X7.o.upd U9.o (by have:=HA.o;omega))
     have O9:=ħ ((O7.o.lower LE7.o).upd U9.o (fun e=>by have:=(O7.o.blk_lt e).1;have:=LT7.o;omega))
     refine Zaa ⟨X9.o,?_⟩
     refine Zaf ?_
     go_wp2_with fail
     refine Zaa ⟨X9.o,?_⟩
     refine Zay ?_
     go_wp2_with fail
     exact bodyPost_ret (Zam (p:=6) (u:=7) (v:=8) (by kernel_rfl) _ _ w.heap.size 139 _ (0,0) _ rfl S9.o Tryz.underlying139 rfl (Zfc _ _)) rfl (Zkg.yes HRD.o rfl O9.o (U9.o.below B7.o (Nat.le_refl _)))
end
section
open Go.RowKit Go.Sort
theorem Z7g {κ:Int} {l r:List Nat} {c:Int} {n:Nat} (h:Zg8 κ l r c n=true):-1099511627776≤c∧c<1099511627776:=by
 unfold Zg8 at h
 simp only[Bool.and_eq_true,decide_eq_true_eq] at h
 exact h.2.2.2.2
theorem Zuj {ns:List (List Nat)} {most:Int} {ps:List Prd} {cs:List Con} (h:Zia ns most ps=some cs):Zc0 ns most=true∧(∀ p∈ps,okA ns p=true)∧Ziq ns (ps.map Zo2)∧cs=Zcq ns most (ps.map Zo2)∧InC (ns.length+1) cs∧Z8t cs∧cs.length=ps.length+2*ns.length:=by
 unfold Zia at h
 by_cases hb:(Zc0 ns most&&ps.all (okA ns))=true
 ·rw[if_pos hb] at h
  cases h
  rw[Bool.and_eq_true,List.all_eq_true] at hb
  have hk:Ziq ns (ps.map Zo2):=fun k hk=>by
   obtain⟨p,hp,rfl⟩:=List.mem_map.1 hk
   have:=hb.2 p hp
   unfold okA at this
   rw[Bool.and_eq_true,Bool.and_eq_true] at this
   exact this.2
  refine⟨hb.1,hb.2,hk,rfl,Zfo hk most,fun c hc=>?_,by unfold Zcq;rw[List.length_append,List.length_map,List.length_map,Zhs]⟩
  unfold Zcq at hc
  rcases List.mem_append.1 hc with hc | hc
  ·obtain⟨k,hk,rfl⟩:=List.mem_map.1 hc
   obtain⟨p,hp,rfl⟩:=List.mem_map.1 hk
   have h1:=hb.2 p hp
   unfold okA at h1
   rw[Bool.and_eq_true] at h1
   have h2:=Z7g h1.1
   have h3:(Zgl ns (Zo2 p)).c=p.c:=rfl
   omega
  ·obtain⟨-,-,-,h0,h1⟩:=Zga hb.1
   obtain⟨i,hi,h2 | h2⟩:=(Zd1 most c ns.length).1 hc
   ·subst h2;simp only;omega
   ·subst h2;simp only;omega
 ·rw[if_neg hb] at h;cases h
def Ziy (w:World) (ns:List (List Nat)) (r:Option (List Int)) (e:Ending) (w':World):Prop :=
 (match r with
  | none=>e = .returned (.tuple #[.slice none 0 0,.bool false])
  | some v=>∃ ro rc,e = .returned (.tuple #[.slice ro ns.length rc,.bool true])∧OwnK w' w.heap.size 2 ns.length rc ((Zfd ns v).flatMap Zfb) ro)∧Below w.heap.size w w'
theorem Ziy.no {w w':World} {ns:List (List Nat)} {r:Option (List Int)} (h:r=none) (hb:Below w.heap.size w w'):Ziy w ns r (.returned (.tuple #[.slice none 0 0,.bool false])) w':=by
 subst h;exact⟨rfl,hb⟩
theorem Ziy.yes {w w':World} {ns:List (List Nat)} {r:Option (List Int)} {v:List Int} {ro:Option Addr} {n rc:Nat} (h:r=some v) (hn:n=ns.length) (ho:OwnK w' w.heap.size 2 n rc ((Zfd ns v).flatMap Zfb) ro) (hb:Below w.heap.size w w'):Ziy w ns r (.returned (.tuple #[.slice ro n rc,.bool true])) w':=by
 subst h;subst hn;exact⟨⟨ro,rc,rfl,ho⟩,hb⟩
theorem Zgt.open {w w':World} {N:Nat} {r:Option (List Int)} {e:Ending} (h:Zgt w N r e w'):(r=none∧e = .returned (.tuple #[.slice none 0 0,.bool false])∧Below w.heap.size w w')∨(∃ v V,r=some v∧e = .returned (.tuple #[.slice (some ⟨V,0,none⟩) N N,.bool true])∧Zah w' V 3 (ivs v)∧w.heap.size≤V∧Below w.heap.size w w'):=by
 obtain⟨h1,h2⟩:=h
 cases r with
 | none=>exact .inl ⟨rfl,h1,h2⟩
 | some v=>obtain⟨V,h3,h4,h5⟩:=h1;exact .inr ⟨v,V,rfl,h3,h4,h5,h2⟩
theorem Zkg.open {w w':World} {so:Value} {r:Option (List Con)} {e:Ending} (h:Zkg w so r e w'):(r=none∧e = .returned (.tuple #[so,.slice none 0 0,.bool false])∧Below w.heap.size w w')∨(∃ cs ro rc,r=some cs∧e = .returned (.tuple #[so,.slice ro cs.length rc,.bool true])∧OwnK w' w.heap.size 3 cs.length rc (cs.flatMap Zjs) ro∧Below w.heap.size w w'):=by
 obtain⟨h1,h2⟩:=h
 cases r with
 | none=>exact .inl ⟨rfl,h1,h2⟩
 | some v=>obtain⟨ro,rc,h3,h4⟩:=h1;exact .inr ⟨v,ro,rc,rfl,h3,h4,h2⟩
end
section
open Go.RowKit Go.Sort Go.Maps
theorem Zuk (k:Ky) (hc:inC k.c=true) (w:World):Calls Tryz.prog 155 #[.agg (kyC k).toArray] w fun e w'=>e = .returned (.agg (kyC (Zh6 k)).toArray)∧RowKit.Below w.heap.size w w':=by
 have h:=Zka k.l k.r k.c w
 rw[Zyf k.c hc] at h
 exact h
theorem Zqm (k:Ky) (hb:KyB k) (hc:inC k.c=true) (w:World):Calls Tryz.prog 181 #[.agg (kyC k).toArray] w fun e w'=>e = .returned (.tuple #[.agg (kyC (Zeq k).1).toArray,.bool (Zeq k).2])∧RowKit.Below w.heap.size w w':=by
 have HO:=ħ (fun W=>Zuk k hc W)
 have hl:=Ze5 k.r k.l hb.2 hb.1
 have HV:Hid (Zeq k=if ltL k.r k.l=true then (Zh6 k,false) else (k,true)):=ħ rfl
 have HK:Hid (kyC k=[.string (Zad k.l),.string (Zad k.r),.int .i64 k.c]):=ħ rfl
 have HK2:Hid (kyC (Zh6 k)=[.string (Zad k.r),.string (Zad k.l),.int .i64 (-k.c-1)]):=ħ rfl
 have bx:=((RowKit.Below.refl w.heap.size w).alloc (Nat.le_refl _) (.cells (kyC k).toArray 123)).alloc (by simp) (.cells #[.string ⟨#[]⟩,.string ⟨#[]⟩,.int .i64 0] 123)
 have B1:=ħ bx
 have X1:Hid (Zah ((w.alloc (.cells (kyC k).toArray 123)).alloc (.cells #[.string ⟨#[]⟩,.string ⟨#[]⟩,.int .i64 0] 123)) w.heap.size 123 (kyC k)):=ħ (Zar w _ _)
 have Z1:Hid (Zah ((w.alloc (.cells (kyC k).toArray 123)).alloc (.cells #[.string ⟨#[]⟩,.string ⟨#[]⟩,.int .i64 0] 123)) (w.heap.size+1) 123 [.string ⟨#[]⟩,.string ⟨#[]⟩,.int .i64 0]):=ħ (heap_alloc2_new w _ _)
 rw[HK.o] at B1 X1 Z1 HO
 clear bx hc
 have hl2:=Ze5 k.l k.r hb.1 hb.2
 have hir:=Ze5 k.r k.r hb.2 hb.2
 rw[Za3] at hir
 obtain⟨b,hbv⟩:∃ b,ltL k.r k.l=b:=⟨_,rfl⟩
 have hcs:if b=true then Op.bytesLess (Zad k.l).toList (Zad k.r).toList=false∧((Zad k.l).toList==(Zad k.r).toList)=false else Op.bytesLess (Zad k.l).toList (Zad k.r).toList=true∨((Zad k.l).toList==(Zad k.r).toList)=true:=by
  cases b with
  | true =>
   rw[if_pos rfl]
   constructor
   ·rw[hl2]
    cases h3:ltL k.l k.r with
    | false=>rfl
    | true=>have:=Zc3 _ _ _ hbv h3;rw[Za3] at this;cases this
   ·cases h3:((Zad k.l).toList==(Zad k.r).toList) with
    | false=>rfl
    | true=>have:=eq_of_beq h3;rw[hbv,this,hir] at hl;cases hl
  | false =>
   rw[if_neg (by simp)]
   rcases Zd9 k.l k.r with h | h | h
   ·exact .inl (hl2.trans h)
   ·refine .inr ?_;rw[h];exact beq_self_eq_true _
   ·rw[hbv] at h;cases h
 rw[hbv] at hl HV
 clear hbv hl2 hir
 cases b with
 | true =>
  rw[if_pos rfl] at hcs
  obtain⟨hc1,hc2⟩:=hcs
  have HV2:Hid (Zeq k=(Zh6 k,false)):=ħ HV.o
  rw[HV2.o,HK.o]
  rw[HK2.o] at HO ⊢
  clear HK HV HV2 HK2 hb
  generalize Zad k.l=y1 at *
  generalize Zad k.r=y2 at *
  generalize -k.c-1=y4 at *
  generalize k.c=y3 at *
  go_enter Tryz.func181,Tryz.ntmps181
  go_upto_region 1 with (fail)
  generalize (w.alloc (.cells #[.string y1,.string y2,.int .i64 y3] 123)).alloc (.cells #[.string ⟨#[]⟩,.string ⟨#[]⟩,.int .i64 0] 123)=w1 at *
  have x0:=X1.o.cell 0 _ rfl
  have x1:=X1.o.cell 1 _ rfl
  have x2:=X1.o.cell 2 _ rfl
  go_wp2_with fail
  refine (HO.o w1).mono ?_
  rintro e w2 ⟨rfl,b2⟩
  have B2:=ħ (B1.o.trans (b2.mono B1.o.size))
  have Z2:=ħ (Z1.o.step b2)
  clear b2 x0 x1 x2
  go_wp2_with (refine Zab rfl 123 (.tmp 2) (.tmp 10) rfl (w.heap.size+1) #[.string y2,.string y1,.int .i64 y4] ?s1 ?s2 123 _ Z2.o (Zg6 _ rfl) rfl (by simp[Value.oneCell']) ?_;(case s1=>rfl);(case s2=>rfl);intro w9 s9 u9;have S9:=ħ s9;have U9:=ħ u9;clear s9 u9)
  exact bodyPost_ret (Zb3 (p:=2) (u:=3) (by kernel_rfl) _ _ (w.heap.size+1) 123 _ (0,0) _ rfl S9.o Tryz.underlying123 rfl (Zg6 _ rfl)) rfl ⟨rfl,U9.o.below B2.o (Nat.le_succ _)⟩
 | false =>
  rw[if_neg (by simp)] at hcs
  have HV2:Hid (Zeq k=(k,true)):=ħ HV.o
  rw[HV2.o,HK.o]
  clear HK HV HV2 HK2 HO
  generalize Zad k.l=y1 at *
  generalize Zad k.r=y2 at *
  generalize k.c=y3 at *
  clear hb hl
  go_enter Tryz.func181,Tryz.ntmps181
  go_upto_region 1 with (fail)
  generalize (w.alloc (.cells #[.string y1,.string y2,.int .i64 y3] 123)).alloc (.cells #[.string ⟨#[]⟩,.string ⟨#[]⟩,.int .i64 0] 123)=w1 at *
  have x0:=X1.o.cell 0 _ rfl
  have x1:=X1.o.cell 1 _ rfl
  have x2:=X1.o.cell 2 _ rfl
  rcases hcs with hcs | hcs
  all_goals go_wp2_with (refine Zab rfl 123 (.tmp 2) (.tmp 11) rfl (w.heap.size+1) #[.string y1,.string y2,.int .i64 y3] ?s1 ?s2 123 _ Z1.o (Zg6 _ rfl) rfl (by simp[Value.oneCell']) ?_;(case s1=>rfl);(case s2=>rfl);intro w9 s9 u9;have S9:=ħ s9;have U9:=ħ u9;clear s9 u9)
  all_goals exact bodyPost_ret (Zb3 (p:=2) (u:=3) (by kernel_rfl) _ _ (w.heap.size+1) 123 _ (0,0) _ rfl S9.o Tryz.underlying123 rfl (Zg6 _ rfl)) rfl ⟨rfl,U9.o.below B1.o (Nat.le_succ _)⟩
def Zol (w:World) (b:Nat) (S:List Ky):Prop :=
 ∃ D:DataW Unit,w.ownsMap Tryz.prog 123 (plainElem Tryz.prog 4) b S.length D∧(∀ l,has D l=true↔∃ k∈S,Zcd k=l)∧(∀ k∈S,∀ zd,D.atKey (Zcd k) zd = .lit (.bool true))∧Maps.size D=(S.foldl Zny []).length
theorem Zol.setK {w:World} {b:Nat} {S:List Ky} (h:Zol w b S):Zhr w b S:=by
 obtain⟨D,h1,h2,h3,-⟩:=h
 exact⟨D,h1,h2,h3⟩
theorem Zol.step {w w':World} {b:Nat} {S:List Ky} (h:Zol w b S) (hb:RowKit.Below w.heap.size w w'):Zol w' b S:=by
 obtain⟨D,h1,h2⟩:=h
 exact⟨D,h1.kept (Zc7 hb none) (by simp),h2⟩
theorem Zol.nil (w:World):Zol (w.alloc (.map #[] 0)) w.heap.size []:=by
 refine⟨_,World.ownsMap_made w _ _ _,fun l=>?_,fun k hk=>absurd hk List.not_mem_nil,rfl⟩
 constructor
 ·intro h;cases h
 ·rintro⟨k,hk,_⟩;exact absurd hk List.not_mem_nil
theorem Zul (x:Ky):∀ l,Zo1 l→(Zny l x).length=if x∈l then l.length else l.length+1
 | [],_=>by simp[Zny]
 | y::ys,h=>by
  have h0:=List.pairwise_cons.1 h
  unfold Zny
  by_cases e:x=y
  ·subst e;rw[if_pos rfl,if_pos (by simp)]
  ·rw[if_neg e]
   by_cases h2:ltK x y=true
   ·rw[if_pos h2,if_neg]
    ·rfl
    ·intro hm
     rcases List.mem_cons.1 hm with e2 | hm
     ·exact e e2
     ·have:=Zgx _ _ _ h2 (h0.1 x hm)
      rw[Zdv] at this;cases this
   ·rw[if_neg h2,List.length_cons,Zul x ys h0.2]
    by_cases hm:x∈ys
    ·rw[if_pos hm,if_pos (List.mem_cons_of_mem _ hm)];rfl
    ·rw[if_neg hm,if_neg (fun h3=>by rcases List.mem_cons.1 h3 with e2 | h3;exact e e2;exact hm h3)];rfl
theorem Zol.put {w w':World} {b:Nat} {S:List Ky} {D:DataW Unit} (hS:∀ k∈S,KyOk k) (k:Ky) (hk:KyOk k) (h:w.ownsMap Tryz.prog 123 (plainElem Tryz.prog 4) b S.length D) (h1:∀ l,has D l=true↔∃ k∈S,Zcd k=l) (h2:∀ k∈S,∀ zd,D.atKey (Zcd k) zd = .lit (.bool true)) (h3:Maps.size D=(S.foldl Zny []).length)
  (h':w'.ownsMap Tryz.prog 123 (plainElem Tryz.prog 4) b (S.length+1) (D.put (Zcd k) (.lit (.bool true)))):Zol w' b (S++[k]):=by
 obtain⟨D',g1,g2,g3⟩:=Zhr.put hS k hk h h1 h2 h'
 refine⟨D.put (Zcd k) (.lit (.bool true)),by rw[List.length_append];exact h',?_,?_,?_⟩
 ·intro l
  have:=(Zhr.put hS k hk h h1 h2 h')
  by_cases he:l=Zcd k
  ·subst he
   rw[has_put_same h.isMap (Zg5 k hk)]
   exact⟨fun _=>⟨k,by simp,rfl⟩,fun _=>rfl⟩
  ·rw[has_put_other he,h1]
   constructor
   ·rintro⟨x,hx,hl⟩;exact⟨x,by simp[hx],hl⟩
   ·rintro⟨x,hx,hl⟩
    rcases List.mem_append.1 hx with hx | hx
    ·exact⟨x,hx,hl⟩
    ·rw[List.mem_singleton] at hx
     subst hx
     exact absurd hl.symm he
 ·intro x hx zd
  by_cases he:Zcd x=Zcd k
  ·rw[he,atKey_put_same h.isMap (Zg5 k hk)]
  ·rw[atKey_put_other he]
   rcases List.mem_append.1 hx with hx | hx
   ·exact h2 x hx zd
   ·rw[List.mem_singleton] at hx
    subst hx
    exact absurd rfl he
 ·rw[size_put (h.tidy Zpl),List.foldl_append,List.foldl_cons,List.foldl_nil,Zul k _ (Zgz S [] .nil),h3]
  have hm:has D (Zcd k)=true↔k∈S.foldl Zny []:=by
   rw[h1,Zgy]
   constructor
   ·rintro⟨x,hx,hl⟩
    have:=Zk9 x k (hS x hx) hk hl
    subst this
    exact .inr hx
   ·rintro (h4 | h4)
    ·cases h4
    ·exact⟨k,h4,rfl⟩
  by_cases hh:has D (Zcd k)=true
  ·rw[if_pos hh,if_pos (hm.1 hh)]
  ·rw[if_neg hh,if_neg (fun h4=>hh (hm.2 h4))]
end
section
open Go.RowKit Go.Sort Go.Maps
def Ziz (k:Ky):Prop:=Zji k.l=true∧Zji k.r=true∧inC k.c=true
mutual
theorem Zqn:∀ p:Prd,Zbk p=true→∀ k∈Zbx p,Ziz k
 | .mk k l r c ks,h=>by
  unfold Zbk at h
  unfold Zbx
  by_cases h0:k=0
  ·rw[if_pos h0] at h ⊢
   simp only[Bool.and_eq_true] at h
   have hk:ks=[]:=by simpa using h.1.1.1
   subst hk
   intro x hx
   rw[show Zby []=[] from rfl,List.append_nil,List.mem_singleton] at hx
   subst hx
   exact⟨h.1.1.2,h.1.2,h.2⟩
  ·rw[if_neg h0] at h ⊢
   simp only[Bool.and_eq_true] at h
   intro x hx
   rw[List.nil_append] at hx
   exact Znd ks h.2 x hx
theorem Znd:∀ ks:List Prd,Zeo ks=true→∀ k∈Zby ks,Ziz k
 | [],_=>by simp[Zby]
 | p::ps,h=>by
  unfold Zeo at h
  rw[Bool.and_eq_true] at h
  intro x hx
  unfold Zby at hx
  rcases List.mem_append.1 hx with hx | hx
  ·exact Zqn p h.1 x hx
  ·exact Znd ps h.2 x hx
end
theorem Ziz.ok {k:Ky} (h:Ziz k):KyOk k:=Z6y h.1 h.2.1 h.2.2
theorem Ziz.nmb {k:Ky} (h:Ziz k):NmB k.l∧NmB k.r:=by
 have h1:=Zjj h.1
 have h2:=Zjj h.2.1
 exact⟨⟨h1.1,by omega⟩,⟨h2.1,by omega⟩⟩
theorem Ziz.opp {k:Ky} (h:Ziz k):KyOk (Zh6 k):=by
 have h3:=h.2.2
 unfold inC at h3
 simp only[Bool.and_eq_true,decide_eq_true_eq] at h3
 have h4:=h.ok
 exact⟨h4.rb,h4.lb,h4.rl,h4.ll,by show _≤-k.c-1;omega,by show -k.c-1≤_;omega⟩
theorem Ziz.ori {k:Ky} (h:Ziz k):KyOk (Zeq k).1:=by
 unfold Zeq
 split
 ·exact h.opp
 ·exact h.ok
theorem Zgb {p:Prd} (h:Zap p=true):∀ k∈Zak p,Ziz k:=by
 unfold Zap at h
 rw[Bool.and_eq_true] at h
 exact fun k hk=>Zqn p h.2 k ((Zbc p k).1 hk)
theorem Zls {p:Prd} (h:Zap p=true):(Zak p).length≤100:=by
 unfold Zap Zd8 at h
 simp only[Bool.and_eq_true,decide_eq_true_eq] at h
 have h1:(Zak p).length≤(Zbx p).length:=Zhm _ _ ((Zew p).imp (fun {a b} hab e=>by subst e;rw[Zdv] at hab;cases hab)) (fun x hx=>(Zbc p x).1 hx)
 have:=Ze3 p
 omega
def Zgw (ks:List Ky):List Ky:=(ks.map (fun k=>(Zeq k).1)).filter (fun k=>!Zmf k)
theorem Zum (a b:List Ky):Zgw (a++b)=Zgw a++Zgw b:=by unfold Zgw;rw[List.map_append,List.filter_append]
theorem Z4a (k:Ky):Zgw [k]=if Zmf (Zeq k).1=true then [] else [(Zeq k).1]:=by
 unfold Zgw
 cases h:Zmf (Zeq k).1<;>simp[h]
theorem Zzs {ks:List Ky} {j:Nat} {k:Ky} (h:ks[j]?=some k):Zgw (ks.take (j+1))=Zgw (ks.take j)++Zgw [k]:=by
 obtain⟨hi,rfl⟩:=List.getElem?_eq_some_iff.1 h
 rw[List.take_add_one,List.getElem?_eq_getElem hi,Zum];rfl
theorem Zun (ks:List Ky):(Zgw ks).length≤ks.length:=by
 unfold Zgw
 exact Nat.le_trans (List.length_filter_le _ _) (by rw[List.length_map];exact Nat.le_refl _)
theorem Zzt {ks:List Ky} (h:∀ k∈ks,Ziz k):∀ k∈Zgw ks,KyOk k:=by
 intro k hk
 unfold Zgw at hk
 obtain⟨x,hx,rfl⟩:=List.mem_map.1 (List.mem_filter.1 hk).1
 exact (h x hx).ori
theorem Zzu (ps:List Prd):Zal ps=(Zgw (ps.flatMap Zak)).foldl Zny []:=rfl
theorem Zv2 (ps:List Prd):Zo1 (Zal ps):=Zgz _ _ .nil
theorem Zne (ps:List Prd) (x:Ky):x∈Zal ps↔x∈Zgw (ps.flatMap Zak):=by rw[Zzu,Zgy];simp
def okQ (ns:List (List Nat)) (p:Prd):Bool:=Zap p&&(Zak p).all (fun k=>Zfg ns k.l&&Zfg ns k.r)
def Zb5 (ns:List (List Nat)) (most:Int) (ps:List Prd):Int:=if (ps.all (okQ ns)&&Zc0 ns most)=true then (if 8<(Zal ps).length then 6 else 0) else 1
theorem Zzv {ns:List (List Nat)} {most:Int} {ps:List Prd} {p:Prd} (hp:p∈ps) (h:okQ ns p=false):Zb5 ns most ps=1:=by
 unfold Zb5
 rw[if_neg]
 intro h2
 rw[Bool.and_eq_true] at h2
 have:=List.all_eq_true.1 h2.1 p hp
 rw[h] at this;cases this
theorem Z4b {ns:List (List Nat)} {most:Int} {ps:List Prd} (h:Zc0 ns most=false):Zb5 ns most ps=1:=by
 unfold Zb5;rw[h,Bool.and_false];rfl
theorem Zlt {ns:List (List Nat)} {most:Int} {ps:List Prd} (h:∀ p∈ps,okQ ns p=true) (hg:Zc0 ns most=true):Zb5 ns most ps=if 8<(Zal ps).length then 6 else 0:=by
 unfold Zb5
 rw[if_pos]
 rw[hg,Bool.and_true]
 exact List.all_eq_true.2 h
theorem Zse {ns:List (List Nat)} {p:Prd} (h:Zap p=false):okQ ns p=false:=by unfold okQ;rw[h];rfl
theorem Zsf {ns:List (List Nat)} {p:Prd} {k:Ky} (hk:k∈Zak p) (h:Zfg ns k.l=false∨Zfg ns k.r=false):okQ ns p=false:=by
 unfold okQ
 rw[Bool.and_eq_false_iff]
 right
 rw[List.all_eq_false]
 refine⟨k,hk,?_⟩
 rcases h with h | h<;>simp[h]
theorem Zlu {ns:List (List Nat)} {p:Prd} (hv:Zap p=true) (h:∀ k∈Zak p,Zfg ns k.l=true∧Zfg ns k.r=true):okQ ns p=true:=by
 unfold okQ
 rw[hv,Bool.true_and,List.all_eq_true]
 exact fun k hk=>by rw[(h k hk).1,(h k hk).2];rfl
theorem Zzw {ns:List (List Nat)} {most:Int} {ps:List Prd} (h:Zb5 ns most ps≠1):(∀ p∈ps,Zap p=true)∧Ziq ns (ps.flatMap Zak)∧Zc0 ns most=true:=by
 unfold Zb5 at h
 by_cases h2:(ps.all (okQ ns)&&Zc0 ns most)=true
 ·rw[Bool.and_eq_true,List.all_eq_true] at h2
  refine⟨fun p hp=>?_,fun k hk=>?_,h2.2⟩
  ·have:=h2.1 p hp
   unfold okQ at this
   rw[Bool.and_eq_true] at this
   exact this.1
  ·obtain⟨p,hp,hk⟩:=List.mem_flatMap.1 hk
   have:=h2.1 p hp
   unfold okQ at this
   rw[Bool.and_eq_true,List.all_eq_true] at this
   have:=this.2 k hk
   rw[Bool.and_eq_true] at this
   exact this
 ·rw[if_neg h2] at h;exact absurd rfl h
def Z4c (w:World) (D:Nat) (ao:Option Addr) (n cp:Nat) (most:Int) (po:Option Addr) (pn pc:Nat) (ro:Option Addr) (rc:Nat) (m:Nat):Prop:=Zah w D 162 [.slice ao n cp,.int .i64 most,.slice po pn pc,.slice ro m rc]
def Zi0 (w:World) (c:Int) (cs:List Ky) (ao:Option Addr) (n cp:Nat) (most:Int) (po:Option Addr) (pn pc:Nat) (e:Ending) (w':World):Prop :=
 (if c=0 then ∃ D ro rc,e = .returned (.tuple #[.pointer (some ⟨D,0,none⟩),.int .i64 0])∧w.heap.size≤D∧Z4c w' D ao n cp most po pn pc ro rc cs.length∧OwnK w' w.heap.size 3 cs.length rc (cs.flatMap kyC) ro
  else e = .returned (.tuple #[.pointer none,.int .i64 c]))∧Below w.heap.size w w'
theorem Zi0.bad {w w':World} {c c':Int} {cs:List Ky} {ao:Option Addr} {n cp:Nat} {most:Int} {po:Option Addr} {pn pc:Nat} {e:Ending} (h:c'=c) (h0:c≠0) (he:e = .returned (.tuple #[.pointer none,.int .i64 c])) (hb:Below w.heap.size w w'):Zi0 w c' cs ao n cp most po pn pc e w':=by
 subst h
 refine⟨?_,hb⟩
 rw[if_neg h0];exact he
theorem Zi0.good {w w':World} {c':Int} {cs:List Ky} {ao:Option Addr} {n cp:Nat} {most:Int} {po:Option Addr} {pn pc:Nat} {D:Nat} {ro:Option Addr} {rc m:Nat} {e:Ending} (h:c'=0) (he:e = .returned (.tuple #[.pointer (some ⟨D,0,none⟩),.int .i64 0])) (hD:w.heap.size≤D) (hm:m=cs.length) (hp:Z4c w' D ao n cp most po pn pc ro rc m) (ho:OwnK w' w.heap.size 3 m rc (cs.flatMap kyC) ro) (hb:Below w.heap.size w w'):Zi0 w c' cs ao n cp most po pn pc e w':=by
 subst h;subst hm
 refine⟨?_,hb⟩
 rw[if_pos rfl];exact⟨D,ro,rc,he,hD,hp,ho⟩
end
section
open Go.RowKit Go.Sort Go.Maps
theorem Zkp (w:World) (P:Nat→Prop) (ps:List Prd) (po:Option Addr) (pn pc:Nat) (ao:Option Addr) (n cp:Nat) (most:Int) (ns:List (List Nat)) (B:Nat) (hT:Tab w B) (hps:Zcr w P ps po) (hpn:pn=ps.length) (hpb:∀ p∈ps,Zhu p) (hpc:∀ p∈ps,Za5 p≤1000000) (hpl:pn≤1000)
  (hn:n=ns.length) (h:Zcm w ao ns) (hb:∀ s∈ns,NmB s) (hasc:Zkd ns) (hbig:n≤1000) :
  Calls Tryz.prog 121 #[.slice ao n cp,.int .i64 most,.slice po pn pc] w fun e w'=>Zi0 w (Zb5 ns most ps) (Zal ps) ao n cp most po pn pc e w':=by
 have HT:=ħ (fun W (hW:Below w.heap.size w W)=>Tab.keep hT (fun k hk=>hW.block k (Nat.lt_of_lt_of_le hk hT.size)) hW.size)
 have HGV:=ħ (fun W (hW:Below w.heap.size w W)=>Zql ns most ao n cp W B (HT.o W hW) hn (h.below hW) hb (by omega))
 have HIX:=ħ (fun W (hW:Below w.heap.size w W) x (hx:NmB x)=>Zix W ao n cp most ns x hn (h.below hW) hb hx hasc (by omega))
 have HVP:=ħ (fun p (hp:p∈ps) (vs:List Value) W (hW:Below w.heap.size w W) (hpv:Zai W P p vs)=>Zf9 p W P vs B (hpc p hp) (hpb p hp) hpv (HT.o W hW))
 have HPS:=ħ (fun W (hW:Below w.heap.size w W)=>hps.below hW)
 have HPN:=ħ hpn
 have HBAD:=ħ (fun p hp h=>Zzv (ns:=ns) (most:=most) (ps:=ps) (p:=p) hp h)
 have HALL:=ħ (fun h hg=>Zlt (ns:=ns) (most:=most) (ps:=ps) h hg)
 have HNG:=ħ (fun h=>Z4b (ns:=ns) (most:=most) (ps:=ps) h)
 have HCQ:=ħ (fun x=>Zne ps x)
 have HCA:=ħ (Zv2 ps)
 have HCL:Hid (Zal ps=(Zgw (ps.flatMap Zak)).foldl Zny []):=ħ rfl
 clear hps hpn hpb hpc hT hn h hb hasc
 generalize hRR:Zb5 ns most ps=RR at *
 clear hRR
 generalize Zal ps=CS at *
 have bx:=((Below.refl w.heap.size w).alloc (Nat.le_refl _) (.cells #[.slice ao n cp,.int .i64 most,.slice po pn pc,.slice none 0 0] 162)).alloc (by simp) (.map #[] 0)
 have BX:=ħ bx
 have ZX:Hid (Zah ((w.alloc (.cells #[.slice ao n cp,.int .i64 most,.slice po pn pc,.slice none 0 0] 162)).alloc (.map #[] 0)) w.heap.size 162 [.slice ao n cp,.int .i64 most,.slice po pn pc,.slice none 0 0]):=ħ (Zar w _ _)
 have QX:Hid (Zol ((w.alloc (.cells #[.slice ao n cp,.int .i64 most,.slice po pn pc,.slice none 0 0] 162)).alloc (.map #[] 0)) (w.heap.size+1) []):=ħ (by have:=Zol.nil (w.alloc (.cells #[.slice ao n cp,.int .i64 most,.slice po pn pc,.slice none 0 0] 162));rwa [World.size_alloc] at this)
 clear bx
 have hmm:=@run_makeMap Tryz.prog
 go_enter Tryz.func121,Tryz.ntmps121
 go_upto_region 3 with (fail)
 clear hmm
 generalize hwx:(w.alloc (.cells #[.slice ao n cp,.int .i64 most,.slice po pn pc,.slice none 0 0] 162)).alloc (.map #[] 0)=wx at *
 clear hwx
 go_wp2_with fail
 have S0:Hid (Zol wx (w.heap.size+1) (Zgw ((ps.take 0).flatMap Zak))):=ħ QX.o
 have O0:Hid (Only wx wx (· = w.heap.size+1)):=ħ (Only.refl _ _)
 have HXX:=ħ (fun (W:World) (hW:Only wx W (· = w.heap.size+1))=>Only.later (RowKit.Below.refl w.heap.size w) (Only.trans (Only.of_below (p:=fun g=>w.heap.size≤g) BX.o) (hW.mono (fun g _ hg=>by rw[hg];exact Nat.le_succ _))) (fun g hg=>hg))
 have HZZ:=ħ (fun (W:World) (hW:Only wx W (· = w.heap.size+1))=>ZX.o.only hW (by omega))
 clear QX ZX BX
 obtain⟨b,hb⟩:∃ b,w.heap.size+1=b:=⟨_,rfl⟩
 rw[hb] at S0 O0 HXX HZZ ⊢
 have HBN:Hid (b=w.heap.size+1):=ħ hb.symm
 clear hb
 go_loopw [25] (fun cc wr=>∃ (i:Nat),cc = .int .i64 i∧i≤pn∧Hid (Zol wr b (Zgw ((ps.take i).flatMap Zak)))∧Hid (Only wx wr (· = b))∧Hid (∀ j p,j<i→ps[j]?=some p→okQ ns p=true)) (fun c _=>(pn-intOf c).toNat)
 case atStart=>exact⟨0,rfl,by omega,S0,O0,ħ (fun j p hj=>absurd hj (Nat.not_lt_zero _))⟩
 case round =>
  clear S0 O0
  obtain⟨i,rfl,hi,hq,ho,hok⟩:=hrel
  have e2:IntKind.i64.wrap ((i:Int)+1)=((i+1:Nat):Int):=IntWalk.i64_in _ (by omega)
  have HLS:Hid ((Zgw ((ps.take i).flatMap Zak)).length≤100*i):=ħ (by
   refine Nat.le_trans (Zun _) ?_
   have:∀ (l:List Prd),(∀ p∈l,Zap p=true)→(l.flatMap Zak).length≤100*l.length:=by
    intro l
    induction l with
    | nil=>intro _;simp
    | cons p l ih =>
     intro h
     rw[List.flatMap_cons,List.length_append,List.length_cons]
     have h1:=Zls (h p List.mem_cons_self)
     have h2:=ih (fun x hx=>h x (List.mem_cons_of_mem _ hx))
     omega
   have h3:=this (ps.take i) (fun p hp=>by
    obtain⟨j,hj⟩:=List.mem_iff_getElem?.1 hp
    rw[List.getElem?_take] at hj
    by_cases hji:j<i
    ·rw[if_pos hji] at hj
     have:=hok.o j p hji hj
     unfold okQ at this
     rw[Bool.and_eq_true] at this
     exact this.1
    ·rw[if_neg hji] at hj;cases hj)
   rw[List.length_take] at h3
   have:min i ps.length≤i:=Nat.min_le_left _ _
   omega)
  have HKO:Hid (∀ k∈Zgw ((ps.take i).flatMap Zak),KyOk k):=ħ (Zzt (fun k hk=>by
   obtain⟨p,hp,hk⟩:=List.mem_flatMap.1 hk
   obtain⟨j,hj⟩:=List.mem_iff_getElem?.1 hp
   rw[List.getElem?_take] at hj
   by_cases hji:j<i
   ·rw[if_pos hji] at hj
    have:=hok.o j p hji hj
    unfold okQ at this
    rw[Bool.and_eq_true] at this
    exact Zgb this.1 k hk
   ·rw[if_neg hji] at hj;cases hj))
  by_cases hlt:i<pn
  ·have ii:(i:Int)<pn:=by omega
   obtain⟨q,hqi⟩:∃ q,ps[i]?=some q:=⟨_,List.getElem?_eq_getElem (by rw[← HPN.o];exact hlt)⟩
   have HQI:=ħ hqi
   have HQM:=ħ (List.mem_of_getElem? hqi)
   have BR:=ħ (HXX.o wr ho.o)
   obtain⟨gk,off,vs,hao,hgl,hpc,hrd⟩:=(HPS.o wr BR.o).at i q hqi
   obtain⟨xa,xn,xc,hvf,-⟩:=hpc.form
   subst hvf
   have HVQ:=ħ (HVP.o q HQM.o [.int .i64 q.k,.string (Zad q.l),.string (Zad q.r),.int .i64 q.c,.slice xa xn xc])
   have PC:=ħ hpc
   have s0:=hrd 0 _ rfl
   have s1:=hrd 1 _ rfl
   have s2:=hrd 2 _ rfl
   have s3:=hrd 3 _ rfl
   have s4:=hrd 4 _ rfl
   rw[Nat.add_zero] at s0
   have HAO:=ħ hao
   have HAT:=ħ (fun W (hv:Zap q=true) (hp:Zai W P q [.int .i64 q.k,.string (Zad q.l),.string (Zad q.r),.int .i64 q.c,.slice xa xn xc])=>Zio W P q _ hp (by unfold Zap at hv;rw[Bool.and_eq_true] at hv;exact hv.2) (by
    unfold Zap Zd8 at hv
    simp only[Bool.and_eq_true,decide_eq_true_eq] at hv
    omega))
   have HTK:Hid (Zgw ((ps.take (i+1)).flatMap Zak)=Zgw ((ps.take i).flatMap Zak)++Zgw (Zak q)):=ħ (by
    obtain⟨hi',he⟩:=List.getElem?_eq_some_iff.1 hqi
    rw[List.take_add_one,hqi,List.flatMap_append,Zum];simp)
   clear hrd hpc hqi
   subst hao
   generalize q.k=q0 at *
   generalize Zad q.l=q1 at *
   generalize Zad q.r=q2 at *
   generalize q.c=q3 at *
   obtain⟨S,hS⟩:∃ S,Zgw ((ps.take i).flatMap Zak)=S:=⟨_,rfl⟩
   rw[hS] at HTK HLS HKO hq
   clear hS
   have bx:=(RowKit.Below.refl wr.heap.size wr).alloc (Nat.le_refl _) (.cells #[.int .i64 q0,.string q1,.string q2,.int .i64 q3,.slice xa xn xc] 25)
   have Y1:Hid (Zah (wr.alloc (.cells #[.int .i64 q0,.string q1,.string q2,.int .i64 q3,.slice xa xn xc] 25)) wr.heap.size 25 [.int .i64 q0,.string q1,.string q2,.int .i64 q3,.slice xa xn xc]):=ħ (heap_alloc_new _ _)
   have PX:=ħ (PC.o.below bx)
   have hq1:=ħ (hq.o.step bx)
   have ho1:=ħ (ho.o.step bx)
   have hbl:Hid (b<wr.heap.size):=ħ hq.o.setK.lt
   clear bx PC hq ho BR
   go_upto_region 6 with (fail)
   clear s0 s1 s2 s3 s4
   generalize wr.alloc (.cells #[.int .i64 q0,.string q1,.string q2,.int .i64 q3,.slice xa xn xc] 25)=wy at *
   go_wp2_with (refine wpList_load_row rfl 25 (.tmp 11) rfl wr.heap.size ?x1 25 #[.int .i64 q0,.string q1,.string q2,.int .i64 q3,.slice xa xn xc] (0,0) _ Y1.o Tryz.underlying25 rfl (Zae _ rfl) ?_;(case x1=>rfl))
   refine (HVQ.o wy (HXX.o wy ho1.o) PX.o).mono ?_
   rintro e w3 ⟨rfl,b3⟩
   have hq3:=ħ (hq1.o.step b3)
   have ho3:=ħ (ho1.o.step b3)
   have Y3:=ħ (Y1.o.step b3)
   have P3:=ħ (PX.o.below b3)
   clear b3 hq1 ho1 Y1 PX HVQ
   obtain⟨vb,hvb⟩:∃ v,Zap q=v:=⟨_,rfl⟩
   have HVB:=ħ hvb
   rw[hvb]
   clear hvb
   cases vb with
   | false =>
    have HR:=ħ (HBAD.o q HQM.o (Zse HVB.o))
    have B3:=ħ (HXX.o w3 ho3.o)
    go_wp2
    go_ret2
    exact Zi0.bad HR.o (by decide) rfl B3.o
   | true =>
    have HAS:=ħ (Zgb HVB.o)
    go_wp2_with (refine wpList_load_row rfl 25 (.tmp 11) rfl wr.heap.size ?x1 25 #[.int .i64 q0,.string q1,.string q2,.int .i64 q3,.slice xa xn xc] (0,0) _ Y3.o Tryz.underlying25 rfl (Zae _ rfl) ?_;(case x1=>rfl))
    refine (HAT.o w3 HVB.o P3.o).mono ?_
    rintro e w4 ⟨ak,ck,rfl,hok4,b4⟩
    have hq4:=ħ (hq3.o.step b4)
    have ho4:=ħ (ho3.o.step b4)
    have K4:=ħ (hok4.keysR rfl)
    have KB4:Hid (∀ g,blk ak=some g→b<g):=ħ (fun g hg=>Nat.lt_of_lt_of_le (Nat.lt_of_lt_of_le hbl.o (Nat.le_of_lt Y3.o.lt)) (hok4.blk_lt hg).1)
    clear b4 hok4 HAT P3 hq3 ho3 Y3
    have HUN:=ħ (fun k hk h=>HBAD.o q HQM.o (Zsf (ns:=ns) (k:=k) hk h))
    have HKN:=ħ (fun h=>Zlu (ns:=ns) HVB.o h)
    have HAL:=ħ (Zls HVB.o)
    obtain⟨ks,hks⟩:∃ ks,Zak q=ks:=⟨_,rfl⟩
    rw[hks] at HTK K4 HAS HUN HKN HAL ⊢
    clear hks
    obtain⟨m,hm⟩:∃ m,ks.length=m:=⟨_,rfl⟩
    have HM:=ħ hm
    rw[hm] at HAL ⊢
    clear hm
    have hlen:=HAL.o
    have Z0:Hid (Zol w4 b (S++Zgw (ks.take 0))):=ħ (by have:=hq4.o;rwa [show Zgw (ks.take 0)=[] from rfl,List.append_nil])
    have Z1:Hid (Only wx w4 (· = b)):=ho4
    have Z2:Hid (Only w4 w4 (· = b)):=ħ (Only.refl _ _)
    clear hq4 ho4
    go_wp2_with fail
    go_loopw [35] (fun cc wr=>∃ (j:Nat),cc = .int .i64 j∧j≤m∧Hid (Zol wr b (S++Zgw (ks.take j)))∧Hid (Only wx wr (· = b))∧Hid (Only w4 wr (· = b))∧Hid (∀ j' k,j'<j→ks[j']?=some k→Zfg ns k.l=true∧Zfg ns k.r=true)) (fun c _=>(m-intOf c).toNat)
    case atStart=>exact⟨0,rfl,by omega,Z0,Z1,Z2,ħ (fun j p hj=>absurd hj (Nat.not_lt_zero _))⟩
    case round =>
     clear Z0 Z1 Z2
     obtain⟨j,rfl,hj,hz,hx,hy,hkj⟩:=hrel
     have e3:IntKind.i64.wrap ((j:Int)+1)=((j+1:Nat):Int):=IntWalk.i64_in _ (by omega)
     by_cases hjl:j<m
     ·have jj:(j:Int)<m:=by omega
      obtain⟨k,hki⟩:∃ k,ks[j]?=some k:=⟨_,List.getElem?_eq_getElem (by rw[HM.o];exact hjl)⟩
      have HKI:=ħ hki
      have HTJ:=ħ (Zzs hki)
      have HKM:=ħ (List.mem_of_getElem? hki)
      have HGK:=ħ (HAS.o k HKM.o)
      have HKR:Hid (Zpw wr ak ks):=ħ (by
       rcases K4.o with h | ⟨g,o,h1,h2,h3⟩
       ·exact .inl h
       ·have:=KB4.o g (by rw[h1];rfl)
        exact .inr ⟨g,o,h1,Nat.lt_of_lt_of_le h2 hy.o.size,h3.of_block (hy.o.block g h2 (by omega))⟩)
      obtain⟨g,o,hak,hg,s0,s1,s2⟩:=HKR.o.at j k hki
      have HAK:=ħ hak
      have HSJ:Hid (∀ x∈S++Zgw (ks.take j),KyOk x):=ħ (fun x hx=>by
       rcases List.mem_append.1 hx with hx | hx
       ·exact HKO.o x hx
       ·exact Zzt (fun y hy=>HAS.o y (List.mem_of_mem_take hy)) x hx)
      have HL1:Hid ((S++Zgw (ks.take j)).length<maxLen):=ħ (by
       rw[List.length_append]
       have h1:=Zun (ks.take j)
       rw[List.length_take] at h1
       have:min j ks.length≤m:=by rw[HM.o];exact Nat.min_le_right _ _
       have:=HLS.o
       exact Nat.lt_of_le_of_lt (show _≤200000 by omega) (by decide))
      have HI1:=ħ (fun W hW=>HIX.o W hW k.l HGK.o.nmb.1)
      have HI2:=ħ (fun W hW=>HIX.o W hW k.r HGK.o.nmb.2)
      have HOR:=ħ (fun W=>Zqm k HGK.o.ok.bytes HGK.o.2.2 W)
      have HOO:=ħ HGK.o.ori
      have HCK:=ħ (Zd5 (Zeq k).1.l (Zeq k).1.r HOO.o.lb HOO.o.rb)
      have HCV:Hid (((Zeq k).1.l==(Zeq k).1.r)=Zmf (Zeq k).1):=ħ rfl
      rw[HCV.o] at HCK
      have HO1:=ħ (Z4a k)
      have HKY:=ħ (Zhq (Zeq k).1 HOO.o)
      have HN1:=ħ (Zko (ns:=ns) (s:=k.l))
      have HN2:=ħ (Zko (ns:=ns) (s:=k.r))
      have HU1:=ħ (fun h=>HUN.o k HKM.o h)
      clear hki HKR hg HCV
      subst hak
      have HKC:Hid (kyC k=[.string (Zad k.l),.string (Zad k.r),.int .i64 k.c]):=ħ rfl
      rw[HKC.o] at HOR
      have HPC:Hid (kyC (Zeq k).1=[.string (Zad (Zeq k).1.l),.string (Zad (Zeq k).1.r),.int .i64 (Zeq k).1.c]):=ħ rfl
      rw[HPC.o] at HOR HKY
      clear HKC HPC
      generalize Zh8 ns k.l=il at *
      generalize Zh8 ns k.r=ir at *
      generalize Zad k.l=y1 at *
      generalize Zad k.r=y2 at *
      generalize k.c=y3 at *
      generalize Zad (Zeq k).1.l=o1 at *
      generalize Zad (Zeq k).1.r=o2 at *
      generalize (Zeq k).1.c=o3 at *
      generalize (Zeq k).2=o4 at *
      have bx:=(RowKit.Below.refl wr.heap.size wr).alloc (Nat.le_refl _) (.cells #[.string y1,.string y2,.int .i64 y3] 123)
      have Y1:Hid (Zah (wr.alloc (.cells #[.string y1,.string y2,.int .i64 y3] 123)) wr.heap.size 123 [.string y1,.string y2,.int .i64 y3]):=ħ (heap_alloc_new _ _)
      have hz1:=ħ (hz.o.step bx)
      have hx1:=ħ (hx.o.step bx)
      have hy1:=ħ (hy.o.step bx)
      have hbn:Hid (b<wr.heap.size):=ħ hz.o.setK.lt
      clear bx hz hx hy
      go_upto_region 11 with (fail)
      clear s0 s1 s2
      generalize wr.alloc (.cells #[.string y1,.string y2,.int .i64 y3] 123)=wk at *
      have HWX:=ħ (HXX.o wk hx1.o)
      have HI1b:=ħ (fun W (hW:Below wk.heap.size wk W)=>HI1.o W (HWX.o.trans (hW.mono HWX.o.size)))
      have HI2b:=ħ (fun W (hW:Below wk.heap.size wk W)=>HI2.o W (HWX.o.trans (hW.mono HWX.o.size)))
      have ZD:=ħ (HZZ.o wk hx1.o)
      have d0:=ZD.o.cell 0 _ rfl
      have d1:=ZD.o.cell 1 _ rfl
      have c0:=Y1.o.cell 0 _ rfl
      have c1:=Y1.o.cell 1 _ rfl
      have r1:=Z8d wk (fun W hW=>HI1b.o W hW)
      have r2:=Z8d wk (fun W hW=>HI2b.o W hW)
      have d0':=cell_regrown d0
      have d1':=cell_regrown d1
      have c0':=cell_regrown c0
      have c1':=cell_regrown c1
      clear d0 d1 c0 c1 HI1 HI2
      by_cases hil:il<0
      ·have HR:=ħ (HU1.o (.inl (HN1.o.1 hil)))
       refine wp_region_quiet_below (by kernel_rfl) (by kernel_rfl) ?_
       repeat (go_big_quiet_step (with_reducible (first | exact r1 _ _ | exact r2 _ _)))
       refine wpQuiet_nil ?_
       intro _ hw'
       obtain⟨⟨dq,osq⟩,hw''⟩:=hw'
       subst hw''
       have BB:=below_regrown wk dq osq
       have B5:=ħ (HWX.o.trans (BB.mono HWX.o.size))
       clear r1 r2 d0' d1' c0' c1' BB ZD HI1b HI2b HWX hz1 hx1 hy1 Y1
       generalize grow (redrawn wk dq) osq=wg at *
       go_wp2
       go_ret2
       exact Zi0.bad HR.o (by decide) rfl B5.o
      ·by_cases hir:ir<0
       ·have HR:=ħ (HU1.o (.inr (HN2.o.1 hir)))
        refine wp_region_quiet_below (by kernel_rfl) (by kernel_rfl) ?_
        repeat (go_big_quiet_step (with_reducible (first | exact r1 _ _ | exact r2 _ _)))
        refine wpQuiet_nil ?_
        intro _ hw'
        obtain⟨⟨dq,osq⟩,hw''⟩:=hw'
        subst hw''
        have BB:=below_regrown wk dq osq
        have B5:=ħ (HWX.o.trans (BB.mono HWX.o.size))
        clear r1 r2 d0' d1' c0' c1' BB ZD HI1b HI2b HWX hz1 hx1 hy1 Y1
        generalize grow (redrawn wk dq) osq=wg at *
        go_wp2
        go_ret2
        exact Zi0.bad HR.o (by decide) rfl B5.o
       ·have HKK:Hid (Zfg ns k.l=true∧Zfg ns k.r=true):=ħ (by
         constructor
         ·cases h:Zfg ns k.l with
          | true=>rfl
          | false=>exact absurd (HN1.o.2 h) hil
         ·cases h:Zfg ns k.r with
          | true=>rfl
          | false=>exact absurd (HN2.o.2 h) hir)
        have HKN2:Hid (∀ j' k,j'<j+1→ks[j']?=some k→Zfg ns k.l=true∧Zfg ns k.r=true):=ħ (fun j' k' hj' hk'=>by
         rcases Nat.lt_succ_iff_lt_or_eq.1 hj' with h1 | rfl
         ·exact hkj.o j' k' h1 hk'
         ·rw[HKI.o] at hk';cases hk';exact HKK.o)
        refine wp_region_quiet_below (by kernel_rfl) (by kernel_rfl) ?_
        repeat (go_big_quiet_step (with_reducible (first | exact r1 _ _ | exact r2 _ _)))
        refine wpQuiet_nil ?_
        intro _ hw'
        obtain⟨⟨dq,osq⟩,hw''⟩:=hw'
        subst hw''
        have BB:=below_regrown wk dq osq
        have hz5:=ħ (hz1.o.step BB)
        have hx5:=ħ (hx1.o.step BB)
        have hy5:=ħ (hy1.o.step BB)
        have Y5:=ħ (Y1.o.step BB)
        clear r1 r2 d0' d1' c0' c1' BB ZD HI1b HI2b HWX hz1 hx1 hy1 Y1
        generalize grow (redrawn wk dq) osq=wg at *
        go_upto_region 13 with (fail)
        go_wp2_with (refine wpList_load_row rfl 123 (.tmp 13) rfl wr.heap.size ?x1 123 #[.string y1,.string y2,.int .i64 y3] (0,0) _ Y5.o Tryz.underlying123 rfl (Zg6 _ rfl) ?_;(case x1=>rfl))
        refine (HOR.o wg).mono ?_
        rintro e w6 ⟨rfl,b6⟩
        have hz6:=ħ (hz5.o.step b6)
        have hx6:=ħ (hx5.o.step b6)
        have hy6:=ħ (hy5.o.step b6)
        have bx:=(RowKit.Below.refl w6.heap.size w6).alloc (Nat.le_refl _) (.cells #[.string o1,.string o2,.int .i64 o3] 123)
        have Y7:Hid (Zah (w6.alloc (.cells #[.string o1,.string o2,.int .i64 o3] 123)) w6.heap.size 123 [.string o1,.string o2,.int .i64 o3]):=ħ (heap_alloc_new _ _)
        have hz7:=ħ (hz6.o.step bx)
        have hx7:=ħ (hx6.o.step bx)
        have hy7:=ħ (hy6.o.step bx)
        have hb7:Hid (b<w6.heap.size):=ħ hz6.o.setK.lt
        clear b6 bx hz5 hx5 hy5 Y5 hz6 hx6 hy6 HOR
        go_upto_region 14 with (fail)
        generalize w6.alloc (.cells #[.string o1,.string o2,.int .i64 o3] 123)=w7 at *
        have o0:=Y7.o.cell 0 _ rfl
        have o1':=Y7.o.cell 1 _ rfl
        have hck:=HCK.o
        cases hcb:Zmf (Zeq k).1 with
        | true =>
         rw[hcb] at hck
         rw[hcb,if_pos rfl] at HO1
         have hz8:Hid (Zol w7 b (S++Zgw (ks.take (j+1)))):=ħ (by rw[HTJ.o,HO1.o,List.append_nil];exact hz7.o)
         clear HCK hcb hz7 Y7
         go_wp2
         go_roundw
         case rel=>exact⟨j+1,by go_num,by omega,hz8,hx7,hy7,HKN2⟩
         case measure=>simp only[intOf];omega
        | false =>
         rw[hcb] at hck
         rw[hcb,if_neg (by simp)] at HO1
         clear HCK hcb
         obtain⟨D,hown,hh,ha,hsz⟩:=hz7.o
         have HO:=ħ hown
         have HH:=ħ hh
         have HA:=ħ ha
         have HSZ:=ħ hsz
         clear hown hh ha hsz
         go_wp2_with (first | (refine wpList_load_row rfl 123 (.tmp 14) rfl w6.heap.size ?x1 123 #[.string o1,.string o2,.int .i64 o3] (0,0) _ Y7.o Tryz.underlying123 rfl (Zg6 _ rfl) ?_;(case x1=>rfl)) | (at_mapUpdate;refine wpList_mapUpdate_own _ rfl (.tmp 67) (.tmp 68) _ 185 rfl 123 4 Zpl Tryz.underlying185 (plainElem Tryz.prog 4) b (S++Zgw (ks.take j)).length D rfl HO.o HL1.o (.agg #[.string o1,.string o2,.int .i64 o3]) (.bool true) (Zcd (Zeq k).1) rfl rfl HKY.o (.lit (.bool true)) [] (plainElem_bool Tryz.underlying4 true) ?_;intro w8 hown8 hgrow8;have hz8:=ħ (Zol.put HSJ.o (Zeq k).1 HOO.o HO.o HH.o HA.o HSZ.o hown8);have hx8:=ħ (hx7.o.trans (Zbs hgrow8));have hy8:=ħ (hy7.o.trans (Zbs hgrow8));clear hown8 hgrow8 HO HH HA HSZ hz7 hx7 hy7 Y7 o0 o1'))
         have hz9:Hid (Zol w8 b (S++Zgw (ks.take (j+1)))):=ħ (by rw[HTJ.o,HO1.o,← List.append_assoc];exact hz8.o)
         clear hz8
         go_roundw
         case rel=>exact⟨j+1,by go_num,by omega,hz9,hx8,hy8,HKN2⟩
         case measure=>simp only[intOf];omega
     ·have jj:¬ ((j:Int)<m):=by omega
      obtain rfl:j=m:=by omega
      have HTJ:Hid (ks.take j=ks):=ħ (List.take_of_length_le (by rw[HM.o];exact Nat.le_refl _))
      have hz9:Hid (Zol wr b (Zgw ((ps.take (i+1)).flatMap Zak))):=ħ (by
       have:=hz.o
       rw[HTJ.o] at this
       rwa [HTK.o])
      have hok9:Hid (∀ j p,j<i+1→ps[j]?=some p→okQ ns p=true):=ħ (fun j' p' hj' hp'=>by
       rcases Nat.lt_succ_iff_lt_or_eq.1 hj' with h1 | rfl
       ·exact hok.o j' p' h1 hp'
       ·rw[HQI.o] at hp'
        cases hp'
        exact HKN.o (fun k hk=>by
         obtain⟨l,hl⟩:=List.mem_iff_getElem?.1 hk
         exact hkj.o l k (by have:=(List.getElem?_eq_some_iff.1 hl).1;have:=HM.o;omega) hl))
      clear hz hkj hok hy HKN HUN HAS
      go_wp2
      go_roundw
      case rel=>exact⟨i+1,by go_num,by omega,hz9,hx,hok9⟩
      case measure=>simp only[intOf];omega
  ·have ii:¬ ((i:Int)<pn):=by omega
   obtain rfl:i=pn:=by omega
   have HTI:Hid (ps.take i=ps):=ħ (List.take_of_length_le (by rw[← HPN.o];exact Nat.le_refl _))
   rw[HTI.o] at hq HLS HKO
   have HOKA:Hid (∀ p∈ps,okQ ns p=true):=ħ (fun p hp=>by
    obtain⟨l,hl⟩:=List.mem_iff_getElem?.1 hp
    exact hok.o l p (by have:=(List.getElem?_eq_some_iff.1 hl).1;have:=HPN.o;omega) hl)
   have HGA:=ħ (fun hg=>HALL.o HOKA.o hg)
   have BR:=ħ (HXX.o wr ho.o)
   clear hok HALL HBAD
   obtain⟨gb,hgb⟩:∃ g,Zc0 ns most=g:=⟨_,rfl⟩
   rw[hgb] at HGV HNG HGA
   clear hgb
   go_wp2_with fail
   refine (HGV.o wr BR.o).mono ?_
   rintro e w3 ⟨rfl,b3⟩
   have B3:=ħ (BR.o.trans (b3.mono BR.o.size))
   have hq3:=ħ (hq.o.step b3)
   have Z3:=ħ ((HZZ.o wr ho.o).step b3)
   clear b3 BR hq ho HGV
   cases gb with
   | false =>
    have HR:=ħ (HNG.o rfl)
    go_wp2
    go_ret2
    exact Zi0.bad HR.o (by decide) rfl B3.o
   | true =>
    have HR:=ħ (HGA.o rfl)
    obtain⟨D,hown,hh,ha,hsz⟩:=hq3.o
    have HO:=ħ hown
    have HSZ:Hid (Maps.size D=CS.length):=ħ (by rw[hsz,HCL.o])
    clear hh ha hown hsz HGA HNG
    have HL8:=ħ (show IntKind.i64.wrap (CS.length:Int)=(CS.length:Int) from IntWalk.i64_in _ (by
     have h1:=HSZ.o
     have h2:=HO.o.size_le
     have h3:=HLS.o
     omega))
    by_cases h8:8<CS.length
    ·have HR6:Hid (RR=6):=ħ (by rw[HR.o,if_pos h8])
     have l8:(8:Int)<(CS.length:Int):=by omega
     clear HR
     go_wp2_with (at_len;refine wpList_len_own _ rfl _ 185 rfl 123 4 Tryz.underlying185 (plainElem Tryz.prog 4) b _ D rfl HO.o ?_;rw[HSZ.o])
     go_ret2
     exact Zi0.bad HR6.o (by decide) rfl B3.o
    ·have HR0:Hid (RR=0):=ħ (by rw[HR.o,if_neg h8])
     have l8:¬ (8:Int)<(CS.length:Int):=by omega
     have C3:Hid (Zhr w3 b (Zgw (ps.flatMap Zak))):=ħ hq3.o.setK
     clear HR hq3
     have A3:=(RowKit.Below.refl w3.heap.size w3).alloc (Nat.le_refl _) (.cells #[.map (some b)] 185)
     have S4:=ħ (C3.o.step A3)
     have B4:=ħ (B3.o.trans (A3.mono B3.o.size))
     have Z4:=ħ (Z3.o.step A3)
     have M4:Hid ((w3.alloc (.cells #[.map (some b)] 185)).cell? ⟨w3.heap.size,0,none⟩=some (.map (some b))):=ħ ((show Zah _ w3.heap.size 185 [.map (some b)] from heap_alloc_new w3 _).cell 0 _ rfl)
     have L4:Hid (w3.heap.size<(w3.alloc (.cells #[.map (some b)] 185)).heap.size):=ħ (by simp)
     have HKE:=ħ (callsIn_wide.1 (Ztt Fence.wide 5 trivial rfl b w3))
     clear A3
     go_upto_region 22 with (at_len;refine wpList_len_own _ rfl _ 185 rfl 123 4 Tryz.underlying185 (plainElem Tryz.prog 4) b _ D rfl HO.o ?_;rw[HSZ.o])
     go_wp2_with fail
     refine HKE.o.mono ?_
     rintro e w4 ⟨rfl,hw4⟩
     subst hw4
     have HSD:=ħ (Zld w3.heap.size b (Zgw (ps.flatMap Zak)) HKO.o (by have:=HLS.o;omega) _ L4.o M4.o S4.o)
     clear HO HSZ C3 S4 M4 L4 HKE B3 Z3
     generalize w3.alloc (.cells #[.map (some b)] 185)=w4 at *
     go_wp2_with fail
     refine HSD.o.mono ?_
     rintro e w5 ⟨ro,rc,ss,rfl,ha,hx,hos,hb5⟩
     have HE:ss=CS:=Zxq ha HCA.o (fun x=>by rw[hx,HCQ.o])
     subst HE
     have B5:=ħ (B4.o.trans (hb5.mono B4.o.size))
     have Z5:=ħ (Z4.o.step hb5)
     have HBL:Hid (blk ro≠some w.heap.size):=ħ (fun e=>by
      have h1:=(hos.blk_lt e).1
      have h2:=Z4.o.lt
      omega)
     have O5:=ħ (hos.lower (B':=w.heap.size) B4.o.size)
     have Z6:=ħ (Z5.o.set 3 (.slice ro ss.length rc))
     have U6:=ħ (Zaj w5 ⟨w.heap.size,3,none⟩ (.slice ro ss.length rc))
     clear ha hx hos hb5 B4 Z4 HSD
     have x0:=Z5.o.cell 0 _ rfl
     have x1:=Z5.o.cell 1 _ rfl
     have x2:=Z5.o.cell 2 _ rfl
     have x3:=Z5.o.cell 3 _ rfl
     have f3:=Z5.o.warm 3
     clear Z5
     have LN:Hid (RowKit.Below w.heap.size w (w5.setCell ⟨w.heap.size,3,none⟩ (.slice ro ss.length rc))):=ħ (U6.o.below B5.o (Nat.le_refl _))
     have O6:=ħ (O5.o.upd U6.o HBL.o)
     go_wp2
     go_ret2
     exact Zi0.good HR0.o rfl (Nat.le_refl _) rfl Z6.o O6.o LN.o
end
section
open Go.RowKit Go.Shelf Go.Sort
theorem Za8.int {w:World} {ao:Option Addr} {l:List Int} (h:Za8 Zct w ao l) (i:Nat) (x:Int) (hx:l[i]?=some x):∃ g off,ao=some ⟨g,off,none⟩∧g<w.heap.size∧w.cell? ⟨g,off+i,none⟩=some (.int .i64 x):=by
 obtain⟨g,off,h1,h2,h3⟩:=h.at Zci i x hx
 refine⟨g,off,h1,h2,?_⟩
 have:=h3 0 (.int .i64 x) rfl
 rwa [Nat.mul_one,Nat.add_zero] at this
theorem Z4d (w:World) (ao1 ao2:Option Addr) (n1 n2 c1 c2:Nat) (l1 l2:List Int) (hn1:n1=l1.length) (hn2:n2=l2.length) (h1:Za8 Zct w ao1 l1) (h2:Za8 Zct w ao2 l2) (hbig1:n1≤1000000) (hbig2:n2≤1000000) :
  Calls Tryz.prog 188 #[.slice ao1 n1 c1,.slice ao2 n2 c2] w fun e w'=>e = .returned (.int .i64 (Zfa l1 l2))∧Zrd w w':=by
 have H1:=ħ h1
 have H2:=ħ h2
 have HN1:=ħ hn1
 have HN2:=ħ hn2
 obtain⟨V,hV⟩:∃ V,Zfa l1 l2=V:=⟨_,rfl⟩
 have HV:=ħ hV
 rw[hV]
 clear h1 h2 hn1 hn2 hV
 have B0:=ħ (Zrd.refl w)
 go_enter Tryz.func188,Tryz.ntmps188
 go_wp2_with fail
 go_loopw [11] (fun cc wr=>∃ (i:Nat),cc = .int .i64 i∧i≤n1∧i≤n2∧Hid (Zfa (l1.drop i) (l2.drop i)=V)∧Hid (Zrd w wr)) (fun c _=>(n1-intOf c).toNat)
 case atStart=>exact⟨0,rfl,by omega,by omega,HV,B0⟩
 case round =>
  clear B0 HV
  obtain⟨i,rfl,hi1,hi2,hv,hw⟩:=hrel
  have e2:IntKind.i64.wrap ((i:Int)+1)=((i+1:Nat):Int):=IntWalk.i64_in _ (by omega)
  by_cases hlt:i<n1
  ·have ii:(i:Int)<n1:=by omega
   have HK1:Hid (∃ k,l1[i]?=some k):=ħ (by rw[HN1.o] at hlt;exact⟨l1[i],List.getElem?_eq_getElem hlt⟩)
   obtain⟨k1,hk1⟩:=HK1.o
   obtain⟨g1,off1,hao1,hg1,s0⟩:=(H1.o.below hw.o.below).int i k1 hk1
   have HG1:=ħ hao1
   by_cases hlt2:i<n2
   ·have jj:¬ (n2:Int)≤(i:Int):=by omega
    have jl:(i:Int)<n2:=by omega
    have HK2:Hid (∃ k,l2[i]?=some k):=ħ (by rw[HN2.o] at hlt2;exact⟨l2[i],List.getElem?_eq_getElem hlt2⟩)
    obtain⟨k2,hk2⟩:=HK2.o
    obtain⟨g2,off2,hao2,hg2,t0⟩:=(H2.o.below hw.o.below).int i k2 hk2
    have HG2:=ħ hao2
    have HC:=ħ (fun w=>Ztk k1 k2 w)
    have HVV:Hid (V=if Zmv k1 k2≠0 then Zmv k1 k2 else Zfa (l1.drop (i+1)) (l2.drop (i+1))):=ħ (by
     rw[← hv.o,Zca l1 i k1 hk1,Zca l2 i k2 hk2,Zfa])
    subst hao1
    subst hao2
    clear hk1 hk2 HK1 HK2 hg1 hg2 hv
    generalize Zmv k1 k2=x at *
    go_wp2_with fail
    refine (HC.o wr).mono ?_
    rintro e w3 ⟨rfl,b3'⟩
    subst b3'
    clear s0 t0
    by_cases hx:x=0
    ·have xb:(x != 0)=false:=by rw[hx];rfl
     have HW:Hid (Zfa (l1.drop (i+1)) (l2.drop (i+1))=V):=ħ (by rw[HVV.o,if_neg (by simp[hx])])
     clear hx
     go_wp2
     go_roundw
     case rel=>exact⟨i+1,by go_num,by omega,by omega,HW,hw⟩
     case measure=>simp only[intOf];omega
    ·have xb:(x != 0)=true:=by rw[bne_iff_ne];exact hx
     have HW:Hid (V=x):=ħ (by rw[HVV.o,if_pos hx])
     clear hx
     go_wp2
     go_ret
     exact⟨Za0 HW.o.symm,hw.o⟩
   ·have jj:(n2:Int)≤(i:Int):=by omega
    have HW:Hid (V=1):=ħ (by
     have h2:l2.drop i=[]:=List.drop_eq_nil_of_le (by rw[← HN2.o];omega)
     rw[← hv.o,Zca l1 i k1 hk1,h2];rfl)
    subst hao1
    clear hk1 HK1 hg1 hv
    go_wp2
    go_ret
    exact⟨Za0 HW.o.symm,hw.o⟩
  ·have ii:¬ ((i:Int)<n1):=by omega
   have hd1:l1.drop i=[]:=List.drop_eq_nil_of_le (by rw[← HN1.o];omega)
   by_cases hlt2:n1<n2
   ·have jj:(n1:Int)<n2:=by omega
    have HW:Hid (V = -1):=ħ (by
     have hl:i<l2.length:=by rw[← HN2.o];omega
     rw[← hv.o,hd1,Zca l2 i _ (List.getElem?_eq_getElem hl)];rfl)
    clear hd1
    go_wp2
    go_ret
    exact⟨Za0 HW.o.symm,hw.o⟩
   ·have jj:¬ ((n1:Int)<n2):=by omega
    have HW:Hid (V=0):=ħ (by
     have h2:l2.drop i=[]:=List.drop_eq_nil_of_le (by rw[← HN2.o];omega)
     rw[← hv.o,hd1,h2];rfl)
    clear hd1
    go_wp2
    go_ret
    exact⟨Za0 HW.o.symm,hw.o⟩
def Zhd (b:Bool):List Value:=[.bool b]
def Zjt (w:World) (P:Nat→Prop) (c:List Int×List Bool) (vs:List Value):Prop:=∃ ao cap bo cb,vs=[.slice ao c.1.length cap,.slice bo c.2.length cb]∧c.2.length≤cb ∧
 (c.1=[]∨∃ g off,ao=some ⟨g,off,none⟩∧P g∧g<w.heap.size∧Za2 w g off (c.1.flatMap Zct))∧(c.2=[]∨∃ g off,bo=some ⟨g,off,none⟩∧P g∧g<w.heap.size∧Za2 w g off (c.2.flatMap Zhd))
theorem Zjt.keeps:Zvg Zjt:=fun w w' P P' c vs hb hs hP ⟨ao,cap,bo,cb,hv,hcb,hk,hk2⟩=>⟨ao,cap,bo,cb,hv,hcb,by
 rcases hk with hk | ⟨g,off,h1,h2,h3,h4⟩
 ·exact .inl hk
 ·exact .inr ⟨g,off,h1,hP g h2 h3,Nat.lt_of_lt_of_le h3 hs,h4.of_block (hb g h2 h3)⟩,by
 rcases hk2 with hk | ⟨g,off,h1,h2,h3,h4⟩
 ·exact .inl hk
 ·exact .inr ⟨g,off,h1,hP g h2 h3,Nat.lt_of_lt_of_le h3 hs,h4.of_block (hb g h2 h3)⟩⟩
theorem Z7h (vs:Array Value) (h:vs.size=2):(Tryz.prog.info? 157).map (·.size)=some vs.size:=by
 rw[h]
 kernel_rfl
theorem Zzx (w:World) (ao1 ao2:Option Addr) (n1 n2 c1 c2:Nat) (b1 b2:Value) (l1 l2:List Int) (hb1:b1.oneCell'=true) (hb2:b2.oneCell'=true) (hn1:n1=l1.length) (hn2:n2=l2.length) (h1:Za8 Zct w ao1 l1) (h2:Za8 Zct w ao2 l2) (hbig1:n1≤1000000) (hbig2:n2≤1000000) :
  Calls Tryz.prog 187 #[.agg #[.slice ao1 n1 c1,b1],.agg #[.slice ao2 n2 c2,b2]] w fun e w'=>e = .returned (.int .i64 (Zfa l1 l2))∧Zrd w w':=by
 have bx:=((Below.refl w.heap.size w).alloc (Nat.le_refl _) (.cells #[.slice ao1 n1 c1,b1] 157)).alloc (by simp) (.cells #[.slice ao2 n2 c2,b2] 157)
 have G1:=ħ (((Zrd.refl w).alloc (.cells #[.slice ao1 n1 c1,b1] 157)).alloc (.cells #[.slice ao2 n2 c2,b2] 157))
 have HC:=ħ (Z4d _ ao1 ao2 n1 n2 c1 c2 l1 l2 hn1 hn2 (h1.below bx) (h2.below bx) hbig1 hbig2)
 have X1:Hid (Zah ((w.alloc (.cells #[.slice ao1 n1 c1,b1] 157)).alloc (.cells #[.slice ao2 n2 c2,b2] 157)) w.heap.size 157 [.slice ao1 n1 c1,b1]):=ħ (Zar _ _ _)
 have X2:Hid (Zah ((w.alloc (.cells #[.slice ao1 n1 c1,b1] 157)).alloc (.cells #[.slice ao2 n2 c2,b2] 157)) (w.heap.size+1) 157 [.slice ao2 n2 c2,b2]):=ħ (heap_alloc2_new _ _ _)
 clear bx hn1 hn2 h1 h2
 go_enter Tryz.func187,Tryz.ntmps187
 go_upto_region 1 with (fail)
 generalize (w.alloc (.cells #[.slice ao1 n1 c1,b1] 157)).alloc (.cells #[.slice ao2 n2 c2,b2] 157)=w1 at *
 have x0:=X1.o.cell 0 _ rfl
 have x1:=X2.o.cell 0 _ rfl
 go_wp2_with fail
 refine HC.o.mono ?_
 rintro e w3 ⟨rfl,b3⟩
 have B3:=ħ (G1.o.trans b3)
 clear b3 x0 x1
 go_wp2
 go_ret
 exact⟨rfl,B3.o⟩
end
section
open Go.RowKit Go.Shelf Go.Sort
abbrev Cel:=List Int×List Bool
def Z8u (w:World) (g base:Nat) (bad:Nat→Prop) (x:Cel×List Value):Prop :=
 Zjt w (fun h=>base≤h∧¬ bad h∧h≠g) x.1 x.2∧x.1.1.length≤1000
abbrev GE (w:World) (g base:Nat) (bad:Nat→Prop):={x:Cel×List Value // Z8u w g base bad x}
instance (w:World) (g base:Nat) (bad:Nat→Prop):Inhabited (GE w g base bad):=⟨⟨(([],[]),[.slice none 0 0,.slice none 0 0]),⟨none,0,none,0,rfl,Nat.le_refl _,.inl rfl,.inl rfl⟩,by simp⟩⟩
theorem Z93 (w:World) (g base:Nat) (bad:Nat→Prop):SWO (ltOf fun x y:GE w g base bad=>Zfa x.1.1.1 y.1.1.1) where
 irrefl x:=by
  have:Zfa x.1.1.1 x.1.1.1=0:=(Zf7 _ _).2 rfl
  simp[ltOf,this]
 trans x y z h1 h2:=by
  simp only[ltOf,decide_eq_true_eq] at *
  have h3:=Zf8 _ _ _ (Int.le_of_lt h1) (Int.le_of_lt h2)
  rcases Int.lt_or_eq_of_le h3 with h4 | h4
  ·exact h4
  ·have h5:=(Zf7 _ _).1 h4
   rw[h5] at h1
   have:=Zdk z.1.1.1 y.1.1.1
   omega
 ntrans x y z h1 h2:=by
  simp only[ltOf,decide_eq_false_iff_not] at *
  intro h3
  have a1:=Zdk x.1.1.1 y.1.1.1
  have a2:=Zdk y.1.1.1 z.1.1.1
  have a3:=Zdk x.1.1.1 z.1.1.1
  have:=Zf8 z.1.1.1 y.1.1.1 x.1.1.1 (by omega) (by omega)
  omega
theorem Zjt.two {w:World} {P:Nat→Prop} {c:Cel} {vs:List Value} (h:Zjt w P c vs):vs.length=2:=by
 obtain⟨ao,cap,bo,cb,rfl,-⟩:=h
 rfl
theorem Zjt.one {w:World} {P:Nat→Prop} {c:Cel} {vs:List Value} (h:Zjt w P c vs):∀ v∈vs,v.oneCell'=true:=by
 obtain⟨ao,cap,bo,cb,rfl,-⟩:=h
 simp[Value.oneCell']
theorem Zsg (w:World) (base lo:Nat) (bad:Nat→Prop) (ao:Option Addr) (n cp:Nat) (xs:List Cel) (vss:List (List Value)) (h:RowM Zjt 2 base w lo bad ao n cp xs vss) (hl:∀ c∈xs,c.1.length≤1000) (hn:n≤1000000) :
  Calls Tryz.prog 186 #[.slice ao n cp,.func (.func 187) #[] #[]] w fun e w'=>e = .returned (.tuple #[])∧(∃ ys vss',ys.Perm xs∧ys.Pairwise (fun a b=>leV a b=true)∧RowM Zjt 2 base w' lo bad ao n cp ys vss')∧Only w w' (fun g=>blk ao=some g):=by
 cases ao with
 | none =>
  have hO:=h.own
  have hn0:n=0:=by cases hO with | nil h1 h2 h3=>exact h2
  have hx:xs=[]:=List.eq_nil_of_length_eq_zero (by rw[← h.cnt];exact hn0)
  subst hx
  subst hn0
  refine (AnyF.slices_SortFunc_none Tryz.sortCell none cp _ w).mono ?_
  rintro e w' ⟨rfl,rfl⟩
  exact⟨rfl,⟨[],vss,.nil,.nil,h⟩,Only.refl _ _⟩
 | some a =>
  obtain⟨g,off,si⟩:=a
  have hO:=h.own
  have hsi:si=none:=by cases hO;rfl
  subst hsi
  have hlt:g<w.heap.size:=(hO.blk_lt rfl).2
  have hxl:xs.length=vss.length:=h.len.symm
  have hgood:∀ x∈xs.zip vss,Z8u w g base bad x:=by
   intro x hx
   obtain⟨i,hi⟩:=List.mem_iff_getElem?.1 hx
   rw[List.getElem?_zip_eq_some] at hi
   obtain⟨h1,h2⟩:=hi
   refine⟨Zjt.keeps w w _ _ _ _ (fun _ _ _=>rfl) (Nat.le_refl _) (fun y hy _=>⟨hy.1,hy.2.1,fun e=>hy.2.2 (by rw[e];rfl)⟩) (h.each i x.1 _ h1 h2),hl _ (List.mem_of_getElem? h1)⟩
  obtain⟨d,hd⟩:=Zp3 _ hgood
  have hd1:d.map (fun x=>x.1.1)=xs:=by
   have:=congrArg (List.map Prod.fst) hd
   rw[List.map_map,List.map_fst_zip (by omega)] at this
   exact this
  have hd2:d.flatMap (fun x=>x.1.2)=vss.flatten:=by
   have:=congrArg (List.map Prod.snd) hd
   rw[List.map_map,List.map_snd_zip (by omega)] at this
   rw[← this,List.flatMap_def]
   rfl
  have hdl:d.length=n:=by rw[h.cnt,← hd1,List.length_map]
  have hO':=hO
  rw[← hd2] at hO'
  have hk2:∀ x:GE w g base bad,x.1.2.length=2:=fun x=>x.2.1.two
  have hH:=OwnK.holds (fun x:GE w g base bad=>x.1.2) 2 hk2 hO'
  have eg:∀ args w,(callFunc 187 args).run Tryz.prog w = .ok (.enter 187 args) w:=enters_of Tryz.func187 (by kernel_rfl) rfl
  have hkeep:∀ (m:Nat) (os:Array Obj) (dk:Array (GE w g base bad)),dk.size=d.length→Only w (sortWorldK (fun x:GE w g base bad=>x.1.2) 2 w g off m dk os) (· = g):=fun m os dk hs=>(OwnK.sorted (fun x:GE w g base bad=>x.1.2) 2 hk2 (m:=m) (os:=os) (d:=dk) hO' hs).2
  have hone:∀ x:GE w g base bad,∃ a c b cb,x.1.2=[.slice a x.1.1.1.length c,.slice b x.1.1.2.length cb]∧(x.1.1.1=[]∨∃ g' off',a=some ⟨g',off',none⟩∧(base≤g'∧¬ bad g'∧g'≠g)∧g'<w.heap.size∧Za2 w g' off' (x.1.1.1.flatMap Zct)):=fun x=>by
   obtain⟨a,c,b,cb,hv,_,hr,_⟩:=x.2.1
   exact⟨a,c,b,cb,hv,hr⟩
  have hkr:∀ (x:GE w g base bad) (a:Option Addr) (W:World),Only w W (· = g)→(x.1.1.1=[]∨∃ g' off',a=some ⟨g',off',none⟩∧(base≤g'∧¬ bad g'∧g'≠g)∧g'<w.heap.size∧Za2 w g' off' (x.1.1.1.flatMap Zct))→Za8 Zct W a x.1.1.1:=fun x a W hW hr=>by
   rcases hr with hr | ⟨g',off',h1,h2,h3,h4⟩
   ·exact .inl hr
   ·exact .inr ⟨g',off',h1,Nat.lt_of_lt_of_le h3 hW.size,h4.of_block (hW.block g' h3 h2.2.2)⟩
  have hc:=AnyQ.slices_SortFunc Tryz.sortCell 2 Tryz.isAgg157 Tryz.sizeOf157 (fun x:GE w g base bad=>x.1.2) hk2 (fun x v hv=>x.2.1.one v hv) (fun x y=>Zfa x.1.1.1 y.1.1.1) (Z93 w g base bad) 187 #[] g off cp d.toArray w eg
   (fun m os dk hs x y=>by
    obtain⟨a1,c1,b1,cb1,hv1,hr1⟩:=hone x
    obtain⟨a2,c2,b2,cb2,hv2,hr2⟩:=hone y
    have hW:=hkeep m os dk (by simpa using hs)
    have:=Zzx (sortWorldK (fun x:GE w g base bad=>x.1.2) 2 w g off m dk os) a1 a2 x.1.1.1.length y.1.1.1.length c1 c2 (.slice b1 x.1.1.2.length cb1) (.slice b2 y.1.1.2.length cb2) x.1.1.1 y.1.1.1 rfl rfl rfl rfl (hkr x a1 _ hW hr1) (hkr y a2 _ hW hr2) (Nat.le_trans x.2.2 (by omega)) (Nat.le_trans y.2.2 (by omega))
    rw[show #[Value.slice a1 x.1.1.1.length c1,Value.slice b1 x.1.1.2.length cb1]=x.1.2.toArray by rw[hv1],show #[Value.slice a2 y.1.1.1.length c2,Value.slice b2 y.1.1.2.length cb2]=y.1.2.toArray by rw[hv2]] at this
    exact this) hH hlt (by simp;omega)
  rw[List.size_toArray,hdl] at hc
  refine hc.mono ?_
  rintro e w' ⟨rfl,d',m,os,hp,hs,rfl⟩
  obtain⟨p1,_,p3⟩:=hp
  have hsz:d'.size=d.length:=by simpa using p1
  have hpp:d'.toList.Perm d:=by
   have e1:d'.extract 0 n=d':=by rw[← hdl,← hsz];exact Array.extract_size
   have e2:d.toArray.extract 0 n=d.toArray:=by rw[← hdl,← List.size_toArray];exact Array.extract_size
   rw[e1,e2] at p3
   simpa using p3
  obtain⟨hS,hOn⟩:=OwnK.sorted (fun x:GE w g base bad=>x.1.2) 2 hk2 (m:=m) (os:=os) (d:=d') hO' hsz
  refine⟨rfl,⟨d'.toList.map (fun x=>x.1.1),d'.toList.map (fun x=>x.1.2),by rw[← hd1];exact hpp.map _,?_,?_⟩,hOn.mono (fun x _ hx=>by rw[hx];rfl)⟩
  ·rw[List.pairwise_iff_getElem]
   intro i j hi hj hij
   rw[List.length_map,Array.length_toList] at hi hj
   have:=hs i j (Nat.zero_le _) hij (by omega)
   rw[getElem!_pos d' i hi,getElem!_pos d' j hj] at this
   simp only[List.getElem_map,Array.getElem_toList]
   simp only[ltOf,decide_eq_false_iff_not] at this
   have h1:=Zdk d'[i].1.1.1 d'[j].1.1.1
   unfold leV
   rw[decide_eq_true_eq]
   omega
  refine⟨?_,by rw[List.length_map,List.length_map],by rw[List.length_map,Array.length_toList];omega,fun vs hv=>?_,fun i x vs hx hv=>?_⟩
  ·rw[← List.flatMap_def];exact hS
  ·obtain⟨x,_,rfl⟩:=List.mem_map.1 hv
   exact hk2 x
  ·rw[List.getElem?_map] at hx
   rw[List.getElem?_map] at hv
   obtain⟨y,hy,rfl⟩:=Option.map_eq_some_iff.1 hx
   rw[hy] at hv
   obtain rfl:=Option.some.inj hv
   exact Zjt.keeps w _ _ _ _ _ (fun z hz hl=>hOn.block z hl hz.2.2) hOn.size (fun z hz _=>⟨hz.1,hz.2.1,fun e=>hz.2.2 (Option.some.inj e).symm⟩) y.2.1
end
section
open Go.RowKit Go.Sort
structure SpcR (w:World) (ns:List (List Nat)) (ao:Option Addr) (n:Nat):Prop where
 cnt:n=ns.length
 strs:Zcm w ao ns
 byts:∀ s∈ns,NmB s
 asc:Zkd ns
 big:n≤100
theorem SpcR.step {w w':World} {ns:List (List Nat)} {ao:Option Addr} {n:Nat} (h:SpcR w ns ao n) (hb:Below w.heap.size w w'):SpcR w' ns ao n:=⟨h.cnt,h.strs.below hb,h.byts,h.asc,h.big⟩
structure TruB (X Y D:Nat) (ns:List (List Nat)) (ao:Option Addr) (n cp:Nat) (most:Int) (c2 c3:Value) (vo:Option Addr) (vc:Nat) (v:List Int) (w:World):Prop where
 bx:Zah w X 151 [.pointer (some ⟨D,0,none⟩)]
 bd:Zah w D 162 [.slice ao n cp,.int .i64 most,c2,c3]
 bv:Zah w Y 60 [.slice vo v.length vc]
 vals:Za8 Zct w vo v
 spc:SpcR w ns ao n
theorem TruB.step {X Y D:Nat} {ns:List (List Nat)} {ao:Option Addr} {n cp:Nat} {most:Int} {c2 c3:Value} {vo:Option Addr} {vc:Nat} {v:List Int} {w w':World} (h:TruB X Y D ns ao n cp most c2 c3 vo vc v w) (hb:Below w.heap.size w w'):TruB X Y D ns ao n cp most c2 c3 vo vc v w' :=
 ⟨h.bx.step hb,h.bd.step hb,h.bv.step hb,h.vals.below hb,h.spc.step hb⟩
theorem Z4e (t:Array Value) (h:t.size=26):∃ f:Nat→Value,t=#[f 0,f 1,f 2,f 3,f 4,f 5,f 6,f 7,f 8,f 9,f 10,f 11,f 12,f 13,f 14,f 15,f 16,f 17,f 18,f 19,f 20,f 21,f 22,f 23,f 24,f 25]:=by
 obtain⟨l⟩:=t
 have hl:l.length=26:=h
 have e:l=(List.range 26).map (fun i=>l.getD i undef):=by
  apply List.ext_getElem
  ·simp[hl]
  ·intro i h1 h2
   simp[List.getD,h1]
 exact⟨fun i=>l.getD i undef,congrArg List.toArray e⟩
theorem Zlv (i:Nat) (h:i<7):i=0∨i=1∨i=2∨i=3∨i=4∨i=5∨i=6:=by omega
def c1F (D N:Nat) (ao:Option Addr) (n cp:Nat) (most:Int) (y1 y2:ByteArray) (y3:Int) (i1 i2:Nat) (i:Nat) (W:World) (v:Value):Prop:=match i with
 | 0=>v = .pointer (some ⟨D,0,none⟩)
 | 1=>v = .pointer (some ⟨D,0,none⟩)
 | 2=>v = .pointer (some ⟨D,0,none⟩)
 | 3=>v = .agg #[.slice ao n cp,.int .i64 most]
 | 4=>v = .agg #[.string y1,.string y2,.int .i64 y3]
 | 5=>v = .agg #[.int .i64 (i1:Int),.int .i64 (i2:Int),.int .i64 y3]
 | 6=>∃ A,v = .pointer (some ⟨A,0,none⟩)∧Zah W A 147 Z9v∧N≤A
 | _=>True
theorem Zom (D N:Nat) (ao:Option Addr) (n cp:Nat) (most:Int) (y1 y2:ByteArray) (y3:Int) (i1 i2:Nat):∀ i w w' v,c1F D N ao n cp most y1 y2 y3 i1 i2 i w v→Below w.heap.size w w'→c1F D N ao n cp most y1 y2 y3 i1 i2 i w' v:=by
 intro i w w' v h hb
 match i with
 | 0=>exact h
 | 1=>exact h
 | 2=>exact h
 | 3=>exact h
 | 4=>exact h
 | 5=>exact h
 | 6=>obtain⟨A,h1,h2,h3⟩:=h;exact⟨A,h1,h2.step hb,h3⟩
 | k+7=>trivial
theorem Zzy (X Y D:Nat) (ns:List (List Nat)) (ao:Option Addr) (n cp:Nat) (most:Int) (c2 c3:Value) (vo:Option Addr) (vc:Nat) (v:List Int) (k:Ky) (w:World) (h:TruB X Y D ns ao n cp most c2 c3 vo vc v w) (hk:NmB k.l∧NmB k.r) (hkn:Zfg ns k.l=true∧Zfg ns k.r=true) (hvl:v.length=n+1) (hvb:∀ i,0≤gv v i∧gv v i≤100000) :
  Calls Tryz.prog 184 #[.agg (kyC k).toArray,.pointer (some ⟨X,0,none⟩),.pointer (some ⟨Y,0,none⟩)] w fun e w'=>e = .returned (.bool (fK ns (gv v) k))∧Below w.heap.size w w':=by
 have bx:=(Below.refl w.heap.size w).alloc (Nat.le_refl _) (.cells (kyC k).toArray 123)
 have B1:=ħ bx
 have H1:=ħ (h.step bx)
 have X1:Hid (Zah (w.alloc (.cells (kyC k).toArray 123)) w.heap.size 123 (kyC k)):=ħ (heap_alloc_new w _)
 have HOF:=ħ (fun W (hs:SpcR W ns ao n)=>Zuf W ao n cp most ns k hs.cnt hs.strs hs.byts hs.asc (by have:=hs.big;omega) hk.1 hk.2)
 have HVL:=ħ hvl
 have HVB:=ħ hvb
 have HV:Hid (fK ns (gv v) k=decide (gv v (Zcp ns k.l)-gv v (Zcp ns k.r)≤k.c)):=ħ rfl
 have e1:Zh8 ns k.l=(Zcp ns k.l:Int):=by unfold Zh8;rw[if_pos hkn.1]
 have e2:Zh8 ns k.r=(Zcp ns k.r:Int):=by unfold Zh8;rw[if_pos hkn.2]
 have hi1:=Zfy hkn.1
 have hi2:=Zfy hkn.2
 rw[← h.spc.cnt] at hi1 hi2
 rw[e1,e2] at HOF
 have HG1:=ħ (Zhc (l:=v) (i:=Zcp ns k.l) (by omega))
 have HG2:=ħ (Zhc (l:=v) (i:=Zcp ns k.r) (by omega))
 have g1:=hvb (Zcp ns k.l)
 have g2:=hvb (Zcp ns k.r)
 rw[HV.o]
 clear HV e1 e2 hk hkn hvb bx h
 generalize gv v (Zcp ns k.l)=z1 at *
 generalize gv v (Zcp ns k.r)=z2 at *
 generalize Zcp ns k.l=i1 at *
 generalize Zcp ns k.r=i2 at *
 have HKX:Hid (kyC k=[.string (Zad k.l),.string (Zad k.r),.int .i64 k.c]):=ħ rfl
 rw[HKX.o] at B1 X1 H1 HOF ⊢
 clear HKX
 generalize Zad k.l=y1 at *
 generalize Zad k.r=y2 at *
 generalize k.c=y3 at *
 go_enter Tryz.func184,Tryz.ntmps184
 go_upto_region 1 with (fail)
 generalize w.alloc (.cells #[.string y1,.string y2,.int .i64 y3] 123)=w1 at *
 refine Zhz 7 0 (c1F D w1.heap.size ao n cp most y1 y2 y3 i1 i2) (by kernel_rfl) rfl (Zom D w1.heap.size ao n cp most y1 y2 y3 i1 i2) (Zei (by kernel_rfl)) (Zh4 (by kernel_rfl)) (Zn2 (by kernel_rfl)) (Zpg (by kernel_rfl)) ?hs ?he
 case hs =>
  intro i o hin hi listed a' w' H hl2
  have hl3:=Za7 hl2
  have hb:=ħ H.below
  have s1:=H.same 1 (Zao (by kernel_rfl))
  have s3:=H.same 3 (Zao (by kernel_rfl))
  have hdn:=H.done
  have hdf:=H.defers
  have hts:=H.tsize
  clear hl2 H
  obtain⟨t',df⟩:=a'
  obtain⟨f',rfl⟩:=Z4e t' hts
  have hdf':df=[]:=hdf
  subst hdf'
  have gs1:f' 1 = .pointer (some ⟨X,0,none⟩):=s1
  have gs3:f' 3 = .pointer (some ⟨w.heap.size,0,none⟩):=s3
  clear s1 s3
  clear hdf hts
  have hcases:i=0∨i=1∨i=2∨i=3∨i=4∨i=5∨i=6:=Zlv i hin
  clear hin
  rcases hcases with rfl | rfl | rfl | rfl | rfl | rfl | rfl
  ·obtain rfl:=Option.some.inj hi
   clear hdn hl3
   rw[gs1]
   clear gs1 gs3
   have x0:=(H1.o.step hb.o).bx.cell 0 _ rfl
   refine Zac rfl ?_
   go_wp2_with fail
   exact Zaa ⟨_,rfl,Below.refl _ _,rfl⟩
  ·obtain rfl:=Option.some.inj hi
   have dv0:f' 6 = .pointer (some ⟨D,0,none⟩):=hdn 0 _ 6 rfl (hl3 0 (by rfl)) rfl
   clear hdn hl3
   rw[dv0]
   clear dv0 gs1 gs3
   refine Zac rfl ?_
   go_wp2_with fail
   exact Zaa ⟨_,rfl,Below.refl _ _,rfl⟩
  ·obtain rfl:=Option.some.inj hi
   have dv1:f' 7 = .pointer (some ⟨D,0,none⟩):=hdn 1 _ 7 rfl (hl3 1 (by rfl)) rfl
   clear hdn hl3
   rw[dv1]
   clear dv1 gs1 gs3
   refine Zac rfl ?_
   go_wp2_with fail
   exact Zaa ⟨_,rfl,Below.refl _ _,rfl⟩
  ·obtain rfl:=Option.some.inj hi
   have dv2:f' 8 = .pointer (some ⟨D,0,none⟩):=hdn 2 _ 8 rfl (hl3 2 (by rfl)) rfl
   clear hdn hl3
   rw[dv2]
   clear dv2 gs1 gs3
   have d0:=(H1.o.step hb.o).bd.cell 0 _ rfl
   have d1:=(H1.o.step hb.o).bd.cell 1 _ rfl
   refine Zac rfl ?_
   go_wp2_with fail
   exact Zaa ⟨_,rfl,Below.refl _ _,rfl⟩
  ·obtain rfl:=Option.some.inj hi
   clear hdn hl3
   rw[gs3]
   clear gs1 gs3
   have k0:=(X1.o.step hb.o).cell 0 _ rfl
   have k1:=(X1.o.step hb.o).cell 1 _ rfl
   have k2:=(X1.o.step hb.o).cell 2 _ rfl
   refine Zac rfl ?_
   go_wp2_with fail
   exact Zaa ⟨_,rfl,Below.refl _ _,rfl⟩
  ·obtain rfl:=Option.some.inj hi
   have dv3:f' 9 = .agg #[.slice ao n cp,.int .i64 most]:=hdn 3 _ 9 rfl (hl3 3 (by rfl)) rfl
   have dv4:f' 10 = .agg #[.string y1,.string y2,.int .i64 y3]:=hdn 4 _ 10 rfl (hl3 4 (by rfl)) rfl
   clear hdn hl3
   rw[dv3,dv4]
   clear dv3 dv4 gs1 gs3
   refine Zac rfl ?_
   go_wp2_with fail
   refine (HOF.o w' (H1.o.step hb.o).spc).mono ?_
   rintro e w4 ⟨rfl,b4⟩
   have HB4:=ħ b4
   clear b4
   go_wp2_with fail
   exact Zaa ⟨_,rfl,HB4.o,rfl⟩
  ·obtain rfl:=Option.some.inj hi
   clear hdn hl3
   clear gs1 gs3
   refine Zac rfl ?_
   go_wp2_with fail
   exact Zaa ⟨_,rfl,(Below.refl w'.heap.size w').alloc (Nat.le_refl _) _,w'.heap.size,rfl,heap_alloc_new _ _,hb.o.size⟩
 case he =>
  intro listed a' w4 H hall
  have hd5:c1F D w1.heap.size ao n cp most y1 y2 y3 i1 i2 5 w4 (a'.tmps.getD 11 undef):=H.done 5 _ 11 rfl (hall 5 (by decide)) rfl
  have hd6:c1F D w1.heap.size ao n cp most y1 y2 y3 i1 i2 6 w4 (a'.tmps.getD 5 undef):=H.done 6 _ 5 rfl (hall 6 (by decide)) rfl
  have hb4:=ħ H.below
  have s2:=H.same 2 (Zao (by kernel_rfl))
  have s4:=H.same 4 (Zao (by kernel_rfl))
  have hdf:=H.defers
  have hts:=H.tsize
  clear H hall
  obtain⟨t',df⟩:=a'
  obtain⟨f',rfl⟩:=Z4e t' hts
  have hdf':df=[]:=hdf
  subst hdf'
  have gs2:f' 2 = .pointer (some ⟨Y,0,none⟩):=s2
  have gs4:f' 4 = .bool false:=s4
  have e5:f' 11 = .agg #[.int .i64 (i1:Int),.int .i64 (i2:Int),.int .i64 y3]:=hd5
  have e6:c1F D w1.heap.size ao n cp most y1 y2 y3 i1 i2 6 w4 (f' 5):=hd6
  clear hd6
  obtain⟨A,e6,hA,hNA⟩:=e6
  rw[gs2,gs4,e5,e6]
  clear s2 s4 gs2 gs4 hdf hts hd5 e5 e6
  have HA:=ħ hA
  have HNA:=ħ hNA
  clear hA hNA
  refine Zbp (Zac rfl ?_)
  refine Zab rfl 147 (.tmp 5) (.tmp 11) rfl A #[.int .i64 (i1:Int),.int .i64 (i2:Int),.int .i64 y3] ?s1 ?s2 147 _ HA.o (Zlp _ rfl) rfl (by simp[Value.oneCell']) ?_
  case s1=>rfl
  case s2=>rfl
  intro w9 s9 u9
  have S9:Hid (Zah w9 A 147 [.int .i64 (i1:Int),.int .i64 (i2:Int),.int .i64 y3]):=ħ s9
  have U9:=ħ u9
  clear s9 u9
  have B4:=ħ (B1.o.trans (hb4.o.mono B1.o.size))
  have H4:=ħ (H1.o.step (U9.o.below hb4.o HNA.o))
  have B9:=ħ (U9.o.below B4.o (Nat.le_trans B1.o.size HNA.o))
  clear HA H1 hb4 B4
  go_wp2_with fail
  refine Zaa (Zd0 ?_)
  change Exit.then _ _ Exit.normal ⟨#[f' 0,f' 1,.pointer (some ⟨Y,0,none⟩),f' 3,.bool false,.pointer (some ⟨A,0,none⟩),f' 6,f' 7,f' 8,f' 9,f' 10,.agg #[.int .i64 (i1:Int),.int .i64 (i2:Int),.int .i64 y3],f' 12,f' 13,f' 14,f' 15,f' 16,f' 17,f' 18,f' 19,f' 20,f' 21,f' 22,f' 23,f' 24,f' 25],[]⟩ w9
  have e3:IntKind.i64.wrap (z1-z2)=z1-z2:=IntWalk.i64_in _ (by omega)
  have j1:(0:Int)≤(i1:Int):=by omega
  have j2:(0:Int)≤(i2:Int):=by omega
  have j3:(i1:Int)<(n:Int)+1:=by omega
  have j4:(i2:Int)<(n:Int)+1:=by omega
  have c0:=S9.o.cell 0 _ rfl
  have c1:=S9.o.cell 1 _ rfl
  have c2:=S9.o.cell 2 _ rfl
  have v0:=H4.o.bv.cell 0 _ rfl
  obtain⟨g,off,hvo,hg,w1'⟩:=H4.o.vals.int i1 z1 HG1.o
  obtain⟨g',off',hvo',hg',w2'⟩:=H4.o.vals.int i2 z2 HG2.o
  rw[hvo] at hvo'
  simp only[Option.some.injEq,Addr.mk.injEq] at hvo'
  obtain⟨rfl,rfl,-⟩:=hvo'
  rw[hvo] at v0
  go_upto_region 2 with (fail)
  have c0':=cell_regrown c0
  have c1':=cell_regrown c1
  have c2':=cell_regrown c2
  have v0':=cell_regrown v0
  have q1':=cell_regrown w1'
  have q2':=cell_regrown w2'
  clear c0 c1 c2 v0 w1' w2'
  refine wp_region_quiet_below (by kernel_rfl) (by kernel_rfl) ?_
  repeat (go_big_quiet_step (fail))
  refine wpQuiet_nil ?_
  intro _ hw'
  obtain⟨⟨dq,osq⟩,hw''⟩:=hw'
  subst hw''
  have BB:=ħ (B9.o.trans ((below_regrown w9 dq osq).mono B9.o.size))
  clear c0' c1' c2' v0' q1' q2'
  generalize grow (redrawn w9 dq) osq=wy at *
  go_wp2
  go_ret
  exact⟨rfl,BB.o⟩
end
section
open Go.RowKit Go.Sort
def Zqo {α:Type} (f:α→Bool) (l:List α):Int:=match l.findIdx? f with
 | some i=>(i:Int)
 | none=>-1
theorem Zuo {α:Type} {f:α→Bool} {l:List α} {i:Nat} {x:α} (hx:l[i]?=some x) (hf:f x=true) (hno:∀ j k,j<i→l[j]?=some k→f k=false):l.findIdx? f=some i:=by
 rw[List.findIdx?_eq_some_iff_getElem]
 have hl:=(List.getElem?_eq_some_iff.1 hx).1
 refine⟨hl,?_,fun j hj=>?_⟩
 ·have:l[i]=x:=by rw[List.getElem?_eq_getElem hl] at hx;exact Option.some.inj hx
  rw[this];exact hf
 ·have:=hno j l[j] hj (List.getElem?_eq_getElem (by omega))
  simp[this]
theorem Zqp {α:Type} {f:α→Bool} {l:List α} (hno:∀ j k,j<l.length→l[j]?=some k→f k=false):l.findIdx? f=none:=by
 rw[List.findIdx?_eq_none_iff]
 intro k hk
 obtain⟨j,hj⟩:=List.mem_iff_getElem?.1 hk
 exact hno j k (List.getElem?_eq_some_iff.1 hj).1 hj
theorem Z4f {α:Type} (f:α→Bool) (ks:List α):decide (0≤Zqo f ks)=ks.any f:=by
 unfold Zqo
 cases h:ks.findIdx? f with
 | none =>
  rw[List.findIdx?_eq_none_iff] at h
  have:ks.any f=false:=by rw[List.any_eq_false];intro x hx;simp[h x hx]
  rw[this];rfl
 | some i =>
  rw[List.findIdx?_eq_some_iff_getElem] at h
  obtain⟨h1,h2,_⟩:=h
  have:ks.any f=true:=List.any_eq_true.2 ⟨_,List.getElem_mem h1,h2⟩
  rw[this];show decide (0≤(i:Int))=true;exact decide_eq_true (by omega)
theorem Zup (w:World) (l:List Int) (ao:Option Addr) (n cap:Nat) (hn:n=l.length) (hbig:n≤1000000) (hl:Za8 Zct w ao l)
  (fg:Nat) (cb:Array Value) (f:Int→Bool) (eg:∀ args w,(callFunc fg args).run Tryz.prog w = .ok (.enter fg args) w) (hf:∀ W x,x∈l→Below w.heap.size w W→Calls Tryz.prog fg (#[.int .i64 x]++cb) W fun e w'=>e = .returned (.bool (f x))∧Below W.heap.size W w') :
  Calls Tryz.prog 178 #[.slice ao n cap,.func (.func fg) #[] cb] w fun e w'=>e = .returned (.int .i64 (Zqo f l))∧Below w.heap.size w w':=by
 have HL:=ħ hl
 have HN:=ħ hn
 have HCA:=ħ hf
 have HI:Hid (Zqo f l=match l.findIdx? f with | some i=>(i:Int) | none=>-1):=ħ rfl
 obtain⟨V,hV⟩:∃ V,Zqo f l=V:=⟨_,rfl⟩
 rw[hV] at HI ⊢
 have B0:=ħ (Below.refl w.heap.size w)
 clear hl hn hf hV
 go_enter Tryz.func178,Tryz.ntmps178
 go_wp2_with fail
 go_loopw [8] (fun cc wr=>∃ (i:Nat),cc = .int .i64 i∧i≤n∧Hid (Below w.heap.size w wr)∧Hid (∀ j k,j<i→l[j]?=some k→f k=false)) (fun c _=>(n-intOf c).toNat)
 case atStart=>exact⟨0,rfl,by omega,B0,ħ (fun j k hj=>absurd hj (Nat.not_lt_zero j))⟩
 case round =>
  clear B0
  obtain⟨i,rfl,hi,hw,hno⟩:=hrel
  have e2:IntKind.i64.wrap ((i:Int)+1)=((i+1:Nat):Int):=IntWalk.i64_in _ (by omega)
  by_cases hlt:i<n
  ·have ii:(i:Int)<n:=by omega
   obtain⟨x,hx⟩:∃ x,l[i]?=some x:=⟨_,List.getElem?_eq_getElem (by rw[← HN.o];exact hlt)⟩
   have HX:=ħ hx
   obtain⟨g,off,hao,hg,s0⟩:=(HL.o.below hw.o).int i x hx
   clear hx
   have HAO:=ħ hao
   subst hao
   go_wp2_with fail
   refine (HCA.o wr x (List.mem_of_getElem? HX.o) hw.o).mono ?_
   rintro e w3 ⟨rfl,b3⟩
   have hw3:=ħ (hw.o.trans (b3.mono hw.o.size))
   clear b3 s0 hw
   obtain⟨fv,hfv⟩:∃ v,f x=v:=⟨_,rfl⟩
   rw[hfv]
   have HFV:=ħ hfv
   clear hfv
   cases fv with
   | true =>
    have HY:Hid (V=(i:Int)):=ħ (by rw[HI.o,Zuo HX.o HFV.o hno.o])
    go_wp2
    go_ret
    exact⟨Za0 HY.o.symm,hw3.o⟩
   | false =>
    go_wp2
    go_roundw
    case rel=>exact⟨i+1,by go_num,by omega,hw3,ħ (fun j k' hj hk'=>by
     rcases Nat.lt_or_ge j i with h | h
     ·exact hno.o j k' h hk'
     ·obtain rfl:j=i:=by omega
      rw[HX.o] at hk'
      obtain rfl:=Option.some.inj hk'
      exact HFV.o)⟩
    case measure=>simp only[intOf];omega
  ·have ii:¬ ((i:Int)<n):=by omega
   have HY:Hid (V = -1):=ħ (by rw[HI.o,Zqp (fun j k hj hk=>hno.o j k (by rw[← HN.o] at hj;omega) hk)])
   go_wp2
   go_ret
   exact⟨Za0 HY.o.symm,hw.o⟩
theorem Zzz (w:World) (l:List Int) (ao:Option Addr) (n cap:Nat) (hn:n=l.length) (hbig:n≤1000000) (hl:Za8 Zct w ao l)
  (fg:Nat) (cb:Array Value) (f:Int→Bool) (eg:∀ args w,(callFunc fg args).run Tryz.prog w = .ok (.enter fg args) w) (hf:∀ W x,x∈l→Below w.heap.size w W→Calls Tryz.prog fg (#[.int .i64 x]++cb) W fun e w'=>e = .returned (.bool (f x))∧Below W.heap.size W w') :
  Calls Tryz.prog 118 #[.slice ao n cap,.func (.func fg) #[] cb] w fun e w'=>e = .returned (.bool (l.any f))∧Below w.heap.size w w':=by
 have HC:=ħ (Zup w l ao n cap hn hbig hl fg cb f eg hf)
 have HV:=ħ (Z4f f l)
 generalize Zqo f l=x at *
 generalize l.any f=V at *
 clear hl hf hn
 go_enter Tryz.func118,Tryz.ntmps118
 go_wp2_with fail
 refine HC.o.mono ?_
 rintro e w3 ⟨rfl,b3⟩
 have B3:=ħ b3
 clear b3
 go_wp2
 go_ret
 exact⟨Zag (by rw[← HV.o]),B3.o⟩
theorem Z4g (w:World) (B cap n g off:Nat) (l:List Int) (hn:n=l.length) (hO:OwnK w B 1 n cap (l.flatMap Zct) (some ⟨g,off,none⟩)) (hbig:n≤1000000)
  (fg:Nat) (cb:Array Value) (f:Int→Bool) (eg:∀ args w,(callFunc fg args).run Tryz.prog w = .ok (.enter fg args) w) (hf:∀ W x,Only w W (· = g)→Calls Tryz.prog fg (#[.int .i64 x]++cb) W fun e w'=>e = .returned (.bool (f x))∧Below W.heap.size W w') :
  Calls Tryz.prog 192 #[.slice (some ⟨g,off,none⟩) n cap,.func (.func fg) #[] cb] w fun e w'=>e = .returned (.slice (some ⟨g,off,none⟩) (l.filter (fun x=>!f x)).length cap)∧OwnK w' B 1 (l.filter (fun x=>!f x)).length cap ((l.filter (fun x=>!f x)).flatMap Zct) (some ⟨g,off,none⟩)∧Only w w' (· = g):=by
 have HI:=ħ (Zup w l (some ⟨g,off,none⟩) n cap hn hbig (hO.flatR Zci hn) fg cb f eg (fun W x _ hW=>hf W x (Only.of_below hW)))
 cases hi0:l.findIdx? f with
 | none =>
  have hfl:l.filter (fun x=>!f x)=l:=by
   rw[List.filter_eq_self]
   intro x hx
   rw[List.findIdx?_eq_none_iff] at hi0
   simp[hi0 x hx]
  have HIV:Hid (Zqo f l = -1):=ħ (by unfold Zqo;rw[hi0])
  rw[hfl,← hn]
  rw[HIV.o] at HI
  have HO:=ħ hO
  clear hO hf hn hbig hi0 hfl
  go_enter Tryz.func192,Tryz.ntmps192
  go_wp2_with fail
  refine HI.o.mono ?_
  rintro e w1 ⟨rfl,b1⟩
  have O1:=ħ (HO.o.below b1)
  have N1:=ħ (Only.of_below (p:=fun x=>x=g) b1)
  clear b1 HI HO
  go_wp2
  go_ret
  exact⟨rfl,O1.o,N1.o⟩
 | some i0 =>
  have HIV:Hid (Zqo f l=(i0:Int)):=ħ (by unfold Zqo;rw[hi0])
  rw[HIV.o] at HI
  have HIL:i0<n:=by
   rw[List.findIdx?_eq_some_iff_getElem] at hi0
   rw[hn];exact hi0.1
  have HT0:Hid (l.take i0=(l.take (i0+1)).filter (fun k=>!f k)):=ħ (by
   rw[List.findIdx?_eq_some_iff_getElem] at hi0
   obtain⟨h1,h2,h3⟩:=hi0
   rw[List.take_add_one,List.getElem?_eq_getElem h1,List.filter_append]
   have e1:(l.take i0).filter (fun k=>!f k)=l.take i0:=by
    rw[List.filter_eq_self]
    intro x hx
    obtain⟨j,hj⟩:=List.mem_iff_getElem?.1 hx
    rw[List.getElem?_take] at hj
    split at hj
    ·rename_i hji
     have:=h3 j hji
     rw[List.getElem?_eq_getElem (by omega)] at hj
     obtain rfl:=Option.some.inj hj
     simpa using this
    ·cases hj
   rw[e1]
   simp[h2])
  have HN:=ħ hn
  have HO:=ħ hO
  have HCA:=ħ hf
  have HF:Hid (∀ (m:Nat) (M:List Int),M.take m=l.filter (fun k=>!f k)→m≤M.length→(l.filter (fun k=>!f k)).length=m):=ħ (fun m M h hm=>by rw[← h,List.length_take];omega)
  have HOnly:=ħ (Only.refl w (· = g))
  clear hO hf hi0 hn
  have e0:IntKind.i64.wrap ((i0:Int)+1)=((i0+1:Nat):Int):=IntWalk.i64_in _ (by omega)
  have b0:((i0:Int) == -1)=false:=by rw[beq_eq_false_iff_ne];omega
  go_enter Tryz.func192,Tryz.ntmps192
  go_wp2_with fail
  refine HI.o.mono ?_
  rintro e w1 ⟨rfl,b1⟩
  have O1:=ħ (HO.o.below b1)
  have N1:=ħ (HOnly.o.step b1)
  clear b1 HI HO HOnly
  go_wp2_with fail
  go_loopw [5,6] (fun ii jj wr=>∃ (i j:Nat) (M:List Int),ii = .int .i64 i∧jj = .int .i64 j∧i<j∧j≤n∧Hid (M.length=n)∧Hid (M.take i=(l.take j).filter (fun k=>!f k))∧Hid (M.drop j=l.drop j)∧Hid (OwnK wr B 1 n cap (M.flatMap Zct) (some ⟨g,off,none⟩))∧Hid (Only w wr (· = g))) (fun _ j _=>(n-intOf j).toNat)
  case atStart=>exact⟨i0,i0+1,l,rfl,by go_num,by omega,by omega,ħ HN.o.symm,HT0,ħ rfl,O1,N1⟩
  case round =>
   clear O1 N1 HT0 e0 b0
   obtain⟨i,j,M,rfl,rfl,hij,hj,hM,ht,hd,ho,hon⟩:=hrel
   have e2:IntKind.i64.wrap ((i:Int)+1)=((i+1:Nat):Int):=IntWalk.i64_in _ (by omega)
   have e3:IntKind.i64.wrap ((j:Int)+1)=((j+1:Nat):Int):=IntWalk.i64_in _ (by omega)
   by_cases hlt:j<n
   ·have jj:(j:Int)<n:=by omega
    obtain⟨k,hk⟩:∃ k,l[j]?=some k:=⟨_,List.getElem?_eq_getElem (by rw[← HN.o];exact hlt)⟩
    have HKI:=ħ hk
    have hkM:M[j]?=some k:=by
     have h:=congrArg (fun x=>x[0]?) hd.o
     simp only[List.getElem?_drop,Nat.add_zero] at h
     rw[h];exact hk
    have s0:wr.cell? ⟨g,off+j,none⟩=some (.int .i64 k):=by
     obtain⟨hr,-,-,-⟩:=ho.o.reads
     have:=hr j (.int .i64 k) (by
      have h9:=Zb2 Zct 1 Zci M j 0 k hkM (by omega)
      rw[Nat.mul_one,Nat.add_zero] at h9
      rw[h9];rfl)
     exact this
    clear hk hkM
    go_wp2_with fail
    refine (HCA.o wr k hon.o).mono ?_
    rintro e w3 ⟨rfl,b3⟩
    have ho3:=ħ (ho.o.below b3)
    have hon3:=ħ (hon.o.step b3)
    clear b3 s0 ho hon
    cases hq:f k with
    | true =>
     have HFT:Hid ((l.take (j+1)).filter (fun k=>!f k)=(l.take j).filter (fun k=>!f k)):=ħ (by
      rw[List.take_add_one,HKI.o,List.filter_append];simp[hq])
     clear hq
     go_wp2
     go_roundw
     case rel=>exact⟨i,j+1,M,rfl,by go_num,by omega,by omega,hM,ħ (by rw[HFT.o];exact ht.o),ħ (by
      have:=congrArg (fun x=>x.drop 1) hd.o
      simpa [List.drop_drop] using this),ho3,hon3⟩
     case measure=>simp only[intOf];omega
    | false =>
     have HFT:Hid ((l.take (j+1)).filter (fun k=>!f k)=(l.take j).filter (fun k=>!f k)++[k]):=ħ (by
      rw[List.take_add_one,HKI.o,List.filter_append];simp[hq])
     clear hq
     have ii:(i:Int)<n:=by omega
     have hil:i<M.length:=by rw[hM.o];omega
     obtain⟨S1,S2,S3⟩:=OwnK.store Zct 1 Zci ho3.o i hil k
     rw[Nat.mul_one] at S1 S2 S3
     have HS1:Hid (OwnK (w3.setCell ⟨g,off+i,none⟩ (.int .i64 k)) B 1 n cap ((M.set i k).flatMap Zct) (some ⟨g,off,none⟩)):=ħ S1
     have HS2:Hid (Only w (w3.setCell ⟨g,off+i,none⟩ (.int .i64 k)) (· = g)):=ħ (hon3.o.trans S2)
     obtain⟨t0,t1⟩:=S3 0 (by omega)
     rw[Nat.add_zero] at t0 t1
     obtain⟨tv,t2⟩:=Option.isSome_iff_exists.1 t0
     clear S1 S2 S3 hil t0
     go_wp2_with fail
     go_roundw
     case rel=>exact⟨i+1,j+1,M.set i k,by go_num,by go_num,by omega,by omega,ħ (by rw[List.length_set];exact hM.o),ħ (by
      rw[HFT.o,← ht.o,List.take_add_one,List.take_set_of_le (Nat.le_refl _),List.getElem?_set_self (by rw[hM.o];omega)];rfl),ħ (by
      have:=congrArg (fun x=>x.drop 1) hd.o
      rw[List.drop_set_of_lt (by omega)]
      simpa [List.drop_drop] using this),HS1,HS2⟩
     case measure=>simp only[intOf];omega
   ·have jj:¬ ((j:Int)<n):=by omega
    have HJ:Hid (M.take i=l.filter (fun k=>!f k)):=ħ (by rw[ht.o,show j=l.length by rw[← HN.o];omega,List.take_length])
    have HLEN:=ħ (HF.o i M HJ.o (by rw[hM.o];omega))
    have hcapn:n≤cap:=ho.o.len_le.1
    have hcapm:cap≤maxLen:=ho.o.len_le.2
    have hcut:=OwnK.cut Zct 1 Zci ho.o i (by omega) hM.o
    simp only[Nat.mul_one] at hcut
    obtain⟨vs,hvl,hrun⟩:=Zr0 wr 60 3 0 (.int .i64 0) 1 Tryz.underlying60 Tryz.zeroValue3 rfl (by omega) (fun u hu=>by simp[Value.cells] at hu;subst hu;rfl) g (off+i) (n-i) (cap-i) (by omega) (by rw[Nat.mul_one];exact (hcut (List.replicate (n-i) undef) (by simp)).2.2)
    rw[Nat.mul_one] at hvl
    obtain⟨C1,C2,-⟩:=hcut vs hvl
    have HC1:=ħ C1
    have HC2:=ħ (hon.o.trans C2)
    clear hcut C1 C2 hvl
    go_wp2
    go_ret
    rw[HLEN.o]
    refine⟨rfl,?_,HC2.o⟩
    have:=HC1.o
    rwa [HJ.o] at this
theorem Zqq (w:World) (g off n cap:Nat) (hc:n≤cap) (hm:cap≤maxLen) :
  Calls Tryz.prog 191 #[.slice (some ⟨g,off,none⟩) n cap] w fun e w'=>e = .returned (.slice (some ⟨g,off,none⟩) n n)∧w'=w:=by
 have h0:(0:Int)≤(n:Int):=by omega
 have h1:(n:Int)≤(cap:Int):=by omega
 go_enter Tryz.func191,Tryz.ntmps191
 go_wp2
 go_ret
 exact⟨by simp,rfl⟩
end
section
open Go.RowKit Go.Shelf Go.Sort
theorem Zah.addr {w:World} {g:Nat} {t:TypeId} {vs:List Value} (h:Zah w g t vs) (j:Nat) (u:Value) (hj:vs[j]?=some u):w.cell? ((⟨g,0,none⟩:Addr).add j)=some u:=by
 rw[Addr.add_lit,Nat.zero_add]
 exact h.cell j u hj
theorem Zuq {ops:Array Oper} {rest:List Oper} {o:Oper} {a:Act} {Q:Exit→Act→World→Prop} (T E:TypeId) (z:Value) (k bt:Nat)
  (hT:Tryz.prog.underlying T=some (.slice E)) (hE:(Tryz.prog.info? E).map (fun i=>(i.zero,i.size,i.bytes))=some (some z,k,bt)) (hz:z.cells.size=k) (hk:0<k) (hbt:bt≤1000)
  (w:World) (hg:o.guard=none) (s x:Operand) (hop:o.op=Op.call { callee:=Callee.builtin Builtin.append,args:=#[s,x],argTypes:=#[T,T] })
  (g off n:Nat) (xs:List Value) (hs:a.eval s = .slice (some ⟨g,off,none⟩) n n) (hl:xs.length=n*k) (hr:Za2 w g off xs)
  (A m c:Nat) (cs:List Value) (te:TypeId) (hx:a.eval x = .slice (some ⟨A,0,none⟩) m c) (hA:Zah w A te cs) (hm:cs.length=m*k) (hm0:0<m) (h1c:∀ u∈cs,u.oneCell'=true)
  (b1:n+m≤1000000000)
  (hK:∀ g' cap' w',OwnK w' w.heap.size k (n+m) cap' (xs++cs) (some ⟨g',0,none⟩)→Below w.heap.size w w'→wpList Tryz.prog ops Q rest (a.put o.dst (.slice (some ⟨g',0,none⟩) (n+m) cap')) w') :
  wpList Tryz.prog ops Q (o::rest) a w:=by
 obtain⟨i0,hi,hz0,hz1,hz2⟩:=Zhg hE
 refine wpList_append_grows w hg s x T hop E i0 z k bt hT hi hz0 hz1 hz2 hz hk (some ⟨g,off,none⟩) n n xs hs (fun h=>by cases h) hl (fun b hb j u hj=>by cases hb;rw[Addr.add_lit];exact hr j u hj) ⟨A,0,none⟩ m c cs hx hm (fun j u hj=>hA.addr j u hj) h1c (by omega)
  (by simp only[maxLen];omega) (Nat.le_trans (Nat.mul_le_mul b1 hbt) (by decide)) ?_
 intro v' w' ho hgr
 obtain⟨g',cap',rfl,hw,hl',hcm,hle⟩:=OwnK.of_row ho (by omega)
 exact hK g' cap' w' (.at g' 0 hw hl' hcm hle) ⟨hgr.os,hgr.tape,hgr.output,hgr.size,fun k hk=>hgr.block k hk (by simp)⟩
theorem Zz0 {ops:Array Oper} {rest:List Oper} {o:Oper} {a:Act} {Q:Exit→Act→World→Prop} (T E:TypeId) (z:Value) (k bt:Nat)
  (hT:Tryz.prog.underlying T=some (.slice E)) (hE:(Tryz.prog.info? E).map (fun i=>(i.zero,i.size,i.bytes))=some (some z,k,bt)) (hz:z.cells.size=k) (hk:0<k) (hbt:bt≤1000)
  (w:World) (B:Nat) (hg:o.guard=none) (s x:Operand) (hop:o.op=Op.call { callee:=Callee.builtin Builtin.append,args:=#[s,x],argTypes:=#[T,T] })
  (ao:Option Addr) (cap n:Nat) (xs:List Value) (hs:a.eval s = .slice ao n cap) (hO:OwnK w B k n cap xs ao) (hB:B≤w.heap.size)
  (A m c:Nat) (cs:List Value) (te:TypeId) (hx:a.eval x = .slice (some ⟨A,0,none⟩) m c) (hA:Zah w A te cs) (hm:cs.length=m*k) (hm0:0<m) (h1c:∀ u∈cs,u.oneCell'=true)
  (b1:n+m≤1000000000)
  (hK:∀ g off cap' w',OwnK w' B k (n+m) cap' (xs++cs) (some ⟨g,off,none⟩)→Below B w w'→wpList Tryz.prog ops Q rest (a.put o.dst (.slice (some ⟨g,off,none⟩) (n+m) cap')) w') :
  wpList Tryz.prog ops Q (o::rest) a w:=by
 obtain⟨i0,hi,hz0,hz1,hz2⟩:=Zhg hE
 refine Zde w B k hk hg s x T hop E i0 z bt hT hi hz0 hz1 hz2 hz ao cap xs n hs hO hB ⟨A,0,none⟩ m c cs hx hm hm0 (fun j u hj=>hA.addr j u hj) h1c (by simp only[maxLen];omega) (Nat.le_trans (Nat.mul_le_mul b1 hbt) (by decide)) ?_
 intro g off cap' w' ho hgr _
 refine hK g off cap' w' ho ⟨hgr.os,hgr.tape,hgr.output,hgr.size,fun i hi=>?_⟩
 refine hgr.block i (Nat.lt_of_lt_of_le hi hB) (fun e=>?_)
 have:=(hO.blk_lt e.symm).1
 omega
theorem OwnK.sortI {w:World} {B n cap g off m:Nat} {l:List Int} {d:List Int} {os:Array Obj} (h:OwnK w B 1 n cap (l.flatMap Zct) (some ⟨g,off,none⟩)) (hd:d.length=l.length) :
  OwnK (grow (putRow (Value.int .i64) (Sort.ahead w m) g off d.toArray) os) B 1 n cap (d.flatMap Zct) (some ⟨g,off,none⟩)∧Only w (grow (putRow (Value.int .i64) (Sort.ahead w m) g off d.toArray) os) (· = g)∧Holds (Value.int .i64) w g off l.toArray:=by
 have hlen:=h.count
 have hll:l.length=n:=by rw[Zbe Zct 1 Zci,Nat.mul_one,Nat.mul_one] at hlen;exact hlen
 cases h with
 | «at» g off h h1 h2 h3 =>
  have hlt:=h.lt
  have hle:=h.le
  rw[Nat.mul_one,h1,Nat.mul_one] at hle
  have hH:Holds (Value.int .i64) w g off l.toArray:=by
   intro j hj
   rw[List.size_toArray] at hj
   refine⟨?_,h.warm j (by omega)⟩
   rw[h.cells j (.int .i64 l.toArray[j]!) (by rw[← Zgn,ivs,List.getElem?_map,List.getElem?_eq_getElem hj,getElem!_pos l.toArray j (by simpa using hj)];simp)]
  have hH2:Holds (Value.int .i64) (grow (putRow (Value.int .i64) (Sort.ahead w m) g off d.toArray) os) g off d.toArray:=holds_sortWorld (Value.int .i64) w g off m l.toArray d.toArray os hlt hH (by simpa using hd)
  have hsz:w.heap.size≤(grow (putRow (Value.int .i64) (Sort.ahead w m) g off d.toArray) os).heap.size:=by
   rw[show grow (putRow (Value.int .i64) (Sort.ahead w m) g off d.toArray) os=sortWorld (Value.int .i64) w g off m d.toArray os from rfl]
   unfold sortWorld grow
   simp[Sort.ahead]
  have hg:∀ a:Addr,a.block<w.heap.size→(grow (putRow (Value.int .i64) (Sort.ahead w m) g off d.toArray) os).cell? a=(putRow (Value.int .i64) (Sort.ahead w m) g off d.toArray).cell? a:=fun a ha =>
   World.cell?_of_block (heap_grow_old _ _ (by rw[Sort.size_putRow];exact ha))
  have hgf:∀ a:Addr,a.block<w.heap.size→(grow (putRow (Value.int .i64) (Sort.ahead w m) g off d.toArray) os).frozen? a=(putRow (Value.int .i64) (Sort.ahead w m) g off d.toArray).frozen? a:=fun a ha =>
   World.frozen?_of_block (heap_grow_old _ _ (by rw[Sort.size_putRow];exact ha))
  have hfl:(d.flatMap Zct).length=n*1:=by rw[Zbe Zct 1 Zci,hd,hll]
  refine⟨.at g off ⟨h.own,Nat.lt_of_lt_of_le hlt hsz,by rw[hfl];exact Nat.mul_le_mul_right 1 h3,fun j u hj=>?_,fun j hj=>?_,fun j hj=>?_⟩ hfl h2 h3,?_,hH⟩
  ·rw[← Zgn,ivs,List.getElem?_map] at hj
   obtain⟨x,hx,rfl⟩:=Option.map_eq_some_iff.1 hj
   have hjl:=(List.getElem?_eq_some_iff.1 hx).1
   rw[(hH2 j (by simpa using hjl)).1,getElem!_pos d.toArray j (by simpa using hjl)]
   simp[(List.getElem?_eq_some_iff.1 hx).2]
  ·by_cases hj2:j<d.length
   ·rw[(hH2 j (by simpa using hj2)).1];rfl
   ·rw[hg _ hlt,Sort.cell?_putRow_other _ _ _ _ _ _ (.inr (.inr (by rw[List.size_toArray];show off+d.length≤off+j;omega)))]
    exact h.room j hj
  ·rw[hgf _ hlt,Sort.frozen?_putRow]
   exact h.warm j hj
  ·refine⟨rfl,rfl,rfl,hsz,fun i hi hne=>?_⟩
   have e1:(grow (putRow (Value.int .i64) (Sort.ahead w m) g off d.toArray) os).heap[i]?=(putRow (Value.int .i64) (Sort.ahead w m) g off d.toArray).heap[i]?:=heap_grow_old _ _ (by rw[Sort.size_putRow];exact hi)
   rw[e1]
   show (w.heap.modify g _)[i]?=_
   rw[Array.getElem?_modify,if_neg (fun e=>hne e.symm)]
theorem Zz1 (w:World) (B n cap g off:Nat) (l:List Int) (hn:n=l.length) (hO:OwnK w B 1 n cap (l.flatMap Zct) (some ⟨g,off,none⟩)) (hbig:n≤1000000) :
  Calls Tryz.prog 194 #[.slice (some ⟨g,off,none⟩) n cap] w fun e w'=>e = .returned (.tuple #[])∧OwnK w' B 1 n cap ((l.mergeSort leI).flatMap Zct) (some ⟨g,off,none⟩)∧Only w w' (· = g):=by
 have hlt:g<w.heap.size:=(hO.blk_lt rfl).2
 have hH:=(OwnK.sortI (m:=0) (os:=#[]) hO (d:=l) rfl).2.2
 rw[hn]
 refine (Tryz.slices_Sort_int g off cap l w hH hlt (by omega)).mono ?_
 rintro e w' ⟨rfl,m,os,rfl⟩
 obtain⟨h1,h2,-⟩:=OwnK.sortI (m:=m) (os:=os) hO (d:=l.mergeSort leI) (List.length_mergeSort ..)
 exact⟨rfl,by rw[← hn];exact h1,h2⟩
def Zgc (ns:List (List Nat)) (v:List Int) (at':Nat) (most:Int) (ks:List Ky) (j:Nat):List Int:=[0,most+1]++(ks.take j).flatMap (Zog ns v at')
theorem Zsh {ns:List (List Nat)} {v:List Int} {at':Nat} {most:Int} {ks:List Ky} {j:Nat} {k:Ky} (h:ks[j]?=some k):Zgc ns v at' most ks (j+1)=Zgc ns v at' most ks j++Zog ns v at' k:=by
 unfold Zgc
 rw[List.take_add_one,h,List.flatMap_append,List.append_assoc]
 simp
theorem Zv3 {ns:List (List Nat)} {v:List Int} {at':Nat} {most:Int} {ks:List Ky} {j:Nat} (h:ks.length≤j):Zgc ns v at' most ks j=Zec ns v at' most ks:=by
 unfold Zgc Zec
 rw[List.take_of_length_le h]
theorem Zz2 (ns:List (List Nat)) (v:List Int) (at':Nat) (k:Ky):(Zog ns v at' k).length≤1:=by
 unfold Zog
 split
 ·simp
 ·split<;>simp
def Zhw (g:Int→Bool) (L:List Int):Nat→Int
 | 0=>0
 | i+1=>Zhw g L i+(if g (gv L i)=true then gv L (i+1)-gv L i else 0)
theorem Znf (g:Int→Bool) (t:Int) (L:List Int):∀ i,Zhw g (t::L) (i+1)=(if g t=true then gv L 0-t else 0)+Zhw g L i
 | 0=>by
  show (0:Int)+(if g t=true then gv L 0-t else 0)=_+(0:Int)
  omega
 | i+1=>by
  show Zhw g (t::L) (i+1)+(if g (gv L i)=true then gv L (i+1)-gv L i else 0)=_
  rw[Znf g t L i]
  show _=_+(Zhw g L i+(if g (gv L i)=true then gv L (i+1)-gv L i else 0))
  omega
theorem Zz3 (g:Int→Bool):∀ L:List Int,Z6e g L=Zhw g L (L.length-1)
 | []=>rfl
 | [t]=>rfl
 | t::t2::ts=>by
  show (if g t=true then t2-t else 0)+Z6e g (t2::ts)=Zhw g (t::t2::ts) ((ts.length+1))
  rw[Znf,Zz3 g (t2::ts)]
  rfl
theorem Zqr {g:Int→Bool} {L:List Int} {M:Int} (hM:0≤M) (h:∀ i,i+1<L.length→0≤gv L (i+1)-gv L i∧gv L (i+1)-gv L i≤M):∀ i,i<L.length→0≤Zhw g L i∧Zhw g L i≤M*i
 | 0,_=>⟨Int.le_refl _,by simp[Zhw]⟩
 | i+1,hi=>by
  have h1:=Zqr (g:=g) hM h i (by omega)
  have h2:=h i hi
  have h3:M*((i+1:Nat):Int)=M*i+M:=by rw[show ((i+1:Nat):Int)=(i:Int)+1 from by omega,Int.mul_add,Int.mul_one]
  show 0≤Zhw g L i+(if g (gv L i)=true then gv L (i+1)-gv L i else 0)∧Zhw g L i+(if g (gv L i)=true then gv L (i+1)-gv L i else 0)≤_
  rw[h3]
  split<;>omega
theorem Zz4 {ns:List (List Nat)} {v:List Int} {at':Nat} {most:Int} {ks:List Ky} (i:Nat) (hi:i+1<(Zch ns v at' most ks).length) :
  0≤gv (Zch ns v at' most ks) (i+1)-gv (Zch ns v at' most ks) i∧gv (Zch ns v at' most ks) (i+1)-gv (Zch ns v at' most ks) i≤most+1:=by
 have hs:=Zj4 ns v at' most ks
 have h1:=Zhc hi
 have h0:=Zhc (show i<(Zch ns v at' most ks).length by omega)
 have m1:=((Zg7 ns v at' most ks _).1 (List.mem_of_getElem? h1)).2
 have m0:=((Zg7 ns v at' most ks _).1 (List.mem_of_getElem? h0)).2
 have h2:leI (gv (Zch ns v at' most ks) i) (gv (Zch ns v at' most ks) (i+1))=true:=by
  have:=List.pairwise_iff_getElem.1 hs i (i+1) (by omega) hi (by omega)
  rw[List.getElem?_eq_getElem hi] at h1
  rw[List.getElem?_eq_getElem (by omega)] at h0
  rwa [Option.some.inj h0,Option.some.inj h1] at this
 have:=of_decide_eq_true h2
 omega
theorem Zz5 (ns:List (List Nat)) (v:List Int) (at':Nat) (most:Int) (hm:0≤most) (ks:List Ky):2≤(Zch ns v at' most ks).length∧(Zch ns v at' most ks).length≤2+ks.length:=by
 unfold Zch
 rw[List.length_mergeSort]
 constructor
 ·unfold Zec
  rw[List.filter_append,List.length_append]
  have:([0,most+1].filter (inT most))=[0,most+1]:=by
   rw[List.filter_eq_self]
   intro t ht
   simp only[List.mem_cons,List.not_mem_nil,or_false] at ht
   unfold inT
   simp only[Bool.not_eq_true',Bool.or_eq_false_iff,decide_eq_false_iff_not]
   rcases ht with rfl | rfl<;>omega
  rw[this]
  simp
 ·refine Nat.le_trans (List.length_filter_le ..) ?_
  unfold Zec
  rw[List.length_append]
  have:=flatMap_le1 (Zog ns v at') (Zz2 ns v at') ks
  simp only[List.length_cons,List.length_nil]
  omega
where flatMap_le1 {α:Type} (f:α→List Int) (h:∀ x,(f x).length≤1):∀ l:List α,(l.flatMap f).length≤l.length
 | []=>by simp
 | x::xs=>by
  rw[List.flatMap_cons,List.length_append,List.length_cons]
  have h1:=h x
  have h2:=flatMap_le1 f h xs
  omega
end
end Go.Proofs.YtmkdfbelbcocpaaGreatDoor
