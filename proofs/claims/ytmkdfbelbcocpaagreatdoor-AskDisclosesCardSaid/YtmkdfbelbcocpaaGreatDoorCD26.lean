import Derived.Deep.CutBlock
import Derived.Deep.DeepCutAuto
import Derived.Test.YtmkdfbelbcocpaaGreatDoorCD25
import Derived.Deep.OwnRows
import Derived.Test.YtmkdfbelbcocpaaGreatDoorCD22
import Derived.Test.YtmkdfbelbcocpaaGreatDoorCD21
import Derived.Maps.OwnSet
set_option linter.unusedVariables false
set_option linter.unusedSimpArgs false
set_option maxHeartbeats 16000000
set_option maxRecDepth 100000
namespace Go.Proofs.YtmkdfbelbcocpaaGreatDoor
section
open Go.RowKit Go.Sort
theorem Z9g (ns:List (List Nat)) (k:Ky) (h:Ze4 ns k.l=true∧Ze4 ns k.r=true):#[Value.int .i64 (Zh3 ns k.l),.int .i64 (Zh3 ns k.r),.int .i64 k.c]=(Zjv (Zgh ns k)).toArray:=by
 unfold Zh3 Zjv Zgh
 rw[if_pos h.1,if_pos h.2]
theorem Z3h (c:Con):∀ u∈(Zjv c),u.oneCell'=true:=by
 intro u hu
 simp only[Zjv,List.mem_cons,List.not_mem_nil,or_false] at hu
 rcases hu with rfl | rfl | rfl<;>rfl
theorem Zg5 {α:Type} (f:α→List Value) (l:List α) (x:α):l.flatMap f++f x=(l++[x]).flatMap f:=by simp
theorem Zwl {α:Type} (f:α→List Value) (l:List α) (x y:α):l.flatMap f++(f x++f y)=(l++[x,y]).flatMap f:=by simp
theorem Zu3 (w:World) (ao:Option Addr) (n cp:Nat) (most:Int) (ns:List (List Nat)) (al:Option Addr) (nl cl:Nat) (ks:List Ky) (hn:n=ns.length) (h:Zcr w ao ns) (hb:∀ s∈ns,NmB s) (hl:Zjh ns) (hbig:n≤1000)
  (hkr:Za7 kyC w al ks) (hnl:nl=ks.length) (hk:Zio ns ks) (hkb:∀ k∈ks,NmB k.l∧NmB k.r) (hnb:nl≤100000) :
  Calls Tryz.prog 176 #[.agg #[.slice ao n cp,.int .i64 most],.slice al nl cl] w fun e w'=>(∃ ro rc,e = .returned (.slice ro (Zcp ns most ks).length rc)∧OwnK w' w.heap.size 3 (Zcp ns most ks).length rc ((Zcp ns most ks).flatMap Zjv) ro)∧Below w.heap.size w w':=by
 have HOF:=ħ (fun W (hW:Below w.heap.size w W) k (hk2:k∈ks)=>Zu2 W ao n cp most ns k hn (h.below hW) hb hl (by omega) (hkb k hk2).1 (hkb k hk2).2)
 have HKR:=ħ hkr
 have HNL:=ħ hnl
 have HKN:=ħ hk
 have bx:=(Below.refl w.heap.size w).alloc (Nat.le_refl _) (.cells #[.slice ao n cp,.int .i64 most] 139)
 have B1:=ħ bx
 have X1:Hid (Zah (w.alloc (.cells #[.slice ao n cp,.int .i64 most] 139)) w.heap.size 139 [.slice ao n cp,.int .i64 most]):=ħ (heap_alloc_new w _)
 have HLEN:Hid ((Zcp ns most ks).length=nl+2*n):=ħ (by unfold Zcp;rw[List.length_append,List.length_map,Zho,hnl,hn])
 have HCP:Hid (Zcp ns most ks=ks.map (Zgh ns)++Ze5 most n):=ħ (by unfold Zcp;rw[hn])
 rw[HLEN.o]
 obtain⟨CP,hCP⟩:∃ c,Zcp ns most ks=c:=⟨_,rfl⟩
 rw[hCP] at HCP ⊢
 clear bx h hb hl hkr hnl hk hkb HLEN hCP hn
 go_enter Tryz.func176,Tryz.ntmps176
 go_upto_block 0 with (fail)
 generalize w.alloc (.cells #[.slice ao n cp,.int .i64 most] 139)=w1 at *
 go_cut [4] (fun o wx=>∃ (ro:Option Addr) (rc:Nat),o = .slice ro nl rc∧Hid (OwnK wx (w.heap.size+1) 3 nl rc ((ks.map (Zgh ns)).flatMap Zjv) ro)∧Hid (Zah wx w.heap.size 139 [.slice ao n cp,.int .i64 most])∧Hid (Below w.heap.size w wx))
 case first =>
  go_wp2_with fail
  go_loopw [4,10] (fun o c wr=>∃ (i:Nat) (ro:Option Addr) (rc:Nat),c = .int .i64 i∧i≤nl∧o = .slice ro i rc∧Hid (OwnK wr (w.heap.size+1) 3 i rc (((ks.take i).map (Zgh ns)).flatMap Zjv) ro)∧Hid (Zah wr w.heap.size 139 [.slice ao n cp,.int .i64 most])∧Hid (Below w.heap.size w wr)) (fun o c _=>(nl-intOf c).toNat)
  case atStart=>exact⟨0,none,0,rfl,by omega,rfl,ħ (.nil (by simp) rfl rfl),X1,B1⟩
  case round =>
   clear X1 B1
   obtain⟨i,ro,rc,rfl,hi,rfl,ho,hx,hw⟩:=hrel
   have e2:IntKind.i64.wrap ((i:Int)+1)=((i+1:Nat):Int):=IntWalk.i64_in _ (by omega)
   by_cases hlt:i<nl
   ·have ii:(i:Int)<nl:=by omega
    obtain⟨k,hk⟩:∃ k,ks[i]?=some k:=⟨_,List.getElem?_eq_getElem (by rw[← HNL.o];exact hlt)⟩
    have HKI:=ħ hk
    obtain⟨g,off,hao,hg,hc⟩:=(HKR.o.below hw.o).at (k:=3) (fun _=>rfl) i k hk
    have HAO:=ħ hao
    subst hao
    have s0:=hc 0 _ rfl
    have s1:=hc 1 _ rfl
    have s2:=hc 2 _ rfl
    rw[Nat.add_zero] at s0
    have HCV:=ħ (Z9g ns k (HKN.o k (List.mem_of_getElem? hk)))
    have HOK:=ħ (fun W hW=>HOF.o W hW k (List.mem_of_getElem? hk))
    have HTK:Hid (((ks.take i).map (Zgh ns)).flatMap Zjv++Zjv (Zgh ns k)=((ks.take (i+1)).map (Zgh ns)).flatMap Zjv):=ħ (by rw[Zg5,List.take_add_one,hk];simp)
    rw[HCV.o,show (kyC k)=[.string (Zad k.l),.string (Zad k.r),.int .i64 k.c] from rfl] at HOK
    clear hc hk hg HCV
    generalize Zad k.l=y1 at *
    generalize Zad k.r=y2 at *
    generalize k.c=y3 at *
    have CL:=Zc9 (Zgh ns k)
    have C1:=ħ (Z3h (Zgh ns k))
    generalize Zjv (Zgh ns k)=cv at *
    go_upto_region 4 with (fail)
    have bx:=(Below.refl wr.heap.size wr).alloc (Nat.le_refl _) (.cells #[.string y1,.string y2,.int .i64 y3] 123)
    have Kx:Hid (Zah (wr.alloc (.cells #[.string y1,.string y2,.int .i64 y3] 123)) wr.heap.size 123 [.string y1,.string y2,.int .i64 y3]):=ħ (heap_alloc_new _ _)
    have X2:=ħ (hx.o.step bx)
    have O2:=ħ (ho.o.below bx)
    have B2:=ħ (hw.o.trans (bx.mono hw.o.size))
    clear bx hx ho hw s0 s1 s2
    generalize wr.alloc (.cells #[.string y1,.string y2,.int .i64 y3] 123)=w2 at *
    generalize wr.heap.size=KA at *
    go_wp2_with (first
     | (refine wpList_load_row rfl 139 (.tmp 2) rfl w.heap.size ?la1 139 #[.slice ao n cp,.int .i64 most] (0,0) _ X2.o Tryz.underlying139 rfl (Ze7 _ _) ?_;(case la1=>rfl))
     | (refine wpList_load_row rfl 123 (.tmp 6) rfl KA ?la2 123 #[.string y1,.string y2,.int .i64 y3] (0,0) _ Kx.o Tryz.underlying123 rfl (Zg1 _ rfl) ?_;(case la2=>rfl)))
    refine (HOK.o w2 B2.o).mono ?_
    rintro e w3 ⟨rfl,b3⟩
    have X3:=ħ (X2.o.step b3)
    have O3:=ħ (O2.o.below b3)
    have B3:=ħ (B2.o.trans (b3.mono B2.o.size))
    clear b3 X2 O2 B2 Kx HOK
    match cv,CL with
    | [v0,v1,v2],_ =>
    go_wp2_with (at_builtin;refine Zfa 140 147 Z80 3 24 Tryz.underlying140 Zu1 rfl (by omega) (by omega) w3 (w.heap.size+1) rfl (.tmp 14) (.tmp 18) rfl ro rc i (((ks.take i).map (Zgh ns)).flatMap Zjv) ?q1 O3.o X3.o.lt 1 1 #[v0,v1,v2] 147 ?q2 rfl (by omega) C1.o ?q4 ?_;(case q1=>rfl);(case q2=>rfl);(case q4=>omega);intro g5 off5 c5 wa o8 gr8 b8 or8;have O8:=ħ o8;have B8:=ħ b8;clear o8 gr8 b8 or8)
    have X4:=ħ (X3.o.below B8.o (Nat.lt_succ_self _))
    have B4:=ħ (B3.o.trans (B8.o.mono (Nat.le_succ _)))
    clear X3 O3 B3 B8
    go_roundw
    case rel=>exact⟨i+1,some ⟨g5,off5,none⟩,c5,by go_num,by omega,rfl,ħ (by rw[← HTK.o];exact O8.o),X4,B4⟩
    case measure=>simp only[intOf];omega
   ·obtain rfl:i=nl:=by omega
    have ii:¬ ((i:Int)<(i:Int)):=by omega
    go_wp2_with fail
    go_meet
    case rel=>exact⟨ro,rc,rfl,ħ (by have:=ho.o;rwa [List.take_of_length_le (by rw[← HNL.o];exact Nat.le_refl _)] at this),hx,hw⟩
 case rest =>
  clear X1 B1
  obtain⟨ro,rc,rfl,ho,hx,hw⟩:=hcut
  have x0:=hx.o.cell 0 _ rfl
  go_wp2_with fail
  go_loopw [4,24] (fun o c wr=>∃ (i:Nat) (ro:Option Addr) (rc:Nat),c = .int .i64 i∧i≤n∧o = .slice ro (nl+2*i) rc∧Hid (OwnK wr (w.heap.size+1) 3 (nl+2*i) rc ((ks.map (Zgh ns)++Ze5 most i).flatMap Zjv) ro)∧Hid (Zah wr w.heap.size 139 [.slice ao n cp,.int .i64 most])∧Hid (Below w.heap.size w wr)) (fun o c _=>(n-intOf c).toNat)
  case atStart=>exact⟨0,ro,rc,rfl,by omega,rfl,ħ (by have:=ho.o;simpa [Ze5] using this),hx,hw⟩
  case round =>
   clear ho hx hw x0
   obtain⟨i,ro,rc,rfl,hi,rfl,ho,hx,hw⟩:=hrel
   have e2:IntKind.i64.wrap ((i:Int)+1)=((i+1:Nat):Int):=IntWalk.i64_in _ (by omega)
   by_cases hlt:i<n
   ·have ii:(i:Int)<n:=by omega
    have x1:=hx.o.cell 1 _ rfl
    go_wp2_with (at_builtin;refine Zfa 140 147 Z80 3 24 Tryz.underlying140 Zu1 rfl (by omega) (by omega) wr (w.heap.size+1) rfl (.tmp 27) (.tmp 36) rfl ro rc (nl+2*i) ((ks.map (Zgh ns)++Ze5 most i).flatMap Zjv) ?q1 ho.o hx.o.lt 2 2 #[.int .i64 0,.int .i64 ((i+1:Nat):Int),.int .i64 0,.int .i64 ((i+1:Nat):Int),.int .i64 0,.int .i64 most] 147 ?q2 rfl (by omega) ?q3 ?q4 ?_;(case q1=>rfl);(case q2=>rfl);(case q3=>simp[Value.oneCell']);(case q4=>omega);intro g5 off5 c5 wa o8 gr8 b8 or8;have O8:=ħ o8;have B8:=ħ b8;clear o8 gr8 b8 or8)
    have X4:=ħ (hx.o.below B8.o (Nat.lt_succ_self _))
    have B4:=ħ (hw.o.trans (B8.o.mono (Nat.le_succ _)))
    have HTK:Hid ((ks.map (Zgh ns)++Ze5 most i).flatMap Zjv++[.int .i64 0,.int .i64 ((i+1:Nat):Int),.int .i64 0,.int .i64 ((i+1:Nat):Int),.int .i64 0,.int .i64 most]=(ks.map (Zgh ns)++Ze5 most (i+1)).flatMap Zjv):=ħ (by
     rw[show Ze5 most (i+1)=Ze5 most i++[⟨0,i+1,0⟩,⟨i+1,0,most⟩] from rfl,← List.append_assoc,← Zwl]
     rfl)
    clear ho hx hw x1 B8
    go_roundw
    case rel=>exact⟨i+1,some ⟨g5,off5,none⟩,c5,by go_num,by omega,rfl,ħ (by rw[← HTK.o];exact O8.o),X4,B4⟩
    case measure=>simp only[intOf];omega
   ·obtain rfl:i=n:=by omega
    have ii:¬ ((i:Int)<(i:Int)):=by omega
    go_wp2
    go_ret
    exact⟨⟨ro,rc,rfl,by rw[HCP.o];exact ho.o.lower (Nat.le_succ _)⟩,hw.o⟩
end
section
open Go.RowKit Go.Sort
def ivs (l:List Int):List Value:=l.map (Value.int .i64)
theorem Zh4 {l:List Int} {i:Nat} (h:i<l.length):(ivs l)[i]?=some (.int .i64 (gv l i)):=by
 unfold ivs gv
 rw[List.getElem?_map,List.getElem?_eq_getElem h,List.getD_eq_getElem?_getD,List.getElem?_eq_getElem h]
 rfl
theorem Zs6 (l:List Int) (i:Nat) (x:Int):(ivs l).set i (.int .i64 x)=ivs (l.set i x):=by
 unfold ivs;rw[List.map_set]
theorem Zmh (x:Int) (N:Nat):madeCells #[Value.int .i64 x] N=(ivs (List.replicate N x)).toArray:=by
 unfold ivs
 apply Array.ext
 ·simp[madeCells]
 ·intro i h1 h2
  simp[madeCells,Nat.mod_one]
def Zgo (w:World) (N:Nat) (r:Option (List Int)) (e:Ending) (w':World):Prop :=
 (match r with
  | none=>e = .returned (.tuple #[.slice none 0 0,.bool false])
  | some v=>∃ V,e = .returned (.tuple #[.slice (some ⟨V,0,none⟩) N N,.bool true])∧Zah w' V 3 (ivs v)∧w.heap.size≤V)∧Below w.heap.size w w'
theorem Zgo.no {w w':World} {N:Nat} {r:Option (List Int)} (h:r=none) (hb:Below w.heap.size w w'):Zgo w N r (.returned (.tuple #[.slice none 0 0,.bool false])) w':=by
 subst h;exact⟨rfl,hb⟩
theorem Zgo.yes {w w':World} {N V:Nat} {r:Option (List Int)} {v:List Int} (h:r=some v) (hv:Zah w' V 3 (ivs v)) (hV:w.heap.size≤V) (hb:Below w.heap.size w w'):Zgo w N r (.returned (.tuple #[.slice (some ⟨V,0,none⟩) N N,.bool true])) w':=by
 subst h;exact⟨⟨V,rfl,hv,hV⟩,hb⟩
def Z76 (cs:List Con):Prop:=∀ c∈cs,-1099511627776≤c.c∧c.c≤1099511627776
theorem Zs7 {cs:List Con} {f:Nat} {v:List Int} (h:Zdx cs v true=none):Zei cs (f+1) v=none:=by
 unfold Zei;rw[h]
theorem Zs8 {cs:List Con} {f:Nat} {v v':List Int} (h:Zdx cs v true=some (v',true)):Zei cs (f+1) v=some v':=by
 unfold Zei;rw[h];rfl
theorem Zzh {cs:List Con} {f:Nat} {v v':List Int} (h:Zdx cs v true=some (v',false)):Zei cs (f+1) v=Zei cs f v':=by
 conv=>lhs;unfold Zei
 rw[h];rfl
theorem Zzi {c:Con} {l:List Con} {v:List Int} {s:Bool} (h:¬ gv v c.r<gv v c.l-c.c):Zdx (c::l) v s=Zdx l v s:=by
 conv=>lhs;unfold Zdx
 rw[if_neg h]
theorem Z3i {c:Con} {l:List Con} {v:List Int} {s:Bool} (h:gv v c.r<gv v c.l-c.c) (h0:c.r=0):Zdx (c::l) v s=none:=by
 unfold Zdx;rw[if_pos h,if_pos h0]
theorem Z6r {c:Con} {l:List Con} {v:List Int} {s:Bool} (h:gv v c.r<gv v c.l-c.c) (h0:¬ c.r=0):Zdx (c::l) v s=Zdx l (v.set c.r (gv v c.l-c.c)) false:=by
 conv=>lhs;unfold Zdx
 rw[if_pos h,if_neg h0]
theorem least_any' (w:World) (ao:Option Addr) (n cp:Nat) (most:Int) (al:Option Addr) (nl cl:Nat) (cs:List Con) (hc:Za7 Zjv w al cs) (hnl:nl=cs.length) (hI:InC (n+1) cs) (hn:n≤1000) (hb:Z76 cs) (hl:nl≤2000) :
  Calls Tryz.prog 115 #[.agg #[.slice ao n cp,.int .i64 most],.slice al nl cl] w fun e w'=>Zgo w (n+1) (Zej n cs) e w':=by
 have HC:=ħ hc
 have HNL:=ħ hnl
 have HI:=ħ hI
 have HBC:=ħ hb
 obtain⟨LL,hLL⟩:∃ LL,Zej n cs=LL:=⟨_,rfl⟩
 rw[hLL]
 have HLL:Hid (LL=Zei cs (n+2) (List.replicate (n+1) 0)):=ħ (by rw[← hLL];rfl)
 have bx:=(Below.refl w.heap.size w).alloc (Nat.le_refl _) (.cells #[.slice ao n cp,.int .i64 most] 139)
 have X1:Hid (Zah (w.alloc (.cells #[.slice ao n cp,.int .i64 most] 139)) w.heap.size 139 [.slice ao n cp,.int .i64 most]):=ħ (heap_alloc_new w _)
 have B1:=ħ bx
 obtain⟨N,hN⟩:∃ N,n+1=N:=⟨_,rfl⟩
 have HN:=ħ hN
 rw[hN] at HI HLL
 clear bx hc hnl hI hb hLL
 rw[hN]
 have hN2:N≤1001:=by omega
 have eN:IntKind.i64.wrap ((n:Int)+1)=(N:Int):=by rw[IntWalk.i64_in _ (by omega)];omega
 have eN2:IntKind.i64.wrap ((N:Int)+1)=((N+1:Nat):Int):=by rw[IntWalk.i64_in _ (by omega)];omega
 have hmk:=run_make_row' (P:=Tryz.prog) 60 3 (.int .i64 0) 8 Tryz.underlying60 Zd5 rfl .i64 .i64 N (by omega) (by omega)
 rw[Zmh] at hmk
 clear hN
 go_enter Tryz.func115,Tryz.ntmps115
 go_upto_region 1 with (fail)
 generalize w.alloc (.cells #[.slice ao n cp,.int .i64 most] 139)=w1 at *
 have x0:=X1.o.cell 0 _ rfl
 have bx:=(Below.refl w1.heap.size w1).alloc (Nat.le_refl _) (.cells (ivs (List.replicate N 0)).toArray 3)
 have V2:Hid (Zah (w1.alloc (.cells (ivs (List.replicate N 0)).toArray 3)) w1.heap.size 3 (ivs (List.replicate N 0))):=ħ (heap_alloc_new _ _)
 have B2:=ħ (B1.o.trans (bx.mono B1.o.size))
 have G2:Hid (w.heap.size≤w1.heap.size):=ħ B1.o.size
 clear bx B1 X1
 go_wp2_with fail
 clear hmk x0
 generalize w1.alloc (.cells (ivs (List.replicate N 0)).toArray 3)=w2 at *
 generalize w1.heap.size=V at *
 go_loopw [19] (fun cc wr=>∃ (i f:Nat) (v:List Int),cc = .int .i64 i∧i+f=N+1∧Hid (LL=Zei cs f v)∧Hid (v.length=N)∧Hid (∀ k,0≤gv v k∧gv v k≤((i*nl:Nat):Int)*1099511627776)∧Hid (Zah wr V 3 (ivs v))∧Hid (Below w.heap.size w wr)) (fun c _=>(N+1-intOf c).toNat)
 case atStart=>exact⟨0,N+1,List.replicate N 0,rfl,by omega,ħ (by rw[HLL.o];congr 1;have:=HN.o;omega),ħ List.length_replicate,ħ (fun k=>by rw[Zgv];simp),V2,B2⟩
 case round =>
  clear V2 B2 HLL eN eN2
  obtain⟨i,f,v0,rfl,hif,hll,hvl,hvb,hv,hw⟩:=hrel
  have e2:IntKind.i64.wrap ((i:Int)+1)=((i+1:Nat):Int):=IntWalk.i64_in _ (by omega)
  by_cases hlt:i<N+1
  ·have ii:(i:Int)<((N+1:Nat):Int):=by omega
   obtain⟨f',rfl⟩:∃ f',f=f'+1:=⟨f-1,by omega⟩
   have HIN:Hid (i*nl≤1001*2000):=ħ (Nat.mul_le_mul (by omega) hl)
   obtain⟨RP,hRP⟩:∃ r,Zdx cs v0 true=r:=⟨_,rfl⟩
   have HRP:Hid (RP=Zdx (cs.drop 0) v0 true):=ħ hRP.symm
   have HRQ:=ħ hRP
   clear hRP
   go_wp2_with fail
   generalize wr=wo at *
   go_loopw [7,23] (fun st cc wr=>∃ (j:Nat) (s:Bool) (v:List Int),cc = .int .i64 j∧st = .bool s∧j≤nl∧Hid (RP=Zdx (cs.drop j) v s)∧Hid (v.length=N)∧Hid (∀ k,0≤gv v k∧gv v k≤((i*nl+j:Nat):Int)*1099511627776)∧Hid (Zah wr V 3 (ivs v))∧Hid (Below w.heap.size w wr)) (fun _ c _=>(nl-intOf c).toNat)
   case atStart=>exact⟨0,true,v0,rfl,rfl,by omega,HRP,hvl,hvb,hv,hw⟩
   case round =>
    clear HRP hv hw hvl hvb
    obtain⟨j,s,v,rfl,rfl,hj,hrp,hvl,hvb,hv,hw⟩:=hrel
    have e3:IntKind.i64.wrap ((j:Int)+1)=((j+1:Nat):Int):=IntWalk.i64_in _ (by omega)
    by_cases hjl:j<nl
    ·have jj:(j:Int)<nl:=by omega
     obtain⟨c,hcj⟩:∃ c,cs[j]?=some c:=⟨_,List.getElem?_eq_getElem (by rw[← HNL.o];exact hjl)⟩
     have hcm:=List.mem_of_getElem? hcj
     obtain⟨g,off,hao,hg,hcc⟩:=(HC.o.below hw.o).at (k:=3) Zc9 j c hcj
     have HAO:=ħ hao
     subst hao
     have s0:=hcc 0 _ rfl
     have s1:=hcc 1 _ rfl
     have s2:=hcc 2 _ rfl
     rw[Nat.add_zero] at s0
     obtain⟨hin1,hin2⟩:=HI.o c hcm
     obtain⟨hb1,hb2⟩:=HBC.o c hcm
     have HDR:Hid (cs.drop j=c::cs.drop (j+1)):=ħ (Zb5 cs j c hcj)
     have HCK:=ħ (fun (h:¬ gv v c.r<gv v c.l-c.c)=>Zzi (l:=cs.drop (j+1)) (s:=s) h)
     have HCB:=ħ (fun (h:gv v c.r<gv v c.l-c.c) (h0:c.r=0)=>Z3i (l:=cs.drop (j+1)) (s:=s) h h0)
     have HCU:=ħ (fun (h:gv v c.r<gv v c.l-c.c) (h0:¬ c.r=0)=>Z6r (l:=cs.drop (j+1)) (s:=s) h h0)
     rw[HDR.o] at hrp
     have q1:=Zh4 (l:=v) (i:=c.l) (by rw[hvl.o];exact hin1)
     have q2:=Zh4 (l:=v) (i:=c.r) (by rw[hvl.o];exact hin2)
     have hv1:=hvb.o c.l
     have hv2:=hvb.o c.r
     clear hcj hcm hcc hg HDR
     generalize hx1:gv v c.l=x1 at *
     generalize hx2:gv v c.r=x2 at *
     generalize Zdx (c::cs.drop (j+1)) v s=PC at *
     generalize c.l=cl' at *
     generalize c.r=cr at *
     generalize c.c=cc' at *
     clear hx1 hx2
     have i1:(cl':Int)<(N:Int):=by omega
     have i2:(cr:Int)<(N:Int):=by omega
     have HPW:Hid (((i*nl+j:Nat):Int)*1099511627776≤4398046511104*1099511627776/1000000):=ħ (by have:=HIN.o;omega)
     have ex:IntKind.i64.wrap (x1-cc')=x1-cc':=IntWalk.i64_in _ (by have:=HPW.o;omega)
     have bx:=(Below.refl wr.heap.size wr).alloc (Nat.le_refl _) (.cells #[.int .i64 (cl':Int),.int .i64 (cr:Int),.int .i64 cc'] 147)
     have K2:Hid (Zah (wr.alloc (.cells #[.int .i64 (cl':Int),.int .i64 (cr:Int),.int .i64 cc'] 147)) wr.heap.size 147 [.int .i64 (cl':Int),.int .i64 (cr:Int),.int .i64 cc']):=ħ (heap_alloc_new _ _)
     have V3:=ħ (hv.o.step bx)
     have B3:=ħ (hw.o.trans (bx.mono hw.o.size))
     have KV:Hid (wr.heap.size≠V):=ħ (by have:=hv.o.lt;omega)
     go_upto_region 8 with (fail)
     clear bx hv hw s0 s1 s2
     generalize wr.alloc (.cells #[.int .i64 (cl':Int),.int .i64 (cr:Int),.int .i64 cc'] 147)=w3 at *
     generalize wr.heap.size=KA at *
     have k0:=K2.o.cell 0 _ rfl
     have k1:=K2.o.cell 1 _ rfl
     have k2:=K2.o.cell 2 _ rfl
     have y1:=V3.o.cell cl' _ q1
     have y2:=V3.o.cell cr _ q2
     clear q1 q2
     by_cases hrel2:x2<x1-cc'
     ·by_cases h0:cr=0
      ·have HNO:Hid (LL=none):=ħ (by rw[hll.o];exact Zs7 (by rw[HRQ.o,hrp.o];exact HCB.o hrel2 h0))
       subst h0
       clear HCK HCB HCU
       go_region
       go_wp2
       go_ret2
       exact Zgo.no HNO.o B3.o.drew
      ·have HUP:Hid (RP=Zdx (cs.drop (j+1)) (v.set cr (x1-cc')) false):=ħ (by rw[hrp.o];exact HCU.o hrel2 h0)
       have hcr0:¬ (cr:Int)=0:=by omega
       have hcr1:((cr:Int)==0)=false:=by rw[beq_eq_false_iff_ne];exact hcr0
       have f2:=V3.o.warm cr
       clear HCK HCB HCU h0
       go_region
       go_wp2_with fail
       have V4:Hid (Zah (w3.drew.setCell ⟨V,cr,none⟩ (.int .i64 (x1-cc'))) V 3 (ivs (v.set cr (x1-cc')))):=ħ (by rw[← Zs6];exact (V3.o.step (Below.refl _ _).drew).set cr _)
       have B4:=ħ (B3.o.drew.setCell (p:=⟨V,cr,none⟩) (by have:=G2.o;exact this) (.int .i64 (x1-cc')))
       have VL:Hid ((v.set cr (x1-cc')).length=N):=ħ (by rw[List.length_set];exact hvl.o)
       have VB:Hid (∀ k,0≤gv (v.set cr (x1-cc')) k∧gv (v.set cr (x1-cc')) k≤((i*nl+(j+1):Nat):Int)*1099511627776):=ħ (fun k=>by
        rw[Zgn _ _ _ _ (by rw[hvl.o];exact hin2)]
        have:=hvb.o k
        by_cases e:cr=k
        ·rw[if_pos e];omega
        ·rw[if_neg e];omega)
       go_roundw
       case rel=>exact⟨j+1,false,_,by go_num,rfl,by omega,HUP,VL,VB,V4,B4⟩
       case measure=>simp only[intOf];omega
     ·have HUP:Hid (RP=Zdx (cs.drop (j+1)) v s):=ħ (by rw[hrp.o];exact HCK.o hrel2)
      clear HCK HCB HCU
      go_region
      go_wp2_with fail
      have V4:=ħ (V3.o.step (Below.refl _ _).drew)
      have B4:=ħ (B3.o.drew)
      have VB:Hid (∀ k,0≤gv v k∧gv v k≤((i*nl+(j+1):Nat):Int)*1099511627776):=ħ (fun k=>by have:=hvb.o k;omega)
      go_roundw
      case rel=>exact⟨j+1,s,v,by go_num,rfl,by omega,HUP,hvl,VB,V4,B4⟩
      case measure=>simp only[intOf];omega
    ·obtain rfl:j=nl:=by omega
     have jj:¬ ((j:Int)<(j:Int)):=by omega
     have HEND:Hid (Zdx cs v0 true=some (v,s)):=ħ (by
      rw[HRQ.o,hrp.o,List.drop_eq_nil_of_le (by rw[← HNL.o];exact Nat.le_refl _)]
      rfl)
     cases s with
     | true =>
      have HSO:Hid (LL=some v):=ħ (by rw[hll.o];exact Zs8 HEND.o)
      go_wp2
      go_ret2
      exact Zgo.yes HSO.o hv.o G2.o hw.o
     | false =>
      have HGO:Hid (LL=Zei cs f' v):=ħ (by rw[hll.o];exact Zzh HEND.o)
      have VB:Hid (∀ k,0≤gv v k∧gv v k≤(((i+1)*j:Nat):Int)*1099511627776):=ħ (fun k=>by have:=hvb.o k;rw[Nat.add_mul,Nat.one_mul];exact this)
      go_wp2_with fail
      go_roundw
      case rel=>exact⟨i+1,f',v,by go_num,by omega,HGO,hvl,VB,hv,hw⟩
      case measure=>simp only[intOf];omega
  ·obtain rfl:i=N+1:=by omega
   have ii:¬ (((N+1:Nat):Int)<((N+1:Nat):Int)):=by omega
   obtain rfl:f=0:=by omega
   have HNO:Hid (LL=none):=ħ hll.o
   go_wp2
   go_ret2
   exact Zgo.no HNO.o hw.o
end
section
open Go.RowKit Go.Sort
def Zcc (x:Int):List Value:=[.int .i64 x]
theorem Zgi:∀ l:List Int,ivs l=l.flatMap Zcc
 | []=>rfl
 | x::l=>by show _::ivs l=_;rw[Zgi l];rfl
theorem Zah.flatI {w:World} {V:Nat} {l:List Int} (h:Zah w V 3 (ivs l)):Za7 Zcc w (some ⟨V,0,none⟩) l:=.inr ⟨V,0,rfl,h.lt,by
 rw[← Zgi]
 intro j u hj
 rw[Nat.zero_add]
 exact h.cell j u hj⟩
def Zc1 (ns:List (List Nat)) (v:List Int) (j:Nat):List Bnd:=(List.range j).map (fun i=>⟨ns.getD i [],gv v (i+1)⟩)
def Ze8 (ns:List (List Nat)) (v:List Int):List Bnd:=Zc1 ns v ns.length
theorem Zn9 {ns:List (List Nat)} {v:List Int} {j:Nat} {s:List Nat} (h:ns[j]?=some s):Zc1 ns v (j+1)=Zc1 ns v j++[⟨s,gv v (j+1)⟩]:=by
 unfold Zc1
 rw[List.range_succ,List.map_append]
 simp[List.getD_eq_getElem?_getD,h]
theorem Zg6 (ns:List (List Nat)) (v:List Int) (j:Nat):(Zc1 ns v j).length=j:=by unfold Zc1;simp
def Z81:Value:=.agg #[.string ⟨#[]⟩,.int .i64 0]
theorem Zu4:(Tryz.prog.info? 87).map (fun i=>(i.zero,i.size,i.bytes))=some (some Z81,2,24):=by kernel_rfl
theorem Zbs (x:Int):(Zcc x).length=1:=rfl
theorem Zg7 {l:List Int} {i:Nat} (h:i<l.length):l[i]?=some (gv l i):=by
 unfold gv
 rw[List.getElem?_eq_getElem h,List.getD_eq_getElem?_getD,List.getElem?_eq_getElem h];rfl
theorem Zmi (w:World) (ao:Option Addr) (n cp:Nat) (most:Int) (ns:List (List Nat)) (vo:Option Addr) (vn vc:Nat) (v:List Int) (hn:n=ns.length) (h:Zcr w ao ns) (hbig:n≤100000) (hv:Za7 Zcc w vo v) (hvn:vn=v.length) (hvl:v.length=n+1) :
  Calls Tryz.prog 116 #[.agg #[.slice ao n cp,.int .i64 most],.slice vo vn vc] w fun e w'=>(∃ ro rc,e = .returned (.slice ro n rc)∧OwnK w' w.heap.size 2 n rc ((Ze8 ns v).flatMap Zfj) ro)∧Below w.heap.size w w':=by
 have HS:=ħ h
 have HV:=ħ hv
 have HN:=ħ hn
 have HVN:=ħ hvn
 have HVL:=ħ hvl
 have bx:=(Below.refl w.heap.size w).alloc (Nat.le_refl _) (.cells #[.slice ao n cp,.int .i64 most] 139)
 have B1:=ħ bx
 have X1:Hid (Zah (w.alloc (.cells #[.slice ao n cp,.int .i64 most] 139)) w.heap.size 139 [.slice ao n cp,.int .i64 most]):=ħ (heap_alloc_new w _)
 have iv:(vn:Int)=((n+1:Nat):Int):=by omega
 have HP:Hid (Ze8 ns v=Zc1 ns v n):=ħ (by rw[hn];rfl)
 rw[HP.o]
 clear bx h hv hn hvn hvl HP
 go_enter Tryz.func116,Tryz.ntmps116
 go_upto_region 1 with (fail)
 generalize w.alloc (.cells #[.slice ao n cp,.int .i64 most] 139)=w1 at *
 have x0:=X1.o.cell 0 _ rfl
 go_wp2_with fail
 clear x0
 go_loopw [4,10] (fun o c wr=>∃ (i:Nat) (ro:Option Addr) (rc:Nat),c = .int .i64 i∧i≤n∧o = .slice ro i rc∧Hid (OwnK wr (w.heap.size+1) 2 i rc ((Zc1 ns v i).flatMap Zfj) ro)∧Hid (w.heap.size+1≤wr.heap.size)∧Hid (Below w.heap.size w wr)) (fun o c _=>(n-intOf c).toNat)
 case atStart=>exact⟨0,none,0,rfl,by omega,rfl,ħ (.nil (by simp[Zc1]) rfl rfl),ħ X1.o.lt,B1⟩
 case round =>
  clear X1 B1
  obtain⟨i,ro,rc,rfl,hi,rfl,ho,hx,hw⟩:=hrel
  have e2:IntKind.i64.wrap ((i:Int)+1)=((i+1:Nat):Int):=IntWalk.i64_in _ (by omega)
  by_cases hlt:i<n
  ·have ii:(i:Int)<n:=by omega
   obtain⟨s,hs⟩:∃ s,ns[i]?=some s:=⟨_,List.getElem?_eq_getElem (by rw[← HN.o];exact hlt)⟩
   obtain⟨g,off,hao,hg,hc⟩:=(HS.o.below hw.o).at i s hs
   have HAO:=ħ hao
   subst hao
   obtain⟨g2,off2,hvo,hg2,hc2⟩:=(HV.o.below hw.o).at (k:=1) Zbs (i+1) (gv v (i+1)) (Zg7 (by rw[HVL.o];omega))
   have HVO:=ħ hvo
   subst hvo
   have c2:=hc2 0 _ rfl
   rw[Nat.mul_one,Nat.add_zero] at c2
   have HTK:Hid ((Zc1 ns v i).flatMap Zfj++[.string (Zad s),.int .i64 (gv v (i+1))]=(Zc1 ns v (i+1)).flatMap Zfj):=ħ (by rw[Zn9 hs,← Zg5];rfl)
   have iv2:((i+1:Nat):Int)<vn:=by omega
   clear hs hg hg2 hc2
   generalize Zad s=y at *
   generalize gv v (i+1)=x at *
   go_wp2_with (at_builtin;refine Zfa 49 87 Z81 2 24 Tryz.underlying49 Zu4 rfl (by omega) (by omega) wr (w.heap.size+1) rfl (.tmp 15) (.tmp 23) rfl ro rc i ((Zc1 ns v i).flatMap Zfj) ?q1 ho.o hx.o 1 1 #[.string y,.int .i64 x] 87 ?q2 rfl (by omega) ?q3 ?q4 ?_;(case q1=>rfl);(case q2=>rfl);(case q3=>simp[Value.oneCell']);(case q4=>omega);intro g5 off5 c5 wa o8 gr8 b8 or8;have O8:=ħ o8;have B8:=ħ b8;clear o8 gr8 b8 or8)
   have B4:=ħ (hw.o.trans (B8.o.mono (Nat.le_succ _)))
   have X4:Hid (w.heap.size+1≤wa.heap.size):=ħ (Nat.le_trans hx.o B8.o.size)
   clear ho hx hw c2 hc B8
   go_roundw
   case rel=>exact⟨i+1,some ⟨g5,off5,none⟩,c5,by go_num,by omega,rfl,ħ (by rw[← HTK.o];exact O8.o),X4,B4⟩
   case measure=>simp only[intOf];omega
  ·obtain rfl:i=n:=by omega
   have ii:¬ ((i:Int)<(i:Int)):=by omega
   go_wp2
   go_ret
   exact⟨⟨ro,rc,rfl,ho.o.lower (Nat.le_succ _)⟩,hw.o⟩
def okA (ns:List (List Nat)) (p:Prd):Bool:=Zg3 p.k p.l p.r p.c p.ks.length&&(Ze4 ns p.l&&Ze4 ns p.r)
def Zh5 (ns:List (List Nat)) (most:Int) (ps:List Prd):Option (List Con):=if (Zcy ns most&&ps.all (okA ns))=true then some (Zcp ns most (ps.map Zpv)) else none
def Zkl (w:World) (so:Value) (r:Option (List Con)) (e:Ending) (w':World):Prop :=
 (match r with
  | none=>e = .returned (.tuple #[so,.slice none 0 0,.bool false])
  | some cs=>∃ ro rc,e = .returned (.tuple #[so,.slice ro cs.length rc,.bool true])∧OwnK w' w.heap.size 3 cs.length rc (cs.flatMap Zjv) ro)∧Below w.heap.size w w'
theorem Zkl.no {w w':World} {so:Value} {r:Option (List Con)} (h:r=none) (hb:Below w.heap.size w w'):Zkl w so r (.returned (.tuple #[so,.slice none 0 0,.bool false])) w':=by
 subst h;exact⟨rfl,hb⟩
theorem Zkl.yes {w w':World} {so:Value} {r:Option (List Con)} {cs:List Con} {ro:Option Addr} {rc m:Nat} (h:r=some cs) (hm:m=cs.length) (ho:OwnK w' w.heap.size 3 m rc (cs.flatMap Zjv) ro) (hb:Below w.heap.size w w'):Zkl w so r (.returned (.tuple #[so,.slice ro m rc,.bool true])) w':=by
 subst h;subst hm;exact⟨⟨ro,rc,rfl,ho⟩,hb⟩
theorem Zf6 {ns:List (List Nat)} {most:Int} (h:Zcy ns most=true):Zjh ns∧ns.length≤16∧(∀ s∈ns,Zbo s=true)∧0≤most∧most≤65535:=by
 unfold Zcy at h
 simp only[Bool.and_eq_true,decide_eq_true_eq,List.all_eq_true] at h
 exact⟨(Zlg ns).1 h.2.2,h.1.1,h.2.1,h.1.2.1,h.1.2.2⟩
theorem Z3j {ns:List (List Nat)} {most:Int} {ps:List Prd} {i:Nat} {p:Prd} (h:ps[i]?=some p) (hp:okA ns p=false):Zh5 ns most ps=none:=by
 unfold Zh5
 rw[if_neg]
 rw[Bool.and_eq_true,List.all_eq_true]
 rintro⟨-,h2⟩
 have:=h2 p (List.mem_of_getElem? h)
 rw[hp] at this
 cases this
theorem Zzj {ns:List (List Nat)} {most:Int} {ps:List Prd} (hg:Zcy ns most=true) (h:∀ p∈ps,okA ns p=true):Zh5 ns most ps=some (Zcp ns most (ps.map Zpv)):=by
 unfold Zh5
 rw[if_pos]
 rw[Bool.and_eq_true,List.all_eq_true]
 exact⟨hg,h⟩
end
section
open Go.RowKit Go.Sort
theorem Z6s (p:Prd):kyC (Zpv p)=Zr8 p.l p.r p.c:=rfl
def Z9a:List Value:=[.slice none 0 0,.int .i64 0]
theorem Zbj.below {w w':World} {P:Nat→Prop} {l:List Prd} {ao:Option Addr} (h:Zbj w P l ao) (hb:Below w.heap.size w w'):Zbj w' P l ao:=by
 rcases h with h | ⟨g,off,h1,h2,h3,h4⟩
 ·exact .inl h
 ·exact .inr ⟨g,off,h1,h2,Nat.lt_of_lt_of_le h3 hb.size,Za1.keep (fun g _ hg=>hb.block g hg) hb.size (fun g hg _=>hg) l g off h2 h3 h4⟩
theorem Zbj.at {w:World} {P:Nat→Prop} {l:List Prd} {ao:Option Addr} (h:Zbj w P l ao) (i:Nat) (p:Prd) (hp:l[i]?=some p):∃ g off vs,ao=some ⟨g,off,none⟩∧g<w.heap.size∧Zai w P p vs∧Za3 w g (off+i*5) vs:=by
 rcases h with h | ⟨g,off,h1,h2,h3,h4⟩
 ·rw[h] at hp;simp at hp
 ·obtain⟨vs,hv1,hv2⟩:=Za1.at l g off i p hp h4
  exact⟨g,off,vs,h1,h3,hv1,hv2⟩
theorem Zu5 (w:World) (P:Nat→Prop) (ps:List Prd) (po:Option Addr) (pn pc:Nat) (ao:Option Addr) (n cp:Nat) (most:Int) (ns:List (List Nat)) (B:Nat) (hT:Tab w B) (hps:Zbj w P ps po) (hpn:pn=ps.length) (hpb:∀ p∈ps,Zib p) (hpl:pn≤10000)
  (hn:n=ns.length) (h:Zcr w ao ns) (hb:∀ s∈ns,NmB s) (hbig:n≤1000) :
  Calls Tryz.prog 114 #[.slice po pn pc,.slice ao n cp,.int .i64 most] w fun e w'=>Zkl w (.agg #[.slice ao n cp,.int .i64 most]) (Zh5 ns most ps) e w':=by
 have HT:=ħ (fun W (hW:Below w.heap.size w W)=>Tab.keep hT (fun k hk=>hW.block k (Nat.lt_of_lt_of_le hk hT.size)) hW.size)
 have HGV:=ħ (fun W (hW:Below w.heap.size w W)=>Zrb ns most ao n cp W B (HT.o W hW) hn (h.below hW) hb (by omega))
 have HIX:=ħ (fun (hg:Zcy ns most=true) W (hW:Below w.heap.size w W) x (hx:NmB x)=>Zix W ao n cp most ns x hn (h.below hW) hb hx (Zf6 hg).1 (by omega))
 have HCN:=ħ (fun (hg:Zcy ns most=true) W (hW:Below w.heap.size w W) al nl cl ks hkr hnl hk hkb hnb=>Zu3 W ao n cp most ns al nl cl ks hn (h.below hW) hb (Zf6 hg).1 (by omega) hkr hnl hk hkb hnb)
 have HVA:=ħ (fun κ l r c xo xn xc W (hW:Below w.heap.size w W) hl hr=>Zq1 κ l r c xo xn xc W B (HT.o W hW) hl hr)
 have HPS:=ħ hps
 have HPN:=ħ hpn
 have HPB:=ħ hpb
 have HBAD:=ħ (fun i p h1 h2=>Z3j (ns:=ns) (most:=most) (ps:=ps) (i:=i) (p:=p) h1 h2)
 have HGOOD:=ħ (fun h1 h2=>Zzj (ns:=ns) (most:=most) (ps:=ps) h1 h2)
 have HNG:Hid (Zcy ns most=false→Zh5 ns most ps=none):=ħ (fun h=>by unfold Zh5;rw[h];rfl)
 have bx:=((Below.refl w.heap.size w).alloc (Nat.le_refl _) (.cells #[.slice none 0 0,.int .i64 0] 139)).alloc (by simp) (.cells #[.slice ao n cp,.int .i64 most] 139)
 have B1:=ħ bx
 have Z1:Hid (Zah ((w.alloc (.cells #[.slice none 0 0,.int .i64 0] 139)).alloc (.cells #[.slice ao n cp,.int .i64 most] 139)) w.heap.size 139 Z9a):=ħ (Zar w _ _)
 have X1:Hid (Zah ((w.alloc (.cells #[.slice none 0 0,.int .i64 0] 139)).alloc (.cells #[.slice ao n cp,.int .i64 most] 139)) (w.heap.size+1) 139 [.slice ao n cp,.int .i64 most]):=ħ (heap_alloc2_new w _ _)
 clear bx h hb hn hT hps hpn hpb
 obtain⟨RR,hRR⟩:∃ R,Zh5 ns most ps=R:=⟨_,rfl⟩
 rw[hRR] at HBAD HGOOD HNG ⊢
 clear hRR
 obtain⟨gb,hgb⟩:∃ b,Zcy ns most=b:=⟨_,rfl⟩
 rw[hgb] at HGV HIX HCN HGOOD HNG
 clear hgb
 go_enter Tryz.func114,Tryz.ntmps114
 go_upto_region 2 with (fail)
 generalize (w.alloc (.cells #[.slice none 0 0,.int .i64 0] 139)).alloc (.cells #[.slice ao n cp,.int .i64 most] 139)=w1 at *
 obtain⟨A,hA⟩:∃ A,w.heap.size+1=A:=⟨_,rfl⟩
 rw[hA] at X1 ⊢
 have HA:Hid (A=w.heap.size+1):=ħ hA.symm
 clear hA
 go_wp2_with fail
 refine (HGV.o w1 B1.o).mono ?_
 rintro e w2 ⟨rfl,b2⟩
 have B2:=ħ (B1.o.trans (b2.mono B1.o.size))
 have Z2:=ħ (Z1.o.step b2)
 have X2:=ħ (X1.o.step b2)
 clear b2 B1 Z1 X1 HGV
 cases gb with
 | false =>
  have HNO:=ħ (HNG.o rfl)
  have x0:=X2.o.cell 0 _ rfl
  have x1:=X2.o.cell 1 _ rfl
  go_wp2_with (refine Zab rfl 139 (.tmp 6) (.tmp 20) rfl w.heap.size #[.slice ao n cp,.int .i64 most] ?s1 ?s2 139 _ Z2.o (Ze7 _ _) rfl (by simp[Value.oneCell']) ?_;(case s1=>rfl);(case s2=>rfl);intro w9 s9 u9;have S9:=ħ s9;have U9:=ħ u9;clear s9 u9)
  exact bodyPost_ret (Zal (p:=6) (u:=7) (v:=8) (by kernel_rfl) _ _ w.heap.size 139 _ (0,0) _ rfl S9.o Tryz.underlying139 rfl (Ze7 _ _)) rfl (Zkl.no HNO.o (U9.o.below B2.o (Nat.le_refl _)))
 | true =>
  have HI:=ħ (HIX.o rfl)
  have HC:=ħ (HCN.o rfl)
  have HG:=ħ (HGOOD.o rfl)
  clear HIX HCN HGOOD HNG
  go_wp2_with fail
  go_loopw [10,23] (fun o cc wr=>∃ (i:Nat) (ro:Option Addr) (rc:Nat),cc = .int .i64 i∧i≤pn∧o = .slice ro i rc∧Hid (∀ j p,j<i→ps[j]?=some p→okA ns p=true)∧Hid (OwnK wr (A+1) 3 i rc (((ps.take i).map Zpv).flatMap kyC) ro)∧Hid (Zah wr w.heap.size 139 Z9a)∧Hid (Zah wr A 139 [.slice ao n cp,.int .i64 most])∧Hid (Below w.heap.size w wr)) (fun o c _=>(pn-intOf c).toNat)
  case atStart=>exact⟨0,none,0,rfl,by omega,rfl,ħ (fun j p hj=>absurd hj (Nat.not_lt_zero _)),ħ (.nil (by simp) rfl rfl),Z2,X2,B2⟩
  case round =>
   clear B2 Z2 X2
   obtain⟨i,ro,rc,rfl,hi,rfl,hok,ho,hz,hx,hw⟩:=hrel
   have e2:IntKind.i64.wrap ((i:Int)+1)=((i+1:Nat):Int):=IntWalk.i64_in _ (by omega)
   by_cases hlt:i<pn
   ·have ii:(i:Int)<pn:=by omega
    obtain⟨p,hp⟩:∃ p,ps[i]?=some p:=⟨_,List.getElem?_eq_getElem (by rw[← HPN.o];exact hlt)⟩
    obtain⟨g,off,vs,hao,hg,hpc,hrd⟩:=(HPS.o.below hw.o).at i p hp
    have HAO:=ħ hao
    subst hao
    obtain⟨xa,xn,xc,hvf,hxn⟩:=hpc.form
    rw[hvf] at hrd
    have r0:=hrd 0 _ rfl
    have r1:=hrd 1 _ rfl
    have r2:=hrd 2 _ rfl
    have r3:=hrd 3 _ rfl
    have r4:=hrd 4 _ rfl
    rw[Nat.add_zero] at r0
    obtain⟨⟨hlb,hll⟩,⟨hrb,hrl⟩⟩:NmB p.l∧NmB p.r:=by
     have:=HPB.o p (List.mem_of_getElem? hp)
     cases p with
     | mk k l r c ks=>unfold Zib at this;exact⟨this.1,this.2.1⟩
    have HLB:Hid (NmB p.l):=ħ ⟨hlb,hll⟩
    have HRB:Hid (NmB p.r):=ħ ⟨hrb,hrl⟩
    have HBD:Hid (okA ns p=false→RR=none):=ħ (fun h=>HBAD.o i p hp h)
    have HOK:Hid (okA ns p=(Zg3 p.k p.l p.r p.c xn&&(Ze4 ns p.l&&Ze4 ns p.r))):=ħ (by rw[hxn];rfl)
    have HPI:=ħ hp
    have KO:=ħ (fun W=>Zje p.k p.l p.r p.c (.slice xa xn xc) rfl W)
    have HVV:=ħ (fun W hW=>HVA.o p.k p.l p.r p.c xa xn xc W hW HLB.o HRB.o)
    have HI1:=ħ (fun W hW=>HI.o W hW p.l HLB.o)
    have HI2:=ħ (fun W hW=>HI.o W hW p.r HRB.o)
    have HN1:=ħ (Zlh (ns:=ns) (s:=p.l))
    have HN2:=ħ (Zlh (ns:=ns) (s:=p.r))
    have HTK:Hid (((ps.take i).map Zpv).flatMap kyC++Zr8 p.l p.r p.c=((ps.take (i+1)).map Zpv).flatMap kyC):=ħ (by rw[← Z6s,Zg5,List.take_add_one,hp];simp)
    have HKL:Hid ((Zr8 p.l p.r p.c).length=3):=ħ rfl
    have HK1:Hid (∀ u∈Zr8 p.l p.r p.c,u.oneCell'=true):=ħ (Zsv (Zpv p))
    clear hrd hpc hvf hp hg hlb hll hrb hrl hxn
    have HOKP:Hid (∀ b,okA ns p=b→okA ns p=b):=ħ (fun b h=>h)
    obtain⟨okp,hokp⟩:∃ b,okA ns p=b:=⟨_,rfl⟩
    have HOKE:=ħ hokp
    rw[hokp] at HOK HBD
    clear hokp HOKP
    generalize Zg3 p.k p.l p.r p.c xn=vb at *
    generalize Ze4 ns p.l=kl at *
    generalize Ze4 ns p.r=kr at *
    generalize Zh3 ns p.l=il at *
    generalize Zh3 ns p.r=ir at *
    generalize Zr8 p.l p.r p.c=kv at *
    generalize p.k=q0 at *
    generalize Zad p.l=q1 at *
    generalize Zad p.r=q2 at *
    generalize p.c=q3 at *
    go_upto_region 8 with (fail)
    have bx:=(Below.refl wr.heap.size wr).alloc (Nat.le_refl _) (.cells #[.int .i64 q0,.string q1,.string q2,.int .i64 q3,.slice xa xn xc] 25)
    have XP:Hid (Zah (wr.alloc (.cells #[.int .i64 q0,.string q1,.string q2,.int .i64 q3,.slice xa xn xc] 25)) wr.heap.size 25 [.int .i64 q0,.string q1,.string q2,.int .i64 q3,.slice xa xn xc]):=ħ (heap_alloc_new _ _)
    have Z3:=ħ (hz.o.step bx)
    have X3:=ħ (hx.o.step bx)
    have O3:=ħ (ho.o.below bx)
    have B3:=ħ (hw.o.trans (bx.mono hw.o.size))
    clear bx hz hx ho hw r0 r1 r2 r3 r4
    generalize wr.alloc (.cells #[.int .i64 q0,.string q1,.string q2,.int .i64 q3,.slice xa xn xc] 25)=w3 at *
    generalize wr.heap.size=PA at *
    go_wp2_with (refine wpList_load_row rfl 25 (.tmp 12) rfl PA ?la1 25 #[.int .i64 q0,.string q1,.string q2,.int .i64 q3,.slice xa xn xc] (0,0) _ XP.o Tryz.underlying25 rfl (Zae _ rfl) ?_;(case la1=>rfl))
    refine (HVV.o w3 B3.o).mono ?_
    rintro e w4 ⟨rfl,b4⟩
    have B4:=ħ (B3.o.trans (b4.mono B3.o.size))
    have Z4:=ħ (Z3.o.step b4)
    have X4:=ħ (X3.o.step b4)
    have XP4:=ħ (XP.o.step b4)
    have O4:=ħ (O3.o.below b4)
    clear b4 B3 Z3 X3 XP O3 HVV
    have x0:=X4.o.cell 0 _ rfl
    have x1:=X4.o.cell 1 _ rfl
    have p1:=XP4.o.cell 1 _ rfl
    cases vb with
    | false =>
     have HNO:=ħ (HBD.o (by rw[HOK.o];rfl))
     clear p1 HBD HOK
     go_wp2_with (refine Zab rfl 139 (.tmp 6) (.tmp 44) rfl w.heap.size #[.slice ao n cp,.int .i64 most] ?s1 ?s2 139 _ Z4.o (Ze7 _ _) rfl (by simp[Value.oneCell']) ?_;(case s1=>rfl);(case s2=>rfl);intro w9 s9 u9;have S9:=ħ s9;have U9:=ħ u9;clear s9 u9)
     exact bodyPost_ret (Zal (p:=6) (u:=7) (v:=8) (by kernel_rfl) _ _ w.heap.size 139 _ (0,0) _ rfl S9.o Tryz.underlying139 rfl (Ze7 _ _)) rfl (Zkl.no HNO.o (U9.o.below B4.o (Nat.le_refl _)))
    | true =>
     go_wp2_with fail
     refine (HI1.o w4 B4.o).mono ?_
     rintro e w5 ⟨rfl,b5⟩
     have B5:=ħ (B4.o.trans (b5.mono B4.o.size))
     have Z5:=ħ (Z4.o.step b5)
     have X5:=ħ (X4.o.step b5)
     have XP5:=ħ (XP4.o.step b5)
     have O5:=ħ (O4.o.below b5)
     clear b5 B4 Z4 X4 XP4 O4 HI1 x0 x1 p1
     have x0:=X5.o.cell 0 _ rfl
     have x1:=X5.o.cell 1 _ rfl
     have p2:=XP5.o.cell 2 _ rfl
     by_cases hil:il<0
     ·have HNO:=ħ (HBD.o (by rw[HOK.o,HN1.o.1 hil];simp))
      clear p2 HBD HOK
      go_wp2_with (refine Zab rfl 139 (.tmp 6) (.tmp 44) rfl w.heap.size #[.slice ao n cp,.int .i64 most] ?s1 ?s2 139 _ Z5.o (Ze7 _ _) rfl (by simp[Value.oneCell']) ?_;(case s1=>rfl);(case s2=>rfl);intro w9 s9 u9;have S9:=ħ s9;have U9:=ħ u9;clear s9 u9)
      exact bodyPost_ret (Zal (p:=6) (u:=7) (v:=8) (by kernel_rfl) _ _ w.heap.size 139 _ (0,0) _ rfl S9.o Tryz.underlying139 rfl (Ze7 _ _)) rfl (Zkl.no HNO.o (U9.o.below B5.o (Nat.le_refl _)))
     ·go_wp2_with fail
      refine (HI2.o w5 B5.o).mono ?_
      rintro e w6 ⟨rfl,b6⟩
      have B6:=ħ (B5.o.trans (b6.mono B5.o.size))
      have Z6:=ħ (Z5.o.step b6)
      have X6:=ħ (X5.o.step b6)
      have XP6:=ħ (XP5.o.step b6)
      have O6:=ħ (O5.o.below b6)
      clear b6 B5 Z5 X5 XP5 O5 HI2 x0 x1 p2
      by_cases hir:ir<0
      ·have HNO:=ħ (HBD.o (by rw[HOK.o,HN2.o.1 hir];simp))
       have x0:=X6.o.cell 0 _ rfl
       have x1:=X6.o.cell 1 _ rfl
       clear HBD HOK
       go_wp2_with (refine Zab rfl 139 (.tmp 6) (.tmp 44) rfl w.heap.size #[.slice ao n cp,.int .i64 most] ?s1 ?s2 139 _ Z6.o (Ze7 _ _) rfl (by simp[Value.oneCell']) ?_;(case s1=>rfl);(case s2=>rfl);intro w9 s9 u9;have S9:=ħ s9;have U9:=ħ u9;clear s9 u9)
       exact bodyPost_ret (Zal (p:=6) (u:=7) (v:=8) (by kernel_rfl) _ _ w.heap.size 139 _ (0,0) _ rfl S9.o Tryz.underlying139 rfl (Ze7 _ _)) rfl (Zkl.no HNO.o (U9.o.below B6.o (Nat.le_refl _)))
      ·have HOK2:Hid (okp=true):=ħ (by
        rw[HOK.o]
        cases kl with
        | false=>(have:=HN1.o.2 rfl;omega)
        | true=>cases kr with
         | false=>(have:=HN2.o.2 rfl;omega)
         | true=>rfl)
       have HOKP:Hid (okA ns p=true):=ħ (HOKE.o.trans HOK2.o)
       clear HBD HOK
       go_upto_region 10 with (fail)
       go_wp2_with (refine wpList_load_row rfl 25 (.tmp 12) rfl PA ?la2 25 #[.int .i64 q0,.string q1,.string q2,.int .i64 q3,.slice xa xn xc] (0,0) _ XP6.o Tryz.underlying25 rfl (Zae _ rfl) ?_;(case la2=>rfl))
       refine (KO.o w6).mono ?_
       rintro e w7 ⟨rfl,b7⟩
       have B7:=ħ (B6.o.trans (b7.mono B6.o.size))
       have Z7:=ħ (Z6.o.step b7)
       have X7:=ħ (X6.o.step b7)
       have O7:=ħ (O6.o.below b7)
       clear b7 B6 Z6 X6 XP6 O6 KO
       have hkl3:=HKL.o
       match kv,hkl3 with
       | [k0,k1,k2],_ =>
       go_wp2_with (at_builtin;refine Zfa 120 123 Z71 3 40 Tryz.underlying120 Zim rfl (by omega) (by omega) w7 (A+1) rfl (.tmp 45) (.tmp 48) rfl ro rc i (((ps.take i).map Zpv).flatMap kyC) ?q1 O7.o X7.o.lt 1 1 #[k0,k1,k2] 123 ?q2 rfl (by omega) HK1.o ?q4 ?_;(case q1=>rfl);(case q2=>rfl);(case q4=>omega);intro g5 off5 c5 wa o8 gr8 b8 or8;have O8:=ħ o8;have B8:=ħ b8;clear o8 gr8 b8 or8)
       have X9:=ħ (X7.o.below B8.o (Nat.lt_succ_self _))
       have Z9:=ħ (Z7.o.below B8.o (by have:=HA.o;omega))
       have B9:=ħ (B7.o.trans (B8.o.mono (by have:=HA.o;omega)))
       clear X7 Z7 B7 O7 B8
       go_roundw
       case rel=>exact⟨i+1,some ⟨g5,off5,none⟩,c5,by go_num,by omega,rfl,ħ (fun j p' hj hp'=>by
        rcases Nat.lt_succ_iff_lt_or_eq.1 hj with h1 | rfl
        ·exact hok.o j p' h1 hp'
        ·rw[HPI.o] at hp';cases hp';exact HOKP.o),ħ (by rw[← HTK.o];exact O8.o),Z9,X9,B9⟩
       case measure=>simp only[intOf];omega
   ·obtain rfl:i=pn:=by omega
    have ii:¬ ((i:Int)<(i:Int)):=by omega
    have HRD:=ħ (HG.o (fun p hp=>by
     obtain⟨j,hj⟩:=List.mem_iff_getElem?.1 hp
     exact hok.o j p (by have:=(List.getElem?_eq_some_iff.1 hj).1;have:=HPN.o;omega) hj))
    have HKN:Hid (Zio ns (ps.map Zpv)∧∀ k∈ps.map Zpv,NmB k.l∧NmB k.r):=ħ ⟨fun k hk=>by
     obtain⟨p,hp,rfl⟩:=List.mem_map.1 hk
     obtain⟨j,hj⟩:=List.mem_iff_getElem?.1 hp
     have:=hok.o j p (by have:=(List.getElem?_eq_some_iff.1 hj).1;have:=HPN.o;omega) hj
     unfold okA at this
     rw[Bool.and_eq_true,Bool.and_eq_true] at this
     exact this.2,fun k hk=>by
     obtain⟨p,hp,rfl⟩:=List.mem_map.1 hk
     have:=HPB.o p hp
     cases p with
     | mk k l r c ks=>unfold Zib at this;exact⟨this.1,this.2.1⟩⟩
    have HLN:Hid (i=(ps.map Zpv).length):=ħ (by rw[List.length_map];exact HPN.o)
    have HFL:Hid (OwnK wr (A+1) 3 i rc ((ps.map Zpv).flatMap kyC) ro):=ħ (by have:=ho.o;rwa [List.take_of_length_le (by rw[← HPN.o];exact Nat.le_refl _)] at this)
    have HCC:=ħ (fun W (hW:Below w.heap.size w W) (hb:Below wr.heap.size wr W)=>HC.o W hW ro i rc (ps.map Zpv) ((HFL.o.flatR (fun _=>rfl) HLN.o).below hb) HLN.o HKN.o.1 HKN.o.2 (by omega))
    generalize Zcp ns most (ps.map Zpv)=CS at *
    clear HC HG hok ho HKN HFL
    go_upto_region 12 with (fail)
    refine Zaw [0,1,2] [3,4,5,6] (fun w'=>Zah w' A 139 [.slice ao n cp,.int .i64 most]) (by kernel_rfl) (by kernel_rfl) (by kernel_rfl) (fun _ _ d _ _ h=>by cases d<;>exact h) (hx.o.step (Below.refl _ _).drew) ?_
    simp only[Zbx,List.filterMap_cons,List.filterMap_nil,List.getElem?_cons_zero,List.getElem?_cons_succ,Option.map_some,List.map_cons,List.map_nil]
    apply Exists.intro
    refine⟨?hh,?ht⟩
    case hh =>
     intro w' hw'
     have x0:=hw'.cell 0 _ rfl
     have x1:=hw'.cell 1 _ rfl
     repeat still_step
     exact wpStill_nil rfl
    case ht =>
     have BD:=ħ (Below.refl wr.heap.size wr).drew
     have Bd:=ħ (hw.o.trans (BD.o.mono hw.o.size))
     have Xd:=ħ (hx.o.step BD.o)
     have Zd:=ħ (hz.o.step BD.o)
     have HCD:=ħ (HCC.o wr.drew Bd.o BD.o)
     generalize hwd:wr.drew=wd at *
     clear hwd hx hz hw HCC BD
     refine Zaf ?_
     go_wp2_with fail
     refine HCD.o.mono ?_
     rintro e w7 ⟨⟨r2,c2,rfl,ho7⟩,b7⟩
     have B7:=ħ (Bd.o.trans (b7.mono Bd.o.size))
     have Z7:=ħ (Zd.o.step b7)
     have X7:=ħ (Xd.o.step b7)
     have O7:=ħ ho7
     have LE7:Hid (w.heap.size≤wd.heap.size):=ħ Bd.o.size
     have LT7:Hid (w.heap.size<wd.heap.size):=ħ Zd.o.lt
     clear b7 ho7 HCD Bd Zd Xd
     go_wp2_with fail
     refine Zaa ⟨X7.o,?_⟩
     refine Zaf ?_
     go_wp2_with (refine Zab rfl 139 (.tmp 6) (.tmp 51) rfl w.heap.size #[.slice ao n cp,.int .i64 most] ?s1 ?s2 139 _ Z7.o (Ze7 _ _) rfl (by simp[Value.oneCell']) ?_;(case s1=>rfl);(case s2=>rfl);intro w9 s9 u9;have S9:=ħ s9;have U9:=ħ u9;clear s9 u9)
     have X9:=ħ (X7.o.upd U9.o (by have:=HA.o;omega))
     have O9:=ħ ((O7.o.lower LE7.o).upd U9.o (fun e=>by have:=(O7.o.blk_lt e).1;have:=LT7.o;omega))
     refine Zaa ⟨X9.o,?_⟩
     refine Zaf ?_
     go_wp2_with fail
     refine Zaa ⟨X9.o,?_⟩
     refine Zaz ?_
     go_wp2_with fail
     exact bodyPost_ret (Zal (p:=6) (u:=7) (v:=8) (by kernel_rfl) _ _ w.heap.size 139 _ (0,0) _ rfl S9.o Tryz.underlying139 rfl (Ze7 _ _)) rfl (Zkl.yes HRD.o rfl O9.o (U9.o.below B7.o (Nat.le_refl _)))
end
section
open Go.RowKit Go.Sort
theorem Z6t {κ:Int} {l r:List Nat} {c:Int} {n:Nat} (h:Zg3 κ l r c n=true):-1099511627776≤c∧c<1099511627776:=by
 unfold Zg3 at h
 simp only[Bool.and_eq_true,decide_eq_true_eq] at h
 exact h.2.2.2.2
theorem Zu6 {ns:List (List Nat)} {most:Int} {ps:List Prd} {cs:List Con} (h:Zh5 ns most ps=some cs):Zcy ns most=true∧(∀ p∈ps,okA ns p=true)∧Zio ns (ps.map Zpv)∧cs=Zcp ns most (ps.map Zpv)∧InC (ns.length+1) cs∧Z76 cs∧cs.length=ps.length+2*ns.length:=by
 unfold Zh5 at h
 by_cases hb:(Zcy ns most&&ps.all (okA ns))=true
 ·rw[if_pos hb] at h
  cases h
  rw[Bool.and_eq_true,List.all_eq_true] at hb
  have hk:Zio ns (ps.map Zpv):=fun k hk=>by
   obtain⟨p,hp,rfl⟩:=List.mem_map.1 hk
   have:=hb.2 p hp
   unfold okA at this
   rw[Bool.and_eq_true,Bool.and_eq_true] at this
   exact this.2
  refine⟨hb.1,hb.2,hk,rfl,Zfg hk most,fun c hc=>?_,by unfold Zcp;rw[List.length_append,List.length_map,List.length_map,Zho]⟩
  unfold Zcp at hc
  rcases List.mem_append.1 hc with hc | hc
  ·obtain⟨k,hk,rfl⟩:=List.mem_map.1 hc
   obtain⟨p,hp,rfl⟩:=List.mem_map.1 hk
   have h1:=hb.2 p hp
   unfold okA at h1
   rw[Bool.and_eq_true] at h1
   have h2:=Z6t h1.1
   have h3:(Zgh ns (Zpv p)).c=p.c:=rfl
   omega
  ·obtain⟨-,-,-,h0,h1⟩:=Zf6 hb.1
   obtain⟨i,hi,h2 | h2⟩:=(Zd2 most c ns.length).1 hc
   ·subst h2;simp only;omega
   ·subst h2;simp only;omega
 ·rw[if_neg hb] at h;cases h
def Ziy (w:World) (ns:List (List Nat)) (r:Option (List Int)) (e:Ending) (w':World):Prop :=
 (match r with
  | none=>e = .returned (.tuple #[.slice none 0 0,.bool false])
  | some v=>∃ ro rc,e = .returned (.tuple #[.slice ro ns.length rc,.bool true])∧OwnK w' w.heap.size 2 ns.length rc ((Ze8 ns v).flatMap Zfj) ro)∧Below w.heap.size w w'
theorem Ziy.no {w w':World} {ns:List (List Nat)} {r:Option (List Int)} (h:r=none) (hb:Below w.heap.size w w'):Ziy w ns r (.returned (.tuple #[.slice none 0 0,.bool false])) w':=by
 subst h;exact⟨rfl,hb⟩
theorem Ziy.yes {w w':World} {ns:List (List Nat)} {r:Option (List Int)} {v:List Int} {ro:Option Addr} {n rc:Nat} (h:r=some v) (hn:n=ns.length) (ho:OwnK w' w.heap.size 2 n rc ((Ze8 ns v).flatMap Zfj) ro) (hb:Below w.heap.size w w'):Ziy w ns r (.returned (.tuple #[.slice ro n rc,.bool true])) w':=by
 subst h;subst hn;exact⟨⟨ro,rc,rfl,ho⟩,hb⟩
theorem Zgo.open {w w':World} {N:Nat} {r:Option (List Int)} {e:Ending} (h:Zgo w N r e w'):(r=none∧e = .returned (.tuple #[.slice none 0 0,.bool false])∧Below w.heap.size w w')∨(∃ v V,r=some v∧e = .returned (.tuple #[.slice (some ⟨V,0,none⟩) N N,.bool true])∧Zah w' V 3 (ivs v)∧w.heap.size≤V∧Below w.heap.size w w'):=by
 obtain⟨h1,h2⟩:=h
 cases r with
 | none=>exact .inl ⟨rfl,h1,h2⟩
 | some v=>obtain⟨V,h3,h4,h5⟩:=h1;exact .inr ⟨v,V,rfl,h3,h4,h5,h2⟩
theorem Zkl.open {w w':World} {so:Value} {r:Option (List Con)} {e:Ending} (h:Zkl w so r e w'):(r=none∧e = .returned (.tuple #[so,.slice none 0 0,.bool false])∧Below w.heap.size w w')∨(∃ cs ro rc,r=some cs∧e = .returned (.tuple #[so,.slice ro cs.length rc,.bool true])∧OwnK w' w.heap.size 3 cs.length rc (cs.flatMap Zjv) ro∧Below w.heap.size w w'):=by
 obtain⟨h1,h2⟩:=h
 cases r with
 | none=>exact .inl ⟨rfl,h1,h2⟩
 | some v=>obtain⟨ro,rc,h3,h4⟩:=h1;exact .inr ⟨v,ro,rc,rfl,h3,h4,h2⟩
end
section
open Go.RowKit Go.Sort Go.Maps
theorem Zu7 (k:Ky) (hc:inC k.c=true) (w:World):Calls Tryz.prog 155 #[.agg (kyC k).toArray] w fun e w'=>e = .returned (.agg (kyC (Zvy k)).toArray)∧RowKit.Below w.heap.size w w':=by
 have h:=Zkf k.l k.r k.c w
 rw[Z8w k.c hc] at h
 exact h
theorem Zrc (k:Ky) (hb:KyB k) (hc:inC k.c=true) (w:World):Calls Tryz.prog 181 #[.agg (kyC k).toArray] w fun e w'=>e = .returned (.tuple #[.agg (kyC (Zft k).1).toArray,.bool (Zft k).2])∧RowKit.Below w.heap.size w w':=by
 have HO:=ħ (fun W=>Zu7 k hc W)
 have hl:=Ze1 k.r k.l hb.2 hb.1
 have HV:Hid (Zft k=if ltL k.r k.l=true then (Zvy k,false) else (k,true)):=ħ rfl
 have HK:Hid (kyC k=[.string (Zad k.l),.string (Zad k.r),.int .i64 k.c]):=ħ rfl
 have HK2:Hid (kyC (Zvy k)=[.string (Zad k.r),.string (Zad k.l),.int .i64 (-k.c-1)]):=ħ rfl
 have bx:=((RowKit.Below.refl w.heap.size w).alloc (Nat.le_refl _) (.cells (kyC k).toArray 123)).alloc (by simp) (.cells #[.string ⟨#[]⟩,.string ⟨#[]⟩,.int .i64 0] 123)
 have B1:=ħ bx
 have X1:Hid (Zah ((w.alloc (.cells (kyC k).toArray 123)).alloc (.cells #[.string ⟨#[]⟩,.string ⟨#[]⟩,.int .i64 0] 123)) w.heap.size 123 (kyC k)):=ħ (Zar w _ _)
 have Z1:Hid (Zah ((w.alloc (.cells (kyC k).toArray 123)).alloc (.cells #[.string ⟨#[]⟩,.string ⟨#[]⟩,.int .i64 0] 123)) (w.heap.size+1) 123 [.string ⟨#[]⟩,.string ⟨#[]⟩,.int .i64 0]):=ħ (heap_alloc2_new w _ _)
 rw[HK.o] at B1 X1 Z1 HO
 clear bx hc
 have hl2:=Ze1 k.l k.r hb.1 hb.2
 have hir:=Ze1 k.r k.r hb.2 hb.2
 rw[Za4] at hir
 obtain⟨b,hbv⟩:∃ b,ltL k.r k.l=b:=⟨_,rfl⟩
 have hcs:if b=true then Op.bytesLess (Zad k.l).toList (Zad k.r).toList=false∧((Zad k.l).toList==(Zad k.r).toList)=false else Op.bytesLess (Zad k.l).toList (Zad k.r).toList=true∨((Zad k.l).toList==(Zad k.r).toList)=true:=by
  cases b with
  | true =>
   rw[if_pos rfl]
   constructor
   ·rw[hl2]
    cases h3:ltL k.l k.r with
    | false=>rfl
    | true=>have:=Zdh _ _ _ hbv h3;rw[Za4] at this;cases this
   ·cases h3:((Zad k.l).toList==(Zad k.r).toList) with
    | false=>rfl
    | true=>have:=eq_of_beq h3;rw[hbv,this,hir] at hl;cases hl
  | false =>
   rw[if_neg (by simp)]
   rcases Zey k.l k.r with h | h | h
   ·exact .inl (hl2.trans h)
   ·refine .inr ?_;rw[h];exact beq_self_eq_true _
   ·rw[hbv] at h;cases h
 rw[hbv] at hl HV
 clear hbv hl2 hir
 cases b with
 | true =>
  rw[if_pos rfl] at hcs
  obtain⟨hc1,hc2⟩:=hcs
  have HV2:Hid (Zft k=(Zvy k,false)):=ħ HV.o
  rw[HV2.o,HK.o]
  rw[HK2.o] at HO ⊢
  clear HK HV HV2 HK2 hb
  generalize Zad k.l=y1 at *
  generalize Zad k.r=y2 at *
  generalize -k.c-1=y4 at *
  generalize k.c=y3 at *
  go_enter Tryz.func181,Tryz.ntmps181
  go_upto_region 1 with (fail)
  generalize (w.alloc (.cells #[.string y1,.string y2,.int .i64 y3] 123)).alloc (.cells #[.string ⟨#[]⟩,.string ⟨#[]⟩,.int .i64 0] 123)=w1 at *
  have x0:=X1.o.cell 0 _ rfl
  have x1:=X1.o.cell 1 _ rfl
  have x2:=X1.o.cell 2 _ rfl
  go_wp2_with fail
  refine (HO.o w1).mono ?_
  rintro e w2 ⟨rfl,b2⟩
  have B2:=ħ (B1.o.trans (b2.mono B1.o.size))
  have Z2:=ħ (Z1.o.step b2)
  clear b2 x0 x1 x2
  go_wp2_with (refine Zab rfl 123 (.tmp 2) (.tmp 10) rfl (w.heap.size+1) #[.string y2,.string y1,.int .i64 y4] ?s1 ?s2 123 _ Z2.o (Zg1 _ rfl) rfl (by simp[Value.oneCell']) ?_;(case s1=>rfl);(case s2=>rfl);intro w9 s9 u9;have S9:=ħ s9;have U9:=ħ u9;clear s9 u9)
  exact bodyPost_ret (Zbz (p:=2) (u:=3) (by kernel_rfl) _ _ (w.heap.size+1) 123 _ (0,0) _ rfl S9.o Tryz.underlying123 rfl (Zg1 _ rfl)) rfl ⟨rfl,U9.o.below B2.o (Nat.le_succ _)⟩
 | false =>
  rw[if_neg (by simp)] at hcs
  have HV2:Hid (Zft k=(k,true)):=ħ HV.o
  rw[HV2.o,HK.o]
  clear HK HV HV2 HK2 HO
  generalize Zad k.l=y1 at *
  generalize Zad k.r=y2 at *
  generalize k.c=y3 at *
  clear hb hl
  go_enter Tryz.func181,Tryz.ntmps181
  go_upto_region 1 with (fail)
  generalize (w.alloc (.cells #[.string y1,.string y2,.int .i64 y3] 123)).alloc (.cells #[.string ⟨#[]⟩,.string ⟨#[]⟩,.int .i64 0] 123)=w1 at *
  have x0:=X1.o.cell 0 _ rfl
  have x1:=X1.o.cell 1 _ rfl
  have x2:=X1.o.cell 2 _ rfl
  rcases hcs with hcs | hcs
  all_goals go_wp2_with (refine Zab rfl 123 (.tmp 2) (.tmp 11) rfl (w.heap.size+1) #[.string y1,.string y2,.int .i64 y3] ?s1 ?s2 123 _ Z1.o (Zg1 _ rfl) rfl (by simp[Value.oneCell']) ?_;(case s1=>rfl);(case s2=>rfl);intro w9 s9 u9;have S9:=ħ s9;have U9:=ħ u9;clear s9 u9)
  all_goals exact bodyPost_ret (Zbz (p:=2) (u:=3) (by kernel_rfl) _ _ (w.heap.size+1) 123 _ (0,0) _ rfl S9.o Tryz.underlying123 rfl (Zg1 _ rfl)) rfl ⟨rfl,U9.o.below B1.o (Nat.le_succ _)⟩
def Zpg (w:World) (b:Nat) (S:List Ky):Prop :=
 ∃ D:DataW Unit,w.ownsMap Tryz.prog 123 (plainElem Tryz.prog 4) b S.length D∧(∀ l,has D l=true↔∃ k∈S,Zca k=l)∧(∀ k∈S,∀ zd,D.atKey (Zca k) zd = .lit (.bool true))∧Maps.size D=(S.foldl Zow []).length
theorem Zpg.setK {w:World} {b:Nat} {S:List Ky} (h:Zpg w b S):Zhn w b S:=by
 obtain⟨D,h1,h2,h3,-⟩:=h
 exact⟨D,h1,h2,h3⟩
theorem Zpg.step {w w':World} {b:Nat} {S:List Ky} (h:Zpg w b S) (hb:RowKit.Below w.heap.size w w'):Zpg w' b S:=by
 obtain⟨D,h1,h2⟩:=h
 exact⟨D,h1.kept (Zc5 hb none) (by simp),h2⟩
theorem Zpg.nil (w:World):Zpg (w.alloc (.map #[] 0)) w.heap.size []:=by
 refine⟨_,World.ownsMap_made w _ _ _,fun l=>?_,fun k hk=>absurd hk List.not_mem_nil,rfl⟩
 constructor
 ·intro h;cases h
 ·rintro⟨k,hk,_⟩;exact absurd hk List.not_mem_nil
theorem Zu8 (x:Ky):∀ l,Zr5 l→(Zow l x).length=if x∈l then l.length else l.length+1
 | [],_=>by simp[Zow]
 | y::ys,h=>by
  have h0:=List.pairwise_cons.1 h
  unfold Zow
  by_cases e:x=y
  ·subst e;rw[if_pos rfl,if_pos (by simp)]
  ·rw[if_neg e]
   by_cases h2:ltK x y=true
   ·rw[if_pos h2,if_neg]
    ·rfl
    ·intro hm
     rcases List.mem_cons.1 hm with e2 | hm
     ·exact e e2
     ·have:=Zgt _ _ _ h2 (h0.1 x hm)
      rw[Zer] at this;cases this
   ·rw[if_neg h2,List.length_cons,Zu8 x ys h0.2]
    by_cases hm:x∈ys
    ·rw[if_pos hm,if_pos (List.mem_cons_of_mem _ hm)];rfl
    ·rw[if_neg hm,if_neg (fun h3=>by rcases List.mem_cons.1 h3 with e2 | h3;exact e e2;exact hm h3)];rfl
theorem Zpg.put {w w':World} {b:Nat} {S:List Ky} {D:DataW Unit} (hS:∀ k∈S,KyOk k) (k:Ky) (hk:KyOk k) (h:w.ownsMap Tryz.prog 123 (plainElem Tryz.prog 4) b S.length D) (h1:∀ l,has D l=true↔∃ k∈S,Zca k=l) (h2:∀ k∈S,∀ zd,D.atKey (Zca k) zd = .lit (.bool true)) (h3:Maps.size D=(S.foldl Zow []).length)
  (h':w'.ownsMap Tryz.prog 123 (plainElem Tryz.prog 4) b (S.length+1) (D.put (Zca k) (.lit (.bool true)))):Zpg w' b (S++[k]):=by
 obtain⟨D',g1,g2,g3⟩:=Zhn.put hS k hk h h1 h2 h'
 refine⟨D.put (Zca k) (.lit (.bool true)),by rw[List.length_append];exact h',?_,?_,?_⟩
 ·intro l
  have:=(Zhn.put hS k hk h h1 h2 h')
  by_cases he:l=Zca k
  ·subst he
   rw[has_put_same h.isMap (Zg0 k hk)]
   exact⟨fun _=>⟨k,by simp,rfl⟩,fun _=>rfl⟩
  ·rw[has_put_other he,h1]
   constructor
   ·rintro⟨x,hx,hl⟩;exact⟨x,by simp[hx],hl⟩
   ·rintro⟨x,hx,hl⟩
    rcases List.mem_append.1 hx with hx | hx
    ·exact⟨x,hx,hl⟩
    ·rw[List.mem_singleton] at hx
     subst hx
     exact absurd hl.symm he
 ·intro x hx zd
  by_cases he:Zca x=Zca k
  ·rw[he,atKey_put_same h.isMap (Zg0 k hk)]
  ·rw[atKey_put_other he]
   rcases List.mem_append.1 hx with hx | hx
   ·exact h2 x hx zd
   ·rw[List.mem_singleton] at hx
    subst hx
    exact absurd rfl he
 ·rw[size_put (h.tidy Zqd),List.foldl_append,List.foldl_cons,List.foldl_nil,Zu8 k _ (Zif S [] .nil),h3]
  have hm:has D (Zca k)=true↔k∈S.foldl Zow []:=by
   rw[h1,Zgu]
   constructor
   ·rintro⟨x,hx,hl⟩
    have:=Zl0 x k (hS x hx) hk hl
    subst this
    exact .inr hx
   ·rintro (h4 | h4)
    ·cases h4
    ·exact⟨k,h4,rfl⟩
  by_cases hh:has D (Zca k)=true
  ·rw[if_pos hh,if_pos (hm.1 hh)]
  ·rw[if_neg hh,if_neg (fun h4=>hh (hm.2 h4))]
end
section
open Go.RowKit Go.Sort Go.Maps
def Ziz (k:Ky):Prop:=Zjl k.l=true∧Zjl k.r=true∧inC k.c=true
mutual
theorem Zrd:∀ p:Prd,Zcz p=true→∀ k∈Zcl p,Ziz k
 | .mk k l r c ks,h=>by
  unfold Zcz at h
  unfold Zcl
  by_cases h0:k=0
  ·rw[if_pos h0] at h ⊢
   simp only[Bool.and_eq_true] at h
   have hk:ks=[]:=by simpa using h.1.1.1
   subst hk
   intro x hx
   rw[show Zck []=[] from rfl,List.append_nil,List.mem_singleton] at hx
   subst hx
   exact⟨h.1.1.2,h.1.2,h.2⟩
  ·rw[if_neg h0] at h ⊢
   simp only[Bool.and_eq_true] at h
   intro x hx
   rw[List.nil_append] at hx
   exact Zoa ks h.2 x hx
theorem Zoa:∀ ks:List Prd,Zki ks=true→∀ k∈Zck ks,Ziz k
 | [],_=>by simp[Zck]
 | p::ps,h=>by
  unfold Zki at h
  rw[Bool.and_eq_true] at h
  intro x hx
  unfold Zck at hx
  rcases List.mem_append.1 hx with hx | hx
  ·exact Zrd p h.1 x hx
  ·exact Zoa ps h.2 x hx
end
theorem Ziz.ok {k:Ky} (h:Ziz k):KyOk k:=Z6a h.1 h.2.1 h.2.2
theorem Ziz.nmb {k:Ky} (h:Ziz k):NmB k.l∧NmB k.r:=by
 have h1:=Zjm h.1
 have h2:=Zjm h.2.1
 exact⟨⟨h1.1,by omega⟩,⟨h2.1,by omega⟩⟩
theorem Ziz.opp {k:Ky} (h:Ziz k):KyOk (Zvy k):=by
 have h3:=h.2.2
 unfold inC at h3
 simp only[Bool.and_eq_true,decide_eq_true_eq] at h3
 have h4:=h.ok
 exact⟨h4.rb,h4.lb,h4.rl,h4.ll,by show _≤-k.c-1;omega,by show -k.c-1≤_;omega⟩
theorem Ziz.ori {k:Ky} (h:Ziz k):KyOk (Zft k).1:=by
 unfold Zft
 split
 ·exact h.opp
 ·exact h.ok
theorem Zf7 {p:Prd} (h:Zau p=true):∀ k∈Zan p,Ziz k:=by
 unfold Zau at h
 rw[Bool.and_eq_true] at h
 exact fun k hk=>Zrd p h.2 k ((Zbm p k).1 hk)
theorem Zmj {p:Prd} (h:Zau p=true):(Zan p).length≤100:=by
 unfold Zau Zeh at h
 simp only[Bool.and_eq_true,decide_eq_true_eq] at h
 have h1:(Zan p).length≤(Zcl p).length:=Zhi _ _ ((Zf0 p).imp (fun {a b} hab e=>by subst e;rw[Zer] at hab;cases hab)) (fun x hx=>(Zbm p x).1 hx)
 have:=Zfz p
 omega
def Zgs (ks:List Ky):List Ky:=(ks.map (fun k=>(Zft k).1)).filter (fun k=>!Zsr k)
theorem Zu9 (a b:List Ky):Zgs (a++b)=Zgs a++Zgs b:=by unfold Zgs;rw[List.map_append,List.filter_append]
theorem Z3k (k:Ky):Zgs [k]=if Zsr (Zft k).1=true then [] else [(Zft k).1]:=by
 unfold Zgs
 cases h:Zsr (Zft k).1<;>simp[h]
theorem Zzk {ks:List Ky} {j:Nat} {k:Ky} (h:ks[j]?=some k):Zgs (ks.take (j+1))=Zgs (ks.take j)++Zgs [k]:=by
 obtain⟨hi,rfl⟩:=List.getElem?_eq_some_iff.1 h
 rw[List.take_add_one,List.getElem?_eq_getElem hi,Zu9];rfl
theorem Zva (ks:List Ky):(Zgs ks).length≤ks.length:=by
 unfold Zgs
 exact Nat.le_trans (List.length_filter_le _ _) (by rw[List.length_map];exact Nat.le_refl _)
theorem Zzl {ks:List Ky} (h:∀ k∈ks,Ziz k):∀ k∈Zgs ks,KyOk k:=by
 intro k hk
 unfold Zgs at hk
 obtain⟨x,hx,rfl⟩:=List.mem_map.1 (List.mem_filter.1 hk).1
 exact (h x hx).ori
theorem Zzm (ps:List Prd):Zak ps=(Zgs (ps.flatMap Zan)).foldl Zow []:=rfl
theorem Zwm (ps:List Prd):Zr5 (Zak ps):=Zif _ _ .nil
theorem Zob (ps:List Prd) (x:Ky):x∈Zak ps↔x∈Zgs (ps.flatMap Zan):=by rw[Zzm,Zgu];simp
def okQ (ns:List (List Nat)) (p:Prd):Bool:=Zau p&&(Zan p).all (fun k=>Ze4 ns k.l&&Ze4 ns k.r)
def Zb1 (ns:List (List Nat)) (most:Int) (ps:List Prd):Int:=if (ps.all (okQ ns)&&Zcy ns most)=true then (if 8<(Zak ps).length then 6 else 0) else 1
theorem Zzn {ns:List (List Nat)} {most:Int} {ps:List Prd} {p:Prd} (hp:p∈ps) (h:okQ ns p=false):Zb1 ns most ps=1:=by
 unfold Zb1
 rw[if_neg]
 intro h2
 rw[Bool.and_eq_true] at h2
 have:=List.all_eq_true.1 h2.1 p hp
 rw[h] at this;cases this
theorem Z3l {ns:List (List Nat)} {most:Int} {ps:List Prd} (h:Zcy ns most=false):Zb1 ns most ps=1:=by
 unfold Zb1;rw[h,Bool.and_false];rfl
theorem Zmk {ns:List (List Nat)} {most:Int} {ps:List Prd} (h:∀ p∈ps,okQ ns p=true) (hg:Zcy ns most=true):Zb1 ns most ps=if 8<(Zak ps).length then 6 else 0:=by
 unfold Zb1
 rw[if_pos]
 rw[hg,Bool.and_true]
 exact List.all_eq_true.2 h
theorem Zs9 {ns:List (List Nat)} {p:Prd} (h:Zau p=false):okQ ns p=false:=by unfold okQ;rw[h];rfl
theorem Zta {ns:List (List Nat)} {p:Prd} {k:Ky} (hk:k∈Zan p) (h:Ze4 ns k.l=false∨Ze4 ns k.r=false):okQ ns p=false:=by
 unfold okQ
 rw[Bool.and_eq_false_iff]
 right
 rw[List.all_eq_false]
 refine⟨k,hk,?_⟩
 rcases h with h | h<;>simp[h]
theorem Zml {ns:List (List Nat)} {p:Prd} (hv:Zau p=true) (h:∀ k∈Zan p,Ze4 ns k.l=true∧Ze4 ns k.r=true):okQ ns p=true:=by
 unfold okQ
 rw[hv,Bool.true_and,List.all_eq_true]
 exact fun k hk=>by rw[(h k hk).1,(h k hk).2];rfl
theorem Zzo {ns:List (List Nat)} {most:Int} {ps:List Prd} (h:Zb1 ns most ps≠1):(∀ p∈ps,Zau p=true)∧Zio ns (ps.flatMap Zan)∧Zcy ns most=true:=by
 unfold Zb1 at h
 by_cases h2:(ps.all (okQ ns)&&Zcy ns most)=true
 ·rw[Bool.and_eq_true,List.all_eq_true] at h2
  refine⟨fun p hp=>?_,fun k hk=>?_,h2.2⟩
  ·have:=h2.1 p hp
   unfold okQ at this
   rw[Bool.and_eq_true] at this
   exact this.1
  ·obtain⟨p,hp,hk⟩:=List.mem_flatMap.1 hk
   have:=h2.1 p hp
   unfold okQ at this
   rw[Bool.and_eq_true,List.all_eq_true] at this
   have:=this.2 k hk
   rw[Bool.and_eq_true] at this
   exact this
 ·rw[if_neg h2] at h;exact absurd rfl h
def Z3m (w:World) (D:Nat) (ao:Option Addr) (n cp:Nat) (most:Int) (po:Option Addr) (pn pc:Nat) (ro:Option Addr) (rc:Nat) (m:Nat):Prop:=Zah w D 162 [.slice ao n cp,.int .i64 most,.slice po pn pc,.slice ro m rc]
def Zi0 (w:World) (c:Int) (cs:List Ky) (ao:Option Addr) (n cp:Nat) (most:Int) (po:Option Addr) (pn pc:Nat) (e:Ending) (w':World):Prop :=
 (if c=0 then ∃ D ro rc,e = .returned (.tuple #[.pointer (some ⟨D,0,none⟩),.int .i64 0])∧w.heap.size≤D∧Z3m w' D ao n cp most po pn pc ro rc cs.length∧OwnK w' w.heap.size 3 cs.length rc (cs.flatMap kyC) ro
  else e = .returned (.tuple #[.pointer none,.int .i64 c]))∧Below w.heap.size w w'
theorem Zi0.bad {w w':World} {c c':Int} {cs:List Ky} {ao:Option Addr} {n cp:Nat} {most:Int} {po:Option Addr} {pn pc:Nat} {e:Ending} (h:c'=c) (h0:c≠0) (he:e = .returned (.tuple #[.pointer none,.int .i64 c])) (hb:Below w.heap.size w w'):Zi0 w c' cs ao n cp most po pn pc e w':=by
 subst h
 refine⟨?_,hb⟩
 rw[if_neg h0];exact he
theorem Zi0.good {w w':World} {c':Int} {cs:List Ky} {ao:Option Addr} {n cp:Nat} {most:Int} {po:Option Addr} {pn pc:Nat} {D:Nat} {ro:Option Addr} {rc m:Nat} {e:Ending} (h:c'=0) (he:e = .returned (.tuple #[.pointer (some ⟨D,0,none⟩),.int .i64 0])) (hD:w.heap.size≤D) (hm:m=cs.length) (hp:Z3m w' D ao n cp most po pn pc ro rc m) (ho:OwnK w' w.heap.size 3 m rc (cs.flatMap kyC) ro) (hb:Below w.heap.size w w'):Zi0 w c' cs ao n cp most po pn pc e w':=by
 subst h;subst hm
 refine⟨?_,hb⟩
 rw[if_pos rfl];exact⟨D,ro,rc,he,hD,hp,ho⟩
end
end Go.Proofs.YtmkdfbelbcocpaaGreatDoor
