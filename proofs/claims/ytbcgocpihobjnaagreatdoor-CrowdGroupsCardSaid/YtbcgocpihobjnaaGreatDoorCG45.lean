import Derived.Test.YtbcgocpihobjnaaGreatDoorCG44
import Derived.Test.YtbcgocpihobjnaaGreatDoorCG40
import Derived.Test.YtbcgocpihobjnaaGreatDoorCG11
import Derived.Test.YtbcgocpihobjnaaGreatDoorCG41
import Derived.Test.YtbcgocpihobjnaaGreatDoorCG35
set_option linter.all false
namespace Go.Proofs.YtbcgocpihobjnaaGreatDoor
section
open Go.RowKit Go.Sort Go.Maps
theorem Zmb {c:Crw} (hv:Zaq c=true):(Zcj c).length=c.us.length:=by
 unfold Zcj;rw[if_pos hv,List.length_map,List.length_range]
theorem Zq0 {c:Crw} (hv:Zaq c=true) {i:Nat} (hi:i<c.us.length):(Zcj c)[i]?=some ((Zhp c (Zay c) i).map Int.ofNat):=by
 unfold Zcj;rw[if_pos hv,List.getElem?_map,List.getElem?_range hi];rfl
theorem Zyv (c:Crw) (C:List (List Bool)) (i:Nat):(Zhp c C i).length≤c.ms.length:=Zbn _ _
theorem Zn8 (w:World) (c:Crw) (cs:List Value) (B:Nat) (ha:ArgC w c cs B) :
  Calls Tryz.prog 24 #[.agg cs.toArray] w fun e w'=>Below w.heap.size w w'∧∃ o cap,e = .returned (.slice o (Zcj c).length cap)∧Zgf w' (Zcj c) o:=by
 refine (Zl4 w c cs B ha).mono ?_;intro e w' h;unfold Zu1 at h;obtain⟨⟨o,cap,h1,h2⟩,hb⟩:=h;exact⟨hb,o,cap,h1,h2⟩
end
section
open Go.RowKit Go.Sort Go.Maps
theorem Zwc (us:List Use) (p:Use→Bool):us.filter p=((List.range us.length).filter (fun i=>p (us.getD i ⟨0,0,0,0⟩))).map (fun i=>us.getD i ⟨0,0,0,0⟩):=by
 have h:us=(List.range us.length).map (fun i=>us.getD i ⟨0,0,0,0⟩):=by
  apply List.ext_getElem?;intro i;rw[List.getElem?_map];by_cases hi:i<us.length
  ·rw[List.getElem?_range hi,List.getElem?_eq_getElem hi]
   simp[hi]
  ·rw[List.getElem?_eq_none (by omega),List.getElem?_eq_none (by rw[List.length_range];omega)];rfl
 conv=>lhs;rw[h]
 rw[List.filter_map];rfl
theorem Zwd (p:Nat→Bool) {n i:Nat} (hi:i<n) (h:p i=true):((List.range n).filter p)[(List.range i).countP p]?=some i:=by
 obtain⟨d,rfl⟩:∃ d,n=i+1+d:=⟨n-(i+1),by omega⟩;rw[show i+1+d=i+(1+d) by omega,List.range_add,List.filter_append,List.countP_eq_length_filter,List.getElem?_append_right (Nat.le_refl _),Nat.sub_self];rw[show (1+d)=d+1 by omega,List.range_succ_eq_map,List.map_cons,List.filter_cons];rw[if_pos (by rw[Nat.add_zero];exact h)];rfl
def ixW (c:Crw) (wd:Nat) (oth:Bool):List Nat:=(List.range c.us.length).filter (fun u=>((Zau c (Zay c)).win u==wd) != oth)
theorem Zg8 (c:Crw) (wd:Nat):ixW c wd false=Zbw (Zau c (Zay c)) wd:=by
 unfold ixW Zbw;exact List.filter_congr (fun u _=>by cases (Zau c (Zay c)).win u==wd<;>rfl)
theorem Zpg (c:Crw) (wd:Nat):ixW c wd true=Zoj (Zau c (Zay c)) wd:=by
 unfold ixW Zoj;exact List.filter_congr (fun u _=>by cases (Zau c (Zay c)).win u==wd<;>rfl)
theorem Zwe {c:Crw} (hok:ReckOk c (Zay c)) (wd:Nat) (oth:Bool):Zar c.us (wd:Int) oth=(ixW c wd oth).map (fun i=>c.us.getD i ⟨0,0,0,0⟩):=by
 unfold Zar ixW;rw[Zwc];refine congrArg _ (List.filter_congr (fun u hu=>?_));have hu:=List.mem_range.1 hu;obtain⟨h1,h2,h3⟩:=Zo7 hok hu;unfold Zdo
 have:((c.us.getD u ⟨0,0,0,0⟩).w==(wd:Int))=((Zau c (Zay c)).win u==wd):=by
  rw[Bool.eq_iff_iff,beq_iff_eq,beq_iff_eq];have h4:Zu7 c u=(c.us.getD u ⟨0,0,0,0⟩).w:=rfl;omega
 rw[this]
theorem Zfb {c:Crw} (hok:ReckOk c (Zay c)) (wd:Nat) (oth:Bool):(Zar c.us (wd:Int) oth).length=(ixW c wd oth).length:=by rw[Zwe hok,List.length_map]
theorem Zq1 {c:Crw} (hok:ReckOk c (Zay c)) (wd:Nat) (oth:Bool) {k:Nat} (hk:k<(ixW c wd oth).length):(Zar c.us (wd:Int) oth).getD k ⟨0,0,0,0⟩=c.us.getD ((ixW c wd oth).getD k 0) ⟨0,0,0,0⟩:=by
 rw[Zwe hok,List.getD_eq_getElem?_getD,List.getElem?_map,List.getD_eq_getElem?_getD (l:=ixW c wd oth),List.getElem?_eq_getElem hk];rfl
theorem Z1l {c:Crw} {wd:Nat} {oth:Bool} {k:Nat} (hk:k<(ixW c wd oth).length):(ixW c wd oth).getD k 0<c.us.length:=by
 have:=Zhw hk;unfold ixW at this ⊢;exact List.mem_range.1 (List.mem_filter.1 this).1
theorem Zk8 {c:Crw} (hv:Zaq c=true) (wd:Int) (oth:Bool):Zaq (Zbi c (Zar c.us wd oth))=true:=by
 have h:=Zat hv;refine Zpf hv (Nat.le_trans (List.length_filter_le _ _) h.2.2.1) (fun x hx=>h.2.2.2.2.2 x (List.mem_filter.1 hx).1)
theorem Zmc {c:Crw} (hok:ReckOk c (Zay c)) (wd:Nat) (oth:Bool) (v k:Nat) (hv:v<(ixW c wd oth).length) (hk:k<c.ms.length):(Zau (Zbi c (Zar c.us (wd:Int) oth)) (Zay (Zbi c (Zar c.us (wd:Int) oth)))).can v k=((Zau c (Zay c)).sub (ixW c wd oth)).can v k:=by
 have h1:=Zv9 (c:=c) (Zar c.us (wd:Int) oth) (v:=v) (by rw[Zfb hok];exact hv) hk;have h2:(Zau c (Zay c)).can ((ixW c wd oth).getD v 0) k=Zza c (Zak c) (c.us.getD ((ixW c wd oth).getD v 0) ⟨0,0,0,0⟩) k:=Zv9 (c:=c) c.us (Z1l hv) hk;rw[h1,Zq1 hok wd oth hv];exact h2.symm
theorem Zh3 {c:Crw} (hok:ReckOk c (Zay c)) (wd:Nat) (oth:Bool) (v:Nat) (hv:v<(ixW c wd oth).length):(Zau (Zbi c (Zar c.us (wd:Int) oth)) (Zay (Zbi c (Zar c.us (wd:Int) oth)))).win v=((Zau c (Zay c)).sub (ixW c wd oth)).win v:=by
 show ((Zar c.us (wd:Int) oth).getD v ⟨0,0,0,0⟩).w.toNat=_;rw[Zq1 hok wd oth hv];rfl
theorem Zyw {c:Crw} (hok:ReckOk c (Zay c)) (wd:Nat) (oth:Bool):Zhv (Zau (Zbi c (Zar c.us (wd:Int) oth)) (Zay (Zbi c (Zar c.us (wd:Int) oth))))=Zhv ((Zau c (Zay c)).sub (ixW c wd oth)):=by
 have hl:=Zfb hok wd oth;exact Zww hl rfl (fun v k hv hk=>Zmc hok wd oth v k (by rw[← hl];exact hv) hk) (fun v hv=>Zh3 hok wd oth v (by rw[← hl];exact hv)) (fun m w _=>rfl)
theorem Zfc {c:Crw} (hok:ReckOk c (Zay c)) (wd:Nat) (oth:Bool) (a:Nat→Nat):Legal (Zau (Zbi c (Zar c.us (wd:Int) oth)) (Zay (Zbi c (Zar c.us (wd:Int) oth)))) a↔Legal ((Zau c (Zay c)).sub (ixW c wd oth)) a:=by
 have hl:=Zfb hok wd oth;constructor
 ·exact Zmx hl rfl (fun v k hv hk=>Zmc hok wd oth v k (by rw[← hl];exact hv) hk) (fun v hv=>Zh3 hok wd oth v (by rw[← hl];exact hv)) (fun m w _=>rfl)
 ·exact Zmx hl.symm rfl (fun v k hv hk=>(Zmc hok wd oth v k hv hk).symm) (fun v hv=>(Zh3 hok wd oth v hv).symm) (fun m w _=>rfl)
theorem Zsj (T:Tbl) (ix:List Nat) (hn:ix.Sublist (List.range T.U)) (k:Nat):(Zbw (T.sub ix) k).length≤(Zbw T k).length:=by
 unfold Zbw
 have h1:((List.range ix.length).filter (fun u=>T.win (ix.getD u 0)==k)).length=(ix.filter (fun u=>T.win u==k)).length:=by
  have:ix=(List.range ix.length).map (fun u=>ix.getD u 0):=by
   apply List.ext_getElem?;intro i;rw[List.getElem?_map];by_cases hi:i<ix.length
   ·rw[List.getElem?_range hi,List.getElem?_eq_getElem hi];simp[hi]
   ·rw[List.getElem?_eq_none (by omega),List.getElem?_eq_none (by rw[List.length_range];omega)];rfl
  conv=>rhs;rw[this]
  rw[List.filter_map,List.length_map];rfl
 refine Nat.le_trans (Nat.le_of_eq h1) ?_;exact (hn.filter _).length_le
theorem Z0q {m u:Nat} (h:(m≤2∧u≤14)∨(m≤4∧u≤8)∨(m≤65∧u≤6)):m^u≤1152921504606846976:=by
 rcases h with ⟨h1,h2⟩ | ⟨h1,h2⟩ | ⟨h1,h2⟩
 ·exact Nat.le_trans (Nat.pow_le_pow_left h1 u) (Nat.le_trans (Nat.pow_le_pow_right (by decide) h2) (by decide))
 ·exact Nat.le_trans (Nat.pow_le_pow_left h1 u) (Nat.le_trans (Nat.pow_le_pow_right (by decide) h2) (by decide))
 ·exact Nat.le_trans (Nat.pow_le_pow_left h1 u) (Nat.le_trans (Nat.pow_le_pow_right (by decide) h2) (by decide))
theorem Z0r {c:Crw} (h:Zyq c=true):c.ms.length^c.us.length≤1152921504606846976∧∀ u,u≤c.us.length→c.ms.length^u≤1152921504606846976:=by
 unfold Zyq at h;rw[Bool.and_eq_true,Bool.and_eq_true] at h;have h:=h.1.1;unfold Zef at h;simp only[Bool.and_eq_true,Bool.or_eq_true,decide_eq_true_eq] at h
 have key:∀ u,u≤c.us.length→c.ms.length^u≤1152921504606846976:=fun u hu=>Z0q (by omega)
 exact⟨key _ (Nat.le_refl _),key⟩
theorem Z0s {c:Crw} (h:Zyq c=true) (us:List Use) (hu:us.length≤c.us.length) (C:List (List Bool)):Zhv (Zau (Zbi c us) C)≤1152921504606846976 :=
 Nat.le_trans (Zzj _) ((Z0r h).2 us.length hu)
def Zmd (c:Crw) (l:List Int):Bool:=match Zwn c l with
 | none=>false
 | some C=>Zc5 (Zau c C)
theorem Zyx (w:World) (c:Crw) (cs:List Value) (B:Nat) (l:List Int) (lo:Option Addr) (lc:Nat) (ha:ArgC w c cs B) (hl:Zal Zbj w lo l) :
  Calls Tryz.prog 23 #[.agg cs.toArray,.slice lo l.length lc] w fun e w'=>Below w.heap.size w w'∧∃ v,e = .returned (.tuple #[v,.bool (Zmd c l)]):=by
 refine (Zu5 w c cs B l lo lc ha hl).mono ?_;intro e w' h;unfold Z0y at h;obtain⟨hb,h⟩:=h;refine⟨hb,?_⟩;unfold Zmd
 cases hA:Zwn c l with
 | none=>rw[hA] at h;exact⟨_,h⟩
 | some C =>
  rw[hA] at h
  cases hF:Zc5 (Zau c C) with
  | true =>
   simp only[hF,if_true] at h;obtain⟨o,cap,h1,-⟩:=h;exact⟨_,by rw[h1];show _=Ending.returned (.tuple #[_,.bool (Zc5 (Zau c C))]);rw[hF]⟩
  | false =>
   simp only[hF] at h;exact⟨_,by rw[h];show _=Ending.returned (.tuple #[_,.bool (Zc5 (Zau c C))]);rw[hF]⟩
theorem Zn9 (c:Crw):∀ (n i:Nat) (C:List (List Bool)),Zu4 c i (List.replicate n (-1)) C=some C
 | 0,i,C=>rfl
 | n+1,i,C=>by
  rw[List.replicate_succ];show (if inB (-1) (-1) ((c.ms.length:Int)-1)=true then Zu4 c (i+1) (List.replicate n (-1)) (if (-1:Int) = -1 then C else Zc2 c C i (-1:Int).toNat) else none)=some C;rw[if_pos (by unfold inB;rw[Bool.and_eq_true,decide_eq_true_eq,decide_eq_true_eq];omega),if_pos rfl];exact Zn9 c n (i+1) C
theorem Zyy {c:Crw} (hv:Zaq c=true):Zmd c (List.replicate c.us.length (-1))=Zc5 (Zau c (Zay c)):=by
 unfold Zmd Zwn;rw[hv,List.length_replicate,decide_eq_true rfl,Bool.true_and,if_pos rfl,Zn9]
structure GrpP (c:Crw) (un wd:Nat) (e f g n p q:Nat) (rest:Bool) (l own:List (List Int)) (pw:Nat→Nat):Prop where
 ok:e=0→f=0∧g=0∧n=p*q∧n≤1152921504606846976
 rs:e=0→rest=decide (0<q)
 ll:l.length=un
 p0:pw 0=0
 pn:pw un=own.length
 yes:∀ (i:Nat) (x:Use),c.us[i]?=some x→x.w=(wd:Int)→pw (i+1)=pw i+1∧∃ r,own[pw i]?=some r∧l[i]?=some (if rest=true then r else [])∧r.length≤65
 no:∀ (i:Nat) (x:Use),c.us[i]?=some x→x.w≠(wd:Int)→pw (i+1)=pw i
theorem Z0t {c:Crw} (hv:Zaq c=true) (hf:Zyq c=true) (hn:c.us.length≤1000) (h65:c.ms.length≤65) {wd:Nat} (hwd:wd<16):GrpP c c.us.length wd (Zbo c).2 (Zbo (Zbi c (Zar c.us (wd:Int) false))).2 (Zbo (Zbi c (Zar c.us (wd:Int) true))).2 (Zbo c).1 (Zbo (Zbi c (Zar c.us (wd:Int) false))).1 (Zbo (Zbi c (Zar c.us (wd:Int) true))).1 (Zmd (Zbi c (Zar c.us (wd:Int) true)) (List.replicate (Zar c.us (wd:Int) true).length (-1))) (Zcj c) (Zcj (Zbi c (Zar c.us (wd:Int) false))) (fun i=>(List.range i).countP (fun u=>(Zau c (Zay c)).win u==wd)):=by
 have hok:=Zav hv hn
 have hle:∀ oth,(Zar c.us (wd:Int) oth).length≤c.us.length:=fun oth=>List.length_filter_le _ _
 have hva:∀ oth,Zaq (Zbi c (Zar c.us (wd:Int) oth))=true:=fun oth=>Zk8 hv _ _
 have hoka:∀ oth,ReckOk (Zbi c (Zar c.us (wd:Int) oth)) (Zay (Zbi c (Zar c.us (wd:Int) oth))):=fun oth=>Zav (hva oth) (Nat.le_trans (hle oth) hn)
 have hcnt:∀ c',Zaq c'=true→Zbo c'=Zep (Zau c' (Zay c')):=fun c' h=>by unfold Zbo;rw[if_pos h]
 have hsub:∀ oth,(ixW c wd oth).Sublist (List.range c.us.length):=fun oth=>List.filter_sublist
 have hga:∀ oth,(Zbo c).2=0→Zbo (Zbi c (Zar c.us (wd:Int) oth))=(Zhv ((Zau c (Zay c)).sub (ixW c wd oth)),0):=fun oth h=>by
  rw[hcnt _ hv] at h;rw[hcnt _ (hva oth),Z0p (Zwa (hoka oth)) (fun k hk=>?_) (Z0s hf _ (hle oth) _),Zyw hok];refine Nat.le_trans ?_ (Zpe h k hk);refine Nat.le_trans (Nat.le_of_eq ?_) (Zsj (Zau c (Zay c)) (ixW c wd oth) (hsub oth) k);unfold Zbw;rw[show (Zau (Zbi c (Zar c.us (wd:Int) oth)) (Zay (Zbi c (Zar c.us (wd:Int) oth)))).U=(ixW c wd oth).length from Zfb hok wd oth];refine congrArg List.length (List.filter_congr (fun v hv2=>?_));rw[Zh3 hok wd oth v (List.mem_range.1 hv2)]
 have hrest:Zmd (Zbi c (Zar c.us (wd:Int) true)) (List.replicate (Zar c.us (wd:Int) true).length (-1))=true↔∃ b,Legal ((Zau c (Zay c)).sub (Zoj (Zau c (Zay c)) wd)) b:=by
  rw[show List.replicate (Zar c.us (wd:Int) true).length (-1:Int)=List.replicate (Zbi c (Zar c.us (wd:Int) true)).us.length (-1) from rfl,Zyy (hva true),Zpq,← Zpg];constructor
  ·rintro⟨b,hb⟩;exact⟨b,(Zfc hok wd true b).1 hb⟩
  ·rintro⟨b,hb⟩;exact⟨b,(Zfc hok wd true b).2 hb⟩
 have hwin:∀ (i:Nat) (x:Use),c.us[i]?=some x→((Zau c (Zay c)).win i==wd)=decide (x.w=(wd:Int)):=fun i x hx=>by
  have hi:=(List.getElem?_eq_some_iff.1 hx).1;obtain⟨g1,g2,g3⟩:=Zo7 hok hi
  have g4:Zu7 c i=x.w:=by unfold Zu7;rw[List.getD_eq_getElem?_getD,hx];rfl
  rw[Bool.eq_iff_iff,beq_iff_eq,decide_eq_true_eq];omega
 have hnext:∀ i,(List.range (i+1)).countP (fun u=>(Zau c (Zay c)).win u==wd)=(List.range i).countP (fun u=>(Zau c (Zay c)).win u==wd)+(if ((Zau c (Zay c)).win i==wd)=true then 1 else 0):=fun i=>by
  rw[List.range_succ,List.countP_append,List.countP_singleton]
 refine⟨fun h=>?_,fun h=>?_,Zmb hv,rfl,?_,fun i x hx hw=>?_,fun i x hx hw=>?_⟩
 ·have h0:=h
  rw[hcnt _ hv] at h0;obtain⟨h1,h2⟩:=Zyt (Zwa hok) h0;rw[hga false h,hga true h];have h3:=Zrb (Zau c (Zay c)) (Zwa hok) wd;refine⟨rfl,rfl,?_,?_⟩
  ·rw[hcnt _ hv,h2]
   show Zhv (Zau c (Zay c))=_*_;rw[h3,Zg8,Zpg]
  ·rw[hcnt _ hv,h2];exact h1
 ·rw[hga true h,Bool.eq_iff_iff,hrest,decide_eq_true_eq]
  show _↔0<Zhv _;rw[Zwu,Zpg]
 ·show (List.range c.us.length).countP _=_
  rw[Zmb (hva false)];show _=(Zar c.us (wd:Int) false).length;rw[Zfb hok,Zg8,List.countP_eq_length_filter];rfl
 ·have hi:=(List.getElem?_eq_some_iff.1 hx).1
  have hwi:((Zau c (Zay c)).win i==wd)=true:=by rw[hwin i x hx];exact decide_eq_true hw
  refine⟨by rw[hnext,if_pos hwi],?_⟩;have hat:(Zbw (Zau c (Zay c)) wd)[(List.range i).countP (fun u=>(Zau c (Zay c)).win u==wd)]?=some i:=Zwd _ hi hwi;show ∃ r,(Zcj (Zbi c (Zar c.us (wd:Int) false)))[(List.range i).countP (fun u=>(Zau c (Zay c)).win u==wd)]?=some r∧_;generalize (List.range i).countP (fun u=>(Zau c (Zay c)).win u==wd)=k at hat ⊢
  have hk:k<(ixW c wd false).length:=by rw[Zg8];exact (List.getElem?_eq_some_iff.1 hat).1
  have hk2:k<(Zbi c (Zar c.us (wd:Int) false)).us.length:=by show k<(Zar c.us (wd:Int) false).length;rw[Zfb hok];exact hk
  have hgk:(Zbw (Zau c (Zay c)) wd).getD k 0=i:=by rw[List.getD_eq_getElem?_getD,hat];rfl
  refine⟨_,Zq0 (hva false) hk2,?_,?_⟩
  ·rw[Zq0 hv hi]
   have hmem:∀ m,m<c.ms.length→(Zk2 c (Zay c) i m=true↔Zk2 (Zbi c (Zar c.us (wd:Int) false)) (Zay (Zbi c (Zar c.us (wd:Int) false))) k m=true∧Zmd (Zbi c (Zar c.us (wd:Int) true)) (List.replicate (Zar c.us (wd:Int) true).length (-1))=true):=fun m hm=>by
    rw[Zuu hok hi hm,Zuu (hoka false) hk2 hm,hrest];have:=Zs3 (T:=Zau c (Zay c)) (wd:=wd) (k:=k) (m:=m) (by rw[← Zg8];exact hk);rw[hgk] at this;rw[this];constructor
    ·rintro⟨⟨a,h1,h2⟩,h3⟩;exact⟨⟨a,(Zfc hok wd false a).2 (by rw[Zg8];exact h1),h2⟩,h3⟩
    ·rintro⟨⟨a,h1,h2⟩,h3⟩;exact⟨⟨a,by rw[← Zg8];exact (Zfc hok wd false a).1 h1,h2⟩,h3⟩
   by_cases hr:Zmd (Zbi c (Zar c.us (wd:Int) true)) (List.replicate (Zar c.us (wd:Int) true).length (-1))=true
   ·rw[if_pos hr]
    refine congrArg (fun l=>some (List.map Int.ofNat l)) (List.filter_congr (fun m hm=>?_));have:=hmem m (List.mem_range.1 hm);rw[hr] at this;rw[Bool.eq_iff_iff];constructor
    ·intro h;exact (this.1 h).1
    ·intro h;exact this.2 ⟨h,rfl⟩
   ·rw[if_neg hr]
    have:Zhp c (Zay c) i=[]:=by
     unfold Zhp;rw[List.filter_eq_nil_iff];intro m hm h;exact hr ((hmem m (List.mem_range.1 hm)).1 h).2
    rw[this];rfl
  ·rw[List.length_map]
   exact Nat.le_trans (Zyv _ _ _) h65
 ·have hwi:((Zau c (Zay c)).win i==wd)=false:=by rw[hwin i x hx];exact decide_eq_false hw
  show (List.range (i+1)).countP _=_;rw[hnext,if_neg (by rw[hwi];decide)];rfl
end
end Go.Proofs.YtbcgocpihobjnaaGreatDoor
