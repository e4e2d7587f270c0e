import Derived.StillTailTactics
import Derived.WalkKit
import Derived.Deep.Quiet
import Derived.Lib.QuietBelow
import Derived.WalkSmall
import Derived.Maps.StringElems
import Derived.Defers
import Derived.Test.YtmkdfbelbcocpaaGreatDoorCY21
import Derived.Test.YtmkdfbelbcocpaaGreatDoorShelf
import Derived.Test.YtmkdfbelbcocpaaGreatDoorCY14
import Derived.Test.YtmkdfbelbcocpaaGreatDoorCY10
set_option linter.unusedVariables false
set_option linter.unusedSimpArgs false
namespace Go.Proofs.YtmkdfbelbcocpaaGreatDoor
open Go.RowKit Go.Sort
theorem strN_dataL (s:List Nat):(strN s).data.toList = s.map UInt8.ofNat:=by simp [strN]
end Go.Proofs.YtmkdfbelbcocpaaGreatDoor
namespace Go.Proofs.YtmkdfbelbcocpaaGreatDoor
open Go.RowKit Go.Sort
theorem PredV.open {B:Nat} {w:World} {p:Prd} {v:Value} (h:PredV B w p v):∃ ka kn kc,v = .agg #[.int .i64 p.k,.string (strN p.l),.string (strN p.r),.int .i64 p.c,.slice ka kn kc]∧PredC w (fun g=>B≤g∧g < w.heap.size) p [.int .i64 p.k,.string (strN p.l),.string (strN p.r),.int .i64 p.c,.slice ka kn kc]:=by
 obtain ⟨vs,rfl,hc⟩:=h
 obtain ⟨a,n,c,rfl,-⟩:=hc.form
 exact ⟨a,n,c,rfl,hc.mono (fun g hg hl=>⟨hg,hl⟩)⟩
set_option maxHeartbeats 4000000 in
set_option maxRecDepth 100000 in
theorem catom_any (l r:ByteArray) (c:Int) (w:World) :
  Calls Tryz.prog 68 #[.string l,.string r,.int .i64 c] w fun e w'=>e = .returned (.agg #[.int .i64 0,.string l,.string r,.int .i64 c,.slice none 0 0])∧Below w.heap.size w w':=by
 have X1:Hid (HasV (w.alloc (.cells #[.int .i64 0,.string ⟨#[]⟩,.string ⟨#[]⟩,.int .i64 0,.slice none 0 0] 25)) w.heap.size 25 [.int .i64 0,.string ⟨#[]⟩,.string ⟨#[]⟩,.int .i64 0,.slice none 0 0]):=mkHid (heap_alloc_new w _)
 have B1:=mkHid ((Below.refl w.heap.size w).alloc (Nat.le_refl _) (.cells #[.int .i64 0,.string ⟨#[]⟩,.string ⟨#[]⟩,.int .i64 0,.slice none 0 0] 25))
 go_enter Tryz.func68,Tryz.ntmps68
 go_upto_region 1 with (fail)
 generalize w.alloc (.cells #[.int .i64 0,.string ⟨#[]⟩,.string ⟨#[]⟩,.int .i64 0,.slice none 0 0] 25) = w1 at *
 go_wp2_with (refine wpList_store_abs rfl 25 (.tmp 6) (.tmp 10) rfl w.heap.size #[.int .i64 0,.string l,.string r,.int .i64 c,.slice none 0 0] (by rfl) (by rfl) 25 _ X1.out (inf_pred _ rfl) rfl (by simp [Value.oneCell']) ?_; intro w9 s9 u9; have S9:=mkHid s9; have U9:=mkHid u9; clear s9 u9)
 exact bodyPost_ret (results_cell_row (p:=6) (by kernel_rfl) _ _ w.heap.size 25 #[.int .i64 0,.string l,.string r,.int .i64 c,.slice none 0 0] (0,0) _ rfl S9.out Tryz.underlying25 rfl (inf_pred _ rfl)) rfl ⟨rfl,U9.out.below B1.out (Nat.le_refl _)⟩
end Go.Proofs.YtmkdfbelbcocpaaGreatDoor
namespace Go.Proofs.YtmkdfbelbcocpaaGreatDoor
open Go.RowKit Go.Sort
mutual
def couP (M:Nat):Nat→Prd→Nat
 | 0,_=>M + 1
 | L + 1,.mk _ _ _ _ ks=>couL M L 1 ks
def couL (M:Nat):Nat→Nat→List Prd→Nat
 | _,n,[]=>n
 | L,n,q :: qs=>if n≤M then couL M L (n + couP M L q) qs else n
end
theorem couL_le (M L:Nat) (h:∀ q,couP M L q≤(L + 1) * (M + 1)):∀ (ks:List Prd) (n:Nat),n≤(L + 2) * (M + 1)→couL M L n ks≤(L + 2) * (M + 1)
 | [],n,hn=>by rw [couL]; exact hn
 | q :: qs,n,hn=>by
  rw [couL]
  have e:(L + 2) * (M + 1) = (L + 1) * (M + 1) + (M + 1):=by rw [show L + 2 = (L + 1) + 1 from rfl,Nat.add_mul (L + 1) 1,Nat.one_mul]
  split
  ·exact couL_le M L h qs _ (by have:=h q; omega)
  ·exact hn
theorem couP_le (M:Nat):∀ (L:Nat) (p:Prd),couP M L p≤(L + 1) * (M + 1)
 | 0,p=>by rw [couP]; omega
 | L + 1,.mk k l r c ks=>by
  rw [couP]
  exact couL_le M L (couP_le M L) ks 1 (Nat.le_trans (Nat.le_add_left 1 M) (Nat.le_mul_of_pos_left _ (by omega)))
set_option maxHeartbeats 8000000 in
set_option maxRecDepth 100000 in
theorem cou_zero (w:World) (κ:Int) (l r:ByteArray) (c:Int) (ao:Option Addr) (n cap M:Nat) (hM:M≤1000) :
  Calls Tryz.prog 82 #[.agg #[.int .i64 κ,.string l,.string r,.int .i64 c,.slice ao n cap],.int .i64 (M:Int),.int .i64 0] w fun e w'=>e = .returned (.int .i64 ((M + 1:Nat):Int))∧Below w.heap.size w w':=by
 have B1:=mkHid ((Below.refl w.heap.size w).alloc (Nat.le_refl _) (.cells #[.int .i64 κ,.string l,.string r,.int .i64 c,.slice ao n cap] 25))
 have ew:IntKind.i64.wrap ((M:Int) + 1) = ((M + 1:Nat):Int):=IntWalk.i64_in _ (by omega)
 go_enter Tryz.func82,Tryz.ntmps82
 go_wp2
 go_ret
 exact ⟨ret_int (by omega),B1.out⟩
theorem couL_drop (M L n:Nat) (ks:List Prd) (i:Nat) (q:Prd) (h:ks[i]? = some q):couL M L n (ks.drop i) = if n≤M then couL M L (n + couP M L q) (ks.drop (i + 1)) else n:=by
 have h1:ks.drop i = q :: ks.drop (i + 1):=List.drop_eq_getElem?_toList_append .. |>.trans (by rw [h]; rfl)
 rw [h1,couL]
set_option maxHeartbeats 8000000 in
set_option maxRecDepth 100000 in
theorem cou_node (w:World) (P:Nat→Prop) (κ:Int) (l r:List Nat) (c:Int) (ks:List Prd) (ao:Option Addr) (n cap M L:Nat) (hM:M≤1000) (hL:L≤1000) (hn:n = ks.length) (hbig:n≤9223372036854775807)
  (hk:ks = []∨∃ g off,ao = some ⟨g,off,none⟩∧P g∧g < w.heap.size∧KidsC w P ks g off)
  (ih:∀ (q:Prd) (W:World) (vs:List Value),q∈ks→PredC W P q vs→Calls Tryz.prog 82 #[.agg vs.toArray,.int .i64 (M:Int),.int .i64 (L:Int)] W fun e w'=>e = .returned (.int .i64 (couP M L q:Nat))∧Below W.heap.size W w') :
  Calls Tryz.prog 82 #[.agg #[.int .i64 κ,.string (strN l),.string (strN r),.int .i64 c,.slice ao n cap],.int .i64 (M:Int),.int .i64 ((L + 1:Nat):Int)] w fun e w'=>e = .returned (.int .i64 (couL M L 1 ks:Nat))∧Below w.heap.size w w':=by
 have bx:=(Below.refl w.heap.size w).alloc (Nat.le_refl _) (.cells #[.int .i64 κ,.string (strN l),.string (strN r),.int .i64 c,.slice ao n cap] 25)
 have B1:=mkHid bx
 have X1:Hid (HasV (w.alloc (.cells #[.int .i64 κ,.string (strN l),.string (strN r),.int .i64 c,.slice ao n cap] 25)) w.heap.size 25 [.int .i64 κ,.string (strN l),.string (strN r),.int .i64 c,.slice ao n cap]):=mkHid (heap_alloc_new w _)
 have HK:=mkHid hk
 have HN:=mkHid hn
 have IH:=mkHid ih
 have HB:Hid (∀ q,couP M L q≤(L + 1) * (M + 1)):=mkHid (couP_le M L)
 have HB2:(L + 1) * (M + 1)≤1002001:=Nat.mul_le_mul (show L + 1≤1001 by omega) (show M + 1≤1001 by omega)
 obtain ⟨V,hV⟩:∃ V,couL M L 1 ks = V:=⟨_,rfl⟩
 have S0:Hid (V = couL M L 1 (ks.drop 0)):=mkHid (by rw [List.drop_zero]; exact hV.symm)
 rw [hV]
 have hl0:¬ ((L + 1:Nat):Int) < 1:=by omega
 have es:IntKind.i64.wrap (((L + 1:Nat):Int) - 1) = (L:Int):=by rw [IntWalk.i64_in _ (by omega)]; omega
 clear bx hk ih hn hV
 generalize hΛ:((L + 1:Nat):Int) = Λ at *
 clear hΛ
 generalize strN l = y at *
 generalize strN r = z at *
 go_enter Tryz.func82,Tryz.ntmps82
 go_upto_region 1 with (fail)
 generalize w.alloc (.cells #[.int .i64 κ,.string y,.string z,.int .i64 c,.slice ao n cap] 25) = w1 at *
 go_wp2_with fail
 go_loopw [7,8] (fun c1 c2 wr=>∃ (m i:Nat),c1 = .int .i64 m∧c2 = .int .i64 i∧i≤n∧m≤2004003∧Hid (V = couL M L m (ks.drop i))∧Hid (Below w.heap.size w wr)∧Hid (HasV wr w.heap.size 25 [.int .i64 κ,.string y,.string z,.int .i64 c,.slice ao n cap])) (fun _ c2 _=>(n - intOf c2).toNat)
 case atStart=>exact ⟨1,0,rfl,rfl,by omega,by omega,S0,B1,X1⟩
 case round =>
  clear S0 B1 X1
  obtain ⟨m,i,rfl,rfl,hi,hm,hs,hw,hx⟩:=hrel
  have x4:=hx.out.cell 4 _ rfl
  by_cases hlt:i < n
  ·have ii:(i:Int) < n:=by omega
   have e2:IntKind.i64.wrap ((i:Int) + 1) = ((i + 1:Nat):Int):=IntWalk.i64_in _ (by omega)
   have HQ:Hid (∃ q,ks[i]? = some q∧∃ g off,ao = some ⟨g,off,none⟩∧∃ vs,PredC wr P q vs∧Reads wr g (off + i * 5) vs):=mkHid (by
    have hl:i < ks.length:=by rw [← HN.out]; exact hlt
    refine ⟨ks[i],List.getElem?_eq_getElem hl,?_⟩
    rcases HK.out with h | ⟨g,off,h1,h2,h3,h4⟩
    ·rw [h] at hl; exact absurd hl (Nat.not_lt_zero _)
    ·obtain ⟨vs,hv1,hv2⟩:=KidsC.at ks g off i _ (List.getElem?_eq_getElem hl) h4
     exact ⟨g,off,h1,vs,hv1.below hw.out,hv2.of_block (hw.out.block g h3)⟩)
   obtain ⟨q,hqi,gk,off,hao,vs,hpc,hrd⟩:=HQ.out
   clear HQ
   have HST:=mkHid (hs.out.trans (couL_drop M L m ks i q hqi))
   by_cases hmM:m≤M
   ·have hmM':(m:Int)≤(M:Int):=by omega
    obtain ⟨xa,xn,xc,hvf,-⟩:=hpc.form
    rw [hvf] at hrd hpc
    have HCL:=mkHid (IH.out q wr _ (List.mem_of_getElem? hqi) hpc)
    have HS2:Hid (V = couL M L (m + couP M L q) (ks.drop (i + 1))):=mkHid (by rw [HST.out,if_pos hmM])
    have hcq:=HB.out q
    have s0:=hrd 0 _ rfl
    have s1:=hrd 1 _ rfl
    have s2:=hrd 2 _ rfl
    have s3:=hrd 3 _ rfl
    have s4:=hrd 4 _ rfl
    rw [Nat.add_zero] at s0
    have HAO:=mkHid hao
    clear hrd hpc hvf vs hqi hs HST
    subst hao
    generalize q.k = q0 at *
    generalize strN q.l = q1 at *
    generalize strN q.r = q2 at *
    generalize q.c = q3 at *
    generalize couP M L q = cq at *
    have e3:IntKind.i64.wrap ((m:Int) + (cq:Int)) = ((m + cq:Nat):Int):=IntWalk.i64_in _ (by omega)
    go_wp2_with fail
    refine HCL.out.mono ?_
    rintro e w3 ⟨rfl,b3⟩
    have W3:=mkHid (hw.out.trans (b3.mono hw.out.size))
    have X3:=mkHid (hx.out.step b3)
    clear b3 s0 s1 s2 s3 s4 x4 hw hx HCL
    go_wp2
    go_roundw
    case rel=>exact ⟨m + cq,i + 1,by go_num,by go_num,by omega,by omega,HS2,W3,X3⟩
    case measure=>simp only [intOf]; omega
   ·have hmM':¬ (m:Int)≤(M:Int):=by omega
    have HF:Hid (V = m):=mkHid (by rw [HST.out,if_neg hmM])
    go_wp2
    go_ret
    exact ⟨ret_int (by rw [HF.out]),hw.out⟩
  ·have ii:¬ ((i:Int) < n):=by omega
   have HF:Hid (V = m):=mkHid (by rw [hs.out,List.drop_eq_nil_of_le (by rw [← HN.out]; omega),couL])
   go_wp2
   go_ret
   exact ⟨ret_int (by rw [HF.out]),hw.out⟩
mutual
def LenP:Prd→Prop
 | .mk _ _ _ _ ks=>ks.length≤9223372036854775807∧LenL ks
def LenL:List Prd→Prop
 | []=>True
 | p :: ps=>LenP p∧LenL ps
end
theorem LenL_iff:∀ ks:List Prd,LenL ks ↔ ∀ q∈ks,LenP q
 | []=>by simp [LenL]
 | p :: ps=>by simp [LenL,LenL_iff ps]
theorem cou_any (M:Nat) (hM:M≤1000):∀ (L:Nat) (p:Prd) (w:World) (P:Nat→Prop) (vs:List Value),L≤1000→LenP p→PredC w P p vs →
  Calls Tryz.prog 82 #[.agg vs.toArray,.int .i64 (M:Int),.int .i64 (L:Int)] w fun e w'=>e = .returned (.int .i64 (couP M L p:Nat))∧Below w.heap.size w w'
 | 0,.mk κ l r c ks,w,P,vs,_,_,h=>by
  unfold PredC at h
  obtain ⟨ao,cap,rfl,-⟩:=h
  have:=cou_zero w κ (strN l) (strN r) c ao ks.length cap M hM
  rw [couP]
  exact this
 | L + 1,.mk κ l r c ks,w,P,vs,hL,hlen,h=>by
  unfold PredC at h
  unfold LenP at hlen
  obtain ⟨ao,cap,rfl,hk⟩:=h
  rw [couP]
  exact cou_node w P κ l r c ks ao ks.length cap M L hM (by omega) rfl hlen.1 hk (fun q W us hq hpc=>cou_any M hM L q W P us (by omega) ((LenL_iff ks).1 hlen.2 q hq) hpc)
def fewP (p:Prd) (M L:Nat):Bool:=decide (couP M L p≤M)
set_option maxHeartbeats 8000000 in
set_option maxRecDepth 100000 in
theorem few_any (p:Prd) (M L:Nat) (hM:M≤1000) (hL:L≤1000) (w:World) (P:Nat→Prop) (vs:List Value) (hlen:LenP p) (h:PredC w P p vs) :
  Calls Tryz.prog 19 #[.agg vs.toArray,.int .i64 (M:Int),.int .i64 (L:Int)] w fun e w'=>e = .returned (.bool (fewP p M L))∧Below w.heap.size w w':=by
 obtain ⟨xa,xn,xc,rfl,-⟩:=h.form
 have bx:=(Below.refl w.heap.size w).alloc (Nat.le_refl _) (.cells #[.int .i64 p.k,.string (strN p.l),.string (strN p.r),.int .i64 p.c,.slice xa xn xc] 25)
 have B1:=mkHid bx
 have X1:Hid (HasV (w.alloc (.cells #[.int .i64 p.k,.string (strN p.l),.string (strN p.r),.int .i64 p.c,.slice xa xn xc] 25)) w.heap.size 25 [.int .i64 p.k,.string (strN p.l),.string (strN p.r),.int .i64 p.c,.slice xa xn xc]):=mkHid (heap_alloc_new w _)
 have HC:=mkHid (fun W (hW:Below w.heap.size w W)=>cou_any M hM L p W P _ hL hlen (h.below hW))
 have HV:Hid (fewP p M L = decide (couP M L p≤M)):=mkHid rfl
 obtain ⟨V,hV⟩:∃ V,fewP p M L = V:=⟨_,rfl⟩
 rw [hV] at HV ⊢
 clear bx h hlen hV
 generalize couP M L p = cp at *
 generalize p.k = q0 at *
 generalize strN p.l = q1 at *
 generalize strN p.r = q2 at *
 generalize p.c = q3 at *
 go_enter Tryz.func19,Tryz.ntmps19
 go_upto_region 1 with (fail)
 generalize w.alloc (.cells #[.int .i64 q0,.string q1,.string q2,.int .i64 q3,.slice xa xn xc] 25) = w1 at *
 go_wp2_with (refine wpList_load_wanted (by rfl) 25 (.tmp 3) rfl w.heap.size (by rfl) 25 #[.int .i64 q0,.string q1,.string q2,.int .i64 q3,.slice xa xn xc] (0,0) _ X1.out Tryz.underlying25 rfl (inf_pred _ rfl) ?_)
 refine (HC.out w1 B1.out).mono ?_
 rintro e w2 ⟨rfl,b2⟩
 have B2:=mkHid (B1.out.trans (b2.mono B1.out.size))
 clear b2 HC
 by_cases hle:cp≤M
 ·have h1:(cp:Int)≤(M:Int):=by omega
  have HX:Hid (V = true):=mkHid (by rw [HV.out]; exact decide_eq_true hle)
  clear hle
  go_wp2
  go_ret
  exact ⟨ret_bool HX.out.symm,B2.out⟩
 ·have h1:¬ (cp:Int)≤(M:Int):=by omega
  have HX:Hid (V = false):=mkHid (by rw [HV.out]; exact decide_eq_false hle)
  go_wp2
  go_ret
  exact ⟨ret_bool HX.out.symm,B2.out⟩
end Go.Proofs.YtmkdfbelbcocpaaGreatDoor
namespace Go.Proofs.YtmkdfbelbcocpaaGreatDoor
open Go.RowKit Go.Sort
mutual
def namP:Prd→Bool
 | .mk _ l r _ ks=>namL ks && (decide (l.length≤60) && decide (r.length≤60))
def namL:List Prd→Bool
 | []=>true
 | q :: qs=>namP q && namL qs
end
theorem namL_drop (ks:List Prd) (i:Nat) (q:Prd) (h:ks[i]? = some q):namL (ks.drop i) = (namP q && namL (ks.drop (i + 1))):=by
 have h1:ks.drop i = q :: ks.drop (i + 1):=List.drop_eq_getElem?_toList_append .. |>.trans (by rw [h]; rfl)
 rw [h1,namL]
set_option maxHeartbeats 8000000 in
set_option maxRecDepth 100000 in
theorem nam_node (w:World) (P:Nat→Prop) (κ:Int) (l r:List Nat) (c:Int) (ks:List Prd) (ao:Option Addr) (n cap:Nat) (hn:n = ks.length) (hbig:n≤9223372036854775807)
  (hk:ks = []∨∃ g off,ao = some ⟨g,off,none⟩∧P g∧g < w.heap.size∧KidsC w P ks g off)
  (ih:∀ (q:Prd) (W:World) (vs:List Value),q∈ks→PredC W P q vs→Calls Tryz.prog 26 #[.agg vs.toArray] W fun e w'=>e = .returned (.bool (namP q))∧Below W.heap.size W w') :
  Calls Tryz.prog 26 #[.agg #[.int .i64 κ,.string (strN l),.string (strN r),.int .i64 c,.slice ao n cap]] w fun e w'=>e = .returned (.bool (namP (.mk κ l r c ks)))∧Below w.heap.size w w':=by
 have bx:=(Below.refl w.heap.size w).alloc (Nat.le_refl _) (.cells #[.int .i64 κ,.string (strN l),.string (strN r),.int .i64 c,.slice ao n cap] 25)
 have B1:=mkHid bx
 have X1:Hid (HasV (w.alloc (.cells #[.int .i64 κ,.string (strN l),.string (strN r),.int .i64 c,.slice ao n cap] 25)) w.heap.size 25 [.int .i64 κ,.string (strN l),.string (strN r),.int .i64 c,.slice ao n cap]):=mkHid (heap_alloc_new w _)
 have HK:=mkHid hk
 have HN:=mkHid hn
 have IH:=mkHid ih
 have hz1:=strN_size l
 have hz2:=strN_size r
 obtain ⟨V,hV⟩:∃ V,namP (.mk κ l r c ks) = V:=⟨_,rfl⟩
 have S0:Hid (V = (namL (ks.drop 0) && (decide (l.length≤60) && decide (r.length≤60)))):=mkHid (by rw [List.drop_zero,← hV,namP])
 rw [hV]
 clear bx hk ih hn hV
 generalize l.length = m1 at *
 generalize r.length = m2 at *
 generalize strN l = y at *
 generalize strN r = z at *
 go_enter Tryz.func26,Tryz.ntmps26
 go_upto_region 1 with (fail)
 generalize w.alloc (.cells #[.int .i64 κ,.string y,.string z,.int .i64 c,.slice ao n cap] 25) = w1 at *
 go_wp2_with fail
 go_loopw [3] (fun c2 wr=>∃ (i:Nat),c2 = .int .i64 i∧i≤n∧Hid (V = (namL (ks.drop i) && (decide (m1≤60) && decide (m2≤60))))∧Hid (Below w.heap.size w wr)∧Hid (HasV wr w.heap.size 25 [.int .i64 κ,.string y,.string z,.int .i64 c,.slice ao n cap])) (fun c2 _=>(n - intOf c2).toNat)
 case atStart=>exact ⟨0,rfl,by omega,S0,B1,X1⟩
 case round =>
  clear S0 B1 X1
  obtain ⟨i,rfl,hi,hs,hw,hx⟩:=hrel
  have x4:=hx.out.cell 4 _ rfl
  by_cases hlt:i < n
  ·have ii:(i:Int) < n:=by omega
   have e2:IntKind.i64.wrap ((i:Int) + 1) = ((i + 1:Nat):Int):=IntWalk.i64_in _ (by omega)
   have HQ:Hid (∃ q,ks[i]? = some q∧∃ g off,ao = some ⟨g,off,none⟩∧∃ vs,PredC wr P q vs∧Reads wr g (off + i * 5) vs):=mkHid (by
    have hl:i < ks.length:=by rw [← HN.out]; exact hlt
    refine ⟨ks[i],List.getElem?_eq_getElem hl,?_⟩
    rcases HK.out with h | ⟨g,off,h1,h2,h3,h4⟩
    ·rw [h] at hl; exact absurd hl (Nat.not_lt_zero _)
    ·obtain ⟨vs,hv1,hv2⟩:=KidsC.at ks g off i _ (List.getElem?_eq_getElem hl) h4
     exact ⟨g,off,h1,vs,hv1.below hw.out,hv2.of_block (hw.out.block g h3)⟩)
   obtain ⟨q,hqi,gk,off,hao,vs,hpc,hrd⟩:=HQ.out
   clear HQ
   have HST:=mkHid (namL_drop ks i q hqi)
   obtain ⟨xa,xn,xc,hvf,-⟩:=hpc.form
   rw [hvf] at hrd hpc
   have HCL:=mkHid (IH.out q wr _ (List.mem_of_getElem? hqi) hpc)
   have s0:=hrd 0 _ rfl
   have s1:=hrd 1 _ rfl
   have s2:=hrd 2 _ rfl
   have s3:=hrd 3 _ rfl
   have s4:=hrd 4 _ rfl
   rw [Nat.add_zero] at s0
   have HAO:=mkHid hao
   clear hrd hpc hvf vs hqi
   subst hao
   generalize q.k = q0 at *
   generalize strN q.l = q1 at *
   generalize strN q.r = q2 at *
   generalize q.c = q3 at *
   generalize namP q = b at *
   go_wp2_with fail
   refine HCL.out.mono ?_
   rintro e w3 ⟨rfl,b3⟩
   have W3:=mkHid (hw.out.trans (b3.mono hw.out.size))
   have X3:=mkHid (hx.out.step b3)
   clear b3 s0 s1 s2 s3 s4 x4 hw hx HCL
   cases b with
   | false =>
    have HF:Hid (V = false):=mkHid (by rw [hs.out,HST.out]; rfl)
    go_wp2
    go_ret
    exact ⟨ret_bool HF.out.symm,W3.out⟩
   | true =>
    have HF:Hid (V = (namL (ks.drop (i + 1)) && (decide (m1≤60) && decide (m2≤60)))):=mkHid (by rw [hs.out,HST.out,Bool.true_and])
    go_wp2
    go_roundw
    case rel=>exact ⟨i + 1,by go_num,by omega,HF,W3,X3⟩
    case measure=>simp only [intOf]; omega
  ·have ii:¬ ((i:Int) < n):=by omega
   have HF:Hid (V = (decide (m1≤60) && decide (m2≤60))):=mkHid (by rw [hs.out,List.drop_eq_nil_of_le (by rw [← HN.out]; omega),namL,Bool.true_and])
   have x1:=hx.out.cell 1 _ rfl
   have x2:=hx.out.cell 2 _ rfl
   by_cases h1:m1≤60
   ·have h1':(m1:Int)≤60:=by omega
    by_cases h2:m2≤60
    ·have h2':(m2:Int)≤60:=by omega
     have HG:Hid (V = true):=mkHid (by rw [HF.out,decide_eq_true h1,decide_eq_true h2]; rfl)
     go_wp2
     go_ret
     exact ⟨ret_bool HG.out.symm,hw.out⟩
    ·have h2':¬ (m2:Int)≤60:=by omega
     have HG:Hid (V = false):=mkHid (by rw [HF.out,decide_eq_true h1,decide_eq_false h2]; rfl)
     go_wp2
     go_ret
     exact ⟨ret_bool HG.out.symm,hw.out⟩
   ·have h1':¬ (m1:Int)≤60:=by omega
    have HG:Hid (V = false):=mkHid (by rw [HF.out,decide_eq_false h1,Bool.false_and])
    go_wp2
    go_ret
    exact ⟨ret_bool HG.out.symm,hw.out⟩
theorem names_any:∀ (N:Nat) (p:Prd) (w:World) (P:Nat→Prop) (vs:List Value),cntP p≤N→LenP p→PredC w P p vs →
  Calls Tryz.prog 26 #[.agg vs.toArray] w fun e w'=>e = .returned (.bool (namP p))∧Below w.heap.size w w'
 | 0,p,w,P,vs,hN,_,_=>by have:=cnt_pos p; omega
 | N + 1,.mk κ l r c ks,w,P,vs,hN,hlen,h=>by
  have hc2:cntL ks≤N:=by unfold cntP at hN; omega
  unfold PredC at h
  unfold LenP at hlen
  obtain ⟨ao,cap,rfl,hk⟩:=h
  exact nam_node w P κ l r c ks ao ks.length cap rfl hlen.1 hk (fun q W us hq hpc=>names_any N q W P us (by
   obtain ⟨i,hi⟩:=List.mem_iff_getElem?.1 hq
   have:=cnt_kid ks i q hi
   omega) ((LenL_iff ks).1 hlen.2 q hq) hpc)
def shoP (p:Prd):Bool:=fewP p 110 14 && namP p
set_option maxHeartbeats 8000000 in
set_option maxRecDepth 100000 in
theorem short_any (p:Prd) (w:World) (P:Nat→Prop) (vs:List Value) (hlen:LenP p) (h:PredC w P p vs) :
  Calls Tryz.prog 23 #[.agg vs.toArray] w fun e w'=>e = .returned (.bool (shoP p))∧Below w.heap.size w w':=by
 obtain ⟨xa,xn,xc,rfl,-⟩:=h.form
 have bx:=(Below.refl w.heap.size w).alloc (Nat.le_refl _) (.cells #[.int .i64 p.k,.string (strN p.l),.string (strN p.r),.int .i64 p.c,.slice xa xn xc] 25)
 have B1:=mkHid bx
 have X1:Hid (HasV (w.alloc (.cells #[.int .i64 p.k,.string (strN p.l),.string (strN p.r),.int .i64 p.c,.slice xa xn xc] 25)) w.heap.size 25 [.int .i64 p.k,.string (strN p.l),.string (strN p.r),.int .i64 p.c,.slice xa xn xc]):=mkHid (heap_alloc_new w _)
 have HF:=mkHid (fun W (hW:Below w.heap.size w W)=>few_any p 110 14 (by omega) (by omega) W P _ hlen (h.below hW))
 have HM:=mkHid (fun W (hW:Below w.heap.size w W)=>names_any (cntP p) p W P _ (Nat.le_refl _) hlen (h.below hW))
 have HV:Hid (shoP p = (fewP p 110 14 && namP p)):=mkHid rfl
 obtain ⟨V,hV⟩:∃ V,shoP p = V:=⟨_,rfl⟩
 rw [hV] at HV ⊢
 clear bx h hlen hV
 generalize fewP p 110 14 = s at *
 generalize namP p = f at *
 generalize p.k = q0 at *
 generalize strN p.l = q1 at *
 generalize strN p.r = q2 at *
 generalize p.c = q3 at *
 go_enter Tryz.func23,Tryz.ntmps23
 go_upto_region 1 with (fail)
 generalize w.alloc (.cells #[.int .i64 q0,.string q1,.string q2,.int .i64 q3,.slice xa xn xc] 25) = w1 at *
 go_wp2_with (refine wpList_load_row rfl 25 (.tmp 1) rfl w.heap.size ?x1 25 #[.int .i64 q0,.string q1,.string q2,.int .i64 q3,.slice xa xn xc] (0,0) _ X1.out Tryz.underlying25 rfl (inf_pred _ rfl) ?_; (case x1=>rfl))
 refine (HF.out w1 B1.out).mono ?_
 rintro e w2 ⟨rfl,b2⟩
 have B2:=mkHid (B1.out.trans (b2.mono B1.out.size))
 have X2:=mkHid (X1.out.step b2)
 clear b2
 cases s with
 | false =>
  rw [Bool.false_and] at HV
  go_wp2
  go_ret
  exact ⟨ret_bool HV.out.symm,B2.out⟩
 | true =>
  rw [Bool.true_and] at HV
  go_wp2_with (refine wpList_load_wanted (by rfl) 25 (.tmp 1) rfl w.heap.size (by rfl) 25 #[.int .i64 q0,.string q1,.string q2,.int .i64 q3,.slice xa xn xc] (0,0) _ X2.out Tryz.underlying25 rfl (inf_pred _ rfl) ?_)
  refine (HM.out w2 B2.out).mono ?_
  rintro e w3 ⟨rfl,b3⟩
  have B3:=mkHid (B2.out.trans (b3.mono B2.out.size))
  clear b3
  go_wp2
  go_ret
  exact ⟨ret_bool HV.out.symm,B3.out⟩
end Go.Proofs.YtmkdfbelbcocpaaGreatDoor
namespace Go.Proofs.YtmkdfbelbcocpaaGreatDoor
open Go.RowKit Go.Sort Go.Maps
structure Bnd where
 n:List Nat
 v:Int
def bndC (b:Bnd):List Value:=[.string (strN b.n),.int .i64 b.v]
def litN (s:List Nat):Lit:=.string (strN s).data.toList
structure NmOk (s:List Nat):Prop where
 b:∀ y∈s,y < 256
 l:s.length≤maxLen
theorem litN_inj (s t:List Nat) (hs:NmOk s) (ht:NmOk t) (e:litN s = litN t):s = t:=by
 unfold litN at e
 injection e with e
 rw [strN_dataL,strN_dataL] at e
 exact map_u8_inj s t hs.b ht.b e
theorem nmLaw:Keyed Tryz.prog 9:=string_keyed Tryz.underlying9
theorem keyOf_nm (s:List Nat) (h:NmOk s):keyOf Tryz.prog 9 (.string (strN s)) = some (litN s):=WideMaps.keyOf_string_mk Tryz.underlying9 (by rw [strN_size]; exact h.l)
def SetN (w:World) (b:Nat) (S:List (List Nat)):Prop :=
 ∃ D:DataW Unit,w.ownsMap Tryz.prog 9 (plainElem Tryz.prog 4) b S.length D∧(∀ l,has D l = true ↔ ∃ k∈S,litN k = l)∧∀ k∈S,∀ zd,D.atKey (litN k) zd = .lit (.bool true)
theorem SetN.lt {w:World} {b:Nat} {S:List (List Nat)} (h:SetN w b S):b < w.heap.size:=by
 obtain ⟨D,h1,_⟩:=h
 exact h1.lt
theorem SetN.step {w w':World} {b:Nat} {S:List (List Nat)} (h:SetN w b S) (hb:RowKit.Below w.heap.size w w'):SetN w' b S:=by
 obtain ⟨D,h1,h2⟩:=h
 exact ⟨D,h1.kept (grown_of_below hb none) (by simp),h2⟩
theorem SetN.nil (w:World):SetN (w.alloc (.map #[] 0)) w.heap.size []:=by
 refine ⟨_,World.ownsMap_made w _ _ _,fun l=>?_,fun k hk=>absurd hk List.not_mem_nil⟩
 constructor
 ·intro h; cases h
 ·rintro ⟨k,hk,_⟩; exact absurd hk List.not_mem_nil
theorem SetN.put {w w':World} {b:Nat} {S:List (List Nat)} {D:DataW Unit} (k:List Nat) (hk:NmOk k) (h:w.ownsMap Tryz.prog 9 (plainElem Tryz.prog 4) b S.length D) (h1:∀ l,has D l = true ↔ ∃ k∈S,litN k = l) (h2:∀ k∈S,∀ zd,D.atKey (litN k) zd = .lit (.bool true))
  (h':w'.ownsMap Tryz.prog 9 (plainElem Tryz.prog 4) b (S.length + 1) (D.put (litN k) (.lit (.bool true)))):SetN w' b (S ++ [k]):=by
 have hkl:=nmLaw.key (keyOf_nm k hk)
 refine ⟨_,by rw [List.length_append]; exact h',fun l=>?_,fun x hx zd=>?_⟩
 ·by_cases he:l = litN k
  ·subst he
   rw [has_put_same h.isMap hkl]
   exact ⟨fun _=>⟨k,by simp,rfl⟩,fun _=>rfl⟩
  ·rw [has_put_other he,h1]
   constructor
   ·rintro ⟨x,hx,hl⟩; exact ⟨x,by simp [hx],hl⟩
   ·rintro ⟨x,hx,hl⟩
    rcases List.mem_append.1 hx with hx | hx
    ·exact ⟨x,hx,hl⟩
    ·rw [List.mem_singleton] at hx
     subst hx
     exact absurd hl.symm he
 ·by_cases he:litN x = litN k
  ·rw [he,atKey_put_same h.isMap hkl]
  ·rw [atKey_put_other he]
   rcases List.mem_append.1 hx with hx | hx
   ·exact h2 x hx zd
   ·rw [List.mem_singleton] at hx
    subst hx
    exact absurd rfl he
end Go.Proofs.YtmkdfbelbcocpaaGreatDoor
namespace Go.Proofs.YtmkdfbelbcocpaaGreatDoor
open Go.RowKit Go.Sort Go.Maps
theorem nmOk_nil:NmOk []:=⟨by simp,by simp⟩
end Go.Proofs.YtmkdfbelbcocpaaGreatDoor
namespace Go.Proofs.YtmkdfbelbcocpaaGreatDoor
open Go.RowKit Go.Sort Go.Maps
theorem nmOk_l {k:Ky} (h:KyOk k):NmOk k.l:=⟨h.lb,h.ll⟩
theorem nmOk_r {k:Ky} (h:KyOk k):NmOk k.r:=⟨h.rb,h.rl⟩
end Go.Proofs.YtmkdfbelbcocpaaGreatDoor
namespace Go.Proofs.YtmkdfbelbcocpaaGreatDoor
def nmB (l:List Nat):Bool:=l.all (fun y=>decide (y < 256)) && decide (l.length≤1000)
mutual
def bytB:Prd→Bool
 | .mk k l r c ks=>nmB l && (nmB r && bytBL ks)
def bytBL:List Prd→Bool
 | []=>true
 | p :: ps=>bytB p && bytBL ps
end
theorem nmB_ok {l:List Nat} (h:nmB l = true):NmB l:=by
 unfold nmB at h
 rw [Bool.and_eq_true,List.all_eq_true] at h
 exact ⟨fun y hy=>of_decide_eq_true (h.1 y hy),Nat.le_trans (of_decide_eq_true h.2) (by omega)⟩
mutual
theorem bytB_ok:∀ p:Prd,bytB p = true→BytP p
 | .mk k l r c ks,h=>by
  unfold bytB at h
  rw [Bool.and_eq_true,Bool.and_eq_true] at h
  unfold BytP
  exact ⟨nmB_ok h.1,nmB_ok h.2.1,bytBL_ok ks h.2.2⟩
theorem bytBL_ok:∀ ks:List Prd,bytBL ks = true→BytL ks
 | [],_=>by unfold BytL; trivial
 | p :: ps,h=>by
  unfold bytBL at h
  rw [Bool.and_eq_true] at h
  unfold BytL
  exact ⟨bytB_ok p h.1,bytBL_ok ps h.2⟩
end
end Go.Proofs.YtmkdfbelbcocpaaGreatDoor
namespace Go.Proofs.YtmkdfbelbcocpaaGreatDoor
open Go.RowKit Go.Sort
theorem byte_of {l:List Nat} (h:nmB l = true):∀ y∈l,y < 256:=(nmB_ok h).1
end Go.Proofs.YtmkdfbelbcocpaaGreatDoor
namespace Go.Proofs.YtmkdfbelbcocpaaGreatDoor
open Go.RowKit Go.Sort Go.Maps
set_option maxHeartbeats 4000000 in
set_option maxRecDepth 100000 in
theorem rfree_any (l:List Nat) (w:World) (hl:l.length≤1000000) (hb:∀ y∈l,y < 256) :
  Calls Tryz.prog 85 #[.string (strN l)] w fun e w'=>e = .returned (.bool (freeB l))∧RowKit.Below w.heap.size w w':=by
 have H1:=mkHid (rname_any l w hl hb)
 have H2:=mkHid (fun (W:World) (g:Nat) (hr:HasV W g 9 (wordsL.map (fun s=>.string (strN s))))=>rhas_any g 0 8 8 wordsL l W rfl (by omega) (fun j u hj=>by rw [Nat.zero_add]; exact hr.cell j u hj) hb words_byte)
 have HV:Hid (freeB l = (nameB l && !hasL wordsL l)):=mkHid rfl
 have B0:=mkHid (RowKit.Below.refl w.heap.size w)
 clear hl hb
 generalize freeB l = V at *
 generalize nameB l = b1 at *
 generalize hasL wordsL l = b2 at *
 generalize strN l = t at *
 go_enter Tryz.func85,Tryz.ntmps85
 go_wp2_with fail
 refine H1.out.mono ?_
 rintro e w1 ⟨rfl,rfl⟩
 cases b1 with
 | false =>
  go_wp2
  go_ret
  exact ⟨ret_bool (by rw [HV.out]; rfl),B0.out⟩
 | true =>
  go_wp2_with fail
  refine (rwords_any w).mono ?_
  rintro e w2 ⟨rfl,hv,b2'⟩
  have HH:=mkHid (H2.out w2 _ hv)
  have B2:=mkHid b2'
  clear hv b2'
  go_wp2_with fail
  refine HH.out.mono ?_
  rintro e w3 ⟨rfl,rfl⟩
  go_wp2
  go_ret
  exact ⟨ret_bool (by rw [HV.out]; rfl),B2.out⟩
theorem dot_stop (l:List Nat) (i:Nat) (hi:i < l.length) (h:∀ j,j < i→l.getD j 0 ≠ 46) (h2:l.getD i 0 = 46):runN notDot l = i :=
 (runN_eq notDot l i (by omega) (fun j hj=>by unfold notDot; simpa using h j hj) (fun _=>by unfold notDot; rw [h2]; rfl)).symm
theorem dot_none (l:List Nat) (h:∀ j,j < l.length→l.getD j 0 ≠ 46):runN notDot l = l.length :=
 (runN_eq notDot l l.length (by omega) (fun j hj=>by unfold notDot; simpa using h j hj) (fun h=>absurd h (by omega))).symm
set_option maxHeartbeats 8000000 in
set_option maxRecDepth 100000 in
theorem rvname_any (l:List Nat) (w:World) (hl:l.length≤1000000) (hb:∀ y∈l,y < 256) :
  Calls Tryz.prog 22 #[.string (strN l)] w fun e w'=>e = .returned (.bool (validN l))∧RowKit.Below w.heap.size w w':=by
 have SZ:=mkHid (strN_size l)
 have HX:Hid (∀ i:Nat,i < l.length→∀ w,(Instr.index 9 (.string (strN l)) (.int .i64 (i:Int))).run Tryz.prog w = .ok (.int .u8 ((l.getD i 0:Nat):Int)) w):=mkHid (fun i hi w=>str_at l i hi hb w)
 have HS:Hid (∀ i:Nat,i≤l.length→∀ w,(Instr.slice 9 (.string (strN l)) (some (.int .i64 (i:Int))) none none).run Tryz.prog w = .ok (.string (strN (l.drop i))) w):=mkHid (fun i hi w=>str_from l i hi w)
 have HU:Hid (∀ i:Nat,i≤l.length→∀ w,(Instr.slice 9 (.string (strN l)) none (some (.int .i64 (i:Int))) none).run Tryz.prog w = .ok (.string (strN (l.take i))) w):=mkHid (fun i hi w=>str_upto l i hi w)
 have HF1:=mkHid (fun (i:Nat) W=>rfree_any (l.take i) W (by rw [List.length_take]; omega) (fun y hy=>hb y (List.mem_of_mem_take hy)))
 have HF2:=mkHid (fun (i:Nat) W=>rfree_any (l.drop i) W (by rw [List.length_drop]; omega) (fun y hy=>hb y (List.mem_of_mem_drop hy)))
 have HV:Hid (validN l = (decide (runN notDot l < l.length) && (freeB (l.take (runN notDot l)) && freeB (l.drop (runN notDot l + 1))))):=mkHid rfl
 have HB:=mkHid hb
 have B0:=mkHid (RowKit.Below.refl w.heap.size w)
 clear hb
 generalize validN l = V at *
 generalize strN l = t at *
 go_enter Tryz.func22,Tryz.ntmps22
 go_wp2_with fail
 go_loop [3] (fun c=>∃ i:Nat,c = .int .i64 i∧i≤l.length∧Hid (∀ j,j < i→l.getD j 0 ≠ 46)) (fun c=>(l.length - intOf c).toNat)
 case atStart=>exact ⟨0,rfl,by omega,mkHid (fun j hj=>absurd hj (Nat.not_lt_zero j))⟩
 case round =>
  obtain ⟨i,rfl,hi,hz⟩:=hrel
  have hsz:=SZ.out
  have e2:IntKind.i64.wrap ((i:Int) + 1) = ((i + 1:Nat):Int):=IntWalk.i64_in _ (by omega)
  by_cases hlt:i < l.length
  ·have hx:=HX.out i hlt
   have ii:(i:Int) < l.length:=by omega
   obtain ⟨v,hv⟩:∃ v,l.getD i 0 = v:=⟨_,rfl⟩
   rw [hv] at hx
   have HVV:=mkHid hv
   clear hv
   by_cases h46:v = 46
   ·have c1:((v:Int) == 46) = true:=by rw [beq_iff_eq]; omega
    have HR:Hid (runN notDot l = i):=mkHid (dot_stop l i hlt hz.out (by rw [HVV.out]; exact h46))
    have HV2:Hid (V = (freeB (l.take i) && freeB (l.drop (i + 1)))):=mkHid (by rw [HV.out,HR.out,decide_eq_true hlt,Bool.true_and])
    have hu:=HU.out i (by omega)
    have hs:∀ w,(Instr.slice 9 (.string t) (some (.int .i64 ((i:Int) + 1))) none none).run Tryz.prog w = .ok (.string (strN (l.drop (i + 1)))) w:=fun w=>by
     have h:=HS.out (i + 1) (by omega) w
     rwa [show ((i + 1:Nat):Int) = (i:Int) + 1 from by omega] at h
    have F1:=mkHid (HF1.out i)
    have F2:=mkHid (HF2.out (i + 1))
    clear h46 HR HV hz HVV
    generalize freeB (l.take i) = b1 at *
    generalize freeB (l.drop (i + 1)) = b2 at *
    generalize strN (l.take i) = s1 at *
    generalize strN (l.drop (i + 1)) = s2 at *
    go_wp2_with fail
    refine (F1.out w).mono ?_
    rintro e w1 ⟨rfl,b1'⟩
    have B1:=mkHid b1'
    clear b1'
    cases b1 with
    | false =>
     go_wp2
     go_ret
     exact ⟨ret_bool (by rw [HV2.out]; rfl),B1.out⟩
    | true =>
     go_wp2_with fail
     refine (F2.out w1).mono ?_
     rintro e w2 ⟨rfl,b2'⟩
     have B2:=mkHid (B1.out.trans (b2'.mono B1.out.size))
     clear b2' hu hs hx F1 F2
     cases b2 with
     | false =>
      go_wp2
      go_ret
      exact ⟨ret_bool (by rw [HV2.out]; rfl),B2.out⟩
     | true =>
      go_wp2
      go_ret
      exact ⟨ret_bool (by rw [HV2.out]; rfl),B2.out⟩
   ·have c1:((v:Int) == 46) = false:=by rw [beq_eq_false_iff_ne]; omega
    have HZ:Hid (∀ j,j < i + 1→l.getD j 0 ≠ 46):=mkHid (fun j hj=>by
     rcases Nat.lt_or_ge j i with h | h
     ·exact hz.out j h
     ·obtain rfl:j = i:=by omega
      rw [HVV.out]; exact h46)
    clear h46 hz
    go_wp2
    go_round
    case rel=>exact ⟨i + 1,by go_num,by omega,HZ⟩
    case measure=>simp only [intOf]; omega
  ·have ii:¬ ((i:Int) < l.length):=by omega
   have HX:Hid (V = false):=mkHid (by rw [HV.out,dot_none l (fun j hj=>hz.out j (by omega)),decide_eq_false (by omega)]; rfl)
   go_wp2
   go_ret
   exact ⟨ret_bool HX.out.symm,B0.out⟩
set_option maxHeartbeats 8000000 in
set_option maxRecDepth 100000 in
theorem rvatom_any (κ:Int) (l r:List Nat) (c:Int) (ao:Option Addr) (n cap:Nat) (w:World) (hl:NmB l) (hr:NmB r) :
  Calls Tryz.prog 48 #[.agg #[.int .i64 κ,.string (strN l),.string (strN r),.int .i64 c,.slice ao n cap]] w fun e w'=>e = .returned (.bool (atomB κ l r c n))∧RowKit.Below w.heap.size w w':=by
 have bx:=(RowKit.Below.refl w.heap.size w).alloc (Nat.le_refl _) (.cells #[.int .i64 κ,.string (strN l),.string (strN r),.int .i64 c,.slice ao n cap] 25)
 have B1:=mkHid bx
 have X1:Hid (HasV (w.alloc (.cells #[.int .i64 κ,.string (strN l),.string (strN r),.int .i64 c,.slice ao n cap] 25)) w.heap.size 25 [.int .i64 κ,.string (strN l),.string (strN r),.int .i64 c,.slice ao n cap]):=mkHid (heap_alloc_new w _)
 have H1:=mkHid (fun W=>rvname_any l W hl.2 hl.1)
 have H2:=mkHid (fun W=>rvname_any r W hr.2 hr.1)
 have HV:Hid (atomB κ l r c n = (κ == 0 && (n == 0 && ((l == [] || validN l) && ((r == [] || validN r) && (decide (-1099511627776≤c) && decide (c < 1099511627776))))))):=mkHid rfl
 have HE:∀ m:List Nat,(strN m).toList.isEmpty = (m == []):=fun m=>by
  cases m with
  | nil=>exact strN_isE0.trans rfl
  | cons a b=>rw [strN_isE _ (by simp)]; rfl
 have he1:=HE l
 have he2:=HE r
 obtain ⟨V,hV⟩:∃ V,atomB κ l r c n = V:=⟨_,rfl⟩
 rw [hV] at HV ⊢
 clear bx hl hr HE hV
 generalize (l == []) = e1 at *
 generalize (r == []) = e2 at *
 generalize validN l = v1 at *
 generalize validN r = v2 at *
 generalize strN l = y at *
 generalize strN r = z at *
 go_enter Tryz.func48,Tryz.ntmps48
 go_upto_region 1 with (fail)
 generalize w.alloc (.cells #[.int .i64 κ,.string y,.string z,.int .i64 c,.slice ao n cap] 25) = w1 at *
 have x0:=X1.out.cell 0 _ rfl
 have x1:=X1.out.cell 1 _ rfl
 have x2:=X1.out.cell 2 _ rfl
 have x3:=X1.out.cell 3 _ rfl
 have x4:=X1.out.cell 4 _ rfl
 by_cases k0:κ = 0
 ·have k0b:(κ == 0) = true:=beq_iff_eq.mpr k0
  rw [k0b,Bool.true_and] at HV
  clear k0
  by_cases n0:n = 0
  ·have n0b:(n == 0) = true:=beq_iff_eq.mpr n0
   have n0c:((n:Int) == 0) = true:=by rw [n0]; rfl
   rw [n0b,Bool.true_and] at HV
   clear n0 n0b
   cases e1 with
   | true =>
    rw [Bool.true_or,Bool.true_and] at HV
    cases e2 with
    | true =>
     rw [Bool.true_or,Bool.true_and] at HV
     by_cases c1:-1099511627776≤c
     ·rw [decide_eq_true c1,Bool.true_and] at HV
      go_wp2
      go_ret
      exact ⟨ret_bool (by rw [HV.out]),B1.out⟩
     ·rw [decide_eq_false c1,Bool.false_and] at HV
      go_wp2
      go_ret
      exact ⟨ret_bool (by rw [HV.out]),B1.out⟩
    | false =>
     rw [Bool.false_or] at HV
     go_wp2_with fail
     refine (H2.out w1).mono ?_
     rintro e w2 ⟨rfl,b2⟩
     have B2:=mkHid (B1.out.trans (b2.mono B1.out.size))
     have X2:=mkHid (X1.out.step b2)
     clear b2 x0 x1 x2 x3 x4
     have x3:=X2.out.cell 3 _ rfl
     cases v2 with
     | false =>
      rw [Bool.false_and] at HV
      go_wp2
      go_ret
      exact ⟨ret_bool (by rw [HV.out]),B2.out⟩
     | true =>
      rw [Bool.true_and] at HV
      by_cases c1:-1099511627776≤c
      ·rw [decide_eq_true c1,Bool.true_and] at HV
       go_wp2
       go_ret
       exact ⟨ret_bool (by rw [HV.out]),B2.out⟩
      ·rw [decide_eq_false c1,Bool.false_and] at HV
       go_wp2
       go_ret
       exact ⟨ret_bool (by rw [HV.out]),B2.out⟩
   | false =>
    rw [Bool.false_or] at HV
    go_wp2_with fail
    refine (H1.out w1).mono ?_
    rintro e w2 ⟨rfl,b2⟩
    have B2:=mkHid (B1.out.trans (b2.mono B1.out.size))
    have X2:=mkHid (X1.out.step b2)
    clear b2 x0 x1 x2 x3 x4
    have x2:=X2.out.cell 2 _ rfl
    have x3:=X2.out.cell 3 _ rfl
    cases v1 with
    | false =>
     rw [Bool.false_and] at HV
     go_wp2
     go_ret
     exact ⟨ret_bool (by rw [HV.out]),B2.out⟩
    | true =>
     rw [Bool.true_and] at HV
     cases e2 with
     | true =>
      rw [Bool.true_or,Bool.true_and] at HV
      by_cases c1:-1099511627776≤c
      ·rw [decide_eq_true c1,Bool.true_and] at HV
       go_wp2
       go_ret
       exact ⟨ret_bool (by rw [HV.out]),B2.out⟩
      ·rw [decide_eq_false c1,Bool.false_and] at HV
       go_wp2
       go_ret
       exact ⟨ret_bool (by rw [HV.out]),B2.out⟩
     | false =>
      rw [Bool.false_or] at HV
      go_wp2_with fail
      refine (H2.out w2).mono ?_
      rintro e w3 ⟨rfl,b3⟩
      have B3:=mkHid (B2.out.trans (b3.mono B2.out.size))
      have X3:=mkHid (X2.out.step b3)
      clear b3 x2 x3
      have x3:=X3.out.cell 3 _ rfl
      cases v2 with
      | false =>
       rw [Bool.false_and] at HV
       go_wp2
       go_ret
       exact ⟨ret_bool (by rw [HV.out]),B3.out⟩
      | true =>
       rw [Bool.true_and] at HV
       by_cases c1:-1099511627776≤c
       ·rw [decide_eq_true c1,Bool.true_and] at HV
        go_wp2
        go_ret
        exact ⟨ret_bool (by rw [HV.out]),B3.out⟩
       ·rw [decide_eq_false c1,Bool.false_and] at HV
        go_wp2
        go_ret
        exact ⟨ret_bool (by rw [HV.out]),B3.out⟩
  ·have n0b:(n == 0) = false:=beq_eq_false_iff_ne.mpr n0
   have n0c:((n:Int) == 0) = false:=by rw [beq_eq_false_iff_ne]; omega
   rw [n0b,Bool.false_and] at HV
   clear n0 n0b
   go_wp2
   go_ret
   exact ⟨ret_bool (by rw [HV.out]),B1.out⟩
 ·have k0b:(κ == 0) = false:=beq_eq_false_iff_ne.mpr k0
  rw [k0b,Bool.false_and] at HV
  clear k0
  go_wp2
  go_ret
  exact ⟨ret_bool (by rw [HV.out]),B1.out⟩
end Go.Proofs.YtmkdfbelbcocpaaGreatDoor
