import Derived.Test.YtmkdfbelbcocpaaGreatDoorBS25
import Derived.Test.YtmkdfbelbcocpaaGreatDoorBS26
import Derived.Test.YtmkdfbelbcocpaaGreatDoorBS27
set_option linter.unusedVariables false
set_option linter.unusedSimpArgs false
namespace Go.Proofs.YtmkdfbelbcocpaaGreatDoor
open Go.RowKit Go.Sort Go.Maps
def NormQ (w':World) (r:Except Int (List Chc)) (lo:Option Addr) (ln:Nat) (er:Int):Prop:=match r with
 | .error x=>ln = 0∧er = x
 | .ok cs=>er = 0∧ln = cs.length∧ChsR w' cs lo
theorem NormR.get {w w':World} {r:Except Int (List Chc)} {e:Ending} (h:NormR w r e w'):RowKit.Below w.heap.size w w'∧∃ lo ln lc er,e = .returned (.tuple #[.slice lo ln lc,.int .i64 er])∧NormQ w' r lo ln er:=by
 obtain ⟨hb,h⟩:=h
 refine ⟨hb,?_⟩
 cases r with
 | error x=>exact ⟨none,0,0,x,h,rfl,rfl⟩
 | ok cs =>
  obtain ⟨ao,cp,vss,he,hr⟩:=h
  exact ⟨ao,cs.length,cp,0,he,rfl,rfl,.of_row hr⟩
theorem norm_cases (p:Prd):(validP p = false∧normP p = .error 1)∨(validP p = true∧8 < (properP p).length∧normP p = .error 6)∨(validP p = true∧(properP p).length≤8∧normP p = .error 6)∨(validP p = true∧(properP p).length≤8∧(choP p).length≤100∧normP p = .ok (choP p)):=by
 unfold normP
 cases hv:validP p with
 | false=>exact .inl ⟨rfl,by rw [if_pos rfl]⟩
 | true =>
  rw [if_neg (by simp)]
  by_cases h8:8 < (properP p).length
  ·rw [if_pos h8]
   exact .inr (.inl ⟨rfl,h8,rfl⟩)
  ·rw [if_neg h8]
   by_cases h1:100 < (choP p).length
   ·rw [if_pos h1]
    exact .inr (.inr (.inl ⟨rfl,by omega,rfl⟩))
   ·rw [if_neg h1]
    exact .inr (.inr (.inr ⟨rfl,by omega,by omega,rfl⟩))
theorem OwnK.kidR {w:World} {B n cap:Nat} {ao:Option Addr} {aa:List Ky} (h:OwnK w B 5 n cap (aa.flatMap atomV) ao) (hn:n = aa.length):KidR w (fun _=>True) (aa.map atomK) ao:=by
 cases h with
 | nil h h1 h2 =>
  refine .inl ?_
  rw [List.eq_nil_of_length_eq_zero (show aa.length = 0 by omega)]
  rfl
 | «at» g off h h1 h2 h3=>exact .inr ⟨g,off,rfl,trivial,h.lt,kids_of_keys w _ aa g off h.cells⟩
end Go.Proofs.YtmkdfbelbcocpaaGreatDoor
namespace Go.Proofs.YtmkdfbelbcocpaaGreatDoor
open Go.RowKit Go.Sort Go.Maps
def AtO (w:World) (B n cap:Nat) (l:List Ky) (ao:Option Addr):Prop :=
 n = l.length∧∃ vss:List (List Value),vss.length = l.length∧(∀ (j:Nat) (k:Ky) (vs:List Value),l[j]? = some k→vss[j]? = some vs→PredC w (fun _=>True) (atomK k) vs)∧OwnK w B 5 n cap vss.flatten ao
theorem AtO.below {w w':World} {B n cap:Nat} {l:List Ky} {ao:Option Addr} (h:AtO w B n cap l ao) (hb:RowKit.Below w.heap.size w w'):AtO w' B n cap l ao:=by
 obtain ⟨hn,vss,h1,h2,h3⟩:=h
 exact ⟨hn,vss,h1,fun j k vs hj hv=>PredC.atom rfl (h2 j k vs hj hv),h3.below hb⟩
theorem AtO.kidR {w:World} {B n cap:Nat} {l:List Ky} {ao:Option Addr} (h:AtO w B n cap l ao):KidR w (fun _=>True) (l.map atomK) ao:=by
 obtain ⟨hn,vss,h1,h2,h3⟩:=h
 cases h3 with
 | nil e1 e2 e3 =>
  refine .inl ?_
  rw [List.eq_nil_of_length_eq_zero (show l.length = 0 by omega)]
  rfl
 | «at» g off h4 h5 h6 h7 =>
  refine .inr ⟨g,off,rfl,trivial,h4.lt,KidsC.of _ vss g off (by rw [List.length_map,h1]) (fun i q vs hq hv=>?_) h4.cells⟩
  rw [List.getElem?_map] at hq
  obtain ⟨k,hk,rfl⟩:=Option.map_eq_some_iff.1 hq
  exact h2 i k vs hk hv
theorem AtO.put {w w':World} {B n cap cap':Nat} {l:List Ky} {ao ao':Option Addr} {vss:List (List Value)} {k:Ky} {vs:List Value} (hn:n = l.length) (h1:vss.length = l.length) (h2:∀ (j:Nat) (k:Ky) (vs:List Value),l[j]? = some k→vss[j]? = some vs→PredC w (fun _=>True) (atomK k) vs)
  (hk:PredC w (fun _=>True) (atomK k) vs) (h:OwnK w' B 5 (n + 1) cap' (vss.flatten ++ vs) ao'):AtO w' B (n + 1) cap' (l ++ [k]) ao':=by
 refine ⟨by simp [hn],vss ++ [vs],by simp [h1],fun j x us hj hu=>?_,by simpa using h⟩
 rcases Nat.lt_or_ge j l.length with hlt | hge
 ·rw [List.getElem?_append_left hlt] at hj
  rw [List.getElem?_append_left (by omega)] at hu
  exact PredC.atom rfl (h2 j x us hj hu)
 ·rw [List.getElem?_append_right hge] at hj
  rw [List.getElem?_append_right (by omega)] at hu
  have h0:j - l.length = 0:=by
   have:=(List.getElem?_eq_some_iff.1 hj).1
   simp at this
   omega
  rw [h0] at hj
  rw [h1,h0] at hu
  have e1:k = x:=by simpa using hj
  have e2:vs = us:=by simpa using hu
  subst e1 e2
  exact PredC.atom rfl hk
theorem one_agg (a b c d:Value) (x:Option Addr) (n m:Nat) (ha:a.oneCell' = true) (hb:b.oneCell' = true) (hc:c.oneCell' = true) (hd:d.oneCell' = true):∀ u∈(#[a,b,c,d,.slice x n m]:Array Value).toList,u.oneCell' = true:=by
 intro u hu
 simp at hu
 rcases hu with rfl | rfl | rfl | rfl | rfl
 ·exact ha
 ·exact hb
 ·exact hc
 ·exact hd
 ·rfl
def pairC (x:Value × Value):List Value:=[x.1,x.2]
theorem pairC_len (x:Value × Value):(pairC x).length = 2:=rfl
end Go.Proofs.YtmkdfbelbcocpaaGreatDoor
namespace Go.Proofs.YtmkdfbelbcocpaaGreatDoor
open Go.RowKit Go.Sort Go.Maps
theorem addK_in (x y:Ky):∀ pre:List Ky,pre.any (fun z=>ltK x z) = true→x ∉ pre→addK (pre ++ [y]) x = addK pre x ++ [y]
 | [],h,_=>by cases h
 | z :: zs,h,hx=>by
  have hz:x ≠ z:=fun e=>hx (by rw [e]; simp)
  rw [List.cons_append,addK,addK,if_neg hz,if_neg hz]
  by_cases hl:ltK x z = true
  ·rw [if_pos hl,if_pos hl]; rfl
  ·rw [if_neg hl,if_neg hl,addK_in x y zs (by
    rw [List.any_cons,Bool.or_eq_true] at h
    exact h.resolve_left hl) (fun hm=>hx (List.mem_cons_of_mem _ hm))]
   rfl
theorem addK_past (x:Ky) (ys:List Ky):∀ pre:List Ky,pre.any (fun z=>ltK x z) = false→x ∉ pre→addK (pre ++ ys) x = pre ++ addK ys x
 | [],_,_=>rfl
 | z :: zs,h,hx=>by
  have hz:x ≠ z:=fun e=>hx (by rw [e]; simp)
  rw [List.any_cons,Bool.or_eq_false_iff] at h
  rw [List.cons_append,addK,if_neg hz,if_neg (by rw [h.1]; simp),addK_past x ys zs h.2 (fun hm=>hx (List.mem_cons_of_mem _ hm))]
  rfl
theorem addK_have (x:Ky):∀ l:List Ky,AscK l→x∈l→addK l x = l
 | [],_,h=>by cases h
 | y :: ys,ha,h=>by
  obtain ⟨h1,h2⟩:=List.pairwise_cons.1 ha
  rw [addK]
  by_cases hxy:x = y
  ·rw [if_pos hxy]
  ·have hx:x∈ys:=by
    rcases List.mem_cons.1 h with e | e
    ·exact absurd e hxy
    ·exact e
   have hl:¬ ltK x y = true:=fun e=>by
    have:=ltK_trans _ _ _ (h1 x hx) e
    rw [ltK_irrefl] at this
    cases this
   rw [if_neg hxy,if_neg hl,addK_have x ys h2 hx]
def outA (x:Ky) (pre:List Ky):List Ky:=if pre.any (fun z=>ltK x z) = true then addK pre x else pre
theorem outA_step (x y:Ky) (pre:List Ky) (hx:x ∉ pre):outA x (pre ++ [y]) = if pre.any (fun z=>ltK x z) = true then outA x pre ++ [y] else if ltK x y = true then outA x pre ++ [x] ++ [y] else outA x pre ++ [y]:=by
 unfold outA
 rw [List.any_append]
 cases hp:pre.any (fun z=>ltK x z) with
 | true=>simp [addK_in x y pre hp hx]
 | false =>
  by_cases hy:ltK x y = true
  ·have:addK (pre ++ [y]) x = pre ++ addK [y] x:=addK_past x [y] pre hp hx
   have h2:addK [y] x = [x,y]:=by
    have hne:x ≠ y:=fun e=>by rw [e,ltK_irrefl] at hy; cases hy
    rw [addK,if_neg hne,if_pos hy]
   simp [hy,this,h2]
  ·simp [hy]
theorem outA_end (x:Ky) (l:List Ky) (hx:x ∉ l):addK l x = if l.any (fun z=>ltK x z) = true then outA x l else outA x l ++ [x]:=by
 unfold outA
 cases hp:l.any (fun z=>ltK x z) with
 | true=>simp
 | false =>
  have:=addK_past x [] l hp hx
  rw [List.append_nil] at this
  simp [this,addK]
theorem hasV_below {w w':World} {g:Nat} {t:TypeId} {vs:List Value} (h:HasV w g t vs) (hb:RowKit.Below (g + 1) w w'):HasV w' g t vs:=(hb.block g (Nat.lt_succ_self g)).trans h
set_option maxHeartbeats 16000000 in
set_option maxRecDepth 100000 in
theorem radd_any (w:World) (P':Nat→Prop) (aa:List Ky) (ao:Option Addr) (n cap:Nat) (x:Ky) (us:List Value) (hn:n = aa.length) (hbig:n≤1000000) (hasc:AscK aa) (hb:∀ k∈aa,KyB k) (hx:KyB x) (hk:KidR w (fun _=>True) (aa.map atomK) ao) (hxp:PredC w P' (atomK x) us) :
  Calls Tryz.prog 167 #[.slice ao n cap,.agg us.toArray] w fun e w'=>∃ (ro:Option Addr) (rc:Nat),e = .returned (.slice ro (addK aa x).length rc)∧KidR w' (fun _=>True) ((addK aa x).map atomK) ro∧RowKit.Below w.heap.size w w':=by
 obtain ⟨va,vn,vc,rfl,-⟩:=hxp.form
 have hxf:[Value.int .i64 (atomK x).k,.string (strN (atomK x).l),.string (strN (atomK x).r),.int .i64 (atomK x).c,.slice va vn vc] = [.int .i64 0,.string (strN x.l),.string (strN x.r),.int .i64 x.c,.slice va vn vc]:=rfl
 rw [hxf] at hxp ⊢
 have bx:=((RowKit.Below.refl w.heap.size w).alloc (Nat.le_refl _) (.cells #[.int .i64 0,.string (strN x.l),.string (strN x.r),.int .i64 x.c,.slice va vn vc] 25)).alloc (by simp) (.cells #[] 25)
 have B1:=mkHid bx
 have X1:Hid (HasV ((w.alloc (.cells #[.int .i64 0,.string (strN x.l),.string (strN x.r),.int .i64 x.c,.slice va vn vc] 25)).alloc (.cells #[] 25)) w.heap.size 25 [.int .i64 0,.string (strN x.l),.string (strN x.r),.int .i64 x.c,.slice va vn vc]):=mkHid (heap_alloc2_old _ _ _)
 have O1:Hid (AtO ((w.alloc (.cells #[.int .i64 0,.string (strN x.l),.string (strN x.r),.int .i64 x.c,.slice va vn vc] 25)).alloc (.cells #[] 25)) (w.heap.size + 1) 0 0 (outA x (aa.take 0)) (some ⟨w.heap.size + 1,0,none⟩)):=mkHid ⟨rfl,[],rfl,fun j k vs hj _=>by simp [outA] at hj,by
  have:=OwnK.made (w.alloc (.cells #[.int .i64 0,.string (strN x.l),.string (strN x.r),.int .i64 x.c,.slice va vn vc] 25)) 25 5
  rwa [World.size_alloc] at this⟩
 have HSA:=mkHid (fun (q:Ky) (hq:KyB q) (v:Value) (hv:v.oneCell' = true) W=>satom_any 0 0 q.l q.r x.l x.r q.c x.c v (.slice va vn vc) hv rfl W hq.1 hq.2 hx.1 hx.2)
 have HBF:=mkHid (fun (q:Ky) (hq:KyB q) (v:Value) (hv:v.oneCell' = true) W=>before_any 0 0 x.l x.r q.l q.r x.c q.c (.slice va vn vc) v rfl hv W hx.1 hx.2 hq.1 hq.2)
 have HK:=mkHid (fun W (hW:RowKit.Below w.heap.size w W)=>hk.below hW)
 have HN:=mkHid hn
 have HB:=mkHid hb
 have HASC:=mkHid hasc
 have HXP:Hid (PredC w P' (atomK x) [.int .i64 0,.string (strN x.l),.string (strN x.r),.int .i64 x.c,.slice va vn vc]):=mkHid hxp
 clear bx hk hn hb hasc hxp hxf hx
 have HE1:Hid (∀ q:Ky,(⟨q.l,q.r,q.c⟩:Ky) = q):=mkHid (fun _=>rfl)
 simp only [HE1.out] at HSA HBF
 generalize strN x.l = v1 at *
 generalize strN x.r = v2 at *
 generalize hv3:x.c = v3 at *
 clear hv3
 go_enter Tryz.func167,Tryz.ntmps167
 go_upto_region 2 with (fail)
 generalize (w.alloc (.cells #[.int .i64 0,.string v1,.string v2,.int .i64 v3,.slice va vn vc] 25)).alloc (.cells #[] 25) = w1 at *
 go_wp2_with fail
 go_loopw [7,6,5] (fun cc dd ov wr=>∃ (i k:Nat) (d:Bool) (a5:Option Addr) (c5:Nat),cc = .int .i64 i∧dd = .bool d∧ov = .slice a5 k c5∧i≤n∧k≤i + 1∧Hid (RowKit.Below w.heap.size w wr)∧Hid (HasV wr w.heap.size 25 [.int .i64 0,.string v1,.string v2,.int .i64 v3,.slice va vn vc])∧Hid (d = (aa.take i).any (fun z=>ltK x z))∧Hid (x ∉ aa.take i)∧Hid (AtO wr (w.heap.size + 1) k c5 (outA x (aa.take i)) a5)) (fun c _ _ _=>(n - intOf c).toNat)
 case atStart=>exact ⟨0,0,false,_,0,rfl,rfl,rfl,by omega,by omega,B1,X1,mkHid (by simp),mkHid (by simp),O1⟩
 case round =>
  clear B1 X1 O1
  obtain ⟨i,k,d,a5,c5,rfl,rfl,rfl,hi,hki,hw,hx,hd,hxi,ho⟩:=hrel
  have e2:IntKind.i64.wrap ((i:Int) + 1) = ((i + 1:Nat):Int):=IntWalk.i64_in _ (by omega)
  by_cases hlt:i < n
  ·have ii:(i:Int) < n:=by omega
   have HQ:Hid (∃ a,aa[i]? = some a):=mkHid ⟨_,List.getElem?_eq_getElem (by rw [← HN.out]; exact hlt)⟩
   obtain ⟨a,hai⟩:=HQ.out
   obtain ⟨q,hqi,g,off,hao,hg,us,hpc,hrd⟩:=(HK.out wr hw.out).get (i:=i) (by rw [List.length_map,← HN.out]; exact hlt)
   obtain rfl:q = atomK a:=by rw [List.getElem?_map,hai] at hqi; exact (Option.some.inj hqi).symm
   have HPC:=mkHid hpc
   obtain ⟨xa,xn,xc,rfl,-⟩:=hpc.form
   have HVF:Hid ([Value.int .i64 (atomK a).k,.string (strN (atomK a).l),.string (strN (atomK a).r),.int .i64 (atomK a).c,.slice xa xn xc] = [.int .i64 0,.string (strN a.l),.string (strN a.r),.int .i64 a.c,.slice xa xn xc]):=mkHid rfl
   rw [HVF.out] at HPC
   have HAI:=mkHid hai
   have HTA:Hid (aa.take (i + 1) = aa.take i ++ [a]):=mkHid (by rw [List.take_add_one,hai]; rfl)
   have HKB:=mkHid (HB.out a (List.mem_of_getElem? hai))
   have HS1:=mkHid (fun W=>HSA.out a HKB.out (.slice xa xn xc) rfl W)
   have HS2:=mkHid (fun W=>HBF.out a HKB.out (.slice xa xn xc) rfl W)
   have HGL:=mkHid hg
   have GW:Hid (g < w.heap.size):=mkHid (by
    obtain ⟨-,-,g',off',h1,h2,-⟩:=(HK.out w (RowKit.Below.refl _ _)).get (i:=i) (by rw [List.length_map,← HN.out]; exact hlt)
    rw [hao] at h1
    injection h1 with h1
    injection h1 with e1 _
    rw [e1]; exact h2)
   have HRD:Hid (Reads wr g (off + i * 5) [.int .i64 0,.string (strN a.l),.string (strN a.r),.int .i64 a.c,.slice xa xn xc]):=mkHid hrd
   have HAO:=mkHid hao
   clear hrd hpc hqi hai HQ HVF hg
   subst hao
   obtain ⟨eq1,heq1⟩:∃ b,(a == x) = b:=⟨_,rfl⟩
   obtain ⟨lt1,hlt1⟩:∃ b,ltK x a = b:=⟨_,rfl⟩
   have HEQ:=mkHid heq1
   have HLT:=mkHid hlt1
   rw [heq1] at HS1
   rw [hlt1] at HS2
   clear heq1 hlt1
   generalize strN a.l = y1 at *
   generalize strN a.r = y2 at *
   generalize hy3:a.c = y3 at *
   clear hy3
   have s0:wr.cell? ⟨g,off + i * 5,none⟩ = some (.int .i64 0):=HRD.out 0 _ rfl
   have s1:=HRD.out 1 _ rfl
   have s2:=HRD.out 2 _ rfl
   have s3:=HRD.out 3 _ rfl
   have s4:=HRD.out 4 _ rfl
   have t0:=hx.out.cell 0 _ rfl
   have t1:=hx.out.cell 1 _ rfl
   have t2:=hx.out.cell 2 _ rfl
   have t3:=hx.out.cell 3 _ rfl
   have t4:=hx.out.cell 4 _ rfl
   go_upto_region 6 with (fail)
   have r1:=regr wr (fun W hW=>HS1.out W)
   have a0':=cell_regrown s0
   have a1':=cell_regrown s1
   have a2':=cell_regrown s2
   have a3':=cell_regrown s3
   have a4':=cell_regrown s4
   have b0':=cell_regrown t0
   have b1':=cell_regrown t1
   have b2':=cell_regrown t2
   have b3':=cell_regrown t3
   have b4':=cell_regrown t4
   clear s0 s1 s2 s3 s4 t0 t1 t2 t3 t4
   refine wp_region_quiet_below (by kernel_rfl) (by kernel_rfl) ?_
   repeat (quiet_step (with_reducible (exact r1 _ _)))
   refine wpQuiet_nil ?_
   intro _ hw'
   obtain ⟨⟨dq,osq⟩,hw''⟩:=hw'
   subst hw''
   have BB:=below_regrown wr dq osq
   have W2:=mkHid (hw.out.trans (BB.mono hw.out.size))
   have X2:=mkHid (hx.out.step BB)
   have O2:=mkHid (ho.out.below BB)
   have HR2:=mkHid (HRD.out.of_block (BB.block g HGL.out))
   have HG2:=mkHid (Nat.lt_of_lt_of_le HGL.out BB.size)
   clear r1 a0' a1' a2' a3' a4' b0' b1' b2' b3' b4' BB hw hx ho HRD HGL HS1
   generalize grow (redrawn wr dq) osq = wy at *
   cases eq1 with
   | true =>
    have HAD:Hid (addK aa x = aa):=mkHid (addK_have x aa HASC.out (by
     have:a = x:=by simpa using HEQ.out
     rw [← this]
     exact List.mem_of_getElem? HAI.out))
    have HKF:=mkHid (HK.out wy W2.out)
    go_wp2
    go_ret
    exact ⟨some ⟨g,off,none⟩,⟨cap,by rw [HAD.out,← HN.out]; rfl⟩,by rw [HAD.out]; exact HKF.out,W2.out⟩
   | false =>
    have HXI:Hid (x ∉ aa.take (i + 1)):=mkHid (by
     rw [HTA.out,List.mem_append]
     rintro (h | h)
     ·exact hxi.out h
     ·have:x = a:=by simpa using h
      rw [this] at HEQ
      have:=HEQ.out
      simp at this)
    have HAN:Hid ((aa.take (i + 1)).any (fun z=>ltK x z) = ((aa.take i).any (fun z=>ltK x z) || lt1)):=mkHid (by rw [HTA.out,List.any_append,List.any_cons,List.any_nil,Bool.or_false,HLT.out])
    have HOS:=mkHid (outA_step x a (aa.take i) hxi.out)
    rw [← HTA.out,← hd.out,HLT.out] at HOS
    rw [← hd.out] at HAN
    have HPCa:Hid (∀ W:World,PredC W (fun _=>True) (atomK a) [.int .i64 0,.string y1,.string y2,.int .i64 y3,.slice xa xn xc]):=mkHid (fun W=>PredC.atom rfl HPC.out)
    have HPCx:Hid (∀ W:World,PredC W (fun _=>True) (atomK x) [.int .i64 0,.string v1,.string v2,.int .i64 v3,.slice va vn vc]):=mkHid (fun W=>PredC.atom rfl HXP.out)
    have HKI:Hid (d = false→k≤i):=mkHid (fun h=>by
     have h1:=O2.out.1
     unfold outA at h1
     rw [if_neg (by rw [← hd.out,h]; simp)] at h1
     rw [h1,List.length_take]; omega)
    clear hd hxi HTA HLT HEQ HPC
    have t0:=X2.out.cell 0 _ rfl
    have t1:=X2.out.cell 1 _ rfl
    have t2:=X2.out.cell 2 _ rfl
    have t3:=X2.out.cell 3 _ rfl
    have t4:=X2.out.cell 4 _ rfl
    have s0:wy.cell? ⟨g,off + i * 5,none⟩ = some (.int .i64 0):=HR2.out 0 _ rfl
    have s1:=HR2.out 1 _ rfl
    have s2:=HR2.out 2 _ rfl
    have s3:=HR2.out 3 _ rfl
    have s4:=HR2.out 4 _ rfl
    cases d with
    | true =>
     rw [if_pos rfl] at HOS
     rw [Bool.true_or] at HAN
     go_upto_region 8 with (fail)
     go_quiet (fail)
     have BD:=below_drewN (RowKit.Below.refl wy.heap.size wy) nq
     have W3:=mkHid (W2.out.trans (BD.mono W2.out.size))
     have X3:=mkHid (X2.out.step BD)
     have O3:=mkHid (O2.out.below BD)
     have u0:=cell_later BD s0
     have u1:=cell_later BD s1
     have u2:=cell_later BD s2
     have u3:=cell_later BD s3
     have u4:=cell_later BD s4
     clear BD W2 X2 O2 s0 s1 s2 s3 s4 t0 t1 t2 t3 t4
     generalize wy.drewN nq = wd at *
     obtain ⟨hnk,vss,hv1,hv2,hO⟩:=O3.out
     have HO:=mkHid hO
     have HPUT:=mkHid (fun (w':World) (c':Nat) (a':Option Addr) (h:OwnK w' (w.heap.size + 1) 5 (k + 1) c' (vss.flatten ++ [.int .i64 0,.string y1,.string y2,.int .i64 y3,.slice xa xn xc]) a')=>AtO.put (cap:=c5) (ao:=a5) hnk hv1 hv2 (HPCa.out wd) h)
     have W3s:Hid (w.heap.size + 1≤wd.heap.size):=mkHid X3.out.lt
     clear hnk hv1 hv2 hO O3
     go_wp2_with (at_builtin; refine app_k 23 25 predZ 5 72 Tryz.underlying23 info_pred rfl (by omega) (by omega) wd (w.heap.size + 1) rfl (.tmp 36) (.tmp 41) rfl a5 c5 k vss.flatten ?u1 HO.out ?u5 1 1 #[.int .i64 0,.string y1,.string y2,.int .i64 y3,.slice xa xn xc] 25 ?u2 rfl (by omega) ?u3 ?u4 ?_; (case u1=>rfl); (case u5=>exact W3s.out); (case u2=>rfl); (case u3=>exact one_agg _ _ _ _ _ _ _ rfl rfl rfl rfl); (case u4=>omega); intro g7 off7 c7 wa o9 gr9 b9 or9; have O9:=mkHid o9; have W9:=mkHid (W3.out.trans (b9.mono (Nat.le_succ _))); have X9:=mkHid (hasV_below X3.out b9); clear o9 gr9 b9 or9 u0 u1 u2 u3 u4)
     go_roundw
     case rel=>exact ⟨i + 1,k + 1,true,some ⟨g7,off7,none⟩,c7,by go_num,rfl,rfl,by omega,by omega,W9,X9,mkHid HAN.out.symm,HXI,mkHid (by rw [HOS.out]; exact HPUT.out _ _ _ O9.out)⟩
     case measure=>simp only [intOf]; omega
    | false =>
     rw [if_neg (by simp)] at HOS
     rw [Bool.false_or] at HAN
     go_upto_region 8 with (fail)
     have r1:=regr wy (fun W hW=>HS2.out W)
     have a0':=cell_regrown s0
     have a1':=cell_regrown s1
     have a2':=cell_regrown s2
     have a3':=cell_regrown s3
     have a4':=cell_regrown s4
     have b0':=cell_regrown t0
     have b1':=cell_regrown t1
     have b2':=cell_regrown t2
     have b3':=cell_regrown t3
     have b4':=cell_regrown t4
     clear s0 s1 s2 s3 s4 t0 t1 t2 t3 t4
     refine wp_region_quiet_below (by kernel_rfl) (by kernel_rfl) ?_
     repeat (quiet_step (with_reducible (exact r1 _ _)))
     refine wpQuiet_nil ?_
     intro _ hw'
     obtain ⟨⟨dq,osq⟩,hw''⟩:=hw'
     subst hw''
     have BB:=below_regrown wy dq osq
     have W3:=mkHid (W2.out.trans (BB.mono W2.out.size))
     have X3:=mkHid (X2.out.step BB)
     have O3:=mkHid (O2.out.below BB)
     have HR3:=mkHid (HR2.out.of_block (BB.block g HG2.out))
     have HG3:=mkHid (Nat.lt_of_lt_of_le HG2.out BB.size)
     clear r1 a0' a1' a2' a3' a4' b0' b1' b2' b3' b4' BB W2 X2 O2 HR2 HG2 HS2
     generalize grow (redrawn wy dq) osq = wd at *
     cases lt1 with
     | false =>
      rw [if_neg (by simp)] at HOS
      have u0:wd.cell? ⟨g,off + i * 5,none⟩ = some (.int .i64 0):=HR3.out 0 _ rfl
      have u1:=HR3.out 1 _ rfl
      have u2:=HR3.out 2 _ rfl
      have u3:=HR3.out 3 _ rfl
      have u4:=HR3.out 4 _ rfl
      obtain ⟨hnk,vss,hv1,hv2,hO⟩:=O3.out
      have HO:=mkHid hO
      have HPUT:=mkHid (fun (w':World) (c':Nat) (a':Option Addr) (h:OwnK w' (w.heap.size + 1) 5 (k + 1) c' (vss.flatten ++ [.int .i64 0,.string y1,.string y2,.int .i64 y3,.slice xa xn xc]) a')=>AtO.put (cap:=c5) (ao:=a5) hnk hv1 hv2 (HPCa.out wd) h)
      have W3s:Hid (w.heap.size + 1≤wd.heap.size):=mkHid X3.out.lt
      clear hnk hv1 hv2 hO O3
      go_wp2_with (at_builtin; refine app_k 23 25 predZ 5 72 Tryz.underlying23 info_pred rfl (by omega) (by omega) wd (w.heap.size + 1) rfl (.tmp 36) (.tmp 41) rfl a5 c5 k vss.flatten ?u1 HO.out ?u5 1 1 #[.int .i64 0,.string y1,.string y2,.int .i64 y3,.slice xa xn xc] 25 ?u2 rfl (by omega) ?u3 ?u4 ?_; (case u1=>rfl); (case u5=>exact W3s.out); (case u2=>rfl); (case u3=>exact one_agg _ _ _ _ _ _ _ rfl rfl rfl rfl); (case u4=>omega); intro g7 off7 c7 wa o9 gr9 b9 or9; have O9:=mkHid o9; have W9:=mkHid (W3.out.trans (b9.mono (Nat.le_succ _))); have X9:=mkHid (hasV_below X3.out b9); clear o9 gr9 b9 or9 u0 u1 u2 u3 u4)
      go_roundw
      case rel=>exact ⟨i + 1,k + 1,false,some ⟨g7,off7,none⟩,c7,by go_num,rfl,rfl,by omega,by omega,W9,X9,mkHid HAN.out.symm,HXI,mkHid (by rw [HOS.out]; exact HPUT.out _ _ _ O9.out)⟩
      case measure=>simp only [intOf]; omega
     | true =>
      have hki2:k≤i:=HKI.out (by trivial)
      rw [if_pos rfl] at HOS
      have t0:=X3.out.cell 0 _ rfl
      have t1:=X3.out.cell 1 _ rfl
      have t2:=X3.out.cell 2 _ rfl
      have t3:=X3.out.cell 3 _ rfl
      have t4:=X3.out.cell 4 _ rfl
      obtain ⟨hnk,vss,hv1,hv2,hO⟩:=O3.out
      have HO:=mkHid hO
      have HPUT:=mkHid (fun (w':World) (c':Nat) (a':Option Addr) (h:OwnK w' (w.heap.size + 1) 5 (k + 1) c' (vss.flatten ++ [.int .i64 0,.string v1,.string v2,.int .i64 v3,.slice va vn vc]) a')=>AtO.put (cap:=c5) (ao:=a5) hnk hv1 hv2 (HPCx.out wd) h)
      have W3s:Hid (w.heap.size + 1≤wd.heap.size):=mkHid X3.out.lt
      clear hnk hv1 hv2 hO O3
      go_upto_region 10 with (first | (at_builtin; refine app_k 23 25 predZ 5 72 Tryz.underlying23 info_pred rfl (by omega) (by omega) wd (w.heap.size + 1) rfl (.tmp 32) (.tmp 34) rfl a5 c5 k vss.flatten ?u1 HO.out ?u5 1 1 #[.int .i64 0,.string v1,.string v2,.int .i64 v3,.slice va vn vc] 25 ?u2 rfl (by omega) ?u3 ?u4 ?_; (case u1=>rfl); (case u5=>exact W3s.out); (case u2=>rfl); (case u3=>exact one_agg _ _ _ _ _ _ _ rfl rfl rfl rfl); (case u4=>omega); intro g6 off6 c6 wb o9 gr9 b9 or9; have O9:=mkHid o9; have W9:=mkHid (W3.out.trans (b9.mono (Nat.le_succ _))); have X9:=mkHid (hasV_below X3.out b9); have HR9:=mkHid (HR3.out.of_block (b9.block g (Nat.lt_succ_of_lt GW.out))); clear o9 gr9 b9 or9 t0 t1 t2 t3 t4))
      have u0:wb.cell? ⟨g,off + i * 5,none⟩ = some (.int .i64 0):=HR9.out 0 _ rfl
      have u1:=HR9.out 1 _ rfl
      have u2:=HR9.out 2 _ rfl
      have u3:=HR9.out 3 _ rfl
      have u4:=HR9.out 4 _ rfl
      have AT:=mkHid (HPUT.out _ _ _ O9.out)
      clear HPUT O9 HO
      obtain ⟨hnk,vss2,hv1,hv2,hO⟩:=AT.out
      have HO:=mkHid hO
      have HPUT:=mkHid (fun (w':World) (c':Nat) (a':Option Addr) (h:OwnK w' (w.heap.size + 1) 5 (k + 1 + 1) c' (vss2.flatten ++ [.int .i64 0,.string y1,.string y2,.int .i64 y3,.slice xa xn xc]) a')=>AtO.put (cap:=c6) (ao:=some ⟨g6,off6,none⟩) hnk hv1 hv2 (HPCa.out wb) h)
      have W9s:Hid (w.heap.size + 1≤wb.heap.size):=mkHid X9.out.lt
      clear hnk hv1 hv2 hO AT
      go_wp2_with (at_builtin; refine app_k 23 25 predZ 5 72 Tryz.underlying23 info_pred rfl (by omega) (by omega) wb (w.heap.size + 1) rfl (.tmp 36) (.tmp 41) rfl (some ⟨g6,off6,none⟩) c6 (k + 1) vss2.flatten ?z1 HO.out ?z5 1 1 #[.int .i64 0,.string y1,.string y2,.int .i64 y3,.slice xa xn xc] 25 ?z2 rfl (by omega) ?z3 ?z4 ?_; (case z1=>rfl); (case z5=>exact W9s.out); (case z2=>rfl); (case z3=>exact one_agg _ _ _ _ _ _ _ rfl rfl rfl rfl); (case z4=>omega); intro g7 off7 c7 wa o8 gr8 b8 or8; have O8:=mkHid o8; have W8:=mkHid (W9.out.trans (b8.mono (Nat.le_succ _))); have X8:=mkHid (hasV_below X9.out b8); clear o8 gr8 b8 or8 u0 u1 u2 u3 u4)
      go_roundw
      case rel=>exact ⟨i + 1,k + 1 + 1,true,some ⟨g7,off7,none⟩,c7,by go_num,rfl,rfl,by omega,by omega,W8,X8,mkHid HAN.out.symm,HXI,mkHid (by rw [HOS.out]; exact HPUT.out _ _ _ O8.out)⟩
      case measure=>simp only [intOf]; omega
  ·have ii:¬ ((i:Int) < n):=by omega
   have HTC:Hid (aa.take i = aa):=mkHid (List.take_of_length_le (by rw [← HN.out]; omega))
   rw [HTC.out] at hd hxi ho
   have HEN:=mkHid (outA_end x aa hxi.out)
   rw [← hd.out] at HEN
   clear hd hxi
   cases d with
   | true =>
    rw [if_pos rfl] at HEN
    have hlk:Hid (k = (addK aa x).length):=mkHid (by rw [HEN.out]; exact ho.out.1)
    go_wp2
    go_ret
    exact ⟨a5,⟨c5,by rw [← hlk.out]; rfl⟩,by rw [HEN.out]; exact ho.out.kidR,hw.out⟩
   | false =>
    rw [if_neg (by simp)] at HEN
    have t0:=hx.out.cell 0 _ rfl
    have t1:=hx.out.cell 1 _ rfl
    have t2:=hx.out.cell 2 _ rfl
    have t3:=hx.out.cell 3 _ rfl
    have t4:=hx.out.cell 4 _ rfl
    have HPCx:Hid (∀ W:World,PredC W (fun _=>True) (atomK x) [.int .i64 0,.string v1,.string v2,.int .i64 v3,.slice va vn vc]):=mkHid (fun W=>PredC.atom rfl HXP.out)
    obtain ⟨hnk,vss,hv1,hv2,hO⟩:=ho.out
    have HO:=mkHid hO
    have HPUT:=mkHid (fun (w':World) (c':Nat) (a':Option Addr) (h:OwnK w' (w.heap.size + 1) 5 (k + 1) c' (vss.flatten ++ [.int .i64 0,.string v1,.string v2,.int .i64 v3,.slice va vn vc]) a')=>AtO.put (cap:=c5) (ao:=a5) hnk hv1 hv2 (HPCx.out wr) h)
    have W3s:Hid (w.heap.size + 1≤wr.heap.size):=mkHid hx.out.lt
    clear hnk hv1 hv2 hO ho
    go_wp2_with (at_builtin; refine app_k 23 25 predZ 5 72 Tryz.underlying23 info_pred rfl (by omega) (by omega) wr (w.heap.size + 1) rfl (.tmp 45) (.tmp 47) rfl a5 c5 k vss.flatten ?u1 HO.out ?u5 1 1 #[.int .i64 0,.string v1,.string v2,.int .i64 v3,.slice va vn vc] 25 ?u2 rfl (by omega) ?u3 ?u4 ?_; (case u1=>rfl); (case u5=>exact W3s.out); (case u2=>rfl); (case u3=>exact one_agg _ _ _ _ _ _ _ rfl rfl rfl rfl); (case u4=>omega); intro g7 off7 c7 wa o9 gr9 b9 or9; have O9:=mkHid o9; have W9:=mkHid (hw.out.trans (b9.mono (Nat.le_succ _))); clear o9 gr9 b9 or9 t0 t1 t2 t3 t4)
    have AT:=mkHid (HPUT.out _ _ _ O9.out)
    rw [← HEN.out] at AT
    go_ret
    exact ⟨some ⟨g7,off7,none⟩,⟨c7,by rw [← AT.out.1]; rfl⟩,AT.out.kidR,W9.out⟩
end Go.Proofs.YtmkdfbelbcocpaaGreatDoor
namespace Go.Proofs.YtmkdfbelbcocpaaGreatDoor
open Go.RowKit Go.Sort Go.Maps
theorem addK_len:∀ (l:List Ky) (x:Ky),(addK l x).length≤l.length + 1
 | [],x=>by simp [addK]
 | y :: ys,x=>by
  have:=addK_len ys x
  rw [addK]
  split
  ·simp
  ·split <;> simp <;> omega
theorem cnt_take:∀ (ks:List Prd) (i:Nat) (q:Prd),ks[i]? = some q→cntL (ks.take i) + cntP q≤cntL ks
 | [],i,q,h=>by simp at h
 | p :: ps,0,q,h=>by
  obtain rfl:p = q:=by simpa using h
  simp [cntL]
 | p :: ps,i + 1,q,h=>by
  have:=cnt_take ps i q (by simpa using h)
  rw [List.take_succ_cons,cntL,cntL]
  omega
theorem fold_len:∀ (ks acc:List Ky),(ks.foldl addK acc).length≤acc.length + ks.length
 | [],acc=>by simp
 | k :: ks,acc=>by
  rw [List.foldl_cons,List.length_cons]
  have h1:=fold_len ks (addK acc k)
  have h2:(addK acc k).length≤acc.length + 1:=addK_len acc k
  omega
theorem collL_take (ks:List Prd) (i:Nat) (q:Prd) (h:ks[i]? = some q) (acc:List Ky):(keysL (ks.take (i + 1))).foldl addK acc = (keysP q).foldl addK ((keysL (ks.take i)).foldl addK acc):=by
 rw [List.take_add_one,h,keysL_append,List.foldl_append]
 show (keysL [q]).foldl addK _ = _
 rw [keysL,keysL,List.append_nil]
def CollR (w:World) (aa:List Ky) (e:Ending) (w':World):Prop:=∃ (ro:Option Addr) (rc:Nat),e = .returned (.slice ro aa.length rc)∧KidR w' (fun _=>True) (aa.map atomK) ro∧RowKit.Below w.heap.size w w'
set_option maxHeartbeats 8000000 in
set_option maxRecDepth 100000 in
theorem rcoll_atom (w:World) (aa:List Ky) (ao:Option Addr) (n cap:Nat) (l r:List Nat) (c:Int) (x:Value) (hx:x.oneCell' = true)
  (had:∀ W,RowKit.Below w.heap.size w W→Calls Tryz.prog 167 #[.slice ao n cap,.agg #[.int .i64 0,.string (strN l),.string (strN r),.int .i64 c,x]] W (CollR W (addK aa ⟨l,r,c⟩))) :
  Calls Tryz.prog 97 #[.slice ao n cap,.agg #[.int .i64 0,.string (strN l),.string (strN r),.int .i64 c,x]] w (CollR w (addK aa ⟨l,r,c⟩)):=by
 have bx:=(RowKit.Below.refl w.heap.size w).alloc (Nat.le_refl _) (.cells #[.int .i64 0,.string (strN l),.string (strN r),.int .i64 c,x] 25)
 have B1:=mkHid bx
 have X1:Hid (HasV (w.alloc (.cells #[.int .i64 0,.string (strN l),.string (strN r),.int .i64 c,x] 25)) w.heap.size 25 [.int .i64 0,.string (strN l),.string (strN r),.int .i64 c,x]):=mkHid (heap_alloc_new w _)
 have HAD:=mkHid had
 obtain ⟨bb,hbb⟩:∃ bb,addK aa ⟨l,r,c⟩ = bb:=⟨_,rfl⟩
 rw [hbb] at HAD ⊢
 clear bx had hbb
 generalize strN l = y at *
 generalize strN r = z at *
 go_enter Tryz.func97,Tryz.ntmps97
 go_upto_region 1 with (fail)
 generalize w.alloc (.cells #[.int .i64 0,.string y,.string z,.int .i64 c,x] 25) = w1 at *
 have x0:=X1.out.cell 0 _ rfl
 go_wp2_with (refine wpList_load_row rfl 25 (.tmp 3) rfl w.heap.size ?x1 25 #[.int .i64 0,.string y,.string z,.int .i64 c,x] (0,0) _ X1.out Tryz.underlying25 rfl (inf_pred _ rfl) ?_; (case x1=>rfl))
 refine (HAD.out w1 B1.out).mono ?_
 rintro e w2 ⟨ro,rc,rfl,hk,b2⟩
 have B2:=mkHid (B1.out.trans (b2.mono B1.out.size))
 have HK:=mkHid hk
 clear b2 hk x0 X1
 unfold CollR
 obtain ⟨m,hm⟩:∃ m,bb.length = m:=⟨_,rfl⟩
 rw [hm]
 have HMM:=mkHid hm
 clear hm
 go_wp2
 go_ret
 exact ⟨ro,rc,by rw [HMM.out]; rfl,HK.out,B2.out⟩
set_option maxHeartbeats 8000000 in
set_option maxRecDepth 100000 in
theorem rcoll_node (w:World) (P:Nat→Prop) (κ:Int) (l r:List Nat) (c:Int) (ks:List Prd) (xo:Option Addr) (m xc:Nat) (hκ:κ ≠ 0) (hm:m = ks.length) (hmb:m≤1000000) (hk:KidR w P ks xo)
  (aa:List Ky) (ao:Option Addr) (n cap:Nat) (hn:n = aa.length) (hka:KidR w (fun _=>True) (aa.map atomK) ao)
  (ih:∀ (q:Prd) (w:World) (us:List Value) (bb:List Ky) (bo:Option Addr) (bcap:Nat) (i:Nat),ks[i]? = some q→bb = (keysL (ks.take i)).foldl addK aa→PredC w P q us→KidR w (fun _=>True) (bb.map atomK) bo→Calls Tryz.prog 97 #[.slice bo bb.length bcap,.agg us.toArray] w (CollR w ((keysP q).foldl addK bb))) :
  Calls Tryz.prog 97 #[.slice ao n cap,.agg #[.int .i64 κ,.string (strN l),.string (strN r),.int .i64 c,.slice xo m xc]] w (CollR w ((keysL ks).foldl addK aa)):=by
 have bx:=(RowKit.Below.refl w.heap.size w).alloc (Nat.le_refl _) (.cells #[.int .i64 κ,.string (strN l),.string (strN r),.int .i64 c,.slice xo m xc] 25)
 have B1:=mkHid bx
 have X1:Hid (HasV (w.alloc (.cells #[.int .i64 κ,.string (strN l),.string (strN r),.int .i64 c,.slice xo m xc] 25)) w.heap.size 25 [.int .i64 κ,.string (strN l),.string (strN r),.int .i64 c,.slice xo m xc]):=mkHid (heap_alloc_new w _)
 have A1:=mkHid (hka.below bx)
 have HK:=mkHid (fun W (hW:RowKit.Below w.heap.size w W)=>hk.below hW)
 have IH:=mkHid ih
 have HM:=mkHid hm
 have hκb:(κ == 0) = false:=beq_eq_false_iff_ne.mpr hκ
 have HN:Hid (n = ((keysL (ks.take 0)).foldl addK aa).length):=mkHid (by rw [hn]; simp [keysL])
 have HA0:Hid ((keysL (ks.take 0)).foldl addK aa = aa):=mkHid (by simp [keysL])
 rw [← HA0.out] at A1
 clear bx hk hka ih hm hn hκ HA0
 generalize strN l = y at *
 generalize strN r = z at *
 go_enter Tryz.func97,Tryz.ntmps97
 go_upto_region 1 with (fail)
 generalize w.alloc (.cells #[.int .i64 κ,.string y,.string z,.int .i64 c,.slice xo m xc] 25) = w1 at *
 have x0:=X1.out.cell 0 _ rfl
 go_wp2_with fail
 clear x0
 go_loopw [5,0] (fun cc sv wr=>∃ (i k:Nat) (a5:Option Addr) (c5:Nat),cc = .int .i64 i∧sv = .slice a5 k c5∧i≤m∧Hid (k = ((keysL (ks.take i)).foldl addK aa).length)∧Hid (KidR wr (fun _=>True) (((keysL (ks.take i)).foldl addK aa).map atomK) a5)∧Hid (RowKit.Below w.heap.size w wr)∧Hid (HasV wr w.heap.size 25 [.int .i64 κ,.string y,.string z,.int .i64 c,.slice xo m xc])) (fun c _ _=>(m - intOf c).toNat)
 case atStart=>exact ⟨0,n,ao,cap,rfl,rfl,by omega,HN,A1,B1,X1⟩
 case round =>
  clear HN A1 B1 X1
  obtain ⟨i,k,a5,c5,rfl,rfl,hi,hkl,hka,hw,hx⟩:=hrel
  have e2:IntKind.i64.wrap ((i:Int) + 1) = ((i + 1:Nat):Int):=IntWalk.i64_in _ (by omega)
  have x4:=hx.out.cell 4 _ rfl
  by_cases hlt:i < m
  ·have ii:(i:Int) < m:=by omega
   obtain ⟨q,hqi,g,off,hxo,hg,us,hpc,hrd⟩:=(HK.out wr hw.out).get (i:=i) (by rw [← HM.out]; exact hlt)
   have HIH:=mkHid (IH.out q wr us _ a5 c5 i hqi rfl hpc hka.out)
   have HTK:=mkHid (collL_take ks i q hqi aa)
   rw [← hkl.out,← HTK.out] at HIH
   obtain ⟨xa,xn,xd,rfl,-⟩:=hpc.form
   have s0:=hrd 0 _ rfl
   have s1:=hrd 1 _ rfl
   have s2:=hrd 2 _ rfl
   have s3:=hrd 3 _ rfl
   have s4:=hrd 4 _ rfl
   rw [Nat.add_zero] at s0
   have HXO:=mkHid hxo
   clear hrd hpc hqi hka hkl HTK
   subst hxo
   generalize q.k = q0 at *
   generalize strN q.l = q1 at *
   generalize strN q.r = q2 at *
   generalize q.c = q3 at *
   go_wp2_with fail
   refine HIH.out.mono ?_
   rintro e w3 ⟨ro,rc,rfl,hk3,b3⟩
   have K3:=mkHid hk3
   have W3:=mkHid (hw.out.trans (b3.mono hw.out.size))
   have X3:=mkHid (hx.out.step b3)
   clear b3 hk3 hw hx s0 s1 s2 s3 s4 x4 HIH
   obtain ⟨k2,hk2⟩:∃ k2,((keysL (ks.take (i + 1))).foldl addK aa).length = k2:=⟨_,rfl⟩
   rw [hk2]
   have HK2:=mkHid hk2.symm
   clear hk2
   go_wp2
   go_roundw
   case rel=>exact ⟨i + 1,k2,ro,rc,by go_num,rfl,by omega,HK2,K3,W3,X3⟩
   case measure=>simp only [intOf]; omega
  ·have ii:¬ ((i:Int) < m):=by omega
   have HTC:Hid (ks.take i = ks):=mkHid (List.take_of_length_le (by rw [← HM.out]; omega))
   rw [HTC.out] at hkl hka
   go_wp2
   go_ret
   exact ⟨a5,c5,by rw [← hkl.out]; rfl,hka.out,hw.out⟩
theorem rcollect_any:∀ (N:Nat) (p:Prd) (w:World) (P:Nat→Prop) (us:List Value) (aa:List Ky) (ao:Option Addr) (cap:Nat),cntP p≤N→aa.length + N≤1000000→formP p = true→AscK aa→(∀ k∈aa,KyB k)→PredC w P p us→KidR w (fun _=>True) (aa.map atomK) ao →
  Calls Tryz.prog 97 #[.slice ao aa.length cap,.agg us.toArray] w (CollR w ((keysP p).foldl addK aa))
 | 0,p,w,P,us,aa,ao,cap,hN,_,_,_,_,_,_=>by have:=cnt_pos p; omega
 | N + 1,.mk κ l r c ks,w,P,us,aa,ao,cap,hN,hM,hf,hasc,hb,h,hka=>by
  have hc2:cntL ks≤N:=by unfold cntP at hN; omega
  have hl:=len_le_cntL ks
  have hfk:=form_keys _ hf
  have hfe:=hf
  rw [formP_eq] at hfe
  have h':=h
  unfold PredC at h
  obtain ⟨xo,xc,rfl,hk⟩:=h
  by_cases hκ:κ = 0
  ·subst hκ
   rw [if_pos rfl] at hfe
   have hks:ks = []:=by
    unfold atomB at hfe
    simp only [Bool.and_eq_true] at hfe
    simpa using hfe.2.1
   subst hks
   have hkp:keysP (.mk 0 l r c []) = [⟨l,r,c⟩]:=by simp [keysP,keysL]
   rw [hkp] at hfk ⊢
   have hx:=(hfk ⟨l,r,c⟩ (by simp)).bytes
   refine rcoll_atom w aa ao _ cap l r c _ rfl (fun W hW=>?_)
   exact (radd_any W P aa ao _ cap ⟨l,r,c⟩ _ rfl (by omega) hasc hb hx (hka.below hW) (h'.below hW)).mono (fun e w' hh=>hh)
  ·rw [if_neg hκ] at hfe
   simp only [Bool.and_eq_true] at hfe
   have hfl:∀ q∈ks,formP q = true:=fun q hq=>by
    have:=hfe.2.2.2
    rw [Bool.not_eq_true',List.any_eq_false] at this
    simpa using this q hq
   have hkp:keysP (.mk κ l r c ks) = keysL ks:=by rw [keysP,if_neg hκ,List.nil_append]
   rw [hkp] at hfk ⊢
   refine rcoll_node w P κ l r c ks xo ks.length xc hκ rfl (by omega) hk aa ao _ cap rfl hka (fun q w' us bb bo bcap i hi hbb hpc hkb=>?_)
   have hq:=List.mem_of_getElem? hi
   have hcq:=cnt_kid ks i q hi
   have hsub:∀ k∈keysL (ks.take i),k∈keysL ks:=fun k hk=>by
    obtain ⟨z,hz,hzk⟩:=(keysL_mem k _).1 hk
    exact (keysL_mem k _).2 ⟨z,List.mem_of_mem_take hz,hzk⟩
   have hlen:=fold_len (keysL (ks.take i)) aa
   have hlen2:(keysL (ks.take i)).length + cntP q≤N:=by
    have h1:=keysL_len (ks.take i)
    have h2:=cnt_take ks i q hi
    omega
   exact rcollect_any (cntP q) q w' P us bb bo bcap (Nat.le_refl _) (by rw [hbb]; omega) (hfl q hq) (by rw [hbb]; exact foldK_asc _ _ hasc) (fun k hk=>by
    rw [hbb,foldK_mem] at hk
    rcases hk with hk | hk
    ·exact hb k hk
    ·exact (hfk k (hsub k hk)).bytes) hpc hkb
 termination_by N=>N
 decreasing_by all_goals omega
end Go.Proofs.YtmkdfbelbcocpaaGreatDoor
namespace Go.Proofs.YtmkdfbelbcocpaaGreatDoor
open Go.RowKit Go.Sort Go.Maps
set_option maxHeartbeats 16000000 in
set_option maxRecDepth 100000 in
theorem rproper_any (w:World) (aa:List Ky) (ao:Option Addr) (n cap:Nat) (hn:n = aa.length) (hbig:n≤1000000) (hb:∀ k∈aa,KyB k) (hk:KidR w (fun _=>True) (aa.map atomK) ao) :
  Calls Tryz.prog 96 #[.slice ao n cap] w fun e w'=>∃ (ro:Option Addr) (rn rc:Nat),e = .returned (.slice ro rn rc)∧AtO w' w.heap.size rn rc (aa.filter (fun k=>!conK k)) ro∧RowKit.Below w.heap.size w w':=by
 have HK:=mkHid (fun W (hW:RowKit.Below w.heap.size w W)=>hk.below hW)
 have HN:=mkHid hn
 have HB:=mkHid hb
 have bx:=(RowKit.Below.refl w.heap.size w).alloc (Nat.le_refl _) (.cells #[] 25)
 have B0:=mkHid bx
 have O0:Hid (AtO (w.alloc (.cells #[] 25)) w.heap.size 0 0 ((aa.take 0).filter (fun k=>!conK k)) (some ⟨w.heap.size,0,none⟩)):=mkHid ⟨rfl,[],rfl,fun j k vs hj _=>by simp at hj,OwnK.made w _ 5⟩
 clear hk hn hb bx
 go_enter Tryz.func96,Tryz.ntmps96
 go_upto_region 2 with (fail)
 generalize w.alloc (.cells #[] 25) = w1 at *
 go_wp2_with fail
 go_loopw [4,3] (fun cc ov wr=>∃ (i k:Nat) (a5:Option Addr) (c5:Nat),cc = .int .i64 i∧ov = .slice a5 k c5∧i≤n∧k≤i∧Hid (RowKit.Below w.heap.size w wr)∧Hid (AtO wr w.heap.size k c5 ((aa.take i).filter (fun k=>!conK k)) a5)) (fun c _ _=>(n - intOf c).toNat)
 case atStart=>exact ⟨0,0,_,0,rfl,rfl,by omega,by omega,B0,O0⟩
 case round =>
  clear O0 B0
  obtain ⟨i,k,a5,c5,rfl,rfl,hi,hki,hw,ho⟩:=hrel
  have e2:IntKind.i64.wrap ((i:Int) + 1) = ((i + 1:Nat):Int):=IntWalk.i64_in _ (by omega)
  by_cases hlt:i < n
  ·have ii:(i:Int) < n:=by omega
   have HQ:Hid (∃ a,aa[i]? = some a):=mkHid (by
    have hl:i < aa.length:=by rw [← HN.out]; exact hlt
    exact ⟨aa[i],List.getElem?_eq_getElem hl⟩)
   obtain ⟨a,hai⟩:=HQ.out
   obtain ⟨q,hqi,g,off,hao,hg,us,hpc,hrd⟩:=(HK.out wr hw.out).get (i:=i) (by rw [List.length_map,← HN.out]; exact hlt)
   obtain rfl:q = atomK a:=by rw [List.getElem?_map,hai] at hqi; exact (Option.some.inj hqi).symm
   have HPC:=mkHid hpc
   obtain ⟨xa,xn,xc,rfl,-⟩:=hpc.form
   have HTK:Hid ((aa.take (i + 1)).filter (fun k=>!conK k) = (aa.take i).filter (fun k=>!conK k) ++ (if conK a = true then [] else [a])):=mkHid (by
    rw [List.take_add_one,hai,List.filter_append]
    cases hc:conK a with
    | true=>simp [hc]
    | false=>simp [hc])
   have s0:wr.cell? ⟨g,off + i * 5,none⟩ = some (.int .i64 0):=hrd 0 _ rfl
   have s1:wr.cell? ⟨g,off + i * 5 + 1,none⟩ = some (.string (strN a.l)):=hrd 1 _ rfl
   have s2:wr.cell? ⟨g,off + i * 5 + 2,none⟩ = some (.string (strN a.r)):=hrd 2 _ rfl
   have s3:wr.cell? ⟨g,off + i * 5 + 3,none⟩ = some (.int .i64 a.c):=hrd 3 _ rfl
   have s4:wr.cell? ⟨g,off + i * 5 + 4,none⟩ = some (.slice xa xn xc):=hrd 4 _ rfl
   have HCT:=mkHid (fun W=>rconst_any 0 a.l a.r a.c (.slice xa xn xc) rfl W (HB.out a (List.mem_of_getElem? hai)).1 (HB.out a (List.mem_of_getElem? hai)).2)
   have hka:(⟨a.l,a.r,a.c⟩:Ky) = a:=rfl
   rw [hka] at HCT
   have HVF:Hid ([Value.int .i64 (atomK a).k,.string (strN (atomK a).l),.string (strN (atomK a).r),.int .i64 (atomK a).c,.slice xa xn xc] = [.int .i64 0,.string (strN a.l),.string (strN a.r),.int .i64 a.c,.slice xa xn xc]):=mkHid rfl
   rw [HVF.out] at HPC
   have HAO:=mkHid hao
   clear hrd hpc hqi hai HQ HVF hka
   subst hao
   generalize conK a = b at *
   generalize strN a.l = y1 at *
   generalize strN a.r = y2 at *
   generalize a.c = y3 at *
   go_upto_region 5 with (fail)
   go_wp2_with fail
   refine (HCT.out wr).mono ?_
   rintro e wd ⟨rfl,BD⟩
   have W2:=mkHid (hw.out.trans (BD.mono hw.out.size))
   have O2:=mkHid (ho.out.below BD)
   have t0:=cell_later BD s0
   have t1:=cell_later BD s1
   have t2:=cell_later BD s2
   have t3:=cell_later BD s3
   have t4:=cell_later BD s4
   clear hw ho s0 s1 s2 s3 s4 BD hg HCT
   cases b with
   | true =>
    rw [if_pos rfl,List.append_nil] at HTK
    go_wp2
    go_roundw
    case rel=>exact ⟨i + 1,k,a5,c5,by go_num,rfl,by omega,by omega,W2,mkHid (by rw [HTK.out]; exact O2.out)⟩
    case measure=>simp only [intOf]; omega
   | false =>
    rw [if_neg (by simp)] at HTK
    obtain ⟨hnk,vss,hv1,hv2,hO⟩:=O2.out
    have HO:=mkHid hO
    have HPUT:=mkHid (fun (w':World) (c':Nat) (a':Option Addr) (h:OwnK w' w.heap.size 5 (k + 1) c' (vss.flatten ++ [.int .i64 0,.string y1,.string y2,.int .i64 y3,.slice xa xn xc]) a')=>AtO.put (cap:=c5) (ao:=a5) hnk hv1 hv2 (PredC.atom rfl HPC.out) h)
    have W2s:=mkHid W2.out.size
    clear hnk hv1 hv2 hO O2
    go_wp2_with (at_builtin; refine app_k 23 25 predZ 5 72 Tryz.underlying23 info_pred rfl (by omega) (by omega) wd w.heap.size rfl (.tmp 18) (.tmp 23) rfl a5 c5 k vss.flatten ?u1 HO.out ?u5 1 1 #[.int .i64 0,.string y1,.string y2,.int .i64 y3,.slice xa xn xc] 25 ?u2 rfl (by omega) ?u3 ?u4 ?_; (case u1=>rfl); (case u5=>exact W2s.out); (case u2=>rfl); (case u3=>exact one_agg _ _ _ _ _ _ _ rfl rfl rfl rfl); (case u4=>omega); intro g7 off7 c7 wa o9 gr9 b9 or9; have O9:=mkHid o9; have W9:=mkHid (W2.out.trans b9); clear o9 gr9 b9 or9 t0 t1 t2 t3 t4)
    go_roundw
    case rel=>exact ⟨i + 1,k + 1,some ⟨g7,off7,none⟩,c7,by go_num,rfl,by omega,by omega,W9,mkHid (by rw [HTK.out]; exact HPUT.out _ _ _ O9.out)⟩
    case measure=>simp only [intOf]; omega
  ·have ii:¬ ((i:Int) < n):=by omega
   have HTC:Hid (aa.take i = aa):=mkHid (List.take_of_length_le (by rw [← HN.out]; omega))
   rw [HTC.out] at ho
   go_wp2
   go_ret
   exact ⟨a5,k,c5,rfl,ho.out,hw.out⟩
theorem inSet_out {l:List Ky} {k:Ky} (h:k ∉ l) (S:Nat):inSet l S k = decide (0≤k.c):=inSet_none h S
theorem fnd_at {l:List Ky} (hl:AscK l) {k:Ky} (h:k∈l) (S:Nat):∃ j:Nat,fndP (l.map atomK) k = (j:Int)∧j < l.length∧inSet l S k = S.testBit j:=by
 obtain ⟨j,hj⟩:=List.mem_iff_getElem?.1 h
 refine ⟨j,?_,(List.getElem?_eq_some_iff.1 hj).1,inSet_at hl hj S⟩
 rw [fnd_P,find_at hl hj]
set_option maxHeartbeats 8000000 in
set_option maxRecDepth 100000 in
theorem rlog_atom (w:World) (l r:List Nat) (c:Int) (x:Value) (hx:x.oneCell' = true) (aa:List Ky) (ao:Option Addr) (na ac S:Nat) (hna:na = aa.length) (hna8:na≤8) (hS:S < 256) (hasc:AscK aa) (hl:∀ y∈l,y < 256) (hr:∀ y∈r,y < 256) (hin:conK ⟨l,r,c⟩ = false ↔ (⟨l,r,c⟩:Ky)∈aa)
  (hfi:∀ W,RowKit.Below w.heap.size w W→Calls Tryz.prog 43 #[.slice ao na ac,.agg #[.int .i64 0,.string (strN l),.string (strN r),.int .i64 c,x]] W fun e w'=>e = .returned (.int .i64 (fndP (aa.map atomK) ⟨l,r,c⟩))∧RowKit.Below W.heap.size W w') :
  Calls Tryz.prog 266 #[.agg #[.int .i64 0,.string (strN l),.string (strN r),.int .i64 c,x],.slice ao na ac,.int .i64 (S:Int)] w fun e w'=>e = .returned (.bool (inSet aa S ⟨l,r,c⟩))∧RowKit.Below w.heap.size w w':=by
 have bx:=(RowKit.Below.refl w.heap.size w).alloc (Nat.le_refl _) (.cells #[.int .i64 0,.string (strN l),.string (strN r),.int .i64 c,x] 25)
 have B1:=mkHid bx
 have X1:Hid (HasV (w.alloc (.cells #[.int .i64 0,.string (strN l),.string (strN r),.int .i64 c,x] 25)) w.heap.size 25 [.int .i64 0,.string (strN l),.string (strN r),.int .i64 c,x]):=mkHid (heap_alloc_new w _)
 have HFI:=mkHid hfi
 have HCT:=mkHid (fun W=>rconst_any 0 l r c x hx W hl hr)
 have H1:Hid (conK ⟨l,r,c⟩ = true→inSet aa S ⟨l,r,c⟩ = decide (0≤c)):=mkHid (fun h=>inSet_out (fun hm=>by have:=hin.2 hm; rw [h] at this; cases this) S)
 have H2:Hid (conK ⟨l,r,c⟩ = false→∃ j:Nat,fndP (aa.map atomK) ⟨l,r,c⟩ = (j:Int)∧j < na∧inSet aa S ⟨l,r,c⟩ = S.testBit j):=mkHid (fun h=>by rw [hna]; exact fnd_at hasc (hin.1 h) S)
 have HS:=mkHid hS
 obtain ⟨V,hV⟩:∃ V,inSet aa S ⟨l,r,c⟩ = V:=⟨_,rfl⟩
 rw [hV] at H1 H2 ⊢
 clear bx hfi hna hS hV hasc hin hl hr
 generalize fndP (aa.map atomK) ⟨l,r,c⟩ = fi at *
 generalize conK ⟨l,r,c⟩ = b at *
 generalize strN l = y at *
 generalize strN r = z at *
 go_enter Tryz.func266,Tryz.ntmps266
 go_upto_region 1 with (fail)
 generalize w.alloc (.cells #[.int .i64 0,.string y,.string z,.int .i64 c,x] 25) = w1 at *
 have x0:=X1.out.cell 0 _ rfl
 go_wp2_with (refine wpList_load_row rfl 25 (.tmp 3) rfl w.heap.size ?x1 25 #[.int .i64 0,.string y,.string z,.int .i64 c,x] (0,0) _ X1.out Tryz.underlying25 rfl (inf_pred _ rfl) ?_; (case x1=>rfl))
 refine (HCT.out w1).mono ?_
 rintro e w2 ⟨rfl,b2⟩
 have B2:=mkHid (B1.out.trans (b2.mono B1.out.size))
 have X2:=mkHid (X1.out.step b2)
 clear b2 X1 B1 x0
 have x3:=X2.out.cell 3 _ rfl
 cases b with
 | true =>
  have HX:=mkHid (H1.out (by trivial))
  go_wp2
  go_ret
  exact ⟨ret_bool HX.out.symm,B2.out⟩
 | false =>
  obtain ⟨j,hj1,hj2,hj3⟩:=H2.out (by trivial)
  subst hj1
  have HX:=mkHid hj3
  have hbt:=bit_at (s:=S) (i:=j) HS.out (by omega)
  have j0:¬ ((j:Int) < 0):=by omega
  have j6:(j:Int) < 64:=by omega
  clear H1 H2 hj2 hj3 x3
  generalize S.testBit j = tb at *
  go_wp2_with (refine wpList_load_row rfl 25 (.tmp 3) rfl w.heap.size ?x2 25 #[.int .i64 0,.string y,.string z,.int .i64 c,x] (0,0) _ X2.out Tryz.underlying25 rfl (inf_pred _ rfl) ?_; (case x2=>rfl))
  refine (HFI.out w2 B2.out).mono ?_
  rintro e w3 ⟨rfl,b3⟩
  have B3:=mkHid (B2.out.trans (b3.mono B2.out.size))
  clear b3
  go_wp2
  go_ret
  exact ⟨ret_bool HX.out.symm,B3.out⟩
set_option maxHeartbeats 8000000 in
set_option maxRecDepth 100000 in
theorem rlog_node (w:World) (P:Nat→Prop) (κ:Int) (l r:List Nat) (c:Int) (ks:List Prd) (ao:Option Addr) (n cap:Nat) (hκ:κ ≠ 0) (hn:n = ks.length) (hbig:n≤1000000)
  (hk:KidR w P ks ao) (C:World→Prop) (av sv:Value) (f:Ky→Bool) (hst:∀ w w',C w→RowKit.Below w.heap.size w w'→C w') (hC:C w)
  (ih:∀ (q:Prd) (w:World) (vs:List Value),q∈ks→PredC w P q vs→C w→Calls Tryz.prog 266 #[.agg vs.toArray,av,sv] w fun e w'=>e = .returned (.bool (truthP f q))∧RowKit.Below w.heap.size w w') :
  Calls Tryz.prog 266 #[.agg #[.int .i64 κ,.string (strN l),.string (strN r),.int .i64 c,.slice ao n cap],av,sv] w fun e w'=>e = .returned (.bool (truthP f (.mk κ l r c ks)))∧RowKit.Below w.heap.size w w':=by
 have HK:=mkHid (fun W (hW:RowKit.Below w.heap.size w W)=>hk.below hW)
 have IH:=mkHid ih
 have HN:=mkHid hn
 have HST:=mkHid hst
 have hκb:(κ == 0) = false:=beq_eq_false_iff_ne.mpr hκ
 have HV:Hid (truthP f (.mk κ l r c ks) = if κ = 1 then cntT f ks == ks.length else if κ = 2 then decide (0 < cntT f ks) else decide (c≤(cntT f ks:Int))):=mkHid (by rw [truthP,if_neg hκ])
 obtain ⟨V,hV⟩:∃ V,truthP f (.mk κ l r c ks) = V:=⟨_,rfl⟩
 rw [hV] at HV ⊢
 clear hV
 have bx:=(RowKit.Below.refl w.heap.size w).alloc (Nat.le_refl _) (.cells #[.int .i64 κ,.string (strN l),.string (strN r),.int .i64 c,.slice ao n cap] 25)
 have C1:=mkHid (hst _ _ hC bx)
 have B1:=mkHid bx
 have X1:Hid (HasV (w.alloc (.cells #[.int .i64 κ,.string (strN l),.string (strN r),.int .i64 c,.slice ao n cap] 25)) w.heap.size 25 [.int .i64 κ,.string (strN l),.string (strN r),.int .i64 c,.slice ao n cap]):=mkHid (heap_alloc_new w _)
 clear bx hk ih hn hC hst
 generalize strN l = y at *
 generalize strN r = z at *
 go_enter Tryz.func266,Tryz.ntmps266
 go_upto_region 1 with (fail)
 generalize w.alloc (.cells #[.int .i64 κ,.string y,.string z,.int .i64 c,.slice ao n cap] 25) = w1 at *
 have x0:=X1.out.cell 0 _ rfl
 go_wp2_with fail
 clear x0
 go_loopw [8,7] (fun cc nn wr=>∃ (i m:Nat),cc = .int .i64 i∧nn = .int .i64 m∧i≤n∧m≤i∧Hid (m = cntT f (ks.take i))∧Hid (C wr)∧Hid (RowKit.Below w.heap.size w wr)∧Hid (HasV wr w.heap.size 25 [.int .i64 κ,.string y,.string z,.int .i64 c,.slice ao n cap])) (fun c _ _=>(n - intOf c).toNat)
 case atStart=>exact ⟨0,0,rfl,rfl,by omega,by omega,mkHid rfl,C1,B1,X1⟩
 case round =>
  clear C1 B1 X1
  obtain ⟨i,m,rfl,rfl,hi,hmi,hm,hc,hw,hx⟩:=hrel
  have e2:IntKind.i64.wrap ((i:Int) + 1) = ((i + 1:Nat):Int):=IntWalk.i64_in _ (by omega)
  have e3:IntKind.i64.wrap ((m:Int) + 1) = ((m + 1:Nat):Int):=IntWalk.i64_in _ (by omega)
  have x4:=hx.out.cell 4 _ rfl
  by_cases hlt:i < n
  ·have ii:(i:Int) < n:=by omega
   obtain ⟨q,hqi,g,off,hao,hg,vs,hpc,hrd⟩:=(HK.out wr hw.out).get (i:=i) (by rw [← HN.out]; exact hlt)
   have HCT:=mkHid (cntT_take f ks i q hqi)
   have HIH:=mkHid (IH.out q wr vs (List.mem_of_getElem? hqi) hpc hc.out)
   obtain ⟨xa,xn,xc,rfl,-⟩:=hpc.form
   have s0:=hrd 0 _ rfl
   have s1:=hrd 1 _ rfl
   have s2:=hrd 2 _ rfl
   have s3:=hrd 3 _ rfl
   have s4:=hrd 4 _ rfl
   rw [Nat.add_zero] at s0
   have HAO:=mkHid hao
   clear hrd hpc hqi
   subst hao
   generalize truthP f q = tb at *
   generalize q.k = q0 at *
   generalize strN q.l = q1 at *
   generalize strN q.r = q2 at *
   generalize q.c = q3 at *
   go_wp2_with fail
   refine HIH.out.mono ?_
   rintro e w3 ⟨rfl,b3⟩
   have hc3:=mkHid (HST.out _ _ hc.out b3)
   have hw3:=mkHid (hw.out.trans (b3.mono hw.out.size))
   have hx3:=mkHid (hx.out.step b3)
   clear b3 hc hw hx s0 s1 s2 s3 s4 x4 HIH
   cases tb with
   | true =>
    rw [if_pos rfl] at HCT
    go_wp2
    go_roundw
    case rel=>exact ⟨i + 1,m + 1,by go_num,by go_num,by omega,by omega,mkHid (by rw [HCT.out,← hm.out]),hc3,hw3,hx3⟩
    case measure=>simp only [intOf]; omega
   | false =>
    rw [if_neg (by simp)] at HCT
    go_wp2
    go_roundw
    case rel=>exact ⟨i + 1,m,by go_num,rfl,by omega,by omega,mkHid (by rw [HCT.out,← hm.out]; rfl),hc3,hw3,hx3⟩
    case measure=>simp only [intOf]; omega
  ·have ii:¬ ((i:Int) < n):=by omega
   have HT:Hid (m = cntT f ks):=mkHid (by rw [hm.out,show i = ks.length by rw [← HN.out]; omega,List.take_length])
   have x0:=hx.out.cell 0 _ rfl
   have x3:=hx.out.cell 3 _ rfl
   have HLE:m≤n:=by omega
   by_cases k1:κ = 1
   ·have k1b:(κ == 1) = true:=beq_iff_eq.mpr k1
    have HX:Hid (V = decide (m = n)):=mkHid (by rw [HV.out,if_pos k1,← HT.out,HN.out,Bool.eq_iff_iff]; simp)
    clear k1 hκ
    go_wp2
    go_ret
    exact ⟨ret_bool (by rw [HX.out,Bool.eq_iff_iff]; simp; omega),hw.out⟩
   ·have k1b:(κ == 1) = false:=beq_eq_false_iff_ne.mpr k1
    by_cases k2:κ = 2
    ·have k2b:(κ == 2) = true:=beq_iff_eq.mpr k2
     have HX:Hid (V = decide (0 < m)):=mkHid (by rw [HV.out,if_neg k1,if_pos k2,← HT.out])
     clear k1 k2 hκ
     go_wp2
     go_ret
     exact ⟨ret_bool (by rw [HX.out]; try simp),hw.out⟩
    ·have k2b:(κ == 2) = false:=beq_eq_false_iff_ne.mpr k2
     have HX:Hid (V = decide (c≤(m:Int))):=mkHid (by rw [HV.out,if_neg k1,if_neg k2,← HT.out])
     clear k1 k2 hκ
     go_wp2
     go_ret
     exact ⟨ret_bool (by rw [HX.out]; try simp),hw.out⟩
theorem rlogic_any:∀ (N:Nat) (p:Prd) (w:World) (P:Nat→Prop) (vs:List Value) (aa:List Ky) (ao:Option Addr) (na ac S:Nat),cntP p≤N→N≤1000000→na = aa.length→na≤8→S < 256→AscK aa→(∀ k∈aa,KyB k)→BytP p→(∀ k∈keysP p,conK k = false ↔ k∈aa)→PredC w P p vs→KidR w (fun _=>True) (aa.map atomK) ao →
  Calls Tryz.prog 266 #[.agg vs.toArray,.slice ao na ac,.int .i64 (S:Int)] w fun e w'=>e = .returned (.bool (truthP (inSet aa S) p))∧RowKit.Below w.heap.size w w'
 | 0,p,w,P,vs,aa,ao,na,ac,S,hN,_,_,_,_,_,_,_,_,_,_=>by have:=cnt_pos p; omega
 | N + 1,.mk κ l r c ks,w,P,vs,aa,ao,na,ac,S,hN,hM,hna,hna8,hS,hasc,hab,hb,hin,h,hka=>by
  have hc2:cntL ks≤N:=by unfold cntP at hN; omega
  have hl:=len_le_cntL ks
  have hny:=nmY_of hb
  have h':=h
  unfold PredC at h
  unfold BytP at hb
  obtain ⟨xo,cap,rfl,hk⟩:=h
  have hasY:∀ q∈aa.map atomK,NmY q:=fun q hq=>by
   obtain ⟨k,hk,rfl⟩:=List.mem_map.1 hq
   exact hab k hk
  by_cases hκ:κ = 0
  ·subst hκ
   have:=rlog_atom w l r c (.slice xo ks.length cap) rfl aa ao na ac S hna hna8 hS hasc hny.1 hny.2 (hin ⟨l,r,c⟩ (by unfold keysP; simp)) (fun W hW=>find_any W _ P (aa.map atomK) ao na ac (.mk 0 l r c ks) _ (by rw [List.length_map]; exact hna) (by omega) hasY hny (hka.below hW) (h'.below hW))
   simpa [truthP] using this
  ·exact rlog_node w P κ l r c ks xo ks.length cap hκ rfl (by omega) hk (fun W=>KidR W (fun _=>True) (aa.map atomK) ao) _ _ (inSet aa S) (fun w w' h hb=>h.below hb) hka (fun q w' us hq hpc hC'=>rlogic_any N q w' P us aa ao na ac S (by
    obtain ⟨i,hi⟩:=List.mem_iff_getElem?.1 hq
    have:=cnt_kid ks i q hi
    omega) (by omega) hna hna8 hS hasc hab ((BytL_iff ks).1 hb.2.2 q hq) (fun k hk=>hin k (by
     unfold keysP
     exact List.mem_append_right _ ((keysL_mem k ks).2 ⟨q,hq,hk⟩))) hpc hC')
theorem primeU_no (t:Nat→Bool) (set oth:Nat) (i n:Nat) (hi:i < n) (hb:set.testBit i = true) (ht:t (oth + 2 ^ i) = false):primeU t set oth n = false:=by
 cases h:primeU t set oth n with
 | false=>rfl
 | true =>
  have:=(primeU_iff t set oth n).1 h i hi hb
  rw [ht] at this
  cases this
set_option maxHeartbeats 16000000 in
set_option maxRecDepth 100000 in
theorem rprime_any (p:Prd) (w:World) (P:Nat→Prop) (vs:List Value) (aa:List Ky) (ao:Option Addr) (na ac S:Nat) (hN:cntP p≤1000000) (hna:na = aa.length) (hna8:na≤8) (hS:S < 2 ^ na) (hasc:AscK aa) (hab:∀ k∈aa,KyB k) (hb:BytP p) (hin:∀ k∈keysP p,conK k = false ↔ k∈aa) (h:PredC w P p vs) (hka:KidR w (fun _=>True) (aa.map atomK) ao) :
  Calls Tryz.prog 230 #[.agg vs.toArray,.slice ao na ac,.int .i64 (S:Int)] w fun e w'=>e = .returned (.bool (!(truthP (inSet aa (2 ^ na - 1 - S)) p) && primeU (fun s=>truthP (inSet aa s) p) S (2 ^ na - 1 - S) na))∧RowKit.Below w.heap.size w w':=by
 obtain ⟨xa,xn,xc,rfl,-⟩:=h.form
 have bx:=(RowKit.Below.refl w.heap.size w).alloc (Nat.le_refl _) (.cells #[.int .i64 p.k,.string (strN p.l),.string (strN p.r),.int .i64 p.c,.slice xa xn xc] 25)
 have B1:=mkHid bx
 have X1:Hid (HasV (w.alloc (.cells #[.int .i64 p.k,.string (strN p.l),.string (strN p.r),.int .i64 p.c,.slice xa xn xc] 25)) w.heap.size 25 [.int .i64 p.k,.string (strN p.l),.string (strN p.r),.int .i64 p.c,.slice xa xn xc]):=mkHid (heap_alloc_new w _)
 have hp8:2 ^ na≤256:=Nat.le_trans (Nat.pow_le_pow_right (by omega) hna8) (by decide)
 have HLG:=mkHid (fun (s:Nat) (hs:s < 256) W (hW:RowKit.Below w.heap.size w W)=>rlogic_any (cntP p) p W P _ aa ao na ac s (Nat.le_refl _) hN hna hna8 hs hasc hab hb hin (h.below hW) (hka.below hW))
 obtain ⟨tt,htt⟩:∃ tt:Nat→Bool,(fun s=>truthP (inSet aa s) p) = tt:=⟨_,rfl⟩
 have H25:Hid (∀ s,truthP (inSet aa s) p = tt s):=mkHid (fun s=>by rw [← htt])
 simp only [H25.out] at HLG ⊢
 rw [show (fun s=>tt s) = tt from rfl]
 obtain ⟨oth,hoth⟩:∃ oth,2 ^ na - 1 - S = oth:=⟨_,rfl⟩
 obtain ⟨N,hNN⟩:∃ N,2 ^ na = N:=⟨_,rfl⟩
 rw [hoth]
 have HNE:=mkHid hNN
 have HOT:Hid (N - 1 - S = oth∧S < N∧N≤256):=mkHid (by rw [← hNN]; exact ⟨hoth,hS,hp8⟩)
 have eS:wrap64 ((2:Int) ^ na) = (N:Int):=by rw [← hNN]; exact shl_at hna8
 have hO:=HOT.out
 have eA:IntKind.i64.wrap ((N:Int) - 1) = ((N - 1:Nat):Int):=by rw [IntWalk.i64_in _ (by omega)]; omega
 have eO:IntKind.i64.wrap (((N - 1:Nat):Int) - S) = (oth:Int):=by rw [IntWalk.i64_in _ (by omega)]; omega
 have n64:(na:Int) < 64:=by omega
 obtain ⟨V,hV⟩:∃ V,(!(tt oth) && primeU tt S oth na) = V:=⟨_,rfl⟩
 have HV:=mkHid hV.symm
 rw [hV]
 have hoth8:oth < 256:=by omega
 clear bx h hka hN hna hasc hab hb hin htt hoth hS hp8 hV hNN H25
 generalize p.k = q0 at *
 generalize strN p.l = q1 at *
 generalize strN p.r = q2 at *
 generalize p.c = q3 at *
 go_enter Tryz.func230,Tryz.ntmps230
 go_upto_region 1 with (fail)
 generalize w.alloc (.cells #[.int .i64 q0,.string q1,.string q2,.int .i64 q3,.slice xa xn xc] 25) = w1 at *
 obtain ⟨A,hA⟩:∃ A,N - 1 = A:=⟨_,rfl⟩
 have HAE:=mkHid hA
 rw [hA] at eA eO
 clear hA hO
 go_upto_region 2 with (fail)
 clear eS eA eO
 go_wp2_with (refine wpList_load_row rfl 25 (.tmp 3) rfl w.heap.size ?x1 25 #[.int .i64 q0,.string q1,.string q2,.int .i64 q3,.slice xa xn xc] (0,0) _ X1.out Tryz.underlying25 rfl (inf_pred _ rfl) ?_; (case x1=>rfl))
 refine (HLG.out oth hoth8 w1 B1.out).mono ?_
 rintro e w2 ⟨rfl,b2⟩
 have B2:=mkHid (B1.out.trans (b2.mono B1.out.size))
 have X2:=mkHid (X1.out.step b2)
 clear b2 X1 B1
 obtain ⟨to,hto⟩:∃ to,tt oth = to:=⟨_,rfl⟩
 rw [hto] at HV ⊢
 clear hto
 cases to with
 | true =>
  have HX:Hid (V = false):=mkHid (by rw [HV.out]; rfl)
  go_wp2
  go_ret
  exact ⟨ret_bool HX.out.symm,B2.out⟩
 | false =>
  have HX:Hid (V = primeU tt S oth na):=mkHid (by rw [HV.out]; rfl)
  go_wp2_with fail
  go_loopw [8] (fun cc wr=>∃ (i:Nat),cc = .int .i64 i∧i≤na∧Hid (primeU tt S oth i = true)∧Hid (RowKit.Below w.heap.size w wr)∧Hid (HasV wr w.heap.size 25 [.int .i64 q0,.string q1,.string q2,.int .i64 q3,.slice xa xn xc])) (fun c _=>(na - intOf c).toNat)
  case atStart=>exact ⟨0,rfl,by omega,mkHid (by rw [primeU]),B2,X2⟩
  case round =>
   clear B2 X2
   obtain ⟨i,rfl,hi,hpu,hw,hx⟩:=hrel
   have e2:IntKind.i64.wrap ((i:Int) + 1) = ((i + 1:Nat):Int):=IntWalk.i64_in _ (by omega)
   by_cases hlt:i < na
   ·have ii:(i:Int) < na:=by omega
    have i64:(i:Int) < 64:=by omega
    have i0:(0:Int)≤i:=by omega
    have hbt:=bit_at (s:=S) (i:=i) (by have:=HOT.out; omega) (by omega)
    have HPS:Hid (primeU tt S oth (i + 1) = (primeU tt S oth i && (!S.testBit i || tt (oth + 2 ^ i)))):=mkHid (by rw [primeU])
    rw [hpu.out,Bool.true_and] at HPS
    obtain ⟨tb,htb⟩:∃ tb,S.testBit i = tb:=⟨_,rfl⟩
    have HTB:=mkHid htb
    rw [htb] at hbt HPS
    clear htb
    cases tb with
    | false =>
     go_upto_region 7 with (fail)
     go_quiet (fail)
     have W2:=mkHid (below_drewN hw.out nq)
     have X3:=mkHid (hx.out.step (below_drewN (RowKit.Below.refl wr.heap.size wr) nq))
     clear hw hx
     generalize wr.drewN nq = wd at *
     go_wp2
     go_roundw
     case rel=>exact ⟨i + 1,by go_num,by omega,mkHid (by rw [HPS.out]; rfl),W2,X3⟩
     case measure=>simp only [intOf]; omega
    | true =>
     obtain ⟨q,hq2⟩:∃ q,2 ^ i = q:=⟨_,rfl⟩
     obtain ⟨x,hx2⟩:∃ x,oth + q = x:=⟨_,rfl⟩
     have hor:=or_at (m:=na) (s:=S) (i:=i) hna8 (by rw [HNE.out]; exact HOT.out.2.1) (by omega) HTB.out
     have HXN:Hid (x < 256∧q≤256∧oth < 256):=mkHid (by
      have h1:=hor.2
      rw [HNE.out,HOT.out.1,hq2,hx2] at h1
      have:=HOT.out
      omega)
     have eQ:wrap64 ((2:Int) ^ i) = (q:Int):=by rw [← hq2]; exact shl_at (by omega)
     have eQ2:IntKind.i64.wrap ((2:Int) ^ i) = (q:Int):=by
      have h1:((2 ^ i:Nat):Int) = (2:Int) ^ i:=by simp
      rw [← h1,hq2]
      clear h1 hor eQ hq2 hx2 hbt
      exact IntWalk.i64_in _ (by have:=HXN.out.2.1; omega)
     have eX:IntKind.i64.wrap ((oth:Int) + q) = (x:Int):=by
      clear eQ2 hor eQ hq2 hbt
      rw [IntWalk.i64_in _ (by have:=HXN.out; omega)]; omega
     have HNO:Hid (tt x = false→primeU tt S oth na = false):=mkHid (fun h=>primeU_no tt S oth i na hlt HTB.out (by rw [hq2,hx2]; exact h))
     rw [hq2,hx2] at HPS
     have HA1:=mkHid (fun W (hW:RowKit.Below wr.heap.size wr W)=>HLG.out x HXN.out.1 W (hw.out.trans (hW.mono hw.out.size)))
     clear hor hq2 hx2
     generalize tt x = tv at *
     have s0:=hx.out.cell 0 _ rfl
     have s1:=hx.out.cell 1 _ rfl
     have s2:=hx.out.cell 2 _ rfl
     have s3:=hx.out.cell 3 _ rfl
     have s4:=hx.out.cell 4 _ rfl
     go_upto_region 7 with (fail)
     have r1:=regr wr (fun W hW=>HA1.out W hW)
     have a0':=cell_regrown s0
     have a1':=cell_regrown s1
     have a2':=cell_regrown s2
     have a3':=cell_regrown s3
     have a4':=cell_regrown s4
     clear s0 s1 s2 s3 s4
     refine wp_region_quiet_below (by kernel_rfl) (by kernel_rfl) ?_
     repeat (quiet_step (with_reducible (exact r1 _ _)))
     refine wpQuiet_nil ?_
     intro _ hw'
     obtain ⟨⟨dq,osq⟩,hw''⟩:=hw'
     subst hw''
     have BB:=below_regrown wr dq osq
     have W2:=mkHid (hw.out.trans (BB.mono hw.out.size))
     have X3:=mkHid (hx.out.step BB)
     clear r1 a0' a1' a2' a3' a4' BB hw hx HA1 eQ eQ2 eX
     generalize grow (redrawn wr dq) osq = wd at *
     cases tv with
     | false =>
      have HF:Hid (V = false):=mkHid (by rw [HX.out]; exact HNO.out rfl)
      go_wp2
      go_ret
      exact ⟨ret_bool HF.out.symm,W2.out⟩
     | true =>
      go_wp2
      go_roundw
      case rel=>exact ⟨i + 1,by go_num,by omega,mkHid (by rw [HPS.out]; rfl),W2,X3⟩
      case measure=>simp only [intOf]; omega
   ·have ii:¬ ((i:Int) < na):=by omega
    obtain rfl:i = na:=by omega
    have HF:Hid (V = true):=mkHid (by rw [HX.out]; exact hpu.out)
    go_wp2
    go_ret
    exact ⟨ret_bool HF.out.symm,hw.out⟩
end Go.Proofs.YtmkdfbelbcocpaaGreatDoor
