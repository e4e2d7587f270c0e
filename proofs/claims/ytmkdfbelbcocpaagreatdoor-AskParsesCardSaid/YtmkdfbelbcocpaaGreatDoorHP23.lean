import Derived.Deep.MidRow
import Derived.Test.YtmkdfbelbcocpaaGreatDoorHP22
set_option linter.unusedVariables false
set_option linter.unusedSimpArgs false
set_option maxHeartbeats 8000000
set_option maxRecDepth 100000
namespace Go.Proofs.YtmkdfbelbcocpaaGreatDoor
section
open Go.RowKit Go.Sort
theorem OwnK.reads {w:World} {B k n cap g off:Nat} {xs:List Value} (h:OwnK w B k n cap xs (some ⟨g,off,none⟩)):Reads w g off xs∧g<w.heap.size∧B≤g∧(∀ j,j<cap*k→w.frozen? ⟨g,off+j,none⟩=false):=by
 cases h with
 | «at» g off h h1 h2 h3=>exact⟨h.cells,h.lt,h.own,h.warm⟩
theorem flat_set {α:Type} (f:α→List Value) (k:Nat) (hf:∀ x,(f x).length=k) (l:List α) (i:Nat) (hi:i<l.length) (y:α) (j:Nat) :
  ((l.set i y).flatMap f)[j]?=if i*k≤j∧j<i*k+k then (f y)[j-i*k]? else (l.flatMap f)[j]?:=by
 induction l generalizing i j with
 | nil=>simp at hi
 | cons x l ih =>
  have hfx:=hf x
  have hfy:=hf y
  cases i with
  | zero =>
   simp only[List.set_cons_zero,List.flatMap_cons,Nat.zero_mul,Nat.zero_le,true_and,Nat.zero_add,Nat.sub_zero]
   by_cases hj:j<k
   ·rw[if_pos hj,List.getElem?_append_left (by omega)]
   ·rw[if_neg hj,List.getElem?_append_right (by omega),List.getElem?_append_right (by omega),hfx,hfy]
  | succ i =>
   simp only[List.set_cons_succ,List.flatMap_cons]
   by_cases hj:j<k
   ·rw[List.getElem?_append_left (by omega),List.getElem?_append_left (by omega),if_neg (by rw[Nat.add_mul];omega)]
   ·rw[List.getElem?_append_right (by omega),List.getElem?_append_right (by omega),hfx,ih i (by simpa using hi) (j-k),Nat.add_mul]
    by_cases hc:i*k≤j-k∧j-k<i*k+k
    ·rw[if_pos hc,if_pos (by omega)]
     congr 1
     omega
    ·rw[if_neg hc,if_neg (by omega)]
theorem Only.setCells_at (w:World) (g:Nat):∀ (o:Nat) (vs:List Value),Only w (w.setCells g o vs) (· = g)
 | _,[]=>Only.refl w _
 | o,v::vs=>((Only.refl w (· = g)).setCell (a:=⟨g,o,none⟩) v rfl).trans (Only.setCells_at (w.setCell ⟨g,o,none⟩ v) g (o+1) vs)
theorem OwnK.store {α:Type} (f:α→List Value) (k:Nat) (hf:∀ x,(f x).length=k) {w:World} {B n cap g off:Nat} {l:List α} (h:OwnK w B k n cap (l.flatMap f) (some ⟨g,off,none⟩)) (i:Nat) (hi:i<l.length) (y:α) :
  OwnK (w.setCells g (off+i*k) (f y)) B k n cap ((l.set i y).flatMap f) (some ⟨g,off,none⟩)∧Only w (w.setCells g (off+i*k) (f y)) (· = g)∧w.there g (off+i*k) k:=by
 have hcnt:=h.count
 rw[flatK_len f k hf] at hcnt
 have hfl:((l.set i y).flatMap f).length=l.length*k:=by rw[flatK_len f k hf,List.length_set]
 have hik:i*k+k≤l.length*k:=by
  have:=Nat.mul_le_mul_right k (show i+1≤l.length from hi)
  rwa [Nat.add_mul,Nat.one_mul] at this
 cases h with
 | «at» g off h h1 h2 h3 =>
  have hle:=h.le
  rw[flatK_len f k hf] at hle
  have hth:∀ j,j<(f y).length→(w.cell? ⟨g,off+i*k+j,none⟩).isSome=true:=fun j hj=>by
   rw[hf] at hj
   rw[Nat.add_assoc]
   exact h.room _ (by omega)
  refine⟨.at g off ⟨h.own,by rw[size_setCells];exact h.lt,by rw[hfl];exact hle,fun j u hj=>?_,fun j hj=>?_,fun j hj=>?_⟩ (by rw[hfl];exact hcnt) h2 h3,?_,fun j hj=>?_⟩
  ·rw[flat_set f k hf l i hi y j] at hj
   by_cases hc:i*k≤j∧j<i*k+k
   ·rw[if_pos hc] at hj
    obtain⟨hl,rfl⟩:=List.getElem?_eq_some_iff.1 hj
    have:=World.cell?_setCells_in g (f y) (off+i*k) w hth (j-i*k) hl
    rwa [show off+i*k+(j-i*k)=off+j by omega] at this
   ·rw[if_neg hc] at hj
    rw[World.cell?_setCells_out g (f y) _ w _ (fun _ _=>by show off+j<off+i*k∨off+i*k+(f y).length≤off+j;rw[hf];omega)]
    exact h.cells j u hj
  ·by_cases hc:i*k≤j∧j<i*k+k
   ·have:=World.cell?_setCells_in g (f y) (off+i*k) w hth (j-i*k) (by rw[hf];omega)
    rw[show off+i*k+(j-i*k)=off+j by omega] at this
    rw[this];rfl
   ·rw[World.cell?_setCells_out g (f y) _ w _ (fun _ _=>by show off+j<off+i*k∨off+i*k+(f y).length≤off+j;rw[hf];omega)]
    exact h.room j hj
  ·rw[World.frozen?_setCells];exact h.warm j hj
  ·refine Only.setCells_at w g (off+i*k) (f y)
  ·refine⟨?_,?_⟩
   ·have:=hth j (by rw[hf];exact hj);exact this
   ·rw[Nat.add_assoc];exact h.warm _ (by omega)
theorem OwnK.cut {α:Type} (f:α→List Value) (k:Nat) (hf:∀ x,(f x).length=k) {w:World} {B n cap g off:Nat} {l:List α} (h:OwnK w B k n cap (l.flatMap f) (some ⟨g,off,none⟩)) (i:Nat) (hi:i≤n) (hl:l.length=n) (vs:List Value) (hv:vs.length=(n-i)*k) :
  OwnK (w.setCells g (off+i*k) vs) B k i cap ((l.take i).flatMap f) (some ⟨g,off,none⟩)∧Only w (w.setCells g (off+i*k) vs) (· = g)∧w.there g (off+i*k) ((n-i)*k):=by
 have hsp:l.flatMap f=(l.take i).flatMap f++(l.drop i).flatMap f:=by rw[← List.flatMap_append,List.take_append_drop]
 have hti:((l.take i).flatMap f).length=i*k:=by rw[flatK_len f k hf,List.length_take];congr 1;omega
 have hnk:i*k+(n-i)*k=n*k:=by rw[← Nat.add_mul];congr 1;omega
 cases h with
 | «at» g off h h1 h2 h3 =>
  have hcap:n*k≤cap*k:=Nat.mul_le_mul_right k h3
  have hth:∀ j,j<vs.length→(w.cell? ⟨g,off+i*k+j,none⟩).isSome=true:=fun j hj=>by
   rw[Nat.add_assoc]
   exact h.room _ (by omega)
  refine⟨.at g off ⟨h.own,by rw[size_setCells];exact h.lt,by rw[hti];omega,fun j u hj=>?_,fun j hj=>?_,fun j hj=>?_⟩ hti h2 (by omega),Only.setCells_at w g _ vs,fun j hj=>?_⟩
  ·have hjl:=(List.getElem?_eq_some_iff.1 hj).1
   rw[hti] at hjl
   rw[World.cell?_setCells_out g vs _ w _ (fun _ _=>.inl (by show off+j<off+i*k;omega))]
   exact h.cells j u (by rw[hsp,List.getElem?_append_left (by omega)];exact hj)
  ·by_cases hc:i*k≤j∧j<i*k+vs.length
   ·have:=World.cell?_setCells_in g vs (off+i*k) w hth (j-i*k) (by omega)
    rw[show off+i*k+(j-i*k)=off+j by omega] at this
    rw[this];rfl
   ·rw[World.cell?_setCells_out g vs _ w _ (fun _ _=>by show off+j<off+i*k∨off+i*k+vs.length≤off+j;omega)]
    exact h.room j hj
  ·rw[World.frozen?_setCells];exact h.warm j hj
  ·refine⟨?_,?_⟩
   ·have:=hth j (by rw[hv];exact hj);exact this
   ·rw[Nat.add_assoc];exact h.warm _ (by omega)
theorem run_clear_k {P:Program} (w:World) (t e ty:TypeId) (z:Value) (k:Nat) (ht:P.underlying t=some (.slice e)) (hv:∀ w,(zeroValue e).run P w = .ok z w) (hz:z.cells.size=k) (hk:0<k) (h1:∀ u∈z.cells.toList,u.oneCell'=true) (b o n c:Nat) (hn:0<n)
  (hc:w.there b o (n*k)):∃ vs:List Value,vs.length=n*k∧(Builtin.clear_ #[t] ty #[.slice (some ⟨b,o,none⟩) n c]).run P w = .ok (.tuple #[]) (w.setCells b o vs):=by
 have hlen:(Builtin.zeroCells z.cells n).toList.length=n*k:=by rw[Array.length_toList];simp[Builtin.zeroCells,hz]
 have hone:∀ v∈(Builtin.zeroCells z.cells n).toList,v.oneCell'=true:=by
  intro v hv'
  simp only[Builtin.zeroCells,Array.toList_map,List.mem_map] at hv'
  obtain⟨j,_,rfl⟩:=hv'
  have hm:j%z.cells.size<z.cells.size:=Nat.mod_lt _ (by omega)
  rw[getElem!_pos z.cells _ hm]
  exact h1 _ (by simp)
 have hst:=run_storeCells_cells (P:=P) b o (Builtin.zeroCells z.cells n).toList 0 w (fun j hj=>(hc j (by omega)).1) (fun j hj=>(hc j (by omega)).2) hone
 simp only[Nat.add_zero] at hst
 refine⟨_,hlen,?_⟩
 obtain⟨m,rfl⟩:∃ m,n=m+1:=⟨n-1,by omega⟩
 simp[Builtin.clear_,run_underlying ht,hv,hst]
theorem inf_ky (vs:Array Value) (h:vs.size=3):(Tryz.prog.info? 123).map (·.size)=some vs.size:=by
 rw[h]
 have:=congrArg (fun o=>o.map (fun x:Option Value×Nat×Nat=>x.2.1)) info_key
 simpa [Option.map_map,Function.comp_def] using this
theorem kdel_some (w:World) (B cap n g off i0:Nat) (l:List Ky) (hn:n=l.length) (hO:OwnK w B 3 n cap (l.flatMap kyC) (some ⟨g,off,none⟩)) (hok:∀ k∈l,KyB k) (hbig:n≤1000000) (hi0:l.findIdx? conK=some i0) :
  Calls Tryz.prog 160 #[.slice (some ⟨g,off,none⟩) n cap,.func (.func 161) #[] #[]] w fun e w'=>e = .returned (.slice (some ⟨g,off,none⟩) (l.filter (fun k=>!conK k)).length cap)∧OwnK w' B 3 (l.filter (fun k=>!conK k)).length cap ((l.filter (fun k=>!conK k)).flatMap kyC) (some ⟨g,off,none⟩)∧Only w w' (· = g):=by
 obtain⟨hr,hg,hB,hfz⟩:=hO.reads
 have HI:=ħ (kidx_any w g off cap n l hn hr hg hok hbig)
 have HIV:Hid (idxI l=(i0:Int)):=ħ (by unfold idxI idxK;rw[hi0])
 rw[HIV.o] at HI
 have HIL:i0<n:=by
  rw[List.findIdx?_eq_some_iff_getElem] at hi0
  rw[hn];exact hi0.1
 have HT0:Hid (l.take i0=(l.take (i0+1)).filter (fun k=>!conK k)):=ħ (by
  rw[List.findIdx?_eq_some_iff_getElem] at hi0
  obtain⟨h1,h2,h3⟩:=hi0
  rw[List.take_add_one,List.getElem?_eq_getElem h1,List.filter_append]
  have e1:(l.take i0).filter (fun k=>!conK k)=l.take i0:=by
   rw[List.filter_eq_self]
   intro x hx
   obtain⟨j,hj⟩:=List.mem_iff_getElem?.1 hx
   rw[List.getElem?_take] at hj
   split at hj
   ·rename_i hji
    have:=h3 j hji
    rw[List.getElem?_eq_getElem (by omega)] at hj
    obtain rfl:=Option.some.inj hj
    simpa using this
   ·cases hj
  rw[e1]
  simp[h2])
 have HN:=ħ hn
 have HOK:=ħ hok
 have HO:=ħ hO
 have HF:Hid (∀ (m:Nat) (M:List Ky),M.take m=l.filter (fun k=>!conK k)→m≤M.length→(l.filter (fun k=>!conK k)).length=m):=ħ (fun m M h hm=>by rw[← h,List.length_take];omega)
 have HOnly:=ħ (Only.refl w (· = g))
 clear hr hg hB hfz hO hok hi0 hn
 have e0:IntKind.i64.wrap ((i0:Int)+1)=((i0+1:Nat):Int):=IntWalk.i64_in _ (by omega)
 have b0:((i0:Int) == -1)=false:=by rw[beq_eq_false_iff_ne];omega
 go_enter Tryz.func160,Tryz.ntmps160
 go_wp2_with fail
 refine HI.o.mono ?_
 rintro e w1 ⟨rfl,b1⟩
 have O1:=ħ (HO.o.below b1)
 have N1:=ħ (HOnly.o.step b1)
 clear b1 HI HO HOnly
 go_wp2_with fail
 go_loopw [5,6] (fun ii jj wr=>∃ (i j:Nat) (M:List Ky),ii = .int .i64 i∧jj = .int .i64 j∧i<j∧j≤n∧Hid (M.length=n)∧Hid (M.take i=(l.take j).filter (fun k=>!conK k))∧Hid (M.drop j=l.drop j)∧Hid (OwnK wr B 3 n cap (M.flatMap kyC) (some ⟨g,off,none⟩))∧Hid (Only w wr (· = g))) (fun _ j _=>(n-intOf j).toNat)
 case atStart=>exact⟨i0,i0+1,l,rfl,by go_num,by omega,by omega,ħ HN.o.symm,HT0,ħ rfl,O1,N1⟩
 case round =>
  clear O1 N1 HT0 e0 b0
  obtain⟨i,j,M,rfl,rfl,hij,hj,hM,ht,hd,ho,hon⟩:=hrel
  have e2:IntKind.i64.wrap ((i:Int)+1)=((i+1:Nat):Int):=IntWalk.i64_in _ (by omega)
  have e3:IntKind.i64.wrap ((j:Int)+1)=((j+1:Nat):Int):=IntWalk.i64_in _ (by omega)
  by_cases hlt:j<n
  ·have jj:(j:Int)<n:=by omega
   have HK:Hid (∃ k,l[j]?=some k∧M[j]?=some k):=ħ (by
    have hl:j<l.length:=by rw[← HN.o];exact hlt
    refine⟨l[j],List.getElem?_eq_getElem hl,?_⟩
    have h:=congrArg (fun x=>x[0]?) hd.o
    simp only[List.getElem?_drop,Nat.add_zero] at h
    rw[h];exact List.getElem?_eq_getElem hl)
   obtain⟨k,hk,hkM⟩:=HK.o
   have HKI:=ħ hk
   have HKM:=ħ hkM
   obtain⟨hr,hg,hB,hfz⟩:=ho.o.reads
   obtain⟨s0,s1,s2⟩:=ky_cells_at hr j k hkM
   have HC:=ħ (fun w=>const_any k w (HOK.o k (List.mem_of_getElem? hk)))
   have bx:=(Below.refl wr.heap.size wr).alloc (Nat.le_refl _) (.cells (kyC k).toArray 123)
   have ho1:=ħ (ho.o.below bx)
   have hon1:=ħ (hon.o.step bx)
   have X1:Hid (HasV (wr.alloc (.cells (kyC k).toArray 123)) wr.heap.size 123 (kyC k)):=ħ (heap_alloc_new wr _)
   clear hk HK hkM hr hg hB hfz bx ho hon
   have HKC:Hid (kyC k=[.string (strN k.l),.string (strN k.r),.int .i64 k.c]):=ħ rfl
   rw[HKC.o] at HC X1 ho1 hon1
   generalize strN k.l=t1 at *
   generalize strN k.r=t2 at *
   generalize k.c=t3 at *
   go_wp2_with fail
   generalize wr.alloc (.cells #[.string t1,.string t2,.int .i64 t3] 123)=wx at *
   clear s0 s1 s2
   refine (HC.o wx).mono ?_
   rintro e w3 ⟨rfl,b3⟩
   have ho3:=ħ (ho1.o.below b3)
   have hon3:=ħ (hon1.o.step b3)
   have X3:=ħ (X1.o.step b3)
   clear b3 ho1 hon1 X1
   cases hq:conK k with
   | true =>
    have HFT:Hid ((l.take (j+1)).filter (fun k=>!conK k)=(l.take j).filter (fun k=>!conK k)):=ħ (by
     rw[List.take_add_one,HKI.o,List.filter_append];simp[hq])
    clear hq
    go_wp2
    go_roundw
    case rel=>exact⟨i,j+1,M,rfl,by go_num,by omega,by omega,hM,ħ (by rw[HFT.o];exact ht.o),ħ (by
     have:=congrArg (fun x=>x.drop 1) hd.o
     simpa [List.drop_drop] using this),ho3,hon3⟩
    case measure=>simp only[intOf];omega
   | false =>
    have HFT:Hid ((l.take (j+1)).filter (fun k=>!conK k)=(l.take j).filter (fun k=>!conK k)++[k]):=ħ (by
     rw[List.take_add_one,HKI.o,List.filter_append];simp[hq])
    clear hq
    obtain⟨hr,hg,hB,hfz⟩:=ho3.o.reads
    have hcapn:n≤cap:=ho3.o.len_le.1
    have ii:(i:Int)<n:=by omega
    have hil:i<M.length:=by rw[hM.o];omega
    obtain⟨S1,S2,S3⟩:=OwnK.store kyC 3 (fun _=>rfl) ho3.o i hil k
    have HS1:=ħ S1
    have HS2:=ħ (hon3.o.trans S2)
    have HS3:=ħ S3
    have x0:=X3.o.cell 0 _ rfl
    have x1:=X3.o.cell 1 _ rfl
    have x2:=X3.o.cell 2 _ rfl
    rw[HKC.o] at HS1 HS2
    clear hr hg hB hfz S1 S2 S3 hil
    go_wp2_with (refine wpList_store_mid rfl 123 (.tmp 33) (.tmp 32) rfl g (off+i*3) #[.string t1,.string t2,.int .i64 t3] rfl rfl HS3.o (inf_ky _ rfl) (by simp[Value.oneCell']) ?_)
    go_roundw
    case rel=>exact⟨i+1,j+1,M.set i k,by go_num,by go_num,by omega,by omega,ħ (by rw[List.length_set];exact hM.o),ħ (by
     rw[HFT.o,← ht.o,List.take_add_one,List.take_set_of_le (Nat.le_refl _),List.getElem?_set_self (by rw[hM.o];omega)];rfl),ħ (by
     have:=congrArg (fun x=>x.drop 1) hd.o
     rw[List.drop_set_of_lt (by omega)]
     simpa [List.drop_drop] using this),HS1,HS2⟩
    case measure=>simp only[intOf];omega
  ·have jj:¬ ((j:Int)<n):=by omega
   have HJ:Hid (M.take i=l.filter (fun k=>!conK k)):=ħ (by rw[ht.o,show j=l.length by rw[← HN.o];omega,List.take_length])
   have HLEN:=ħ (HF.o i M HJ.o (by rw[hM.o];omega))
   have hcapn:n≤cap:=ho.o.len_le.1
   have hcapm:cap≤maxLen:=ho.o.len_le.2
   have hcut:=OwnK.cut kyC 3 (fun _=>rfl) ho.o i (by omega) hM.o
   obtain⟨vs,hvl,hrun⟩:=run_clear_k wr 120 123 0 keyZ 3 Tryz.underlying120 Tryz.zeroValue123 rfl (by omega) (fun u hu=>by simp[keyZ,Value.cells] at hu;rcases hu with rfl | rfl | rfl<;>rfl) g (off+i*3) (n-i) (cap-i) (by omega) ((hcut (List.replicate ((n-i)*3) undef) (by simp)).2.2)
   obtain⟨C1,C2,-⟩:=hcut vs hvl
   have HC1:=ħ C1
   have HC2:=ħ (hon.o.trans C2)
   clear hcut C1 C2 hvl
   go_wp2
   go_ret
   rw[HLEN.o]
   refine⟨rfl,?_,HC2.o⟩
   have:=HC1.o
   rwa [HJ.o] at this
theorem kdel_any (w:World) (B cap:Nat) (ao:Option Addr) (l:List Ky) (hO:OwnK w B 3 l.length cap (l.flatMap kyC) ao) (hok:∀ k∈l,KyB k) (hbig:l.length≤1000000) :
  Calls Tryz.prog 160 #[.slice ao l.length cap,.func (.func 161) #[] #[]] w fun e w'=>e = .returned (.slice ao (l.filter (fun k=>!conK k)).length cap)∧OwnK w' B 3 (l.filter (fun k=>!conK k)).length cap ((l.filter (fun k=>!conK k)).flatMap kyC) ao∧Only w w' (fun g=>blk ao=some g):=by
 cases ao with
 | none =>
  have hz:l=[]:=by
   cases hO with
   | nil h hn hc=>exact List.eq_nil_of_length_eq_zero hn
  subst hz
  have HO:=ħ hO
  clear hO hok hbig
  have HI:=ħ (kidx_none w cap (.func (.func 161) #[] #[]))
  simp only[List.length_nil,List.filter_nil,List.flatMap_nil]
  go_enter Tryz.func160,Tryz.ntmps160
  go_wp2_with fail
  refine HI.o.mono ?_
  rintro e w1 ⟨rfl,rfl⟩
  go_wp2
  go_ret
  exact⟨rfl,HO.o,Only.refl _ _⟩
 | some a =>
  obtain⟨g,off,si⟩:=a
  have hsi:si=none:=by cases hO;rfl
  subst hsi
  cases hi:l.findIdx? conK with
  | some i0 =>
   refine (kdel_some w B cap l.length g off i0 l rfl hO hok hbig hi).mono ?_
   rintro e w' ⟨h1,h2,h3⟩
   exact⟨h1,h2,h3.mono (fun x _ hx=>by rw[hx];rfl)⟩
  | none =>
   have hf:l.filter (fun k=>!conK k)=l:=by
    rw[List.filter_eq_self]
    intro x hx
    rw[List.findIdx?_eq_none_iff] at hi
    simp[hi x hx]
   rw[hf]
   obtain⟨hr,hg,-,-⟩:=hO.reads
   have HI:=ħ (kidx_any w g off cap l.length l rfl hr hg hok hbig)
   have HIV:Hid (idxI l = -1):=ħ (by unfold idxI idxK;rw[hi])
   rw[HIV.o] at HI
   have HO:=ħ hO
   clear hO hok hbig hr hg hi hf
   generalize l.length=n at *
   go_enter Tryz.func160,Tryz.ntmps160
   go_wp2_with fail
   refine HI.o.mono ?_
   rintro e w1 ⟨rfl,b1⟩
   have O1:=ħ (HO.o.below b1)
   have N1:=ħ (Only.of_below (p:=fun x=>blk (some (⟨g,off,none⟩:Addr))=some x) b1)
   clear b1
   go_wp2
   go_ret
   exact⟨rfl,O1.o,N1.o⟩
theorem proper_any (w:World) (P:Nat→Prop) (p:Prd) (vs:List Value) (h:PredC w P p vs) (hf:formP p=true) (hc:cntP p≤1000000) :
  Calls Tryz.prog 93 #[.agg vs.toArray] w fun e w'=>∃ (ao:Option Addr) (cap:Nat),e = .returned (.slice ao (properP p).length cap)∧OwnK w' w.heap.size 3 (properP p).length cap ((properP p).flatMap kyC) ao∧Below w.heap.size w w':=by
 obtain⟨a,n,c,rfl,-⟩:=h.form
 have h2:=h.mono (P':=fun g=>g<w.heap.size) (fun g _ hl=>hl)
 have b1:=(Below.refl w.heap.size w).alloc (Nat.le_refl _) (.cells #[.int .i64 p.k,.string (strN p.l),.string (strN p.r),.int .i64 p.c,.slice a n c] 25)
 have HA:=ħ (fun (w':World) hp=>atoms_any w' (fun g=>g<w.heap.size) p [.int .i64 p.k,.string (strN p.l),.string (strN p.r),.int .i64 p.c,.slice a n c] hp hf hc)
 have PX:=ħ (h2.below b1)
 have X0:Hid (HasV (w.alloc (.cells #[.int .i64 p.k,.string (strN p.l),.string (strN p.r),.int .i64 p.c,.slice a n c] 25)) w.heap.size 25 [.int .i64 p.k,.string (strN p.l),.string (strN p.r),.int .i64 p.c,.slice a n c]):=ħ (heap_alloc_new _ _)
 have BX:=ħ b1
 have HKB:=ħ (fun k (hk:k∈atomsP p)=>(form_keys p hf k ((atomsP_mem p k).1 hk)).bytes)
 have HLN:Hid ((atomsP p).length≤1000000):=ħ (by
  have hnd:(atomsP p).Nodup:=(atomsP_asc p).imp (fun {a b} hab e=>by rw[e,ltK_irrefl] at hab;cases hab)
  have:=nodup_len _ _ hnd (fun x hx=>(atomsP_mem p x).1 hx)
  have:=keysP_len p
  omega)
 clear h h2 b1 hf hc
 generalize p.k=q0 at *
 generalize strN p.l=q1 at *
 generalize strN p.r=q2 at *
 generalize p.c=q3 at *
 unfold properP
 go_enter Tryz.func93,Tryz.ntmps93
 go_wp2_with (refine wpList_load_row rfl 25 (.tmp 1) rfl w.heap.size ?x1 25 (rawC q0 q1 q2 q3 a n c).toArray (0,0) _ X0.o Tryz.underlying25 rfl (inf_pred _ rfl) ?_;(case x1=>rfl))
 refine (HA.o _ PX.o).mono ?_
 rintro e w2 ⟨ao,cap,rfl,ho,hb⟩
 have HO:=ħ (ho.lower (B':=w.heap.size) BX.o.size)
 have B2:=ħ (BX.o.trans (hb.mono BX.o.size))
 have HD:=ħ (kdel_any w2 w.heap.size cap ao (atomsP p) HO.o HKB.o HLN.o)
 clear ho hb
 go_wp2_with fail
 refine HD.o.mono ?_
 rintro e w3 ⟨rfl,ho3,on3⟩
 have HO3:=ħ ho3
 have B3:=ħ (Only.later B2.o on3 (fun g hg=>(HO.o.blk_lt hg).1))
 clear ho3 on3
 go_wp2
 go_ret
 exact⟨ao,cap,rfl,HO3.o,B3.o⟩
end
section
open Go.RowKit Go.Sort
def cmpKL:List Ky→List Ky→Int
 | [],[]=>0
 | [],_::_=>-1
 | _::_,[]=>1
 | a::l,b::m=>if cmpK a b≠0 then cmpK a b else cmpKL l m
def KeysR (w:World) (ao:Option Addr) (l:List Ky):Prop:=l=[]∨∃ g off,ao=some ⟨g,off,none⟩∧g<w.heap.size∧Reads w g off (l.flatMap kyC)
theorem KeysR.below {w w':World} {ao:Option Addr} {l:List Ky} (h:KeysR w ao l) (hb:Below w.heap.size w w'):KeysR w' ao l:=by
 rcases h with h | ⟨g,off,h1,h2,h3⟩
 ·exact .inl h
 ·exact .inr ⟨g,off,h1,Nat.lt_of_lt_of_le h2 hb.size,h3.of_block (hb.block g h2)⟩
theorem KeysR.at {w:World} {ao:Option Addr} {l:List Ky} (h:KeysR w ao l) (i:Nat) (k:Ky) (hk:l[i]?=some k):∃ g off,ao=some ⟨g,off,none⟩∧g<w.heap.size ∧
  w.cell? ⟨g,off+i*3,none⟩=some (.string (strN k.l))∧w.cell? ⟨g,off+i*3+1,none⟩=some (.string (strN k.r))∧w.cell? ⟨g,off+i*3+2,none⟩=some (.int .i64 k.c):=by
 rcases h with h | ⟨g,off,h1,h2,h3⟩
 ·rw[h] at hk;simp at hk
 ·exact⟨g,off,h1,h2,ky_cells_at h3 i k hk⟩
theorem OwnK.keysR {w:World} {B n cap:Nat} {ao:Option Addr} {l:List Ky} (h:OwnK w B 3 n cap (l.flatMap kyC) ao) (hn:n=l.length):KeysR w ao l:=by
 cases h with
 | nil h h1 h2=>exact .inl (List.eq_nil_of_length_eq_zero (by omega))
 | «at» g off h h1 h2 h3=>exact .inr ⟨g,off,rfl,h.lt,h.cells⟩
theorem below_grown {w:World} {q:Nat} {os:Array Obj}:Below w.heap.size w (grow (w.drewN q) os):=⟨rfl,rfl,rfl,by rw[size_grow];exact Nat.le_add_right _ _,fun k hk=>heap_grow_old _ _ hk⟩
def Grew (w w':World):Prop:=∃ q os,w'=grow (w.drewN q) os
theorem Grew.refl (w:World):Grew w w:=⟨0,#[],by rw[grow_empty];rfl⟩
theorem Grew.trans {a b c:World} (h:Grew a b) (h':Grew b c):Grew a c:=by
 obtain⟨q,os,rfl⟩:=h
 obtain⟨q',os',rfl⟩:=h'
 refine⟨q+q',os++os',?_⟩
 rw[← grow_grow]
 congr 1
 show World.drewN (grow (w:=_) os) q'=_
 simp[World.drewN,grow,Nat.add_assoc]
theorem Grew.alloc {a b:World} (h:Grew a b) (o:Obj):Grew a (b.alloc o):=h.trans ⟨0,#[o],by rw[alloc_eq_grow];rfl⟩
theorem Grew.below {w w':World} (h:Grew w w'):Below w.heap.size w w':=by
 obtain⟨q,os,rfl⟩:=h
 exact below_grown
theorem kcmp_b (a b:Ky) (w:World) (ha:KyB a) (hb:KyB b) :
  Calls Tryz.prog 159 #[.agg (kyC a).toArray,.agg (kyC b).toArray] w fun e w'=>e = .returned (.int .i64 (cmpK a b))∧Grew w w' :=
 (kcmp_any a b w ha hb).mono (by rintro e w' ⟨h,q,os,rfl⟩;exact⟨h,q,os,rfl⟩)
theorem drop_cons_get {α:Type} (l:List α) (i:Nat) (x:α) (h:l[i]?=some x):l.drop i=x::l.drop (i+1):=by
 obtain⟨hi,rfl⟩:=List.getElem?_eq_some_iff.1 h
 exact List.drop_eq_getElem_cons hi
theorem kcmpl_any (w:World) (ao1 ao2:Option Addr) (n1 n2 c1 c2:Nat) (l1 l2:List Ky) (hn1:n1=l1.length) (hn2:n2=l2.length) (h1:KeysR w ao1 l1) (h2:KeysR w ao2 l2) (hb1:∀ k∈l1,KyB k) (hb2:∀ k∈l2,KyB k) (hbig1:n1≤1000000) (hbig2:n2≤1000000) :
  Calls Tryz.prog 229 #[.slice ao1 n1 c1,.slice ao2 n2 c2,.func (.func 159) #[] #[]] w fun e w'=>e = .returned (.int .i64 (cmpKL l1 l2))∧Grew w w':=by
 have H1:=ħ h1
 have H2:=ħ h2
 have HN1:=ħ hn1
 have HN2:=ħ hn2
 have HB1:=ħ hb1
 have HB2:=ħ hb2
 obtain⟨V,hV⟩:∃ V,cmpKL l1 l2=V:=⟨_,rfl⟩
 have HV:=ħ hV
 rw[hV]
 clear h1 h2 hn1 hn2 hb1 hb2 hV
 have B0:=ħ (Grew.refl w)
 go_enter Tryz.func229,Tryz.ntmps229
 go_wp2_with fail
 go_loopw [13] (fun cc wr=>∃ (i:Nat),cc = .int .i64 i∧i≤n1∧i≤n2∧Hid (cmpKL (l1.drop i) (l2.drop i)=V)∧Hid (Grew w wr)) (fun c _=>(n1-intOf c).toNat)
 case atStart=>exact⟨0,rfl,by omega,by omega,HV,B0⟩
 case round =>
  clear B0 HV
  obtain⟨i,rfl,hi1,hi2,hv,hw⟩:=hrel
  have e2:IntKind.i64.wrap ((i:Int)+1)=((i+1:Nat):Int):=IntWalk.i64_in _ (by omega)
  by_cases hlt:i<n1
  ·have ii:(i:Int)<n1:=by omega
   have HK1:Hid (∃ k,l1[i]?=some k):=ħ (by rw[HN1.o] at hlt;exact⟨l1[i],List.getElem?_eq_getElem hlt⟩)
   obtain⟨k1,hk1⟩:=HK1.o
   have HKI1:=ħ hk1
   obtain⟨g1,off1,hao1,hg1,s0,s1,s2⟩:=(H1.o.below hw.o.below).at i k1 hk1
   have HG1:=ħ hao1
   by_cases hlt2:i<n2
   ·have jj:¬ (n2:Int)≤(i:Int):=by omega
    have jl:(i:Int)<n2:=by omega
    have HK2:Hid (∃ k,l2[i]?=some k):=ħ (by rw[HN2.o] at hlt2;exact⟨l2[i],List.getElem?_eq_getElem hlt2⟩)
    obtain⟨k2,hk2⟩:=HK2.o
    have HKI2:=ħ hk2
    have A1:=(Below.refl wr.heap.size wr).alloc (Nat.le_refl _) (.cells (kyC k1).toArray 123)
    have A2:=A1.alloc (by simp) (.cells (kyC k2).toArray 123)
    obtain⟨g2,off2,hao2,hg2,t0,t1,t2⟩:=((H2.o.below hw.o.below).below A1).at i k2 hk2
    have HG2:=ħ hao2
    have B2:=ħ ((hw.o.alloc (.cells (kyC k1).toArray 123)).alloc (.cells (kyC k2).toArray 123))
    have HC:=ħ (fun w=>kcmp_b k1 k2 w (HB1.o k1 (List.mem_of_getElem? hk1)) (HB2.o k2 (List.mem_of_getElem? hk2)))
    have HVV:Hid (V=if cmpK k1 k2≠0 then cmpK k1 k2 else cmpKL (l1.drop (i+1)) (l2.drop (i+1))):=ħ (by
     rw[← hv.o,drop_cons_get l1 i k1 hk1,drop_cons_get l2 i k2 hk2,cmpKL])
    subst hao1
    subst hao2
    clear hk1 hk2 HK1 HK2 A1 A2 hg1 hg2 hv
    generalize cmpK k1 k2=x at *
    unfold kyC at *
    generalize strN k1.l=a1 at *
    generalize strN k1.r=a2 at *
    generalize k1.c=a3 at *
    generalize strN k2.l=b1 at *
    generalize strN k2.r=b2 at *
    generalize k2.c=b3 at *
    go_wp2_with fail
    refine (HC.o _).mono ?_
    rintro e w3 ⟨rfl,b3'⟩
    have B3:=ħ (B2.o.trans b3')
    clear b3' s0 s1 s2 t0 t1 t2
    by_cases hx:x=0
    ·have xb:(x != 0)=false:=by rw[hx];rfl
     have HW:Hid (cmpKL (l1.drop (i+1)) (l2.drop (i+1))=V):=ħ (by rw[HVV.o,if_neg (by simp[hx])])
     clear hx
     go_wp2
     go_roundw
     case rel=>exact⟨i+1,by go_num,by omega,by omega,HW,B3⟩
     case measure=>simp only[intOf];omega
    ·have xb:(x != 0)=true:=by rw[bne_iff_ne];exact hx
     have HW:Hid (V=x):=ħ (by rw[HVV.o,if_pos hx])
     clear hx
     go_wp2
     go_ret
     exact⟨ret_int HW.o.symm,B3.o⟩
   ·have jj:(n2:Int)≤(i:Int):=by omega
    have HW:Hid (V=1):=ħ (by
     have h2:l2.drop i=[]:=List.drop_eq_nil_of_le (by rw[← HN2.o];omega)
     rw[← hv.o,drop_cons_get l1 i k1 hk1,h2];rfl)
    have A1:=(Below.refl wr.heap.size wr).alloc (Nat.le_refl _) (.cells (kyC k1).toArray 123)
    have B2:=ħ (hw.o.alloc (.cells (kyC k1).toArray 123))
    subst hao1
    clear hk1 HK1 A1 hg1 hv
    unfold kyC at *
    generalize strN k1.l=a1 at *
    generalize strN k1.r=a2 at *
    generalize k1.c=a3 at *
    go_wp2
    go_ret
    exact⟨ret_int HW.o.symm,B2.o⟩
  ·have ii:¬ ((i:Int)<n1):=by omega
   have hd1:l1.drop i=[]:=List.drop_eq_nil_of_le (by rw[← HN1.o];omega)
   by_cases hlt2:n1<n2
   ·have jj:(n1:Int)<n2:=by omega
    have HW:Hid (V = -1):=ħ (by
     have hl:i<l2.length:=by rw[← HN2.o];omega
     rw[← hv.o,hd1,drop_cons_get l2 i _ (List.getElem?_eq_getElem hl)];rfl)
    clear hd1
    go_wp2
    go_ret
    exact⟨ret_int HW.o.symm,hw.o⟩
   ·have jj:¬ ((n1:Int)<n2):=by omega
    have HW:Hid (V=0):=ħ (by
     have h2:l2.drop i=[]:=List.drop_eq_nil_of_le (by rw[← HN2.o];omega)
     rw[← hv.o,hd1,h2];rfl)
    clear hd1
    go_wp2
    go_ret
    exact⟨ret_int HW.o.symm,hw.o⟩
theorem clau2_any (w:World) (ao1 ao2:Option Addr) (n1 n2 c1 c2:Nat) (l1 l2:List Ky) (hn1:n1=l1.length) (hn2:n2=l2.length) (h1:KeysR w ao1 l1) (h2:KeysR w ao2 l2) (hb1:∀ k∈l1,KyB k) (hb2:∀ k∈l2,KyB k) (hbig1:n1≤1000000) (hbig2:n2≤1000000) :
  Calls Tryz.prog 228 #[.slice ao1 n1 c1,.slice ao2 n2 c2] w fun e w'=>e = .returned (.int .i64 (cmpKL l1 l2))∧Grew w w':=by
 have HC:=ħ (kcmpl_any w ao1 ao2 n1 n2 c1 c2 l1 l2 hn1 hn2 h1 h2 hb1 hb2 hbig1 hbig2)
 clear hn1 hn2 h1 h2 hb1 hb2 hbig1 hbig2
 go_enter Tryz.func228,Tryz.ntmps228
 go_wp2_with fail
 refine HC.o.mono ?_
 rintro e w3 ⟨rfl,b3⟩
 have B3:=ħ b3
 clear b3
 go_wp2
 go_ret
 exact⟨rfl,B3.o⟩
end
end Go.Proofs.YtmkdfbelbcocpaaGreatDoor
