import Derived.Laws.Tables
import Derived.Laws.ResultCell
import Derived.Test.YtmkdfbelbcocpaaGreatDoorCD5
set_option linter.unusedVariables false
set_option linter.unusedSimpArgs false
set_option maxHeartbeats 4000000
set_option maxRecDepth 100000
namespace Go.Proofs.YtmkdfbelbcocpaaGreatDoor
section
open Go.RowKit
structure Upd (w w':World) (g:Nat):Prop where
 os:w'.os=w.os
 tape:w'.tape=w.tape
 output:w'.output=w.output
 size:w'.heap.size=w.heap.size
 block:∀ k,k≠g→w'.heap[k]?=w.heap[k]?
theorem Zjy (w:World) (g:Nat) (cs:Array Value) (k:Nat) (h:k≠g):(w.setRow g cs).heap[k]?=w.heap[k]?:=by
 unfold World.setRow
 simp only[Array.getElem?_modify]
 rw[if_neg (fun e=>h e.symm)]
theorem Zw4 (w:World) (g:Nat) (cs:Array Value):Upd w (w.setRow g cs) g:=⟨rfl,rfl,rfl,by simp,fun k hk=>Zjy w g cs k hk⟩
theorem Upd.below {B g:Nat} {a w w':World} (hu:Upd w w' g) (h:Below B a w) (hg:B≤g):Below B a w' :=
 h.trans ⟨hu.os,hu.tape,hu.output,by rw[hu.size];exact Nat.le_refl _,fun k hk=>hu.block k (by omega)⟩
theorem Upd.only {w w':World} {g:Nat} {p:Nat→Prop} (hu:Upd w w' g) (hg:p g):Only w w' p :=
 ⟨hu.os,hu.tape,hu.output,by rw[hu.size];exact Nat.le_refl _,fun k _ hk=>hu.block k (fun e=>hk (e ▸ hg))⟩
theorem Zab {P:Program} {ops:Array Oper} {rest:List Oper} {o:Oper} {a:Act} {w:World} {Q:Exit→Act→World→Prop} (hgd:o.guard=none) (ty:TypeId) (x y:Operand) (ho:o.op = .store ty x y)
  (g:Nat) (cells:Array Value) (hx:a.eval x = .pointer (some ⟨g,0,none⟩)) (hy:a.eval y = .agg cells)
  (t:TypeId) (old:Array Value) (hg:w.heap[g]?=some (.cells old t (0,0))) (hi:(P.info? ty).map (·.size)=some cells.size)
  (hold:old.size=cells.size) (h1:cells.all (·.oneCell')=true)
  (h:∀ W',W'.heap[g]?=some (.cells cells t (0,0))→Upd w W' g→wpList P ops Q rest (a.put o.dst undef) W'):wpList P ops Q (o::rest) a w :=
 wpList_store_row hgd ty x y ho g cells hx hy t old hg hi hold h1 (h _ (setRow_heap w g _ _ t _ hg) (Zw4 w g cells))
theorem Zjz {P:Program} (w:World) (g off:Nat) (ty:TypeId) (vs:List Value) (d:TypeDesc) (hc:Za3 w g off vs)
  (hu:P.underlying ty=some d) (hd:(match d with | .struct _ | .array _ _=>true | _=>false)=true) (hi:(P.info? ty).map (·.size)=some vs.length) :
  (loadVar ty ⟨g,off,none⟩).run P w = .ok (.agg vs.toArray) w:=by
 have hl:(loadCells ⟨g,off,none⟩ vs.length).run P w = .ok vs.toArray w :=
  run_loadCells_list (P:=P) w ⟨g,off,none⟩ vs (fun j v hv=>by
   have hadd:(⟨g,off,none⟩:Addr).add j=⟨g,off+j,none⟩:=by unfold Addr.add;split<;>simp_all
   rw[hadd];exact hc j v hv)
 cases hq:P.info? ty with
 | none=>simp[hq] at hi
 | some i =>
  have hs:i.size=vs.length:=by simpa [hq] using hi
  have hagg:(isAgg ty).run P w = .ok true w:=by
   unfold isAgg
   rw[Sem.run_bind,run_underlying hu w]
   cases d<;>simp_all
  simp[loadVar,Sem.run_bind,hagg,sizeOf,typeInfo,hq,hs,hl]
theorem Zcu {P:Program} {ops:Array Oper} {rest:List Oper} {o:Oper} {a:Act} {w:World} {Q:Exit→Act→World→Prop} (hgd:o.guard=none) (ty:TypeId) (x:Operand) (ho:o.op = .load ty x)
  (g off:Nat) (hx:a.eval x = .pointer (some ⟨g,off,none⟩)) (vs:List Value) (d:TypeDesc) (hc:Za3 w g off vs)
  (hu:P.underlying ty=some d) (hd:(match d with | .struct _ | .array _ _=>true | _=>false)=true) (hi:(P.info? ty).map (·.size)=some vs.length)
  (h:wpList P ops Q rest (a.put o.dst (.agg vs.toArray)) w):wpList P ops Q (o::rest) a w :=
 wpList_plain hgd fun _ hK=>by
  unfold Oper.wp execOp
  simp only[ho,hx,Instr.loadAt,Instr.sureAddr,Sem.run_bind,Sem.run_pure,Result.andThen_ok,Zjz w g off ty vs d hc hu hd hi]
  exact hK _ _ h
theorem Zal {P:Program} {fn:Func} {p u v:Tmp} {ty:TypeId} (h:fn.results=#[.cell p ty,.tmp u,.tmp v]) (tmps:Array Value) (w:World) (g:Nat) (t:TypeId) (cs:Array Value) (fr:Nat×Nat) (d:TypeDesc)
  (hp:tmps.getD p undef = .pointer (some ⟨g,0,none⟩)) (hg:w.heap[g]?=some (.cells cs t fr))
  (hu:P.underlying ty=some d) (hd:(match d with | .struct _ | .array _ _=>true | _=>false)=true) (hi:(P.info? ty).map (·.size)=some cs.size) :
  (results fn tmps).run P w = .ok (.tuple #[.agg cs,tmps.getD u undef,tmps.getD v undef]) w:=by
 have hp':tmps[p]?.getD undef = .pointer (some ⟨g,0,none⟩):=by simpa using hp
 simp[results,h,hp',asAddr,run_loadVar_row w g t ty cs fr d hg hu hd hi]
theorem Zay (t:Tok):(Tryz.prog.info? 169).map (·.size)=some (Zbw t).toArray.size:=by
 show _=some 4
 kernel_rfl
theorem Zbe (t:Tok):(Zbw t).toArray.all (·.oneCell')=true:=by simp[Zbw,Value.oneCell']
def Zfk:Tok:=⟨0,[],0,0⟩
def Zmx (r:Except Int (Tok×Nat)):Value:=match r with
 | .ok r=>.tuple #[.agg (Zbw r.1).toArray,.int .i64 (r.2:Nat),.int .i64 0]
 | .error e=>.tuple #[.agg (Zbw Zfk).toArray,.int .i64 0,.int .i64 e]
structure Tab (w:World) (B:Nat):Prop where
 signs:Za3 w 1 0 (Zev.map (fun s=>Value.string (Zad s)))
 res:∃ g off cap,g<B∧w.cell? ⟨0,0,none⟩=some (.slice (some ⟨g,off,none⟩) 8 cap)∧Za3 w g off (Znn.map (fun s=>Value.string (Zad s)))
 maxl:∃ m:Int,w.cell? ⟨2,0,none⟩=some (.int .i64 m)
 low:6≤B
 size:B≤w.heap.size
theorem Tab.keep {w w':World} {B:Nat} (h:Tab w B) (hb:∀ k,k<B→w'.heap[k]?=w.heap[k]?) (hs:w.heap.size≤w'.heap.size):Tab w' B:=by
 have hl:=h.low
 obtain⟨g,off,cap,hg,hc,hr⟩:=h.res
 obtain⟨m,hm⟩:=h.maxl
 refine⟨h.signs.of_block (hb _ (by omega)),⟨g,off,cap,hg,?_,hr.of_block (hb g hg)⟩,⟨m,?_⟩,hl,Nat.le_trans h.size hs⟩
 ·rw[World.cell?_of_block (w:=w) (a:=⟨0,0,none⟩) (hb _ (by show 0<B;omega))];exact hc
 ·rw[World.cell?_of_block (w:=w) (a:=⟨2,0,none⟩) (hb _ (by show 2<B;omega))];exact hm
theorem Tab.below {w w':World} {B C:Nat} (h:Tab w B) (hb:Below C w w') (hC:B≤C):Tab w' B:=h.keep (fun k hk=>hb.block k (by omega)) hb.size
theorem Tab.step {w w':World} {B:Nat} (h:Tab w B) (hb:Below w.heap.size w w'):Tab w' B:=h.below hb h.size
theorem Tab.only {w w':World} {B:Nat} {p:Nat→Prop} (h:Tab w B) (hb:Only w w' p) (hp:∀ k,p k→B≤k):Tab w' B :=
 h.keep (fun k hk=>hb.block k (Nat.lt_of_lt_of_le hk h.size) (fun hh=>by have:=hp k hh;omega)) hb.size
theorem Tab.alloc {w:World} {B:Nat} (h:Tab w B) (o:Obj):Tab (w.alloc o) B:=h.step ((Below.refl _ _).alloc (Nat.le_refl _) o)
theorem Zd6 (a b:List Nat) (ha:∀ y∈a,y<256) (hb:∀ y∈b,y<256):((Zad a).toList==(Zad b).toList)=(a==b):=by
 rw[Zb6,Zb6,Bool.eq_iff_iff,beq_iff_eq,beq_iff_eq]
 exact⟨fun h=>Zd3 a b ha hb h,fun h=>by rw[h]⟩
theorem Ztm (p l:List Nat) (h:p.length≤l.length):(l.take p.length==p)=p.isPrefixOf l:=by
 rw[Bool.eq_iff_iff,beq_iff_eq,List.isPrefixOf_iff_prefix,List.prefix_iff_eq_take]
 exact⟨fun h=>h.symm,fun h=>h.symm⟩
theorem Ztn (p l:List Nat) (h:¬ p.length≤l.length):p.isPrefixOf l=false:=by
 rw[Bool.eq_false_iff]
 intro e
 exact h (List.isPrefixOf_iff_prefix.1 e).length_le
theorem Zto (l p:List Nat) (w:World) (hb:∀ y∈l,y<256) (hp:∀ y∈p,y<256) :
  Calls Tryz.prog 243 #[.string (Zad l),.string (Zad p)] w fun e w'=>e = .returned (.bool (p.isPrefixOf l))∧w=w':=by
 have S1:=Zaq l
 have S2:=Zaq p
 by_cases hle:p.length≤l.length
 ·have i1:(p.length:Int)≤l.length:=by omega
  have hs:=fun w=>Zpr l p.length hle w
  have he:=ħ ((Zd6 (l.take p.length) p (fun y hy=>hb y (List.mem_of_mem_take hy)) hp).trans (Ztm p l hle))
  generalize Zad l=t at *
  generalize Zad p=q at *
  go_enter Tryz.func243,Tryz.ntmps243
  go_wp2
  go_ret
  exact⟨Zag he.o,rfl⟩
 ·have i1:¬ ((p.length:Int)≤l.length):=by omega
  generalize Zad l=t at *
  generalize Zad p=q at *
  go_enter Tryz.func243,Tryz.ntmps243
  go_wp2
  go_ret
  exact⟨Zag (Ztn p l hle).symm,rfl⟩
theorem Zw5 (l p:List Nat) (w:World) (hb:∀ y∈l,y<256) (hp:∀ y∈p,y<256) :
  Calls Tryz.prog 202 #[.string (Zad l),.string (Zad p)] w fun e w'=>e = .returned (.bool (p.isPrefixOf l))∧w=w':=by
 have H:=ħ (fun w=>Zto l p w hb hp)
 clear hb hp
 go_enter Tryz.func202,Tryz.ntmps202
 go_wp2_with fail
 refine (H.o _).mono ?_
 rintro e w' ⟨rfl,rfl⟩
 go_wp2
 go_ret
 exact⟨rfl,rfl⟩
end
section
open Go.RowKit
def Zgj (w:World) (g:Nat) (t:Tok):Prop:=w.heap[g]?=some (.cells (Zbw t).toArray 169 (0,0))
theorem Zgj.new (w:World) (t:Tok):Zgj (w.alloc (.cells (Zbw t).toArray 169)) w.heap.size t:=heap_alloc_new w _
theorem Zgj.below {w w':World} {g:Nat} {t:Tok} (h:Zgj w g t) (hb:Below w.heap.size w w') (hg:g<w.heap.size):Zgj w' g t:=by
 unfold Zgj;rw[hb.block g hg];exact h
theorem Zw6 {l:List Nat} (h:Zoq (l.getD 0 0)=true):Zdt l=if Zek (l.take (Zax Zia l))=true then .ok (⟨0,l.take (Zax Zia l),0,0⟩,Zax Zia l) else .error 3:=by unfold Zdt;rw[if_pos h]
theorem Z1c {l:List Nat} (h:Zoq (l.getD 0 0)=false) (h1:Zd7 (l.getD 0 0)=true):Zdt l=if Zeu (l.take (Zax Zd7 l))=true then .ok (⟨1,l.take (Zax Zd7 l),Zkg (l.take (Zax Zd7 l)),0⟩,Zax Zd7 l) else .error 3:=by
 unfold Zdt;rw[if_neg (by rw[h];simp),if_pos h1]
theorem Z1d {l:List Nat} (h:Zoq (l.getD 0 0)=false) (h1:Zd7 (l.getD 0 0)=false) (h2:l.getD 0 0=34):Zdt l=match Zyh l with
  | some r=>.ok (⟨2,r.1,0,0⟩,r.2)
  | none=>.error 2:=by
 unfold Zdt Zyh;rw[if_neg (by rw[h];simp),if_neg (by rw[h1];simp),if_pos h2]
 cases Zhy l.tail with
 | none=>rfl
 | some r =>
  simp only[Option.bind_some]
  by_cases h:r.1.length≤400
  ·rw[if_pos h,if_pos h]
  ·rw[if_neg h,if_neg h]
theorem Z1e {l:List Nat} (h:Zoq (l.getD 0 0)=false) (h1:Zd7 (l.getD 0 0)=false) (h2:l.getD 0 0≠34):Zdt l=if Zsa l=0 then .error 10 else .ok (⟨3,l.take (Zsa l),0,0⟩,Zsa l):=by
 unfold Zdt;rw[if_neg (by rw[h];simp),if_neg (by rw[h1];simp),if_neg h2]
theorem Z4u {l:List Nat} {r:List Nat×Nat} (h:Zyh l=some r):Z08 l=r.2∧Z4t l=r.1∧1≤r.2:=by
 refine⟨by unfold Z08;rw[h],by unfold Z4t;rw[h],?_⟩
 unfold Zyh at h
 cases hq:Zhy l.tail with
 | none=>rw[hq] at h;cases h
 | some q =>
  rw[hq] at h
  simp only[Option.bind_some] at h
  split at h
  ·cases h;simp
  ·cases h
theorem Z7c {l:List Nat} (h:Zyh l=none):Z08 l=0:=by unfold Z08;rw[h]
theorem Zkd (p:Nat→Bool) (l:List Nat):(l.take (Zax p l)).length=Zax p l:=by
 rw[List.length_take];have:=Zgc p l;omega
theorem Z1f (l:List Nat) (w:World) (h0:0<l.length) (hl:l.length≤1000000) (hb:∀ y∈l,y<256) (hlet:Zoq (l.getD 0 0)=true) :
  Calls Tryz.prog 134 #[.string (Zad l)] w fun e w'=>e = .returned (Zmx (Zdt l))∧Below w.heap.size w w':=by
 rw[Zw6 hlet]
 have hx:∀ w,(Instr.index 9 (.string (Zad l)) (.int .i64 0)).run Tryz.prog w = .ok (.int .u8 ((l.getD 0 0:Nat):Int)) w:=fun w=>Zf1 l 0 h0 hb w
 obtain⟨V,hV⟩:∃ V,Zmx (if Zek (l.take (Zax Zia l))=true then .ok (⟨0,l.take (Zax Zia l),0,0⟩,Zax Zia l) else .error 3)=V:=⟨_,rfl⟩
 rw[hV]
 have HV:=ħ hV
 clear hV
 obtain⟨v,hv⟩:∃ v,l.getD 0 0=v:=⟨_,rfl⟩
 have Z0:=ħ (Zgj.new w Zfk)
 have B0:=ħ ((Below.refl w.heap.size w).alloc (Nat.le_refl _) (.cells (Zbw Zfk).toArray 169))
 have HS:=ħ (fun w=>Zpr l (Zax Zia l) (Zgc _ _) w)
 have HR:=ħ (fun w=>Zqm l w hl hb)
 have HN:=ħ (fun w=>Zo8 (l.take (Zax Zia l)) w (by rw[List.length_take];omega) (fun y hy=>hb y (List.mem_of_mem_take hy)))
 have SZ:=ħ ((Zaq (l.take (Zax Zia l))).trans (Zkd Zia l))
 rw[hv] at hx hlet
 have HL:=ħ hlet
 clear hv hlet hb
 generalize Zad l=t at *
 go_enter Tryz.func134,Tryz.ntmps134
 go_wp2_with fail
 refine (Zdz v _).mono ?_
 rintro e w1 ⟨rfl,rfl⟩
 rw[HL.o]
 go_wp2_with fail
 refine (HR.o _).mono ?_
 rintro e w1 ⟨rfl,rfl⟩
 have hs:=HS.o
 go_wp2_with fail
 refine (HN.o _).mono ?_
 rintro e w1 ⟨rfl,rfl⟩
 have hsz:=SZ.o
 obtain⟨q,hq⟩:∃ q,Zek (l.take (Zax Zia l))=q:=⟨_,rfl⟩
 rw[hq] at HV ⊢
 generalize l.take (Zax Zia l)=u at *
 cases q with
 | false =>
  go_wp2_with (refine Zab rfl 169 (.tmp 2) (.tmp 24) rfl w.heap.size (Zbw Zfk).toArray ?s1 ?s2 169 _ Z0.o (Zay _) rfl (Zbe _) ?_;(case s1=>rfl);(case s2=>rfl);intro W2 s2 u2;have S2:=ħ s2;have C2:=ħ (u2.below B0.o (Nat.le_refl _));clear s2 u2)
  exact bodyPost_ret (Zal (p:=2) (u:=3) (v:=4) (by kernel_rfl) _ _ w.heap.size 169 (Zbw Zfk).toArray (0,0) _ rfl S2.o Tryz.underlying169 rfl (Zay _)) rfl ⟨by rw[← HV.o];rfl,C2.o⟩
 | true =>
  go_wp2_with (refine Zab rfl 169 (.tmp 2) (.tmp 26) rfl w.heap.size (Zbw ⟨0,u,0,0⟩).toArray ?s1 ?s2 169 _ Z0.o (Zay _) rfl (Zbe _) ?_;(case s1=>rfl);(case s2=>rfl);intro W2 s2 u2;have S2:=ħ s2;have C2:=ħ (u2.below B0.o (Nat.le_refl _));clear s2 u2)
  exact bodyPost_ret (Zal (p:=2) (u:=3) (v:=4) (by kernel_rfl) _ _ w.heap.size 169 (Zbw ⟨0,u,0,0⟩).toArray (0,0) _ rfl S2.o Tryz.underlying169 rfl (Zay _)) rfl ⟨by rw[← HV.o];rfl,C2.o⟩
theorem Z4v (l:List Nat) (w:World) (h0:0<l.length) (hl:l.length≤1000000) (hb:∀ y∈l,y<256) (hlet:Zoq (l.getD 0 0)=false) (hdig:Zd7 (l.getD 0 0)=true) :
  Calls Tryz.prog 134 #[.string (Zad l)] w fun e w'=>e = .returned (Zmx (Zdt l))∧Below w.heap.size w w':=by
 rw[Z1c hlet hdig]
 have hx:∀ w,(Instr.index 9 (.string (Zad l)) (.int .i64 0)).run Tryz.prog w = .ok (.int .u8 ((l.getD 0 0:Nat):Int)) w:=fun w=>Zf1 l 0 h0 hb w
 obtain⟨V,hV⟩:∃ V,Zmx (if Zeu (l.take (Zax Zd7 l))=true then .ok (⟨1,l.take (Zax Zd7 l),Zkg (l.take (Zax Zd7 l)),0⟩,Zax Zd7 l) else .error 3)=V:=⟨_,rfl⟩
 rw[hV]
 have HV:=ħ hV
 clear hV
 obtain⟨v,hv⟩:∃ v,l.getD 0 0=v:=⟨_,rfl⟩
 have Z0:=ħ (Zgj.new w Zfk)
 have B0:=ħ ((Below.refl w.heap.size w).alloc (Nat.le_refl _) (.cells (Zbw Zfk).toArray 169))
 have HS:=ħ (fun w=>Zpr l (Zax Zd7 l) (Zgc _ _) w)
 have HR:=ħ (fun w=>Zqn l w hl hb)
 have HN:=ħ (fun w=>Zw1 (l.take (Zax Zd7 l)) w (by rw[List.length_take];omega) (fun y hy=>hb y (List.mem_of_mem_take hy)))
 have SZ:=ħ ((Zaq (l.take (Zax Zd7 l))).trans (Zkd Zd7 l))
 rw[hv] at hx hlet hdig
 have HL:=ħ hlet
 have HD:=ħ hdig
 clear hv hlet hdig hb
 generalize Zad l=t at *
 go_enter Tryz.func134,Tryz.ntmps134
 go_wp2_with fail
 refine (Zdz v _).mono ?_
 rintro e w1 ⟨rfl,rfl⟩
 rw[HL.o]
 go_wp2_with fail
 refine (Zgx v _).mono ?_
 rintro e w1 ⟨rfl,rfl⟩
 rw[HD.o]
 go_wp2_with fail
 refine (HR.o _).mono ?_
 rintro e w1 ⟨rfl,rfl⟩
 have hs:=HS.o
 go_wp2_with fail
 refine (HN.o _).mono ?_
 rintro e w1 ⟨rfl,rfl⟩
 have hsz:=SZ.o
 obtain⟨q,hq⟩:∃ q,Zeu (l.take (Zax Zd7 l))=q:=⟨_,rfl⟩
 have HQ:=ħ hq
 rw[hq] at HV ⊢
 have HF:Hid (q=true→Zxa (l.take (Zax Zd7 l))=Zkg (l.take (Zax Zd7 l))):=ħ (fun h=>by unfold Zxa;rw[HQ.o,if_pos h])
 clear HQ hq
 generalize l.take (Zax Zd7 l)=u at *
 cases q with
 | false =>
  go_wp2_with (refine Zab rfl 169 (.tmp 2) (.tmp 44) rfl w.heap.size (Zbw Zfk).toArray ?s1 ?s2 169 _ Z0.o (Zay _) rfl (Zbe _) ?_;(case s1=>rfl);(case s2=>rfl);intro W2 s2 u2;have S2:=ħ s2;have C2:=ħ (u2.below B0.o (Nat.le_refl _));clear s2 u2)
  exact bodyPost_ret (Zal (p:=2) (u:=3) (v:=4) (by kernel_rfl) _ _ w.heap.size 169 (Zbw Zfk).toArray (0,0) _ rfl S2.o Tryz.underlying169 rfl (Zay _)) rfl ⟨by rw[← HV.o];rfl,C2.o⟩
 | true =>
  have hf:=HF.o rfl
  rw[hf]
  clear hf HF
  go_wp2_with (refine Zab rfl 169 (.tmp 2) (.tmp 47) rfl w.heap.size (Zbw ⟨1,u,Zkg u,0⟩).toArray ?s1 ?s2 169 _ Z0.o (Zay _) rfl (Zbe _) ?_;(case s1=>rfl);(case s2=>rfl);intro W2 s2 u2;have S2:=ħ s2;have C2:=ħ (u2.below B0.o (Nat.le_refl _));clear s2 u2)
  exact bodyPost_ret (Zal (p:=2) (u:=3) (v:=4) (by kernel_rfl) _ _ w.heap.size 169 (Zbw ⟨1,u,Zkg u,0⟩).toArray (0,0) _ rfl S2.o Tryz.underlying169 rfl (Zay _)) rfl ⟨by rw[← HV.o];rfl,C2.o⟩
theorem Z4w (l:List Nat) (w:World) (h0:0<l.length) (hl:l.length≤1000000) (hb:∀ y∈l,y<256) (hlet:Zoq (l.getD 0 0)=false) (hdig:Zd7 (l.getD 0 0)=false) (h34:l.getD 0 0=34) :
  Calls Tryz.prog 134 #[.string (Zad l)] w fun e w'=>e = .returned (Zmx (Zdt l))∧Below w.heap.size w w':=by
 rw[Z1d hlet hdig h34]
 have hx:∀ w,(Instr.index 9 (.string (Zad l)) (.int .i64 0)).run Tryz.prog w = .ok (.int .u8 ((l.getD 0 0:Nat):Int)) w:=fun w=>Zf1 l 0 h0 hb w
 obtain⟨V,hV⟩:∃ V,Zmx (match Zyh l with | some r=>.ok (⟨2,r.1,0,0⟩,r.2) | none=>.error 2)=V:=⟨_,rfl⟩
 rw[hV]
 have HV:=ħ hV
 clear hV
 obtain⟨v,hv⟩:∃ v,l.getD 0 0=v:=⟨_,rfl⟩
 have Z0:=ħ (Zgj.new w Zfk)
 have B0:=ħ ((Below.refl w.heap.size w).alloc (Nat.le_refl _) (.cells (Zbw Zfk).toArray 169))
 have HR:=ħ (fun w=>Zw3 l w hl hb)
 rw[hv] at hx hlet hdig h34
 have c1:((v:Int)==34)=true:=by rw[beq_iff_eq];omega
 have HL:=ħ hlet
 have HD:=ħ hdig
 clear hv hlet hdig hb h34
 generalize Zad l=t at *
 go_enter Tryz.func134,Tryz.ntmps134
 go_wp2_with fail
 refine (Zdz v _).mono ?_
 rintro e w1 ⟨rfl,rfl⟩
 rw[HL.o]
 go_wp2_with fail
 refine (Zgx v _).mono ?_
 rintro e w1 ⟨rfl,rfl⟩
 rw[HD.o]
 go_wp2_with fail
 refine (HR.o _).mono ?_
 rintro e w1 ⟨rfl,hbw⟩
 have B1:=ħ (B0.o.trans (hbw.mono (by simp)))
 have Z1:=ħ (Z0.o.below hbw (by simp))
 clear hbw Z0 B0
 cases hq:Zyh l with
 | none =>
  have hz:=Z7c hq
  rw[hq] at HV
  rw[hz]
  clear hq hz
  go_wp2_with (refine Zab rfl 169 (.tmp 2) (.tmp 61) rfl w.heap.size (Zbw Zfk).toArray ?s1 ?s2 169 _ Z1.o (Zay _) rfl (Zbe _) ?_;(case s1=>rfl);(case s2=>rfl);intro W2 s2 u2;have S2:=ħ s2;have C2:=ħ (u2.below B1.o (Nat.le_refl _));clear s2 u2)
  exact bodyPost_ret (Zal (p:=2) (u:=3) (v:=4) (by kernel_rfl) _ _ w.heap.size 169 (Zbw Zfk).toArray (0,0) _ rfl S2.o Tryz.underlying169 rfl (Zay _)) rfl ⟨by rw[← HV.o];rfl,C2.o⟩
 | some r =>
  obtain⟨hz,hz2,hz3⟩:=Z4u hq
  rw[hq] at HV
  rw[hz,hz2]
  obtain⟨u,n⟩:=r
  have h1:((n:Int)==0)=false:=by rw[beq_eq_false_iff_ne];simp only at hz3;omega
  clear hq hz hz2 hz3
  go_wp2_with (refine Zab rfl 169 (.tmp 2) (.tmp 63) rfl w.heap.size (Zbw ⟨2,u,0,0⟩).toArray ?s1 ?s2 169 _ Z1.o (Zay _) rfl (Zbe _) ?_;(case s1=>rfl);(case s2=>rfl);intro W2 s2 u2;have S2:=ħ s2;have C2:=ħ (u2.below B1.o (Nat.le_refl _));clear s2 u2)
  exact bodyPost_ret (Zal (p:=2) (u:=3) (v:=4) (by kernel_rfl) _ _ w.heap.size 169 (Zbw ⟨2,u,0,0⟩).toArray (0,0) _ rfl S2.o Tryz.underlying169 rfl (Zay _)) rfl ⟨by rw[← HV.o];rfl,C2.o⟩
def Zmy:Array Value:=(Zev.map (fun s=>Value.string (Zad s))).toArray
theorem Z4x (w:World):(Instr.index 220 (.agg Zmy) (.int .i64 0)).run Tryz.prog w = .ok (.string (Zad [46,46])) w:=by kernel_rfl
theorem Z4y (w:World):(Instr.index 220 (.agg Zmy) (.int .i64 1)).run Tryz.prog w = .ok (.string (Zad [33,61])) w:=by kernel_rfl
theorem Z4z (w:World):(Instr.index 220 (.agg Zmy) (.int .i64 2)).run Tryz.prog w = .ok (.string (Zad [60,61])) w:=by kernel_rfl
theorem Z40 (w:World):(Instr.index 220 (.agg Zmy) (.int .i64 3)).run Tryz.prog w = .ok (.string (Zad [62,61])) w:=by kernel_rfl
theorem Z41 (w:World):(Instr.index 220 (.agg Zmy) (.int .i64 4)).run Tryz.prog w = .ok (.string (Zad [40])) w:=by kernel_rfl
theorem Z42 (w:World):(Instr.index 220 (.agg Zmy) (.int .i64 5)).run Tryz.prog w = .ok (.string (Zad [41])) w:=by kernel_rfl
theorem Z43 (w:World):(Instr.index 220 (.agg Zmy) (.int .i64 6)).run Tryz.prog w = .ok (.string (Zad [123])) w:=by kernel_rfl
theorem Z44 (w:World):(Instr.index 220 (.agg Zmy) (.int .i64 7)).run Tryz.prog w = .ok (.string (Zad [125])) w:=by kernel_rfl
theorem Z45 (w:World):(Instr.index 220 (.agg Zmy) (.int .i64 8)).run Tryz.prog w = .ok (.string (Zad [44])) w:=by kernel_rfl
theorem Z46 (w:World):(Instr.index 220 (.agg Zmy) (.int .i64 9)).run Tryz.prog w = .ok (.string (Zad [59])) w:=by kernel_rfl
theorem Z1g (w:World):(Instr.index 220 (.agg Zmy) (.int .i64 10)).run Tryz.prog w = .ok (.string (Zad [58])) w:=by kernel_rfl
theorem Z1h (w:World):(Instr.index 220 (.agg Zmy) (.int .i64 11)).run Tryz.prog w = .ok (.string (Zad [46])) w:=by kernel_rfl
theorem Z1i (w:World):(Instr.index 220 (.agg Zmy) (.int .i64 12)).run Tryz.prog w = .ok (.string (Zad [61])) w:=by kernel_rfl
theorem Z1j (w:World):(Instr.index 220 (.agg Zmy) (.int .i64 13)).run Tryz.prog w = .ok (.string (Zad [60])) w:=by kernel_rfl
theorem Z1k (w:World):(Instr.index 220 (.agg Zmy) (.int .i64 14)).run Tryz.prog w = .ok (.string (Zad [62])) w:=by kernel_rfl
theorem Z1l (w:World):(Instr.index 220 (.agg Zmy) (.int .i64 15)).run Tryz.prog w = .ok (.string (Zad [43])) w:=by kernel_rfl
theorem Z1m (w:World):(Instr.index 220 (.agg Zmy) (.int .i64 16)).run Tryz.prog w = .ok (.string (Zad [45])) w:=by kernel_rfl
theorem Z1n (w:World):(Instr.index 220 (.agg Zmy) (.int .i64 17)).run Tryz.prog w = .ok (.string (Zad [42])) w:=by kernel_rfl
theorem Z1o (w:World):(Instr.index 220 (.agg Zmy) (.int .i64 18)).run Tryz.prog w = .ok (.string (Zad [47])) w:=by kernel_rfl
theorem Z7d (i:Nat) (t:List Nat) (h:Zev[i]?=some t) (w:World):(Instr.index 220 (.agg Zmy) (.int .i64 (i:Int))).run Tryz.prog w = .ok (.string (Zad t)) w:=by
 match i,h with
 | 0,h =>
  obtain rfl:[46,46]=t:=Option.some.inj h
  exact Z4x w
 | 1,h =>
  obtain rfl:[33,61]=t:=Option.some.inj h
  exact Z4y w
 | 2,h =>
  obtain rfl:[60,61]=t:=Option.some.inj h
  exact Z4z w
 | 3,h =>
  obtain rfl:[62,61]=t:=Option.some.inj h
  exact Z40 w
 | 4,h =>
  obtain rfl:[40]=t:=Option.some.inj h
  exact Z41 w
 | 5,h =>
  obtain rfl:[41]=t:=Option.some.inj h
  exact Z42 w
 | 6,h =>
  obtain rfl:[123]=t:=Option.some.inj h
  exact Z43 w
 | 7,h =>
  obtain rfl:[125]=t:=Option.some.inj h
  exact Z44 w
 | 8,h =>
  obtain rfl:[44]=t:=Option.some.inj h
  exact Z45 w
 | 9,h =>
  obtain rfl:[59]=t:=Option.some.inj h
  exact Z46 w
 | 10,h =>
  obtain rfl:[58]=t:=Option.some.inj h
  exact Z1g w
 | 11,h =>
  obtain rfl:[46]=t:=Option.some.inj h
  exact Z1h w
 | 12,h =>
  obtain rfl:[61]=t:=Option.some.inj h
  exact Z1i w
 | 13,h =>
  obtain rfl:[60]=t:=Option.some.inj h
  exact Z1j w
 | 14,h =>
  obtain rfl:[62]=t:=Option.some.inj h
  exact Z1k w
 | 15,h =>
  obtain rfl:[43]=t:=Option.some.inj h
  exact Z1l w
 | 16,h =>
  obtain rfl:[45]=t:=Option.some.inj h
  exact Z1m w
 | 17,h =>
  obtain rfl:[42]=t:=Option.some.inj h
  exact Z1n w
 | 18,h =>
  obtain rfl:[47]=t:=Option.some.inj h
  exact Z1o w
 | n+19,h=>exact absurd h (by rw[List.getElem?_eq_none (by show 19≤_;omega)];simp)
theorem Z1p (l:List Nat) (i:Nat) (t:List Nat) (h:Zev[i]?=some t):Zj4 (Zev.drop i) l=if t.isPrefixOf l=true then t.length else Zj4 (Zev.drop (i+1)) l:=by
 obtain⟨hi,rfl⟩:=List.getElem?_eq_some_iff.1 h
 rw[List.drop_eq_getElem_cons hi,Zj4]
theorem Zrz {t:List Nat} (h:t∈Zev):(∀ y∈t,y<256)∧0<t.length:=by
 revert t
 decide
theorem Z47:(Tryz.prog.info? 220).map (·.size)=some (Zev.map (fun s=>Value.string (Zad s))).length:=by
 show _=some 19
 kernel_rfl
theorem Z48 (l:List Nat) (w:World) (B:Nat) (hT:Tab w B) (h0:0<l.length) (hl:l.length≤1000000) (hb:∀ y∈l,y<256) (hlet:Zoq (l.getD 0 0)=false) (hdig:Zd7 (l.getD 0 0)=false) (h34:l.getD 0 0≠34) :
  Calls Tryz.prog 134 #[.string (Zad l)] w fun e w'=>e = .returned (Zmx (Zdt l))∧Below w.heap.size w w':=by
 rw[Z1e hlet hdig h34]
 have hx:∀ w,(Instr.index 9 (.string (Zad l)) (.int .i64 0)).run Tryz.prog w = .ok (.int .u8 ((l.getD 0 0:Nat):Int)) w:=fun w=>Zf1 l 0 h0 hb w
 obtain⟨V,hV⟩:∃ V,Zmx (if Zsa l=0 then .error 10 else .ok (⟨3,l.take (Zsa l),0,0⟩,Zsa l))=V:=⟨_,rfl⟩
 rw[hV]
 have HV:=ħ hV
 clear hV
 obtain⟨v,hv⟩:∃ v,l.getD 0 0=v:=⟨_,rfl⟩
 have Z0:=ħ (Zgj.new w Zfk)
 have B0:=ħ ((Below.refl w.heap.size w).alloc (Nat.le_refl _) (.cells (Zbw Zfk).toArray 169))
 have T0:=ħ (hT.alloc (.cells (Zbw Zfk).toArray 169)).signs
 have HP:=ħ (fun (p:List Nat) (hp:p∈Zev) (w:World)=>Zw5 l p w hb (Zrz hp).1)
 rw[hv] at hx hlet hdig h34
 have c1:((v:Int)==34)=false:=by rw[beq_eq_false_iff_ne];omega
 have HL:=ħ hlet
 have HD:=ħ hdig
 have IX:Hid (∀ (i:Nat) (t:List Nat),Zev[i]?=some t→∀ w,(Instr.index 220 (.agg Zmy) (.int .i64 (i:Int))).run Tryz.prog w = .ok (.string (Zad t)) w):=ħ (fun i t h w=>Z7d i t h w)
 clear hv hlet hdig hb h34 hT
 generalize Zad l=t at *
 go_enter Tryz.func134,Tryz.ntmps134
 go_wp2_with fail
 refine (Zdz v _).mono ?_
 rintro e w1 ⟨rfl,rfl⟩
 rw[HL.o]
 go_wp2_with fail
 refine (Zgx v _).mono ?_
 rintro e w1 ⟨rfl,rfl⟩
 rw[HD.o]
 go_wp2_with (refine Zcu rfl 220 (.global 1) rfl 1 0 ?s1 (Zev.map (fun s=>Value.string (Zad s))) _ T0.o Tryz.underlying220 rfl Z47 ?_;(case s1=>rfl);rw[show (Zev.map (fun s=>Value.string (Zad s))).toArray=Zmy from rfl])
 clear T0
 generalize Zmy=SA at *
 go_loop [66] (fun c=>∃ i:Nat,c = .int .i64 i∧i≤19∧Hid (Zsa l=Zj4 (Zev.drop i) l)) (fun c=>(19-intOf c).toNat)
 case atStart=>exact⟨0,rfl,by omega,ħ rfl⟩
 case round =>
  obtain⟨i,rfl,hi,hz⟩:=hrel
  have e2:IntKind.i64.wrap ((i:Int)+1)=((i+1:Nat):Int):=IntWalk.i64_in _ (by omega)
  by_cases hlt:i<19
  ·have ii:(i:Int)<19:=by omega
   have hg:Zev[i]?=some (Zev[i]'hlt):=List.getElem?_eq_getElem hlt
   have hm:Zev[i]'hlt∈Zev:=List.getElem_mem hlt
   have HF:=ħ (Z1p l i _ hg)
   have hidx:=IX.o i _ hg
   have SZ:=ħ (Zaq (Zev[i]'hlt))
   have HP1:=ħ (HP.o _ hm)
   have HB1:=ħ (Zrz hm).2
   clear hg hm
   generalize Zev[i]'hlt=p at *
   obtain⟨q,hq⟩:∃ q,p.isPrefixOf l=q:=⟨_,rfl⟩
   have HQ:=ħ hq
   clear hq
   go_wp2_with fail
   refine (HP1.o _).mono ?_
   rintro e w1 ⟨rfl,rfl⟩
   rw[HQ.o]
   cases q with
   | true =>
    have hsz:=SZ.o
    have HE:Hid (Zsa l=p.length∧l.take (Zsa l)=p):=ħ (by
     have h1:Zsa l=p.length:=by rw[hz.o,HF.o,if_pos HQ.o]
     refine⟨h1,?_⟩
     rw[h1]
     exact (List.prefix_iff_eq_take.1 (List.isPrefixOf_iff_prefix.1 HQ.o)).symm)
    go_wp2_with (refine Zab rfl 169 (.tmp 2) (.tmp 73) rfl w.heap.size (Zbw ⟨3,p,0,0⟩).toArray ?s1 ?s2 169 _ Z0.o (Zay _) rfl (Zbe _) ?_;(case s1=>rfl);(case s2=>rfl);intro W2 s2 u2;have S2:=ħ s2;have C2:=ħ (u2.below B0.o (Nat.le_refl _));clear s2 u2)
    exact bodyPost_ret (Zal (p:=2) (u:=3) (v:=4) (by kernel_rfl) _ _ w.heap.size 169 (Zbw ⟨3,p,0,0⟩).toArray (0,0) _ rfl S2.o Tryz.underlying169 rfl (Zay _)) rfl ⟨by rw[← HV.o,HE.o.2,HE.o.1,if_neg (by have:=HB1.o;omega)];rfl,C2.o⟩
   | false =>
    go_wp2
    go_round
    case rel=>exact⟨i+1,rfl,by omega,ħ (by rw[hz.o,HF.o,if_neg (by rw[HQ.o];simp)])⟩
    case measure=>simp[intOf];omega
  ·obtain rfl:i=19:=by omega
   have HE:Hid (Zsa l=0):=ħ hz.o
   go_wp2_with (refine Zab rfl 169 (.tmp 2) (.tmp 77) rfl w.heap.size (Zbw Zfk).toArray ?s1 ?s2 169 _ Z0.o (Zay _) rfl (Zbe _) ?_;(case s1=>rfl);(case s2=>rfl);intro W2 s2 u2;have S2:=ħ s2;have C2:=ħ (u2.below B0.o (Nat.le_refl _));clear s2 u2)
   exact bodyPost_ret (Zal (p:=2) (u:=3) (v:=4) (by kernel_rfl) _ _ w.heap.size 169 (Zbw Zfk).toArray (0,0) _ rfl S2.o Tryz.underlying169 rfl (Zay _)) rfl ⟨by rw[← HV.o,if_pos HE.o];rfl,C2.o⟩
theorem Z49 (l:List Nat) (w:World) (B:Nat) (hT:Tab w B) (h0:0<l.length) (hl:l.length≤1000000) (hb:∀ y∈l,y<256) :
  Calls Tryz.prog 134 #[.string (Zad l)] w fun e w'=>e = .returned (Zmx (Zdt l))∧Below w.heap.size w w':=by
 cases h1:Zoq (l.getD 0 0) with
 | true=>exact Z1f l w h0 hl hb h1
 | false =>
  cases h2:Zd7 (l.getD 0 0) with
  | true=>exact Z4v l w h0 hl hb h1 h2
  | false =>
   by_cases h3:l.getD 0 0=34
   ·exact Z4w l w h0 hl hb h1 h2 h3
   ·exact Z48 l w B hT h0 hl hb h1 h2 h3
end
section
open Go.RowKit
theorem Z5a {l:List Nat} {a:Nat} {acc:List Tok} (ha:a≤l.length) (h:a+Zgr (l.drop a)=l.length):Zlo false a (l.drop a) acc=(acc,0,0):=by
 unfold Zlo
 rw[if_pos (by rw[List.length_drop];unfold Zgr at h;omega)]
theorem Z5b {l:List Nat} {a b:Nat} {acc:List Tok} {e:Int} (ha:a≤l.length) (hb:a+Zgr (l.drop a)=b) (h:b≠l.length) (hn:Zdt (l.drop b) = .error e):Zlo false a (l.drop a) acc=([],b,e):=by
 subst hb
 unfold Zlo
 rw[if_neg (by rw[List.length_drop];unfold Zgr at h;omega),List.drop_drop]
 unfold Zgr at hn ⊢
 rw[hn]
theorem Z5c {l:List Nat} {a b:Nat} {acc:List Tok} {r:Tok×Nat} (ha:a≤l.length) (hb:a+Zgr (l.drop a)=b) (h:b≠l.length) (hn:Zdt (l.drop b) = .ok r) :
  Zlo false a (l.drop a) acc=Zlo false (b+r.2) (l.drop (b+r.2)) (acc++[{ r.1 with p:=b }]):=by
 subst hb
 have hle:=Zfe (l.drop a) false
 rw[List.length_drop] at hle
 have hr:=Zfw _ (by intro h2;have:=congrArg List.length h2;simp at this;unfold Zgr at *;omega) r hn
 rw[List.length_drop] at hr
 rw[← Zxf ((l.drop a).length+1) (a+Zgr (l.drop a)+r.2) (l.drop (a+Zgr (l.drop a)+r.2)) _ (by rw[List.length_drop,List.length_drop];omega)]
 conv=>lhs;unfold Zlo
 rw[if_neg (by rw[List.length_drop];unfold Zgr at h;omega),List.drop_drop]
 unfold Zgr at hn ⊢
 rw[hn]
 simp only[List.drop_drop]
 rw[Nat.add_assoc]
theorem Z1q {l:List Nat} {e:Int} (h:Zdt l = .error e):e=2∨e=3∨e=10:=by
 unfold Zdt at h
 split at h
 ·split at h
  ·cases h
  ·cases h;omega
 ·split at h
  ·split at h
   ·cases h
   ·cases h;omega
  ·split at h
   ·split at h
    ·split at h
     ·cases h
     ·cases h;omega
    ·cases h;omega
   ·split at h
    ·cases h;omega
    ·cases h
def Z1r (w w':World) (l:List Nat) (e:Ending):Prop:=∃ ao cap,e = .returned (.tuple #[.slice ao (Zfb l).1.length cap,.int .i64 ((Zfb l).2.1:Nat),.int .i64 (Zfb l).2.2])∧OwnK w' w.heap.size 4 (Zfb l).1.length cap ((Zfb l).1.flatMap Zbw) ao∧Below w.heap.size w w'
theorem Zgj.cells {w:World} {g:Nat} {t:Tok} (h:Zgj w g t):w.cell? ⟨g,0,none⟩=some (.int .i64 t.k)∧w.cell? ⟨g,1,none⟩=some (.string (Zad t.t))∧w.cell? ⟨g,2,none⟩=some (.int .i64 t.n)∧w.cell? ⟨g,3,none⟩=some (.int .i64 t.p):=by
 unfold Zgj at h
 exact⟨by simp[World.cell?,h,Zbw],by simp[World.cell?,h,Zbw],by simp[World.cell?,h,Zbw],by simp[World.cell?,h,Zbw]⟩
theorem Zgj.warm {w:World} {g:Nat} {t:Tok} (h:Zgj w g t) (i:Nat):w.frozen? ⟨g,i,none⟩=false:=by
 unfold Zgj at h
 simp[World.frozen?,h]
theorem Zgj.setP {w:World} {g:Nat} {t:Tok} (h:Zgj w g t) (b:Nat):Zgj (w.setCell ⟨g,3,none⟩ (.int .i64 (b:Nat))) g { t with p:=b } :=
 Go.heap_setCell_same w g 3 _ _ _ h
theorem Zaj (w:World) (a:Addr) (v:Value):Upd w (w.setCell a v) a.block:=⟨rfl,rfl,rfl,World.size_setCell w a v,fun k hk=>Below.heap_setCell _ _ _ _ hk⟩
theorem OwnK.upd {w w':World} {B k n cap g:Nat} {xs:List Value} {ao:Option Addr} (h:OwnK w B k n cap xs ao) (hu:Upd w w' g) (hg:blk ao≠some g):OwnK w' B k n cap xs ao :=
 h.of_block (fun g' e _=>hu.block g' (fun e'=>hg (by rw[e,e']))) (by rw[hu.size];exact Nat.le_refl _)
theorem OwnK.blk_lt {w:World} {B k n cap g:Nat} {xs:List Value} {ao:Option Addr} (h:OwnK w B k n cap xs ao) (hg:blk ao=some g):B≤g∧g<w.heap.size:=by
 cases h with
 | nil h hn hc=>cases hg
 | «at» g' off h hn hc hl=>cases hg;exact⟨h.own,h.lt⟩
theorem Z5d (t:Tok):∀ u∈(Zbw t).toArray.toList,u.oneCell'=true:=by
 intro u hu
 simp only[Zbw,List.mem_cons,List.not_mem_nil,or_false] at hu
 rcases hu with rfl | rfl | rfl | rfl<;>rfl
theorem Z5e (l:List Nat) (w:World) (B:Nat) (hT:Tab w B) (hl:l.length≤1000000) (hb:∀ y∈l,y<256) :
  Calls Tryz.prog 70 #[.string (Zad l)] w fun e w'=>Z1r w w' l e:=by
 have SZ:=ħ (Zaq l)
 by_cases h4:4000<l.length
 ·have i4:(4000:Int)<l.length:=by omega
  have HF:Hid (Zfb l=([],0,6)):=ħ (by unfold Zfb;rw[if_pos h4])
  generalize Zad l=t at *
  have hsz:=SZ.o
  go_enter Tryz.func70,Tryz.ntmps70
  go_wp2
  go_ret3
  unfold Z1r
  rw[HF.o]
  exact⟨none,0,rfl,.nil rfl rfl rfl,Below.refl _ _⟩
 have i4:¬ ((4000:Int)<l.length):=by omega
 have HF:=ħ (Z52 l (by omega))
 have HS:Hid (∀ i:Nat,i≤l.length→∀ w,(Instr.slice 9 (.string (Zad l)) (some (.int .i64 (i:Int))) none none).run Tryz.prog w = .ok (.string (Zad (l.drop i))) w):=ħ (fun i hi w=>Zvl l i hi w)
 have HG:=ħ (fun (i:Nat) (w:World)=>Z7b (l.drop i) w (by rw[List.length_drop];omega) (fun y hy=>hb y (List.mem_of_mem_drop hy)))
 have HN:Hid (∀ (i:Nat) (w:World),i<l.length→Tab w B→_):=ħ (fun (i:Nat) (w:World) (hi:i<l.length) (hT:Tab w B)=>Z49 (l.drop i) w B hT (by rw[List.length_drop];omega) (by rw[List.length_drop];omega) (fun y hy=>hb y (List.mem_of_mem_drop hy)))
 have HT:=ħ hT
 clear hb hT
 generalize Zad l=t at *
 have hsz:=SZ.o
 go_enter Tryz.func70,Tryz.ntmps70
 go_wp2_with fail
 go_loopw [5,6] (fun s c wr=>∃ (a k:Nat) (acc:List Tok) (ao:Option Addr) (cp:Nat),s = .slice ao k cp∧c = .int .i64 a∧a≤l.length∧k≤a∧Hid (k=acc.length)∧Hid (OwnK wr w.heap.size 4 k cp (acc.flatMap Zbw) ao)∧Hid (Below w.heap.size w wr)∧Hid (Zfb l=Zlo false a (l.drop a) acc)) (fun _ c _=>(l.length-intOf c).toNat)
 case atStart=>exact⟨0,0,[],none,0,rfl,rfl,by omega,by omega,ħ rfl,ħ (.nil rfl rfl rfl),ħ (Below.refl _ _),ħ (by rw[HF.o];rfl)⟩
 case round =>
  obtain⟨a,k,acc,ao,cp,rfl,rfl,ha,hka,hk,ho,hw,hz⟩:=hrel
  have hs:=HS.o a ha
  have hgl:Zgr (l.drop a)≤l.length-a:=by have:=Zfe (l.drop a) false;rw[List.length_drop] at this;exact this
  obtain⟨b,hb⟩:∃ b,a+Zgr (l.drop a)=b:=⟨_,rfl⟩
  have HB:=ħ hb
  have hbl:b≤l.length:=by omega
  have e1:IntKind.i64.wrap ((a:Int)+(Zgr (l.drop a):Nat))=(b:Int):=by rw[IntWalk.i64_in _ (by omega)];omega
  have hab:a≤b:=by omega
  clear hb hgl
  go_wp2_with fail
  refine (HG.o a _).mono ?_
  rintro e w1 ⟨rfl,rfl⟩
  by_cases hend:b=l.length
  ·have c1:((b:Int)==(l.length:Int))=true:=by rw[hend];simp
   have HE:=ħ (hz.o.trans (Z5a ha (HB.o.trans hend)))
   clear hend
   go_wp2
   go_ret3
   unfold Z1r
   rw[HE.o]
   exact⟨ao,cp,by rw[← hk.o];rfl,by rw[← hk.o];exact ho.o,hw.o⟩
  ·have c1:((b:Int)==(l.length:Int))=false:=by rw[beq_eq_false_iff_ne];omega
   have hs2:=HS.o b hbl
   go_wp2_with fail
   refine (HN.o b _ (by omega) (HT.o.below hw.o HT.o.size)).mono ?_
   rintro e w2 ⟨rfl,hb2⟩
   cases hn:Zdt (l.drop b) with
   | error x =>
    have hx:(x != 0)=true:=by rw[bne_iff_ne];have:=Z1q hn;omega
    have HE:=ħ (hz.o.trans (Z5b ha HB.o hend hn))
    have BW:=ħ (hw.o.trans (hb2.mono hw.o.size))
    clear hn hb2
    have A2:=ħ ((Below.refl w2.heap.size w2).alloc (Nat.le_refl _) (.cells (Zbw Zfk).toArray 169))
    unfold Zmx
    go_wp2_with (refine Zab rfl 169 (.tmp 7) (.tmp 29) rfl w2.heap.size (Zbw Zfk).toArray ?s1 ?s2 169 _ (heap_alloc_new w2 _) (Zay _) rfl (Zbe _) ?_;(case s1=>rfl);(case s2=>rfl);intro W3 s3 u3;have C3:=ħ (u3.below A2.o (Nat.le_refl _));clear s3 u3)
    go_ret3
    unfold Z1r
    rw[HE.o]
    exact⟨none,0,rfl,.nil rfl rfl rfl,BW.o.trans (C3.o.mono BW.o.size)⟩
   | ok r =>
    obtain⟨tk,n⟩:=r
    have hlen:=Zfw _ (by intro h2;have:=congrArg List.length h2;simp at this;omega) _ hn
    rw[List.length_drop] at hlen
    simp only at hlen
    have e4:IntKind.i64.wrap ((b:Int)+(n:Nat))=((b+n:Nat):Int):=by rw[IntWalk.i64_in _ (by omega)];omega
    have HE:=ħ (hz.o.trans (Z5c ha HB.o hend hn))
    have BW:=ħ (hw.o.trans (hb2.mono hw.o.size))
    have O2:=ħ (ho.o.below hb2)
    have A2:=ħ ((Below.refl w2.heap.size w2).alloc (Nat.le_refl _) (.cells (Zbw Zfk).toArray 169))
    have hbk:Hid (blk ao≠some w2.heap.size):=ħ (fun e=>by have:=(O2.o.blk_lt e).2;omega)
    clear hn hb2 ho hend
    have t4:(Zbw { tk with p:=b }).length=4:=rfl
    unfold Zmx
    go_wp2_with (first
     | (refine Zab rfl 169 (.tmp 7) (.tmp 29) rfl w2.heap.size (Zbw tk).toArray ?s1 ?s2 169 _ (heap_alloc_new w2 _) (Zay _) rfl (Zbe _) ?_;(case s1=>rfl);(case s2=>rfl);intro W3 s3 u3;have S3:Hid (Zgj W3 w2.heap.size tk):=ħ s3;have C3:=ħ (u3.below A2.o (Nat.le_refl _));clear s3 u3;obtain⟨q0,q1,q2,q3⟩:=S3.o.cells;have qw:=S3.o.warm 3;clear q0 q1 q2;have S4:=ħ (S3.o.setP b);have U4:=ħ (Zaj W3 ⟨w2.heap.size,3,none⟩ (.int .i64 (b:Nat)));have C4:=ħ (U4.o.below C3.o (Nat.le_refl _));have O4:=ħ ((O2.o.below C3.o).upd U4.o hbk.o);clear U4)
     | (refine wpList_load_row rfl 169 (.tmp 7) rfl w2.heap.size ?x1 169 (Zbw { tk with p:=b }).toArray (0,0) _ S4.o Tryz.underlying169 rfl (Zay _) ?_;(case x1=>rfl))
     | (at_builtin;refine Zfa 96 169 Z9d 4 40 Tryz.underlying96 Z4s rfl (by omega) (by omega) (W3.setCell ⟨w2.heap.size,3,none⟩ (.int .i64 (b:Nat))) w.heap.size rfl (.tmp 38) (.tmp 40) rfl ao cp k (acc.flatMap Zbw) ?q1 O4.o ?q5 1 1 (Zbw { tk with p:=b }).toArray 169 ?q2 rfl (by omega) ?q3 ?q4 ?_;(case q1=>rfl);(case q5=>exact Nat.le_trans BW.o.size C4.o.size);(case q2=>rw[World.size_setCell];rfl);(case q3=>exact Z5d _);(case q4=>omega);intro g5 off5 c5 wa o8 gr8 b8 or8;have O8:=ħ o8;have B8:=ħ b8;clear o8 gr8 b8 or8))
    go_roundw
    case rel=>exact⟨b+n,k+1,acc++[{ tk with p:=b }],some ⟨g5,off5,none⟩,c5,rfl,by go_num,by omega,by omega,ħ (by rw[List.length_append,← hk.o];rfl),ħ (by rw[List.flatMap_append];exact O8.o),ħ ((BW.o.trans (C4.o.mono BW.o.size)).trans B8.o),ħ HE.o⟩
    case measure=>simp only[intOf];omega
end
section
open Go.RowKit
def Z1s (L:List (List Nat)) (x:List Nat):Bool:=L.contains x
theorem Zr0 {w:World} {g off:Nat} {L:List (List Nat)} (h:Za3 w g off (L.map (fun s=>Value.string (Zad s)))) (j:Nat) (hj:j<L.length):w.cell? ⟨g,off+j,none⟩=some (.string (Zad (L.getD j []))) :=
 h j _ (by rw[List.getElem?_map,List.getD,List.getElem?_eq_getElem hj];rfl)
theorem Zw7 (g off cp n:Nat) (L:List (List Nat)) (x:List Nat) (w:World) (hn:n=L.length) (hl:n≤1000000) (hr:Za3 w g off (L.map (fun s=>Value.string (Zad s)))) (hx:∀ y∈x,y<256) (hL:∀ s∈L,∀ y∈s,y<256) :
  Calls Tryz.prog 211 #[.slice (some ⟨g,off,none⟩) n cp,.string (Zad x)] w fun e w'=>w=w' ∧
   ((∃ i:Nat,e = .returned (.int .i64 i))∧Z1s L x=true∨(e = .returned (.int .i64 (-1))∧Z1s L x=false)):=by
 have HA:=ħ (fun j hj=>Zr0 hr j hj)
 have HE:Hid (∀ j,j<n→((Zad x).toList==(Zad (L.getD j [])).toList)=(x==L.getD j [])):=ħ (fun j hj=>Zd6 x _ hx (hL _ (by rw[List.getD,List.getElem?_eq_getElem (by omega)];exact List.getElem_mem _)))
 have HN:=ħ hn
 clear hr hx hL hn
 generalize Zad x=t at *
 go_enter Tryz.func211,Tryz.ntmps211
 go_wp2_with fail
 go_loop [8] (fun c=>∃ i:Nat,c = .int .i64 i∧i≤n∧Hid (∀ j,j<i→(x==L.getD j [])=false)) (fun c=>(n-intOf c).toNat)
 case atStart=>exact⟨0,rfl,by omega,ħ (fun j hj=>absurd hj (Nat.not_lt_zero j))⟩
 case round =>
  obtain⟨i,rfl,hi,hz⟩:=hrel
  have e2:IntKind.i64.wrap ((i:Int)+1)=((i+1:Nat):Int):=IntWalk.i64_in _ (by omega)
  by_cases hlt:i<n
  ·have k1:=HA.o i (by rw[← HN.o];exact hlt)
   have hq:=HE.o i hlt
   have ii:(i:Int)<n:=by omega
   obtain⟨q,hv⟩:∃ q,(x==L.getD i [])=q:=⟨_,rfl⟩
   rw[hv] at hq
   have HV:=ħ hv
   clear hv
   generalize Zad (L.getD i [])=u at *
   cases q with
   | true =>
    go_wp2
    all_goals
     go_ret
     refine⟨rfl,.inl ⟨⟨i,rfl⟩,?_⟩⟩
     unfold Z1s
     rw[List.contains_iff_mem]
     rw[beq_iff_eq.1 HV.o,List.getD,List.getElem?_eq_getElem (by rw[← HN.o];exact hlt)]
     exact List.getElem_mem _
   | false =>
    go_wp2
    go_round
    case rel=>exact⟨i+1,rfl,by omega,ħ (fun j hj=>by
     rcases Nat.lt_or_ge j i with h | h
     ·exact hz.o j h
     ·obtain rfl:j=i:=by omega
      exact HV.o)⟩
    case measure=>simp[intOf];omega
  ·have ii:¬ ((i:Int)<n):=by omega
   go_wp2
   go_ret
   refine⟨rfl,.inr ⟨rfl,?_⟩⟩
   unfold Z1s
   rw[Bool.eq_false_iff]
   intro h
   obtain⟨j,hj,he⟩:=List.getElem_of_mem (List.contains_iff_mem.1 h)
   have:=hz.o j (by rw[HN.o] at hi hlt;omega)
   rw[List.getD,List.getElem?_eq_getElem hj,Option.getD_some,he] at this
   simp at this
theorem Zps (g off cp n:Nat) (L:List (List Nat)) (x:List Nat) (w:World) (hn:n=L.length) (hl:n≤1000000) (hr:Za3 w g off (L.map (fun s=>Value.string (Zad s)))) (hx:∀ y∈x,y<256) (hL:∀ s∈L,∀ y∈s,y<256) :
  Calls Tryz.prog 148 #[.slice (some ⟨g,off,none⟩) n cp,.string (Zad x)] w fun e w'=>e = .returned (.bool (Z1s L x))∧w=w':=by
 have H:=ħ (Zw7 g off cp n L x w hn hl hr hx hL)
 clear hr hx hL hn
 obtain⟨q,hq⟩:∃ q,Z1s L x=q:=⟨_,rfl⟩
 rw[hq] at H ⊢
 clear hq
 generalize Zad x=t at *
 go_enter Tryz.func148,Tryz.ntmps148
 go_wp2_with fail
 refine H.o.mono ?_
 rintro e w' ⟨rfl,h⟩
 rcases h with ⟨⟨i,rfl⟩,hc⟩ | ⟨rfl,hc⟩
 ·subst hc
  have d:decide ((0:Int)≤i)=true:=decide_eq_true (by omega)
  go_wp2
  go_ret
  exact⟨rfl,rfl⟩
 ·subst hc
  go_wp2
  go_ret
  exact⟨rfl,rfl⟩
theorem Zw8:∀ s∈Znn,∀ y∈s,y<256:=by decide
theorem Zlk (l:List Nat) (w:World) (B:Nat) (hT:Tab w B) (hl:l.length≤1000000) (hb:∀ y∈l,y<256) :
  Calls Tryz.prog 84 #[.string (Zad l)] w fun e w'=>e = .returned (.bool (Zee l))∧w=w':=by
 obtain⟨g,off,cap,hg,hc,hr⟩:=hT.res
 have HN:=ħ (fun w=>Zo8 l w hl hb)
 have HC:=ħ (Zps g off cap 8 Znn l w rfl (by omega) hr hb Zw8)
 obtain⟨q,hq⟩:∃ q,Zek l=q:=⟨_,rfl⟩
 have HQ:=ħ hq
 clear hr hq hb
 generalize Zad l=t at *
 go_enter Tryz.func84,Tryz.ntmps84
 go_wp2_with fail
 refine (HN.o _).mono ?_
 rintro e w' ⟨rfl,rfl⟩
 rw[HQ.o]
 cases q with
 | false =>
  go_wp2
  go_ret
  exact⟨Zag (by unfold Zee;rw[HQ.o];rfl),rfl⟩
 | true =>
  go_wp2_with fail
  refine HC.o.mono ?_
  rintro e w' ⟨rfl,rfl⟩
  go_wp2
  go_ret
  exact⟨Zag (by unfold Zee Z1s;rw[HQ.o];rfl),rfl⟩
end
end Go.Proofs.YtmkdfbelbcocpaaGreatDoor
