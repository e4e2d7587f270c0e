import Derived.WideKeyEntry
import Derived.Test.YtbcgocpihobjnaaGreatDoorCE37
import Derived.Test.YtbcgocpihobjnaaGreatDoorCE0
set_option linter.all false
set_option maxHeartbeats 16000000
set_option maxRecDepth 100000
namespace Go.Proofs.YtbcgocpihobjnaaGreatDoor
section
open Go.RowKit Go.Sort Go.Maps Go.WideElems Go.ChangeMaps Go.MapKept
theorem Zma {w:World} {b:Nat} {o:Obj} (h:w.heap[b]?=some o):setBlock w b o=w:=by
 unfold setBlock
 have:w.heap.setIfInBounds b o=w.heap:=by
  apply Array.ext_getElem?;intro i;rw[Array.getElem?_setIfInBounds];by_cases e:b=i
  ·subst e
   rw[if_pos rfl,if_pos (Array.getElem?_eq_some_iff.1 h).1,h]
  ·rw[if_neg e]
 rw[this]
theorem Zvp {H:Type} {P:Program} {w:World} {t k e:TypeId} {b n:Nat} {D:DataW H} {q:IntKind} (K0:WideMaps.KeyLaw P k) (K:Keyed P k) (ht:P.underlying t=some (.map k e)) (he:P.underlying e=some (.int q)) (hz:∀ u:World,(zeroValue e).run P u = .ok (.int q 0) u)
  (h:w.ownsMap P k (plainElem P e) b n D) (hn:n<maxLen) {key:Value} {kl:Lit} (hkey:keyOf P k key=some kl) :
  ∃ (c:Int) (st:Nat) (w1:World),(Instr.mapEntry t (.map (some b)) key).run P w = .ok (.tuple #[.int q c,goInt st]) w1∧(Instr.lookup t (.map (some b)) key false).run P w = .ok (.int q c) w∧(Instr.lookup t (.map (some b)) key false).run P w1 = .ok (.int q c) w1∧D.atKey kl (.lit (.int q 0)) = .lit (.int q c) ∧
   ∀ x:Int,(Lit.int q x).wf=true→∃ w2,(Instr.entryStore t (.map (some b)) (goInt st) (.int q x)).run P w1 = .ok () w2∧w2.ownsMap P k (plainElem P e) b (n+1) (D.put kl (.lit (.int q x)))∧w.grownBy w2 (some b):=by
 have hw0:(Lit.int q 0).wf=true:=by cases q<;>decide
 obtain⟨c,hl,hat,hwc⟩:=h.lookup_int K ht he (hz w) hkey
 have hupd:=fun (x:Int) (hx:(Lit.int q x).wf=true)=>h.update K ht hn hkey (plainElem_int (H:=H) he hx)
 have h':=h;obtain⟨es,clock,hb,F,hs,hD⟩:=h';obtain⟨v0,st,es1,clock1,hrun,-,hstore⟩:=entry_then_store K0 ht hz hb F hkey;have hw1:(setBlock w b (.map es1 clock1)).heap[b]?=some (.map es1 clock1):=heap_setBlock_same hb _
 have hsto:∀ x:Int,(Lit.int q x).wf=true→∃ w2,(Instr.entryStore t (.map (some b)) (goInt st) (.int q x)).run P (setBlock w b (.map es1 clock1)) = .ok () w2∧w2.ownsMap P k (plainElem P e) b (n+1) (D.put kl (.lit (.int q x)))∧w.grownBy w2 (some b):=fun x hx=>by
  obtain⟨es',clock',h1,h2⟩:=hstore (setBlock w b (.map es1 clock1)) (.int q x) hw1;obtain⟨w2,h3,h4,h5⟩:=hupd x hx;rw[h2] at h3
  have e:setBlock w b (.map es' clock')=w2:=by injection h3
  refine⟨w2,?_,h4,h5⟩;rw[h1,← e];unfold setBlock;simp
 rcases K.find w hkey es.toList F.keys with ⟨h1,h2⟩ | ⟨j,e0,h1,h2,h3⟩
 ·have hl2:(Instr.lookup t (.map (some b)) key false).run P w = .ok (.int q 0) w:=by
   simp[Instr.lookup,run_underlying ht,MapKept.run_getObj_map hb,K.check w _ hkey,h1,hz,Result.andThen]
  have hm2:(Instr.mapEntry t (.map (some b)) key).run P w = .ok (.tuple #[.int q 0,goInt clock]) (setBlock w b (.map (es.push ⟨key,.int q 0,clock⟩) (clock+1))):=by
   simp[Instr.mapEntry,run_underlying ht,MapKept.run_getObj_map hb,K.check w false hkey,h1,hz,MapKept.run_setObj_map _ hb,Result.andThen,setBlock]
  have hu2:(Instr.mapUpdate t (.map (some b)) key (.int q 0)).run P w = .ok () (setBlock w b (.map (es.push ⟨key,.int q 0,clock⟩) (clock+1))):=by
   simp[Instr.mapUpdate,run_underlying ht,MapKept.run_getObj_map hb,K.check w false hkey,h1,MapKept.run_setObj_map _ hb,Result.andThen,setBlock]
  have hc:c=0:=by
   rw[hl] at hl2;injection hl2 with h3;injection h3
  subst hc;rw[hm2] at hrun;injection hrun with e1 e2
  have e3:v0 = .int q 0:=by
   injection e1 with e1;have:=congrArg (fun a:Array Value=>a[0]?) e1;simpa using this.symm
  obtain⟨w',h3,h4,h5⟩:=hupd 0 hw0;rw[hu2] at h3
  have e4:setBlock w b (.map (es.push ⟨key,.int q 0,clock⟩) (clock+1))=w':=by injection h3
  have hw1':setBlock w b (.map es1 clock1)=w':=by rw[← e2,e4]
  obtain⟨c1,hl3,hat3,-⟩:=h4.lookup_int K ht he (hz w') hkey;have hD2:∃ l,D = .map l:=⟨_,hD⟩;obtain⟨l,hDl⟩:=hD2
  have hc1:c1=0:=by
   rw[hDl] at hat3;rw[atKey_put_same ⟨l,rfl⟩ (K.key hkey)] at hat3;injection hat3 with h6;injection h6 with _ h7;exact h7.symm
  subst hc1;refine⟨0,st,setBlock w b (.map es1 clock1),?_,hl,by rw[hw1'];exact hl3,hat,hsto⟩;rw[hm2,e2];have:(Value.tuple #[.int q 0,goInt clock]) = .tuple #[v0,goInt st]:=e1;rw[this,e3]
 ·have hj:es[j]?=some e0:=by simpa using h2
  have hl2:(Instr.lookup t (.map (some b)) key false).run P w = .ok e0.val w:=by
   simp[Instr.lookup,run_underlying ht,MapKept.run_getObj_map hb,K.check w _ hkey,h1,Result.andThen]
  have hsame:es.modify j (fun e=>{ e with key:=key })=es:=by
   apply Array.ext_getElem?;intro i;rw[Array.getElem?_modify];by_cases e:j=i
   ·subst e
    rw[if_pos rfl,hj];show some { e0 with key:=key }=some e0;rw[← h3]
   ·rw[if_neg e]
  have hm2:(Instr.mapEntry t (.map (some b)) key).run P w = .ok (.tuple #[e0.val,goInt e0.born]) (setBlock w b (.map es clock)):=by
   simp[Instr.mapEntry,run_underlying ht,MapKept.run_getObj_map hb,K.check w false hkey,h1,hj,h3,K.stays w hkey,hsame,MapKept.run_setObj_map _ hb,Result.andThen,setBlock]
  have hv:e0.val = .int q c:=by
   rw[hl] at hl2;injection hl2 with h3;exact h3.symm
  rw[hm2] at hrun;injection hrun with e1 e2
  have e3:v0 = .int q c:=by
   injection e1 with e1;have:=congrArg (fun a:Array Value=>a[0]?) e1;rw[← hv];simpa using this.symm
  have hw1':setBlock w b (.map es1 clock1)=w:=by rw[← e2,Zma hb]
  refine⟨c,st,setBlock w b (.map es1 clock1),?_,hl,by rw[hw1'];exact hl,hat,hsto⟩;rw[hm2,e2];have:(Value.tuple #[e0.val,goInt e0.born]) = .tuple #[v0,goInt st]:=e1;rw[this,e3]
end
section
open Go.RowKit Go.Sort Go.Maps Go.WideElems Go.ChangeMaps Go.MapKept
theorem Z29:(148:TypeId) < Tryz.prog.types.size:=of_decide_eq_true (by kernel_rfl)
theorem Z2n:Tryz.prog.keyTypeAt 2 148=true:=by kernel_rfl
theorem Z0c:WideMaps.KeyLaw Tryz.prog 148:=deep_law_laid Zqo (m:=2) (by omega) Z29 Z2n (by rw[Tryz.underlying148])
theorem Zy0:Keyed Tryz.prog 148:=Keyed.of_law Z0c
theorem Z1l:Tryz.prog.keyType 148=true:=by kernel_rfl
theorem Zq8:Tryz.prog.cellsOf 148=2:=by kernel_rfl
def Z1m (m v:Int):Lit:=.string (keyBytes [.int .i64 m,.int .i64 v])
theorem Zmb {x:Int} (h0:-1000000≤x) (h1:x≤1000000):(Lit.int .i64 x).wf=true:=by
 have e1:IntKind.i64.min = -9223372036854775808:=by decide
 have e2:IntKind.i64.max=9223372036854775807:=by decide
 show (decide (IntKind.i64.min≤x)&&decide (x≤IntKind.i64.max))=true;rw[e1,e2,decide_eq_true (by omega),decide_eq_true (by omega)];rfl
theorem Zgg (m v:Int) (hm:-1000000≤m∧m≤1000000) (hv:-1000000≤v∧v≤1000000):keyOf Tryz.prog 148 (.agg #[.int .i64 m,.int .i64 v])=some (Z1m m v):=by
 obtain⟨n,hn⟩:=Zt6
 have hf:(Value.agg #[.int .i64 m,.int .i64 v]).formed Tryz.prog 148=true:=by
  unfold Value.formed;rw[Tryz.underlying148];simp[Zq8]
 have h1:=Zmb hm.1 hm.2;have h2:=Zmb hv.1 hv.2
 have c3:Tryz.prog.cellsOf 3=1:=by kernel_rfl
 unfold keyOf;rw[Tryz.underlying148];simp only[Z1l,hf,Bool.and_self,if_true,hn]
 have hx:Tryz.prog.keyLits (n+2) 148 [.int .i64 m,.int .i64 v]=some [.int .i64 m,.int .i64 v]:=by
  unfold Program.keyLits;rw[Tryz.underlying148];simp[Zq8,c3,Program.keyLits,Tryz.underlying3,h1,h2]
 show (Tryz.prog.keyLits (n+2) 148 ((#[.int .i64 m,.int .i64 v]:Array Value).toList)).map (fun ls=>Lit.string (keyBytes ls))=some (Z1m m v);rw[show (#[.int .i64 m,.int .i64 v]:Array Value).toList=[.int .i64 m,.int .i64 v] from rfl,hx];rfl
def Zff (w:World) (b n:Nat) (cnt:Int→Int→Int):Prop:=∃ D:DataW Value,w.ownsMap Tryz.prog 148 (plainElem Tryz.prog 3) b n D∧∀ m v,(-1000000≤m∧m≤1000000)→(-1000000≤v∧v≤1000000)→D.atKey (Z1m m v) (.lit (.int .i64 0)) = .lit (.int .i64 (cnt m v))
theorem Zff.lt {w:World} {b n:Nat} {cnt:Int→Int→Int} (h:Zff w b n cnt):b<w.heap.size:=by
 obtain⟨D,h1,-⟩:=h;exact h1.lt
theorem Zff.step {w w':World} {b n:Nat} {cnt:Int→Int→Int} (h:Zff w b n cnt) (hb:Below w.heap.size w w'):Zff w' b n cnt:=by
 obtain⟨D,⟨es,clock,h1,h2,h3,h4⟩,h5⟩:=h;exact⟨D,⟨es,clock,(hb.block b (Array.getElem?_eq_some_iff.1 h1).1).trans h1,h2,h3,h4⟩,h5⟩
theorem Zff.new (w:World):Zff (w.alloc (.map #[] 0)) w.heap.size 0 (fun _ _=>0):=⟨.map [],World.ownsMap_made w Tryz.prog 148 _,fun m v _ _=>rfl⟩
theorem Zon (w:World):(zeroValue 3).run Tryz.prog w = .ok (.int .i64 0) w:=Tryz.zeroValue3 w
theorem Zff.look {w:World} {b n:Nat} {cnt:Int→Int→Int} (h:Zff w b n cnt) (m v:Int) (hm:-1000000≤m∧m≤1000000) (hv:-1000000≤v∧v≤1000000) :
  (Instr.lookup 146 (.map (some b)) (.agg #[.int .i64 m,.int .i64 v]) false).run Tryz.prog w = .ok (.int .i64 (cnt m v)) w:=by
 obtain⟨D,h1,h2⟩:=h;obtain⟨c,hl,hat,-⟩:=h1.lookup_int Zy0 Tryz.underlying146 Tryz.underlying3 (Zon w) (Zgg m v hm hv);rw[h2 m v hm hv] at hat;have h4:cnt m v=c:=(Lit.int.inj (DataW.lit.inj hat)).2;rw[hl,h4]
theorem Zff.incr {w:World} {b n:Nat} {cnt:Int→Int→Int} (h:Zff w b n cnt) (hn:n≤1000000) (m v:Int) (hm:-1000000≤m∧m≤1000000) (hv:-1000000≤v∧v≤1000000) (hc:-1000000≤cnt m v+1∧cnt m v+1≤1000000) :
  ∃ (st:Nat) (w1 w2:World),(Instr.mapEntry 146 (.map (some b)) (.agg #[.int .i64 m,.int .i64 v])).run Tryz.prog w = .ok (.tuple #[.int .i64 (cnt m v),goInt st]) w1∧(Instr.lookup 146 (.map (some b)) (.agg #[.int .i64 m,.int .i64 v]) false).run Tryz.prog w = .ok (.int .i64 (cnt m v)) w ∧
   (Instr.lookup 146 (.map (some b)) (.agg #[.int .i64 m,.int .i64 v]) false).run Tryz.prog w1 = .ok (.int .i64 (cnt m v)) w1∧(Instr.entryStore 146 (.map (some b)) (goInt st) (.int .i64 (cnt m v+1))).run Tryz.prog w1 = .ok () w2 ∧
   Zff w2 b (n+1) (fun m' v'=>cnt m' v'+(if m'=m∧v'=v then 1 else 0))∧w.grownBy w2 (some b):=by
 obtain⟨D,h1,h2⟩:=h;obtain⟨c,st,w1,r1,r2,r3,r4,r5⟩:=Zvp Z0c Zy0 Tryz.underlying146 Tryz.underlying3 Zon h1 (by simp only[maxLen];omega) (Zgg m v hm hv);rw[h2 m v hm hv] at r4;have hcc:c=cnt m v:=(Lit.int.inj (DataW.lit.inj r4)).2.symm;subst hcc;obtain⟨w2,r6,r7,r8⟩:=r5 (cnt m v+1) (Zmb hc.1 hc.2);refine⟨st,w1,w2,r1,r2,r3,r6,⟨_,r7,fun m' v' hm' hv'=>?_⟩,r8⟩;by_cases e:m'=m∧v'=v
 ·obtain⟨rfl,rfl⟩:=e
  show _=DataW.lit (Lit.int .i64 (cnt m' v'+if m'=m'∧v'=v' then 1 else 0));rw[if_pos ⟨rfl,rfl⟩];obtain⟨es,clock,-,-,-,hD⟩:=h1;rw[atKey_put_same ⟨_,hD⟩ (Zy0.key (Zgg m' v' hm hv))]
 ·show _=DataW.lit (Lit.int .i64 (cnt m' v'+if m'=m∧v'=v then 1 else 0))
  rw[if_neg e,Int.add_zero]
  rw[atKey_put_other (fun h3=>e (by
   have h4:=Zgg m v hm hv;have h5:=Zgg m' v' hm' hv';rw[h3] at h5;have h6:=Zy0.inj h4 h5;injection h6 with h6;have a0:=congrArg (fun a:Array Value=>a[0]?) h6;have a1:=congrArg (fun a:Array Value=>a[1]?) h6;simp at a0 a1
   exact⟨a0.symm,a1.symm⟩))]
  exact h2 m' v' hm' hv'
end
section
open Go.RowKit Go.Sort Go.Maps
def Zmc (c:Crw) (i:Nat):Int:=(c.us.getD i ⟨0,0,0,0⟩).w
def Zeu (c:Crw) (l:List Int) (n:Nat) (m v:Int):Nat:=(List.range n).countP (fun j=>l.getD j 0==m&&Zmc c j==v)
theorem Zsk (c:Crw) (l:List Int) (n:Nat) (m v:Int):((Zeu c l (n+1) m v:Nat):Int)=((Zeu c l n m v:Nat):Int)+(if m=l.getD n 0∧v=Zmc c n then 1 else 0):=by
 unfold Zeu;rw[List.range_succ,List.countP_append,List.countP_singleton];by_cases e:m=l.getD n 0∧v=Zmc c n
 ·obtain⟨rfl,rfl⟩:=e
  simp
 ·rw[if_neg e]
  have:(l.getD n 0==m&&Zmc c n==v)=false:=by
   rw[Bool.eq_false_iff];intro h;simp only[Bool.and_eq_true,beq_iff_eq] at h;exact e ⟨h.1.symm,h.2.symm⟩
  rw[this];simp
theorem Zy1 (c:Crw) (l:List Int) (n:Nat) (m v:Int):Zeu c l n m v≤n:=by
 unfold Zeu;have:=List.countP_le_length (p:=fun j=>l.getD j 0==m&&Zmc c j==v) (l:=List.range n)
 rwa [List.length_range] at this
def Ze7 (c:Crw) (l:List Int) (i:Nat):Bool:=Zb8 (l.getD i 0) c.ms.length&&((Zao c).getD i []).getD (l.getD i 0).toNat false&&decide (((Zeu c l (i+1) (l.getD i 0) (Zmc c i):Nat):Int)≤Zbj (c.ms.getD (l.getD i 0).toNat ⟨[],[],0⟩).t (Zmc c i).toNat)
def Zmd (c:Crw) (l:List Int):Bool:=Zal c&&decide (l.length=c.us.length)&&(List.range l.length).all (Ze7 c l)
theorem Z3a (t:Array Value) (h:t.size=82):∃ f:Nat→Value,t=#[f 0,f 1,f 2,f 3,f 4,f 5,f 6,f 7,f 8,f 9,f 10,f 11,f 12,f 13,f 14,f 15,f 16,f 17,f 18,f 19,f 20,f 21,f 22,f 23,f 24,f 25,f 26,f 27,f 28,f 29,f 30,f 31,f 32,f 33,f 34,f 35,f 36,f 37,f 38,f 39,f 40,f 41,f 42,f 43,f 44,f 45,f 46,f 47,f 48,f 49,f 50,f 51,f 52,f 53,f 54,f 55,f 56,f 57,f 58,f 59,f 60,f 61,f 62,f 63,f 64,f 65,f 66,f 67,f 68,f 69,f 70,f 71,f 72,f 73,f 74,f 75,f 76,f 77,f 78,f 79,f 80,f 81]:=by
 obtain⟨l⟩:=t;have hl:l.length=82:=h
 have e:l=(List.range 82).map (fun i=>l.getD i undef):=by
  apply List.ext_getElem
  ·simp[hl]
  ·intro i h1 h2
   simp[List.getD,h1]
 exact⟨fun i=>l.getD i undef,congrArg List.toArray e⟩
def Zy2 (MB X i j n0 c1 nm mc gm om nb mbc nt mtc:Nat) (mbo mto:Option Addr) (mr tk:Int) (ov:Bool) (i:Nat) (W:World) (v:Value):Prop:=match i with
 | 0=>v = .map (some MB)
 | 1=>v = .int .i64 (j:Nat)
 | 2=>v = .int .i64 (n0:Nat)
 | 3=>v = .agg #[.int .i64 (j:Nat),.int .i64 (n0:Nat)]
 | 4=>v = .int .i64 (c1:Nat)
 | 5=>v = .pointer (some ⟨X,1,none⟩)
 | 6=>v = .slice (some ⟨gm,om,none⟩) nm mc
 | 7=>v = .int .i64 (j:Nat)
 | 8=>v = .pointer (some ⟨gm,om+j*3,none⟩)
 | 9=>v = .agg #[.slice mbo nb mbc,.slice mto nt mtc,.int .i64 mr]
 | 10=>v = .int .i64 (n0:Nat)
 | 11=>v = .int .i64 tk
 | 12=>v = .bool ov
 | _=>True
theorem Zsl (MB X i j n0 c1 nm mc gm om nb mbc nt mtc:Nat) (mbo mto:Option Addr) (mr tk:Int) (ov:Bool):∀ i w w' v,Zy2 MB X i j n0 c1 nm mc gm om nb mbc nt mtc mbo mto mr tk ov i w v→Below w.heap.size w w'→Zy2 MB X i j n0 c1 nm mc gm om nb mbc nt mtc mbo mto mr tk ov i w' v:=by
 intro i w w' v h hb
 match i with
 | 0=>exact h
 | 1=>exact h
 | 2=>exact h
 | 3=>exact h
 | 4=>exact h
 | 5=>exact h
 | 6=>exact h
 | 7=>exact h
 | 8=>exact h
 | 9=>exact h
 | 10=>exact h
 | 11=>exact h
 | 12=>exact h
 | k+13=>trivial
theorem Zy3 (w:World) (c:Crw) (cs:List Value) (B:Nat) (l:List Int) (lo:Option Addr) (lc:Nat) (ha:ArgC w c cs B) (hl:Zak Zbe w lo l) :
  Calls Tryz.prog 52 #[.agg cs.toArray,.slice lo l.length lc] w fun e w'=>e = .returned (.bool (Zmd c l))∧Below w.heap.size w w':=by
 have HOP:=ħ (fun W (hW:Below w.heap.size w W)=>Zcb W c cs (ha.below hW).crw B (ha.below hW).tab ha.ok);have HNU:=ha.nu;have HRK:=ħ (fun (h:Zal c=true)=>Zap h (by omega));have HVP:=ħ (fun (h:Zal c=true)=>Zas h);have HAC:=ħ ha;have hnq0:=ha.ok.nq;have hnm0:=ha.ok.nm;have HPA:Hid (Zmd c l=(Zal c&&decide (l.length=c.us.length)&&(List.range l.length).all (Ze7 c l))):=ħ rfl
 have HBAD:Hid (∀ i,i<l.length→Ze7 c l i=false→Zmd c l=false):=ħ (fun i hi h=>by
  unfold Zmd
  have:(List.range l.length).all (Ze7 c l)=false:=by
   rw[List.all_eq_false];exact⟨i,List.mem_range.2 hi,by rw[h];decide⟩
  rw[this,Bool.and_false])
 have HLW:=ħ (fun W (hW:Below w.heap.size w W)=>hl.below hW);clear hl;generalize Zmd c l=PA at *;generalize hll:l.length=nl at *;have HLL:=ħ hll;clear hll;obtain⟨qo,qc,mo,mc,uo,uc,rfl,hq0,hm0,hu0,-⟩:=ha.crw;have HMW:=ħ (fun W (hW:Below w.heap.size w W)=>hm0.below hW);have HUW:=ħ (fun W (hW:Below w.heap.size w W)=>hu0.below hW);unfold Ztb at HOP;clear ha hq0 hm0 hu0;generalize hnq:c.qs.length=nq at *;generalize hnm:c.ms.length=nm at *;generalize hnu:c.us.length=nu at *;have HQE:=ħ hnq;have HME:=ħ hnm;have HUE:=ħ hnu;clear hnq hnm hnu;generalize hvc:Zal c=vc at *;have HVC:=ħ hvc;clear hvc;have X1:Hid (Zaf (w.alloc (.cells #[.slice qo nq qc,.slice mo nm mc,.slice uo nu uc] 26)) w.heap.size 26 [.slice qo nq qc,.slice mo nm mc,.slice uo nu uc]):=ħ (heap_alloc_new w _);have B1:=ħ ((Below.refl w.heap.size w).alloc (Nat.le_refl _) (.cells #[.slice qo nq qc,.slice mo nm mc,.slice uo nu uc] 26))
 go_enter Tryz.func52,Tryz.ntmps52
 go_upto_region 1 with (fail)
 generalize w.alloc (.cells #[.slice qo nq qc,.slice mo nm mc,.slice uo nu uc] 26)=w1 at *;have c0:=X1.o.cell 0 _ rfl;have c1:=X1.o.cell 1 _ rfl;have c2:=X1.o.cell 2 _ rfl;have HCL:=ħ (HOP.o w1 B1.o);clear HOP
 go_wp2_with fail
 refine HCL.o.mono ?_;intro e w2 hq;obtain⟨hres,b2⟩:=hq;have B2:=ħ (B1.o.trans (b2.mono B1.o.size));have X2:=ħ (X1.o.step b2);have HSZ:Hid (w.heap.size<w2.heap.size):=ħ X2.o.lt;clear b2 c0 c1 c2 B1 X1 HCL
 cases vc with
 | false =>
  rw[if_neg (by decide)] at hres;subst hres;have HPN:Hid (PA=false):=ħ (by rw[HPA.o];rfl);clear HPA HBAD
  go_wp2_with fail
  go_ret;exact⟨by rw[HPN.o];rfl,B2.o⟩
 | true =>
  rw[if_pos rfl] at hres;obtain⟨A,rfl,hR,-⟩:=hres;have HR:=ħ hR;have HOK:=ħ (HRK.o rfl);clear hR HRK;have c2:=X2.o.cell 2 _ rfl;by_cases hlu:nl=nu
  ·subst hlu
   have HPN:Hid ((List.range nl).all (Ze7 c l)=true→PA=true):=ħ (fun h=>by rw[HPA.o,h,decide_eq_true rfl];rfl);obtain⟨-,hm64,-,-,hvm,hvu⟩:=HVP.o (by first | rfl | trivial);have HVM:=ħ hvm;have HVU:=ħ hvu;clear HPA HVP hvm hvu;have hmm:=@run_makeMap Tryz.prog
   go_wp2_with fail
   clear c2 hmm;have bx:=(Below.refl w2.heap.size w2).alloc (Nat.le_refl _) (.map #[] 0);have M3:Hid (Zff (w2.alloc (.map #[] 0)) w2.heap.size 0 (fun m v=>((Zeu c l 0 m v:Nat):Int))):=ħ (Zff.new w2);have B3:=ħ (B2.o.trans (bx.mono B2.o.size));have HR3:=ħ (HR.o.below bx);have X3:=ħ (X2.o.step bx);obtain⟨MB,hMB⟩:∃ y,w2.heap.size=y:=⟨_,rfl⟩;rw[hMB] at M3 ⊢;have HMB:Hid (w.heap.size<MB):=ħ (by rw[← hMB];exact HSZ.o);have HRW:=ħ (fun W (hW:Below w2.heap.size w2 W)=>HR.o.below hW);rw[hMB] at HRW;have B23:Hid (Below MB w2 (w2.alloc (.map #[] 0))):=ħ (by rw[← hMB];exact bx);have X2W:=ħ (fun W (hW:Below MB w2 W)=>(show Zaf W w.heap.size 26 [.slice qo nq qc,.slice mo nm mc,.slice uo nl uc] from X2.o.step (by rw[hMB];exact hW)));have HBW:=ħ (fun W (hW:Below MB w2 W)=>B2.o.trans (hW.mono (by rw[← hMB];exact B2.o.size)));clear bx hMB HR X2 B2 HSZ HR3 X3 B3;generalize w2.alloc (.map #[] 0)=w3 at *;have HJ0:Hid (∀ j,j<0→Ze7 c l j=true):=ħ (fun j hj=>absurd hj (Nat.not_lt_zero j))
   go_loopw [29] (fun kv wr=>∃ (i:Nat),kv = .int .i64 i∧i≤nl∧Hid (∀ j,j<i→Ze7 c l j=true)∧Hid (Zff wr MB i (fun m v=>((Zeu c l i m v:Nat):Int)))∧Hid (Below MB w2 wr)) (fun k _=>(nl-intOf k).toNat)
   case atStart=>exact⟨0,rfl,by omega,HJ0,M3,B23⟩
   case round =>
    clear HJ0 M3 B23;obtain⟨i,rfl,hi,HJ,M4,B4⟩:=hrel;have e2:IntKind.i64.wrap ((i:Int)+1)=((i+1:Nat):Int):=IntWalk.i64_in _ (by omega);by_cases hin:i<nl
    ·have kk:(i:Int)<nl:=by omega
     obtain⟨m,hm⟩:∃ m,l[i]?=some m:=⟨_,List.getElem?_eq_getElem (by rw[HLL.o];exact hin)⟩;obtain⟨gl,ol,hlo,hgl,hlc⟩:=(HLW.o wr (HBW.o wr B4.o)).at Zax i m hm;have l0:=hlc 0 _ rfl;rw[Nat.mul_one,Nat.add_zero] at l0;subst hlo;have HLG:Hid (l.getD i 0=m):=ħ (by rw[List.getD_eq_getElem?_getD,hm];rfl);have HFA:Hid (Ze7 c l i=(Zb8 m nm&&((Zao c).getD i []).getD m.toNat false&&decide (((Zeu c l (i+1) m (Zmc c i):Nat):Int)≤Zbj (c.ms.getD m.toNat ⟨[],[],0⟩).t (Zmc c i).toNat))):=ħ (by unfold Ze7;rw[HLG.o,HME.o]);have X4:=ħ (X2W.o wr B4.o);have c1:=X4.o.cell 1 _ rfl;have ew:IntKind.i64.wrap ((nm:Int)-1)=(nm:Int)-1:=IntWalk.i64_in _ (by omega);have HWI:=ħ (Zaz m 0 ((nm:Int)-1) wr);have HIN:=ħ (fun h=>Zbp (u:=m) (n:=nm) h);have HWI2:Hid (Calls Tryz.prog 83 #[.int .i64 m,.int .i64 0,.int .i64 ((nm:Int)-1)] wr fun e w'=>e = .returned (.bool (Zb8 m nm))∧wr=w'):=HWI;clear hm hlc hgl HWI;generalize hib:Zb8 m nm=ib at *;have HIB:=ħ hib;clear hib;obtain⟨ru,hru⟩:∃ y,(Zao c)[i]?=some y:=⟨_,List.getElem?_eq_getElem (by rw[HOK.o.len,HUE.o];exact hin)⟩;have HRL:Hid (ru.length=nm):=ħ (by rw[HOK.o.row _ (List.mem_of_getElem? hru),HME.o]);have HRU:Hid ((Zao c).getD i []=ru):=ħ (by rw[List.getD_eq_getElem?_getD,hru];rfl);obtain⟨qo',mo',uo',ho',co',qc',mc',uc',hc',cc',hA,hRC,-⟩:=HRW.o wr B4.o;have a4:=hA.cell 4 _ rfl;rw[HOK.o.len,HUE.o] at a4;obtain⟨gc,oc,bo,bc,hco,hgc,hrc,hrb⟩:=hRC.c.at i ru hru;rw[hco] at a4;rw[HRL.o] at hrc;have HRB:=ħ hrb;clear hA hRC hco hgc hrb hru
     cases ib with
     | false =>
      have HOF:Hid (Ze7 c l i=false):=ħ (by rw[HFA.o];rfl);clear HFA
      go_wp2_with fail
      refine HWI2.o.mono ?_;rintro e w4 ⟨rfl,rfl⟩;clear HWI2 c1 l0 a4 hrc
      go_wp2_with fail
      go_ret;exact⟨by rw[HBAD.o i hin HOF.o];rfl,HBW.o _ B4.o⟩
     | true =>
      obtain⟨j,hmj,hj⟩:=HIN.o (by first | rfl | trivial);subst hmj;obtain⟨gb,ob,hbo,hbc⟩:=HRB.o.bool j (by rw[HRL.o];exact hj);have HBO:=ħ hbo;subst hbo
      have jj:(j:Int)<nm:=by omega
      obtain⟨bt,hbt⟩:∃ y,ru.getD j false=y:=⟨_,rfl⟩;rw[hbt] at hbc;have HBT:=ħ hbt;clear hbt HRB
      go_wp2_with fail
      refine HWI2.o.mono ?_;rintro e w4 ⟨rfl,rfl⟩;clear HWI2
      cases bt with
      | false =>
       have HOF:Hid (Ze7 c l i=false):=ħ (by rw[HFA.o,HRU.o,Int.toNat_natCast,HBT.o];rfl);clear HFA
       go_wp2_with fail
       go_ret;exact⟨by rw[HBAD.o i hin HOF.o];rfl,HBW.o _ B4.o⟩
      | true =>
       obtain⟨xu,hxu⟩:∃ y,c.us[i]?=some y:=⟨_,List.getElem?_eq_getElem (by rw[HUE.o];exact hin)⟩;have hvx:=Zd0 (HVU.o xu (List.mem_of_getElem? hxu));obtain⟨n0,hn0⟩:∃ n:Nat,xu.w=(n:Int):=⟨xu.w.toNat,by omega⟩
       have HWU:Hid (Zmc c i=(n0:Int)):=ħ (by
        show (c.us.getD i ⟨0,0,0,0⟩).w=_
        rw[List.getD_eq_getElem?_getD,hxu];exact hn0)
       have hn0b:n0≤15:=by omega
       obtain⟨gu,ou,huo,hgu,hcu⟩:=(HUW.o wr (HBW.o wr B4.o)).at Za3 i xu hxu;have u0:=hcu 1 _ rfl;rw[hn0] at u0;have HUO:=ħ huo;have c2:=X4.o.cell 2 _ rfl;rw[huo] at c2;clear hvx hn0 hcu hgu hxu huo;have BD:=(Below.refl wr.heap.size wr).drew;have M5:=ħ (M4.o.step BD);have B5:=ħ (B4.o.trans (BD.mono (by have:=M4.o.lt;omega)));have hcle:=Zy1 c l i (j:Int) (n0:Int);obtain⟨st,w6,w7,t1,t2,t3,t4,M7,hgr⟩:=M5.o.incr (by omega) (j:Int) (n0:Int) (by omega) (by omega) (by omega);have HGR:=ħ hgr;have M7:=ħ M7;obtain⟨cn,hcn⟩:∃ y:Int,((Zeu c l i (j:Int) (n0:Int):Nat):Int)=y:=⟨_,rfl⟩
       have hc0:0≤cn∧cn≤1000:=by omega
       have HCN:=ħ hcn;rw[hcn] at t1 t2 t3 t4;unfold goInt at t1 t4;have e7:IntKind.i64.wrap (cn+1)=cn+1:=IntWalk.i64_in _ (by omega);clear hcn hgr hcle BD
       have M7:Hid (Zff w7 MB (i+1) (fun m v=>((Zeu c l (i+1) m v:Nat):Int))):=ħ (by
        have e:(fun m v=>((Zeu c l (i+1) m v:Nat):Int))=(fun m' v'=>((Zeu c l i m' v':Nat):Int)+(if m'=(j:Int)∧v'=(n0:Int) then 1 else 0)):=by
         funext m' v'
         rw[Zsk,HLG.o,HWU.o]
        rw[e];exact M7.o)
       have B7:=ħ (B5.o.grown HGR.o (by have:=M5.o.lt;omega) (fun k hk=>by cases hk;exact Nat.le_refl _));have X7:=ħ (X2W.o w7 B7.o);obtain⟨m2,hm2⟩:∃ y,c.ms[j]?=some y:=⟨_,List.getElem?_eq_getElem (by rw[HME.o];exact hj)⟩;have hmt:=Zh2 (HVM.o m2 (List.mem_of_getElem? hm2));have hml:=(HAC.o.ok.m m2 (List.mem_of_getElem? hm2));obtain⟨gm,om,cs2,hmo,hgm,hmc,hrd⟩:=(HMW.o w7 (HBW.o w7 B7.o)).at j m2 hm2;have HTI:=ħ (fun W (hW:Below w7.heap.size w7 W)=>Zen W m2 _ (hmc.below hW) n0 (by omega) hml.2.2);obtain⟨mbo,mbc,mto,mtc,hcs2,-,-⟩:=hmc;subst hcs2;have HRD:=ħ (fun W (hW:Below w7.heap.size w7 W)=>hrd.of_block (hW.block gm hgm));have HX7:=ħ (fun W (hW:Below w7.heap.size w7 W)=>X7.o.step hW);have HLK:=ħ (fun W (hW:Below w7.heap.size w7 W)=>(M7.o.step hW).look (j:Int) (n0:Int) (by omega) (by omega));have HTK:Hid (Zbj (c.ms.getD j ⟨[],[],0⟩).t (Zmc c i).toNat=Zbj m2.t n0):=ħ (by rw[HWU.o,List.getD_eq_getElem?_getD,hm2];rfl)
       have HFB:Hid (Ze7 c l i=decide (((Zeu c l (i+1) (j:Int) (n0:Int):Nat):Int)≤Zbj m2.t n0)):=ħ (by
        rw[HFA.o,HRU.o,Int.toNat_natCast,HBT.o,HTK.o,HWU.o];rfl)
       have HMO:=ħ hmo;clear hmo
       go_upto_region 11 with (fail)
       go_region
       go_wp2_with fail
       clear t1 t2 t3 t4 e7 hc0 c2 u0 hm2 hmt hml hgm hrd M5 B5 HFA HTK HCN HGR X4 ew;generalize Zbj m2.t n0=tk at *;generalize Zeu c l (i+1) (j:Int) (n0:Int)=c1 at *;generalize m2.b.length=nb at *;generalize m2.t.length=nt at *;generalize m2.r=mr at *;have HJJ:=ħ jj;obtain⟨ov,hov⟩:∃ b,decide (tk<(c1:Int))=b:=⟨_,rfl⟩;have HOV:=ħ hov;clear hov jj;refine Za2 (Zy2 MB (w.heap.size) i j n0 c1 nm mc gm om nb mbc nt mtc mbo mto mr tk ov) (by kernel_rfl) (Zsl MB (w.heap.size) i j n0 c1 nm mc gm om nb mbc nt mtc mbo mto mr tk ov) (Zb7 (by kernel_rfl)) (Zf5 (by kernel_rfl)) (Zbd (by kernel_rfl)) ?hs ?he
       case hs =>
        intro i o hi listed a' w' H hl2;have hl3:=Zat hl2;have hin:i<13:=(Array.getElem?_eq_some_iff.1 hi).1;have hb:=ħ H.below;have s2:=H.same 2 (Zam (by kernel_rfl));have s7:=H.same 7 (Zam (by kernel_rfl));have s9:=H.same 9 (Zam (by kernel_rfl));have s10:=H.same 10 (Zam (by kernel_rfl));have hdn:=H.done;have hdf:=H.defers;have hts:=H.tsize;clear hl2 H;obtain⟨t',df⟩:=a';obtain⟨f',rfl⟩:=Z3a t' hts;have hdf':df=[]:=hdf;subst hdf';have gs2:f' 2 = .pointer (some ⟨w.heap.size,0,none⟩):=s2;have gs7:f' 7 = .map (some MB):=s7;have gs9:f' 9 = .int .i64 (j:Nat):=s9;have gs10:f' 10 = .int .i64 (n0:Nat):=s10;clear s2 s7 s9 s10;clear hdf hts;have hcases:=Zk4 i hin;clear hin;rcases hcases with rfl | rfl | rfl | rfl | rfl | rfl | rfl | rfl | rfl | rfl | rfl | rfl | rfl
        ·obtain rfl:=Option.some.inj hi
         clear hdn hl3;rw[gs7];clear gs2 gs7 gs9 gs10;refine Zab rfl ?_
         go_wp2_with fail
         exact Zaa ⟨_,rfl,Below.refl _ _,rfl⟩
        ·obtain rfl:=Option.some.inj hi
         clear hdn hl3;rw[gs9];clear gs2 gs7 gs9 gs10;refine Zab rfl ?_
         go_wp2_with fail
         exact Zaa ⟨_,rfl,Below.refl _ _,rfl⟩
        ·obtain rfl:=Option.some.inj hi
         clear hdn hl3;rw[gs10];clear gs2 gs7 gs9 gs10;refine Zab rfl ?_
         go_wp2_with fail
         exact Zaa ⟨_,rfl,Below.refl _ _,rfl⟩
        ·obtain rfl:=Option.some.inj hi
         have dv1:f' 69 = .int .i64 (j:Nat):=hdn 1 _ 69 rfl (hl3 1 (by rfl)) rfl;have dv2:f' 70 = .int .i64 (n0:Nat):=hdn 2 _ 70 rfl (hl3 2 (by rfl)) rfl;clear hdn hl3;rw[dv1,dv2];clear dv1 dv2 gs2 gs7 gs9 gs10;refine Zab rfl ?_
         go_wp2_with fail
         exact Zaa ⟨_,rfl,Below.refl _ _,rfl⟩
        ·obtain rfl:=Option.some.inj hi
         have dv0:f' 68 = .map (some MB):=hdn 0 _ 68 rfl (hl3 0 (by rfl)) rfl;have dv3:f' 71 = .agg #[.int .i64 (j:Nat),.int .i64 (n0:Nat)]:=hdn 3 _ 71 rfl (hl3 3 (by rfl)) rfl;clear hdn hl3;rw[dv0,dv3];clear dv0 dv3 gs2 gs7 gs9 gs10;have tl:=HLK.o w' hb.o;refine Zab rfl ?_
         go_wp2_with fail
         exact Zaa ⟨_,rfl,Below.refl _ _,rfl⟩
        ·obtain rfl:=Option.some.inj hi
         clear hdn hl3;rw[gs2];clear gs2 gs7 gs9 gs10;refine Zab rfl ?_
         go_wp2_with fail
         exact Zaa ⟨_,rfl,Below.refl _ _,rfl⟩
        ·obtain rfl:=Option.some.inj hi
         have dv5:f' 73 = .pointer (some ⟨w.heap.size,1,none⟩):=hdn 5 _ 73 rfl (hl3 5 (by rfl)) rfl;clear hdn hl3;rw[dv5];clear dv5 gs2 gs7 gs9 gs10;have cc1:=(HX7.o w' hb.o).cell 1 _ rfl;rw[HMO.o] at cc1;refine Zab rfl ?_
         go_wp2_with fail
         exact Zaa ⟨_,rfl,Below.refl _ _,rfl⟩
        ·obtain rfl:=Option.some.inj hi
         clear hdn hl3;rw[gs9];clear gs2 gs7 gs9 gs10;refine Zab rfl ?_
         go_wp2_with fail
         exact Zaa ⟨_,rfl,Below.refl _ _,rfl⟩
        ·obtain rfl:=Option.some.inj hi
         have dv6:f' 74 = .slice (some ⟨gm,om,none⟩) nm mc:=hdn 6 _ 74 rfl (hl3 6 (by rfl)) rfl;have dv7:f' 75 = .int .i64 (j:Nat):=hdn 7 _ 75 rfl (hl3 7 (by rfl)) rfl;clear hdn hl3;rw[dv6,dv7];clear dv6 dv7 gs2 gs7 gs9 gs10;have jj:=HJJ.o;refine Zab rfl ?_
         go_wp2_with fail
         exact Zaa ⟨_,rfl,Below.refl _ _,rfl⟩
        ·obtain rfl:=Option.some.inj hi
         have dv8:f' 76 = .pointer (some ⟨gm,om+j*3,none⟩):=hdn 8 _ 76 rfl (hl3 8 (by rfl)) rfl;clear hdn hl3;rw[dv8];clear dv8 gs2 gs7 gs9 gs10;have m0c:=HRD.o w' hb.o 0 _ rfl;have m1c:=HRD.o w' hb.o 1 _ rfl;have m2c:=HRD.o w' hb.o 2 _ rfl;rw[Nat.add_zero] at m0c;refine Zab rfl ?_
         go_wp2_with fail
         exact Zaa ⟨_,rfl,Below.refl _ _,rfl⟩
        ·obtain rfl:=Option.some.inj hi
         clear hdn hl3;rw[gs10];clear gs2 gs7 gs9 gs10;refine Zab rfl ?_
         go_wp2_with fail
         exact Zaa ⟨_,rfl,Below.refl _ _,rfl⟩
        ·obtain rfl:=Option.some.inj hi
         have dv9:f' 77 = .agg #[.slice mbo nb mbc,.slice mto nt mtc,.int .i64 mr]:=hdn 9 _ 77 rfl (hl3 9 (by rfl)) rfl;have dv10:f' 78 = .int .i64 (n0:Nat):=hdn 10 _ 78 rfl (hl3 10 (by rfl)) rfl;clear hdn hl3;rw[dv9,dv10];clear dv9 dv10 gs2 gs7 gs9 gs10;refine Zab rfl ?_
         go_wp2_with fail
         refine (HTI.o w' hb.o).mono ?_;rintro e w4 ⟨rfl,b4⟩;have HB4:=ħ b4;clear b4
         go_wp2_with fail
         exact Zaa ⟨_,rfl,HB4.o,rfl⟩
        ·obtain rfl:=Option.some.inj hi
         have dv4:f' 72 = .int .i64 (c1:Nat):=hdn 4 _ 72 rfl (hl3 4 (by rfl)) rfl;have dv11:f' 79 = .int .i64 tk:=hdn 11 _ 79 rfl (hl3 11 (by rfl)) rfl;clear hdn hl3;rw[dv4,dv11];clear dv4 dv11 gs2 gs7 gs9 gs10;refine Zab rfl ?_
         go_wp2_with fail
         exact Zaa ⟨_,rfl,Below.refl _ _,congrArg Value.bool HOV.o⟩
       case he =>
        intro listed a' w4 H hall;have hd12:Zy2 MB (w.heap.size) i j n0 c1 nm mc gm om nb mbc nt mtc mbo mto mr tk ov 12 w4 (a'.tmps.getD 80 undef):=H.done 12 _ 80 rfl (hall 12 (by decide)) rfl;have hb4:=ħ H.below;have hact:=H.act [68,69,70,71,72,73,74,75,76,77,78,79,80] (Zc2 (by kernel_rfl));clear H hall;simp only[List.foldl_cons,List.foldl_nil] at hact;generalize a'.tmps.getD 68 undef=z68 at *;generalize a'.tmps.getD 69 undef=z69 at *;generalize a'.tmps.getD 70 undef=z70 at *;generalize a'.tmps.getD 71 undef=z71 at *;generalize a'.tmps.getD 72 undef=z72 at *;generalize a'.tmps.getD 73 undef=z73 at *;generalize a'.tmps.getD 74 undef=z74 at *;generalize a'.tmps.getD 75 undef=z75 at *;generalize a'.tmps.getD 76 undef=z76 at *;generalize a'.tmps.getD 77 undef=z77 at *;generalize a'.tmps.getD 78 undef=z78 at *;generalize a'.tmps.getD 79 undef=z79 at *;generalize a'.tmps.getD 80 undef=z80 at *;subst hact;have e12:z80 = .bool ov:=hd12;subst e12;clear hd12;simp only[Act.put,List.setIfInBounds_toArray,List.set_cons_succ,List.set_cons_zero]
        cases ov with
        | true =>
         have HOF:Hid (Ze7 c l i=false):=ħ (by
          have:=of_decide_eq_true HOV.o
          rw[HFB.o];exact decide_eq_false (by omega))
         have B8:=ħ (B7.o.trans (hb4.o.mono (by have:=M7.o.lt;omega)))
         go_wp2_with fail
         go_ret;exact⟨by rw[HBAD.o i hin HOF.o];rfl,HBW.o _ B8.o⟩
        | false =>
         have HOF:Hid (Ze7 c l i=true):=ħ (by
          have:=of_decide_eq_false HOV.o
          rw[HFB.o];exact decide_eq_true (by omega))
         have B8:=ħ (B7.o.trans (hb4.o.mono (by have:=M7.o.lt;omega)));have M8:=ħ (M7.o.step hb4.o);clear hb4 M7 B7
         go_wp2_with fail
         go_roundw
         case rel=>exact⟨i+1,by go_num,by omega,ħ (fun j' hj'=>by
          rcases Nat.lt_or_ge j' i with h | h
          ·exact HJ.o j' h
          ·obtain rfl:j'=i:=by omega
           exact HOF.o),M8,B8⟩
         case measure=>simp only[intOf];omega
    ·have kk:¬ (i:Int)<nl:=by omega
     obtain rfl:nl=i:=by omega
     have HT:=ħ (HPN.o (by rw[List.all_eq_true];exact fun j hj=>HJ.o j (List.mem_range.1 hj)))
     go_wp2_with fail
     go_ret;exact⟨by rw[HT.o];rfl,HBW.o _ B4.o⟩
  ·have HPN:Hid (PA=false):=ħ (by rw[HPA.o,decide_eq_false hlu];rfl)
   have hne:¬ ((nl:Nat):Int)=nu:=by omega
   clear HPA HBAD
   go_wp2_with fail
   go_ret;exact⟨by rw[HPN.o];rfl,B2.o⟩
end
section
open Go.RowKit Go.Sort Go.Maps
theorem Z1n {T:Tbl} (h:Zcm T=true):∃ a,Legal T a:=(Zll T).1 h
def Z3b (u n:Nat) (l:List Nat) (b:Nat→Nat):Prop:=(∀ i,i<n→b (u+i)=l.getD i 0)∨∃ k,k<n∧(∀ i,i<k→b (u+i)=l.getD i 0)∧l.getD k 0<b (u+k)
theorem Zix {p:Nat→Bool} {n m:Nat} (h:(List.range n).find? p=some m):m<n∧p m=true∧∀ k,k<m→p k=false:=by
 obtain⟨h1,h2⟩:=List.find?_eq_some_iff_append.1 h;obtain⟨pr,bs,h3,h4⟩:=h2
 have hm:m∈List.range n:=by rw[h3];simp
 have hm:=List.mem_range.1 hm;refine⟨hm,h1,fun k hk=>?_⟩
 have hlen:pr.length=m:=by
  have h5:(List.range n)[pr.length]?=some m:=by rw[h3];simp
  rw[List.getElem?_range (by
   have:=congrArg List.length h3
   simp at this;omega)] at h5
  exact Option.some.inj h5
 have hka:k<pr.length:=by omega
 have h6:pr[k]=k:=by
  have h5:(List.range n)[k]?=pr[k]?:=by rw[h3,List.getElem?_append_left hka]
  rw[List.getElem?_range (by omega),List.getElem?_eq_getElem hka] at h5;exact (Option.some.inj h5).symm
 have:=h4 pr[k] (List.getElem_mem hka);rw[h6] at this;simpa using this
theorem Ziy {p:Nat→Bool} {n:Nat} (h:(List.range n).find? p=none) (k:Nat) (hk:k<n):p k=false:=by
 have:=List.find?_eq_none.1 h k (List.mem_range.2 hk);simpa using this
theorem Zk9 {c:Crw}:∀ (n u:Nat) (C:List (List Bool)) (out:List Nat),n+u=c.us.length→out.length=u→ReckOk c C→(∃ a,Legal (Zar c C) a)→(∀ a,Legal (Zar c C) a→∀ j,j<u→a j=out.getD j 0) →
  ∃ rest:List Nat,Za0 c n u C out=out++rest∧rest.length=n∧(∀ b,Legal (Zar c C) b→Z3b u n rest b)∧∃ a,Legal (Zar c C) a∧∀ j,j<c.us.length→a j=(out++rest).getD j 0
 | 0,u,C,out,hn,hl,hok,⟨a,ha⟩,hpre=>⟨[],by rw[Za0,List.append_nil],rfl,fun b _=>.inl (fun i hi=>absurd hi (Nat.not_lt_zero i)),a,ha,fun j hj=>by rw[List.append_nil];exact hpre a ha j (by omega)⟩
 | n+1,u,C,out,hn,hl,hok,⟨a,ha⟩,hpre=>by
  have hu:u<c.us.length:=by omega
  have hau:a u<c.ms.length:=ha.mem u hu;have hpa:Zjr c C u (a u)=true:=(Zl6 hok hu hau).2 ⟨a,ha,rfl⟩;rw[Za0]
  cases hm:Zoj c C u with
  | none =>
   have:=Ziy hm (a u) hau;rw[hpa] at this;cases this
  | some m =>
   obtain⟨hm1,hm2,hm3⟩:=Zix hm
   have hfx:∀ b,Legal (Zar c (Zcc c C u m)) b↔Legal (Zar c C) b∧b u=m:=fun b=>Ziu hok hu hm1 b
   obtain⟨a1,ha1,hau1⟩:=(Zl6 hok hu hm1).1 hm2
   obtain⟨rest,h1,h2,h3,a2,h4,h5⟩:=Zk9 n (u+1) (Zcc c C u m) (out++[m]) (by omega) (by rw[List.length_append,hl];rfl) (hok.fix u m) ⟨a1,(hfx a1).2 ⟨ha1,hau1⟩⟩ (fun b hb j hj=>by
    obtain⟨hb1,hb2⟩:=(hfx b).1 hb;by_cases e:j=u
    ·subst e
     rw[hb2,List.getD_eq_getElem?_getD,List.getElem?_append_right (by omega),hl];simp
    ·rw[hpre b hb1 j (by omega),List.getD_eq_getElem?_getD,List.getD_eq_getElem?_getD,List.getElem?_append_left (by omega)])
   refine⟨m::rest,by show Za0 c n (u+1) (Zcc c C u m) (out++[m])=_;rw[h1,List.append_assoc];rfl,by rw[List.length_cons,h2],fun b hb=>?_,a2,((hfx a2).1 h4).1,fun j hj=>by rw[h5 j hj,List.append_assoc];rfl⟩;have hbu:b u<c.ms.length:=hb.mem u hu;have hpb:Zjr c C u (b u)=true:=(Zl6 hok hu hbu).2 ⟨b,hb,rfl⟩;by_cases e:b u=m
   ·rcases h3 b ((hfx b).2 ⟨hb,e⟩) with h6 | ⟨k,hk,h6,h7⟩
    ·refine .inl (fun i hi=>?_)
     cases i with
     | zero=>exact e
     | succ i=>rw[show u+(i+1)=u+1+i by omega,h6 i (by omega)];rfl
    ·refine .inr ⟨k+1,by omega,fun i hi=>?_,by rw[show u+(k+1)=u+1+k by omega];exact h7⟩
     cases i with
     | zero=>exact e
     | succ i=>rw[show u+(i+1)=u+1+i by omega,h6 i (by omega)];rfl
   ·refine .inr ⟨0,by omega,fun i hi=>absurd hi (Nat.not_lt_zero i),?_⟩
    show m<b u;rcases Nat.lt_or_ge m (b u) with h | h
    ·exact h
    ·have:=hm3 (b u) (by omega)
     rw[hpb] at this;cases this
theorem Zla {c:Crw} {C:List (List Bool)} (hok:ReckOk c C) (hf:Zcm (Zar c C)=true):(Za0 c c.us.length 0 C []).length=c.us.length∧Legal (Zar c C) (aOf (Za0 c c.us.length 0 C []))∧∀ b,Legal (Zar c C) b→Z3b 0 c.us.length (Za0 c c.us.length 0 C []) b:=by
 obtain⟨rest,h1,h2,h3,a,h4,h5⟩:=Zk9 (c:=c) c.us.length 0 C [] rfl rfl hok (Z1n hf) (fun a _ j hj=>absurd hj (Nat.not_lt_zero j));rw[List.nil_append] at h1 h5;rw[h1];exact⟨h2,Zfo (fun u hu=>h5 u hu) h4,h3⟩
theorem Zpr {c:Crw} {C:List (List Bool)} (hok:ReckOk c C) {m:Nat} (hm:m<c.ms.length) (w:Nat):0≤Zbj (c.ms.getD m ⟨[],[],0⟩).t w:=by
 rw[List.getD_eq_getElem?_getD,List.getElem?_eq_getElem hm,Option.getD_some];have h:=(hok.tic c.ms[m] (List.getElem_mem hm)).1;unfold Zbj;rw[List.getD_eq_getElem?_getD]
 cases h1:(c.ms[m].t)[w]? with
 | none=>exact Int.le_refl _
 | some t=>exact (h t (List.mem_of_getElem? h1)).1
theorem Zq9 {c:Crw} {C:List (List Bool)} (hok:ReckOk c C) {m:Nat} (hm:m<c.ms.length) (w:Nat):(((Zar c C).cap m w:Nat):Int)=Zbj (c.ms.getD m ⟨[],[],0⟩).t w:=Int.toNat_of_nonneg (Zpr hok hm w)
theorem Zg9 {c:Crw} {C:List (List Bool)} (hok:ReckOk c C) {u:Nat} (hu:u<c.us.length):0≤Zmc c u∧Zmc c u≤15∧(((Zar c C).win u:Nat):Int)=Zmc c u:=by
 have h:(c.us.getD u ⟨0,0,0,0⟩)=c.us[u]:=by rw[List.getD_eq_getElem?_getD,List.getElem?_eq_getElem hu,Option.getD_some]
 have h1:=hok.win c.us[u] (List.getElem_mem hu)
 have h2:Zmc c u=c.us[u].w:=by unfold Zmc;rw[h]
 have h3:(Zar c C).win u=c.us[u].w.toNat:=by show (c.us.getD u ⟨0,0,0,0⟩).w.toNat=_;rw[h]
 rw[h2,h3];exact⟨h1.1,h1.2,Int.toNat_of_nonneg h1.1⟩
theorem Zme {x:Int} {n:Nat}:Zb8 x n=true↔0≤x∧x.toNat<n:=by
 unfold Zb8 inB;rw[Bool.and_eq_true,decide_eq_true_eq,decide_eq_true_eq];omega
theorem Ziz (p:Nat→Bool) (n cap:Nat):(∀ i,i<n→p i=true→(List.range (i+1)).countP p≤cap)↔(List.range n).countP p≤cap:=by
 constructor
 ·intro h
  induction n with
  | zero=>exact Nat.zero_le _
  | succ n ih =>
   by_cases hp:p n=true
   ·exact h n (by omega) hp
   ·rw[List.range_succ,List.countP_append]
    have:List.countP p [n]=0:=by simp[hp]
    rw[this,Nat.add_zero];exact ih (fun i hi=>h i (by omega))
 ·intro h i hi _
  refine Nat.le_trans ?_ h;obtain⟨k,rfl⟩:∃ k,n=i+1+k:=⟨n-(i+1),by omega⟩;exact (List.range_sublist.2 (by omega)).countP_le
theorem Zy4 {c:Crw} {l:List Int} (hv:Zal c=true) (hok:ReckOk c (Zao c)):Zmd c l=true↔l.length=c.us.length∧(∀ i,i<c.us.length→0≤l.getD i 0)∧Legal (Zar c (Zao c)) (fun i=>(l.getD i 0).toNat):=by
 have hat:∀ i,i<c.us.length→(Ze7 c l i=true↔0≤l.getD i 0∧(l.getD i 0).toNat<c.ms.length∧(Zar c (Zao c)).can i (l.getD i 0).toNat=true∧Zeu c l (i+1) (l.getD i 0) (Zmc c i)≤(Zar c (Zao c)).cap (l.getD i 0).toNat ((Zar c (Zao c)).win i)):=by
  intro i hi;unfold Ze7;rw[Bool.and_eq_true,Bool.and_eq_true,Zme,decide_eq_true_eq];constructor
  ·rintro⟨⟨⟨h1,h2⟩,h3⟩,h4⟩
   refine⟨h1,h2,h3,?_⟩;have:=Zq9 hok h2 ((Zar c (Zao c)).win i);have h5:(Zar c (Zao c)).win i=(Zmc c i).toNat:=rfl;rw[h5] at this ⊢;omega
  ·rintro⟨h1,h2,h3,h4⟩
   refine⟨⟨⟨h1,h2⟩,h3⟩,?_⟩;have:=Zq9 hok h2 ((Zar c (Zao c)).win i);have h5:(Zar c (Zao c)).win i=(Zmc c i).toNat:=rfl;rw[h5] at this h4;omega
 unfold Zmd;rw[hv,Bool.true_and,Bool.and_eq_true,decide_eq_true_eq];constructor
 ·rintro⟨hl,hall⟩
  have hall:∀ i,i<c.us.length→Ze7 c l i=true:=fun i hi=>List.all_eq_true.1 hall i (List.mem_range.2 (by omega))
  refine⟨hl,fun i hi=>((hat i hi).1 (hall i hi)).1,⟨fun u hu=>((hat u hu).1 (hall u hu)).2.1,fun u hu=>((hat u hu).1 (hall u hu)).2.2.1,fun m w=>?_⟩⟩;show (List.range c.us.length).countP _≤_;rw[← Ziz];intro i hi hp;rw[Bool.and_eq_true,beq_iff_eq,beq_iff_eq] at hp;obtain⟨hp1,hp2⟩:=hp;obtain⟨h1,h2,h3,h4⟩:=(hat i hi).1 (hall i hi);rw[← hp1,← hp2];refine Nat.le_trans (Nat.le_of_eq ?_) h4;unfold Zeu;refine List.countP_congr (fun j hj=>?_)
  have hj:j<c.us.length:=by have:=List.mem_range.1 hj;omega
  have hj1:=((hat j hj).1 (hall j hj)).1;have hw1:=(Zg9 hok hj).2.2;have hw2:=(Zg9 hok hi).2.2;simp only[Bool.and_eq_true,beq_iff_eq];omega
 ·rintro⟨hl,h0,hL⟩
  refine⟨hl,List.all_eq_true.2 (fun i hi=>?_)⟩
  have hi:i<c.us.length:=by have:=List.mem_range.1 hi;omega
  refine (hat i hi).2 ⟨h0 i hi,hL.mem i hi,hL.can i hi,?_⟩;have h1:=(Ziz (fun u=>(l.getD u 0).toNat==(l.getD i 0).toNat&&(Zar c (Zao c)).win u==(Zar c (Zao c)).win i) c.us.length ((Zar c (Zao c)).cap (l.getD i 0).toNat ((Zar c (Zao c)).win i))).2 (hL.few _ _) i hi (by simp);refine Nat.le_trans (Nat.le_of_eq ?_) h1;unfold Zeu;refine List.countP_congr (fun j hj=>?_)
  have hj:j<c.us.length:=by have:=List.mem_range.1 hj;omega
  have hj1:=h0 j hj;have hi1:=h0 i hi;have hw1:=(Zg9 hok hj).2.2;have hw2:=(Zg9 hok hi).2.2;simp only[Bool.and_eq_true,beq_iff_eq];omega
end
end Go.Proofs.YtbcgocpihobjnaaGreatDoor
