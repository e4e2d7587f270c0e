import Derived.Sort.KeysCollected
import Derived.Test.YtbcgocpihobjnaaGreatDoorCI24
set_option linter.all false
namespace Go.Proofs.YtbcgocpihobjnaaGreatDoor
open Go.RowKit Go.Sort Go.Maps
def byL (s:List Nat):List UInt8:=s.map UInt8.ofNat
theorem Z3p {a b:List Nat} (ha:NmOk a) (hb:NmOk b) (h:byL a=byL b):a=b:=Zdz a b ha.b hb.b h
theorem Zsb (s:List Nat):Ze9 s = .string (byL s):=by unfold Ze9;rw[Zhu];rfl
theorem Z2v:∀ (a b:List Nat),(∀ y∈a,y<256)→(∀ y∈b,y<256)→ltL a b=true→byL a<byL b
 | _,[],_,_,h=>by simp[ltL] at h
 | [],_::_,_,_,_=>by simp[byL]
 | x::xs,y::ys,ha,hb,h=>by
  have hx:=ha x (List.mem_cons_self ..);have hy:=hb y (List.mem_cons_self ..);simp only[ltL,Bool.or_eq_true,decide_eq_true_eq,Bool.and_eq_true,beq_iff_eq] at h;show UInt8.ofNat x::xs.map UInt8.ofNat<UInt8.ofNat y::ys.map UInt8.ofNat;rw[List.cons_lt_cons_iff];rcases h with h | ⟨rfl,h⟩
  ·left
   rw[UInt8.lt_iff_toNat_lt];simp[Nat.mod_eq_of_lt hx,Nat.mod_eq_of_lt hy];exact h
  ·right
   exact⟨rfl,Z2v xs ys (fun z hz=>ha z (List.mem_cons_of_mem _ hz)) (fun z hz=>hb z (List.mem_cons_of_mem _ hz)) h⟩
theorem Z48 {m:List (List Nat)} (h:Zlx m):m.Nodup:=h.imp (fun {a b} hab e=>by rw[e,Za3] at hab;cases hab)
theorem Zo4 {w:World} {b n:Nat} {D:DataW Unit} (hown:w.ownsMap Tryz.prog 9 (plainElem Tryz.prog 4) b n D) (ns:List (List Nat)) (hns:∀ s∈ns,NmOk s) (hA:Zlx ns) (hD:∀ l,has D l=true↔∃ s∈ns,Ze9 s=l)
  (ss:List (List UInt8)) (hp:ss.Perm (strKeys D)):ss.mergeSort (fun x y=>decide (x≤y))=ns.map byL∧ss.length=ns.length:=by
 obtain⟨es,hDe,hpw,_⟩:=hown.entries Zhv;obtain⟨es',hD',hko⟩:=hown.keysOf
 obtain rfl:es=es':=by rw[hDe] at hD';simpa using hD'
 subst hDe
 have hk:∀ p∈es,∃ x,p.1 = .string x:=fun p hp=>by
  obtain⟨v,hv⟩:=hko p hp;obtain⟨x,_,hx,_⟩:=Maps.keyOf_str Tryz.underlying9 hv;exact⟨x,hx⟩
 have hnd:(ns.map byL).Nodup:=by
  refine List.pairwise_map.2 ((Z48 hA).imp_of_mem fun {p q} hp' hq' hne e=>hne (Z3p (hns p hp') (hns q hq') e))
 have hq:(ns.map byL).Perm (strKeys (.map es)):=perm_strKeys hpw hk hnd (fun x=>by
  rw[hD,List.mem_map];constructor
  ·rintro⟨s,hs,rfl⟩;exact⟨s,hs,Zsb s⟩
  ·rintro⟨s,hs,hl⟩
   rw[Zsb] at hl;injection hl with hl
   exact⟨s,hs,hl⟩)
 have hpq:=hp.trans hq.symm;refine⟨?_,by rw[hpq.length_eq,List.length_map]⟩;have h1:=mergeSort_of_perm hpq
 have h2:(ns.map byL).mergeSort leB=ns.map byL:=by
  refine List.mergeSort_of_pairwise (List.pairwise_map.2 (hA.imp_of_mem fun {p q} hp' hq' hlt=>?_));exact decide_eq_true (List.le_of_lt (Z2v p q (hns p hp').b (hns q hq').b hlt))
 exact h1.trans h2
theorem Zfa.del {S:List (List Nat)} {D:DataW Unit} (k:List Nat) (h1:∀ l,has D l=true↔∃ k∈S,Ze9 k=l) (hS:∀ x∈S,NmOk x) (hk:NmOk k) :
  ∀ l,has (D.del (Ze9 k)) l=true↔∃ x∈S.filter (fun s=>s != k),Ze9 x=l:=by
 intro l;by_cases he:l=Ze9 k
 ·subst he
  rw[has_del_same];constructor
  ·intro h;cases h
  ·rintro⟨x,hx,hl⟩
   rw[List.mem_filter] at hx;exact absurd (Zjk x k (hS x hx.1) hk hl) (by simpa using hx.2)
 ·rw[has_del_other he,h1]
  constructor
  ·rintro⟨x,hx,hl⟩
   refine⟨x,List.mem_filter.2 ⟨hx,?_⟩,hl⟩
   have:x≠k:=by rintro rfl;exact he hl.symm
   simpa using this
  ·rintro⟨x,hx,hl⟩
   exact⟨x,(List.mem_filter.1 hx).1,hl⟩
end Go.Proofs.YtbcgocpihobjnaaGreatDoor
