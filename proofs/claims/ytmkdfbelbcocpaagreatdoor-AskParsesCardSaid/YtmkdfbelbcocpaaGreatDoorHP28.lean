import Derived.Test.YtmkdfbelbcocpaaGreatDoorHP27
import Derived.Test.YtmkdfbelbcocpaaGreatDoorHP14
import Derived.Test.YtmkdfbelbcocpaaGreatDoorHP0
import Derived.Test.YtmkdfbelbcocpaaGreatDoorHP18
set_option linter.unusedVariables false
set_option linter.unusedSimpArgs false
set_option maxHeartbeats 8000000
set_option maxRecDepth 100000
namespace Go.Proofs.YtmkdfbelbcocpaaGreatDoor
section
def exS1:List Nat:=[113,117,101,115,116,105,111,110,32,97,100,117,108,116,32,123,32,105,100,32,46,32,97,103,101,32,62,61,32,49,56,32,125]
def exT1:List Nat:=[113,117,101,115,116,105,111,110,32,97,100,117,108,116,32,123,32,48,32,60,61,32,105,100,32,46,32,97,103,101,32,45,32,49,56,32,125]
def exS2:List Nat:=[113,117,101,115,116,105,111,110,32,97,32,123,32,120,46,121,32,105,110,32,123,32,51,32,44,32,53,32,46,46,32,55,32,125,32,125]
def exT2:List Nat:=[113,117,101,115,116,105,111,110,32,97,32,123,32,40,32,48,32,60,61,32,120,32,46,32,121,32,45,32,51,32,97,110,100,32,120,32,46,32,121,32,60,61,32,51,32,41,32,111,114,32,40,32,48,32,60,61,32,120,32,46,32,121,32,45,32,53,32,97,110,100,32,120,32,46,32,121,32,60,61,32,55,32,41,32,125]
def exS3:List Nat:=[113,117,101,115,116,105,111,110,32,97,32,123,32,110,111,116,32,40,32,120,46,121,32,60,32,51,32,97,110,100,32,120,46,122,32,61,32,49,32,41,32,125]
def exT3:List Nat:=[113,117,101,115,116,105,111,110,32,97,32,123,32,48,32,60,61,32,120,32,46,32,121,32,45,32,51,32,111,114,32,40,32,48,32,60,61,32,120,32,46,32,122,32,45,32,50,32,111,114,32,120,32,46,32,122,32,60,61,32,48,32,41,32,125]
def exS4:List Nat:=[113,117,101,115,116,105,111,110,32,97,32,123,32,120,46,121,32,60,32,125]
def exS5:List Nat:=[113,117,101,115,116,105,111,110,32,97,32,123,32,97,116,32,108,101,97,115,116,32,51,32,111,102,32,40,32,120,46,121,32,60,32,49,32,44,32,120,46,121,32,62,32,53,32,41,32,125]
def exS6:List Nat:=[120,46,97,32,60,61,32,51,32,97,110,100,32,97,116,32,108,101,97,115,116,32,50,32,111,102,32,40,32,120,46,97,32,60,61,32,49,32,44,32,120,46,98,32,60,61,32,50,32,44,32,120,46,99,32,60,61,32,53,32,41]
def exS7:List Nat:=[40,32,120,46,97,32,60,61,32,49,32,97,110,100,32,120,46,98,32,60,61,32,50,32,41,32,111,114,32,120,46,99,32,60,61,32,53]
def exP1:Prd:=.mk 0 [] [105,100,46,97,103,101] (-18) []
def exP2:Prd:=.mk 2 [] [] 0 [.mk 1 [] [] 0 [.mk 0 [] [120,46,121] (-3) [],.mk 0 [120,46,121] [] (3) []],.mk 1 [] [] 0 [.mk 0 [] [120,46,121] (-5) [],.mk 0 [120,46,121] [] (7) []]]
def exP3:Prd:=.mk 2 [] [] 0 [.mk 0 [] [120,46,121] (-3) [],.mk 2 [] [] 0 [.mk 0 [] [120,46,122] (-2) [],.mk 0 [120,46,122] [] (0) []]]
def exPA:Prd:=.mk 0 [120,46,97] [] (1) []
def exPB:Prd:=.mk 0 [120,46,98] [] (2) []
def exPC:Prd:=.mk 0 [120,46,99] [] (5) []
def exPD:Prd:=.mk 0 [120,46,97] [] (3) []
def exP6:Prd:=.mk 1 [] [] 0 [exPD,.mk 3 [] [] 2 [exPA,exPB,exPC]]
def exP7:Prd:=.mk 2 [] [] 0 [.mk 1 [] [] 0 [exPA,exPB],exPC]
def exL6:List Nat:=[113,117,101,115,116,105,111,110,32,97,32,123,32]++exS6++[32,125]
def exL7:List Nat:=[113,117,101,115,116,105,111,110,32,97,32,123,32]++exS7++[32,125]
theorem ex1:parseF exS1=([97,100,117,108,116],exP1,0,0):=by kernel_rfl
theorem ex2:parseF exS2=([97],exP2,0,0):=by kernel_rfl
theorem ex3:parseF exS3=([97],exP3,0,0):=by kernel_rfl
theorem ex4:(parseF exS4).2.2.1=19∧(parseF exS4).2.2.2=12:=⟨by kernel_rfl,by kernel_rfl⟩
theorem ex5:(parseF exS5).2.2.1=13∧(parseF exS5).2.2.2=3:=⟨by kernel_rfl,by kernel_rfl⟩
theorem ex6:(parseF exL6).2.1=exP6:=by kernel_rfl
theorem ex7:(parseF exL7).2.1=exP7:=by kernel_rfl
theorem pr1:prnP [97,100,117,108,116] exP1=some exT1:=by kernel_rfl
theorem pr2:prnP [97] exP2=some exT2:=by kernel_rfl
theorem pr3:prnP [97] exP3=some exT3:=by kernel_rfl
def nmB (l:List Nat):Bool:=l.all (fun y=>decide (y<256))&&decide (l.length≤1000)
mutual
def bytB:Prd→Bool
 | .mk k l r c ks=>nmB l&&(nmB r&&bytBL ks)
def bytBL:List Prd→Bool
 | []=>true
 | p::ps=>bytB p&&bytBL ps
end
theorem nmB_ok {l:List Nat} (h:nmB l=true):NmB l:=by
 unfold nmB at h
 rw[Bool.and_eq_true,List.all_eq_true] at h
 exact⟨fun y hy=>of_decide_eq_true (h.1 y hy),Nat.le_trans (of_decide_eq_true h.2) (by omega)⟩
mutual
theorem bytB_ok:∀ p:Prd,bytB p=true→BytP p
 | .mk k l r c ks,h=>by
  unfold bytB at h
  rw[Bool.and_eq_true,Bool.and_eq_true] at h
  unfold BytP
  exact⟨nmB_ok h.1,nmB_ok h.2.1,bytBL_ok ks h.2.2⟩
theorem bytBL_ok:∀ ks:List Prd,bytBL ks=true→BytL ks
 | [],_=>by unfold BytL;trivial
 | p::ps,h=>by
  unfold bytBL at h
  rw[Bool.and_eq_true] at h
  unfold BytL
  exact⟨bytB_ok p h.1,bytBL_ok ps h.2⟩
end
def exC6:List Chc:=[⟨1,[exPD]⟩,⟨2,[exPA,exPB,exPC]⟩]
def exC7:List Chc:=[⟨1,[exPA,exPC]⟩,⟨1,[exPB,exPC]⟩]
theorem cl_of (p:Prd) (L:List (List Ky)) (h:outU (fun set=>truthP (inSet (properP p) set) p) (properP p) (2^(properP p).length)=L) (hs:L.Pairwise (fun a b=>leC a b=true)):clausesP p=L:=by
 unfold clausesP
 rw[h]
 exact List.mergeSort_of_pairwise hs
def kyA:Ky:=⟨[120,46,97],[],1⟩
def kyB':Ky:=⟨[120,46,98],[],2⟩
def kyC':Ky:=⟨[120,46,99],[],5⟩
def kyD:Ky:=⟨[120,46,97],[],3⟩
theorem cl_D:clausesP exPD=[[kyD]]:=cl_of exPD [[kyD]] (by kernel_rfl) (List.pairwise_singleton _ _)
theorem cl_7:clausesP exP7=[[kyA,kyC'],[kyB',kyC']]:=cl_of exP7 [[kyA,kyC'],[kyB',kyC']] (by kernel_rfl) (by decide +kernel)
theorem ch_node {k:Int} {l r:List Nat} {c:Int} {ks:List Prd} (h:plainP (.mk k l r c ks)=false) (hk:k≠1):choP (.mk k l r c ks)=(clausesP (.mk k l r c ks)).map clC:=by
 rw[choP,if_neg (by rw[h];simp),if_neg hk]
theorem ch_all {l r:List Nat} {c:Int} {ks:List Prd} (h:plainP (.mk 1 l r c ks)=false):choP (.mk 1 l r c ks)=choL ks:=by
 rw[choP,if_neg (by rw[h];simp),if_pos rfl]
theorem ch_plain {k:Int} {l r:List Nat} {c:Int} {ks:List Prd} (h:plainP (.mk k l r c ks)=true):choP (.mk k l r c ks)=[⟨c,ks⟩]:=by
 rw[choP,if_pos h]
theorem ch_D:choP exPD=[⟨1,[exPD]⟩]:=by
 have h:=ch_node (k:=0) (l:=[120,46,97]) (r:=[]) (c:=3) (ks:=[]) (by kernel_rfl) (by decide)
 exact h.trans ((congrArg (List.map clC) cl_D).trans (by kernel_rfl))
theorem ch_7:choP exP7=exC7:=by
 have h:=ch_node (k:=2) (l:=[]) (r:=[]) (c:=0) (ks:=[.mk 1 [] [] 0 [exPA,exPB],exPC]) (by kernel_rfl) (by decide)
 exact h.trans ((congrArg (List.map clC) cl_7).trans (by kernel_rfl))
theorem ch_6:choP exP6=exC6:=by
 have h:=ch_all (l:=[]) (r:=[]) (c:=0) (ks:=[exPD,.mk 3 [] [] 2 [exPA,exPB,exPC]]) (by kernel_rfl)
 refine h.trans ?_
 rw[choL,choL,choL,ch_D,ch_plain (by kernel_rfl)]
 rfl
theorem norm_of {p:Prd} {cs:List Chc} (hv:validP p=true) (h8:(properP p).length≤8) (hc:choP p=cs) (hl:cs.length≤100):normP p = .ok cs:=by
 unfold normP
 rw[if_neg (by rw[hv];simp),if_neg (by omega),hc,if_neg (by omega)]
theorem nm6:normP exP6 = .ok exC6:=norm_of (by kernel_rfl) (of_decide_eq_true (by kernel_rfl)) ch_6 (by decide)
theorem nm7:normP exP7 = .ok exC7:=norm_of (by kernel_rfl) (of_decide_eq_true (by kernel_rfl)) ch_7 (by decide)
end
section
open Go.RowKit Go.Sort
theorem arr72 (t:Array Value) (h:t.size=72):∃ x0 x1 x2 x3 x4 x5 x6 x7 x8 x9 x10 x11 x12 x13 x14 x15 x16 x17 x18 x19 x20 x21 x22 x23 x24 x25 x26 x27 x28 x29 x30 x31 x32 x33 x34 x35 x36 x37 x38 x39 x40 x41 x42 x43 x44 x45 x46 x47 x48 x49 x50 x51 x52 x53 x54 x55 x56 x57 x58 x59 x60 x61 x62 x63 x64 x65 x66 x67 x68 x69 x70 x71,t=#[x0,x1,x2,x3,x4,x5,x6,x7,x8,x9,x10,x11,x12,x13,x14,x15,x16,x17,x18,x19,x20,x21,x22,x23,x24,x25,x26,x27,x28,x29,x30,x31,x32,x33,x34,x35,x36,x37,x38,x39,x40,x41,x42,x43,x44,x45,x46,x47,x48,x49,x50,x51,x52,x53,x54,x55,x56,x57,x58,x59,x60,x61,x62,x63,x64,x65,x66,x67,x68,x69,x70,x71]:=by
 obtain⟨l⟩:=t
 have hl:l.length=72:=h
 have e:l=(List.range 72).map (fun i=>l.getD i undef):=by
  apply List.ext_getElem
  ·simp[hl]
  ·intro i h1 h2
   simp[List.getD,h1]
 exact⟨l.getD 0 undef,l.getD 1 undef,l.getD 2 undef,l.getD 3 undef,l.getD 4 undef,l.getD 5 undef,l.getD 6 undef,l.getD 7 undef,l.getD 8 undef,l.getD 9 undef,l.getD 10 undef,l.getD 11 undef,l.getD 12 undef,l.getD 13 undef,l.getD 14 undef,l.getD 15 undef,l.getD 16 undef,l.getD 17 undef,l.getD 18 undef,l.getD 19 undef,l.getD 20 undef,l.getD 21 undef,l.getD 22 undef,l.getD 23 undef,l.getD 24 undef,l.getD 25 undef,l.getD 26 undef,l.getD 27 undef,l.getD 28 undef,l.getD 29 undef,l.getD 30 undef,l.getD 31 undef,l.getD 32 undef,l.getD 33 undef,l.getD 34 undef,l.getD 35 undef,l.getD 36 undef,l.getD 37 undef,l.getD 38 undef,l.getD 39 undef,l.getD 40 undef,l.getD 41 undef,l.getD 42 undef,l.getD 43 undef,l.getD 44 undef,l.getD 45 undef,l.getD 46 undef,l.getD 47 undef,l.getD 48 undef,l.getD 49 undef,l.getD 50 undef,l.getD 51 undef,l.getD 52 undef,l.getD 53 undef,l.getD 54 undef,l.getD 55 undef,l.getD 56 undef,l.getD 57 undef,l.getD 58 undef,l.getD 59 undef,l.getD 60 undef,l.getD 61 undef,l.getD 62 undef,l.getD 63 undef,l.getD 64 undef,l.getD 65 undef,l.getD 66 undef,l.getD 67 undef,l.getD 68 undef,l.getD 69 undef,l.getD 70 undef,l.getD 71 undef,congrArg List.toArray e⟩
def atV (s:ByteArray) (c:Int):Value:=.agg #[.int .i64 0,.string s,.string ⟨#[]⟩,.int .i64 c,.slice none 0 0]
def sxa:ByteArray:=⟨#[120,46,97]⟩
def sxb:ByteArray:=⟨#[120,46,98]⟩
def sxc:ByteArray:=⟨#[120,46,99]⟩
def SlK (ks:List Prd) (n:Nat) (w:World) (v:Value):Prop:=∃ g,v = .slice (some ⟨g,0,none⟩) n n∧KidR w (fun x=>x<w.heap.size) ks (some ⟨g,0,none⟩)
def AgK (nd:Int) (ks:List Prd) (n:Nat) (w:World) (v:Value):Prop:=∃ g,v = .agg #[.int .i64 nd,.slice (some ⟨g,0,none⟩) n n]∧KidR w (fun x=>x<w.heap.size) ks (some ⟨g,0,none⟩)
def SlC (cs:List Chc) (w:World) (v:Value):Prop:=∃ g,v = .slice (some ⟨g,0,none⟩) 2 2∧ChsR w cs (some ⟨g,0,none⟩)
def sF (v6 v8:Value) (i:Nat) (w:World) (v:Value):Prop :=
 match i with
 | 0=>v=v6
 | 1=>v=atV sxa 3
 | 2=>SlK [exPD] 1 w v
 | 3=>AgK 1 [exPD] 1 w v
 | 4=>v=atV sxa 1
 | 5=>v=atV sxb 2
 | 6=>v=atV sxc 5
 | 7=>SlK [exPA,exPB,exPC] 3 w v
 | 8=>AgK 2 [exPA,exPB,exPC] 3 w v
 | 9=>SlC exC6 w v
 | 10=>v = .bool true
 | 11=>v = .bool true
 | 12=>v=v8
 | 13=>v=atV sxa 1
 | 14=>v=atV sxc 5
 | 15=>SlK [exPA,exPC] 2 w v
 | 16=>AgK 1 [exPA,exPC] 2 w v
 | 17=>v=atV sxb 2
 | 18=>v=atV sxc 5
 | 19=>SlK [exPB,exPC] 2 w v
 | 20=>AgK 1 [exPB,exPC] 2 w v
 | 21=>SlC exC7 w v
 | _=>v = .bool true
theorem SlK.step {ks:List Prd} {n:Nat} {w w':World} {v:Value} (h:SlK ks n w v) (hb:Below w.heap.size w w'):SlK ks n w' v:=by
 obtain⟨g,h1,h2⟩:=h
 exact⟨g,h1,h2.any hb⟩
theorem AgK.step {nd:Int} {ks:List Prd} {n:Nat} {w w':World} {v:Value} (h:AgK nd ks n w v) (hb:Below w.heap.size w w'):AgK nd ks n w' v:=by
 obtain⟨g,h1,h2⟩:=h
 exact⟨g,h1,h2.any hb⟩
theorem SlC.step {cs:List Chc} {w w':World} {v:Value} (h:SlC cs w v) (hb:Below w.heap.size w w'):SlC cs w' v:=by
 obtain⟨g,h1,h2⟩:=h
 exact⟨g,h1,h2.below hb⟩
theorem sF_step (v6 v8:Value):∀ (i:Nat) (w w':World) (v:Value),sF v6 v8 i w v→Below w.heap.size w w'→sF v6 v8 i w' v:=by
 intro i w w' v h hb
 unfold sF at h ⊢
 split at h<;>first | exact h | exact SlK.step h hb | exact AgK.step h hb | exact SlC.step h hb
def atL (s:ByteArray) (c:Int):List Value:=[.int .i64 0,.string s,.string ⟨#[]⟩,.int .i64 c,.slice none 0 0]
theorem atL_pred {w:World} {P:Nat→Prop} {p:Prd} {s:ByteArray} {c:Int} {l:List Nat} (hp:p = .mk 0 l [] c []) (hs:strN l=s):PredC w P p (atL s c):=by
 subst hp hs
 unfold PredC
 exact⟨none,0,rfl,.inl rfl⟩
theorem kidR_new (w:World) (ks:List Prd) (vss:List (List Value)) (cs:Array Value) (T:TypeId) (hcs:cs=vss.flatten.toArray) (hl:vss.length=ks.length) (hp:∀ (w':World) (P:Nat→Prop) (i:Nat) (p:Prd) (vs:List Value),ks[i]?=some p→vss[i]?=some vs→PredC w' P p vs) :
  KidR (w.alloc (.cells cs T)) (fun x=>x<(w.alloc (.cells cs T)).heap.size) ks (some ⟨w.heap.size,0,none⟩):=by
 refine .inr ⟨w.heap.size,0,rfl,by simp,by simp,KidsC.of ks vss w.heap.size 0 hl (hp _ _) (fun j u hj=>?_)⟩
 have:=cells_new w cs T j
 rw[Addr.add_lit] at this
 rw[this,hcs]
 simpa using hj
theorem chsR_new (w:World) (c1 c2:Chc) (g1 g2:Nat) (T:TypeId) (h1:KidR w (fun x=>x<w.heap.size) c1.atoms (some ⟨g1,0,none⟩)) (h2:KidR w (fun x=>x<w.heap.size) c2.atoms (some ⟨g2,0,none⟩)) :
  ChsR (w.alloc (.cells #[.int .i64 c1.need,.slice (some ⟨g1,0,none⟩) c1.atoms.length c1.atoms.length,.int .i64 c2.need,.slice (some ⟨g2,0,none⟩) c2.atoms.length c2.atoms.length] T)) [c1,c2] (some ⟨w.heap.size,0,none⟩):=by
 have hA:Below w.heap.size w (w.alloc (.cells #[.int .i64 c1.need,.slice (some ⟨g1,0,none⟩) c1.atoms.length c1.atoms.length,.int .i64 c2.need,.slice (some ⟨g2,0,none⟩) c2.atoms.length c2.atoms.length] T)):=(Below.refl _ _).alloc (Nat.le_refl _) _
 have hc:=fun j=>cells_new w #[.int .i64 c1.need,.slice (some ⟨g1,0,none⟩) c1.atoms.length c1.atoms.length,.int .i64 c2.need,.slice (some ⟨g2,0,none⟩) c2.atoms.length c2.atoms.length] T j
 refine .inr ⟨w.heap.size,0,rfl,by simp,fun i c hi=>?_⟩
 match i,hi with
 | 0,hi =>
  obtain rfl:c1=c:=by simpa using hi
  refine⟨some ⟨g1,0,none⟩,c1.atoms.length,fun j u hj=>?_,h1.any hA⟩
  have:=hc (0+j)
  rw[Addr.add_lit] at this
  match j,hj with
  | 0,hj=>rw[← hj];exact this
  | 1,hj=>rw[← hj];exact this
  | j+2,hj=>simp at hj
 | 1,hi =>
  obtain rfl:c2=c:=by simpa using hi
  refine⟨some ⟨g2,0,none⟩,c2.atoms.length,fun j u hj=>?_,h2.any hA⟩
  have:=hc (2+j)
  rw[Addr.add_lit] at this
  match j,hj with
  | 0,hj=>rw[← hj];exact this
  | 1,hj=>rw[← hj];exact this
  | j+2,hj=>simp at hj
 | i+2,hi=>simp at hi
end
section
open Go.RowKit Go.Sort
theorem sS1:strN exS1=⟨#[113,117,101,115,116,105,111,110,32,97,100,117,108,116,32,123,32,105,100,32,46,32,97,103,101,32,62,61,32,49,56,32,125]⟩:=by kernel_rfl
theorem sT1:strN exT1=⟨#[113,117,101,115,116,105,111,110,32,97,100,117,108,116,32,123,32,48,32,60,61,32,105,100,32,46,32,97,103,101,32,45,32,49,56,32,125]⟩:=by kernel_rfl
theorem sS2:strN exS2=⟨#[113,117,101,115,116,105,111,110,32,97,32,123,32,120,46,121,32,105,110,32,123,32,51,32,44,32,53,32,46,46,32,55,32,125,32,125]⟩:=by kernel_rfl
theorem sT2:strN exT2=⟨#[113,117,101,115,116,105,111,110,32,97,32,123,32,40,32,48,32,60,61,32,120,32,46,32,121,32,45,32,51,32,97,110,100,32,120,32,46,32,121,32,60,61,32,51,32,41,32,111,114,32,40,32,48,32,60,61,32,120,32,46,32,121,32,45,32,53,32,97,110,100,32,120,32,46,32,121,32,60,61,32,55,32,41,32,125]⟩:=by kernel_rfl
theorem sS3:strN exS3=⟨#[113,117,101,115,116,105,111,110,32,97,32,123,32,110,111,116,32,40,32,120,46,121,32,60,32,51,32,97,110,100,32,120,46,122,32,61,32,49,32,41,32,125]⟩:=by kernel_rfl
theorem sT3:strN exT3=⟨#[113,117,101,115,116,105,111,110,32,97,32,123,32,48,32,60,61,32,120,32,46,32,121,32,45,32,51,32,111,114,32,40,32,48,32,60,61,32,120,32,46,32,122,32,45,32,50,32,111,114,32,120,32,46,32,122,32,60,61,32,48,32,41,32,125]⟩:=by kernel_rfl
theorem sS4:strN exS4=⟨#[113,117,101,115,116,105,111,110,32,97,32,123,32,120,46,121,32,60,32,125]⟩:=by kernel_rfl
theorem sS5:strN exS5=⟨#[113,117,101,115,116,105,111,110,32,97,32,123,32,97,116,32,108,101,97,115,116,32,51,32,111,102,32,40,32,120,46,121,32,60,32,49,32,44,32,120,46,121,32,62,32,53,32,41,32,125]⟩:=by kernel_rfl
theorem sS6:strN exS6=⟨#[120,46,97,32,60,61,32,51,32,97,110,100,32,97,116,32,108,101,97,115,116,32,50,32,111,102,32,40,32,120,46,97,32,60,61,32,49,32,44,32,120,46,98,32,60,61,32,50,32,44,32,120,46,99,32,60,61,32,53,32,41]⟩:=by kernel_rfl
theorem sS7:strN exS7=⟨#[40,32,120,46,97,32,60,61,32,49,32,97,110,100,32,120,46,98,32,60,61,32,50,32,41,32,111,114,32,120,46,99,32,60,61,32,53]⟩:=by kernel_rfl
theorem byte_of {l:List Nat} (h:nmB l=true):∀ y∈l,y<256:=(nmB_ok h).1
theorem sane5_any (w:World) (B:Nat) (hG:Good w B):Calls Tryz.prog 16 #[] w fun e w'=>e = .returned (.bool true)∧Below w.heap.size w w':=by
 have H1:=ħ (fun W (hW:Below w.heap.size w W)=>prints_true exS1 exT1 W B (hG.step hW) (of_decide_eq_true (by kernel_rfl)) (byte_of (by kernel_rfl)) _ _ ex1 pr1 (of_decide_eq_true (by kernel_rfl)) (byte_of (by kernel_rfl)) (bytB_ok _ (by kernel_rfl)) (of_decide_eq_true (by kernel_rfl)))
 have H2:=ħ (fun W (hW:Below w.heap.size w W)=>prints_true exS2 exT2 W B (hG.step hW) (of_decide_eq_true (by kernel_rfl)) (byte_of (by kernel_rfl)) _ _ ex2 pr2 (of_decide_eq_true (by kernel_rfl)) (byte_of (by kernel_rfl)) (bytB_ok _ (by kernel_rfl)) (of_decide_eq_true (by kernel_rfl)))
 have H3:=ħ (fun W (hW:Below w.heap.size w W)=>prints_true exS3 exT3 W B (hG.step hW) (of_decide_eq_true (by kernel_rfl)) (byte_of (by kernel_rfl)) _ _ ex3 pr3 (of_decide_eq_true (by kernel_rfl)) (byte_of (by kernel_rfl)) (bytB_ok _ (by kernel_rfl)) (of_decide_eq_true (by kernel_rfl)))
 have H4:=ħ (fun W (hW:Below w.heap.size w W)=>fails_true exS4 W B (hG.step hW) (of_decide_eq_true (by kernel_rfl)) (byte_of (by kernel_rfl)) 19 12 ex4)
 have H5:=ħ (fun W (hW:Below w.heap.size w W)=>fails_true exS5 W B (hG.step hW) (of_decide_eq_true (by kernel_rfl)) (byte_of (by kernel_rfl)) 13 3 ex5)
 have H6:=ħ (fun W (hW:Below w.heap.size w W)=>quest_any exS6 W B (hG.step hW) (of_decide_eq_true (by kernel_rfl)) (byte_of (by kernel_rfl)) exL6 rfl)
 have H7:=ħ (fun W (hW:Below w.heap.size w W)=>quest_any exS7 W B (hG.step hW) (of_decide_eq_true (by kernel_rfl)) (byte_of (by kernel_rfl)) exL7 rfl)
 have HN6:=ħ (fun W vs (hW:Below w.heap.size w W) (h:PredC W (fun g=>g<W.heap.size) exP6 vs)=>normal_any exP6 W _ vs B (of_decide_eq_true (by kernel_rfl)) (bytB_ok _ (by kernel_rfl)) h (fun g hg=>hg) (hG.step hW).tab)
 have HN7:=ħ (fun W vs (hW:Below w.heap.size w W) (h:PredC W (fun g=>g<W.heap.size) exP7 vs)=>normal_any exP7 W _ vs B (of_decide_eq_true (by kernel_rfl)) (bytB_ok _ (by kernel_rfl)) h (fun g hg=>hg) (hG.step hW).tab)
 rw[sS1,sT1] at H1
 rw[sS2,sT2] at H2
 rw[sS3,sT3] at H3
 rw[sS4] at H4
 rw[sS5] at H5
 rw[sS6,ex6] at H6
 rw[sS7,ex7] at H7
 rw[nm6] at HN6
 rw[nm7] at HN7
 have B0:=ħ (Below.refl w.heap.size w)
 clear hG
 go_enter Tryz.func16,Tryz.ntmps16
 go_wp2_with fail
 refine (H1.o w B0.o).mono ?_
 rintro e w1 ⟨rfl,b1⟩
 have B1:=ħ b1
 clear b1 B0 H1
 go_wp2_with fail
 refine (H2.o w1 B1.o).mono ?_
 rintro e w2 ⟨rfl,b2⟩
 have B2:=ħ (B1.o.trans (b2.mono B1.o.size))
 clear b2 B1 H2
 go_wp2_with fail
 refine (H3.o w2 B2.o).mono ?_
 rintro e w3 ⟨rfl,b3⟩
 have B3:=ħ (B2.o.trans (b3.mono B2.o.size))
 clear b3 B2 H3
 go_wp2_with fail
 refine (H4.o w3 B3.o).mono ?_
 rintro e w4 ⟨rfl,b4⟩
 have B4:=ħ (B3.o.trans (b4.mono B3.o.size))
 clear b4 B3 H4
 go_wp2_with fail
 refine (H5.o w4 B4.o).mono ?_
 rintro e w5 ⟨rfl,b5⟩
 have B5:=ħ (B4.o.trans (b5.mono B4.o.size))
 clear b5 B4 H5
 go_wp2_with fail
 refine (catom_any _ _ _ w5).mono ?_
 rintro e w6 ⟨rfl,b6⟩
 have B6:=ħ (B5.o.trans (b6.mono B5.o.size))
 clear b6 B5
 have bx:=(Below.refl w6.heap.size w6).alloc (Nat.le_refl _) (.cells #[.int .i64 0,.string ⟨#[120,46,97]⟩,.string ⟨#[]⟩,.int .i64 1,.slice none 0 0] 25)
 have XA:Hid (HasV (w6.alloc (.cells #[.int .i64 0,.string ⟨#[120,46,97]⟩,.string ⟨#[]⟩,.int .i64 1,.slice none 0 0] 25)) w6.heap.size 25 [.int .i64 0,.string ⟨#[120,46,97]⟩,.string ⟨#[]⟩,.int .i64 1,.slice none 0 0]):=ħ (heap_alloc_new w6 _)
 have B7:=ħ (B6.o.trans (bx.mono B6.o.size))
 clear bx B6
 go_upto_region 4 with (fail)
 generalize hA:w6.heap.size=A at *
 clear hA
 generalize w6.alloc (.cells #[.int .i64 0,.string ⟨#[120,46,97]⟩,.string ⟨#[]⟩,.int .i64 1,.slice none 0 0] 25)=w7 at *
 go_wp2_with fail
 refine (catom_any _ _ _ w7).mono ?_
 rintro e w8 ⟨rfl,b8⟩
 have XA8:=ħ (XA.o.step b8)
 have B8:=ħ (B7.o.trans (b8.mono B7.o.size))
 clear b8 B7 XA
 have bx:=(Below.refl w8.heap.size w8).alloc (Nat.le_refl _) (.cells #[.int .i64 0,.string ⟨#[120,46,98]⟩,.string ⟨#[]⟩,.int .i64 2,.slice none 0 0] 25)
 have XB:Hid (HasV (w8.alloc (.cells #[.int .i64 0,.string ⟨#[120,46,98]⟩,.string ⟨#[]⟩,.int .i64 2,.slice none 0 0] 25)) w8.heap.size 25 [.int .i64 0,.string ⟨#[120,46,98]⟩,.string ⟨#[]⟩,.int .i64 2,.slice none 0 0]):=ħ (heap_alloc_new w8 _)
 have XA9:=ħ (XA8.o.step bx)
 have B9:=ħ (B8.o.trans (bx.mono B8.o.size))
 clear bx B8 XA8
 go_upto_region 5 with (fail)
 generalize hA:w8.heap.size=AB at *
 clear hA
 generalize w8.alloc (.cells #[.int .i64 0,.string ⟨#[120,46,98]⟩,.string ⟨#[]⟩,.int .i64 2,.slice none 0 0] 25)=w9 at *
 go_wp2_with fail
 refine (catom_any _ _ _ w9).mono ?_
 rintro e w10 ⟨rfl,b10⟩
 have XA10:=ħ (XA9.o.step b10)
 have XB10:=ħ (XB.o.step b10)
 have B10:=ħ (B9.o.trans (b10.mono B9.o.size))
 clear b10 B9 XA9 XB
 have bx:=(Below.refl w10.heap.size w10).alloc (Nat.le_refl _) (.cells #[.int .i64 0,.string ⟨#[120,46,99]⟩,.string ⟨#[]⟩,.int .i64 5,.slice none 0 0] 25)
 have XC:Hid (HasV (w10.alloc (.cells #[.int .i64 0,.string ⟨#[120,46,99]⟩,.string ⟨#[]⟩,.int .i64 5,.slice none 0 0] 25)) w10.heap.size 25 [.int .i64 0,.string ⟨#[120,46,99]⟩,.string ⟨#[]⟩,.int .i64 5,.slice none 0 0]):=ħ (heap_alloc_new w10 _)
 have XA11:=ħ (XA10.o.step bx)
 have XB11:=ħ (XB10.o.step bx)
 have B11:=ħ (B10.o.trans (bx.mono B10.o.size))
 clear bx B10 XA10 XB10
 go_upto_region 6 with (fail)
 generalize hA:w10.heap.size=AC at *
 clear hA
 generalize w10.alloc (.cells #[.int .i64 0,.string ⟨#[120,46,99]⟩,.string ⟨#[]⟩,.int .i64 5,.slice none 0 0] 25)=w11 at *
 go_wp2_with fail
 refine (H6.o w11 B11.o).mono ?_
 rintro e w12 ⟨v,rfl,hv,b12⟩
 have XA12:=ħ (XA11.o.step b12)
 have XB12:=ħ (XB11.o.step b12)
 have XC12:=ħ (XC.o.step b12)
 have B12:=ħ (B11.o.trans (b12.mono B11.o.size))
 obtain⟨ka,kn,kc,rfl,hc⟩:=hv.open
 have hnm:=ħ (HN6.o w12 _ B12.o (hc.mono (fun g h _=>h.2)))
 clear b12 B11 H6 XA11 XB11 XC hv hc HN6
 go_wp2_with fail
 refine hnm.o.mono ?_
 rintro e w13 ⟨b13,a13,c13,v13,rfl,r13⟩
 have XA13:=ħ (XA12.o.step b13)
 have XB13:=ħ (XB12.o.step b13)
 have XC13:=ħ (XC12.o.step b13)
 have B13:=ħ (B12.o.trans (b13.mono B12.o.size))
 have C6:=ħ (ChsR.of_row r13)
 clear b13 r13 B12 XA12 XB12 XC12 hnm
 go_wp2_with fail
 refine (H7.o w13 B13.o).mono ?_
 rintro e w14 ⟨v,rfl,hv,b14⟩
 have XA14:=ħ (XA13.o.step b14)
 have XB14:=ħ (XB13.o.step b14)
 have XC14:=ħ (XC13.o.step b14)
 have B14:=ħ (B13.o.trans (b14.mono B13.o.size))
 have C614:=ħ (C6.o.below b14)
 obtain⟨ka,kn,kc,rfl,hc⟩:=hv.open
 have hnm:=ħ (HN7.o w14 _ B14.o (hc.mono (fun g h _=>h.2)))
 clear b14 B13 H7 XA13 XB13 XC13 C6 hv hc HN7
 go_wp2_with fail
 refine hnm.o.mono ?_
 rintro e w15 ⟨b15,a15,c15,v15,rfl,r15⟩
 have XA15:=ħ (XA14.o.step b15)
 have XB15:=ħ (XB14.o.step b15)
 have XC15:=ħ (XC14.o.step b15)
 have B15:=ħ (B14.o.trans (b15.mono B14.o.size))
 have C615:=ħ (C614.o.below b15)
 have C7:=ħ (ChsR.of_row r15)
 clear b15 r15 B14 XA14 XB14 XC14 C614 hnm
 go_upto_region 10 with (fail)
 have HLA:Hid (∀ q∈[exPA,exPB,exPC,exPD],q.ks=[]∧BytP q):=ħ (by
  intro q hq
  simp only[List.mem_cons,List.not_mem_nil,or_false] at hq
  rcases hq with rfl | rfl | rfl | rfl<;>exact⟨rfl,bytB_ok _ (by kernel_rfl)⟩)
 have HC6:Hid (∀ c∈exC6,c.atoms.length≤1000000∧∀ q∈c.atoms,q.ks=[]∧BytP q):=ħ (by
  intro c hc
  simp only[exC6,List.mem_cons,List.not_mem_nil,or_false] at hc
  rcases hc with rfl | rfl
  ·exact⟨by decide,fun q hq=>HLA.o q (by simp at hq ⊢;simp[hq])⟩
  ·exact⟨by decide,fun q hq=>HLA.o q (by simp at hq ⊢;rcases hq with h | h | h<;>simp[h])⟩)
 have HC7:Hid (∀ c∈exC7,c.atoms.length≤1000000∧∀ q∈c.atoms,q.ks=[]∧BytP q):=ħ (by
  intro c hc
  simp only[exC7,List.mem_cons,List.not_mem_nil,or_false] at hc
  rcases hc with rfl | rfl
  ·exact⟨by decide,fun q hq=>HLA.o q (by simp at hq ⊢;rcases hq with h | h<;>simp[h])⟩
  ·exact⟨by decide,fun q hq=>HLA.o q (by simp at hq ⊢;rcases hq with h | h<;>simp[h])⟩)
 refine wp_region_mid (sF (.slice a13 2 c13) (.slice a15 2 c15)) (by kernel_rfl) (sF_step _ _) (hdst_of (by kernel_rfl)) (hin_of (by kernel_rfl)) (hacyc_of (by kernel_rfl)) ?hs ?he
 case he =>
  intro listed a' w' H hall
  have hdn:=H.done 24 _ 0 rfl (hall 24 (by decide)) rfl
  have hb:=ħ H.below
  have hdf:=H.defers
  have hts:=H.tsize
  clear H
  obtain⟨t,df⟩:=a'
  obtain⟨x0,x1,x2,x3,x4,x5,x6,x7,x8,x9,x10,x11,x12,x13,x14,x15,x16,x17,x18,x19,x20,x21,x22,x23,x24,x25,x26,x27,x28,x29,x30,x31,x32,x33,x34,x35,x36,x37,x38,x39,x40,x41,x42,x43,x44,x45,x46,x47,x48,x49,x50,x51,x52,x53,x54,x55,x56,x57,x58,x59,x60,x61,x62,x63,x64,x65,x66,x67,x68,x69,x70,x71,rfl⟩:=arr72 t hts
  have hdf':df=[]:=hdf
  subst hdf'
  have h0:x0 = .bool true:=hdn
  subst h0
  clear hdn hdf hts
  have BF:=ħ (B15.o.trans (hb.o.mono B15.o.size))
  go_wp2
  go_ret
  exact⟨rfl,BF.o⟩
 case hs =>
  intro i o hi listed a' w' H hl
  have hl2:=after_listed hl
  have hb:=ħ H.below
  have e3:=H.same 3 (nodst_of (by kernel_rfl))
  have e4:=H.same 4 (nodst_of (by kernel_rfl))
  have e5:=H.same 5 (nodst_of (by kernel_rfl))
  have e6:=H.same 6 (nodst_of (by kernel_rfl))
  have e8:=H.same 8 (nodst_of (by kernel_rfl))
  have hdn:=H.done
  have hdf:=H.defers
  have hts:=H.tsize
  clear hl
  obtain⟨t,df⟩:=a'
  obtain⟨x0,x1,x2,x3,x4,x5,x6,x7,x8,x9,x10,x11,x12,x13,x14,x15,x16,x17,x18,x19,x20,x21,x22,x23,x24,x25,x26,x27,x28,x29,x30,x31,x32,x33,x34,x35,x36,x37,x38,x39,x40,x41,x42,x43,x44,x45,x46,x47,x48,x49,x50,x51,x52,x53,x54,x55,x56,x57,x58,x59,x60,x61,x62,x63,x64,x65,x66,x67,x68,x69,x70,x71,rfl⟩:=arr72 t hts
  have hdf':df=[]:=hdf
  subst hdf'
  have e3':x3 = .pointer (some ⟨A,0,none⟩):=e3
  have e4':x4 = .pointer (some ⟨AB,0,none⟩):=e4
  have e5':x5 = .pointer (some ⟨AC,0,none⟩):=e5
  have e6':x6 = .slice a13 2 c13:=e6
  have e8':x8 = .slice a15 2 c15:=e8
  clear e3 e4 e5 e6 e8 hdf hts H
  subst e3' e4' e5' e6' e8'
  match i,hi with
  | 0,hi =>
   obtain rfl:=Option.some.inj hi
   refine wpOp_list rfl ?_
   go_wp2_with fail
   exact postOf_normal ⟨_,rfl,Below.refl _ _,rfl⟩
  | 1,hi =>
   obtain rfl:=Option.some.inj hi
   refine wpOp_list rfl ?_
   go_wp2_with fail
   refine (catom_any _ _ _ w').mono ?_
   rintro e w2 ⟨rfl,b2⟩
   go_wp2_with fail
   exact postOf_normal ⟨_,rfl,b2,rfl⟩
  | 2,hi =>
   obtain rfl:=Option.some.inj hi
   have d1:sF (.slice a13 2 c13) (.slice a15 2 c15) 1 w' x49:=hdn 1 _ 49 rfl (hl2 1 (by rfl)) rfl
   have y1:x49=atV sxa 3:=d1
   subst y1
   unfold atV
   refine wpOp_list rfl ?_
   go_wp2_with fail
   exact postOf_normal ⟨_,rfl,(Below.refl _ _).alloc (Nat.le_refl _) _,⟨_,rfl,kidR_new w' [exPD] [atL sxa 3] _ _ rfl rfl (fun w' P i p vs h1 h2=>by
    match i,h1,h2 with
    | 0,h1,h2 =>
     obtain rfl:=Option.some.inj h1
     obtain rfl:=Option.some.inj h2
     exact atL_pred rfl (by kernel_rfl)
    | i+1,h1,h2=>simp at h1)⟩⟩
  | 3,hi =>
   obtain rfl:=Option.some.inj hi
   have d2:sF (.slice a13 2 c13) (.slice a15 2 c15) 2 w' x50:=hdn 2 _ 50 rfl (hl2 2 (by rfl)) rfl
   obtain⟨g2,hg2,k2⟩:=d2
   subst hg2
   refine wpOp_list rfl ?_
   go_wp2_with fail
   exact postOf_normal ⟨_,rfl,Below.refl _ _,⟨g2,rfl,k2⟩⟩
  | 4,hi =>
   obtain rfl:=Option.some.inj hi
   have XW:=ħ (XA15.o.step hb.o)
   refine wpOp_list rfl ?_
   go_wp2_with (refine wpList_load_wanted (by rfl) 25 (.tmp 3) rfl A (by rfl) 25 #[.int .i64 0,.string ⟨#[120,46,97]⟩,.string ⟨#[]⟩,.int .i64 1,.slice none 0 0] (0,0) _ XW.o Tryz.underlying25 rfl (inf_pred _ rfl) ?_)
   exact postOf_normal ⟨_,rfl,Below.refl _ _,rfl⟩
  | 5,hi =>
   obtain rfl:=Option.some.inj hi
   have XW:=ħ (XB15.o.step hb.o)
   refine wpOp_list rfl ?_
   go_wp2_with (refine wpList_load_wanted (by rfl) 25 (.tmp 4) rfl AB (by rfl) 25 #[.int .i64 0,.string ⟨#[120,46,98]⟩,.string ⟨#[]⟩,.int .i64 2,.slice none 0 0] (0,0) _ XW.o Tryz.underlying25 rfl (inf_pred _ rfl) ?_)
   exact postOf_normal ⟨_,rfl,Below.refl _ _,rfl⟩
  | 6,hi =>
   obtain rfl:=Option.some.inj hi
   have XW:=ħ (XC15.o.step hb.o)
   refine wpOp_list rfl ?_
   go_wp2_with (refine wpList_load_wanted (by rfl) 25 (.tmp 5) rfl AC (by rfl) 25 #[.int .i64 0,.string ⟨#[120,46,99]⟩,.string ⟨#[]⟩,.int .i64 5,.slice none 0 0] (0,0) _ XW.o Tryz.underlying25 rfl (inf_pred _ rfl) ?_)
   exact postOf_normal ⟨_,rfl,Below.refl _ _,rfl⟩
  | 7,hi =>
   obtain rfl:=Option.some.inj hi
   have d4:sF (.slice a13 2 c13) (.slice a15 2 c15) 4 w' x52:=hdn 4 _ 52 rfl (hl2 4 (by rfl)) rfl
   have d5:sF (.slice a13 2 c13) (.slice a15 2 c15) 5 w' x53:=hdn 5 _ 53 rfl (hl2 5 (by rfl)) rfl
   have d6:sF (.slice a13 2 c13) (.slice a15 2 c15) 6 w' x54:=hdn 6 _ 54 rfl (hl2 6 (by rfl)) rfl
   have y4:x52=atV sxa 1:=d4
   subst y4
   have y5:x53=atV sxb 2:=d5
   subst y5
   have y6:x54=atV sxc 5:=d6
   subst y6
   unfold atV
   refine wpOp_list rfl ?_
   go_wp2_with fail
   exact postOf_normal ⟨_,rfl,(Below.refl _ _).alloc (Nat.le_refl _) _,⟨_,rfl,kidR_new w' [exPA,exPB,exPC] [atL sxa 1,atL sxb 2,atL sxc 5] _ _ rfl rfl (fun w' P i p vs h1 h2=>by
    match i,h1,h2 with
    | 0,h1,h2 =>
     obtain rfl:=Option.some.inj h1
     obtain rfl:=Option.some.inj h2
     exact atL_pred rfl (by kernel_rfl)
    | 1,h1,h2 =>
     obtain rfl:=Option.some.inj h1
     obtain rfl:=Option.some.inj h2
     exact atL_pred rfl (by kernel_rfl)
    | 2,h1,h2 =>
     obtain rfl:=Option.some.inj h1
     obtain rfl:=Option.some.inj h2
     exact atL_pred rfl (by kernel_rfl)
    | i+3,h1,h2=>simp at h1)⟩⟩
  | 8,hi =>
   obtain rfl:=Option.some.inj hi
   have d7:sF (.slice a13 2 c13) (.slice a15 2 c15) 7 w' x55:=hdn 7 _ 55 rfl (hl2 7 (by rfl)) rfl
   obtain⟨g7,hg7,k7⟩:=d7
   subst hg7
   refine wpOp_list rfl ?_
   go_wp2_with fail
   exact postOf_normal ⟨_,rfl,Below.refl _ _,⟨g7,rfl,k7⟩⟩
  | 9,hi =>
   obtain rfl:=Option.some.inj hi
   have d3:sF (.slice a13 2 c13) (.slice a15 2 c15) 3 w' x51:=hdn 3 _ 51 rfl (hl2 3 (by rfl)) rfl
   have d8:sF (.slice a13 2 c13) (.slice a15 2 c15) 8 w' x56:=hdn 8 _ 56 rfl (hl2 8 (by rfl)) rfl
   obtain⟨g3,hg3,k3⟩:=d3
   subst hg3
   obtain⟨g8,hg8,k8⟩:=d8
   subst hg8
   refine wpOp_list rfl ?_
   go_wp2_with fail
   exact postOf_normal ⟨_,rfl,(Below.refl _ _).alloc (Nat.le_refl _) _,⟨_,rfl,chsR_new w' ⟨1,[exPD]⟩ ⟨2,[exPA,exPB,exPC]⟩ g3 g8 _ k3 k8⟩⟩
  | 10,hi =>
   obtain rfl:=Option.some.inj hi
   have d0:sF (.slice a13 2 c13) (.slice a15 2 c15) 0 w' x48:=hdn 0 _ 48 rfl (hl2 0 (by rfl)) rfl
   have d9:sF (.slice a13 2 c13) (.slice a15 2 c15) 9 w' x57:=hdn 9 _ 57 rfl (hl2 9 (by rfl)) rfl
   have y0:x48 = .slice a13 2 c13:=d0
   subst y0
   obtain⟨g9,hg9,k9⟩:=d9
   subst hg9
   have hc:=ħ (schoices_true w' exC6 a13 (some ⟨g9,0,none⟩) 2 c13 2 rfl (by omega) HC6.o (C615.o.below hb.o) k9)
   refine wpOp_list rfl ?_
   go_wp2_with fail
   refine hc.o.mono ?_
   rintro e w2 ⟨rfl,b2⟩
   go_wp2_with fail
   exact postOf_normal ⟨_,rfl,b2,rfl⟩
  | 11,hi =>
   obtain rfl:=Option.some.inj hi
   have d10:sF (.slice a13 2 c13) (.slice a15 2 c15) 10 w' x58:=hdn 10 _ 58 rfl (hl2 10 (by rfl)) rfl
   have y10:x58 = .bool true:=d10
   subst y10
   refine wpOp_list rfl ?_
   go_wp2_with fail
   exact postOf_normal ⟨_,rfl,Below.refl _ _,rfl⟩
  | 12,hi =>
   obtain rfl:=Option.some.inj hi
   have d11:sF (.slice a13 2 c13) (.slice a15 2 c15) 11 w' x59:=hdn 11 _ 59 rfl (hl2 11 (by rfl)) rfl
   have y11:x59 = .bool true:=d11
   subst y11
   refine wpOp_list rfl ?_
   go_wp2_with fail
   exact postOf_normal ⟨_,rfl,Below.refl _ _,rfl⟩
  | 13,hi =>
   obtain rfl:=Option.some.inj hi
   have d11:sF (.slice a13 2 c13) (.slice a15 2 c15) 11 w' x59:=hdn 11 _ 59 rfl (hl2 11 (by rfl)) rfl
   have y11:x59 = .bool true:=d11
   subst y11
   have XW:=ħ (XA15.o.step hb.o)
   refine wpOp_list rfl ?_
   go_wp2_with (refine wpList_load_wanted (by rfl) 25 (.tmp 3) rfl A (by rfl) 25 #[.int .i64 0,.string ⟨#[120,46,97]⟩,.string ⟨#[]⟩,.int .i64 1,.slice none 0 0] (0,0) _ XW.o Tryz.underlying25 rfl (inf_pred _ rfl) ?_)
   exact postOf_normal ⟨_,rfl,Below.refl _ _,rfl⟩
  | 14,hi =>
   obtain rfl:=Option.some.inj hi
   have d11:sF (.slice a13 2 c13) (.slice a15 2 c15) 11 w' x59:=hdn 11 _ 59 rfl (hl2 11 (by rfl)) rfl
   have y11:x59 = .bool true:=d11
   subst y11
   have XW:=ħ (XC15.o.step hb.o)
   refine wpOp_list rfl ?_
   go_wp2_with (refine wpList_load_wanted (by rfl) 25 (.tmp 5) rfl AC (by rfl) 25 #[.int .i64 0,.string ⟨#[120,46,99]⟩,.string ⟨#[]⟩,.int .i64 5,.slice none 0 0] (0,0) _ XW.o Tryz.underlying25 rfl (inf_pred _ rfl) ?_)
   exact postOf_normal ⟨_,rfl,Below.refl _ _,rfl⟩
  | 15,hi =>
   obtain rfl:=Option.some.inj hi
   have d11:sF (.slice a13 2 c13) (.slice a15 2 c15) 11 w' x59:=hdn 11 _ 59 rfl (hl2 11 (by rfl)) rfl
   have d13:sF (.slice a13 2 c13) (.slice a15 2 c15) 13 w' x61:=hdn 13 _ 61 rfl (hl2 13 (by rfl)) rfl
   have d14:sF (.slice a13 2 c13) (.slice a15 2 c15) 14 w' x62:=hdn 14 _ 62 rfl (hl2 14 (by rfl)) rfl
   have y11:x59 = .bool true:=d11
   subst y11
   have y13:x61=atV sxa 1:=d13
   subst y13
   have y14:x62=atV sxc 5:=d14
   subst y14
   unfold atV
   refine wpOp_list rfl ?_
   go_wp2_with fail
   exact postOf_normal ⟨_,rfl,(Below.refl _ _).alloc (Nat.le_refl _) _,⟨_,rfl,kidR_new w' [exPA,exPC] [atL sxa 1,atL sxc 5] _ _ rfl rfl (fun w' P i p vs h1 h2=>by
    match i,h1,h2 with
    | 0,h1,h2 =>
     obtain rfl:=Option.some.inj h1
     obtain rfl:=Option.some.inj h2
     exact atL_pred rfl (by kernel_rfl)
    | 1,h1,h2 =>
     obtain rfl:=Option.some.inj h1
     obtain rfl:=Option.some.inj h2
     exact atL_pred rfl (by kernel_rfl)
    | i+2,h1,h2=>simp at h1)⟩⟩
  | 16,hi =>
   obtain rfl:=Option.some.inj hi
   have d11:sF (.slice a13 2 c13) (.slice a15 2 c15) 11 w' x59:=hdn 11 _ 59 rfl (hl2 11 (by rfl)) rfl
   have d15:sF (.slice a13 2 c13) (.slice a15 2 c15) 15 w' x63:=hdn 15 _ 63 rfl (hl2 15 (by rfl)) rfl
   have y11:x59 = .bool true:=d11
   subst y11
   obtain⟨g15,hg15,k15⟩:=d15
   subst hg15
   refine wpOp_list rfl ?_
   go_wp2_with fail
   exact postOf_normal ⟨_,rfl,Below.refl _ _,⟨g15,rfl,k15⟩⟩
  | 17,hi =>
   obtain rfl:=Option.some.inj hi
   have d11:sF (.slice a13 2 c13) (.slice a15 2 c15) 11 w' x59:=hdn 11 _ 59 rfl (hl2 11 (by rfl)) rfl
   have y11:x59 = .bool true:=d11
   subst y11
   have XW:=ħ (XB15.o.step hb.o)
   refine wpOp_list rfl ?_
   go_wp2_with (refine wpList_load_wanted (by rfl) 25 (.tmp 4) rfl AB (by rfl) 25 #[.int .i64 0,.string ⟨#[120,46,98]⟩,.string ⟨#[]⟩,.int .i64 2,.slice none 0 0] (0,0) _ XW.o Tryz.underlying25 rfl (inf_pred _ rfl) ?_)
   exact postOf_normal ⟨_,rfl,Below.refl _ _,rfl⟩
  | 18,hi =>
   obtain rfl:=Option.some.inj hi
   have d11:sF (.slice a13 2 c13) (.slice a15 2 c15) 11 w' x59:=hdn 11 _ 59 rfl (hl2 11 (by rfl)) rfl
   have y11:x59 = .bool true:=d11
   subst y11
   have XW:=ħ (XC15.o.step hb.o)
   refine wpOp_list rfl ?_
   go_wp2_with (refine wpList_load_wanted (by rfl) 25 (.tmp 5) rfl AC (by rfl) 25 #[.int .i64 0,.string ⟨#[120,46,99]⟩,.string ⟨#[]⟩,.int .i64 5,.slice none 0 0] (0,0) _ XW.o Tryz.underlying25 rfl (inf_pred _ rfl) ?_)
   exact postOf_normal ⟨_,rfl,Below.refl _ _,rfl⟩
  | 19,hi =>
   obtain rfl:=Option.some.inj hi
   have d11:sF (.slice a13 2 c13) (.slice a15 2 c15) 11 w' x59:=hdn 11 _ 59 rfl (hl2 11 (by rfl)) rfl
   have d17:sF (.slice a13 2 c13) (.slice a15 2 c15) 17 w' x65:=hdn 17 _ 65 rfl (hl2 17 (by rfl)) rfl
   have d18:sF (.slice a13 2 c13) (.slice a15 2 c15) 18 w' x66:=hdn 18 _ 66 rfl (hl2 18 (by rfl)) rfl
   have y11:x59 = .bool true:=d11
   subst y11
   have y17:x65=atV sxb 2:=d17
   subst y17
   have y18:x66=atV sxc 5:=d18
   subst y18
   unfold atV
   refine wpOp_list rfl ?_
   go_wp2_with fail
   exact postOf_normal ⟨_,rfl,(Below.refl _ _).alloc (Nat.le_refl _) _,⟨_,rfl,kidR_new w' [exPB,exPC] [atL sxb 2,atL sxc 5] _ _ rfl rfl (fun w' P i p vs h1 h2=>by
    match i,h1,h2 with
    | 0,h1,h2 =>
     obtain rfl:=Option.some.inj h1
     obtain rfl:=Option.some.inj h2
     exact atL_pred rfl (by kernel_rfl)
    | 1,h1,h2 =>
     obtain rfl:=Option.some.inj h1
     obtain rfl:=Option.some.inj h2
     exact atL_pred rfl (by kernel_rfl)
    | i+2,h1,h2=>simp at h1)⟩⟩
  | 20,hi =>
   obtain rfl:=Option.some.inj hi
   have d11:sF (.slice a13 2 c13) (.slice a15 2 c15) 11 w' x59:=hdn 11 _ 59 rfl (hl2 11 (by rfl)) rfl
   have d19:sF (.slice a13 2 c13) (.slice a15 2 c15) 19 w' x67:=hdn 19 _ 67 rfl (hl2 19 (by rfl)) rfl
   have y11:x59 = .bool true:=d11
   subst y11
   obtain⟨g19,hg19,k19⟩:=d19
   subst hg19
   refine wpOp_list rfl ?_
   go_wp2_with fail
   exact postOf_normal ⟨_,rfl,Below.refl _ _,⟨g19,rfl,k19⟩⟩
  | 21,hi =>
   obtain rfl:=Option.some.inj hi
   have d11:sF (.slice a13 2 c13) (.slice a15 2 c15) 11 w' x59:=hdn 11 _ 59 rfl (hl2 11 (by rfl)) rfl
   have d16:sF (.slice a13 2 c13) (.slice a15 2 c15) 16 w' x64:=hdn 16 _ 64 rfl (hl2 16 (by rfl)) rfl
   have d20:sF (.slice a13 2 c13) (.slice a15 2 c15) 20 w' x68:=hdn 20 _ 68 rfl (hl2 20 (by rfl)) rfl
   have y11:x59 = .bool true:=d11
   subst y11
   obtain⟨g16,hg16,k16⟩:=d16
   subst hg16
   obtain⟨g20,hg20,k20⟩:=d20
   subst hg20
   refine wpOp_list rfl ?_
   go_wp2_with fail
   exact postOf_normal ⟨_,rfl,(Below.refl _ _).alloc (Nat.le_refl _) _,⟨_,rfl,chsR_new w' ⟨1,[exPA,exPC]⟩ ⟨1,[exPB,exPC]⟩ g16 g20 _ k16 k20⟩⟩
  | 22,hi =>
   obtain rfl:=Option.some.inj hi
   have d11:sF (.slice a13 2 c13) (.slice a15 2 c15) 11 w' x59:=hdn 11 _ 59 rfl (hl2 11 (by rfl)) rfl
   have d12:sF (.slice a13 2 c13) (.slice a15 2 c15) 12 w' x60:=hdn 12 _ 60 rfl (hl2 12 (by rfl)) rfl
   have d21:sF (.slice a13 2 c13) (.slice a15 2 c15) 21 w' x69:=hdn 21 _ 69 rfl (hl2 21 (by rfl)) rfl
   have y11:x59 = .bool true:=d11
   subst y11
   have y12:x60 = .slice a15 2 c15:=d12
   subst y12
   obtain⟨g21,hg21,k21⟩:=d21
   subst hg21
   have hc:=ħ (schoices_true w' exC7 a15 (some ⟨g21,0,none⟩) 2 c15 2 rfl (by omega) HC7.o (C7.o.below hb.o) k21)
   refine wpOp_list rfl ?_
   go_wp2_with fail
   refine hc.o.mono ?_
   rintro e w2 ⟨rfl,b2⟩
   go_wp2_with fail
   exact postOf_normal ⟨_,rfl,b2,rfl⟩
  | 23,hi =>
   obtain rfl:=Option.some.inj hi
   have d11:sF (.slice a13 2 c13) (.slice a15 2 c15) 11 w' x59:=hdn 11 _ 59 rfl (hl2 11 (by rfl)) rfl
   have d22:sF (.slice a13 2 c13) (.slice a15 2 c15) 22 w' x70:=hdn 22 _ 70 rfl (hl2 22 (by rfl)) rfl
   have y11:x59 = .bool true:=d11
   subst y11
   have y22:x70 = .bool true:=d22
   subst y22
   refine wpOp_list rfl ?_
   go_wp2_with fail
   exact postOf_normal ⟨_,rfl,Below.refl _ _,rfl⟩
  | 24,hi =>
   obtain rfl:=Option.some.inj hi
   have d23:sF (.slice a13 2 c13) (.slice a15 2 c15) 23 w' x71:=hdn 23 _ 71 rfl (hl2 23 (by rfl)) rfl
   have y23:x71 = .bool true:=d23
   subst y23
   refine wpOp_list rfl ?_
   go_wp2_with fail
   exact postOf_normal ⟨_,rfl,Below.refl _ _,rfl⟩
  | i+25,hi=>simp at hi
end
section
theorem validN_of {a b:List Nat} (ha:freeB a=true) (hb:freeB b=true):validN (a++46::b)=true:=by
 have hna:nameB a=true:=by unfold freeB at ha;rw[Bool.and_eq_true] at ha;exact ha.1
 have hr:runN notDot (a++46::b)=a.length:=run_app notDot a _ (fun y hy=>by have:=((name_byte hna).1 y hy).2;simpa [notDot] using this) (.inr (show notDot 46=false by decide))
 unfold validN
 rw[hr,List.take_left' rfl]
 have hd:(a++46::b).drop (a.length+1)=b:=by rw[← List.drop_drop,List.drop_left' rfl];rfl
 rw[hd,ha,hb]
 simp
theorem nam_free {ts:List Tok} {i:Nat} (h:isNamP ts i=true):freeB (txtP ts i)=true:=by
 unfold isNamP at h
 unfold txtP
 cases hi:ts[i]? with
 | none=>rw[hi] at h;cases h
 | some t =>
  rw[hi] at h
  rw[Bool.and_eq_true] at h
  exact h.2
theorem sum_opt {ts:List Tok} {sz i:Nat} {r:SumV×Nat} (h:sumP ts sz i = .ok r):optN r.1.1=true:=by
 unfold sumP at h
 split at h
 ·obtain⟨m,-,h2⟩:=ex_bind h
  cases h2;rfl
 ·split at h
  ·cases h;rfl
  ·obtain⟨a,h1,h2⟩:=ex_bind h
   obtain⟨j,h3,h4⟩:=ex_bind h2
   obtain⟨b,h5,h6⟩:=ex_bind h4
   obtain⟨q1,rfl,-⟩:=nameP_ok h1
   obtain⟨q2,rfl,-⟩:=nameP_ok h5
   have hv:optN (txtP ts i++46::txtP ts j)=true:=by
    unfold optN
    rw[validN_of (nam_free q1) (nam_free q2),Bool.or_true]
   split at h6
   ·obtain⟨m,-,h7⟩:=ex_bind h6
    cases h7;exact hv
   ·split at h6
    ·obtain⟨m,-,h7⟩:=ex_bind h6
     cases h7;exact hv
    ·cases h6;exact hv
theorem most_form {a b:SumV} {less:Int} (ha:optN a.1=true) (hb:optN b.1=true) (h:inP (mostP a b less)=true):formP (mostP a b less)=true:=by
 have hc:inC (mostP a b less).c=true:=h
 unfold mostP at hc ⊢
 unfold formP
 have hc2:inC (b.2-a.2-less)=true:=hc
 rw[if_pos rfl,ha,hb,hc2]
 rfl
theorem two_form {k:Int} {p q:Prd} (hk:k=1∨k=2) (hp:formP p=true) (hq:formP q=true):formP (.mk k [] [] 0 [p,q])=true:=by
 unfold formP
 rw[if_neg (by omega)]
 rcases hk with rfl | rfl<;>simp[listB,formL,hp,hq]
def Form (el:Nat→PR Prd):Prop:=∀ i r,el i = .ok r→formP r.1=true
theorem compare_form {ts:List Tok} {sz:Nat} {a:SumV} {u:Nat} (ha:optN a.1=true):Form (compareP ts sz a u):=by
 intro i r h
 unfold compareP at h
 split at h
 ·cases h
 ·rename_i n hn
  obtain⟨b,h1,h2⟩:=ex_bind h
  split at h2
  ·rename_i hok
   cases h2
   have hb:=sum_opt h1
   show formP (makeP n a b.1)=true
   unfold okP at hok
   unfold makeP
   split at hok
   ·rw[if_pos (by assumption)];exact most_form ha hb hok
   ·rw[if_neg (by assumption)]
    split at hok
    ·rw[if_pos (by assumption)];exact most_form ha hb hok
    ·rw[if_neg (by assumption)]
     split at hok
     ·rw[if_pos (by assumption)];exact most_form hb ha hok
     ·rw[if_neg (by assumption)]
      split at hok
      ·rw[if_pos (by assumption)];exact most_form hb ha hok
      ·rw[if_neg (by assumption)]
       split at hok
       ·rw[if_pos (by assumption)]
        rw[Bool.and_eq_true] at hok
        exact two_form (.inl rfl) (most_form ha hb hok.1) (most_form hb ha hok.2)
       ·rw[if_neg (by assumption)]
        rw[Bool.and_eq_true] at hok
        exact two_form (.inr rfl) (most_form ha hb hok.1) (most_form hb ha hok.2)
  ·cases h2
theorem one_form {k:Int} {ps:List Prd} (hk:k=1∨k=2) (h0:0<ps.length) (h:∀ q∈ps,formP q=true):formP (oneP k ps)=true:=by
 match ps,h0,h with
 | [p],_,h=>exact h p (by simp)
 | a::b::r,_,h =>
  show formP (.mk k [] [] 0 (a::b::r))=true
  unfold formP
  rw[if_neg (by omega)]
  have hl:=(formL_iff (a::b::r)).2 h
  rw[hl]
  rcases hk with rfl | rfl<;>simp[listB]
theorem member_form {ts:List Tok} {sz:Nat} {a:SumV} {u:Nat} (ha:optN a.1=true):Form (memberP ts sz a u):=by
 intro i r h
 unfold memberP at h
 obtain⟨j,-,h2⟩:=ex_bind h
 obtain⟨rs,h3,h4⟩:=ex_bind h2
 obtain⟨k,-,h6⟩:=ex_bind h4
 split at h6
 ·rename_i hall
  cases h6
  have hlen:=(ranges_few _ _ _ _ h3).2.1
  refine one_form (.inr rfl) (by rw[List.length_map];exact hlen) (fun q hq=>?_)
  obtain⟨m,hm,rfl⟩:=List.mem_map.1 hq
  have:=List.all_eq_true.1 hall m hm
  unfold rngOk at this
  rw[Bool.and_eq_true] at this
  exact two_form (.inl rfl) (most_form rfl ha this.1) (most_form ha rfl this.2)
 ·cases h6
theorem list_form {ts:List Tok} {word:List Nat} {el:Nat→PR Prd} (hel:Form el):∀ (f i:Nat) (acc:List Prd) (r:List Prd×Nat),(∀ q∈acc,formP q=true)→listP ts word el f i acc = .ok r→acc.length<r.1.length∧∀ q∈r.1,formP q=true
 | 0,_,_,_,_,h=>by cases h
 | f+1,i,acc,r,ha,h=>by
  unfold listP at h
  obtain⟨p,h1,h2⟩:=ex_bind h
  have hp:=hel i p h1
  have ha2:∀ q∈acc++[p.1],formP q=true:=fun q hq=>by
   rcases List.mem_append.1 hq with hq | hq
   ·exact ha q hq
   ·rw[List.mem_singleton] at hq;rw[hq];exact hp
  split at h2
  ·have:=list_form hel f _ _ r ha2 h2
   refine⟨?_,this.2⟩
   have h3:=this.1
   rw[List.length_append] at h3
   omega
  ·cases h2
   exact⟨by simp,ha2⟩
theorem all_form {ts:List Tok} {unit:Nat→PR Prd} (h:Form unit):Form (allP ts unit):=by
 intro i r hr
 unfold allP at hr
 obtain⟨ps,h1,h2⟩:=ex_bind hr
 cases h2
 have:=list_form h _ _ _ _ (by simp) h1
 exact one_form (.inl rfl) (by simpa using this.1) this.2
theorem some_form {ts:List Tok} {unit:Nat→PR Prd} (h:Form unit):Form (someP ts unit):=by
 intro i r hr
 unfold someP at hr
 obtain⟨ps,h1,h2⟩:=ex_bind hr
 cases h2
 have:=list_form (all_form h) _ _ _ _ (by simp) h1
 exact one_form (.inr rfl) (by simpa using this.1) this.2
theorem least_form {ts:List Tok} {sz:Nat} {unit:Nat→PR Prd} {u:Nat} (h:Form unit):Form (leastP ts sz unit u):=by
 intro i r hr
 unfold leastP at hr
 obtain⟨j1,-,h1⟩:=ex_bind hr
 obtain⟨n,-,h2⟩:=ex_bind h1
 obtain⟨j2,-,h3⟩:=ex_bind h2
 obtain⟨j3,-,h4⟩:=ex_bind h3
 obtain⟨ps,h5,h6⟩:=ex_bind h4
 obtain⟨j4,-,h7⟩:=ex_bind h6
 split at h7
 ·rename_i hn
  cases h7
  have:=list_form (some_form h) _ _ _ _ (by simp) h5
  unfold formP
  rw[if_neg (by decide),(formL_iff ps.1).2 this.2]
  unfold listB
  simp only[Bool.and_true,Bool.or_eq_true,Bool.and_eq_true,beq_iff_eq,decide_eq_true_eq]
  refine⟨⟨.inr ⟨⟨?_,by omega⟩,by omega⟩,?_⟩,?_⟩<;>simp
 ·cases h7
theorem unit_form {ts:List Tok} {sz:Nat} (hts:∀ t∈ts,TokOk t) (hn:ts.length≤100000):∀ f,Form (unitP ts sz f)
 | 0=>by intro i r h;cases h
 | f+1=>by
  have ih:=unit_form (sz:=sz) hts hn f
  intro i r h
  unfold unitP at h
  split at h
  ·obtain⟨p,h1,h2⟩:=ex_bind h
   cases h2
   have hf:=ih _ _ h1
   have hc:=unit_few (sz:=sz) hts f _ _ h1
   have hg:=unitP_ok (sz:=sz) hts f _ _ h1
   exact (neg_form p.1 hf (by have:=hg.2;have:=hc.2;omega)).1
  ·split at h
   ·obtain⟨p,h1,h2⟩:=ex_bind h
    obtain⟨j,-,h3⟩:=ex_bind h2
    cases h3
    have:=some_form ih _ _ h1
    exact this
   ·split at h
    ·exact least_form ih _ _ h
    ·obtain⟨a,h1,h2⟩:=ex_bind h
     split at h2
     ·exact member_form (sum_opt h1) _ _ h2
     ·exact compare_form (sum_opt h1) _ _ h2
theorem parse_valid {l:List Nat} (hb:∀ y∈l,y<256) (h:(parseF l).2.2.2=0):validP (parseF l).2.1=true:=by
 unfold parseF at h ⊢
 by_cases h0:(scanF l).2.2=0
 ·rw[if_pos h0] at h ⊢
  cases hq:questP (scanF l).1 l.length with
  | error e=>show validP prd0=true;decide
  | ok r =>
   show validP r.2=true
   unfold questP at hq
   obtain⟨j1,-,h1⟩:=ex_bind hq
   obtain⟨n,h2,h3⟩:=ex_bind h1
   obtain⟨j2,-,h4⟩:=ex_bind h3
   obtain⟨p,h5,h6⟩:=ex_bind h4
   obtain⟨j3,-,h7⟩:=ex_bind h6
   split at h7
   ·cases h7
   ·split at h7
    ·rename_i hs
     cases h7
     have hf:=some_form (unit_form (sz:=l.length) (scanF_ok l hb) (Nat.le_trans (scanF_count l) (by decide)) _) _ _ h5
     unfold validP
     rw[hs,hf]
     rfl
    ·cases h7
 ·rw[if_neg h0] at h
  exact absurd h h0
theorem parse_bad {l:List Nat} (h:(parseF l).2.2.2≠0):(parseF l).1=[]∧(parseF l).2.1=prd0:=by
 unfold parseF at h ⊢
 by_cases h0:(scanF l).2.2=0
 ·rw[if_pos h0] at h ⊢
  cases hq:questP (scanF l).1 l.length with
  | error e=>exact⟨rfl,rfl⟩
  | ok r =>
   rw[hq] at h
   exact absurd rfl h
 ·rw[if_neg h0]
  exact⟨rfl,rfl⟩
end
end Go.Proofs.YtmkdfbelbcocpaaGreatDoor
