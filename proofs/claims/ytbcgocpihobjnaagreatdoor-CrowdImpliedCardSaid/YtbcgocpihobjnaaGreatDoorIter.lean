import Derived.Shelf.SlIter.Nil
import Derived.Shelf.SortM.Plain
import Derived.Shelf.SortM.SortNone
import Derived.Ground.GgzProg
import Derived.Ground.SlgmProg
import Derived.Test.YtbcgocpihobjnaaGreatDoorProg
namespace Go.Proofs
open Go.Shelf
def Tryz.keys239_ren:Go.Shelf.Ren:=⟨fun | 7=>239 | 10=>271 | n=>n,fun | 23=>162 | 26=>9 | 3=>4 | 28=>253 | 0=>0 | 27=>252 | 33=>165 | 4=>4 | n=>n,fun | n=>n⟩
theorem Tryz.keys239:Go.Proofs.SlLaysZ.n7 Tryz.prog Tryz.keys239_ren:={
 mixed:=by kernel_rfl
 f7:=⟨Tryz.f239.name,by decide,Tryz.func239.trans (congrArg some (by kernel_rfl))⟩
 f10:=⟨Tryz.f271.name,by decide,Tryz.func271.trans (congrArg some (by kernel_rfl))⟩
 t0:=Tryz.underlying0
 a0:=Tryz.isAgg0
 z0:=Tryz.sizeOf0
 v0:=Tryz.zeroValue0
 t4:=Tryz.underlying4
 a4:=Tryz.isAgg4
 z4:=Tryz.sizeOf4
 v4:=Tryz.zeroValue4
 t23:=Tryz.underlying162
 a23:=Tryz.isAgg162
 z23:=Tryz.sizeOf162
 v23:=Tryz.zeroValue162
 t26:=Tryz.underlying9
 a26:=Tryz.isAgg9
 z26:=Tryz.sizeOf9
 v26:=Tryz.zeroValue9
 t27:=Tryz.underlying252
 a27:=Tryz.isAgg252
 z27:=Tryz.sizeOf252
 v27:=Tryz.zeroValue252
 t28:=Tryz.underlying253
 a28:=Tryz.isAgg253
 z28:=Tryz.sizeOf253
 v28:=Tryz.zeroValue253
 t33:=Tryz.underlying165
 a33:=Tryz.isAgg165
 z33:=Tryz.sizeOf165
 v33:=Tryz.zeroValue165 }
def Tryz.sorted238_ren:Go.Shelf.Ren:=⟨fun | 6=>238 | 8=>269 | 9=>270 | 11=>282 | 13=>196 | 12=>283 | 23=>231 | 24=>232 | 14=>295 | 15=>296 | 16=>297 | 17=>298 | 18=>299 | 19=>300 | 20=>267 | 21=>301 | 22=>302 | 25=>306 | 26=>261 | 27=>262 | 28=>307 | 29=>308 | 30=>215 | 31=>310 | n=>n,fun | 26=>9 | 28=>253 | 24=>194 | 0=>0 | 3=>3 | 37=>207 | 48=>234 | 50=>183 | 4=>4 | 40=>242 | 39=>241 | 45=>48 | 5=>5 | 9=>9 | 51=>272 | 55=>199 | 57=>283 | 58=>284 | 33=>165 | n=>n,fun | n=>n⟩
theorem Tryz.sorted238:Go.Proofs.SlLaysZ.n6 Tryz.prog Tryz.sorted238_ren:={
 mixed:=by kernel_rfl
 f6:=⟨Tryz.f238.name,by decide,Tryz.func238.trans (congrArg some (by kernel_rfl))⟩
 f8:=⟨Tryz.f269.name,by decide,Tryz.func269.trans (congrArg some (by kernel_rfl))⟩
 f11:=⟨Tryz.f282.name,by decide,Tryz.func282.trans (congrArg some (by kernel_rfl))⟩
 t0:=Tryz.underlying0
 a0:=Tryz.isAgg0
 z0:=Tryz.sizeOf0
 v0:=Tryz.zeroValue0
 t24:=Tryz.underlying194
 a24:=Tryz.isAgg194
 z24:=Tryz.sizeOf194
 v24:=Tryz.zeroValue194
 t26:=Tryz.underlying9
 a26:=Tryz.isAgg9
 z26:=Tryz.sizeOf9
 v26:=Tryz.zeroValue9
 t28:=Tryz.underlying253
 a28:=Tryz.isAgg253
 z28:=Tryz.sizeOf253
 v28:=Tryz.zeroValue253
 i26:=by kernel_rfl }
def Tryz.sort270_ren:Go.Shelf.Ren:=⟨fun | 6=>270 | 8=>196 | 9=>283 | 19=>231 | 20=>232 | 21=>295 | 22=>296 | 23=>297 | 24=>298 | 25=>299 | 26=>300 | 27=>267 | 28=>301 | 29=>302 | 36=>306 | 31=>261 | 32=>262 | 37=>307 | 38=>308 | 39=>215 | 41=>310 | n=>n,fun | 27=>194 | 29=>9 | 3=>3 | 32=>207 | 26=>194 | 0=>0 | 44=>234 | 46=>183 | 4=>4 | 36=>242 | 35=>241 | 41=>48 | 5=>5 | 9=>9 | 53=>272 | 57=>199 | 63=>283 | 64=>284 | n=>n,fun | n=>n⟩
theorem Tryz.sort270:Go.Proofs.SlLaysM.n6 Tryz.prog Tryz.sort270_ren:={
 mixed:=by kernel_rfl
 f6:=⟨Tryz.f270.name,by decide,Tryz.func270.trans (congrArg some (by kernel_rfl))⟩
 f8:=Tryz.func196.trans (congrArg some (by kernel_rfl))
 f9:=⟨Tryz.f283.name,by decide,Tryz.func283.trans (congrArg some (by kernel_rfl))⟩
 f19:=Tryz.func231.trans (congrArg some (by kernel_rfl))
 f20:=Tryz.func232.trans (congrArg some (by kernel_rfl))
 f21:=⟨Tryz.f295.name,by decide,Tryz.func295.trans (congrArg some (by kernel_rfl))⟩
 f22:=⟨Tryz.f296.name,by decide,Tryz.func296.trans (congrArg some (by kernel_rfl))⟩
 f23:=⟨Tryz.f297.name,by decide,Tryz.func297.trans (congrArg some (by kernel_rfl))⟩
 f24:=⟨Tryz.f298.name,by decide,Tryz.func298.trans (congrArg some (by kernel_rfl))⟩
 f25:=⟨Tryz.f299.name,by decide,Tryz.func299.trans (congrArg some (by kernel_rfl))⟩
 f26:=⟨Tryz.f300.name,by decide,Tryz.func300.trans (congrArg some (by kernel_rfl))⟩
 f27:=⟨Tryz.f267.name,by decide,Tryz.func267.trans (congrArg some (by kernel_rfl))⟩
 f28:=⟨Tryz.f301.name,by decide,Tryz.func301.trans (congrArg some (by kernel_rfl))⟩
 f29:=⟨Tryz.f302.name,by decide,Tryz.func302.trans (congrArg some (by kernel_rfl))⟩
 f31:=Tryz.func261.trans (congrArg some (by kernel_rfl))
 f32:=Tryz.func262.trans (congrArg some (by kernel_rfl))
 f36:=⟨Tryz.f306.name,by decide,Tryz.func306.trans (congrArg some (by kernel_rfl))⟩
 f37:=⟨Tryz.f307.name,by decide,Tryz.func307.trans (congrArg some (by kernel_rfl))⟩
 f38:=⟨Tryz.f308.name,by decide,Tryz.func308.trans (congrArg some (by kernel_rfl))⟩
 f39:=⟨Tryz.f215.name,by decide,Tryz.func215.trans (congrArg some (by kernel_rfl))⟩
 f41:=⟨Tryz.f310.name,by decide,Tryz.func310.trans (congrArg some (by kernel_rfl))⟩
 t0:=Tryz.underlying0
 a0:=Tryz.isAgg0
 z0:=Tryz.sizeOf0
 v0:=Tryz.zeroValue0
 t3:=Tryz.underlying3
 a3:=Tryz.isAgg3
 z3:=Tryz.sizeOf3
 v3:=Tryz.zeroValue3
 t4:=Tryz.underlying4
 a4:=Tryz.isAgg4
 z4:=Tryz.sizeOf4
 v4:=Tryz.zeroValue4
 t5:=Tryz.underlying5
 a5:=Tryz.isAgg5
 z5:=Tryz.sizeOf5
 v5:=Tryz.zeroValue5
 t9:=Tryz.underlying9
 a9:=Tryz.isAgg9
 z9:=Tryz.sizeOf9
 v9:=Tryz.zeroValue9
 t26:=Tryz.underlying194
 a26:=Tryz.isAgg194
 z26:=Tryz.sizeOf194
 v26:=Tryz.zeroValue194
 t27:=Tryz.underlying194
 a27:=Tryz.isAgg194
 z27:=Tryz.sizeOf194
 v27:=Tryz.zeroValue194
 t29:=Tryz.underlying9
 a29:=Tryz.isAgg9
 z29:=Tryz.sizeOf9
 v29:=Tryz.zeroValue9
 t32:=Tryz.underlying207
 a32:=Tryz.isAgg207
 z32:=Tryz.sizeOf207
 v32:=Tryz.zeroValue207
 t35:=Tryz.underlying241
 a35:=Tryz.isAgg241
 z35:=Tryz.sizeOf241
 v35:=Tryz.zeroValue241
 t36:=Tryz.underlying242
 a36:=Tryz.isAgg242
 z36:=Tryz.sizeOf242
 v36:=Tryz.zeroValue242
 t41:=Tryz.underlying48
 a41:=Tryz.isAgg48
 z41:=Tryz.sizeOf48
 v41:=Tryz.zeroValue48
 t44:=Tryz.underlying234
 a44:=Tryz.isAgg234
 z44:=Tryz.sizeOf234
 v44:=Tryz.zeroValue234
 t46:=Tryz.underlying183
 a46:=Tryz.isAgg183
 z46:=Tryz.sizeOf183
 v46:=Tryz.zeroValue183
 t53:=Tryz.underlying272
 a53:=Tryz.isAgg272
 z53:=Tryz.sizeOf272
 v53:=Tryz.zeroValue272
 t57:=Tryz.underlying199
 a57:=Tryz.isAgg199
 z57:=Tryz.sizeOf199
 v57:=Tryz.zeroValue199
 t63:=Tryz.underlying283
 a63:=Tryz.isAgg283
 z63:=Tryz.sizeOf283
 v63:=Tryz.zeroValue283
 t64:=Tryz.underlying284
 a64:=Tryz.isAgg284
 z64:=Tryz.sizeOf284
 v64:=Tryz.zeroValue284 }
open Go.RowKit Go.Maps Go.Sort Go.Lib in
theorem Tryz.sorts238 (m:Nat):AnyZ.SortsIn Tryz.prog Tryz.sorted238_ren Fence.wide m :=
 ⟨fun blk off cap ss W hH hblk hsz=>callsIn_wide.2 (AnyM.slices_Sort_string Tryz.sort270 blk off cap ss W hH hblk hsz),
  fun p cap W=>callsIn_wide.2 (AnyM.slices_Sort_string_none Tryz.sort270 p cap W)⟩
open Go.RowKit Go.Maps Go.Sort Go.Lib in
theorem Tryz.maps_Keys_239 (mb:Option Nat) (W:World):CallsIn Fence.wide 5 Tryz.prog 239 #[.map mb] W fun e w'=>e = .returned (.func (.func 271) #[] #[.pointer (some ⟨W.heap.size,0,none⟩)])∧w' = W.alloc (.cells #[.map mb] 162) :=
 AnyZ.keys_in Tryz.keys239 Fence.wide 5 trivial rfl mb W
open Go.RowKit Go.Maps Go.Sort Go.Lib in
theorem Tryz.slices_Sorted_keys_238_239 {H:Type} (b nn:Nat) (D0:DataW H) (R:Value→Option (DataW H × List MemPlace)) (w:World) (hown:w.ownsMap Tryz.prog 9 R b nn D0) (hmax:Maps.size D0≤maxLen) (hbytes:Maps.size D0 * 16≤140737488355328) :
  CallsIn Fence.wide 5 Tryz.prog 238 #[.func (.func 271) #[] #[.pointer (some ⟨w.heap.size,0,none⟩)]] (w.alloc (.cells #[.map (some b)] 162)) fun e w'=>∃ (v:Value) (ss:List (List UInt8)),e = .returned v∧ss.Perm (strKeys D0) ∧
   w'.ownsRow (w.alloc (.cells #[.map (some b)] 162)).heap.size 9 1 v ss.length ((ss.mergeSort (fun x y=>decide (x≤y))).map encStr)∧(v = .slice none 0 0 ↔ ss = [])∧Below (w.alloc (.cells #[.map (some b)] 162)).heap.size (w.alloc (.cells #[.map (some b)] 162)) w':=by
 have hbl:=hown.lt
 have hseq:SeqGives Fence.wide 2 Tryz.prog 271 #[.pointer (some ⟨w.heap.size,0,none⟩)] encStr (fun ss=>ss.Perm (strKeys D0)) (Maps.size D0) (w.alloc (.cells #[.map (some b)] 162)) :=
  AnyZ.keys_gives (ρ:=Tryz.keys239_ren) { Tryz.keys239 with } Fence.wide _ trivial rfl (by omega) w.heap.size b nn D0 _ (by simp) (by simp) (by
   obtain ⟨es,clock,hb,Ft,hs,hD⟩:=hown
   exact ⟨es,clock,(Below.heap_alloc _ _ b hbl).trans hb,Ft,hs,hD⟩)
 exact AnyZ.sorted_in Tryz.sorted238 Fence.wide 5 trivial trivial trivial trivial rfl (by omega) (Tryz.sorts238 _) (enters_of Tryz.func270 (by kernel_rfl) rfl) 271 #[.pointer (some ⟨w.heap.size,0,none⟩)] trivial (enters_of Tryz.func271 (by kernel_rfl) rfl) _ _ hmax hbytes _ hseq
end Go.Proofs
