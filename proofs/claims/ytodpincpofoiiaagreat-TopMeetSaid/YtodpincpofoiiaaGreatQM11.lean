/- Parts of a proof: contracts and laws. -/
import Derived.Test.YtodpincpofoiiaaGreatQM10
import Derived.Shelf.SlSortCmp.NoneTotal
import Derived.Shelf.SlicesE.DeleteFunc
import Derived.Shelf.SlicesG.Cmp
import Derived.Test.YtodpincpofoiiaaGreatQM03
set_option maxRecDepth 100000
set_option maxHeartbeats 16000000
namespace Go.Proofs.YtodpincpofoiiaaGreat
section
set_option linter.unusedVariables false
set_option linter.unusedSimpArgs false
open Go.Shelf
open Go.RowKit Go.Sort Go.Lib
def laySortInt_ren:Go.Shelf.Ren:=⟨fun | 6=>110 | 15=>189 | 14=>188 | 28=>225 | 29=>226 | 20=>217 | 21=>218 | 22=>219 | 23=>220 | 24=>221 | 25=>222 | 26=>223 | 27=>224 | 46=>246 | 47=>247 | 48=>248 | 49=>249 | 50=>250 | 57=>261 | n=>n,fun | 22=>45 | 24=>3 | 25=>22 | 3=>3 | 39=>226 | 0=>0 | 53=>254 | 55=>142 | 4=>4 | 46=>248 | 45=>247 | 50=>125 | 5=>5 | 9=>9 | 66=>268 | 70=>272 | 76=>282 | 77=>283 | n=>n,fun | n=>n⟩
theorem laySortInt : Go.Proofs.SlLaysF.n6 Tryz.prog laySortInt_ren := {
 mixed:=by kernel_rfl
 f6:=⟨Tryz.f110.name,by decide,Tryz.func110.trans (congrArg some (by kernel_rfl))⟩
 f14:=⟨Tryz.f188.name,by decide,Tryz.func188.trans (congrArg some (by kernel_rfl))⟩
 f15:=Tryz.func189.trans (congrArg some (by kernel_rfl))
 f20:=⟨Tryz.f217.name,by decide,Tryz.func217.trans (congrArg some (by kernel_rfl))⟩
 f21:=⟨Tryz.f218.name,by decide,Tryz.func218.trans (congrArg some (by kernel_rfl))⟩
 f22:=⟨Tryz.f219.name,by decide,Tryz.func219.trans (congrArg some (by kernel_rfl))⟩
 f23:=⟨Tryz.f220.name,by decide,Tryz.func220.trans (congrArg some (by kernel_rfl))⟩
 f24:=⟨Tryz.f221.name,by decide,Tryz.func221.trans (congrArg some (by kernel_rfl))⟩
 f25:=⟨Tryz.f222.name,by decide,Tryz.func222.trans (congrArg some (by kernel_rfl))⟩
 f26:=⟨Tryz.f223.name,by decide,Tryz.func223.trans (congrArg some (by kernel_rfl))⟩
 f27:=⟨Tryz.f224.name,by decide,Tryz.func224.trans (congrArg some (by kernel_rfl))⟩
 f28:=Tryz.func225.trans (congrArg some (by kernel_rfl))
 f29:=Tryz.func226.trans (congrArg some (by kernel_rfl))
 f46:=⟨Tryz.f246.name,by decide,Tryz.func246.trans (congrArg some (by kernel_rfl))⟩
 f47:=Tryz.func247.trans (congrArg some (by kernel_rfl))
 f48:=Tryz.func248.trans (congrArg some (by kernel_rfl))
 f49:=⟨Tryz.f249.name,by decide,Tryz.func249.trans (congrArg some (by kernel_rfl))⟩
 f50:=⟨Tryz.f250.name,by decide,Tryz.func250.trans (congrArg some (by kernel_rfl))⟩
 f57:=⟨Tryz.f261.name,by decide,Tryz.func261.trans (congrArg some (by kernel_rfl))⟩
 t0:=Tryz.underlying0
 a0:=Tryz.isAgg0
 z0:=Tryz.sizeOf0
 v0:=Tryz.zeroValue0
 t3:=Tryz.underlying3
 a3:=Tryz.isAgg3
 z3:=Tryz.sizeOf3
 v3:=Tryz.zeroValue3
 t4:=Tryz.underlying4
 a4:=Tryz.isAgg4
 z4:=Tryz.sizeOf4
 v4:=Tryz.zeroValue4
 t5:=Tryz.underlying5
 a5:=Tryz.isAgg5
 z5:=Tryz.sizeOf5
 v5:=Tryz.zeroValue5
 t9:=Tryz.underlying9
 a9:=Tryz.isAgg9
 z9:=Tryz.sizeOf9
 v9:=Tryz.zeroValue9
 t22:=Tryz.underlying45
 a22:=Tryz.isAgg45
 z22:=Tryz.sizeOf45
 v22:=Tryz.zeroValue45
 a24:=Tryz.isAgg3
 z24:=Tryz.sizeOf3
 t25:=Tryz.underlying22
 a25:=Tryz.isAgg22
 z25:=Tryz.sizeOf22
 v25:=Tryz.zeroValue22
 t39:=Tryz.underlying226
 a39:=Tryz.isAgg226
 z39:=Tryz.sizeOf226
 v39:=Tryz.zeroValue226
 t45:=Tryz.underlying247
 a45:=Tryz.isAgg247
 z45:=Tryz.sizeOf247
 v45:=Tryz.zeroValue247
 t46:=Tryz.underlying248
 a46:=Tryz.isAgg248
 z46:=Tryz.sizeOf248
 v46:=Tryz.zeroValue248
 t50:=Tryz.underlying125
 a50:=Tryz.isAgg125
 z50:=Tryz.sizeOf125
 v50:=Tryz.zeroValue125
 t53:=Tryz.underlying254
 a53:=Tryz.isAgg254
 z53:=Tryz.sizeOf254
 v53:=Tryz.zeroValue254
 t55:=Tryz.underlying142
 a55:=Tryz.isAgg142
 z55:=Tryz.sizeOf142
 v55:=Tryz.zeroValue142
 t66:=Tryz.underlying268
 a66:=Tryz.isAgg268
 z66:=Tryz.sizeOf268
 v66:=Tryz.zeroValue268
 t70:=Tryz.underlying272
 a70:=Tryz.isAgg272
 z70:=Tryz.sizeOf272
 v70:=Tryz.zeroValue272
 t76:=Tryz.underlying282
 a76:=Tryz.isAgg282
 z76:=Tryz.sizeOf282
 v76:=Tryz.zeroValue282
 t77:=Tryz.underlying283
 a77:=Tryz.isAgg283
 z77:=Tryz.sizeOf283
 v77:=Tryz.zeroValue283 }
def laySortPair_ren:Go.Shelf.Ren:=⟨fun | 6=>115 | 15=>189 | 14=>192 | 28=>225 | 29=>226 | 20=>227 | 21=>228 | 22=>229 | 23=>230 | 24=>231 | 25=>232 | 26=>233 | 27=>234 | 46=>251 | 47=>247 | 48=>248 | 49=>252 | 50=>253 | 57=>262 | n=>n,fun | 22=>86 | 24=>91 | 25=>167 | 3=>3 | 39=>226 | 0=>0 | 53=>254 | 55=>142 | 4=>4 | 46=>248 | 45=>247 | 50=>125 | 5=>5 | 9=>9 | 66=>268 | 70=>272 | 76=>282 | 77=>283 | n=>n,fun | n=>n⟩
theorem laySortPair : Go.Proofs.SlLaysF0.n6 Tryz.prog laySortPair_ren := {
 mixed:=by kernel_rfl
 f6:=⟨Tryz.f115.name,by decide,Tryz.func115.trans (congrArg some (by kernel_rfl))⟩
 f14:=⟨Tryz.f192.name,by decide,Tryz.func192.trans (congrArg some (by kernel_rfl))⟩
 f15:=Tryz.func189.trans (congrArg some (by kernel_rfl))
 f20:=⟨Tryz.f227.name,by decide,Tryz.func227.trans (congrArg some (by kernel_rfl))⟩
 f21:=⟨Tryz.f228.name,by decide,Tryz.func228.trans (congrArg some (by kernel_rfl))⟩
 f22:=⟨Tryz.f229.name,by decide,Tryz.func229.trans (congrArg some (by kernel_rfl))⟩
 f23:=⟨Tryz.f230.name,by decide,Tryz.func230.trans (congrArg some (by kernel_rfl))⟩
 f24:=⟨Tryz.f231.name,by decide,Tryz.func231.trans (congrArg some (by kernel_rfl))⟩
 f25:=⟨Tryz.f232.name,by decide,Tryz.func232.trans (congrArg some (by kernel_rfl))⟩
 f26:=⟨Tryz.f233.name,by decide,Tryz.func233.trans (congrArg some (by kernel_rfl))⟩
 f27:=⟨Tryz.f234.name,by decide,Tryz.func234.trans (congrArg some (by kernel_rfl))⟩
 f28:=Tryz.func225.trans (congrArg some (by kernel_rfl))
 f29:=Tryz.func226.trans (congrArg some (by kernel_rfl))
 f46:=⟨Tryz.f251.name,by decide,Tryz.func251.trans (congrArg some (by kernel_rfl))⟩
 f47:=Tryz.func247.trans (congrArg some (by kernel_rfl))
 f48:=Tryz.func248.trans (congrArg some (by kernel_rfl))
 f49:=⟨Tryz.f252.name,by decide,Tryz.func252.trans (congrArg some (by kernel_rfl))⟩
 f50:=⟨Tryz.f253.name,by decide,Tryz.func253.trans (congrArg some (by kernel_rfl))⟩
 f57:=⟨Tryz.f262.name,by decide,Tryz.func262.trans (congrArg some (by kernel_rfl))⟩
 t0:=Tryz.underlying0
 a0:=Tryz.isAgg0
 z0:=Tryz.sizeOf0
 v0:=Tryz.zeroValue0
 t3:=Tryz.underlying3
 a3:=Tryz.isAgg3
 z3:=Tryz.sizeOf3
 v3:=Tryz.zeroValue3
 t4:=Tryz.underlying4
 a4:=Tryz.isAgg4
 z4:=Tryz.sizeOf4
 v4:=Tryz.zeroValue4
 t5:=Tryz.underlying5
 a5:=Tryz.isAgg5
 z5:=Tryz.sizeOf5
 v5:=Tryz.zeroValue5
 t9:=Tryz.underlying9
 a9:=Tryz.isAgg9
 z9:=Tryz.sizeOf9
 v9:=Tryz.zeroValue9
 t22:=Tryz.underlying86
 a22:=Tryz.isAgg86
 z22:=Tryz.sizeOf86
 v22:=Tryz.zeroValue86
 t25:=Tryz.underlying167
 a25:=Tryz.isAgg167
 z25:=Tryz.sizeOf167
 v25:=Tryz.zeroValue167
 t39:=Tryz.underlying226
 a39:=Tryz.isAgg226
 z39:=Tryz.sizeOf226
 v39:=Tryz.zeroValue226
 t45:=Tryz.underlying247
 a45:=Tryz.isAgg247
 z45:=Tryz.sizeOf247
 v45:=Tryz.zeroValue247
 t46:=Tryz.underlying248
 a46:=Tryz.isAgg248
 z46:=Tryz.sizeOf248
 v46:=Tryz.zeroValue248
 t50:=Tryz.underlying125
 a50:=Tryz.isAgg125
 z50:=Tryz.sizeOf125
 v50:=Tryz.zeroValue125
 t53:=Tryz.underlying254
 a53:=Tryz.isAgg254
 z53:=Tryz.sizeOf254
 v53:=Tryz.zeroValue254
 t55:=Tryz.underlying142
 a55:=Tryz.isAgg142
 z55:=Tryz.sizeOf142
 v55:=Tryz.zeroValue142
 t66:=Tryz.underlying268
 a66:=Tryz.isAgg268
 z66:=Tryz.sizeOf268
 v66:=Tryz.zeroValue268
 t70:=Tryz.underlying272
 a70:=Tryz.isAgg272
 z70:=Tryz.sizeOf272
 v70:=Tryz.zeroValue272
 t76:=Tryz.underlying282
 a76:=Tryz.isAgg282
 z76:=Tryz.sizeOf282
 v76:=Tryz.zeroValue282
 t77:=Tryz.underlying283
 a77:=Tryz.isAgg283
 z77:=Tryz.sizeOf283
 v77:=Tryz.zeroValue283 }
def layDelInt_ren:Go.Shelf.Ren:=⟨fun | 10=>113 | 6=>191 | n=>n,fun | 22=>45 | 23=>3 | 25=>164 | 3=>3 | 4=>4 | 0=>0 | n=>n,fun | n=>n⟩
theorem layDelInt : Go.Proofs.SlLaysH.n10 Tryz.prog layDelInt_ren := {
 mixed:=by kernel_rfl
 f6:=⟨Tryz.f191.name,by decide,Tryz.func191.trans (congrArg some (by kernel_rfl))⟩
 f10:=⟨Tryz.f113.name,by decide,Tryz.func113.trans (congrArg some (by kernel_rfl))⟩
 t0:=Tryz.underlying0
 a0:=Tryz.isAgg0
 z0:=Tryz.sizeOf0
 v0:=Tryz.zeroValue0
 t3:=Tryz.underlying3
 a3:=Tryz.isAgg3
 z3:=Tryz.sizeOf3
 v3:=Tryz.zeroValue3
 t4:=Tryz.underlying4
 a4:=Tryz.isAgg4
 z4:=Tryz.sizeOf4
 v4:=Tryz.zeroValue4
 t22:=Tryz.underlying45
 a22:=Tryz.isAgg45
 z22:=Tryz.sizeOf45
 v22:=Tryz.zeroValue45
 a23:=Tryz.isAgg3
 z23:=Tryz.sizeOf3
 t25:=Tryz.underlying164
 a25:=Tryz.isAgg164
 z25:=Tryz.sizeOf164
 v25:=Tryz.zeroValue164 }

theorem pairs1_calls (l:List Bx) (i j gb b off n c:Nat) (hi:i<l.length) (hj:j<l.length) (W:World) (hbox:W.cell? ⟨gb,0,none⟩=some (.slice (some ⟨b,off,none⟩) l.length c)) (hc:CellsE layBox W b off l) :
  Calls Tryz.prog 111 #[.int .i64 i,.int .i64 j,.pointer (some ⟨gb,0,none⟩)] W fun e w'=>e = .returned (.int .i64 (Lib.compareInt (bxAt l i).1.1 (bxAt l j).1.1))∧w'=W.drew:=by
 obtain ⟨x0,-⟩:=hc.box hi
 obtain ⟨y0,-⟩:=hc.box hj
 have hbl:=hc.lt
 have hi':(i:Int)<(l.length:Int):=by omega
 have hj':(j:Int)<(l.length:Int):=by omega
 have HC:Hid (∀ x y w,Calls Tryz.prog 112 #[.int .i64 x,.int .i64 y] w fun e w'=>e = .returned (.int .i64 (Lib.compareInt x y))∧w'=w):=cmpInt_calls
 have hRd:Hid (∀ x y,Lib.compareInt x y=Lib.compareInt x y):=fun _ _=>rfl
 generalize (bxAt l i).1.1=x at *
 generalize (bxAt l j).1.1=y at *
 have HRZ:=hid (HC.out x y)
 generalize Lib.compareInt x y=z at *
 replace HC:=HRZ
 clear HRZ hRd
 obtain ⟨wd,hwd⟩:∃ wd,wd=W.drew:=⟨_,rfl⟩
 have b0:wd.cell? ⟨gb,0,none⟩=some (.slice (some ⟨b,off,none⟩) l.length c):=by rw [hwd];exact hbox
 have x1:wd.cell? ⟨b,off+i*4,none⟩=some (.int .i64 x):=by rw [hwd];exact x0
 have y1:wd.cell? ⟨b,off+j*4,none⟩=some (.int .i64 y):=by rw [hwd];exact y0
 have HWD:=hid hwd
 clear hc x0 y0 hwd hbox
 go_enter Tryz.func111,Tryz.ntmps111
 go_upto_region 1 with fail
 refine wp_region_noPanic ?_
 refine wp_region_U (S:=(S2 (fun w'=>w'=wd))) (T:=(fun _=>0)) (by kernel_rfl) (S2i0 HWD.out.symm) (fun hH=>?_)
 have hWr1:Weaker (S2 (fun w'=>w'=wd)):=weaker2 _
 refine Utn [(0,6),(1,7),(2,8),(3,9),(4,10),(5,11),(6,12),(7,13),(8,14),(9,15),(10,16),(11,17)] 2 0 0 (L':=?Lr1_1) hWr1 hH ?hyr1_1 ?_
 case hyr1_1=>((iterate 12 apply tkC;rfl;kernel_rfl;intro w' hSw;replace hSw:=S2o0 hSw;(try dsimp only at hSw);have q0:=hSw;subst q0;(try simp only [sB,sC]);go_simp;(try with_reducible rfl));exact tkN)
 simp only [sB,sC]
 refine U1 12 0 rfl (fun K hK=>?_)
 go_simp
 (go_at_call 112;refine (HC.out _).mono ?_;rintro e wn ⟨rfl,rfl⟩)
 refine hK.out _ _ ?hsr1_13 (fun hH2=>?hrr1_13)
 case hsr1_13=>exact S2i0 (by have hG:=hH;replace hG:=S2o0 hG;(try dsimp only at hG);have q0:=hG;exact q0)
 clear hK K hH
 have hH:=hH2
 clear hH2
 try simp only [Act.put,sA,sB,sC]
 refine Ut 13 5 0 0 0 (v:=?vr1_14) rfl hWr1 hH ?hyr1_14 ?_
 case hyr1_14=>(intro w' hSw;clear hSw;go_simp;try (with_reducible rfl))
 simp only [sB,sC]
 refine wpAnyU_done (by kernel_rfl) ?_ _ _
 refine NoPanic.normal ?_
 replace hH:=S2o0 hH
 (try dsimp only at hH)
 have q0:=hH
 clear hH hWr1
 go_wp2
 go_returns
 exact ⟨rfl,rfl⟩

theorem pairs2_calls (l:List Bx) (i j gb gi b off c:Nat) (hi:i<l.length) (hj:j<l.length) (W:World) (hbox:W.cell? ⟨gb,0,none⟩=some (.slice (some ⟨b,off,none⟩) l.length c)) (hgi:W.cell? ⟨gi,0,none⟩=some (.int .i64 j)) (hc:CellsE layBox W b off l) :
  Calls Tryz.prog 114 #[.int .i64 i,.pointer (some ⟨gb,0,none⟩),.pointer (some ⟨gi,0,none⟩)] W fun e w'=>e = .returned (.bool (decide ((bxAt l i).2.1<(bxAt l j).1.1)))∧w'=W.drew:=by
 obtain ⟨-,-,x0,-⟩:=hc.box hi
 obtain ⟨y0,-⟩:=hc.box hj
 have hbl:=hc.lt
 have hi':(i:Int)<(l.length:Int):=by omega
 have hj':(j:Int)<(l.length:Int):=by omega
 generalize (bxAt l i).2.1=x at *
 generalize (bxAt l j).1.1=y at *
 obtain ⟨wd,hwd⟩:∃ wd,wd=W.drew:=⟨_,rfl⟩
 have b0:wd.cell? ⟨gb,0,none⟩=some (.slice (some ⟨b,off,none⟩) l.length c):=by rw [hwd];exact hbox
 have b1:wd.cell? ⟨gi,0,none⟩=some (.int .i64 j):=by rw [hwd];exact hgi
 have x1:wd.cell? ⟨b,off+i*4+2,none⟩=some (.int .i64 x):=by rw [hwd];exact x0
 have y1:wd.cell? ⟨b,off+j*4,none⟩=some (.int .i64 y):=by rw [hwd];exact y0
 have HWD:=hid hwd
 clear hc x0 y0 hwd hbox hgi
 go_enter Tryz.func114,Tryz.ntmps114
 go_upto_region 1 with fail
 refine wp_region_noPanic ?_
 refine wp_region_U (S:=(S2 (fun w'=>w'=wd))) (T:=(fun _=>0)) (by kernel_rfl) (S2i0 HWD.out.symm) (fun hH=>?_)
 have hWr2:Weaker (S2 (fun w'=>w'=wd)):=weaker2 _
 refine Utn [(0,5),(1,6),(2,7),(3,8),(4,9),(5,10),(6,11),(7,12),(8,13),(9,14),(10,15),(11,16),(12,17),(13,4)] 0 0 0 (L':=?Lr2_1) hWr2 hH ?hyr2_1 ?_
 case hyr2_1=>((iterate 14 apply tkC;rfl;kernel_rfl;intro w' hSw;replace hSw:=S2o0 hSw;(try dsimp only at hSw);have q0:=hSw;subst q0;(try simp only [sB,sC]);go_simp;(try with_reducible rfl));exact tkN)
 simp only [sB,sC]
 refine wpAnyU_done (by kernel_rfl) ?_ _ _
 refine NoPanic.normal ?_
 replace hH:=S2o0 hH
 (try dsimp only at hH)
 have q0:=hH
 clear hH hWr2
 go_wp2
 go_returns
 exact ⟨rfl,rfl⟩
theorem orInt_calls (b c:Nat) (x y:Int) (W:World) (h0:W.cell? ⟨b,0,none⟩=some (.int .i64 x)) (h1:W.cell? ⟨b,1,none⟩=some (.int .i64 y)) :
  Calls Tryz.prog 117 #[.slice (some ⟨b,0,none⟩) 2 c] W fun e w'=>e = .returned (.int .i64 (if x=0 then y else x))∧w'=W:=by
 have hbl:=lt_of_cell h0
 go_enter Tryz.func117,Tryz.ntmps117
 go_wp2
 go_loopw [8] (fun j wr=>∃ k:Nat,k≤2∧j = .int .i64 k∧(1≤k→x=0)∧(2≤k→y=0)∧wr=W) (fun j _=>2-(intOf j).toNat)
 case atStart=>exact ⟨0,by omega,rfl,by omega,by omega,rfl⟩
 case round =>
  obtain ⟨k,hk,rfl,hx,hy,rfl⟩:=hrel
  have tri:k=0∨k=1∨k=2:=by omega
  rcases tri with rfl | rfl | rfl
  ·by_cases hz : x = 0
   ·subst hz
    clear hx hy
    go_wp2
    go_roundw
    case rel=>exact ⟨1,by omega,rfl,fun _=>by simp,by omega,by simp⟩
    case measure=>simp [intOf]
   ·have hne : (x != 0) = true := by simp [hz]
    clear hx hy
    go_wp2
    go_returns
    exact ⟨by simp [hz],rfl⟩
  ·obtain rfl := hx (by omega)
   by_cases hz:y=0
   ·subst hz
    clear hx hy
    go_wp2
    go_roundw
    case rel=>exact ⟨2,by omega,rfl,fun _=>by simp,fun _=>by simp,by simp⟩
    case measure=>simp [intOf]
   ·have hne : (y != 0) = true := by simp [hz]
    clear hx hy
    go_wp2
    go_returns
    exact ⟨by simp,rfl⟩
  ·obtain rfl := hx (by omega)
   obtain rfl:=hy (by omega)
   clear hx hy
   go_wp2
   go_returns
   exact ⟨by simp,rfl⟩

def layPair:Lay (Nat × Nat):=⟨fun p=>[.int .i64 p.1,.int .i64 p.2],2,fun _=>rfl,fun x v hv=>by simp at hv;rcases hv with rfl | rfl <;> rfl,by omega⟩
def cmpPair (p q:Nat × Nat):Int:=if Lib.compareInt p.1 q.1=0 then Lib.compareInt p.2 q.2 else Lib.compareInt p.1 q.1
theorem pairs3_calls (p q:Nat × Nat) (W:World):Calls Tryz.prog 116 #[.agg #[.int .i64 p.1,.int .i64 p.2],.agg #[.int .i64 q.1,.int .i64 q.2]] W fun e w'=>e = .returned (.int .i64 (cmpPair p q))∧∃ k os,w'=grow (W.drewN k) os:=by
 have HZ:Hid (cmpPair p q=if Lib.compareInt p.1 q.1=0 then Lib.compareInt p.2 q.2 else Lib.compareInt p.1 q.1):=rfl
 have HC1:=hid (cmpInt_calls (p.1:Int) (q.1:Int))
 have HC2:=hid (cmpInt_calls (p.2:Int) (q.2:Int))
 generalize cmpPair p q=Z at *
 generalize Lib.compareInt (p.1:Int) (q.1:Int)=r at *
 generalize Lib.compareInt (p.2:Int) (q.2:Int)=s at *
 obtain ⟨x1,hx1⟩:∃ z:Int,z=p.1:=⟨_,rfl⟩
 obtain ⟨x2,hx2⟩:∃ z:Int,z=p.2:=⟨_,rfl⟩
 obtain ⟨y1,hy1⟩:∃ z:Int,z=q.1:=⟨_,rfl⟩
 obtain ⟨y2,hy2⟩:∃ z:Int,z=q.2:=⟨_,rfl⟩
 rw [← hx1,← hx2,← hy1,← hy2]
 rw [← hx1,← hy1] at HC1
 rw [← hx2,← hy2] at HC2
 clear hx1 hx2 hy1 hy2
 obtain ⟨wd,hwd⟩:∃ wd,wd=((W.alloc (.cells #[.int .i64 x1,.int .i64 x2] 91)).alloc (.cells #[.int .i64 y1,.int .i64 y2] 91)).drew:=⟨_,rfl⟩
 have a0:wd.cell? ⟨W.heap.size,0,none⟩=some (.int .i64 x1):=by rw [hwd];go_simp
 have a1:wd.cell? ⟨W.heap.size,1,none⟩=some (.int .i64 x2):=by rw [hwd];go_simp
 have a2:wd.cell? ⟨W.heap.size+1,0,none⟩=some (.int .i64 y1):=by rw [hwd];go_simp
 have a3:wd.cell? ⟨W.heap.size+1,1,none⟩=some (.int .i64 y2):=by rw [hwd];go_simp
 have HWD:=hid hwd
 clear hwd
 go_enter Tryz.func116,Tryz.ntmps116
 go_upto_region 1 with fail
 refine wp_region_noPanic ?_
 refine wp_region_U (S:=(S2 (fun w'=>w'=wd))) (T:=(fun j=>[0,0,0,0,0,0,0,0,0,0,1].getD j 0)) (by kernel_rfl) (S2i0 HWD.out.symm) (fun hH=>?_)
 have hWr3:Weaker (S2 (fun w'=>w'=wd)):=weaker2 _
 refine Utn [(0,5),(1,6),(2,7),(3,8),(5,10),(6,11),(7,12),(8,13)] 5 0 0 (L':=?Lr3_1) hWr3 hH ?hyr3_1 ?_
 case hyr3_1=>((iterate 8 apply tkC;rfl;kernel_rfl;intro w' hSw;replace hSw:=S2o0 hSw;(try dsimp only at hSw);have q0:=hSw;subst q0;(try simp only [sB,sC]);go_simp;(try with_reducible rfl));exact tkN)
 simp only [sB,sC]
 refine U1 4 0 rfl (fun K hK=>?_)
 go_simp
 (go_at_call 112;refine (HC1.out _).mono ?_;rintro e wn ⟨rfl,rfl⟩)
 refine hK.out _ _ ?hsr3_9 (fun hH2=>?hrr3_9)
 case hsr3_9=>exact S2i0 (by have hG:=hH;replace hG:=S2o0 hG;(try dsimp only at hG);have q0:=hG;exact q0)
 clear hK K hH
 have hH:=hH2
 clear hH2
 try simp only [Act.put,sA,sB,sC]
 refine U1 9 0 rfl (fun K hK=>?_)
 go_simp
 (go_at_call 112;refine (HC2.out _).mono ?_;rintro e wn ⟨rfl,rfl⟩)
 refine hK.out _ _ ?hsr3_10 (fun hH2=>?hrr3_10)
 case hsr3_10=>exact S2i0 (by have hG:=hH;replace hG:=S2o0 hG;(try dsimp only at hG);have q0:=hG;exact q0)
 clear hK K hH
 have hH:=hH2
 clear hH2
 try simp only [Act.put,sA,sB,sC]
 refine U1 10 1 rfl (fun K hK=>?_)
 have hG:=hH
 replace hG:=S2o0 hG;(try dsimp only at hG);have q0:=hG
 subst q0
 go_simp
 refine hK.out _ _ ?hsr3_11 (fun hH2=>?hrr3_11)
 case hsr3_11=>exact S2i1
 clear hK K hH
 have hH:=hH2
 clear hH2
 try simp only [Act.put,sA,sB,sC]
 refine U1 11 1 rfl (fun K hK=>?_)
 go_simp
 (go_at_call 117;refine (orInt_calls _ _ r s _ (by go_simp) (by go_simp)).mono ?_;rw [← HZ.out];rintro e wn ⟨rfl,rfl⟩)
 refine hK.out _ _ ?hsr3_12 (fun hH2=>?hrr3_12)
 case hsr3_12=>exact S2i1
 clear hK K hH
 have hH:=hH2
 clear hH2
 try simp only [Act.put,sA,sB,sC]
 refine Ut 12 4 0 1 1 (v:=?vr3_13) rfl hWr3 hH ?hyr3_13 ?_
 case hyr3_13=>(intro w' hSw;clear hSw;go_simp;try (with_reducible rfl))
 simp only [sB,sC]
 refine wpAnyU_done (by kernel_rfl) ?_ _ _
 refine NoPanic.normal ?_
 clear hH
 go_wp2
 go_returns
 refine ⟨rfl,?_⟩
 exact ⟨1,_,by rw [alloc_eq_grow,alloc_eq_grow,alloc_eq_grow];show grow (grow (grow W.drew _) _) _=_;rw [grow_grow,grow_grow];rfl⟩
end
end Go.Proofs.YtodpincpofoiiaaGreat
