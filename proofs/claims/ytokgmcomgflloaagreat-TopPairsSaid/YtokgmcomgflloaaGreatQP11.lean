/- Parts of a proof: contracts and laws. -/
import Derived.Test.YtokgmcomgflloaaGreatQP10
import Derived.Shelf.SlSortCmp.NoneTotal
import Derived.Shelf.SlicesE.DeleteFunc
import Derived.Shelf.SlicesG.Cmp
import Derived.Test.YtokgmcomgflloaaGreatQP03
set_option maxRecDepth 100000
set_option maxHeartbeats 16000000
namespace Go.Proofs.YtokgmcomgflloaaGreat
section
set_option linter.unusedVariables false
set_option linter.unusedSimpArgs false
open Go.Shelf
open Go.RowKit Go.Sort Go.Lib
def xM:Go.Shelf.Ren:=⟨fun | 6=>73 | 15=>138 | 14=>137 | 28=>196 | 29=>197 | 20=>188 | 21=>189 | 22=>190 | 23=>191 | 24=>192 | 25=>193 | 26=>194 | 27=>195 | 46=>231 | 47=>232 | 48=>233 | 49=>234 | 50=>235 | 57=>253 | n=>n,fun | 22=>45 | 24=>3 | 25=>22 | 3=>3 | 39=>191 | 0=>0 | 53=>235 | 55=>118 | 4=>4 | 46=>229 | 45=>228 | 50=>154 | 5=>5 | 9=>9 | 66=>259 | 70=>263 | 76=>277 | 77=>278 | n=>n,fun | n=>n⟩
theorem F8 : Go.Proofs.SlLaysF.n6 Tryz.prog xM := {
 mixed:=by kernel_rfl
 f6:=⟨Tryz.f73.name,by decide,Tryz.func73.trans (congrArg some (by kernel_rfl))⟩
 f14:=⟨Tryz.f137.name,by decide,Tryz.func137.trans (congrArg some (by kernel_rfl))⟩
 f15:=Tryz.func138.trans (congrArg some (by kernel_rfl))
 f20:=⟨Tryz.f188.name,by decide,Tryz.func188.trans (congrArg some (by kernel_rfl))⟩
 f21:=⟨Tryz.f189.name,by decide,Tryz.func189.trans (congrArg some (by kernel_rfl))⟩
 f22:=⟨Tryz.f190.name,by decide,Tryz.func190.trans (congrArg some (by kernel_rfl))⟩
 f23:=⟨Tryz.f191.name,by decide,Tryz.func191.trans (congrArg some (by kernel_rfl))⟩
 f24:=⟨Tryz.f192.name,by decide,Tryz.func192.trans (congrArg some (by kernel_rfl))⟩
 f25:=⟨Tryz.f193.name,by decide,Tryz.func193.trans (congrArg some (by kernel_rfl))⟩
 f26:=⟨Tryz.f194.name,by decide,Tryz.func194.trans (congrArg some (by kernel_rfl))⟩
 f27:=⟨Tryz.f195.name,by decide,Tryz.func195.trans (congrArg some (by kernel_rfl))⟩
 f28:=Tryz.func196.trans (congrArg some (by kernel_rfl))
 f29:=Tryz.func197.trans (congrArg some (by kernel_rfl))
 f46:=⟨Tryz.f231.name,by decide,Tryz.func231.trans (congrArg some (by kernel_rfl))⟩
 f47:=Tryz.func232.trans (congrArg some (by kernel_rfl))
 f48:=Tryz.func233.trans (congrArg some (by kernel_rfl))
 f49:=⟨Tryz.f234.name,by decide,Tryz.func234.trans (congrArg some (by kernel_rfl))⟩
 f50:=⟨Tryz.f235.name,by decide,Tryz.func235.trans (congrArg some (by kernel_rfl))⟩
 f57:=⟨Tryz.f253.name,by decide,Tryz.func253.trans (congrArg some (by kernel_rfl))⟩
 t0:=Tryz.underlying0
 a0:=Tryz.isAgg0
 z0:=Tryz.sizeOf0
 v0:=Tryz.zeroValue0
 t3:=Tryz.underlying3
 a3:=Tryz.isAgg3
 z3:=Tryz.sizeOf3
 v3:=Tryz.zeroValue3
 t4:=Tryz.underlying4
 a4:=Tryz.isAgg4
 z4:=Tryz.sizeOf4
 v4:=Tryz.zeroValue4
 t5:=Tryz.underlying5
 a5:=Tryz.isAgg5
 z5:=Tryz.sizeOf5
 v5:=Tryz.zeroValue5
 t9:=Tryz.underlying9
 a9:=Tryz.isAgg9
 z9:=Tryz.sizeOf9
 v9:=Tryz.zeroValue9
 t22:=Tryz.underlying45
 a22:=Tryz.isAgg45
 z22:=Tryz.sizeOf45
 v22:=Tryz.zeroValue45
 a24:=Tryz.isAgg3
 z24:=Tryz.sizeOf3
 t25:=Tryz.underlying22
 a25:=Tryz.isAgg22
 z25:=Tryz.sizeOf22
 v25:=Tryz.zeroValue22
 t39:=Tryz.underlying191
 a39:=Tryz.isAgg191
 z39:=Tryz.sizeOf191
 v39:=Tryz.zeroValue191
 t45:=Tryz.underlying228
 a45:=Tryz.isAgg228
 z45:=Tryz.sizeOf228
 v45:=Tryz.zeroValue228
 t46:=Tryz.underlying229
 a46:=Tryz.isAgg229
 z46:=Tryz.sizeOf229
 v46:=Tryz.zeroValue229
 t50:=Tryz.underlying154
 a50:=Tryz.isAgg154
 z50:=Tryz.sizeOf154
 v50:=Tryz.zeroValue154
 t53:=Tryz.underlying235
 a53:=Tryz.isAgg235
 z53:=Tryz.sizeOf235
 v53:=Tryz.zeroValue235
 t55:=Tryz.underlying118
 a55:=Tryz.isAgg118
 z55:=Tryz.sizeOf118
 v55:=Tryz.zeroValue118
 t66:=Tryz.underlying259
 a66:=Tryz.isAgg259
 z66:=Tryz.sizeOf259
 v66:=Tryz.zeroValue259
 t70:=Tryz.underlying263
 a70:=Tryz.isAgg263
 z70:=Tryz.sizeOf263
 v70:=Tryz.zeroValue263
 t76:=Tryz.underlying277
 a76:=Tryz.isAgg277
 z76:=Tryz.sizeOf277
 v76:=Tryz.zeroValue277
 t77:=Tryz.underlying278
 a77:=Tryz.isAgg278
 z77:=Tryz.sizeOf278
 v77:=Tryz.zeroValue278 }
def vo:Go.Shelf.Ren:=⟨fun | 6=>78 | 15=>138 | 14=>141 | 28=>196 | 29=>197 | 20=>198 | 21=>199 | 22=>200 | 23=>201 | 24=>202 | 25=>203 | 26=>204 | 27=>205 | 46=>236 | 47=>232 | 48=>233 | 49=>237 | 50=>238 | 57=>254 | n=>n,fun | 22=>67 | 24=>72 | 25=>127 | 3=>3 | 39=>191 | 0=>0 | 53=>235 | 55=>118 | 4=>4 | 46=>229 | 45=>228 | 50=>154 | 5=>5 | 9=>9 | 66=>259 | 70=>263 | 76=>277 | 77=>278 | n=>n,fun | n=>n⟩
theorem lM : Go.Proofs.SlLaysF0.n6 Tryz.prog vo := {
 mixed:=by kernel_rfl
 f6:=⟨Tryz.f78.name,by decide,Tryz.func78.trans (congrArg some (by kernel_rfl))⟩
 f14:=⟨Tryz.f141.name,by decide,Tryz.func141.trans (congrArg some (by kernel_rfl))⟩
 f15:=Tryz.func138.trans (congrArg some (by kernel_rfl))
 f20:=⟨Tryz.f198.name,by decide,Tryz.func198.trans (congrArg some (by kernel_rfl))⟩
 f21:=⟨Tryz.f199.name,by decide,Tryz.func199.trans (congrArg some (by kernel_rfl))⟩
 f22:=⟨Tryz.f200.name,by decide,Tryz.func200.trans (congrArg some (by kernel_rfl))⟩
 f23:=⟨Tryz.f201.name,by decide,Tryz.func201.trans (congrArg some (by kernel_rfl))⟩
 f24:=⟨Tryz.f202.name,by decide,Tryz.func202.trans (congrArg some (by kernel_rfl))⟩
 f25:=⟨Tryz.f203.name,by decide,Tryz.func203.trans (congrArg some (by kernel_rfl))⟩
 f26:=⟨Tryz.f204.name,by decide,Tryz.func204.trans (congrArg some (by kernel_rfl))⟩
 f27:=⟨Tryz.f205.name,by decide,Tryz.func205.trans (congrArg some (by kernel_rfl))⟩
 f28:=Tryz.func196.trans (congrArg some (by kernel_rfl))
 f29:=Tryz.func197.trans (congrArg some (by kernel_rfl))
 f46:=⟨Tryz.f236.name,by decide,Tryz.func236.trans (congrArg some (by kernel_rfl))⟩
 f47:=Tryz.func232.trans (congrArg some (by kernel_rfl))
 f48:=Tryz.func233.trans (congrArg some (by kernel_rfl))
 f49:=⟨Tryz.f237.name,by decide,Tryz.func237.trans (congrArg some (by kernel_rfl))⟩
 f50:=⟨Tryz.f238.name,by decide,Tryz.func238.trans (congrArg some (by kernel_rfl))⟩
 f57:=⟨Tryz.f254.name,by decide,Tryz.func254.trans (congrArg some (by kernel_rfl))⟩
 t0:=Tryz.underlying0
 a0:=Tryz.isAgg0
 z0:=Tryz.sizeOf0
 v0:=Tryz.zeroValue0
 t3:=Tryz.underlying3
 a3:=Tryz.isAgg3
 z3:=Tryz.sizeOf3
 v3:=Tryz.zeroValue3
 t4:=Tryz.underlying4
 a4:=Tryz.isAgg4
 z4:=Tryz.sizeOf4
 v4:=Tryz.zeroValue4
 t5:=Tryz.underlying5
 a5:=Tryz.isAgg5
 z5:=Tryz.sizeOf5
 v5:=Tryz.zeroValue5
 t9:=Tryz.underlying9
 a9:=Tryz.isAgg9
 z9:=Tryz.sizeOf9
 v9:=Tryz.zeroValue9
 t22:=Tryz.underlying67
 a22:=Tryz.isAgg67
 z22:=Tryz.sizeOf67
 v22:=Tryz.zeroValue67
 t25:=Tryz.underlying127
 a25:=Tryz.isAgg127
 z25:=Tryz.sizeOf127
 v25:=Tryz.zeroValue127
 t39:=Tryz.underlying191
 a39:=Tryz.isAgg191
 z39:=Tryz.sizeOf191
 v39:=Tryz.zeroValue191
 t45:=Tryz.underlying228
 a45:=Tryz.isAgg228
 z45:=Tryz.sizeOf228
 v45:=Tryz.zeroValue228
 t46:=Tryz.underlying229
 a46:=Tryz.isAgg229
 z46:=Tryz.sizeOf229
 v46:=Tryz.zeroValue229
 t50:=Tryz.underlying154
 a50:=Tryz.isAgg154
 z50:=Tryz.sizeOf154
 v50:=Tryz.zeroValue154
 t53:=Tryz.underlying235
 a53:=Tryz.isAgg235
 z53:=Tryz.sizeOf235
 v53:=Tryz.zeroValue235
 t55:=Tryz.underlying118
 a55:=Tryz.isAgg118
 z55:=Tryz.sizeOf118
 v55:=Tryz.zeroValue118
 t66:=Tryz.underlying259
 a66:=Tryz.isAgg259
 z66:=Tryz.sizeOf259
 v66:=Tryz.zeroValue259
 t70:=Tryz.underlying263
 a70:=Tryz.isAgg263
 z70:=Tryz.sizeOf263
 v70:=Tryz.zeroValue263
 t76:=Tryz.underlying277
 a76:=Tryz.isAgg277
 z76:=Tryz.sizeOf277
 v76:=Tryz.zeroValue277
 t77:=Tryz.underlying278
 a77:=Tryz.isAgg278
 z77:=Tryz.sizeOf278
 v77:=Tryz.zeroValue278 }
def yU:Go.Shelf.Ren:=⟨fun | 10=>76 | 6=>140 | n=>n,fun | 22=>45 | 23=>3 | 25=>124 | 3=>3 | 4=>4 | 0=>0 | n=>n,fun | n=>n⟩
theorem IU : Go.Proofs.SlLaysH.n10 Tryz.prog yU := {
 mixed:=by kernel_rfl
 f6:=⟨Tryz.f140.name,by decide,Tryz.func140.trans (congrArg some (by kernel_rfl))⟩
 f10:=⟨Tryz.f76.name,by decide,Tryz.func76.trans (congrArg some (by kernel_rfl))⟩
 t0:=Tryz.underlying0
 a0:=Tryz.isAgg0
 z0:=Tryz.sizeOf0
 v0:=Tryz.zeroValue0
 t3:=Tryz.underlying3
 a3:=Tryz.isAgg3
 z3:=Tryz.sizeOf3
 v3:=Tryz.zeroValue3
 t4:=Tryz.underlying4
 a4:=Tryz.isAgg4
 z4:=Tryz.sizeOf4
 v4:=Tryz.zeroValue4
 t22:=Tryz.underlying45
 a22:=Tryz.isAgg45
 z22:=Tryz.sizeOf45
 v22:=Tryz.zeroValue45
 a23:=Tryz.isAgg3
 z23:=Tryz.sizeOf3
 t25:=Tryz.underlying124
 a25:=Tryz.isAgg124
 z25:=Tryz.sizeOf124
 v25:=Tryz.zeroValue124 }

theorem Aw (l:List Bx) (i j gb b off n c:Nat) (hi:i<l.length) (hj:j<l.length) (W:World) (hbox:W.cell? ⟨gb,0,none⟩=some (.slice (some ⟨b,off,none⟩) l.length c)) (hc:aM dn W b off l) :
  Calls Tryz.prog 74 #[.int .i64 i,.int .i64 j,.pointer (some ⟨gb,0,none⟩)] W fun e w'=>e = .returned (.int .i64 (Lib.compareInt (aV l i).1.1 (aV l j).1.1))∧w'=W.drew:=by
 obtain ⟨x0,-⟩:=hc.box hi;obtain ⟨y0,-⟩:=hc.box hj;have hbl:=hc.lt;have hi':(i:Int)<(l.length:Int):=by omega
 have hj':(j:Int)<(l.length:Int):=by omega
 have HC:Hid (∀ x y w,Calls Tryz.prog 75 #[.int .i64 x,.int .i64 y] w fun e w'=>e = .returned (.int .i64 (Lib.compareInt x y))∧w'=w):=jw;have hRd:Hid (∀ x y,Lib.compareInt x y=Lib.compareInt x y):=fun _ _=>rfl
 generalize (aV l i).1.1=x at *
 generalize (aV l j).1.1=y at *
 have HRZ:=hid (HC.out x y);generalize Lib.compareInt x y=z at *
 replace HC:=HRZ;clear HRZ hRd;obtain ⟨wd,hwd⟩:∃ wd,wd=W.drew:=⟨_,rfl⟩;have b0:wd.cell? ⟨gb,0,none⟩=some (.slice (some ⟨b,off,none⟩) l.length c):=by rw [hwd];exact hbox
 have x1:wd.cell? ⟨b,off+i*4,none⟩=some (.int .i64 x):=by rw [hwd];exact x0
 have y1:wd.cell? ⟨b,off+j*4,none⟩=some (.int .i64 y):=by rw [hwd];exact y0
 have HWD:=hid hwd;clear hc x0 y0 hwd hbox
 go_enter Tryz.func74,Tryz.ntmps74
 go_upto_region 1 with fail
 refine wp_region_noPanic ?_;refine au (S:=(S2 (fun w'=>w'=wd))) (T:=(fun _=>0)) (by kernel_rfl) (aK HWD.out.symm) (fun hH=>?_);have hWr1:aG (S2 (fun w'=>w'=wd)):=aI _;refine dG [(0,6),(1,7),(2,8),(3,9),(4,10),(5,11),(6,12),(7,13),(8,14),(9,15),(10,16),(11,17)] 2 0 0 (L':=?Lr1_1) hWr1 hH ?hyr1_1 ?_
 case hyr1_1=>((iterate 12 apply dF;rfl;kernel_rfl;intro w' hSw;replace hSw:=aB hSw;(try dsimp only at hSw);have q0:=hSw;subst q0;(try simp only [sB,sC]);go_simp;(try with_reducible rfl));exact dD)
 simp only [sB,sC];refine U1 12 0 rfl (fun K hK=>?_);go_simp
 (go_at_call 75;refine (HC.out _).mono ?_;rintro e wn ⟨rfl,rfl⟩)
 refine hK.out _ _ ?hsr1_13 (fun hH2=>?hrr1_13)
 case hsr1_13=>exact aK (by have hG:=hH;replace hG:=aB hG;(try dsimp only at hG);have q0:=hG;exact q0)
 clear hK K hH;have hH:=hH2;clear hH2
 try simp only [Act.put,sA,sB,sC]
 refine Ut 13 5 0 0 0 (v:=?vr1_14) rfl hWr1 hH ?hyr1_14 ?_
 case hyr1_14=>(intro w' hSw;clear hSw;go_simp;try (with_reducible rfl))
 simp only [sB,sC];refine ak (by kernel_rfl) ?_ _ _;refine NoPanic.normal ?_;replace hH:=aB hH
 (try dsimp only at hH)
 have q0:=hH;clear hH hWr1;go_wp2
 go_returns
 exact ⟨rfl,rfl⟩

theorem Ci (l:List Bx) (i j gb gi b off c:Nat) (hi:i<l.length) (hj:j<l.length) (W:World) (hbox:W.cell? ⟨gb,0,none⟩=some (.slice (some ⟨b,off,none⟩) l.length c)) (hgi:W.cell? ⟨gi,0,none⟩=some (.int .i64 j)) (hc:aM dn W b off l) :
  Calls Tryz.prog 77 #[.int .i64 i,.pointer (some ⟨gb,0,none⟩),.pointer (some ⟨gi,0,none⟩)] W fun e w'=>e = .returned (.bool (decide ((aV l i).2.1<(aV l j).1.1)))∧w'=W.drew:=by
 obtain ⟨-,-,x0,-⟩:=hc.box hi;obtain ⟨y0,-⟩:=hc.box hj;have hbl:=hc.lt;have hi':(i:Int)<(l.length:Int):=by omega
 have hj':(j:Int)<(l.length:Int):=by omega
 generalize (aV l i).2.1=x at *
 generalize (aV l j).1.1=y at *
 obtain ⟨wd,hwd⟩:∃ wd,wd=W.drew:=⟨_,rfl⟩;have b0:wd.cell? ⟨gb,0,none⟩=some (.slice (some ⟨b,off,none⟩) l.length c):=by rw [hwd];exact hbox
 have b1:wd.cell? ⟨gi,0,none⟩=some (.int .i64 j):=by rw [hwd];exact hgi
 have x1:wd.cell? ⟨b,off+i*4+2,none⟩=some (.int .i64 x):=by rw [hwd];exact x0
 have y1:wd.cell? ⟨b,off+j*4,none⟩=some (.int .i64 y):=by rw [hwd];exact y0
 have HWD:=hid hwd;clear hc x0 y0 hwd hbox hgi
 go_enter Tryz.func77,Tryz.ntmps77
 go_upto_region 1 with fail
 refine wp_region_noPanic ?_;refine au (S:=(S2 (fun w'=>w'=wd))) (T:=(fun _=>0)) (by kernel_rfl) (aK HWD.out.symm) (fun hH=>?_);have hWr2:aG (S2 (fun w'=>w'=wd)):=aI _;refine dG [(0,5),(1,6),(2,7),(3,8),(4,9),(5,10),(6,11),(7,12),(8,13),(9,14),(10,15),(11,16),(12,17),(13,4)] 0 0 0 (L':=?Lr2_1) hWr2 hH ?hyr2_1 ?_
 case hyr2_1=>((iterate 14 apply dF;rfl;kernel_rfl;intro w' hSw;replace hSw:=aB hSw;(try dsimp only at hSw);have q0:=hSw;subst q0;(try simp only [sB,sC]);go_simp;(try with_reducible rfl));exact dD)
 simp only [sB,sC];refine ak (by kernel_rfl) ?_ _ _;refine NoPanic.normal ?_;replace hH:=aB hH
 (try dsimp only at hH)
 have q0:=hH;clear hH hWr2;go_wp2
 go_returns
 exact ⟨rfl,rfl⟩
theorem tY (b c:Nat) (x y:Int) (W:World) (h0:W.cell? ⟨b,0,none⟩=some (.int .i64 x)) (h1:W.cell? ⟨b,1,none⟩=some (.int .i64 y)) :
  Calls Tryz.prog 80 #[.slice (some ⟨b,0,none⟩) 2 c] W fun e w'=>e = .returned (.int .i64 (if x=0 then y else x))∧w'=W:=by
 have hbl:=lt_of_cell h0
 go_enter Tryz.func80,Tryz.ntmps80
 go_wp2
 go_loopw [8] (fun j wr=>∃ k:Nat,k≤2∧j = .int .i64 k∧(1≤k→x=0)∧(2≤k→y=0)∧wr=W) (fun j _=>2-(intOf j).toNat)
 case atStart=>exact ⟨0,by omega,rfl,by omega,by omega,rfl⟩
 case round =>
  obtain ⟨k,hk,rfl,hx,hy,rfl⟩:=hrel;have tri:k=0∨k=1∨k=2:=by omega
  rcases tri with rfl | rfl | rfl
  ·by_cases hz : x = 0
   ·subst hz;clear hx hy;go_wp2;go_roundw
    case rel=>exact ⟨1,by omega,rfl,fun _=>by simp,by omega,by simp⟩
    case measure=>simp [intOf]
   ·have hne : (x != 0) = true := by simp [hz]
    clear hx hy;go_wp2
    go_returns
    exact ⟨by simp [hz],rfl⟩
  ·obtain rfl := hx (by omega)
   by_cases hz:y=0
   ·subst hz;clear hx hy;go_wp2;go_roundw
    case rel=>exact ⟨2,by omega,rfl,fun _=>by simp,fun _=>by simp,by simp⟩
    case measure=>simp [intOf]
   ·have hne : (y != 0) = true := by simp [hz]
    clear hx hy;go_wp2
    go_returns
    exact ⟨by simp,rfl⟩
  ·obtain rfl := hx (by omega);obtain rfl:=hy (by omega);clear hx hy;go_wp2
   go_returns
   exact ⟨by simp,rfl⟩

def aJ:Lay (Nat × Nat):=⟨fun p=>[.int .i64 p.1,.int .i64 p.2],2,fun _=>rfl,fun x v hv=>by simp at hv;rcases hv with rfl | rfl <;> rfl,by omega⟩
def dR (p q:Nat × Nat):Int:=if Lib.compareInt p.1 q.1=0 then Lib.compareInt p.2 q.2 else Lib.compareInt p.1 q.1
theorem Bo (p q:Nat × Nat) (W:World):Calls Tryz.prog 79 #[.agg #[.int .i64 p.1,.int .i64 p.2],.agg #[.int .i64 q.1,.int .i64 q.2]] W fun e w'=>e = .returned (.int .i64 (dR p q))∧∃ k os,w'=grow (W.drewN k) os:=by
 have HZ:Hid (dR p q=if Lib.compareInt p.1 q.1=0 then Lib.compareInt p.2 q.2 else Lib.compareInt p.1 q.1):=rfl;have HC1:=hid (jw (p.1:Int) (q.1:Int));have HC2:=hid (jw (p.2:Int) (q.2:Int));generalize dR p q=Z at *
 generalize Lib.compareInt (p.1:Int) (q.1:Int)=r at *
 generalize Lib.compareInt (p.2:Int) (q.2:Int)=s at *
 obtain ⟨x1,hx1⟩:∃ z:Int,z=p.1:=⟨_,rfl⟩;obtain ⟨x2,hx2⟩:∃ z:Int,z=p.2:=⟨_,rfl⟩;obtain ⟨y1,hy1⟩:∃ z:Int,z=q.1:=⟨_,rfl⟩;obtain ⟨y2,hy2⟩:∃ z:Int,z=q.2:=⟨_,rfl⟩;rw [← hx1,← hx2,← hy1,← hy2];rw [← hx1,← hy1] at HC1;rw [← hx2,← hy2] at HC2;clear hx1 hx2 hy1 hy2;obtain ⟨wd,hwd⟩:∃ wd,wd=((W.alloc (.cells #[.int .i64 x1,.int .i64 x2] 72)).alloc (.cells #[.int .i64 y1,.int .i64 y2] 72)).drew:=⟨_,rfl⟩;have a0:wd.cell? ⟨W.heap.size,0,none⟩=some (.int .i64 x1):=by rw [hwd];go_simp
 have a1:wd.cell? ⟨W.heap.size,1,none⟩=some (.int .i64 x2):=by rw [hwd];go_simp
 have a2:wd.cell? ⟨W.heap.size+1,0,none⟩=some (.int .i64 y1):=by rw [hwd];go_simp
 have a3:wd.cell? ⟨W.heap.size+1,1,none⟩=some (.int .i64 y2):=by rw [hwd];go_simp
 have HWD:=hid hwd;clear hwd
 go_enter Tryz.func79,Tryz.ntmps79
 go_upto_region 1 with fail
 refine wp_region_noPanic ?_;refine au (S:=(S2 (fun w'=>w'=wd))) (T:=(fun j=>[0,0,0,0,0,0,0,0,0,0,1].getD j 0)) (by kernel_rfl) (aK HWD.out.symm) (fun hH=>?_);have hWr3:aG (S2 (fun w'=>w'=wd)):=aI _;refine dG [(0,5),(1,6),(2,7),(3,8),(5,10),(6,11),(7,12),(8,13)] 5 0 0 (L':=?Lr3_1) hWr3 hH ?hyr3_1 ?_
 case hyr3_1=>((iterate 8 apply dF;rfl;kernel_rfl;intro w' hSw;replace hSw:=aB hSw;(try dsimp only at hSw);have q0:=hSw;subst q0;(try simp only [sB,sC]);go_simp;(try with_reducible rfl));exact dD)
 simp only [sB,sC];refine U1 4 0 rfl (fun K hK=>?_);go_simp
 (go_at_call 75;refine (HC1.out _).mono ?_;rintro e wn ⟨rfl,rfl⟩)
 refine hK.out _ _ ?hsr3_9 (fun hH2=>?hrr3_9)
 case hsr3_9=>exact aK (by have hG:=hH;replace hG:=aB hG;(try dsimp only at hG);have q0:=hG;exact q0)
 clear hK K hH;have hH:=hH2;clear hH2
 try simp only [Act.put,sA,sB,sC]
 refine U1 9 0 rfl (fun K hK=>?_);go_simp
 (go_at_call 75;refine (HC2.out _).mono ?_;rintro e wn ⟨rfl,rfl⟩)
 refine hK.out _ _ ?hsr3_10 (fun hH2=>?hrr3_10)
 case hsr3_10=>exact aK (by have hG:=hH;replace hG:=aB hG;(try dsimp only at hG);have q0:=hG;exact q0)
 clear hK K hH;have hH:=hH2;clear hH2
 try simp only [Act.put,sA,sB,sC]
 refine U1 10 1 rfl (fun K hK=>?_);have hG:=hH;replace hG:=aB hG;(try dsimp only at hG);have q0:=hG;subst q0;go_simp;refine hK.out _ _ ?hsr3_11 (fun hH2=>?hrr3_11)
 case hsr3_11=>exact gV
 clear hK K hH;have hH:=hH2;clear hH2
 try simp only [Act.put,sA,sB,sC]
 refine U1 11 1 rfl (fun K hK=>?_);go_simp
 (go_at_call 80;refine (tY _ _ r s _ (by go_simp) (by go_simp)).mono ?_;rw [← HZ.out];rintro e wn ⟨rfl,rfl⟩)
 refine hK.out _ _ ?hsr3_12 (fun hH2=>?hrr3_12)
 case hsr3_12=>exact gV
 clear hK K hH;have hH:=hH2;clear hH2
 try simp only [Act.put,sA,sB,sC]
 refine Ut 12 4 0 1 1 (v:=?vr3_13) rfl hWr3 hH ?hyr3_13 ?_
 case hyr3_13=>(intro w' hSw;clear hSw;go_simp;try (with_reducible rfl))
 simp only [sB,sC];refine ak (by kernel_rfl) ?_ _ _;refine NoPanic.normal ?_;clear hH;go_wp2
 go_returns
 refine ⟨rfl,?_⟩;exact ⟨1,_,by rw [alloc_eq_grow,alloc_eq_grow,alloc_eq_grow];show grow (grow (grow W.drew _) _) _=_;rw [grow_grow,grow_grow];rfl⟩
end
end Go.Proofs.YtokgmcomgflloaaGreat
