/- Parts of a proof: contracts and laws. -/
import Derived.Test.YtokgmcomgflloaaGreatQX30
import Derived.Test.YtokgmcomgflloaaGreatQX02
import Derived.Test.YtokgmcomgflloaaGreatQX04
import Derived.Laws.CopyOwn
set_option maxRecDepth 100000
set_option maxHeartbeats 16000000
namespace Go.Proofs.YtokgmcomgflloaaGreat
section
set_option linter.unusedVariables false
set_option linter.unusedSimpArgs false
open Go.RowKit
theorem qE (x y:Nat) (hx:x<18446744073709551616) (hy:y<18446744073709551616) (w:World) :
  Calls Tryz.prog 181 #[.int .u64 x,.int .u64 y] w fun e w'=>e = .returned (.tuple #[.int .u64 ((x*y / 18446744073709551616:Nat):Int),.int .u64 ((x*y % 18446744073709551616:Nat):Int)])∧w'=w:=by
 have hm:=hid (bits_Mul64 x y hx hy)
 go_enter Tryz.func181,Tryz.ntmps181
 go_wp2_with (go_at_call 99;refine (hm.out _).mono ?_;rintro e w' ⟨rfl,hw⟩;rw [hw])
 go_returns
 exact ⟨rfl,rfl⟩

def um (n:Nat) (v:Value) (w:World) (e:Ending) (w':World):Prop:=∃ gs,e = .returned (.slice (some ⟨gs,0,none⟩) n n)∧w.heap.size≤gs∧gs<w'.heap.size∧(∀ j,j<n→w'.cell? ⟨gs,j,none⟩=some v)∧(∀ j,w'.frozen? ⟨gs,j,none⟩=false)∧Below w.heap.size w w'

def rX (n k:Nat) (v z:Value):List Value:=List.replicate k v ++ List.replicate (n-k) z
theorem wG (n:Nat) (v z:Value):rX n 0 v z=List.replicate n z:=rfl
theorem qz {n k:Nat} (v z:Value) (h:k≤n):(rX n k v z).length=n:=by unfold rX;simp;omega
theorem nA {n k m:Nat} (v z:Value) (h:k+m≤n):splice (rX n k v z) k (List.replicate m v)=rX n (k+m) v z:=by
 unfold splice rX;rw [List.take_append_of_le_length (by simp),List.take_of_length_le (by simp),List.drop_append,List.length_replicate,List.length_replicate,List.drop_eq_nil_of_le (by simp),List.nil_append,List.drop_replicate,← List.append_assoc,List.replicate_append_replicate]
 congr 2
 omega
theorem vQ {n k j:Nat} {v z:Value} (h:j<k):(rX n k v z)[j]? = some v:=by
 unfold rX;rw [List.getElem?_append_left (by simpa using h),List.getElem?_replicate,if_pos h]
theorem kM:(Tryz.prog.info? 4).map (fun i=>(i.zero,i.size,i.bytes))=some (some (.bool false),1,1):=by kernel_rfl
theorem jW (n:Nat) (hn:n≤1000000) (w:World):(Instr.makeSlice 163 (.int .i64 (n:Int)) (.int .i64 (n:Int))).run Tryz.prog w = .ok (.slice (some ⟨w.heap.size,0,none⟩) n n) (w.alloc (.cells (List.replicate n (.bool false)).toArray 4)):=by
 obtain ⟨i0,hi,hz0,hz1,hz2⟩:=info_parts kM;have:=run_makeSlice (P:=Tryz.prog) w 163 4 i0 (.bool false) Tryz.underlying163 hi hz0 .i64 .i64 n n (by omega) (Int.le_refl _) (by rw [hz1];omega) (by rw [hz2];omega) (by omega);rw [this,hz1,Int.toNat_natCast,Nat.mul_one]
 have e:madeCells (Value.cells (.bool false)) n=(List.replicate n (.bool false)).toArray:=by
  have:=toList_madeCells_one (.bool false) n;rw [show Value.cells (.bool false)=#[.bool false] from rfl,← this]
 rw [e]
theorem sO (ga c n:Nat) (x:Bool) (w:World) (h0:w.cell? ⟨ga,0,none⟩=some (.bool x)) (hn:n≤1000) :
  Calls Tryz.prog 126 #[.slice (some ⟨ga,0,none⟩) 1 c,.int .i64 n] w (um n (.bool x) w):=by
 obtain ⟨gs,hgs⟩:∃ g,g=w.heap.size:=⟨_,rfl⟩;obtain ⟨rep,hrep⟩:∃ x:Array Value,x=(List.replicate n (.bool false)).toArray:=⟨_,rfl⟩;obtain ⟨w1,hw1⟩:∃ y,y=w.alloc (.cells rep 4):=⟨_,rfl⟩;have hmk:∀ w:World,(Instr.makeSlice 163 (.int .i64 (n:Int)) (.int .i64 (n:Int))).run Tryz.prog w = .ok (.slice (some ⟨w.heap.size,0,none⟩) n n) (w.alloc (.cells rep 4)):=fun w=>by rw [hrep];exact jW n (by omega) w
 have hb1:Below w.heap.size w w1:=by rw [hw1];exact (Below.refl _ _).alloc (Nat.le_refl _) _
 have HR1:Hid (w1.heap[gs]? = some (.cells (rX n 0 (.bool x) (.bool false)).toArray 4 (0,0))):=hid (by rw [wG,← hrep,hw1,hgs];exact heap_alloc_new w _);have HB1:=hid hb1;have HC0:=hid (keepCell hb1 h0);have HG:=hid (show w.heap.size≤gs by omega);have hwu:IntKind.u64.wrap (n:Int)=(n:Int):=by rw [IntKind.wrap_u64];omega
 have hwi:IntKind.i64.wrap (n:Int)=(n:Int):=IntWalk.i64_in _ (by omega);have hge:¬ (n:Int)<0:=by omega
 have hle:¬ (9223372036854775807:Int)<(n:Int):=by omega
 have HM:Hid (∀ w,Calls Tryz.prog 181 #[.int .u64 1,.int .u64 n] w (fun e w'=>e = .returned (.tuple #[.int .u64 0,.int .u64 n])∧w'=w)):=hid (fun w=>(qE 1 n (by omega) (by omega) w).mono (by
  rintro e w' ⟨rfl,rfl⟩;refine ⟨?_,rfl⟩;rw [Nat.one_mul,Nat.mod_eq_of_lt (by omega),Nat.div_eq_of_lt (by omega)]
  rfl))
 obtain ⟨V,hV⟩:∃ V:Value,V = .bool x:=⟨_,rfl⟩;have h1c:V.oneCell'=true:=by rw [hV];rfl
 have HZI:Hid (Tryz.prog.underlying 163=some (.slice 4)∧(Tryz.prog.info? 4).map (·.size)=some 1):=hid ⟨Tryz.underlying163,by obtain ⟨i0,hi,hz0,hz1,hz2⟩:=info_parts kM;rw [hi];simp [hz1]⟩;rw [← hV] at HR1 HC0 ⊢;clear hb1 h0 hV hrep
 go_enter Tryz.func126,Tryz.ntmps126
 go_wp2_with fail
 refine (HM.out _).mono ?_;rintro e wm ⟨rfl,hwm⟩;rw [hwm];clear hwm HM
 go_upto_region 7 with fail
 rw [← hw1,← hgs];clear hw1 hgs hmk
 have HSRC:Hid (∀ j v,(List.replicate (min 1 n) V)[j]? = some v→w1.cell? ((⟨ga,0,none⟩:Addr).add j)=some v):=hid (fun j v hj=>by
  rw [List.getElem?_replicate] at hj
  split at hj
  ·rename_i hlt;obtain rfl:j=0:=by omega
   cases hj
   exact HC0.out
  ·cases hj)
 go_wp2_with (with_reducible refine wpList_copy_splice rfl _ _ _ _ rfl _ HZI.out.1 HZI.out.2 _ _ _ _ _ _ rfl rfl gs 0 _ _ HR1.out (List.replicate (min 1 n) V) (by simp) (fun h=>⟨rfl,_,rfl,HSRC.out⟩) (by rw [qz _ _ (Nat.zero_le _)];simp;omega) (by simp [h1c]) w.heap.size w HB1.out HG.out ?_;intro w4 hrow hbw;rw [nA _ _ (by omega),Nat.zero_add] at hrow;have HROW:=hrow;have HBW:=hid hbw;clear hrow hbw HR1 HB1 HSRC)
 go_loopw [8] (fun j wr=>∃ k:Nat,k≤n∧(0<n→0<k)∧j = .int .i64 k∧Hid (wr.heap[gs]? = some (.cells (rX n k V (.bool false)).toArray 4 (0,0))∧Below w.heap.size w wr)) (fun j _=>n-(intOf j).toNat)
 case atStart=>exact ⟨min 1 n,by omega,fun _=>by omega,by simp,hid ⟨HROW.out,HBW.out⟩⟩
 case round =>
  clear HROW HBW;obtain ⟨k,hk,hk0,rfl,HR⟩:=hrel;obtain ⟨wo,rfl⟩:∃ wo:World,wo=wr:=⟨_,rfl⟩
  by_cases hlt:k<n
  ·have hlt' : (k : Int) < (n : Int) := by omega
   obtain ⟨m,hm⟩:∃ m,m=min k (n-k):=⟨_,rfl⟩;have hm0:0<m:=by omega
   have hnk:¬ n=k:=by omega
   have HKM:=hid (show k+m≤n by omega);have hwk:IntKind.i64.wrap ((k:Int)+(m:Int))=(k:Int)+(m:Int):=IntWalk.i64_in _ (by omega)
   have HSRC:Hid (∀ wx:World,wx.heap[gs]? = some (.cells (rX n k V (.bool false)).toArray 4 (0,0))→∀ j v,(List.replicate m V)[j]? = some v→wx.cell? ((⟨gs,0,none⟩:Addr).add j)=some v):=hid (fun wx hx j v hj=>by
    rw [List.getElem?_replicate] at hj
    split at hj
    ·rename_i hjm
     cases hj
     have hadd:(⟨gs,0,none⟩:Addr).add j=⟨gs,j,none⟩:=by unfold Addr.add;split <;> simp_all
     rw [hadd];unfold World.cell?
     rw [hx];show (rX n k V (.bool false)).toArray[j]? = _;rw [List.getElem?_toArray];exact vQ (by omega)
    ·cases hj)
   have HM2:=hid hm;clear hm
   go_upto_region 9 with fail
   refine wp_region_noPanic ?_;refine au (S:=(S2 (fun w'=>Hid (w'.heap[gs]? = some (.cells (rX n k V (.bool false)).toArray 4 (0,0))∧Below w.heap.size w w')))) (T:=(fun j=>[0,0,0,0,0,0,0,1].getD j 0)) (by kernel_rfl) (aM (hid (And.intro HR.out.1 HR.out.2.drew))) (fun hH=>?_);have hWr1:aO (S2 (fun w'=>Hid (w'.heap[gs]? = some (.cells (rX n k V (.bool false)).toArray 4 (0,0))∧Below w.heap.size w w'))):=aR _;refine gH [(1,39),(2,40),(3,41),(4,42),(5,43),(6,44)] 4 0 0 (L':=?Lr1_1) hWr1 hH ?yr1_1 ?_
   case yr1_1=>((iterate 6 apply gK;rfl;kernel_rfl;intro w' hSw;clear hSw;(try simp only [sB,sC]);go_simp;(try with_reducible rfl));exact gF)
   simp only [sB,sC];refine Ut 0 38 3 1 0 (v:=?vr1_7) rfl hWr1 hH ?yr1_7 ?_
   case yr1_7=>(intro w' hSw;clear hSw;go_simp;try (with_reducible rfl))
   simp only [sB,sC];refine U1 7 1 rfl (fun K hK=>?_);have hG:=aC hH;have hrw:=hG.out.1;have hbw:=hG.out.2;clear hG
   (refine step_copy_splice (by rfl) _ _ _ _ (by rfl) _ HZI.out.1 HZI.out.2 _ _ _ _ _ _ (by rfl) (by rfl) gs k _ _ hrw (List.replicate m V) (by have:=HM2.out;simp;omega) (fun h=>⟨rfl,_,rfl,HSRC.out _ hrw⟩) (by have:=HKM.out;rw [qz _ _ (by omega)];simp;omega) (by simp [h1c]) w.heap.size w hbw HG.out ?_;intro w5 hrow hbw5)
   refine hK.out _ _ (fZ) (fun hH2=>?_);clear hK K hH
   rename _=>hH
   try simp only [Act.put,List.getElem_toArray,List.getElem_cons_succ,List.getElem_cons_zero,sA,sB,sC]
   rw [nA _ _ HKM.out] at hrow;have HRN:=hid (And.intro hrow.out hbw5);clear hrow hbw5 hrw hbw;refine gH [(8,46),(9,8)] 0 1 1 (L':=?Lr1_9) hWr1 hH ?yr1_9 ?_
   case yr1_9=>((iterate 2 apply gK;rfl;kernel_rfl;intro w' hSw;clear hSw;(try simp only [sB,sC]);go_simp;(try with_reducible rfl));exact gF)
   simp only [sB,sC];refine ak (by kernel_rfl) ?_ _ _;refine NoPanic.normal ?_;clear hWr1 hH;go_wp2;go_roundw
   case rel=>exact ⟨k+m,by have:=HKM.out;omega,fun _=>by omega,by go_num,HRN⟩
   case measure=>simp [intOf];omega
  ·have hkn : n = k := by omega
   subst hkn
   have HFIN:Hid (um n V w (.returned (.slice (some ⟨gs,0,none⟩) n n)) wo):=hid ⟨gs,rfl,HG.out,(Array.getElem?_eq_some_iff.1 HR.out.1).1,fun j hj=>by
    unfold World.cell?
    rw [HR.out.1];show (rX n n V (.bool false)).toArray[j]? = _;rw [List.getElem?_toArray]
    exact vQ hj,fun j=>by unfold World.frozen?;rw [HR.out.1];simp,HR.out.2⟩
   clear HR;go_wp2;refine bodyPost_ret (v:=.slice (some ⟨gs,0,none⟩) n n) (by simp [results,Tryz.results126,go_sem]) rfl HFIN.out
theorem kV:(Tryz.prog.info? 3).map (fun i=>(i.zero,i.size,i.bytes))=some (some (.int .i64 0),1,8):=by kernel_rfl
theorem pX (n:Nat) (hn:n≤1000000) (w:World):(Instr.makeSlice 45 (.int .i64 (n:Int)) (.int .i64 (n:Int))).run Tryz.prog w = .ok (.slice (some ⟨w.heap.size,0,none⟩) n n) (w.alloc (.cells (List.replicate n (.int .i64 0)).toArray 3)):=by
 obtain ⟨i0,hi,hz0,hz1,hz2⟩:=info_parts kV;have:=run_makeSlice (P:=Tryz.prog) w 45 3 i0 (.int .i64 0) Tryz.underlying45 hi hz0 .i64 .i64 n n (by omega) (Int.le_refl _) (by rw [hz1];omega) (by rw [hz2];omega) (by omega);rw [this,hz1,Int.toNat_natCast,Nat.mul_one]
 have e:madeCells (Value.cells (.int .i64 0)) n=(List.replicate n (.int .i64 0)).toArray:=by
  have:=toList_madeCells_one (.int .i64 0) n;rw [show Value.cells (.int .i64 0)=#[.int .i64 0] from rfl,← this]
 rw [e]
theorem vZ (ga c n:Nat) (x:Int) (w:World) (h0:w.cell? ⟨ga,0,none⟩=some (.int .i64 x)) (hn:n≤1000) :
  Calls Tryz.prog 119 #[.slice (some ⟨ga,0,none⟩) 1 c,.int .i64 n] w (um n (.int .i64 x) w):=by
 obtain ⟨gs,hgs⟩:∃ g,g=w.heap.size:=⟨_,rfl⟩;obtain ⟨rep,hrep⟩:∃ x:Array Value,x=(List.replicate n (.int .i64 0)).toArray:=⟨_,rfl⟩;obtain ⟨w1,hw1⟩:∃ y,y=w.alloc (.cells rep 3):=⟨_,rfl⟩;have hmk:∀ w:World,(Instr.makeSlice 45 (.int .i64 (n:Int)) (.int .i64 (n:Int))).run Tryz.prog w = .ok (.slice (some ⟨w.heap.size,0,none⟩) n n) (w.alloc (.cells rep 3)):=fun w=>by rw [hrep];exact pX n (by omega) w
 have hb1:Below w.heap.size w w1:=by rw [hw1];exact (Below.refl _ _).alloc (Nat.le_refl _) _
 have HR1:Hid (w1.heap[gs]? = some (.cells (rX n 0 (.int .i64 x) (.int .i64 0)).toArray 3 (0,0))):=hid (by rw [wG,← hrep,hw1,hgs];exact heap_alloc_new w _);have HB1:=hid hb1;have HC0:=hid (keepCell hb1 h0);have HG:=hid (show w.heap.size≤gs by omega);have hwu:IntKind.u64.wrap (n:Int)=(n:Int):=by rw [IntKind.wrap_u64];omega
 have hwi:IntKind.i64.wrap (n:Int)=(n:Int):=IntWalk.i64_in _ (by omega);have hge:¬ (n:Int)<0:=by omega
 have hle:¬ (9223372036854775807:Int)<(n:Int):=by omega
 have HM:Hid (∀ w,Calls Tryz.prog 181 #[.int .u64 1,.int .u64 n] w (fun e w'=>e = .returned (.tuple #[.int .u64 0,.int .u64 n])∧w'=w)):=hid (fun w=>(qE 1 n (by omega) (by omega) w).mono (by
  rintro e w' ⟨rfl,rfl⟩;refine ⟨?_,rfl⟩;rw [Nat.one_mul,Nat.mod_eq_of_lt (by omega),Nat.div_eq_of_lt (by omega)]
  rfl))
 obtain ⟨V,hV⟩:∃ V:Value,V = .int .i64 x:=⟨_,rfl⟩;have h1c:V.oneCell'=true:=by rw [hV];rfl
 have HZI:Hid (Tryz.prog.underlying 45=some (.slice 3)∧(Tryz.prog.info? 3).map (·.size)=some 1):=hid ⟨Tryz.underlying45,by obtain ⟨i0,hi,hz0,hz1,hz2⟩:=info_parts kV;rw [hi];simp [hz1]⟩;rw [← hV] at HR1 HC0 ⊢;clear hb1 h0 hV hrep
 go_enter Tryz.func119,Tryz.ntmps119
 go_wp2_with fail
 refine (HM.out _).mono ?_;rintro e wm ⟨rfl,hwm⟩;rw [hwm];clear hwm HM
 go_upto_region 7 with fail
 rw [← hw1,← hgs];clear hw1 hgs hmk
 have HSRC:Hid (∀ j v,(List.replicate (min 1 n) V)[j]? = some v→w1.cell? ((⟨ga,0,none⟩:Addr).add j)=some v):=hid (fun j v hj=>by
  rw [List.getElem?_replicate] at hj
  split at hj
  ·rename_i hlt;obtain rfl:j=0:=by omega
   cases hj
   exact HC0.out
  ·cases hj)
 go_wp2_with (with_reducible refine wpList_copy_splice rfl _ _ _ _ rfl _ HZI.out.1 HZI.out.2 _ _ _ _ _ _ rfl rfl gs 0 _ _ HR1.out (List.replicate (min 1 n) V) (by simp) (fun h=>⟨rfl,_,rfl,HSRC.out⟩) (by rw [qz _ _ (Nat.zero_le _)];simp;omega) (by simp [h1c]) w.heap.size w HB1.out HG.out ?_;intro w4 hrow hbw;rw [nA _ _ (by omega),Nat.zero_add] at hrow;have HROW:=hrow;have HBW:=hid hbw;clear hrow hbw HR1 HB1 HSRC)
 go_loopw [8] (fun j wr=>∃ k:Nat,k≤n∧(0<n→0<k)∧j = .int .i64 k∧Hid (wr.heap[gs]? = some (.cells (rX n k V (.int .i64 0)).toArray 3 (0,0))∧Below w.heap.size w wr)) (fun j _=>n-(intOf j).toNat)
 case atStart=>exact ⟨min 1 n,by omega,fun _=>by omega,by simp,hid ⟨HROW.out,HBW.out⟩⟩
 case round =>
  clear HROW HBW;obtain ⟨k,hk,hk0,rfl,HR⟩:=hrel;obtain ⟨wo,rfl⟩:∃ wo:World,wo=wr:=⟨_,rfl⟩
  by_cases hlt:k<n
  ·have hlt' : (k : Int) < (n : Int) := by omega
   obtain ⟨m,hm⟩:∃ m,m=min k (n-k):=⟨_,rfl⟩;have hm0:0<m:=by omega
   have hnk:¬ n=k:=by omega
   have HKM:=hid (show k+m≤n by omega);have hwk:IntKind.i64.wrap ((k:Int)+(m:Int))=(k:Int)+(m:Int):=IntWalk.i64_in _ (by omega)
   have HSRC:Hid (∀ wx:World,wx.heap[gs]? = some (.cells (rX n k V (.int .i64 0)).toArray 3 (0,0))→∀ j v,(List.replicate m V)[j]? = some v→wx.cell? ((⟨gs,0,none⟩:Addr).add j)=some v):=hid (fun wx hx j v hj=>by
    rw [List.getElem?_replicate] at hj
    split at hj
    ·rename_i hjm
     cases hj
     have hadd:(⟨gs,0,none⟩:Addr).add j=⟨gs,j,none⟩:=by unfold Addr.add;split <;> simp_all
     rw [hadd];unfold World.cell?
     rw [hx];show (rX n k V (.int .i64 0)).toArray[j]? = _;rw [List.getElem?_toArray];exact vQ (by omega)
    ·cases hj)
   have HM2:=hid hm;clear hm
   go_upto_region 9 with fail
   refine wp_region_noPanic ?_;refine au (S:=(S2 (fun w'=>Hid (w'.heap[gs]? = some (.cells (rX n k V (.int .i64 0)).toArray 3 (0,0))∧Below w.heap.size w w')))) (T:=(fun j=>[0,0,0,0,0,0,0,1].getD j 0)) (by kernel_rfl) (aM (hid (And.intro HR.out.1 HR.out.2.drew))) (fun hH=>?_);have hWr2:aO (S2 (fun w'=>Hid (w'.heap[gs]? = some (.cells (rX n k V (.int .i64 0)).toArray 3 (0,0))∧Below w.heap.size w w'))):=aR _;refine gH [(1,39),(2,40),(3,41),(4,42),(5,43),(6,44)] 4 0 0 (L':=?Lr2_1) hWr2 hH ?yr2_1 ?_
   case yr2_1=>((iterate 6 apply gK;rfl;kernel_rfl;intro w' hSw;clear hSw;(try simp only [sB,sC]);go_simp;(try with_reducible rfl));exact gF)
   simp only [sB,sC];refine Ut 0 38 3 1 0 (v:=?vr2_7) rfl hWr2 hH ?yr2_7 ?_
   case yr2_7=>(intro w' hSw;clear hSw;go_simp;try (with_reducible rfl))
   simp only [sB,sC];refine U1 7 1 rfl (fun K hK=>?_);have hG:=aC hH;have hrw:=hG.out.1;have hbw:=hG.out.2;clear hG
   (refine step_copy_splice (by rfl) _ _ _ _ (by rfl) _ HZI.out.1 HZI.out.2 _ _ _ _ _ _ (by rfl) (by rfl) gs k _ _ hrw (List.replicate m V) (by have:=HM2.out;simp;omega) (fun h=>⟨rfl,_,rfl,HSRC.out _ hrw⟩) (by have:=HKM.out;rw [qz _ _ (by omega)];simp;omega) (by simp [h1c]) w.heap.size w hbw HG.out ?_;intro w5 hrow hbw5)
   refine hK.out _ _ (fZ) (fun hH2=>?_);clear hK K hH
   rename _=>hH
   try simp only [Act.put,List.getElem_toArray,List.getElem_cons_succ,List.getElem_cons_zero,sA,sB,sC]
   rw [nA _ _ HKM.out] at hrow;have HRN:=hid (And.intro hrow.out hbw5);clear hrow hbw5 hrw hbw;refine gH [(8,46),(9,8)] 0 1 1 (L':=?Lr2_9) hWr2 hH ?yr2_9 ?_
   case yr2_9=>((iterate 2 apply gK;rfl;kernel_rfl;intro w' hSw;clear hSw;(try simp only [sB,sC]);go_simp;(try with_reducible rfl));exact gF)
   simp only [sB,sC];refine ak (by kernel_rfl) ?_ _ _;refine NoPanic.normal ?_;clear hWr2 hH;go_wp2;go_roundw
   case rel=>exact ⟨k+m,by have:=HKM.out;omega,fun _=>by omega,by go_num,HRN⟩
   case measure=>simp [intOf];omega
  ·have hkn : n = k := by omega
   subst hkn
   have HFIN:Hid (um n V w (.returned (.slice (some ⟨gs,0,none⟩) n n)) wo):=hid ⟨gs,rfl,HG.out,(Array.getElem?_eq_some_iff.1 HR.out.1).1,fun j hj=>by
    unfold World.cell?
    rw [HR.out.1];show (rX n n V (.int .i64 0)).toArray[j]? = _;rw [List.getElem?_toArray]
    exact vQ hj,fun j=>by unfold World.frozen?;rw [HR.out.1];simp,HR.out.2⟩
   clear HR;go_wp2;refine bodyPost_ret (v:=.slice (some ⟨gs,0,none⟩) n n) (by simp [results,Tryz.results119,go_sem]) rfl HFIN.out
end
end Go.Proofs.YtokgmcomgflloaaGreat
