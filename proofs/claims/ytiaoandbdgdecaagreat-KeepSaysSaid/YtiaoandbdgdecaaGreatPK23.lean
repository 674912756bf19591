/- Parts of a proof: contracts and laws. -/
import Derived.Test.YtiaoandbdgdecaaGreatPK02
import Derived.Test.YtiaoandbdgdecaaGreatPK01
import Derived.Deep.RegionLaw
import Derived.Deep.RegionHeld3
import Derived.Deep.DeepCutAuto
import Derived.Laws.IdiomCopy
import Derived.Test.YtiaoandbdgdecaaGreatPK03
import Derived.Test.YtiaoandbdgdecaaGreatPK06
import Derived.Test.YtiaoandbdgdecaaGreatPK04
set_option maxRecDepth 100000
set_option maxHeartbeats 16000000
namespace Go.Proofs.YtiaoandbdgdecaaGreat
section
set_option linter.unusedVariables false
set_option linter.unusedSimpArgs false
open Go.RowKit

def magF (z:Int):Int:=if z<0 then -z-1 else z
theorem magF_bd {z:Int} (h1 : -170141183460469231731687303715884105728≤z) (h2:z<170141183460469231731687303715884105728):0≤magF z∧magF z<170141183460469231731687303715884105728:=by unfold magF;split <;> omega
theorem floor_neg {M n:Int} (hn:0<n):(-M-1) / n = -(M / n)-1:=by
 have e:=Int.emod_add_mul_ediv M n
 have r0:=Int.emod_nonneg M (show n≠0 by omega)
 have r1:=Int.emod_lt_of_pos M hn
 generalize M % n=r at *
 generalize M / n=q at *
 have : -M-1=(n-1-r)+(-q-1)*n:=by rw [← e];grind
 rw [this,Int.add_mul_ediv_right _ _ (by omega),Int.ediv_eq_zero_of_lt (by omega) (by omega)]
 omega
theorem floor_mag {z n:Int} (hn:0<n):z / n=if z<0 then -(magF z / n)-1 else magF z / n:=by
 unfold magF
 split
 ·rw [← floor_neg hn];congr 1;omega
 ·rfl

def qk (M n:Int) (k:Nat):Int:=M / 2 ^ k / n
def rk (M n:Int) (k:Nat):Int:=M / 2 ^ k % n
def bk (M:Int) (k:Nat):Int:=M / 2 ^ k % 2
theorem two_pos (k:Nat):(0:Int)<2 ^ k:=Int.pow_pos (by omega)
theorem half_step (M:Int) (k:Nat):M / 2 ^ k=2*(M / 2 ^ (k+1))+bk M k:=by
 unfold bk
 rw [Int.pow_succ,← ediv_ediv' (Int.le_of_lt (two_pos k))]
 omega
theorem bk_bd (M:Int) (k:Nat):0≤bk M k∧bk M k≤1:=by unfold bk;omega
theorem rk_bd {n:Int} (M:Int) (hn:0<n) (k:Nat):0≤rk M n k∧rk M n k<n:=⟨Int.emod_nonneg _ (by omega),Int.emod_lt_of_pos _ hn⟩
theorem qk_bd {M n:Int} (h0:0≤M) (h1:M<170141183460469231731687303715884105728) (hn:0<n) (k:Nat):0≤qk M n k∧qk M n k<170141183460469231731687303715884105728:=by
 unfold qk
 have a:=Int.ediv_nonneg h0 (Int.le_of_lt (two_pos k))
 have b:=Int.ediv_le_self (2 ^ k) h0
 have c:=Int.ediv_nonneg a (Int.le_of_lt hn)
 have d:=Int.ediv_le_self n a
 omega
theorem step_lt {M n:Int} {k:Nat} (hn:0<n) (h:2*rk M n (k+1)+bk M k<n):rk M n k=2*rk M n (k+1)+bk M k∧qk M n k=2*qk M n (k+1):=by
 have hr:=rk_bd M hn (k+1)
 have hb:=bk_bd M k
 have e:=Int.emod_add_mul_ediv (M / 2 ^ (k+1)) n
 have e2:=half_step M k
 unfold rk qk at *
 generalize M / 2 ^ (k+1) % n=r at *
 generalize M / 2 ^ (k+1) / n=q at *
 have e3:M / 2 ^ k=(2*r+bk M k)+(2*q)*n:=by rw [e2,← e];grind
 rw [e3,Int.add_mul_ediv_right _ _ (by omega),Int.add_mul_emod_self_right,Int.ediv_eq_zero_of_lt (by omega) h,Int.emod_eq_of_lt (by omega) h]
 omega
theorem step_ge {M n:Int} {k:Nat} (hn:0<n) (h:n≤2*rk M n (k+1)+bk M k):rk M n k=2*rk M n (k+1)+bk M k-n∧qk M n k=2*qk M n (k+1)+1:=by
 have hr:=rk_bd M hn (k+1)
 have hb:=bk_bd M k
 have e:=Int.emod_add_mul_ediv (M / 2 ^ (k+1)) n
 have e2:=half_step M k
 unfold rk qk at *
 generalize M / 2 ^ (k+1) % n=r at *
 generalize M / 2 ^ (k+1) / n=q at *
 have e3:M / 2 ^ k=(2*r+bk M k-n)+(2*q+1)*n:=by rw [e2,← e];grind
 rw [e3,Int.add_mul_ediv_right _ _ (by omega),Int.add_mul_emod_self_right,Int.ediv_eq_zero_of_lt (by omega) (by omega),Int.emod_eq_of_lt (by omega) (by omega)]
 omega
theorem qk_top {M n:Int} (h0:0≤M) (h1:M<170141183460469231731687303715884105728):qk M n 128=0∧rk M n 128=0:=by
 unfold qk rk
 have:M / 2 ^ 128=0:=Int.ediv_eq_zero_of_lt h0 (by omega)
 rw [this]
 simp
theorem qk_zero (M n:Int):qk M n 0=M / n:=by simp [qk]

theorem digit_bit (M:Int) (i:Nat):digs M (i / 16) / 2 ^ (i % 16) % 2=bk M i:=by
 unfold digs bk
 have e:(2:Int) ^ i=65536 ^ (i / 16)*2 ^ (i % 16):=by
  rw [show (65536:Int)=2 ^ 16 by decide,← Int.pow_mul,← Int.pow_add]
  congr 1
  omega
 rw [e,← ediv_ediv' (Int.le_of_lt (pow_pos' _))]
 have hm:i % 16<16:=Nat.mod_lt _ (by omega)
 generalize M / 65536 ^ (i / 16)=y
 generalize i % 16=m at *
 have e16:(65536:Int)=(2*2 ^ (15-m))*2 ^ m:=by
  rcases (show m=0∨m=1∨m=2∨m=3∨m=4∨m=5∨m=6∨m=7∨m=8∨m=9∨m=10∨m=11∨m=12∨m=13∨m=14∨m=15 by omega) with h | h | h | h | h | h | h | h | h | h | h | h | h | h | h | h <;> (subst h;decide)
 have h1:=Int.emod_add_mul_ediv y 65536
 have hp:=two_pos m
 generalize y / 65536=t at *
 have h2:y % 65536=y+(-(2*(2 ^ (15-m)*t)))*2 ^ m:=by
  have:65536*t=(2*(2 ^ (15-m)*t))*2 ^ m:=by
   rw [show (65536:Int)*t=(2*2 ^ (15-m))*2 ^ m*t by rw [← e16]]
   grind
  rw [Int.neg_mul]
  omega
 rw [h2,Int.add_mul_ediv_right _ _ (by omega)]
 generalize 2 ^ (15-m)*t=u
 generalize y / 2 ^ m=v
 omega
theorem and1 (x:Int) (h0:0≤x) (h1:x<4294967296):bits .and .u32 x 1=x % 2:=by go_bits2
theorem digit_and (M:Int) (i:Nat):bits .and .u32 (digs M (i / 16) / 2 ^ (i % 16)) 1=bk M i:=by
 have h1:=digs_nonneg M (i / 16)
 have h2:=digs_lt M (i / 16)
 have h3:=Int.ediv_nonneg h1 (Int.le_of_lt (two_pos (i % 16)))
 have h4:=Int.ediv_le_self (2 ^ (i % 16)) h1
 rw [and1 _ h3 (by omega),digit_bit]

theorem even_or (r b:Int) (hb:0≤b∧b≤1):bits .or .u32 (digs (r+r) 0) b=digs (r+r+b) 0:=by
 have e0:digs (r+r) 0=(r+r) % 65536:=by simp [digs]
 have e1:digs (r+r+b) 0=(r+r+b) % 65536:=by simp [digs]
 rw [e0,e1]
 have h2:(r+r) % 65536=2*(r % 32768):=by omega
 have h3:(r+r+b) % 65536=2*(r % 32768)+b:=by omega
 rw [h2,h3]
 have h4:=Int.emod_nonneg r (show (32768:Int)≠0 by omega)
 have h5:=Int.emod_lt_of_pos r (show (0:Int)<32768 by omega)
 generalize r % 32768=t at *
 obtain rfl | rfl:b=0∨b=1:=by omega
 ·go_bits2
 ·go_bits2
theorem even_digs (r b:Int) (hb:0≤b∧b≤1) (j:Nat) (hj:j≠0):digs (r+r+b) j=digs (r+r) j:=by
 unfold digs
 obtain ⟨k,rfl⟩:∃ k,j=k+1:=⟨j-1,by omega⟩
 rw [Int.pow_succ,Int.mul_comm,← ediv_ediv' (by omega),← ediv_ediv' (by omega)]
 have:(r+r+b) / 65536=(r+r) / 65536:=by omega
 rw [this]

def floorOk (z n:Int):Bool:=decide (-9223372036854775808≤z / n∧z / n≤9223372036854775807)
def floorQ (z n:Int):Int:=if floorOk z n=true then z / n else 0
theorem floor_large {z n:Int} (hn:0<n) (h:9223372036854775808≤magF z / n):floorOk z n=false:=by
 have:=floor_mag (z:=z) hn
 simp only [floorOk,decide_eq_false_iff_not]
 rw [this]
 split <;> omega
theorem floor_small {z n:Int} (hn:0<n) (h0:0≤magF z / n) (h:magF z / n<9223372036854775808):floorOk z n=true:=by
 have:=floor_mag (z:=z) hn
 simp only [floorOk,decide_eq_true_iff]
 rw [this]
 split <;> omega
theorem floorQ_small {z n:Int} (hn:0<n) (h0:0≤magF z / n) (h:magF z / n<9223372036854775808):floorQ z n=if z<0 then -(magF z / n)-1 else magF z / n:=by
 unfold floorQ
 rw [if_pos (floor_small hn h0 h),floor_mag hn]
theorem floorQ_large {z n:Int} (hn:0<n) (h:9223372036854775808≤magF z / n):floorQ z n=0:=by
 unfold floorQ
 rw [floor_large hn h]
 simp
theorem or16_0 (d:Int) (h0:0≤d) (h1:d≤65535):bits .or .u64 0 d=d:=by go_bits2
theorem or16_1 (z d:Int) (z0:0≤z) (z1:z<65536) (h0:0≤d) (h1:d≤65535):bits .or .u64 z (d*65536)=z+d*65536:=by go_bits2
theorem or16_2 (z d:Int) (z0:0≤z) (z1:z<4294967296) (h0:0≤d) (h1:d≤65535):bits .or .u64 z (d*4294967296)=z+d*4294967296:=by go_bits2
theorem or16_3 (z d:Int) (z0:0≤z) (z1:z<281474976710656) (h0:0≤d) (h1:d≤65535):bits .or .u64 z (d*281474976710656)=z+d*281474976710656:=by go_bits2

def lowD (z:Int) (k:Nat):Int:=z % 65536 ^ k
theorem lowD_zero (z:Int):lowD z 0=0:=by simp [lowD,Int.emod_one]
theorem lowD_succ (z:Int) (k:Nat):lowD z (k+1)=lowD z k+digs z k*65536 ^ k:=by unfold lowD;rw [digs_step];rw [Int.mul_comm]
theorem lowD_bd (z:Int) (k:Nat):0≤lowD z k∧lowD z k<65536 ^ k:=⟨Int.emod_nonneg _ (Int.ne_of_gt (pow_pos' k)),Int.emod_lt_of_pos _ (pow_pos' k)⟩
theorem or_0 (z:Int):bits .or .u64 (lowD z 0) (digs z 0)=lowD z 1:=by
 have:=lowD_succ z 0
 rw [lowD_zero] at *
 rw [or16_0 _ (digs_nonneg _ _) (digs_lt _ _),this]
 simp
theorem or_1 (z:Int):bits .or .u64 (lowD z 1) (digs z 1*65536)=lowD z 2:=by
 have b:=lowD_bd z 1
 have:=lowD_succ z 1
 simp only [Int.reducePow,Nat.reduceAdd] at *
 rw [or16_1 _ _ b.1 b.2 (digs_nonneg _ _) (digs_lt _ _),this]
theorem or_2 (z:Int):bits .or .u64 (lowD z 2) (digs z 2*4294967296)=lowD z 3:=by
 have b:=lowD_bd z 2
 have:=lowD_succ z 2
 simp only [Int.reducePow,Nat.reduceAdd] at *
 rw [or16_2 _ _ b.1 b.2 (digs_nonneg _ _) (digs_lt _ _),this]
theorem or_3 (z:Int):bits .or .u64 (lowD z 3) (digs z 3*281474976710656)=lowD z 4:=by
 have b:=lowD_bd z 3
 have:=lowD_succ z 3
 simp only [Int.reducePow,Nat.reduceAdd] at *
 rw [or16_3 _ _ b.1 b.2 (digs_nonneg _ _) (digs_lt _ _),this]
theorem digs_hi (z:Int) (k:Nat):digs z (4+k)=digs (z / 18446744073709551616) k:=by
 rw [← digs_shift]
 simp only [Int.reducePow]
theorem or_4 (z:Int):bits .or .u64 (lowD (z / 18446744073709551616) 0) (digs z 4)=lowD (z / 18446744073709551616) 1:=by rw [digs_hi z 0];exact or_0 _
theorem or_5 (z:Int):bits .or .u64 (lowD (z / 18446744073709551616) 1) (digs z 5*65536)=lowD (z / 18446744073709551616) 2:=by rw [digs_hi z 1];exact or_1 _
theorem or_6 (z:Int):bits .or .u64 (lowD (z / 18446744073709551616) 2) (digs z 6*4294967296)=lowD (z / 18446744073709551616) 3:=by rw [digs_hi z 2];exact or_2 _
theorem or_7 (z:Int):bits .or .u64 (lowD (z / 18446744073709551616) 3) (digs z 7*281474976710656)=lowD (z / 18446744073709551616) 4:=by rw [digs_hi z 3];exact or_3 _
theorem wide_calls (z:Int) (w:World):Calls Tryz.prog 143 #[bigV z] w (Ret (wideV z) w):=by
 go_enter Tryz.func143,Tryz.ntmps143
 go_wp2
 go_loopw [3,4,6] (fun a b i wr=>∃ k:Nat,k≤4∧i = .int .i64 k∧a = .int .u64 (lowD z k)∧b = .int .u64 (lowD (z / 18446744073709551616) k)∧Below w.heap.size w wr∧Blk8 wr w.heap.size (digs z)∧There wr (w.heap.size+1) 2) (fun _ _ i _=>4-(intOf i).toNat)
 case atStart =>
  exact ⟨0,by omega,rfl,by rw [lowD_zero],by rw [lowD_zero],by go_grown,(Blk8.here w _ (digs z)).alloc (by simp) _,fun j hj=>match j,hj with | 0,_=>⟨⟨_,by go_simp;rfl⟩,by go_simp⟩ | 1,_=>⟨⟨_,by go_simp;rfl⟩,by go_simp⟩⟩
 case round =>
  obtain ⟨k,hk,rfl,rfl,rfl,hB,hA,hT⟩:=hrel
  by_cases hlt:k<4
  ·have b1 := lowD_bd z k
   have b2:=lowD_bd (z / 18446744073709551616) k
   have c1:=hA.cell k (by omega)
   have c2:=hA.cell (4+k) (by omega)
   have d1:=digs_nonneg z k
   have d2:=digs_lt z k
   have d3:=digs_nonneg z (4+k)
   have d4:=digs_lt z (4+k)
   have HA:=hid hA
   have HT:=hid hT
   clear hA hT
   obtain rfl | rfl | rfl | rfl:k=0∨k=1∨k=2∨k=3:=by omega
   all_goals
    simp only [Int.reducePow,Nat.reduceAdd] at b1 b2 c1 c2 d1 d2 d3 d4
    go_wp2
   ·exact ⟨⟨1,by omega,rfl,by rw [or_0],by rw [or_4],hB,HA.out,HT.out⟩,by simp [intOf]⟩
   ·exact ⟨⟨2,by omega,rfl,by rw [or_1],by rw [or_5],hB,HA.out,HT.out⟩,by simp [intOf]⟩
   ·exact ⟨⟨3,by omega,rfl,by rw [or_2],by rw [or_6],hB,HA.out,HT.out⟩,by simp [intOf]⟩
   ·exact ⟨⟨4,by omega,rfl,by rw [or_3],by rw [or_7],hB,HA.out,HT.out⟩,by simp [intOf]⟩
  ·obtain rfl : k = 4 := by omega
   obtain ⟨z0,z1,y0,y1,f0,f1⟩:=hT.get2
   have hlt2:=lt_of_cell y0
   have hHi:=hid (show wrap64 (lowD (z / 18446744073709551616) 4)=hiW z by simp only [lowD,hiW,Int.reducePow];unfold wrap64;omega)
   have hLo:=hid (show lowD z 4=loW z by simp only [lowD,loW,Int.reducePow])
   clear hA hT
   go_wp2
   refine bodyPost_ret (v:=wideV z) (by simp [results,Tryz.results143,go_sem,y0,y1,hlt2,hLo.out,hHi.out]) rfl ⟨rfl,?_⟩
   go_grown
theorem Blk8.sets8 {w:World} {g:Nat} {p o:Nat→Int} (h:Blk8 w g p):Blk8 ((((((((w.setCell ⟨g,0,none⟩ (.int .u32 (o 0))).setCell ⟨g,1,none⟩ (.int .u32 (o 1))).setCell ⟨g,2,none⟩ (.int .u32 (o 2))).setCell ⟨g,3,none⟩ (.int .u32 (o 3))).setCell ⟨g,4,none⟩ (.int .u32 (o 4))).setCell ⟨g,5,none⟩ (.int .u32 (o 5))).setCell ⟨g,6,none⟩ (.int .u32 (o 6))).setCell ⟨g,7,none⟩ (.int .u32 (o 7))) g o:=by
 have h0:=h.set (k:=0) (o':=part o p 1) (v:=o 0) (by omega) rfl (fun j hj=>by rw [part_ne _ _ _ _ hj];exact part_zero _ _ _)
 have h1:=h0.set (k:=1) (o':=part o p 2) (v:=o 1) (by omega) rfl (fun j hj=>part_ne _ _ _ _ hj)
 have h2:=h1.set (k:=2) (o':=part o p 3) (v:=o 2) (by omega) rfl (fun j hj=>part_ne _ _ _ _ hj)
 have h3:=h2.set (k:=3) (o':=part o p 4) (v:=o 3) (by omega) rfl (fun j hj=>part_ne _ _ _ _ hj)
 have h4:=h3.set (k:=4) (o':=part o p 5) (v:=o 4) (by omega) rfl (fun j hj=>part_ne _ _ _ _ hj)
 have h5:=h4.set (k:=5) (o':=part o p 6) (v:=o 5) (by omega) rfl (fun j hj=>part_ne _ _ _ _ hj)
 have h6:=h5.set (k:=6) (o':=part o p 7) (v:=o 6) (by omega) rfl (fun j hj=>part_ne _ _ _ _ hj)
 have h7:=h6.set (k:=7) (o':=part o p 8) (v:=o 7) (by omega) rfl (fun j hj=>part_ne _ _ _ _ hj)
 exact h7.congr fun j hj=>part_full _ _ _ _ hj
theorem Blk8.far8 {w:World} {g b:Nat} {o:Nat→Int} {v0 v1 v2 v3 v4 v5 v6 v7:Value} (h:Blk8 w g o) (hb:b≠g):Blk8 ((((((((w.setCell ⟨b,0,none⟩ v0).setCell ⟨b,1,none⟩ v1).setCell ⟨b,2,none⟩ v2).setCell ⟨b,3,none⟩ v3).setCell ⟨b,4,none⟩ v4).setCell ⟨b,5,none⟩ v5).setCell ⟨b,6,none⟩ v6).setCell ⟨b,7,none⟩ v7) g o :=
 (((((((h.far hb _).far hb _).far hb _).far hb _).far hb _).far hb _).far hb _).far hb _
theorem Blk8.fresh {w:World} {g:Nat} {t:TypeId} (hg:g=w.heap.size):Blk8 (w.alloc (.cells #[.int .u32 0,.int .u32 0,.int .u32 0,.int .u32 0,.int .u32 0,.int .u32 0,.int .u32 0,.int .u32 0] t)) g (fun _=>0):=by
 subst hg
 exact Blk8.here w t (fun _=>0)
theorem Blk8.lit {w:World} {g:Nat} {o:Nat→Int} {t:TypeId} (hg:g=w.heap.size):Blk8 (w.alloc (.cells #[.int .u32 (o 0),.int .u32 (o 1),.int .u32 (o 2),.int .u32 (o 3),.int .u32 (o 4),.int .u32 (o 5),.int .u32 (o 6),.int .u32 (o 7)] t)) g o:=by
 subst hg
 exact Blk8.here w t o
theorem Blk8.later {w:World} {g:Nat} {o:Nat→Int} (h:Blk8 w g o) (x:Obj):Blk8 (w.alloc x) g o:=h.alloc h.lt x
theorem bfloor_calls (z n:Int) (h1 : -170141183460469231731687303715884105728≤z) (h2:z<170141183460469231731687303715884105728) (hn:0<n) (hn2:n≤4611686018427387904) (w:World) :
    Calls Tryz.prog 189 #[bigV z,.int .i64 n] w (Ret (.tuple #[.int .i64 (floorQ z n),.bool (floorOk z n)]) w):=by
  obtain ⟨M,hM⟩:∃ M,M=magF z:=⟨_,rfl⟩
  have hMb:=magF_bd h1 h2
  rw [← hM] at hMb
  have hMM:=hid hM
  have R:=hid (And.intro h1 h2)
  have RM:=hid hMb
  clear h1 h2 hM hMb
  obtain ⟨W,hW⟩:∃ W,W=w.alloc (.cells (#[.int .u32 (digs z 0),.int .u32 (digs z 1),.int .u32 (digs z 2),.int .u32 (digs z 3),.int .u32 (digs z 4),.int .u32 (digs z 5),.int .u32 (digs z 6),.int .u32 (digs z 7)]) 168):=⟨_,rfl⟩
  have hA:Blk8 W w.heap.size (digs z):=by subst hW;exact Blk8.here w _ (digs z)
  have hB:Below w.heap.size w W:=by subst hW;go_grown
  obtain ⟨a0,a1,a2,a3,a4,a5,a6,a7⟩:=hA.all
  have HA:=hid hA
  clear hA
  go_enter Tryz.func189,Tryz.ntmps189
  go_wp2_with fail
  rw [← hW]
  have HW:=hid hW
  clear hW
  refine (below_calls z _ R.out.1 R.out.2).mono ?_
  rintro e w1 ⟨rfl,hb1⟩
  obtain ⟨ng,hng⟩:∃ ng,ng=decide (z<0):=⟨_,rfl⟩
  rw [← hng]
  have HNG:=hid hng
  clear hng
  have hA1:=HA.out.below hb1 HA.out.lt
  have hB1:=hB.trans (hb1.mono hB.size)
  clear a0 a1 a2 a3 a4 a5 a6 a7
  go_upto_if 14 with fail
  go_cut [] from 15 (fun wx=>Below w.heap.size w wx∧Blk8 wx w.heap.size (digs M))
  case first =>
    cases ng with
    | false =>
      have hz:=of_decide_eq_false HNG.out.symm
      have hMz:M=z:=by rw [hMM.out,magF,if_neg hz]
      clear hn hn2
      go_wp2_with fail
      go_meet
      exact ⟨hB1,hMz ▸ hA1⟩
    | true =>
      have hz:=hid (of_decide_eq_true HNG.out.symm)
      have hMz:=hid (show -z-1=M by rw [hMM.out,magF,if_pos hz.out])
      obtain ⟨a0,a1,a2,a3,a4,a5,a6,a7⟩:=hA1.all
      have HA1:=hid hA1
      clear hA1
      go_wp2_with fail
      refine (neg_calls z _).mono ?_
      rintro e w2 ⟨rfl,hb2⟩
      have hA2:=hid (HA1.out.below hb2 HA1.out.lt)
      have hB2:=hB1.trans (hb2.mono hB1.size)
      clear a0 a1 a2 a3 a4 a5 a6 a7
      go_wp2_with fail
      refine (of_calls 1 (by omega) (by omega) _).mono ?_
      rintro e w3 ⟨rfl,hb3⟩
      have hA3:=hid (hA2.out.below hb3 hA2.out.lt)
      have hB3:=hB2.trans (hb3.mono hB2.size)
      go_wp2_with fail
      refine (bsub_calls (-z) 1 _).mono ?_
      rintro e w4 ⟨rfl,hb4⟩
      have hA4:=hA3.out.below hb4 hA3.out.lt
      have hB4:=hB3.trans (hb4.mono hB3.size)
      obtain ⟨a0,a1,a2,a3,a4,a5,a6,a7⟩:=hA4.all
      have af:=hA4.free
      have HA4:=hid hA4
      clear hA4
      rw [hMz.out]
      go_wp2_with fail
      go_meet
      exact ⟨by go_grown,HA4.out.sets8⟩
  case rest =>
    obtain ⟨hB2,hA2⟩:=hcut
    have HA2:=hid hA2
    clear hA2 hb1 hB1 hA1 hB
    go_wp2_with fail
    refine (of_calls n (by omega) (by omega) _).mono ?_
    rintro e w2 ⟨rfl,hb2⟩
    have hQ0:=qk_top (n:=n) RM.out.1 RM.out.2
    have hq0:Blk8 w2 wc.heap.size (digs (qk M n 128)):=by
      rw [hQ0.1]
      exact (((Blk8.fresh rfl:Blk8 (wc.alloc _) wc.heap.size _).later _).below hb2 (by simp;omega)).congr fun j _=>by simp [digs]
    have hr0:Blk8 w2 (wc.heap.size+1) (digs (rk M n 128)):=by
      rw [hQ0.2]
      exact ((Blk8.fresh (by simp):Blk8 ((wc.alloc _).alloc _) (wc.heap.size+1) _).below hb2 (by simp)).congr fun j _=>by simp [digs]
    have hA3:Blk8 w2 w.heap.size (digs M):=((HA2.out.later _).later _).below hb2 (Nat.lt_of_lt_of_le HA2.out.lt (by simp;omega))
    have hB3:Below w.heap.size w w2:=((hB2.alloc hB2.size _).alloc (Nat.le_trans hB2.size (by simp)) _).trans (hb2.mono (Nat.le_trans hB2.size (by simp;omega)))
    have hz1:w.heap.size<wc.heap.size:=HA2.out.lt
    have hz2:wc.heap.size+1<w2.heap.size:=by have:=hb2.size;simp at this;omega
    clear hb2 hQ0
    go_wp2_with fail
    have hq1:=hq0.later (.cells #[.int .u32 (digs n 0),.int .u32 (digs n 1),.int .u32 (digs n 2),.int .u32 (digs n 3),.int .u32 (digs n 4),.int .u32 (digs n 5),.int .u32 (digs n 6),.int .u32 (digs n 7)] 168)
    have hr1:=hr0.later (.cells #[.int .u32 (digs n 0),.int .u32 (digs n 1),.int .u32 (digs n 2),.int .u32 (digs n 3),.int .u32 (digs n 4),.int .u32 (digs n 5),.int .u32 (digs n 6),.int .u32 (digs n 7)] 168)
    have hA4:=hA3.later (.cells #[.int .u32 (digs n 0),.int .u32 (digs n 1),.int .u32 (digs n 2),.int .u32 (digs n 3),.int .u32 (digs n 4),.int .u32 (digs n 5),.int .u32 (digs n 6),.int .u32 (digs n 7)] 168)
    have hd1:=Blk8.here w2 168 (digs n)
    have hB4:=hB3.alloc hB3.size (.cells #[.int .u32 (digs n 0),.int .u32 (digs n 1),.int .u32 (digs n 2),.int .u32 (digs n 3),.int .u32 (digs n 4),.int .u32 (digs n 5),.int .u32 (digs n 6),.int .u32 (digs n 7)] 168)
    generalize w2.alloc (.cells #[.int .u32 (digs n 0),.int .u32 (digs n 1),.int .u32 (digs n 2),.int .u32 (digs n 3),.int .u32 (digs n 4),.int .u32 (digs n 5),.int .u32 (digs n 6),.int .u32 (digs n 7)] 168)=w3 at *
    generalize hgd:w2.heap.size=gd at *
    generalize hgq:wc.heap.size=gq at *
    clear hq0 hr0 hA3 hB3 hgd hgq hB2 HA2
    have HQ1:=hid hq1
    have HR1:=hid hr1
    have HA1:=hid hA4
    have HD1:=hid hd1
    clear hq1 hr1 hA4 hd1
    go_loopw [10] (fun i wr=>∃ k:Nat,k≤128∧i = .int .i64 ((k:Int)-1)∧Blk8 wr w.heap.size (digs M)∧Blk8 wr gq (digs (qk M n k))∧Blk8 wr (gq+1) (digs (rk M n k))∧Blk8 wr gd (digs n)∧Below w.heap.size w wr) (fun i _=>(intOf i+1).toNat)
    case atStart=>exact ⟨128,by omega,rfl,HA1.out,HQ1.out,HR1.out,HD1.out,hB4⟩
    case round =>
      clear HQ1 HR1 HA1 HD1 hB4
      obtain ⟨k,hk,rfl,hA,hQ,hR,hD,hB⟩:=hrel
      obtain ⟨wo,rfl⟩:∃ wo:World,wo=wr:=⟨_,rfl⟩
      by_cases hk0:k=0
      · subst hk0
        obtain ⟨Q,hQe⟩:∃ Q,Q=M / n:=⟨_,rfl⟩
        have hQb:=qk_bd RM.out.1 RM.out.2 hn 0
        rw [qk_zero,← hQe] at hQ hQb
        have HQ:=hid hQ
        have HQe:=hid hQe
        have hmi:(((0:Nat):Int)-1) = -1:=rfl
        rw [hmi]
        clear hA hQ hR hD hQe hmi
        obtain ⟨t,ht⟩:∃ t:Int,t=4611686018427387904:=⟨_,rfl⟩
        have HOf:∀ w:World,Calls Tryz.prog 133 #[.int .i64 4611686018427387904] w (Ret (bigV t) w):=by
          intro w
          rw [← ht]
          exact of_calls t (by omega) (by omega) w
        have ht1:4611686018427387904≤t:=by omega
        have ht2:t≤4611686018427387904:=by omega
        clear ht
        go_wp2_with fail
--R13--
        refine wp_region_noPanic ?_
        refine wp_region_T (S:=(S2 (fun w'=>Blk8 w' (gq) (digs Q)∧Below w.heap.size w w'))) (T:=(fun _=>0)) (by kernel_rfl) (S2i0 ⟨HQ.out.drew,hB.drew⟩) (fun hH=>?_)
        have hWr3:Weaker (S2 (fun w'=>Blk8 w' (gq) (digs Q)∧Below w.heap.size w w')):=weaker2 _
        refine T_take 0 51 4 0 (v:=?vr3_1) rfl (by kernel_rfl) (by kernel_rfl) hWr3 (by kernel_rfl) (by kernel_rfl) (by kernel_rfl) (by kernel_rfl) (by kernel_rfl) (by kernel_rfl) (fun _ _ _ _ h=>h) (by kernel_rfl) ?hyr3_1 hH ?_
        case hyr3_1=>(intro w' hSw;replace hSw:=S2o0 hSw;(try dsimp only at hSw);have q0:=hSw.1;have q1:=hSw.2;obtain ⟨qa0_0,qa0_1,qa0_2,qa0_3,qa0_4,qa0_5,qa0_6,qa0_7⟩:=Blk8.all q0;go_simp;try (with_reducible rfl))
        simp only [sB,sC]
        refine wpAnyT_ready (rs:=[1]) (by kernel_rfl) (by simp) ?_
        refine AllReadyT.cons 0 (by kernel_rfl) (o:=_) rfl (fun K hK=>?_) AllReadyT.nil
        go_simp
        (go_at_call 133;refine (HOf _).mono ?_;rintro e w8 ⟨rfl,hb⟩)
        refine hK.out _ _ ?hsr3_2 (fun hH2=>?hrr3_2)
        case hsr3_2=>exact S2i0 (by have hG:=hH;replace hG:=S2o0 hG;(try dsimp only at hG);have q0:=hG.1;have q1:=hG.2;exact ⟨keepBlk hb q0,keepBelow hb q1⟩)
        clear hK K hH
        have hH:=hH2
        clear hH2
        try simp only [Act.put,sA,sB,sC]
        refine wpAnyT_ready (rs:=[2]) (by kernel_rfl) (by simp) ?_
        refine AllReadyT.cons 0 (by kernel_rfl) (o:=_) rfl (fun K hK=>?_) AllReadyT.nil
        clear hb
        go_simp
        (go_at_call 188;refine (twice_calls t _).mono ?_;rintro e w9 ⟨rfl,hb⟩)
        refine hK.out _ _ ?hsr3_3 (fun hH2=>?hrr3_3)
        case hsr3_3=>exact S2i0 (by have hG:=hH;replace hG:=S2o0 hG;(try dsimp only at hG);have q0:=hG.1;have q1:=hG.2;exact ⟨keepBlk hb q0,keepBelow hb q1⟩)
        clear hK K hH
        have hH:=hH2
        clear hH2
        try simp only [Act.put,sA,sB,sC]
        refine wpAnyT_ready (rs:=[3]) (by kernel_rfl) (by simp) ?_
        refine AllReadyT.cons 0 (by kernel_rfl) (o:=_) rfl (fun K hK=>?_) AllReadyT.nil
        clear hb
        go_simp
        (go_at_call 132;refine (bcmp_calls Q (t+t) (by omega) (by omega) (by omega) (by omega) _).mono ?_;rintro e w10 ⟨rfl,hb⟩)
        refine hK.out _ _ ?hsr3_4 (fun hH2=>?hrr3_4)
        case hsr3_4=>exact S2i0 (by have hG:=hH;replace hG:=S2o0 hG;(try dsimp only at hG);have q0:=hG.1;have q1:=hG.2;exact ⟨keepBlk hb q0,keepBelow hb q1⟩)
        clear hK K hH
        have hH:=hH2
        clear hH2
        try simp only [Act.put,sA,sB,sC]
        refine T_take 4 55 0 0 (v:=?vr3_5) rfl (by kernel_rfl) (by kernel_rfl) hWr3 (by kernel_rfl) (by kernel_rfl) (by kernel_rfl) (by kernel_rfl) (by kernel_rfl) (by kernel_rfl) (fun _ _ _ _ h=>h) (by kernel_rfl) ?hyr3_5 hH ?_
        case hyr3_5=>(intro w' hSw;clear hSw;go_simp;try (with_reducible rfl))
        simp only [sB,sC]
        refine wpAnyT_done (by kernel_rfl) ?_ _
        refine NoPanic.normal ?_
        clear hWr3
        replace hH:=S2o0 hH
        (try dsimp only at hH)
        have q0:=hH.1
        have q1:=hH.2
--R13end--
        have hB9:Below w.heap.size w w10:=q1
        have HQ9:=hid q0
        clear q0 q1
        by_cases hL:9223372036854775808≤Q
        · have hc : 0 ≤ cmpZ Q (t + t) := cmpZ_nonneg.2 (by omega)
          go_wp2
          go_returns
          refine ret_val ?_ hB9
          rw [floorQ_large hn (by rw [← hMM.out,← HQe.out];exact hL),floor_large hn (by rw [← hMM.out,← HQe.out];exact hL)]
          rfl
        · have hc : cmpZ Q (t + t) < 0 := cmpZ_neg.2 (by omega)
          have hfo:=hid (floor_small (z:=z) hn (by rw [← hMM.out,← HQe.out];omega) (by rw [← hMM.out,← HQe.out];omega))
          have hfq:=hid (floorQ_small (z:=z) hn (by rw [← hMM.out,← HQe.out];omega) (by rw [← hMM.out,← HQe.out];omega))
          have hwl:IntKind.i64.wrap (loW Q)=Q:=by rw [IntKind.wrap_i64];unfold loW;omega
          obtain ⟨q0,q1,q2,q3,q4,q5,q6,q7⟩:=HQ9.out.all
          go_wp2_with fail
          refine (wide_calls Q _).mono ?_
          rintro e w11 ⟨rfl,hb11⟩
          have hB11:=keepBelow hb11 hB9
          have hfld:∀ w:World,(Instr.field 116 (wideV Q) 1).run Tryz.prog w = .ok (.int .u64 (loW Q)) w:=fun w=>by kernel_rfl
          cases ng with
          | true =>
            have hz:=of_decide_eq_true HNG.out.symm
            go_wp2
            go_returns
            refine ret_val ?_ hB11
            rw [hfo.out,hfq.out,if_pos hz,← hMM.out,← HQe.out]
            rfl
          | false =>
            have hz:=of_decide_eq_false HNG.out.symm
            go_wp2
            go_returns
            refine ret_val ?_ hB11
            rw [hfo.out,hfq.out,if_neg (by omega),← hMM.out,← HQe.out]
            rfl
      · obtain ⟨m, rfl⟩ : ∃ m, k = m + 1 := ⟨k - 1, by omega⟩
        clear hk0
        have hmi:(((m+1:Nat):Int)-1)=(m:Int):=by omega
        rw [hmi]
        obtain ⟨q,hq⟩:∃ q,q=qk M n (m+1):=⟨_,rfl⟩
        obtain ⟨r,hr⟩:∃ r,r=rk M n (m+1):=⟨_,rfl⟩
        rw [← hq] at hQ
        rw [← hr] at hR
        have HQe:=hid hq
        have HRe:=hid hr
        obtain ⟨q0,q1,q2,q3,q4,q5,q6,q7⟩:=hQ.all
        obtain ⟨r0,r1,r2,r3,r4,r5,r6,r7⟩:=hR.all
        have HA:=hid hA
        have HQ:=hid hQ
        have HR:=hid hR
        have HD:=hid hD
        have hqf:=hQ.free
        have hrf:=hR.free
        clear hA hQ hR hD hq hr hmi
        have hl1:=HQ.out.lt
        have hl2:=HR.out.lt
        go_upto_region 9 with fail
        go_cut [25] from 25 to 28 (fun t wx=>Below w.heap.size w wx∧Blk8 wx w.heap.size (digs M)∧Blk8 wx gq (digs (q+q))∧Blk8 wx (gq+1) (digs (r+r))∧Blk8 wx gd (digs n))
        case first =>
--R9--
          refine wp_region_noPanic ?_
          refine wp_region_T (S:=(S3 (fun w'=>Blk8 w' (w.heap.size) (digs M)∧Blk8 w' (gq) (digs q)∧Blk8 w' (gq+1) (digs r)∧Blk8 w' (gd) (digs n)∧Below w.heap.size w w') (fun w'=>Blk8 w' (w.heap.size) (digs M)∧Blk8 w' (gq) (digs q)∧Blk8 w' (gd) (digs n)∧Below w.heap.size w w'))) (T:=(fun j=>[0,0,0,0,1,2].getD j 0)) (by kernel_rfl) (S3i0 ⟨HA.out.drew,HQ.out.drew,HR.out.drew,HD.out.drew,hB.drew⟩) (fun hH=>?_)
          have hWr1:Weaker (S3 (fun w'=>Blk8 w' (w.heap.size) (digs M)∧Blk8 w' (gq) (digs q)∧Blk8 w' (gq+1) (digs r)∧Blk8 w' (gd) (digs n)∧Below w.heap.size w w') (fun w'=>Blk8 w' (w.heap.size) (digs M)∧Blk8 w' (gq) (digs q)∧Blk8 w' (gd) (digs n)∧Below w.heap.size w w')):=weaker3 (fun _ ⟨q0,q1,q2,q3,q4⟩=>⟨q0,q1,q3,q4⟩)
          refine T_take 0 25 5 0 (v:=?vr1_1) rfl (by kernel_rfl) (by kernel_rfl) hWr1 (by kernel_rfl) (by kernel_rfl) (by kernel_rfl) (by kernel_rfl) (by kernel_rfl) (by kernel_rfl) (fun _ _ _ _ h=>h) (by kernel_rfl) ?hyr1_1 hH ?_
          case hyr1_1=>(intro w' hSw;replace hSw:=S3o0 hSw;(try dsimp only at hSw);have q0:=hSw.1;have q1:=hSw.2.1;have q2:=hSw.2.2.1;have q3:=hSw.2.2.2.1;have q4:=hSw.2.2.2.2;obtain ⟨qa0_0,qa0_1,qa0_2,qa0_3,qa0_4,qa0_5,qa0_6,qa0_7⟩:=Blk8.all q0;obtain ⟨qa1_0,qa1_1,qa1_2,qa1_3,qa1_4,qa1_5,qa1_6,qa1_7⟩:=Blk8.all q1;obtain ⟨qa2_0,qa2_1,qa2_2,qa2_3,qa2_4,qa2_5,qa2_6,qa2_7⟩:=Blk8.all q2;obtain ⟨qa3_0,qa3_1,qa3_2,qa3_3,qa3_4,qa3_5,qa3_6,qa3_7⟩:=Blk8.all q3;go_simp;try (with_reducible rfl))
          simp only [sB,sC]
          refine T_take 2 27 4 0 (v:=?vr1_2) rfl (by kernel_rfl) (by kernel_rfl) hWr1 (by kernel_rfl) (by kernel_rfl) (by kernel_rfl) (by kernel_rfl) (by kernel_rfl) (by kernel_rfl) (fun _ _ _ _ h=>h) (by kernel_rfl) ?hyr1_2 hH ?_
          case hyr1_2=>(intro w' hSw;replace hSw:=S3o0 hSw;(try dsimp only at hSw);have q0:=hSw.1;have q1:=hSw.2.1;have q2:=hSw.2.2.1;have q3:=hSw.2.2.2.1;have q4:=hSw.2.2.2.2;obtain ⟨qa0_0,qa0_1,qa0_2,qa0_3,qa0_4,qa0_5,qa0_6,qa0_7⟩:=Blk8.all q0;obtain ⟨qa1_0,qa1_1,qa1_2,qa1_3,qa1_4,qa1_5,qa1_6,qa1_7⟩:=Blk8.all q1;obtain ⟨qa2_0,qa2_1,qa2_2,qa2_3,qa2_4,qa2_5,qa2_6,qa2_7⟩:=Blk8.all q2;obtain ⟨qa3_0,qa3_1,qa3_2,qa3_3,qa3_4,qa3_5,qa3_6,qa3_7⟩:=Blk8.all q3;go_simp;try (with_reducible rfl))
          simp only [sB,sC]
          refine wpAnyT_ready (rs:=[1]) (by kernel_rfl) (by simp) ?_
          refine AllReadyT.cons 0 (by kernel_rfl) (o:=_) rfl (fun K hK=>?_) AllReadyT.nil
          go_simp
          (go_at_call 188;refine (twice_calls r _).mono ?_;rintro e w4 ⟨rfl,hb⟩)
          refine hK.out _ _ ?hsr1_3 (fun hH2=>?hrr1_3)
          case hsr1_3=>exact S3i0 (by have hG:=hH;replace hG:=S3o0 hG;(try dsimp only at hG);have q0:=hG.1;have q1:=hG.2.1;have q2:=hG.2.2.1;have q3:=hG.2.2.2.1;have q4:=hG.2.2.2.2;exact ⟨keepBlk hb q0,keepBlk hb q1,keepBlk hb q2,keepBlk hb q3,keepBelow hb q4⟩)
          clear hK K hH
          have hH:=hH2
          clear hH2
          try simp only [Act.put,sA,sB,sC]
          refine wpAnyT_ready (rs:=[3]) (by kernel_rfl) (by simp) ?_
          refine AllReadyT.cons 0 (by kernel_rfl) (o:=_) rfl (fun K hK=>?_) AllReadyT.nil
          clear hb
          go_simp
          (go_at_call 188;refine (twice_calls q _).mono ?_;rintro e w5 ⟨rfl,hb⟩)
          refine hK.out _ _ ?hsr1_4 (fun hH2=>?hrr1_4)
          case hsr1_4=>exact S3i0 (by have hG:=hH;replace hG:=S3o0 hG;(try dsimp only at hG);have q0:=hG.1;have q1:=hG.2.1;have q2:=hG.2.2.1;have q3:=hG.2.2.2.1;have q4:=hG.2.2.2.2;exact ⟨keepBlk hb q0,keepBlk hb q1,keepBlk hb q2,keepBlk hb q3,keepBelow hb q4⟩)
          clear hK K hH
          have hH:=hH2
          clear hH2
          try simp only [Act.put,sA,sB,sC]
          refine wpAnyT_ready (rs:=[4]) (by kernel_rfl) (by simp) ?_
          refine AllReadyT.cons 1 (by kernel_rfl) (o:=_) rfl (fun K hK=>?_) AllReadyT.nil
          have hG:=hH
          replace hG:=S3o0 hG;(try dsimp only at hG);have q0:=hG.1;have q1:=hG.2.1;have q2:=hG.2.2.1;have q3:=hG.2.2.2.1;have q4:=hG.2.2.2.2;obtain ⟨qa1_0,qa1_1,qa1_2,qa1_3,qa1_4,qa1_5,qa1_6,qa1_7⟩:=Blk8.all q1;obtain ⟨qa2_0,qa2_1,qa2_2,qa2_3,qa2_4,qa2_5,qa2_6,qa2_7⟩:=Blk8.all q2
          have qf:=q2.free
          have qf1:=q1.free
          go_simp
          refine hK.out _ _ ?hsr1_5 (fun hH2=>?hrr1_5)
          case hsr1_5=>exact S3i1 ⟨q0.far8 (by omega),q1.far8 (by omega),q3.far8 (by omega),by go_grown⟩
          clear hK K hH
          have hH:=hH2
          clear hH2
          try simp only [Act.put,sA,sB,sC]
          refine wpAnyT_ready (rs:=[5]) (by kernel_rfl) (by simp) ?_
          refine AllReadyT.cons 2 (by kernel_rfl) (o:=_) rfl (fun K hK=>?_) AllReadyT.nil
          go_simp
          refine hK.out _ _ ?hsr1_6 (fun hH2=>?hrr1_6)
          case hsr1_6=>exact S3i2
          clear hK K hH
          have hH:=hH2
          clear hH2
          try simp only [Act.put,sA,sB,sC]
          refine wpAnyT_done (by kernel_rfl) ?_ _
          refine NoPanic.normal ?_
          clear hWr1
          go_wp2_with fail
          go_meet
          exact ⟨by go_grown,(q0.far8 (by omega)).far8 (by omega),(q1.far8 (by omega)).sets8,q2.sets8.far8 (by omega),(q3.far8 (by omega)).far8 (by omega)⟩
--R9end--
        case rest =>
          obtain ⟨hB5,hA5,hQ5,hR5,hD5⟩:=hcut
          clear hqf hrf q0 q1 q2 q3 q4 q5 q6 q7 r0 r1 r2 r3 r4 r5 r6 r7 HA HQ HR HD hl1 hl2 hB
          have hm16:m / 16<8:=by omega
          have hc:=hA5.cell (m / 16) hm16
          have hbit:=hid (digit_and M m)
          have hor:=hid (even_or r (bk M m) (bk_bd M m))
          have hc0:=hR5.cell 0 (by omega)
          have hf0:=hR5.free
          have i1:(m:Int) / 16<8:=by omega
          have i2:0≤(m:Int) / 16:=by omega
          have i3:((m:Int) / 16).toNat=m / 16:=by omega
          have i4:0≤(m:Int) % 16:=by omega
          have i5:((m:Int) % 16).toNat=m % 16:=by omega
          have d0:=digs_nonneg M (m / 16)
          have HA5:=hid hA5
          have HQ5:=hid hQ5
          have HR5:=hid hR5
          have HD5:=hid hD5
          clear hA5 hQ5 hR5 hD5
          go_wp2_with fail
          go_region
          rw [hbit.out,hor.out]
          obtain ⟨s,hs⟩:∃ s,s=r+r+bk M m:=⟨_,rfl⟩
          have hb1:=bk_bd M m
          have hr1:=rk_bd M hn (m+1)
          rw [← HRe.out] at hr1
          have hs0:0≤s∧s≤9223372036854775807:=by omega
          have hR6:Blk8 (wc.setCell ⟨gq+1,0,none⟩ (.int .u32 (digs (r+r+bk M m) 0))) (gq+1) (digs s):=HR5.out.set (by omega) (by rw [hs]) (fun j hj=>by rw [hs];exact even_digs _ _ hb1 j hj)
          have hA6:Blk8 (wc.setCell ⟨gq+1,0,none⟩ (.int .u32 (digs (r+r+bk M m) 0))) w.heap.size (digs M):=HA5.out.far (by show gq+1≠_;omega) _
          have hQ6:Blk8 (wc.setCell ⟨gq+1,0,none⟩ (.int .u32 (digs (r+r+bk M m) 0))) gq (digs (q+q)):=HQ5.out.far (by show gq+1≠_;omega) _
          have hD6:Blk8 (wc.setCell ⟨gq+1,0,none⟩ (.int .u32 (digs (r+r+bk M m) 0))) gd (digs n):=HD5.out.far (by show gq+1≠_;omega) _
          have hB6:Below w.heap.size w (wc.setCell ⟨gq+1,0,none⟩ (.int .u32 (digs (r+r+bk M m) 0))):=hB5.setCell (by show w.heap.size≤gq+1;omega) _
          have HS:=hid hs
          have hR7:=hR6.drew
          have hA7:=hA6.drew
          have hQ7:=hQ6.drew
          have hD7:=hD6.drew
          have hB7:=hB6.drew
          clear hR6 hA6 hQ6 hD6 hB6 HA5 HQ5 HR5 HD5 hs hB5 hc hc0 hf0 i1 i2 i3 i4 i5 d0 hbit hor hb1 hr1
          generalize (wc.setCell ⟨gq+1,0,none⟩ (.int .u32 (digs (r+r+bk M m) 0))).drew=w6 at *
          obtain ⟨r0,r1,r2,r3,r4,r5,r6,r7⟩:=hR7.all
          obtain ⟨d0,d1,d2,d3,d4,d5,d6,d7⟩:=hD7.all
          have HA6:=hid hA7
          have HQ6:=hid hQ7
          have HR6:=hid hR7
          have HD6:=hid hD7
          clear hA7 hQ7 hR7 hD7
          go_wp2_with fail
          refine (bcmp_calls s n (by omega) (by omega) (by omega) (by omega) _).mono ?_
          rintro e w7 ⟨rfl,hb7⟩
          clear r0 r1 r2 r3 r4 r5 r6 r7 d0 d1 d2 d3 d4 d5 d6 d7
          have HA7:=hid (keepBlk hb7 HA6.out)
          have HQ7:=hid (keepBlk hb7 HQ6.out)
          have HR7:=hid (keepBlk hb7 HR6.out)
          have HD7:=hid (keepBlk hb7 HD6.out)
          have hB8:=keepBelow hb7 hB7
          clear HA6 HQ6 HR6 HD6 hb7 hB7
          by_cases hge:n≤s
          · have hc : 0 ≤ cmpZ s n := cmpZ_nonneg.2 hge
            obtain ⟨hrk,hqk⟩:=step_ge (M:=M) (k:=m) hn (by rw [← HRe.out];have:=HS.out;omega)
            have hq2:qk M n m=q+q+1:=by rw [hqk,← HQe.out];omega
            have hr2:rk M n m=s-n:=by rw [hrk,← HRe.out,HS.out];omega
            have HQK:=hid hq2
            have HRK:=hid hr2
            clear hrk hqk hq2 hr2 hge
            go_wp2_with fail
--R12--
            refine wp_region_noPanic ?_
            refine wp_region_T (S:=(S3 (fun w'=>Blk8 w' (w.heap.size) (digs M)∧Blk8 w' (gq) (digs (q+q))∧Blk8 w' (gq+1) (digs s)∧Blk8 w' (gd) (digs n)∧Below w.heap.size w w') (fun w'=>Blk8 w' (w.heap.size) (digs M)∧Blk8 w' (gq) (digs (q+q))∧Blk8 w' (gd) (digs n)∧Below w.heap.size w w'))) (T:=(fun j=>[0,0,0,0,0,0,1,2].getD j 0)) (by kernel_rfl) (S3i0 ⟨HA7.out.drew,HQ7.out.drew,HR7.out.drew,HD7.out.drew,hB8.drew⟩) (fun hH=>?_)
            have hWr2:Weaker (S3 (fun w'=>Blk8 w' (w.heap.size) (digs M)∧Blk8 w' (gq) (digs (q+q))∧Blk8 w' (gq+1) (digs s)∧Blk8 w' (gd) (digs n)∧Below w.heap.size w w') (fun w'=>Blk8 w' (w.heap.size) (digs M)∧Blk8 w' (gq) (digs (q+q))∧Blk8 w' (gd) (digs n)∧Below w.heap.size w w')):=weaker3 (fun _ ⟨q0,q1,q2,q3,q4⟩=>⟨q0,q1,q3,q4⟩)
            refine T_take 0 45 7 0 (v:=?vr2_1) rfl (by kernel_rfl) (by kernel_rfl) hWr2 (by kernel_rfl) (by kernel_rfl) (by kernel_rfl) (by kernel_rfl) (by kernel_rfl) (by kernel_rfl) (fun _ _ _ _ h=>h) (by kernel_rfl) ?hyr2_1 hH ?_
            case hyr2_1=>(intro w' hSw;replace hSw:=S3o0 hSw;(try dsimp only at hSw);have q0:=hSw.1;have q1:=hSw.2.1;have q2:=hSw.2.2.1;have q3:=hSw.2.2.2.1;have q4:=hSw.2.2.2.2;obtain ⟨qa0_0,qa0_1,qa0_2,qa0_3,qa0_4,qa0_5,qa0_6,qa0_7⟩:=Blk8.all q0;obtain ⟨qa1_0,qa1_1,qa1_2,qa1_3,qa1_4,qa1_5,qa1_6,qa1_7⟩:=Blk8.all q1;obtain ⟨qa2_0,qa2_1,qa2_2,qa2_3,qa2_4,qa2_5,qa2_6,qa2_7⟩:=Blk8.all q2;obtain ⟨qa3_0,qa3_1,qa3_2,qa3_3,qa3_4,qa3_5,qa3_6,qa3_7⟩:=Blk8.all q3;go_simp;try (with_reducible rfl))
            simp only [sB,sC]
            refine T_take 1 46 6 0 (v:=?vr2_2) rfl (by kernel_rfl) (by kernel_rfl) hWr2 (by kernel_rfl) (by kernel_rfl) (by kernel_rfl) (by kernel_rfl) (by kernel_rfl) (by kernel_rfl) (fun _ _ _ _ h=>h) (by kernel_rfl) ?hyr2_2 hH ?_
            case hyr2_2=>(intro w' hSw;replace hSw:=S3o0 hSw;(try dsimp only at hSw);have q0:=hSw.1;have q1:=hSw.2.1;have q2:=hSw.2.2.1;have q3:=hSw.2.2.2.1;have q4:=hSw.2.2.2.2;obtain ⟨qa0_0,qa0_1,qa0_2,qa0_3,qa0_4,qa0_5,qa0_6,qa0_7⟩:=Blk8.all q0;obtain ⟨qa1_0,qa1_1,qa1_2,qa1_3,qa1_4,qa1_5,qa1_6,qa1_7⟩:=Blk8.all q1;obtain ⟨qa2_0,qa2_1,qa2_2,qa2_3,qa2_4,qa2_5,qa2_6,qa2_7⟩:=Blk8.all q2;obtain ⟨qa3_0,qa3_1,qa3_2,qa3_3,qa3_4,qa3_5,qa3_6,qa3_7⟩:=Blk8.all q3;go_simp;try (with_reducible rfl))
            simp only [sB,sC]
            refine T_take 3 48 5 0 (v:=?vr2_3) rfl (by kernel_rfl) (by kernel_rfl) hWr2 (by kernel_rfl) (by kernel_rfl) (by kernel_rfl) (by kernel_rfl) (by kernel_rfl) (by kernel_rfl) (fun _ _ _ _ h=>h) (by kernel_rfl) ?hyr2_3 hH ?_
            case hyr2_3=>(intro w' hSw;replace hSw:=S3o0 hSw;(try dsimp only at hSw);have q0:=hSw.1;have q1:=hSw.2.1;have q2:=hSw.2.2.1;have q3:=hSw.2.2.2.1;have q4:=hSw.2.2.2.2;obtain ⟨qa0_0,qa0_1,qa0_2,qa0_3,qa0_4,qa0_5,qa0_6,qa0_7⟩:=Blk8.all q0;obtain ⟨qa1_0,qa1_1,qa1_2,qa1_3,qa1_4,qa1_5,qa1_6,qa1_7⟩:=Blk8.all q1;obtain ⟨qa2_0,qa2_1,qa2_2,qa2_3,qa2_4,qa2_5,qa2_6,qa2_7⟩:=Blk8.all q2;obtain ⟨qa3_0,qa3_1,qa3_2,qa3_3,qa3_4,qa3_5,qa3_6,qa3_7⟩:=Blk8.all q3;go_simp;try (with_reducible rfl))
            simp only [sB,sC]
            refine wpAnyT_ready (rs:=[2]) (by kernel_rfl) (by simp) ?_
            refine AllReadyT.cons 0 (by kernel_rfl) (o:=_) rfl (fun K hK=>?_) AllReadyT.nil
            go_simp
            (go_at_call 142;refine (bsub_calls s n _).mono ?_;rintro e w8 ⟨rfl,hb⟩)
            refine hK.out _ _ ?hsr2_4 (fun hH2=>?hrr2_4)
            case hsr2_4=>exact S3i0 (by have hG:=hH;replace hG:=S3o0 hG;(try dsimp only at hG);have q0:=hG.1;have q1:=hG.2.1;have q2:=hG.2.2.1;have q3:=hG.2.2.2.1;have q4:=hG.2.2.2.2;exact ⟨keepBlk hb q0,keepBlk hb q1,keepBlk hb q2,keepBlk hb q3,keepBelow hb q4⟩)
            clear hK K hH
            have hH:=hH2
            clear hH2
            try simp only [Act.put,sA,sB,sC]
            refine wpAnyT_ready (rs:=[4]) (by kernel_rfl) (by simp) ?_
            refine AllReadyT.cons 0 (by kernel_rfl) (o:=_) rfl (fun K hK=>?_) AllReadyT.nil
            clear hb
            go_simp
            (go_at_call 133;refine (of_calls 1 (by omega) (by omega) _).mono ?_;rintro e w9 ⟨rfl,hb⟩)
            refine hK.out _ _ ?hsr2_5 (fun hH2=>?hrr2_5)
            case hsr2_5=>exact S3i0 (by have hG:=hH;replace hG:=S3o0 hG;(try dsimp only at hG);have q0:=hG.1;have q1:=hG.2.1;have q2:=hG.2.2.1;have q3:=hG.2.2.2.1;have q4:=hG.2.2.2.2;exact ⟨keepBlk hb q0,keepBlk hb q1,keepBlk hb q2,keepBlk hb q3,keepBelow hb q4⟩)
            clear hK K hH
            have hH:=hH2
            clear hH2
            try simp only [Act.put,sA,sB,sC]
            refine wpAnyT_ready (rs:=[5]) (by kernel_rfl) (by simp) ?_
            refine AllReadyT.cons 0 (by kernel_rfl) (o:=_) rfl (fun K hK=>?_) AllReadyT.nil
            clear hb
            go_simp
            (go_at_call 186;refine (add_calls (q+q) 1 _).mono ?_;rintro e w10 ⟨rfl,hb⟩)
            refine hK.out _ _ ?hsr2_6 (fun hH2=>?hrr2_6)
            case hsr2_6=>exact S3i0 (by have hG:=hH;replace hG:=S3o0 hG;(try dsimp only at hG);have q0:=hG.1;have q1:=hG.2.1;have q2:=hG.2.2.1;have q3:=hG.2.2.2.1;have q4:=hG.2.2.2.2;exact ⟨keepBlk hb q0,keepBlk hb q1,keepBlk hb q2,keepBlk hb q3,keepBelow hb q4⟩)
            clear hK K hH
            have hH:=hH2
            clear hH2
            try simp only [Act.put,sA,sB,sC]
            refine wpAnyT_ready (rs:=[6]) (by kernel_rfl) (by simp) ?_
            refine AllReadyT.cons 1 (by kernel_rfl) (o:=_) rfl (fun K hK=>?_) AllReadyT.nil
            have hG:=hH
            replace hG:=S3o0 hG;(try dsimp only at hG);have q0:=hG.1;have q1:=hG.2.1;have q2:=hG.2.2.1;have q3:=hG.2.2.2.1;have q4:=hG.2.2.2.2;obtain ⟨qa1_0,qa1_1,qa1_2,qa1_3,qa1_4,qa1_5,qa1_6,qa1_7⟩:=Blk8.all q1;obtain ⟨qa2_0,qa2_1,qa2_2,qa2_3,qa2_4,qa2_5,qa2_6,qa2_7⟩:=Blk8.all q2
            have qf:=q2.free
            have qf1:=q1.free
            go_simp
            refine hK.out _ _ ?hsr2_7 (fun hH2=>?hrr2_7)
            case hsr2_7=>exact S3i1 ⟨q0.far8 (by omega),q1.far8 (by omega),q3.far8 (by omega),by go_grown⟩
            clear hK K hH
            have hH:=hH2
            clear hH2
            try simp only [Act.put,sA,sB,sC]
            refine wpAnyT_ready (rs:=[7]) (by kernel_rfl) (by simp) ?_
            refine AllReadyT.cons 2 (by kernel_rfl) (o:=_) rfl (fun K hK=>?_) AllReadyT.nil
            go_simp
            refine hK.out _ _ ?hsr2_8 (fun hH2=>?hrr2_8)
            case hsr2_8=>exact S3i2
            clear hK K hH
            have hH:=hH2
            clear hH2
            try simp only [Act.put,sA,sB,sC]
            refine wpAnyT_done (by kernel_rfl) ?_ _
            refine NoPanic.normal ?_
            clear hWr2
            go_wp2_with fail
            exact ⟨⟨m,by omega,rfl,(q0.far8 (by omega)).far8 (by omega),by rw [HQK.out];exact (q1.far8 (by omega)).sets8,by rw [HRK.out];exact q2.sets8.far8 (by omega),(q3.far8 (by omega)).far8 (by omega),by go_grown⟩,by simp [intOf]⟩
--R12end--
          · have hc : cmpZ s n < 0 := cmpZ_neg.2 (by omega)
            obtain ⟨hrk,hqk⟩:=step_lt (M:=M) (k:=m) hn (by rw [← HRe.out];have:=HS.out;omega)
            have hq2:qk M n m=q+q:=by rw [hqk,← HQe.out];omega
            have hr2:rk M n m=s:=by rw [hrk,← HRe.out,HS.out];omega
            have HQK:=hid hq2
            have HRK:=hid hr2
            clear hrk hqk hq2 hr2 hge
            go_wp2
            exact ⟨⟨m,by omega,rfl,HA7.out,by rw [HQK.out];exact HQ7.out,by rw [HRK.out];exact HR7.out,HD7.out,hB8⟩,by simp [intOf]⟩
theorem over_floor {W n:Int} (hn:n≠0) {z m:Int} (h:z / m=rnd W n):overQ W n=floorQ z m∧overE W n=if floorOk z m=true then 0 else 2:=by
 unfold overQ overE floorQ floorOk
 rw [h,if_neg hn,if_neg hn]
 by_cases c : -9223372036854775808≤rnd W n∧rnd W n≤9223372036854775807
 ·rw [decide_eq_true c,if_pos c,if_pos c];simp
 ·rw [decide_eq_false c,if_neg c,if_neg c];simp
theorem floorQ_not {z m:Int} (h:floorOk z m=false):floorQ z m=0:=by unfold floorQ;rw [h];simp
theorem bover_calls (W n:Int) (h1 : -42535295865117307932921825928971026432≤W) (h2:W≤42535295865117307932921825928971026432) (h3 : -2305843009213693952≤n) (h4:n≤2305843009213693952) (w:World) :
  Calls Tryz.prog 145 #[bigV W,.int .i64 n] w (Ret (.tuple #[.int .i64 (overQ W n),.int .i64 (overE W n)]) w):=by
 have R:=hid (And.intro h1 h2)
 clear h1 h2
 by_cases hn0:n=0
 ·subst hn0
  have e1:Hid (overQ W 0=0):=by simp [overQ,Hid]
  have e2:Hid (overE W 0=17):=by simp [overE,Hid]
  go_enter Tryz.func145,Tryz.ntmps145
  go_wp2
  go_returns
  exact ret_val (by rw [e1.out,e2.out];rfl) (by go_grown)
 ·have hA : Blk8 (w.alloc (.cells (#[.int .u32 (digs W 0), .int .u32 (digs W 1), .int .u32 (digs W 2), .int .u32 (digs W 3), .int .u32 (digs W 4), .int .u32 (digs W 5), .int .u32 (digs W 6), .int .u32 (digs W 7)]) 168)) w.heap.size (digs W) := Blk8.here w _ (digs W)
  have HA:=hid hA
  have hne:(n == 0)=false:=by simpa using hn0
  clear hA
  by_cases hneg:n<0
  ·obtain ⟨V, hV⟩ : ∃ V, V = -W := ⟨_, rfl⟩
   obtain ⟨m,hm⟩:∃ m,m = -n:=⟨_,rfl⟩
   have hr:(V+V+m) / (2*m)=rnd W n:=by rw [rnd,if_pos hneg,hV,hm];congr 1;omega
   obtain ⟨eq,ee⟩:=over_floor hn0 hr
   have EQ:=hid eq
   have EE:=hid ee
   have hmb:0<m∧m≤2305843009213693952:=by omega
   have HV:=hid hV
   have HM:=hid hm
   have RV:Hid (-42535295865117307932921825928971026432≤V∧V≤42535295865117307932921825928971026432):=by have:=R.out;exact hid (by omega)
   have hmn : -n=m:=hm.symm
   clear eq ee hr hV hm
   go_enter Tryz.func145,Tryz.ntmps145
   go_wp2_with fail
   refine (neg_calls W _).mono ?_
   rintro e w1 ⟨rfl,hb1⟩
   have hA1:=HA.out.below hb1 HA.out.lt
   have hB1:Below w.heap.size w w1:=((Below.refl w.heap.size w).alloc (Nat.le_refl _) _).trans (hb1.mono (by simp))
   obtain ⟨a0,a1,a2,a3,a4,a5,a6,a7⟩:=hA1.all
   have af:=hA1.free
   rw [← HV.out]
   go_wp2_with fail
   have hB2:Below w.heap.size w ((((((((w1.setCell ⟨w.heap.size,0,none⟩ (.int .u32 (digs V 0))).setCell ⟨w.heap.size,1,none⟩ (.int .u32 (digs V 1))).setCell ⟨w.heap.size,2,none⟩ (.int .u32 (digs V 2))).setCell ⟨w.heap.size,3,none⟩ (.int .u32 (digs V 3))).setCell ⟨w.heap.size,4,none⟩ (.int .u32 (digs V 4))).setCell ⟨w.heap.size,5,none⟩ (.int .u32 (digs V 5))).setCell ⟨w.heap.size,6,none⟩ (.int .u32 (digs V 6))).setCell ⟨w.heap.size,7,none⟩ (.int .u32 (digs V 7))):=by go_grown
   generalize (((((((w1.setCell ⟨w.heap.size,0,none⟩ (.int .u32 (digs V 0))).setCell ⟨w.heap.size,1,none⟩ (.int .u32 (digs V 1))).setCell ⟨w.heap.size,2,none⟩ (.int .u32 (digs V 2))).setCell ⟨w.heap.size,3,none⟩ (.int .u32 (digs V 3))).setCell ⟨w.heap.size,4,none⟩ (.int .u32 (digs V 4))).setCell ⟨w.heap.size,5,none⟩ (.int .u32 (digs V 5))).setCell ⟨w.heap.size,6,none⟩ (.int .u32 (digs V 6))).setCell ⟨w.heap.size,7,none⟩ (.int .u32 (digs V 7))=w2 at *
   clear a0 a1 a2 a3 a4 a5 a6 a7 af hA1 hb1 hB1 HA
   refine (twice_calls V _).mono ?_
   rintro e w3 ⟨rfl,hb3⟩
   have hB3:=keepBelow hb3 hB2
   go_wp2_with fail
   refine (of_calls m (by omega) (by omega) _).mono ?_
   rintro e w4 ⟨rfl,hb4⟩
   have hB4:=keepBelow hb4 hB3
   go_wp2_with fail
   refine (add_calls (V+V) m _).mono ?_
   rintro e w5 ⟨rfl,hb5⟩
   have hB5:=keepBelow hb5 hB4
   go_wp2_with fail
   refine (bfloor_calls (V+V+m) (2*m) (by have:=RV.out;omega) (by have:=RV.out;omega) (by omega) (by omega) _).mono ?_
   rintro e w6 ⟨rfl,hb6⟩
   have hB6:=keepBelow hb6 hB5
   cases hok:floorOk (V+V+m) (2*m) with
   | true =>
    have HOK:=hid hok
    clear hok
    go_wp2
    go_returns
    exact ret_val (by rw [EQ.out,EE.out,if_pos HOK.out];rfl) hB6
   | false =>
    have HOK:=hid hok
    clear hok
    go_wp2
    go_returns
    exact ret_val (by rw [EQ.out,EE.out,floorQ_not HOK.out,HOK.out];rfl) hB6
  ·have hr : (W + W + n) / (2 * n) = rnd W n := by rw [rnd, if_neg hneg]; congr 1; omega
   obtain ⟨eq,ee⟩:=over_floor hn0 hr
   have EQ:=hid eq
   have EE:=hid ee
   obtain ⟨a0,a1,a2,a3,a4,a5,a6,a7⟩:=HA.out.all
   have hB2:Below w.heap.size w (w.alloc (.cells (#[.int .u32 (digs W 0),.int .u32 (digs W 1),.int .u32 (digs W 2),.int .u32 (digs W 3),.int .u32 (digs W 4),.int .u32 (digs W 5),.int .u32 (digs W 6),.int .u32 (digs W 7)]) 168)):=by go_grown
   clear eq ee hr
   go_enter Tryz.func145,Tryz.ntmps145
   go_wp2_with fail
   refine (twice_calls W _).mono ?_
   rintro e w3 ⟨rfl,hb3⟩
   have hB3:=keepBelow hb3 hB2
   go_wp2_with fail
   refine (of_calls n (by omega) (by omega) _).mono ?_
   rintro e w4 ⟨rfl,hb4⟩
   have hB4:=keepBelow hb4 hB3
   go_wp2_with fail
   refine (add_calls (W+W) n _).mono ?_
   rintro e w5 ⟨rfl,hb5⟩
   have hB5:=keepBelow hb5 hB4
   go_wp2_with fail
   refine (bfloor_calls (W+W+n) (2*n) (by have:=R.out;omega) (by have:=R.out;omega) (by omega) (by omega) _).mono ?_
   rintro e w6 ⟨rfl,hb6⟩
   have hB6:=keepBelow hb6 hB5
   cases hok:floorOk (W+W+n) (2*n) with
   | true =>
    have HOK:=hid hok
    clear hok
    go_wp2
    go_returns
    exact ret_val (by rw [EQ.out,EE.out,if_pos HOK.out];rfl) hB6
   | false =>
    have HOK:=hid hok
    clear hok
    go_wp2
    go_returns
    exact ret_val (by rw [EQ.out,EE.out,floorQ_not HOK.out,HOK.out];rfl) hB6
end
end Go.Proofs.YtiaoandbdgdecaaGreat
