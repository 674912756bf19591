/- Parts of a proof: contracts and laws. -/
import Derived.Test.YtiaoandbdgdecaaGreatPK00
import Derived.RegionTactic
import Derived.ChangeAlike
import Derived.Deep.QuietTactic
import Derived.BigQuiet
import Derived.Deep.RegionWith
import Derived.Deep.DeepCutAuto
import Derived.Deep.RegionHeld3
set_option maxRecDepth 100000
set_option maxHeartbeats 16000000
namespace Go.Proofs.YtiaoandbdgdecaaGreat
section
set_option linter.unusedVariables false
set_option linter.unusedSimpArgs false
open Go.RowKit

def digs (z:Int) (i:Nat):Int:=z / 65536 ^ i % 65536
theorem digs_nonneg (z:Int) (i:Nat):0≤digs z i:=Int.emod_nonneg _ (by omega)
theorem digs_lt (z:Int) (i:Nat):digs z i≤65535:=by have:=Int.emod_lt_of_pos (z / 65536 ^ i) (show (0:Int)<65536 by omega);unfold digs;omega

def addC (a b:Int) (i:Nat):Int:=(a % 65536 ^ i+b % 65536 ^ i) / 65536 ^ i
theorem addC_zero (a b:Int):addC a b 0=0:=by simp [addC,Int.emod_one]
theorem pow_pos' (i:Nat):(0:Int)<65536 ^ i:=Int.pow_pos (by omega)
theorem addC_bd (a b:Int) (i:Nat):0≤addC a b i∧addC a b i≤1:=by
 have h:=pow_pos' i
 have h1:=Int.emod_nonneg a (Int.ne_of_gt h)
 have h2:=Int.emod_nonneg b (Int.ne_of_gt h)
 have h3:=Int.emod_lt_of_pos a h
 have h4:=Int.emod_lt_of_pos b h
 unfold addC
 refine ⟨Int.ediv_nonneg (by omega) (by omega),?_⟩
 have:(a % 65536 ^ i+b % 65536 ^ i) / 65536 ^ i<2:=Int.ediv_lt_of_lt_mul h (by omega)
 omega
theorem ediv_ediv' {z M B:Int} (hM:0≤M):z / M / B=z / (M*B):=by
 rw [Int.ediv_ediv,if_neg (by omega),Int.sub_zero]
theorem mod_mul (z M B:Int) (hM:0<M):z % (M*B)=z % M+M*(z / M % B):=by
 have h1:=Int.emod_add_mul_ediv z M
 have h2:=Int.emod_add_mul_ediv (z / M) B
 have h3:=Int.emod_add_mul_ediv z (M*B)
 have h4:z / (M*B)=z / M / B:=(ediv_ediv' (Int.le_of_lt hM)).symm
 rw [h4] at h3
 have h5:M*(z / M)=M*(z / M % B)+M*B*(z / M / B):=by
  rw [Int.mul_assoc,← Int.mul_add,h2]
 omega
theorem digs_step (z:Int) (i:Nat):z % 65536 ^ (i+1)=z % 65536 ^ i+65536 ^ i*digs z i:=by
 rw [Int.pow_succ,mod_mul z _ _ (pow_pos' i)]
 rfl

def colC (Y x b:Int) (k:Nat):Int:=(Y % 65536 ^ k+x*(b % 65536 ^ k)) / 65536 ^ k
theorem colC_zero (Y x b:Int):colC Y x b 0=0:=by simp [colC,Int.emod_one]
theorem colC_bd (Y x b:Int) (k:Nat) (h0:0≤x) (h1:x≤65535):0≤colC Y x b k∧colC Y x b k≤65535:=by
 have h:=pow_pos' k
 have h1':=Int.emod_nonneg Y (Int.ne_of_gt h)
 have h2:=Int.emod_nonneg b (Int.ne_of_gt h)
 have h3:=Int.emod_lt_of_pos Y h
 have h4:=Int.emod_lt_of_pos b h
 generalize hM:(65536:Int) ^ k=M at *
 unfold colC
 rw [hM]
 have h5:=Int.mul_nonneg h0 h2
 have h6:x*(b % M)≤65535*(M-1):=Int.mul_le_mul h1 (by omega) h2 (by omega)
 refine ⟨Int.ediv_nonneg (by omega) (by omega),?_⟩
 have:(Y % M+x*(b % M)) / M<65536:=Int.ediv_lt_of_lt_mul h (by omega)
 omega
theorem colC_sum (Y x b:Int) (k:Nat):(Y+x*b) / 65536 ^ k=Y / 65536 ^ k+x*(b / 65536 ^ k)+colC Y x b k:=by
 have h:=pow_pos' k
 generalize hM:(65536:Int) ^ k=M at *
 unfold colC
 rw [hM]
 have e:Y+x*b=(Y % M+x*(b % M))+(Y / M+x*(b / M))*M:=by
  have h1:=Int.emod_add_mul_ediv Y M
  have h2:=Int.emod_add_mul_ediv b M
  generalize Y % M=y0 at *
  generalize Y / M=y1 at *
  generalize b % M=b0 at *
  generalize b / M=b1 at *
  rw [← h1,← h2]
  grind
 rw [e,Int.add_mul_ediv_right _ _ (Int.ne_of_gt h)]
 omega
theorem colC_digit (Y x b:Int) (k:Nat):digs (Y+x*b) k=(colC Y x b k+(x*digs b k+digs Y k)) % 65536:=by
 unfold digs
 rw [colC_sum]
 generalize colC Y x b k=c
 generalize Y / 65536 ^ k=y
 generalize b / 65536 ^ k=z
 have h1:=Int.emod_add_mul_ediv y 65536
 have h2:=Int.emod_add_mul_ediv z 65536
 have e:y+x*z+c=(c+(x*(z % 65536)+y % 65536))+65536*(y / 65536+x*(z / 65536)):=by grind
 rw [e,Int.add_mul_emod_self_left]
theorem colC_succ (Y x b:Int) (k:Nat):colC Y x b (k+1)=(colC Y x b k+(x*digs b k+digs Y k)) / 65536:=by
 have h:=pow_pos' k
 unfold colC
 rw [digs_step,digs_step,Int.pow_succ,← ediv_ediv' (Int.le_of_lt h)]
 congr 1
 have e:Y % 65536 ^ k+65536 ^ k*digs Y k+x*(b % 65536 ^ k+65536 ^ k*digs b k)=(Y % 65536 ^ k+x*(b % 65536 ^ k))+(x*digs b k+digs Y k)*65536 ^ k:=by grind
 rw [e,Int.add_mul_ediv_right _ _ (Int.ne_of_gt h)]
theorem addC_col (a b:Int) (i:Nat):addC a b i=colC a 1 b i:=by simp [addC,colC]
theorem add_digit (a b:Int) (i:Nat):digs (a+b) i=(addC a b i+(digs a i+digs b i)) % 65536:=by
 have:=colC_digit a 1 b i
 rw [addC_col]
 simp only [Int.one_mul] at this
 rw [this]
 congr 1
 omega
theorem addC_succ (a b:Int) (i:Nat):addC a b (i+1)=(addC a b i+(digs a i+digs b i)) / 65536:=by
 have:=colC_succ a 1 b i
 rw [addC_col,addC_col]
 simp only [Int.one_mul] at this
 rw [this]
 congr 1
 omega

theorem digs_shift (z:Int) (i k:Nat):digs (z / 65536 ^ i) k=digs z (i+k):=by
 unfold digs
 rw [ediv_ediv' (Int.le_of_lt (pow_pos' i)),← Int.pow_add]
theorem shift_div (X y b:Int) (i:Nat):(X+65536 ^ i*y*b) / 65536 ^ i=X / 65536 ^ i+y*b:=by
 have h:=pow_pos' i
 rw [show 65536 ^ i*y*b=(y*b)*65536 ^ i by grind,Int.add_mul_ediv_right _ _ (Int.ne_of_gt h)]
theorem digs_low (X y:Int) (i j:Nat) (h:j<i):digs (X+65536 ^ i*y) j=digs X j:=by
 unfold digs
 obtain ⟨d,rfl⟩:∃ d,i=j+(d+1):=⟨i-j-1,by omega⟩
 have hj:=pow_pos' j
 rw [show (65536:Int) ^ (j+(d+1))*y=(65536*(65536 ^ d*y))*65536 ^ j by rw [Int.pow_add,Int.pow_succ];grind,Int.add_mul_ediv_right _ _ (Int.ne_of_gt hj),Int.add_mul_emod_self_left]
theorem mod_self (a:Int) (i:Nat):a % 65536 ^ (i+1)=a % 65536 ^ i+65536 ^ i*digs a i:=digs_step a i


theorem and16_u64 (z:Int) (h0:0≤z) (h1:z<18446744073709551616):bits .and .u64 z 65535=z % 65536:=by go_bits2
theorem and16_u32 (z:Int) (h0:0≤z) (h1:z<4294967296):bits .and .u32 z 65535=z % 65536:=by go_bits2
theorem of_low (n:Int) (k:Nat) (hk:k<4):bits .and .u64 (IntKind.u64.wrap n / 2 ^ (16*k)) 65535 % 4294967296=digs n k:=by
 rw [IntKind.wrap_u64]
 match k,hk with
 | 0,_=>rw [and16_u64 _ (by omega) (by omega)];simp only [digs,Int.reducePow,Nat.reduceMul];omega
 | 1,_=>rw [and16_u64 _ (by omega) (by omega)];simp only [digs,Int.reducePow,Nat.reduceMul];omega
 | 2,_=>rw [and16_u64 _ (by omega) (by omega)];simp only [digs,Int.reducePow,Nat.reduceMul];omega
 | 3,_=>rw [and16_u64 _ (by omega) (by omega)];simp only [digs,Int.reducePow,Nat.reduceMul];omega
theorem of_high (n:Int) (k:Nat) (h4:4≤k) (h8:k<8) (h1 : -9223372036854775808≤n) (h2:n≤9223372036854775807):digs n k=if n<0 then 65535 else 0:=by
 match k,h4,h8 with
 | 4,_,_=>simp only [digs,Int.reducePow];split <;> omega
 | 5,_,_=>simp only [digs,Int.reducePow];split <;> omega
 | 6,_,_=>simp only [digs,Int.reducePow];split <;> omega
 | 7,_,_=>simp only [digs,Int.reducePow];split <;> omega

abbrev bigV (z:Int):Value:=.agg #[.int .u32 (digs z 0),.int .u32 (digs z 1),.int .u32 (digs z 2),.int .u32 (digs z 3),.int .u32 (digs z 4),.int .u32 (digs z 5),.int .u32 (digs z 6),.int .u32 (digs z 7)]

structure Blk8 (w : World) (g : Nat) (o : Nat → Int) : Prop where
 cell:∀ j,j<8→w.cell? ⟨g,j,none⟩=some (.int .u32 (o j))
 free:∀ j,w.frozen? ⟨g,j,none⟩=false
theorem Blk8.set {w:World} {g k:Nat} {o o':Nat→Int} {v:Int} (h:Blk8 w g o) (hk:k<8) (hv:o' k=v) (ho:∀ j,j≠k→o' j=o j):Blk8 (w.setCell ⟨g,k,none⟩ (.int .u32 v)) g o':=by
 refine ⟨fun j hj=>?_,fun j=>by rw [World.frozen?_setCell];exact h.free j⟩
 by_cases e:j=k
 ·subst e
  rw [World.cell?_setCell_same _ _ _ (h.cell j hj),hv]
 ·rw [World.cell?_setCell_other _ _ _ _ (by simp only [ne_eq,Addr.mk.injEq,true_and,and_true];exact fun h=>e h.symm),h.cell j hj,ho j e]
theorem Blk8.below {w w':World} {B g:Nat} {o:Nat→Int} (h:Blk8 w g o) (hb:Below B w w') (hg:g<B):Blk8 w' g o :=
 ⟨fun j hj=>((bcell hb).1 _ _ hg).trans (h.cell j hj),fun j=>((bcell hb).2 _ _ hg).trans (h.free j)⟩
theorem Blk8.far {w:World} {g:Nat} {o:Nat→Int} (h:Blk8 w g o) {p:Addr} (hp:p.block≠g) (u:Value):Blk8 (w.setCell p u) g o :=
 ⟨fun j hj=>by rw [World.cell?_setCell_other _ _ _ _ (by rintro rfl;exact hp rfl)];exact h.cell j hj,fun j=>by rw [World.frozen?_setCell];exact h.free j⟩
theorem Blk8.drew {w:World} {g:Nat} {o:Nat→Int} (h:Blk8 w g o):Blk8 w.drew g o:=⟨h.cell,h.free⟩
theorem Blk8.drewN {w:World} {g:Nat} {o:Nat→Int} (h:Blk8 w g o) (n:Nat):Blk8 (w.drewN n) g o:=⟨h.cell,h.free⟩
theorem Blk8.congr {w:World} {g:Nat} {o o':Nat→Int} (h:Blk8 w g o) (ho:∀ j,j<8→o j=o' j):Blk8 w g o':=⟨fun j hj=>by rw [h.cell j hj,ho j hj],h.free⟩
theorem lt_of_cell {w:World} {g i:Nat} {v:Value} (h:w.cell? ⟨g,i,none⟩=some v):g<w.heap.size:=by
 rcases Nat.lt_or_ge g w.heap.size with h1 | h1
 ·exact h1
 ·have : w.heap[g]? = none := Array.getElem?_eq_none h1
  simp [World.cell?,this] at h
theorem Blk8.lt {w:World} {g:Nat} {o:Nat→Int} (h:Blk8 w g o):g<w.heap.size:=lt_of_cell (h.cell 0 (by omega))
theorem Blk8.all {w:World} {g:Nat} {o:Nat→Int} (h:Blk8 w g o) :
  w.cell? ⟨g,0,none⟩=some (.int .u32 (o 0))∧w.cell? ⟨g,1,none⟩=some (.int .u32 (o 1))∧w.cell? ⟨g,2,none⟩=some (.int .u32 (o 2))∧w.cell? ⟨g,3,none⟩=some (.int .u32 (o 3)) ∧
  w.cell? ⟨g,4,none⟩=some (.int .u32 (o 4))∧w.cell? ⟨g,5,none⟩=some (.int .u32 (o 5))∧w.cell? ⟨g,6,none⟩=some (.int .u32 (o 6))∧w.cell? ⟨g,7,none⟩=some (.int .u32 (o 7)) :=
 ⟨h.cell 0 (by omega),h.cell 1 (by omega),h.cell 2 (by omega),h.cell 3 (by omega),h.cell 4 (by omega),h.cell 5 (by omega),h.cell 6 (by omega),h.cell 7 (by omega)⟩
theorem Blk8.alloc {w:World} {g:Nat} {o:Nat→Int} (h:Blk8 w g o) (hg:g<w.heap.size) (x:Obj):Blk8 (w.alloc x) g o :=
 h.below ((Below.refl _ _).alloc (Nat.le_refl _) x) hg
theorem Blk8.here (w:World) (t:TypeId) (o:Nat→Int):Blk8 (w.alloc (.cells #[.int .u32 (o 0),.int .u32 (o 1),.int .u32 (o 2),.int .u32 (o 3),.int .u32 (o 4),.int .u32 (o 5),.int .u32 (o 6),.int .u32 (o 7)] t)) w.heap.size o:=by
 refine ⟨fun j hj=>?_,fun j=>by go_simp⟩
 match j,hj with
 | 0,_ | 1,_ | 2,_ | 3,_ | 4,_ | 5,_ | 6,_ | 7,_=>go_simp
theorem below_drewN' {B:Nat} {a w:World} (h:Below B a w) (n:Nat):Below B a (w.drewN n):=⟨h.os,h.tape,h.output,h.size,h.block⟩

def part (f g:Nat→Int) (k j:Nat):Int:=if j<k then f j else g j
theorem part_at (f g:Nat→Int) (k:Nat):part f g (k+1) k=f k:=by simp [part]
theorem part_ne (f g:Nat→Int) (k j:Nat) (h:j≠k):part f g (k+1) j=part f g k j:=by
 unfold part
 by_cases e:j<k
 ·rw [if_pos e,if_pos (by omega)]
 ·rw [if_neg e,if_neg (by omega)]
theorem part_full (f g:Nat→Int) (k j:Nat) (h:j<k):part f g k j=f j:=by simp [part,h]
theorem part_zero (f g:Nat→Int) (j:Nat):part f g 0 j=g j:=by simp [part]
theorem of_calls (n:Int) (h1 : -9223372036854775808≤n) (h2:n≤9223372036854775807) (w:World) :
  Calls Tryz.prog 133 #[.int .i64 n] w (Ret (bigV n) w):=by
 go_enter Tryz.func133,Tryz.ntmps133
 go_wp2
 go_loopw [8] (fun i wr=>∃ k:Nat,k≤8∧i = .int .i64 k∧Below w.heap.size w wr∧Blk8 wr w.heap.size (fun _=>0)∧Blk8 wr (w.heap.size+1) (part (digs n) (fun _=>0) k)) (fun i _=>8-(intOf i).toNat)
 case atStart =>
  refine ⟨0,by omega,rfl,by go_grown,⟨fun j hj=>?_,fun j=>by go_simp⟩,⟨fun j hj=>?_,fun j=>by go_simp⟩⟩
  ·match j,hj with
   | 0,_ | 1,_ | 2,_ | 3,_ | 4,_ | 5,_ | 6,_ | 7,_=>go_simp
  ·rw [part_zero]
   match j,hj with
   | 0,_ | 1,_ | 2,_ | 3,_ | 4,_ | 5,_ | 6,_ | 7,_=>go_simp
 case round =>
  obtain ⟨k,hk,rfl,hB,hZ,hO⟩:=hrel
  by_cases hlt:k<8
  ·have hc := hO.cell k hlt
   have hf:=hO.free k
   have HO:=hid hO
   have HZ:=hid hZ
   clear hO hZ
   go_wp2
   ·exact ⟨⟨k+1,hlt,by go_num,hB.setCell (by simp) _,HZ.out.far (by simp) _,HO.out.set hlt (by rw [part_at,of_low n k (by omega)]) (part_ne _ _ k)⟩,by simp [intOf];omega⟩
   ·exact ⟨⟨k+1,hlt,by go_num,hB.setCell (by simp) _,HZ.out.far (by simp) _,HO.out.set hlt (by rw [part_at,of_high n k (by omega) hlt h1 h2,if_pos (by assumption)]) (part_ne _ _ k)⟩,by simp [intOf];omega⟩
   ·refine ⟨⟨k + 1, hlt, by go_num, hB, HZ.out, HO.out.congr fun j hj => ?_⟩, by simp [intOf]; omega⟩
    by_cases e:j=k
    ·subst e
     rw [part_at,of_high n j (by omega) hlt h1 h2,if_neg (by omega)]
     simp [part]
    ·rw [part_ne _ _ _ _ e]
  ·obtain rfl : k = 8 := by omega
   have z0:=hZ.cell 0 (by omega);have z1:=hZ.cell 1 (by omega);have z2:=hZ.cell 2 (by omega);have z3:=hZ.cell 3 (by omega)
   have z4:=hZ.cell 4 (by omega);have z5:=hZ.cell 5 (by omega);have z6:=hZ.cell 6 (by omega);have z7:=hZ.cell 7 (by omega)
   have o0:=hO.cell 0 (by omega);have o1:=hO.cell 1 (by omega);have o2:=hO.cell 2 (by omega);have o3:=hO.cell 3 (by omega)
   have o4:=hO.cell 4 (by omega);have o5:=hO.cell 5 (by omega);have o6:=hO.cell 6 (by omega);have o7:=hO.cell 7 (by omega)
   have zf:=hZ.free
   simp only [part_full _ _ 8 0 (by omega),part_full _ _ 8 1 (by omega),part_full _ _ 8 2 (by omega),part_full _ _ 8 3 (by omega),part_full _ _ 8 4 (by omega),part_full _ _ 8 5 (by omega),part_full _ _ 8 6 (by omega),part_full _ _ 8 7 (by omega)] at o0 o1 o2 o3 o4 o5 o6 o7
   clear hO hZ
   go_wp2
   refine bodyPost_ret (v:=bigV n) (by simp [results,Tryz.results133,go_sem,z0,z1,z2,z3,z4,z5,z6,z7]) rfl ⟨rfl,?_⟩
   go_grown
theorem add_calls (a b:Int) (w:World) :
  Calls Tryz.prog 186 #[bigV a,bigV b] w (Ret (bigV (a+b)) w):=by
 go_enter Tryz.func186,Tryz.ntmps186
 go_wp2
 go_loopw [6,8] (fun c i wr=>∃ k:Nat,k≤8∧i = .int .i64 k∧c = .int .u32 (addC a b k)∧Below w.heap.size w wr∧Blk8 wr w.heap.size (digs a)∧Blk8 wr (w.heap.size+1) (digs b)∧Blk8 wr (w.heap.size+2) (fun _=>0)∧Blk8 wr (w.heap.size+3) (part (digs (a+b)) (fun _=>0) k)) (fun _ i _=>8-(intOf i).toNat)
 case atStart =>
  have hz:Blk8 ((((w.alloc (.cells (#[.int .u32 (digs a 0),.int .u32 (digs a 1),.int .u32 (digs a 2),.int .u32 (digs a 3),.int .u32 (digs a 4),.int .u32 (digs a 5),.int .u32 (digs a 6),.int .u32 (digs a 7)]) 168)).alloc (.cells (#[.int .u32 (digs b 0),.int .u32 (digs b 1),.int .u32 (digs b 2),.int .u32 (digs b 3),.int .u32 (digs b 4),.int .u32 (digs b 5),.int .u32 (digs b 6),.int .u32 (digs b 7)]) 168)).alloc (.cells (#[.int .u32 0,.int .u32 0,.int .u32 0,.int .u32 0,.int .u32 0,.int .u32 0,.int .u32 0,.int .u32 0]) 168)).alloc (.cells (#[.int .u32 0,.int .u32 0,.int .u32 0,.int .u32 0,.int .u32 0,.int .u32 0,.int .u32 0,.int .u32 0]) 168)) (w.heap.size+3) (fun _=>0):=by simpa using Blk8.here (((w.alloc _).alloc _).alloc _) 168 (fun _=>0)
  exact ⟨0,by omega,rfl,by rw [addC_zero],by go_grown,(((Blk8.here w _ (digs a)).alloc (by simp) _).alloc (by simp;omega) _).alloc (by simp;omega) _,by simpa using ((Blk8.here (w.alloc _) 168 (digs b)).alloc (by simp) _).alloc (by simp) _,by simpa using ((Blk8.here ((w.alloc _).alloc _) 168 (fun _=>0)).alloc (by simp) _),hz.congr fun j _=>(part_zero (digs (a+b)) (fun _=>0) j).symm⟩
 case round =>
  obtain ⟨k,hk,rfl,rfl,hB,hA,hBb,hZ,hO⟩:=hrel
  have hcb:=addC_bd a b k
  have hd1:=digs_nonneg a k
  have hd2:=digs_nonneg b k
  have hd3:=digs_lt a k
  have hd4:=digs_lt b k
  by_cases hlt:k<8
  ·have hc := hO.cell k hlt
   have hf:=hO.free k
   have ha:=hA.cell k hlt
   have hb:=hBb.cell k hlt
   have HO:=hid hO
   have HZ:=hid hZ
   have HA:=hid hA
   have HB:=hid hBb
   clear hO hZ hA hBb
   go_wp2
   go_quiet (fail)
   go_wp2
   exact ⟨⟨k+1,hlt,by go_num,by rw [addC_succ],(below_drewN' hB _).setCell (by show w.heap.size≤w.heap.size+1+1+1;omega) _,(HA.out.drewN _).far (show w.heap.size+1+1+1≠w.heap.size from by omega) _,(HB.out.drewN _).far (show w.heap.size+1+1+1≠w.heap.size+1 from by omega) _,(HZ.out.drewN _).far (show w.heap.size+1+1+1≠w.heap.size+2 from by omega) _,
    (HO.out.drewN _).set hlt (by rw [part_at,add_digit,and16_u32 _ (by omega) (by omega)]) (part_ne _ _ k)⟩,by simp [intOf];omega⟩
  ·obtain rfl : k = 8 := by omega
   obtain ⟨z0,z1,z2,z3,z4,z5,z6,z7⟩:=hZ.all
   have hO':=hO.congr (o':=digs (a+b)) fun j hj=>part_full _ _ _ _ hj
   obtain ⟨o0,o1,o2,o3,o4,o5,o6,o7⟩:=hO'.all
   have zf:=hZ.free
   clear hO hZ hO' hA hBb
   go_wp2
   refine bodyPost_ret (v:=bigV (a+b)) (by simp [results,Tryz.results186,go_sem,z0,z1,z2,z3,z4,z5,z6,z7]) rfl ⟨rfl,?_⟩
   go_grown

def rowX (a b:Int) (i:Nat):Int:=(a % 65536 ^ i)*b
theorem rowX_zero (a b:Int):rowX a b 0=0:=by simp [rowX,Int.emod_one]
theorem rowX_succ (a b:Int) (i:Nat):rowX a b (i+1)=rowX a b i+65536 ^ i*(digs a i*b):=by
 unfold rowX
 rw [digs_step]
 grind
theorem rowX_low (a b:Int) (i j:Nat) (h:j<i):digs (rowX a b (i+1)) j=digs (rowX a b i) j:=by
 rw [rowX_succ,digs_low _ _ _ _ h]
theorem rowX_div (a b:Int) (i:Nat):rowX a b (i+1) / 65536 ^ i=rowX a b i / 65536 ^ i+digs a i*b:=by
 rw [rowX_succ,← Int.mul_assoc,shift_div]

def rowC (a b:Int) (i k:Nat):Int:=colC (rowX a b i / 65536 ^ i) (digs a i) b k
theorem rowC_zero (a b:Int) (i:Nat):rowC a b i 0=0:=colC_zero _ _ _
theorem rowC_bd (a b:Int) (i k:Nat):0≤rowC a b i k∧rowC a b i k≤65535:=colC_bd _ _ _ _ (digs_nonneg _ _) (digs_lt _ _)
theorem row_digit (a b:Int) (i k:Nat):digs (rowX a b (i+1)) (i+k)=(rowC a b i k+(digs a i*digs b k+digs (rowX a b i) (i+k))) % 65536:=by
 rw [← digs_shift,rowX_div,colC_digit,digs_shift]
 rfl
theorem rowC_succ (a b:Int) (i k:Nat):rowC a b i (k+1)=(rowC a b i k+(digs a i*digs b k+digs (rowX a b i) (i+k))) / 65536:=by
 unfold rowC
 rw [colC_succ,digs_shift]
theorem rowX_eight (a b:Int) (j:Nat) (h:j<8):digs (rowX a b 8) j=digs (a*b) j:=by
 have h1:=Int.emod_add_mul_ediv a (65536 ^ 8)
 unfold rowX
 have e:a*b=a % 65536 ^ 8*b+65536 ^ 8*(a / 65536 ^ 8*b):=by
  generalize a % 65536 ^ 8=r at *
  generalize a / 65536 ^ 8=q at *
  rw [← h1]
  grind
 rw [e,digs_low _ _ _ _ h]
theorem mul_calls (a b:Int) (w:World) :
  Calls Tryz.prog 144 #[bigV a,bigV b] w (Ret (bigV (a*b)) w):=by
 go_enter Tryz.func144,Tryz.ntmps144
 go_wp2
 go_loopw [9] (fun i wr=>∃ k:Nat,k≤8∧i = .int .i64 k∧Below w.heap.size w wr∧Blk8 wr w.heap.size (digs a)∧Blk8 wr (w.heap.size+1) (digs b)∧Blk8 wr (w.heap.size+2) (fun _=>0)∧Blk8 wr (w.heap.size+3) (digs (rowX a b k))) (fun i _=>8-(intOf i).toNat)
 case atStart =>
  have hz:Blk8 ((((w.alloc (.cells (#[.int .u32 (digs a 0),.int .u32 (digs a 1),.int .u32 (digs a 2),.int .u32 (digs a 3),.int .u32 (digs a 4),.int .u32 (digs a 5),.int .u32 (digs a 6),.int .u32 (digs a 7)]) 168)).alloc (.cells (#[.int .u32 (digs b 0),.int .u32 (digs b 1),.int .u32 (digs b 2),.int .u32 (digs b 3),.int .u32 (digs b 4),.int .u32 (digs b 5),.int .u32 (digs b 6),.int .u32 (digs b 7)]) 168)).alloc (.cells (#[.int .u32 0,.int .u32 0,.int .u32 0,.int .u32 0,.int .u32 0,.int .u32 0,.int .u32 0,.int .u32 0]) 168)).alloc (.cells (#[.int .u32 0,.int .u32 0,.int .u32 0,.int .u32 0,.int .u32 0,.int .u32 0,.int .u32 0,.int .u32 0]) 168)) (w.heap.size+3) (fun _=>0):=by simpa using Blk8.here (((w.alloc _).alloc _).alloc _) 168 (fun _=>0)
  exact ⟨0,by omega,rfl,by go_grown,(((Blk8.here w _ (digs a)).alloc (by simp) _).alloc (by simp;omega) _).alloc (by simp;omega) _,by simpa using ((Blk8.here (w.alloc _) 168 (digs b)).alloc (by simp) _).alloc (by simp) _,by simpa using ((Blk8.here ((w.alloc _).alloc _) 168 (fun _=>0)).alloc (by simp) _),hz.congr fun j _=>by rw [rowX_zero];simp [digs]⟩
 case round =>
  obtain ⟨i,hi,rfl,hB,hA,hBb,hZ,hO⟩:=hrel
  obtain ⟨wo,rfl⟩:∃ wo:World,wo=wr:=⟨_,rfl⟩
  by_cases hlt:i<8
  ·have HO := hid hO
   have HZ:=hid hZ
   have HA:=hid hA
   have HB:=hid hBb
   clear hO hZ hA hBb
   go_wp2
   go_loopw [7,8] (fun c j wr=>∃ k:Nat,i+k≤8∧j = .int .i64 k∧c = .int .u64 (rowC a b i k)∧Below w.heap.size w wr∧Blk8 wr w.heap.size (digs a)∧Blk8 wr (w.heap.size+1) (digs b)∧Blk8 wr (w.heap.size+2) (fun _=>0)∧Blk8 wr (w.heap.size+3) (part (digs (rowX a b (i+1))) (digs (rowX a b i)) (i+k))) (fun _ j _=>8-(intOf j).toNat)
   case atStart =>
    exact ⟨0,by omega,rfl,by rw [rowC_zero],hB,HA.out,HB.out,HZ.out,HO.out.congr fun j _=>by
     unfold part
     split
     ·rw [rowX_low a b i j (by omega)]
     ·rfl⟩
   case round =>
    obtain ⟨k,hk,rfl,rfl,hB1,hA,hBb,hZ,hO⟩:=hrel
    have hcb:=rowC_bd a b i k
    have hd1:=digs_nonneg a i
    have hd2:=digs_nonneg b k
    have hd3:=digs_lt a i
    have hd4:=digs_lt b k
    have hd5:=digs_nonneg (rowX a b i) (i+k)
    have hd6:=digs_lt (rowX a b i) (i+k)
    have hp:=mul_bd (x:=digs a i) (y:=digs b k) (M:=65535) (N:=65535) (by omega) (by omega) (by omega) (by omega)
    have hp0:=Int.mul_nonneg hd1 hd2
    by_cases hlt2:i+k<8
    ·have hc := hO.cell (i + k) hlt2
     rw [show part (digs (rowX a b (i+1))) (digs (rowX a b i)) (i+k) (i+k)=digs (rowX a b i) (i+k) by simp [part]] at hc
     have hf:=hO.free (i+k)
     have ha:=hA.cell i hlt
     have hb:=hBb.cell k (by omega)
     have HO:=hid hO
     have HZ:=hid hZ
     have HA:=hid hA
     have HB:=hid hBb
     clear hO hZ hA hBb
     go_wp2
     go_quiet (fail)
     go_wp2
     exact ⟨⟨k+1,by omega,by go_num,by rw [rowC_succ],(below_drewN' hB1 _).setCell (by show w.heap.size≤w.heap.size+1+1+1;omega) _,
      (HA.out.drewN _).far (show w.heap.size+1+1+1≠w.heap.size from by omega) _,(HB.out.drewN _).far (show w.heap.size+1+1+1≠w.heap.size+1 from by omega) _,(HZ.out.drewN _).far (show w.heap.size+1+1+1≠w.heap.size+2 from by omega) _,
      (HO.out.drewN _).set hlt2 (by rw [← Nat.add_assoc,part_at,row_digit,and16_u64 _ (by omega) (by omega)];omega) (part_ne _ _ (i+k))⟩,by simp [intOf];omega⟩
    ·have h8 : 8 ≤ i + k := by omega
     have hO2:=hO.congr (o':=digs (rowX a b (i+1))) fun j hj=>part_full _ _ _ _ (by omega)
     have HO:=hid hO2
     have HZ:=hid hZ
     have HA:=hid hA
     have HB:=hid hBb
     clear hO hZ hA hBb hO2
     go_wp2
     go_roundw
     case rel=>exact ⟨i+1,hlt,by go_num,hB1,HA.out,HB.out,HZ.out,HO.out⟩
     case measure=>simp [intOf];omega
  ·obtain rfl : i = 8 := by omega
   obtain ⟨z0,z1,z2,z3,z4,z5,z6,z7⟩:=hZ.all
   have hO':=hO.congr (o':=digs (a*b)) fun j hj=>rowX_eight a b j hj
   obtain ⟨o0,o1,o2,o3,o4,o5,o6,o7⟩:=hO'.all
   have zf:=hZ.free
   clear hO hZ hO' hA hBb
   go_wp2
   refine bodyPost_ret (v:=bigV (a*b)) (by simp [results,Tryz.results144,go_sem,z0,z1,z2,z3,z4,z5,z6,z7]) rfl ⟨rfl,?_⟩
   go_grown

theorem xor16 (a:Int) (k:Nat):bits .xor .u32 (digs a k) 65535=digs (-a-1) k:=by
 have h0:=digs_nonneg a k
 have h1:=digs_lt a k
 have e:digs (-a-1) k=65535-digs a k:=by
  unfold digs
  have hp:=pow_pos' k
  generalize (65536:Int) ^ k=M at *
  have e1:(-a-1) / M = - (a / M)-1:=by
   have:=Int.emod_add_mul_ediv a M
   have h2:=Int.emod_nonneg a (Int.ne_of_gt hp)
   have h3:=Int.emod_lt_of_pos a hp
   rw [show -a-1=(M-1-a % M)+(-(a / M)-1)*M by grind,Int.add_mul_ediv_right _ _ (Int.ne_of_gt hp),Int.ediv_eq_zero_of_lt (by omega) (by omega)]
   omega
  rw [e1]
  omega
 rw [e]
 generalize digs a k=d at *
 obtain ⟨n,rfl⟩:=Int.eq_ofNat_of_zero_le h0
 have hn:n<65536:=by omega
 have:bits .xor .u32 (n:Int) 65535=((n ^^^ 65535:Nat):Int):=by
  show IntKind.u32.wrap ((BitVec.ofInt 32 (n:Int) ^^^ BitVec.ofInt 32 65535).toNat:Int)=_
  have hx:n ^^^ 65535<2 ^ 16:=Nat.xor_lt_two_pow (by omega) (by omega)
  rw [BitVec.toNat_xor,BitVec.ofInt_natCast,BitVec.toNat_ofNat,show (BitVec.ofInt 32 65535).toNat=65535 from rfl,Nat.mod_eq_of_lt (by omega),IntKind.wrap_u32]
  omega
 rw [this]
 have hx:n ^^^ 65535=65535-n:=by
  have h3:=congrArg BitVec.toNat (BitVec.xor_allOnes (x:=BitVec.ofNat 16 n))
  rw [BitVec.toNat_xor,BitVec.toNat_not,BitVec.toNat_ofNat,BitVec.toNat_allOnes,Nat.mod_eq_of_lt (by omega)] at h3
  exact h3
 rw [hx]
 omega
theorem neg_calls (a:Int) (w:World) :
  Calls Tryz.prog 187 #[bigV a] w (Ret (bigV (-a)) w):=by
 go_enter Tryz.func187,Tryz.ntmps187
 go_wp2
 go_loopw [4] (fun i wr=>∃ k:Nat,k≤8∧i = .int .i64 k∧Below w.heap.size w wr∧Blk8 wr w.heap.size (part (digs (-a-1)) (digs a) k)∧Blk8 wr (w.heap.size+1) (fun _=>0)) (fun i _=>8-(intOf i).toNat)
 case atStart =>
  exact ⟨0,by omega,rfl,by go_grown,((Blk8.here w _ (digs a)).alloc (by simp) _).congr fun j _=>(part_zero (digs (-a-1)) (digs a) j).symm,by simpa using (Blk8.here (w.alloc _) 168 (fun _=>0))⟩
 case round =>
  obtain ⟨k,hk,rfl,hB,hA,hZ⟩:=hrel
  by_cases hlt:k<8
  ·have hc := hA.cell k hlt
   rw [show part (digs (-a-1)) (digs a) k k=digs a k by simp [part]] at hc
   have hf:=hA.free k
   have hx:=xor16 a k
   have HA:=hid hA
   have HZ:=hid hZ
   clear hA hZ
   go_wp2
   exact ⟨⟨k+1,by omega,by go_num,hB.setCell (Nat.le_refl _) _,HA.out.set hlt (part_at _ _ k) (part_ne _ _ k),HZ.out.far (show w.heap.size≠w.heap.size+1 from by omega) _⟩,by simp [intOf];omega⟩
  ·have hA' := hA.congr (o' := digs (-a - 1)) fun j hj => part_full _ _ _ _ (by omega)
   obtain ⟨o0,o1,o2,o3,o4,o5,o6,o7⟩:=hA'.all
   have HA:=hid hA'
   have HZ:=hid hZ
   have hsz:w.heap.size+1<wr.heap.size:=hZ.lt
   clear hA hZ hA'
   go_wp2
   go_region_with (first | (go_at_call 133;refine (of_calls 1 (by omega) (by omega) _).mono ?_;rintro e w1 ⟨rfl,hb1⟩;have HZ1:=hid ((HZ.out.drew).below hb1 hsz);have HA1:=(HA.out.drew).below hb1 (Nat.lt_of_succ_lt hsz);obtain ⟨p0,p1,p2,p3,p4,p5,p6,p7⟩:=HA1.all;clear HA1) | (go_at_call 186;refine (add_calls _ _ _).mono ?_;rintro e w2 ⟨rfl,hb2⟩;have HZ2:=HZ1.out.below hb2 HZ1.out.lt;obtain ⟨z0,z1,z2,z3,z4,z5,z6,z7⟩:=HZ2.all;have zf:=HZ2.free;clear HZ2))
   all_goals
    go_wp2
    refine bodyPost_ret (v:=bigV (-a)) (by simp [results,Tryz.results187,go_sem,z0,z1,z2,z3,z4,z5,z6,z7]) rfl ⟨rfl,?_⟩
    have hz:=(Below.drew hB).trans ((hb1.mono (show w.heap.size≤wr.drew.heap.size from hB.size)).trans (hb2.mono (Nat.le_trans hB.size hb1.size)))
    go_grown
theorem bsub_calls (a b:Int) (w:World) :
  Calls Tryz.prog 142 #[bigV a,bigV b] w (Ret (bigV (a-b)) w):=by
 obtain ⟨W,hW⟩:∃ W,W=((w.alloc (.cells (#[.int .u32 (digs a 0),.int .u32 (digs a 1),.int .u32 (digs a 2),.int .u32 (digs a 3),.int .u32 (digs a 4),.int .u32 (digs a 5),.int .u32 (digs a 6),.int .u32 (digs a 7)]) 168)).alloc (.cells (#[.int .u32 (digs b 0),.int .u32 (digs b 1),.int .u32 (digs b 2),.int .u32 (digs b 3),.int .u32 (digs b 4),.int .u32 (digs b 5),.int .u32 (digs b 6),.int .u32 (digs b 7)]) 168)).alloc (.cells (#[.int .u32 0,.int .u32 0,.int .u32 0,.int .u32 0,.int .u32 0,.int .u32 0,.int .u32 0,.int .u32 0]) 168):=⟨_,rfl⟩
 have hA:Blk8 W w.heap.size (digs a):=by subst hW;exact ((Blk8.here w _ (digs a)).alloc (by simp) _).alloc (by simp;omega) _
 have hBb:Blk8 W (w.heap.size+1) (digs b):=by subst hW;simpa using ((Blk8.here (w.alloc _) 168 (digs b)).alloc (by simp) _)
 have hZ:Blk8 W (w.heap.size+2) (fun _=>0):=by subst hW;simpa using (Blk8.here ((w.alloc _).alloc _) 168 (fun _=>0))
 have hB:Below w.heap.size w W:=by subst hW;go_grown
 obtain ⟨a0,a1,a2,a3,a4,a5,a6,a7⟩:=hA.all
 obtain ⟨b0,b1,b2,b3,b4,b5,b6,b7⟩:=hBb.all
 have HA:=hid hA
 have HB:=hid hBb
 have HZ:=hid hZ
 clear hA hBb hZ
 go_enter Tryz.func142,Tryz.ntmps142
 go_wp2
 rw [← hW]
 have HW:=hid hW
 clear hW
 go_region_with (first | (go_at_call 187;refine (neg_calls _ _).mono ?_;rintro e w1 ⟨rfl,hb1⟩;have HA1:=(HA.out.drew).below hb1 HA.out.lt;obtain ⟨p0,p1,p2,p3,p4,p5,p6,p7⟩:=HA1.all;clear HA1) | (go_at_call 186;refine (add_calls _ _ _).mono ?_;rintro e w2 ⟨rfl,hb2⟩;have HZ2:=(HZ.out.drew.below hb1 HZ.out.lt).below hb2 (Nat.lt_of_lt_of_le HZ.out.lt hb1.size);obtain ⟨z0,z1,z2,z3,z4,z5,z6,z7⟩:=HZ2.all;have zf:=HZ2.free;clear HZ2))
 all_goals
  go_wp2
  refine bodyPost_ret (v:=bigV (a-b)) (by simp [results,Tryz.results142,go_sem,z0,z1,z2,z3,z4,z5,z6,z7,Int.sub_eq_add_neg]) rfl ⟨rfl,?_⟩
  have hz:=(Below.drew hB).trans ((hb1.mono (show w.heap.size≤W.drew.heap.size from hB.size)).trans (hb2.mono (Nat.le_trans hB.size hb1.size)))
  go_grown
theorem shr15 (z:Int) (h : -170141183460469231731687303715884105728≤z) (h2:z<170141183460469231731687303715884105728):(digs z 7 / 32768 == 1)=decide (z<0):=by
 have:digs z 7=z / 5192296858534827628530496329220096 % 65536:=by simp [digs]
 rw [this,Bool.eq_iff_iff]
 simp only [beq_iff_eq,decide_eq_true_iff]
 omega
theorem below_calls (a:Int) (w:World) (h : -170141183460469231731687303715884105728≤a) (h2:a<170141183460469231731687303715884105728) :
  Calls Tryz.prog 141 #[bigV a] w (Ret (.bool (decide (a<0))) w):=by
 have hs:=hid (shr15 a h h2)
 have hd:=digs_nonneg a 7
 clear h h2
 go_enter Tryz.func141,Tryz.ntmps141
 go_wp2
 go_returns
 exact ret_bool hs.out (by go_grown)
theorem twice_calls (a:Int) (w:World):Calls Tryz.prog 188 #[bigV a] w (Ret (bigV (a+a)) w):=by
 go_enter Tryz.func188,Tryz.ntmps188
 have hZ:Blk8 ((w.alloc (.cells (#[.int .u32 (digs a 0),.int .u32 (digs a 1),.int .u32 (digs a 2),.int .u32 (digs a 3),.int .u32 (digs a 4),.int .u32 (digs a 5),.int .u32 (digs a 6),.int .u32 (digs a 7)]) 168)).alloc (.cells (#[.int .u32 0,.int .u32 0,.int .u32 0,.int .u32 0,.int .u32 0,.int .u32 0,.int .u32 0,.int .u32 0]) 168)) (w.heap.size+1) (fun _=>0):=by simpa using (Blk8.here (w.alloc _) 168 (fun _=>0))
 have HZ:=hid hZ
 clear hZ
 go_wp2_with (go_at_call 186;refine (add_calls _ _ _).mono ?_;rintro e w2 ⟨rfl,hb2⟩;have HZ2:=HZ.out.below hb2 (by simp);obtain ⟨z0,z1,z2,z3,z4,z5,z6,z7⟩:=HZ2.all;have zf:=HZ2.free;clear HZ2)
 refine bodyPost_ret (v:=bigV (a+a)) (by simp [results,Tryz.results188,go_sem,z0,z1,z2,z3,z4,z5,z6,z7]) rfl ⟨rfl,?_⟩
 have hz:=(((Below.refl w.heap.size w).alloc (Nat.le_refl _) _).alloc (by simp) _).trans (hb2.mono (by simp;omega))
 go_grown
def cmpZ (a b:Int):Int:=if a<b then -1 else if a=b then 0 else 1

def eqFrom (a b:Int) (i:Nat):Prop:=a / 65536 ^ i=b / 65536 ^ i
theorem div_step (a:Int) (i:Nat):a / 65536 ^ i=a / 65536 ^ (i+1)*65536+digs a i:=by
 unfold digs
 rw [Int.pow_succ,← ediv_ediv' (Int.le_of_lt (pow_pos' i))]
 omega
theorem eqFrom_step {a b:Int} {i:Nat} (h:eqFrom a b (i+1)) (e:digs a i=digs b i):eqFrom a b i:=by
 unfold eqFrom at *
 rw [div_step a,div_step b,h,e]
theorem lt_of_digs {a b:Int} {i:Nat} (h:eqFrom a b (i+1)) (e:digs a i<digs b i):a<b:=by
 unfold eqFrom at h
 have h1:=div_step a i
 have h2:=div_step b i
 have h3:a / 65536 ^ i<b / 65536 ^ i:=by rw [h1,h2,h];omega
 have hp:=pow_pos' i
 by_cases hab:a<b
 ·exact hab
 ·have : b / 65536 ^ i ≤ a / 65536 ^ i := Int.ediv_le_ediv hp (by omega)
  omega
theorem eqFrom_zero {a b:Int} (h:eqFrom a b 0):a=b:=by simpa [eqFrom] using h
theorem eqFrom_eight {a b:Int} (h1 : -170141183460469231731687303715884105728≤a) (h2:a<170141183460469231731687303715884105728) (h3 : -170141183460469231731687303715884105728≤b) (h4:b<170141183460469231731687303715884105728) (h:(decide (a<0))=decide (b<0)):eqFrom a b 8:=by
 have e:(65536:Int) ^ 8=340282366920938463463374607431768211456:=by decide
 unfold eqFrom
 rw [e]
 have:(a<0)↔(b<0):=by simpa using h
 omega
theorem cmpZ_lt {a b:Int} (h:a<b):cmpZ a b = -1:=by simp [cmpZ,h]
theorem cmpZ_gt {a b:Int} (h:b<a):cmpZ a b=1:=by unfold cmpZ;rw [if_neg (by omega),if_neg (by omega)]
theorem cmpZ_eq {a b:Int} (h:a=b):cmpZ a b=0:=by simp [cmpZ,h]
theorem below_any (d0 d1 d2 d3 d4 d5 d6 d7:Int) (w:World) :
  Calls Tryz.prog 141 #[.agg #[.int .u32 d0,.int .u32 d1,.int .u32 d2,.int .u32 d3,.int .u32 d4,.int .u32 d5,.int .u32 d6,.int .u32 d7]] w (Ret (.bool (d7 / 32768 == 1)) w):=by
 go_enter Tryz.func141,Tryz.ntmps141
 go_wp2
 go_returns
 exact ret_bool rfl (by go_grown)
theorem bcmp_calls (a b:Int) (h1 : -170141183460469231731687303715884105728≤a) (h2:a<170141183460469231731687303715884105728) (h3 : -170141183460469231731687303715884105728≤b) (h4:b<170141183460469231731687303715884105728) (w:World) :
  Calls Tryz.prog 132 #[bigV a,bigV b] w (Ret (.int .i64 (cmpZ a b)) w):=by
 obtain ⟨W,hW⟩:∃ W,W=(w.alloc (.cells (#[.int .u32 (digs a 0),.int .u32 (digs a 1),.int .u32 (digs a 2),.int .u32 (digs a 3),.int .u32 (digs a 4),.int .u32 (digs a 5),.int .u32 (digs a 6),.int .u32 (digs a 7)]) 168)).alloc (.cells (#[.int .u32 (digs b 0),.int .u32 (digs b 1),.int .u32 (digs b 2),.int .u32 (digs b 3),.int .u32 (digs b 4),.int .u32 (digs b 5),.int .u32 (digs b 6),.int .u32 (digs b 7)]) 168):=⟨_,rfl⟩
 have hA:Blk8 W w.heap.size (digs a):=by subst hW;exact ((Blk8.here w _ (digs a)).alloc (by simp) _)
 have hBb:Blk8 W (w.heap.size+1) (digs b):=by subst hW;simpa using (Blk8.here (w.alloc _) 168 (digs b))
 have hB:Below w.heap.size w W:=by subst hW;go_grown
 have hsz:w.heap.size+2≤W.heap.size:=by subst hW;simp
 obtain ⟨a0,a1,a2,a3,a4,a5,a6,a7⟩:=hA.all
 obtain ⟨b0,b1,b2,b3,b4,b5,b6,b7⟩:=hBb.all
 have HA:=hid hA
 have HB:=hid hBb
 have R:=hid (And.intro h1 (And.intro h2 (And.intro h3 h4)))
 clear hA hBb h1 h2 h3 h4
 have HE:Hid (decide (a<0)=decide (b<0)→eqFrom a b 8):=fun h=>eqFrom_eight R.out.1 R.out.2.1 R.out.2.2.1 R.out.2.2.2 h
 have ea:=shr15 a R.out.1 R.out.2.1
 have eb:=shr15 b R.out.2.2.1 R.out.2.2.2
 have na:=digs_nonneg a 7
 have nb:=digs_nonneg b 7
 go_enter Tryz.func132,Tryz.ntmps132
 go_upto_region 1 with fail
 rw [← hW]
 have HW:=hid hW
 clear hW
 go_cut [10] from 6 (fun t wx=>t = .bool ((digs a 7 / 32768 == 1) != (digs b 7 / 32768 == 1))∧Below w.heap.size w wx∧Blk8 wx w.heap.size (digs a)∧Blk8 wx (w.heap.size+1) (digs b))
 case first =>
  clear ea eb na nb
  go_region_with (go_at_call 141;first | (refine (below_any _ _ _ _ _ _ _ _ _).mono ?_;rintro e w1 ⟨rfl,hb1⟩;have HB1:=hid ((HB.out.drew).below hb1 HB.out.lt);have HA1:=hid ((HA.out.drew).below hb1 HA.out.lt);obtain ⟨p0,p1,p2,p3,p4,p5,p6,p7⟩:=HB1.out.all) | (refine (below_any _ _ _ _ _ _ _ _ _).mono ?_;rintro e w2 ⟨rfl,hb2⟩))
  all_goals
   go_wp2_with fail
   go_meet
   exact ⟨rfl,(Below.drew hB).trans ((hb1.mono (show w.heap.size≤W.drew.heap.size from hB.size)).trans (hb2.mono (Nat.le_trans hB.size hb1.size))),HA1.out.below hb2 HA1.out.lt,HB1.out.below hb2 HB1.out.lt⟩
 case rest =>
  obtain ⟨rfl,hB2,hA2,hBb2⟩:=hcut
  clear a0 a1 a2 a3 a4 a5 a6 a7 b0 b1 b2 b3 b4 b5 b6 b7
  cases hsa:decide (a<0) <;> cases hsb:decide (b<0)
  case false.true | true.false =>
   rw [hsa] at ea
   rw [hsb] at eb
   have hx:((digs a 7 / 32768 == 1) != (digs b 7 / 32768 == 1))=true:=by rw [ea,eb];rfl
   rw [hx]
   clear hx
   obtain ⟨a0,a1,a2,a3,a4,a5,a6,a7⟩:=hA2.all
   have sa:¬ (decide (a<0)=true↔decide (b<0)=true):=by rw [hsa,hsb];simp
   simp only [decide_eq_true_iff] at sa
   have sa2:decide (a<0)=true∨decide (a<0)=false:=by cases decide (a<0) <;> simp
   have SA:=hid hsa
   have SB:=hid hsb
   have SC:=hid sa
   clear hsa hsb hA2 hBb2 sa sa2
   go_wp2_with (go_at_call 141;refine (below_any _ _ _ _ _ _ _ _ _).mono ?_;rintro e w1 ⟨rfl,hb1⟩)
   go_returns
   refine ret_int ?_ (hB2.trans (hb1.mono hB2.size))
   have h1:=SA.out
   have h2:=SB.out
   simp only [decide_eq_false_iff_not,decide_eq_true_iff] at h1 h2
   first | exact (cmpZ_gt (by omega)).symm | exact (cmpZ_lt (by omega)).symm
  case false.false | true.true =>
   have h8:=HE.out (by rw [hsa,hsb])
   rw [hsa] at ea
   rw [hsb] at eb
   have hx:((digs a 7 / 32768 == 1) != (digs b 7 / 32768 == 1))=false:=by rw [ea,eb];rfl
   rw [hx]
   clear hx
   have H8:=hid h8
   clear h8 hsa hsb
   have HA2:=hid hA2
   have HB2:=hid hBb2
   clear hA2 hBb2
   go_wp2
   go_loopw [5] (fun i wr=>∃ q:Int,-1≤q∧q≤7∧i = .int .i64 q∧eqFrom a b (q+1).toNat∧Below w.heap.size w wr∧Blk8 wr w.heap.size (digs a)∧Blk8 wr (w.heap.size+1) (digs b)) (fun i _=>(intOf i+1).toNat)
   case atStart=>exact ⟨7,by omega,by omega,rfl,H8.out,hB2,HA2.out,HB2.out⟩
   case round =>
    obtain ⟨q,hq1,hq2,rfl,hE,hB3,hA3,hBb3⟩:=hrel
    by_cases hq:0≤q
    ·obtain ⟨m, rfl⟩ := Int.eq_ofNat_of_zero_le hq
     have hm:m<8:=by omega
     have ca:=hA3.cell m hm
     have cb:=hBb3.cell m hm
     have HE:=hid hE
     have HA3:=hid hA3
     have HB3:=hid hBb3
     clear hE hA3 hBb3
     by_cases hne:digs a m=digs b m
     ·have hd : (digs a m != digs b m) = false := by simp [hne]
      have HN:=hid hne
      clear hne
      go_wp2
      go_quiet (fail)
      go_wp2
      exact ⟨⟨(m:Int)-1,by omega,by omega,rfl,by rw [show ((m:Int)-1+1).toNat=m by omega];exact eqFrom_step (by have:=HE.out;rwa [show ((m:Int)+1).toNat=m+1 by omega] at this) HN.out,below_drewN' hB3 _,HA3.out.drewN _,HB3.out.drewN _⟩,by simp [intOf]⟩
     ·have hd : (digs a m != digs b m) = true := by simp [hne]
      have HN:=hid hne
      clear hne
      go_wp2
      go_quiet (fail)
      go_wp2
      go_quiet (fail)
      go_wp2
      all_goals
       go_returns
       have hE2:=HE.out
       rw [show ((m:Int)+1).toNat=m+1 by omega] at hE2
      ·exact ret_int (cmpZ_lt (lt_of_digs hE2 (by assumption))).symm (below_drewN' (below_drewN' hB3 _) _)
      ·have hge : digs b m ≤ digs a m := by assumption
       have hne2:digs a m≠digs b m:=HN.out
       exact ret_int (cmpZ_gt (lt_of_digs (i:=m) (show eqFrom b a (m+1) from hE2.symm) (by omega))).symm (below_drewN' (below_drewN' hB3 _) _)
    ·obtain rfl : q = -1 := by omega
     have HE:=hid hE
     clear hE hA3 hBb3
     go_wp2
     go_returns
     exact ret_int (cmpZ_eq (eqFrom_zero HE.out)).symm hB3
theorem keepCell {w' w'':World} {b o:Nat} {v:Value} (hb:Below w'.heap.size w' w'') (h:w'.cell? ⟨b,o,none⟩=some v):w''.cell? ⟨b,o,none⟩=some v:=((bcell hb).1 _ _ (lt_of_cell h)).trans h
theorem keepBlk {w' w'':World} {g:Nat} {o:Nat→Int} (hb:Below w'.heap.size w' w'') (h:Blk8 w' g o):Blk8 w'' g o:=h.below hb h.lt
theorem keepBelow {w w' w'':World} (hb:Below w'.heap.size w' w'') (h:Below w.heap.size w w'):Below w.heap.size w w'':=h.trans (hb.mono h.size)

def There (w:World) (g n:Nat):Prop:=∀ j,j<n→(∃ v,w.cell? ⟨g,j,none⟩=some v)∧w.frozen? ⟨g,j,none⟩=false
theorem There.below {w w':World} {g n:Nat} (hb:Below w.heap.size w w') (h:There w g n):There w' g n:=fun j hj=>by
 obtain ⟨⟨v,hv⟩,hf⟩:=h j hj
 exact ⟨⟨v,keepCell hb hv⟩,((bcell hb).2 _ _ (lt_of_cell hv)).trans hf⟩
theorem There.set {w:World} {g n:Nat} (h:There w g n) (a:Addr) (u:Value):There (w.setCell a u) g n:=fun j hj=>by
 obtain ⟨⟨v,hv⟩,hf⟩:=h j hj
 obtain ⟨v',hv'⟩:=cell?_setCell_some (w:=w) (p:=a) (x:=u) hv
 exact ⟨⟨v',hv'⟩,by rw [World.frozen?_setCell];exact hf⟩
theorem There.of8 {w:World} {g:Nat} {o:Nat→Int} (h:Blk8 w g o):There w g 8:=fun j hj=>⟨⟨_,h.cell j hj⟩,h.free j⟩
theorem There.get8 {w : World} {g : Nat} (h : There w g 8) : ∃ z0 z1 z2 z3 z4 z5 z6 z7 : Value, w.cell? ⟨g, 0, none⟩ = some z0 ∧ w.cell? ⟨g, 1, none⟩ = some z1 ∧ w.cell? ⟨g, 2, none⟩ = some z2 ∧ w.cell? ⟨g, 3, none⟩ = some z3 ∧
  w.cell? ⟨g,4,none⟩=some z4∧w.cell? ⟨g,5,none⟩=some z5∧w.cell? ⟨g,6,none⟩=some z6∧w.cell? ⟨g,7,none⟩=some z7∧w.frozen? ⟨g,0,none⟩=false∧w.frozen? ⟨g,1,none⟩=false∧w.frozen? ⟨g,2,none⟩=false∧w.frozen? ⟨g,3,none⟩=false ∧
  w.frozen? ⟨g,4,none⟩=false∧w.frozen? ⟨g,5,none⟩=false∧w.frozen? ⟨g,6,none⟩=false∧w.frozen? ⟨g,7,none⟩=false:=by
 obtain ⟨⟨z0,h0⟩,f0⟩:=h 0 (by omega);obtain ⟨⟨z1,h1⟩,f1⟩:=h 1 (by omega);obtain ⟨⟨z2,h2⟩,f2⟩:=h 2 (by omega);obtain ⟨⟨z3,h3⟩,f3⟩:=h 3 (by omega)
 obtain ⟨⟨z4,h4⟩,f4⟩:=h 4 (by omega);obtain ⟨⟨z5,h5⟩,f5⟩:=h 5 (by omega);obtain ⟨⟨z6,h6⟩,f6⟩:=h 6 (by omega);obtain ⟨⟨z7,h7⟩,f7⟩:=h 7 (by omega)
 exact ⟨z0,z1,z2,z3,z4,z5,z6,z7,h0,h1,h2,h3,h4,h5,h6,h7,f0,f1,f2,f3,f4,f5,f6,f7⟩
theorem There.get2 {w:World} {g:Nat} (h:There w g 2):∃ z0 z1:Value,w.cell? ⟨g,0,none⟩=some z0∧w.cell? ⟨g,1,none⟩=some z1∧w.frozen? ⟨g,0,none⟩=false∧w.frozen? ⟨g,1,none⟩=false:=by
 obtain ⟨⟨z0,h0⟩,f0⟩:=h 0 (by omega);obtain ⟨⟨z1,h1⟩,f1⟩:=h 1 (by omega)
 exact ⟨z0,z1,h0,h1,f0,f1⟩
theorem far1 {w:World} {b o g i:Nat} {u v:Value} (hne:g≠b) (h:w.cell? ⟨b,o,none⟩=some v):(w.setCell ⟨g,i,none⟩ u).cell? ⟨b,o,none⟩=some v:=by
 rw [World.cell?_setCell_other _ _ _ _ (by intro e;exact hne (congrArg Addr.block e))];exact h
theorem far2 {w:World} {b o g:Nat} {u0 u1 v:Value} (hne:g≠b) (h:w.cell? ⟨b,o,none⟩=some v):((w.setCell ⟨g,0,none⟩ u0).setCell ⟨g,1,none⟩ u1).cell? ⟨b,o,none⟩=some v:=far1 hne (far1 hne h)
theorem far8 {w:World} {b o g:Nat} {u0 u1 u2 u3 u4 u5 u6 u7 v:Value} (hne:g≠b) (h:w.cell? ⟨b,o,none⟩=some v) :
  ((((((((w.setCell ⟨g,0,none⟩ u0).setCell ⟨g,1,none⟩ u1).setCell ⟨g,2,none⟩ u2).setCell ⟨g,3,none⟩ u3).setCell ⟨g,4,none⟩ u4).setCell ⟨g,5,none⟩ u5).setCell ⟨g,6,none⟩ u6).setCell ⟨g,7,none⟩ u7).cell? ⟨b,o,none⟩=some v :=
 far1 hne (far1 hne (far1 hne (far1 hne (far1 hne (far1 hne (far1 hne (far1 hne h)))))))
theorem rcross_calls (a b c d:Int) (r1 : -9223372036854775808≤a∧a≤9223372036854775807) (r2 : -9223372036854775808≤b∧b≤9223372036854775807) (r3 : -9223372036854775808≤c∧c≤9223372036854775807) (r4 : -9223372036854775808≤d∧d≤9223372036854775807) (w:World) :
  Calls Tryz.prog 131 #[vecV a b,vecV c d] w (Ret (bigV (a*d-b*c)) w):=by
 obtain ⟨W,hW⟩:∃ W,W=((w.alloc (.cells #[.int .i64 a,.int .i64 b] 27)).alloc (.cells #[.int .i64 c,.int .i64 d] 27)).alloc (.cells (#[.int .u32 0,.int .u32 0,.int .u32 0,.int .u32 0,.int .u32 0,.int .u32 0,.int .u32 0,.int .u32 0]) 168):=⟨_,rfl⟩
 have ha:W.cell? ⟨w.heap.size,0,none⟩=some (.int .i64 a):=by subst hW;go_simp
 have hb:W.cell? ⟨w.heap.size,1,none⟩=some (.int .i64 b):=by subst hW;go_simp
 have hc:W.cell? ⟨w.heap.size+1,0,none⟩=some (.int .i64 c):=by subst hW;go_simp
 have hd:W.cell? ⟨w.heap.size+1,1,none⟩=some (.int .i64 d):=by subst hW;go_simp
 have hZ:Blk8 W (w.heap.size+2) (fun _=>0):=by subst hW;simpa using (Blk8.here ((w.alloc _).alloc _) 168 (fun _=>0))
 have hB:Below w.heap.size w W:=by subst hW;go_grown
 have s1:W.drew.cell? ⟨w.heap.size,0,none⟩=some (.int .i64 a)∧W.drew.cell? ⟨w.heap.size,1,none⟩=some (.int .i64 b)∧W.drew.cell? ⟨w.heap.size+1,0,none⟩=some (.int .i64 c)∧W.drew.cell? ⟨w.heap.size+1,1,none⟩=some (.int .i64 d)∧There W.drew (w.heap.size+2) 8∧Below w.heap.size w W.drew:=⟨ha,hb,hc,hd,There.of8 hZ.drew,hB.drew⟩
 clear ha hb hc hd hZ hB
 have S1:=hid s1
 clear s1
 go_enter Tryz.func131,Tryz.ntmps131
 go_wp2
 rw [← hW]
 have HW:=hid hW
 clear hW
 go_region_held3 (fun w' => w'.cell? ⟨w.heap.size, 0, none⟩ = some (.int .i64 a) ∧ w'.cell? ⟨w.heap.size, 1, none⟩ = some (.int .i64 b) ∧ w'.cell? ⟨w.heap.size + 1, 0, none⟩ = some (.int .i64 c) ∧ w'.cell? ⟨w.heap.size + 1, 1, none⟩ = some (.int .i64 d) ∧ There w' (w.heap.size + 2) 8 ∧ Below w.heap.size w w')
  (first | with_reducible exact S1.out | with_reducible exact ⟨g1,g2,g3,g4,g5,g6⟩ | with_reducible exact ⟨far8 (by omega) g1,far8 (by omega) g2,far8 (by omega) g3,far8 (by omega) g4,((((((((g5.set _ _).set _ _).set _ _).set _ _).set _ _).set _ _).set _ _).set _ _),by go_grown⟩ | (go_split_ands;with_reducible exact ⟨keepCell hb1 (by assumption),keepCell hb1 (by assumption),keepCell hb1 (by assumption),keepCell hb1 (by assumption),There.below hb1 (by assumption),keepBelow hb1 (by assumption)⟩))
  (first | (go_at_call 133;refine (of_calls _ (by omega) (by omega) _).mono ?_;rintro e w1 ⟨rfl,hb1⟩) | (go_at_call 144;refine (mul_calls _ _ _).mono ?_;rintro e w1 ⟨rfl,hb1⟩) | (go_at_call 142;refine (bsub_calls _ _ _).mono ?_;rintro e w1 ⟨rfl,hb1⟩;go_split_ands;have g1:w1.cell? ⟨w.heap.size,0,none⟩=some (.int .i64 a):=keepCell hb1 (by assumption);have g2:w1.cell? ⟨w.heap.size,1,none⟩=some (.int .i64 b):=keepCell hb1 (by assumption);have g3:w1.cell? ⟨w.heap.size+1,0,none⟩=some (.int .i64 c):=keepCell hb1 (by assumption);have g4:w1.cell? ⟨w.heap.size+1,1,none⟩=some (.int .i64 d):=keepCell hb1 (by assumption);have g5:There w1 (w.heap.size+2) 8:=There.below hb1 (by assumption);have g6:Below w.heap.size w w1:=keepBelow hb1 (by assumption);obtain ⟨z0,z1,z2,z3,z4,z5,z6,z7,y0,y1,y2,y3,y4,y5,y6,y7,f0,f1,f2,f3,f4,f5,f6,f7⟩:=g5.get8))
 go_wp2
 refine bodyPost_ret (v:=bigV (a*d-b*c)) (by simp [results,Tryz.results131,go_sem,y0,y1,y2,y3,y4,y5,y6,y7]) rfl ⟨rfl,?_⟩
 go_grown
theorem rdot_calls (a b c d:Int) (r1 : -9223372036854775808≤a∧a≤9223372036854775807) (r2 : -9223372036854775808≤b∧b≤9223372036854775807) (r3 : -9223372036854775808≤c∧c≤9223372036854775807) (r4 : -9223372036854775808≤d∧d≤9223372036854775807) (w:World) :
  Calls Tryz.prog 140 #[vecV a b,vecV c d] w (Ret (bigV (a*c+b*d)) w):=by
 obtain ⟨W,hW⟩:∃ W,W=((w.alloc (.cells #[.int .i64 a,.int .i64 b] 27)).alloc (.cells #[.int .i64 c,.int .i64 d] 27)).alloc (.cells (#[.int .u32 0,.int .u32 0,.int .u32 0,.int .u32 0,.int .u32 0,.int .u32 0,.int .u32 0,.int .u32 0]) 168):=⟨_,rfl⟩
 have ha:W.cell? ⟨w.heap.size,0,none⟩=some (.int .i64 a):=by subst hW;go_simp
 have hb:W.cell? ⟨w.heap.size,1,none⟩=some (.int .i64 b):=by subst hW;go_simp
 have hc:W.cell? ⟨w.heap.size+1,0,none⟩=some (.int .i64 c):=by subst hW;go_simp
 have hd:W.cell? ⟨w.heap.size+1,1,none⟩=some (.int .i64 d):=by subst hW;go_simp
 have hZ:Blk8 W (w.heap.size+2) (fun _=>0):=by subst hW;simpa using (Blk8.here ((w.alloc _).alloc _) 168 (fun _=>0))
 have hB:Below w.heap.size w W:=by subst hW;go_grown
 have s1:W.drew.cell? ⟨w.heap.size,0,none⟩=some (.int .i64 a)∧W.drew.cell? ⟨w.heap.size,1,none⟩=some (.int .i64 b)∧W.drew.cell? ⟨w.heap.size+1,0,none⟩=some (.int .i64 c)∧W.drew.cell? ⟨w.heap.size+1,1,none⟩=some (.int .i64 d)∧There W.drew (w.heap.size+2) 8∧Below w.heap.size w W.drew:=⟨ha,hb,hc,hd,There.of8 hZ.drew,hB.drew⟩
 clear ha hb hc hd hZ hB
 have S1:=hid s1
 clear s1
 go_enter Tryz.func140,Tryz.ntmps140
 go_wp2
 rw [← hW]
 have HW:=hid hW
 clear hW
 go_region_held3 (fun w' => w'.cell? ⟨w.heap.size, 0, none⟩ = some (.int .i64 a) ∧ w'.cell? ⟨w.heap.size, 1, none⟩ = some (.int .i64 b) ∧ w'.cell? ⟨w.heap.size + 1, 0, none⟩ = some (.int .i64 c) ∧ w'.cell? ⟨w.heap.size + 1, 1, none⟩ = some (.int .i64 d) ∧ There w' (w.heap.size + 2) 8 ∧ Below w.heap.size w w')
  (first | with_reducible exact S1.out | with_reducible exact ⟨g1,g2,g3,g4,g5,g6⟩ | with_reducible exact ⟨far8 (by omega) g1,far8 (by omega) g2,far8 (by omega) g3,far8 (by omega) g4,((((((((g5.set _ _).set _ _).set _ _).set _ _).set _ _).set _ _).set _ _).set _ _),by go_grown⟩ | (go_split_ands;with_reducible exact ⟨keepCell hb1 (by assumption),keepCell hb1 (by assumption),keepCell hb1 (by assumption),keepCell hb1 (by assumption),There.below hb1 (by assumption),keepBelow hb1 (by assumption)⟩))
  (first | (go_at_call 133;refine (of_calls _ (by omega) (by omega) _).mono ?_;rintro e w1 ⟨rfl,hb1⟩) | (go_at_call 144;refine (mul_calls _ _ _).mono ?_;rintro e w1 ⟨rfl,hb1⟩) | (go_at_call 186;refine (add_calls _ _ _).mono ?_;rintro e w1 ⟨rfl,hb1⟩;go_split_ands;have g1:w1.cell? ⟨w.heap.size,0,none⟩=some (.int .i64 a):=keepCell hb1 (by assumption);have g2:w1.cell? ⟨w.heap.size,1,none⟩=some (.int .i64 b):=keepCell hb1 (by assumption);have g3:w1.cell? ⟨w.heap.size+1,0,none⟩=some (.int .i64 c):=keepCell hb1 (by assumption);have g4:w1.cell? ⟨w.heap.size+1,1,none⟩=some (.int .i64 d):=keepCell hb1 (by assumption);have g5:There w1 (w.heap.size+2) 8:=There.below hb1 (by assumption);have g6:Below w.heap.size w w1:=keepBelow hb1 (by assumption);obtain ⟨z0,z1,z2,z3,z4,z5,z6,z7,y0,y1,y2,y3,y4,y5,y6,y7,f0,f1,f2,f3,f4,f5,f6,f7⟩:=g5.get8))
 go_wp2
 refine bodyPost_ret (v:=bigV (a*c+b*d)) (by simp [results,Tryz.results140,go_sem,y0,y1,y2,y3,y4,y5,y6,y7]) rfl ⟨rfl,?_⟩
 go_grown

def sm (a:Int):Prop := -1099511627776≤a∧a≤1099511627776
theorem sub_small (a b c d:Int) (w:World) (ha:sm a) (hb:sm b) (hc:sm c) (hd:sm d) :
  Calls Tryz.prog 101 #[vecV a b,vecV c d] w (Ret (vecV (a-c) (b-d)) w):=by
 have h:=sub_calls a b c d w
 unfold sm at *
 rwa [wrap64_id (n:=a-c) (by omega) (by omega),wrap64_id (n:=b-d) (by omega) (by omega)] at h
theorem bigV_zero:bigV 0 = .agg #[.int .u32 0,.int .u32 0,.int .u32 0,.int .u32 0,.int .u32 0,.int .u32 0,.int .u32 0,.int .u32 0]:=by simp [bigV,digs]
theorem cross_bd {x y u v:Int} (h1 : -2199023255552≤x∧x≤2199023255552) (h2 : -2199023255552≤y∧y≤2199023255552) (h3 : -2199023255552≤u∧u≤2199023255552) (h4 : -2199023255552≤v∧v≤2199023255552) :
  -170141183460469231731687303715884105728≤x*v-y*u∧x*v-y*u<170141183460469231731687303715884105728:=by
 have m1:=mul_bd h1.1 h1.2 h4.1 h4.2
 have m2:=mul_bd h2.1 h2.2 h3.1 h3.2
 omega
theorem left_calls (a b c d p q:Int) (r1:sm a) (r2:sm b) (r3:sm c) (r4:sm d) (r5:sm p) (r6:sm q) (w:World) :
  Calls Tryz.prog 138 #[vecV a b,vecV c d,vecV p q] w (Ret (.int .i64 (cmpZ (sideZ a b c d p q) 0)) w):=by
 have hz:=bigV_zero
 obtain ⟨W,hW⟩:∃ W,W=((w.alloc (.cells #[.int .i64 a,.int .i64 b] 27)).alloc (.cells #[.int .i64 c,.int .i64 d] 27)).alloc (.cells #[.int .i64 p,.int .i64 q] 27):=⟨_,rfl⟩
 have s1:W.drew.cell? ⟨w.heap.size,0,none⟩=some (.int .i64 a)∧W.drew.cell? ⟨w.heap.size,1,none⟩=some (.int .i64 b)∧W.drew.cell? ⟨w.heap.size+1,0,none⟩=some (.int .i64 c)∧W.drew.cell? ⟨w.heap.size+1,1,none⟩=some (.int .i64 d)∧W.drew.cell? ⟨w.heap.size+2,0,none⟩=some (.int .i64 p)∧W.drew.cell? ⟨w.heap.size+2,1,none⟩=some (.int .i64 q)∧Below w.heap.size w W.drew:=by
  subst hW
  exact ⟨by go_simp,by go_simp,by go_simp,by go_simp,by go_simp,by go_simp,by go_grown⟩
 have S1:=hid s1
 clear s1
 have R1:=hid (And.intro (cross_bd (x:=c-a) (y:=d-b) (u:=p-a) (v:=q-b) (by unfold sm at *;omega) (by unfold sm at *;omega) (by unfold sm at *;omega) (by unfold sm at *;omega)) True.intro)
 have L1 : -9223372036854775808≤c-a∧c-a≤9223372036854775807:=by unfold sm at *;omega
 have L2 : -9223372036854775808≤d-b∧d-b≤9223372036854775807:=by unfold sm at *;omega
 have L3 : -9223372036854775808≤p-a∧p-a≤9223372036854775807:=by unfold sm at *;omega
 have L4 : -9223372036854775808≤q-b∧q-b≤9223372036854775807:=by unfold sm at *;omega
 have L:=hid (And.intro L1 (And.intro L2 (And.intro L3 L4)))
 clear L1 L2 L3 L4
 have HZ:=hid hz
 clear hz
 go_enter Tryz.func138,Tryz.ntmps138
 go_wp2
 rw [← hW]
 have HW:=hid hW
 clear hW
 go_region_held3 (fun w' => w'.cell? ⟨w.heap.size, 0, none⟩ = some (.int .i64 a) ∧ w'.cell? ⟨w.heap.size, 1, none⟩ = some (.int .i64 b) ∧ w'.cell? ⟨w.heap.size + 1, 0, none⟩ = some (.int .i64 c) ∧ w'.cell? ⟨w.heap.size + 1, 1, none⟩ = some (.int .i64 d) ∧ w'.cell? ⟨w.heap.size + 2, 0, none⟩ = some (.int .i64 p) ∧ w'.cell? ⟨w.heap.size + 2, 1, none⟩ = some (.int .i64 q) ∧ Below w.heap.size w w')
  (first | with_reducible exact S1.out | (with_reducible assumption) | (go_split_ands;with_reducible exact ⟨keepCell hb1 (by assumption),keepCell hb1 (by assumption),keepCell hb1 (by assumption),keepCell hb1 (by assumption),keepCell hb1 (by assumption),keepCell hb1 (by assumption),keepBelow hb1 (by assumption)⟩))
  (first | (go_at_call 101;refine (sub_small _ _ _ _ _ (by assumption) (by assumption) (by assumption) (by assumption)).mono ?_;rintro e w1 ⟨rfl,hb1⟩) | (go_at_call 131;refine (rcross_calls _ _ _ _ L.out.1 L.out.2.1 L.out.2.2.1 L.out.2.2.2 _).mono ?_;rintro e w1 ⟨rfl,hb1⟩) | (go_at_call 132;rw [← HZ.out];refine (bcmp_calls _ 0 R1.out.1.1 R1.out.1.2 (by omega) (by omega) _).mono ?_;rintro e w1 ⟨rfl,hb1⟩))
 go_wp2
 go_returns
 go_split_ands
 exact ret_int rfl (by assumption)
end
end Go.Proofs.YtiaoandbdgdecaaGreat
