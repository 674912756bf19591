/- Parts of a proof: contracts and laws. -/
import Derived.Test.YtokgmcomgflloaaGreatQX00
import Derived.RegionTactic
import Derived.ChangeAlike
import Derived.Deep.QuietTactic
import Derived.BigQuiet
import Derived.Deep.RegionWith
import Derived.Deep.DeepCutAuto
import Derived.Deep.RegionHeld3
set_option maxRecDepth 100000
set_option maxHeartbeats 16000000
namespace Go.Proofs.YtokgmcomgflloaaGreat
section
set_option linter.unusedVariables false
set_option linter.unusedSimpArgs false
open Go.RowKit
variable {w0 w w':World}

def aA (z:Int) (i:Nat):Int:=z / 65536 ^ i % 65536
theorem dO (z:Int) (i:Nat):0≤aA z i:=Int.emod_nonneg _ (by omega)
theorem ko (z:Int) (i:Nat):aA z i≤65535:=by have:=Int.emod_lt_of_pos (z / 65536 ^ i) (show (0:Int)<65536 by omega);unfold aA;omega

def rV (a b:Int) (i:Nat):Int:=(a % 65536 ^ i+b % 65536 ^ i) / 65536 ^ i
theorem Dz (a b:Int):rV a b 0=0:=by simp [rV,Int.emod_one]
theorem fB (i:Nat):(0:Int)<65536 ^ i:=Int.pow_pos (by omega)
theorem Gt (a b:Int) (i:Nat):0≤rV a b i∧rV a b i≤1:=by
 have h:=fB i;have h1:=Int.emod_nonneg a (Int.ne_of_gt h);have h2:=Int.emod_nonneg b (Int.ne_of_gt h);have h3:=Int.emod_lt_of_pos a h;have h4:=Int.emod_lt_of_pos b h;unfold rV;refine ⟨Int.ediv_nonneg (by omega) (by omega),?_⟩;have:(a % 65536 ^ i+b % 65536 ^ i) / 65536 ^ i<2:=Int.ediv_lt_of_lt_mul h (by omega);omega
theorem kD {z M B:Int} (hM:0≤M):z / M / B=z / (M*B):=by
 rw [Int.ediv_ediv,if_neg (by omega),Int.sub_zero]
theorem mod_mul (z M B:Int) (hM:0<M):z % (M*B)=z % M+M*(z / M % B):=by
 have h1:=Int.emod_add_mul_ediv z M;have h2:=Int.emod_add_mul_ediv (z / M) B;have h3:=Int.emod_add_mul_ediv z (M*B);have h4:z / (M*B)=z / M / B:=(kD (Int.le_of_lt hM)).symm;rw [h4] at h3
 have h5:M*(z / M)=M*(z / M % B)+M*B*(z / M / B):=by
  rw [Int.mul_assoc,← Int.mul_add,h2]
 omega
theorem lI (z:Int) (i:Nat):z % 65536 ^ (i+1)=z % 65536 ^ i+65536 ^ i*aA z i:=by
 rw [Int.pow_succ,mod_mul z _ _ (fB i)];rfl

def mG (Y x b:Int) (k:Nat):Int:=(Y % 65536 ^ k+x*(b % 65536 ^ k)) / 65536 ^ k
theorem Dt (Y x b:Int):mG Y x b 0=0:=by simp [mG,Int.emod_one]
theorem F7 (Y x b:Int) (k:Nat) (h0:0≤x) (h1:x≤65535):0≤mG Y x b k∧mG Y x b k≤65535:=by
 have h:=fB k;have h1':=Int.emod_nonneg Y (Int.ne_of_gt h);have h2:=Int.emod_nonneg b (Int.ne_of_gt h);have h3:=Int.emod_lt_of_pos Y h;have h4:=Int.emod_lt_of_pos b h;generalize hM:(65536:Int) ^ k=M at *
 unfold mG;rw [hM];have h5:=Int.mul_nonneg h0 h2;have h6:x*(b % M)≤65535*(M-1):=Int.mul_le_mul h1 (by omega) h2 (by omega);refine ⟨Int.ediv_nonneg (by omega) (by omega),?_⟩;have:(Y % M+x*(b % M)) / M<65536:=Int.ediv_lt_of_lt_mul h (by omega);omega
theorem ET (Y x b:Int) (k:Nat):(Y+x*b) / 65536 ^ k=Y / 65536 ^ k+x*(b / 65536 ^ k)+mG Y x b k:=by
 have h:=fB k;generalize hM:(65536:Int) ^ k=M at *
 unfold mG;rw [hM]
 have e:Y+x*b=(Y % M+x*(b % M))+(Y / M+x*(b / M))*M:=by
  have h1:=Int.emod_add_mul_ediv Y M;have h2:=Int.emod_add_mul_ediv b M;generalize Y % M=y0 at *
  generalize Y / M=y1 at *
  generalize b % M=b0 at *
  generalize b / M=b1 at *
  rw [← h1,← h2];grind
 rw [e,Int.add_mul_ediv_right _ _ (Int.ne_of_gt h)];omega
theorem rU (Y x b:Int) (k:Nat):aA (Y+x*b) k=(mG Y x b k+(x*aA b k+aA Y k)) % 65536:=by
 unfold aA;rw [ET];generalize mG Y x b k=c;generalize Y / 65536 ^ k=y;generalize b / 65536 ^ k=z;have h1:=Int.emod_add_mul_ediv y 65536;have h2:=Int.emod_add_mul_ediv z 65536;have e:y+x*z+c=(c+(x*(z % 65536)+y % 65536))+65536*(y / 65536+x*(z / 65536)):=by grind
 rw [e,Int.add_mul_emod_self_left]
theorem tN (Y x b:Int) (k:Nat):mG Y x b (k+1)=(mG Y x b k+(x*aA b k+aA Y k)) / 65536:=by
 have h:=fB k;unfold mG;rw [lI,lI,Int.pow_succ,← kD (Int.le_of_lt h)]
 congr 1
 have e:Y % 65536 ^ k+65536 ^ k*aA Y k+x*(b % 65536 ^ k+65536 ^ k*aA b k)=(Y % 65536 ^ k+x*(b % 65536 ^ k))+(x*aA b k+aA Y k)*65536 ^ k:=by grind
 rw [e,Int.add_mul_ediv_right _ _ (Int.ne_of_gt h)]
theorem qK (a b:Int) (i:Nat):rV a b i=mG a 1 b i:=by simp [rV,mG]
theorem Dm (a b:Int) (i:Nat):aA (a+b) i=(rV a b i+(aA a i+aA b i)) % 65536:=by
 have:=rU a 1 b i;rw [qK];simp only [Int.one_mul] at this;rw [this]
 congr 1
 omega
theorem Dl (a b:Int) (i:Nat):rV a b (i+1)=(rV a b i+(aA a i+aA b i)) / 65536:=by
 have:=tN a 1 b i;rw [qK,qK];simp only [Int.one_mul] at this;rw [this]
 congr 1
 omega

theorem mR (z:Int) (i k:Nat):aA (z / 65536 ^ i) k=aA z (i+k):=by
 unfold aA;rw [kD (Int.le_of_lt (fB i)),← Int.pow_add]
theorem Dh (X y b:Int) (i:Nat):(X+65536 ^ i*y*b) / 65536 ^ i=X / 65536 ^ i+y*b:=by
 have h:=fB i;rw [show 65536 ^ i*y*b=(y*b)*65536 ^ i by grind,Int.add_mul_ediv_right _ _ (Int.ne_of_gt h)]
theorem yE (X y:Int) (i j:Nat) (h:j<i):aA (X+65536 ^ i*y) j=aA X j:=by
 unfold aA;obtain ⟨d,rfl⟩:∃ d,i=j+(d+1):=⟨i-j-1,by omega⟩;have hj:=fB j;rw [show (65536:Int) ^ (j+(d+1))*y=(65536*(65536 ^ d*y))*65536 ^ j by rw [Int.pow_add,Int.pow_succ];grind,Int.add_mul_ediv_right _ _ (Int.ne_of_gt hj),Int.add_mul_emod_self_left]
theorem mod_self (a:Int) (i:Nat):a % 65536 ^ (i+1)=a % 65536 ^ i+65536 ^ i*aA a i:=lI a i


theorem jR (z:Int) (h0:0≤z) (h1:z<18446744073709551616):bits .and .u64 z 65535=z % 65536:=by go_bits2
theorem BO (z:Int) (h0:0≤z) (h1:z<4294967296):bits .and .u32 z 65535=z % 65536:=by go_bits2
theorem of_low (n:Int) (k:Nat) (hk:k<4):bits .and .u64 (IntKind.u64.wrap n / 2 ^ (16*k)) 65535 % 4294967296=aA n k:=by
 rw [IntKind.wrap_u64]
 match k,hk with
 | 0,_=>rw [jR _ (by omega) (by omega)];simp only [aA,Int.reducePow,Nat.reduceMul];omega
 | 1,_=>rw [jR _ (by omega) (by omega)];simp only [aA,Int.reducePow,Nat.reduceMul];omega
 | 2,_=>rw [jR _ (by omega) (by omega)];simp only [aA,Int.reducePow,Nat.reduceMul];omega
 | 3,_=>rw [jR _ (by omega) (by omega)];simp only [aA,Int.reducePow,Nat.reduceMul];omega
theorem AY (n:Int) (k:Nat) (h4:4≤k) (h8:k<8) (h1 : -9223372036854775808≤n) (h2:n≤9223372036854775807):aA n k=if n<0 then 65535 else 0:=by
 match k,h4,h8 with
 | 4,_,_=>simp only [aA,Int.reducePow];split <;> omega
 | 5,_,_=>simp only [aA,Int.reducePow];split <;> omega
 | 6,_,_=>simp only [aA,Int.reducePow];split <;> omega
 | 7,_,_=>simp only [aA,Int.reducePow];split <;> omega

abbrev iH (z:Int):Value:=.agg #[.int .u32 (aA z 0),.int .u32 (aA z 1),.int .u32 (aA z 2),.int .u32 (aA z 3),.int .u32 (aA z 4),.int .u32 (aA z 5),.int .u32 (aA z 6),.int .u32 (aA z 7)]

structure bD (w : World) (g : Nat) (o : Nat → Int) : Prop where
 cell:∀ j,j<8→w.cell? ⟨g,j,none⟩=some (.int .u32 (o j))
 free:∀ j,w.frozen? ⟨g,j,none⟩=false
theorem bD.set {g k:Nat} {o o':Nat→Int} {v:Int} (h:bD w g o) (hk:k<8) (hv:o' k=v) (ho:∀ j,j≠k→o' j=o j):bD (w.setCell ⟨g,k,none⟩ (.int .u32 v)) g o':=by
 refine ⟨fun j hj=>?_,fun j=>by rw [World.frozen?_setCell];exact h.free j⟩
 by_cases e:j=k
 ·subst e;rw [World.cell?_setCell_same _ _ _ (h.cell j hj),hv]
 ·rw [World.cell?_setCell_other _ _ _ _ (by simp only [ne_eq,Addr.mk.injEq,true_and,and_true];exact fun h=>e h.symm),h.cell j hj,ho j e]
theorem bD.below {B g:Nat} {o:Nat→Int} (h:bD w g o) (hb:Below B w w') (hg:g<B):bD w' g o :=
 ⟨fun j hj=>((bX hb).1 _ _ hg).trans (h.cell j hj),fun j=>((bX hb).2 _ _ hg).trans (h.free j)⟩
theorem bD.far {g:Nat} {o:Nat→Int} (h:bD w g o) {p:Addr} (hp:p.block≠g) (u:Value):bD (w.setCell p u) g o :=
 ⟨fun j hj=>by rw [World.cell?_setCell_other _ _ _ _ (by rintro rfl;exact hp rfl)];exact h.cell j hj,fun j=>by rw [World.frozen?_setCell];exact h.free j⟩
theorem bD.drew {g:Nat} {o:Nat→Int} (h:bD w g o):bD w.drew g o:=⟨h.cell,h.free⟩
theorem bD.drewN {g:Nat} {o:Nat→Int} (h:bD w g o) (n:Nat):bD (w.drewN n) g o:=⟨h.cell,h.free⟩
theorem bD.congr {g:Nat} {o o':Nat→Int} (h:bD w g o) (ho:∀ j,j<8→o j=o' j):bD w g o':=⟨fun j hj=>by rw [h.cell j hj,ho j hj],h.free⟩
theorem lt_of_cell {g i:Nat} {v:Value} (h:w.cell? ⟨g,i,none⟩=some v):g<w.heap.size:=by
 rcases Nat.lt_or_ge g w.heap.size with h1 | h1
 ·exact h1
 ·have : w.heap[g]? = none := Array.getElem?_eq_none h1;simp [World.cell?,this] at h
theorem bD.lt {g:Nat} {o:Nat→Int} (h:bD w g o):g<w.heap.size:=lt_of_cell (h.cell 0 (by omega))
theorem bD.all {g:Nat} {o:Nat→Int} (h:bD w g o) :
  w.cell? ⟨g,0,none⟩=some (.int .u32 (o 0))∧w.cell? ⟨g,1,none⟩=some (.int .u32 (o 1))∧w.cell? ⟨g,2,none⟩=some (.int .u32 (o 2))∧w.cell? ⟨g,3,none⟩=some (.int .u32 (o 3)) ∧
  w.cell? ⟨g,4,none⟩=some (.int .u32 (o 4))∧w.cell? ⟨g,5,none⟩=some (.int .u32 (o 5))∧w.cell? ⟨g,6,none⟩=some (.int .u32 (o 6))∧w.cell? ⟨g,7,none⟩=some (.int .u32 (o 7)) :=
 ⟨h.cell 0 (by omega),h.cell 1 (by omega),h.cell 2 (by omega),h.cell 3 (by omega),h.cell 4 (by omega),h.cell 5 (by omega),h.cell 6 (by omega),h.cell 7 (by omega)⟩
theorem bD.alloc {g:Nat} {o:Nat→Int} (h:bD w g o) (hg:g<w.heap.size) (x:Obj):bD (w.alloc x) g o :=
 h.below ((Below.refl _ _).alloc (Nat.le_refl _) x) hg
theorem bD.here (w:World) (t:TypeId) (o:Nat→Int):bD (w.alloc (.cells #[.int .u32 (o 0),.int .u32 (o 1),.int .u32 (o 2),.int .u32 (o 3),.int .u32 (o 4),.int .u32 (o 5),.int .u32 (o 6),.int .u32 (o 7)] t)) w.heap.size o:=by
 refine ⟨fun j hj=>?_,fun j=>by go_simp⟩
 match j,hj with
 | 0,_ | 1,_ | 2,_ | 3,_ | 4,_ | 5,_ | 6,_ | 7,_=>go_simp
theorem below_drewN' {B:Nat} {a w:World} (h:Below B a w) (n:Nat):Below B a (w.drewN n):=⟨h.os,h.tape,h.output,h.size,h.block⟩

def part (f g:Nat→Int) (k j:Nat):Int:=if j<k then f j else g j
theorem lG (f g:Nat→Int) (k:Nat):part f g (k+1) k=f k:=by simp [part]
theorem lM (f g:Nat→Int) (k j:Nat) (h:j≠k):part f g (k+1) j=part f g k j:=by
 unfold part
 by_cases e:j<k
 ·rw [if_pos e,if_pos (by omega)]
 ·rw [if_neg e,if_neg (by omega)]
theorem dV (f g:Nat→Int) (k j:Nat) (h:j<k):part f g k j=f j:=by simp [part,h]
theorem nY (f g:Nat→Int) (j:Nat):part f g 0 j=g j:=by simp [part]
theorem rW (n:Int) (h1 : -9223372036854775808≤n) (h2:n≤9223372036854775807) (w:World) :
  Calls Tryz.prog 251 #[.int .i64 n] w (dw (iH n) w):=by
 go_enter Tryz.func251,Tryz.ntmps251
 go_wp2
 go_loopw [8] (fun i wr=>∃ k:Nat,k≤8∧i = .int .i64 k∧Below w.heap.size w wr∧bD wr w.heap.size (fun _=>0)∧bD wr (w.heap.size+1) (part (aA n) (fun _=>0) k)) (fun i _=>8-(intOf i).toNat)
 case atStart =>
  refine ⟨0,by omega,rfl,by go_grown,⟨fun j hj=>?_,fun j=>by go_simp⟩,⟨fun j hj=>?_,fun j=>by go_simp⟩⟩
  ·match j,hj with
   | 0,_ | 1,_ | 2,_ | 3,_ | 4,_ | 5,_ | 6,_ | 7,_=>go_simp
  ·rw [nY]
   match j,hj with
   | 0,_ | 1,_ | 2,_ | 3,_ | 4,_ | 5,_ | 6,_ | 7,_=>go_simp
 case round =>
  obtain ⟨k,hk,rfl,hB,hZ,hO⟩:=hrel
  by_cases hlt:k<8
  ·have hc := hO.cell k hlt;have hf:=hO.free k;have HO:=hid hO;have HZ:=hid hZ;clear hO hZ;go_wp2
   ·exact ⟨⟨k+1,hlt,by go_num,hB.setCell (by simp) _,HZ.out.far (by simp) _,HO.out.set hlt (by rw [lG,of_low n k (by omega)]) (lM _ _ k)⟩,by simp [intOf];omega⟩
   ·exact ⟨⟨k+1,hlt,by go_num,hB.setCell (by simp) _,HZ.out.far (by simp) _,HO.out.set hlt (by rw [lG,AY n k (by omega) hlt h1 h2,if_pos (by assumption)]) (lM _ _ k)⟩,by simp [intOf];omega⟩
   ·refine ⟨⟨k + 1, hlt, by go_num, hB, HZ.out, HO.out.congr fun j hj => ?_⟩, by simp [intOf]; omega⟩
    by_cases e:j=k
    ·subst e;rw [lG,AY n j (by omega) hlt h1 h2,if_neg (by omega)];simp [part]
    ·rw [lM _ _ _ _ e]
  ·obtain rfl : k = 8 := by omega
   have z0:=hZ.cell 0 (by omega);have z1:=hZ.cell 1 (by omega);have z2:=hZ.cell 2 (by omega);have z3:=hZ.cell 3 (by omega);have z4:=hZ.cell 4 (by omega);have z5:=hZ.cell 5 (by omega);have z6:=hZ.cell 6 (by omega);have z7:=hZ.cell 7 (by omega);have o0:=hO.cell 0 (by omega);have o1:=hO.cell 1 (by omega);have o2:=hO.cell 2 (by omega);have o3:=hO.cell 3 (by omega);have o4:=hO.cell 4 (by omega);have o5:=hO.cell 5 (by omega);have o6:=hO.cell 6 (by omega);have o7:=hO.cell 7 (by omega);have zf:=hZ.free;simp only [dV _ _ 8 0 (by omega),dV _ _ 8 1 (by omega),dV _ _ 8 2 (by omega),dV _ _ 8 3 (by omega),dV _ _ 8 4 (by omega),dV _ _ 8 5 (by omega),dV _ _ 8 6 (by omega),dV _ _ 8 7 (by omega)] at o0 o1 o2 o3 o4 o5 o6 o7;clear hO hZ;go_wp2;refine bodyPost_ret (v:=iH n) (by simp [results,Tryz.results251,go_sem,z0,z1,z2,z3,z4,z5,z6,z7]) rfl ⟨rfl,?_⟩
   go_grown
theorem uH (a b:Int) (w:World) :
  Calls Tryz.prog 271 #[iH a,iH b] w (dw (iH (a+b)) w):=by
 go_enter Tryz.func271,Tryz.ntmps271
 go_wp2
 go_loopw [6,8] (fun c i wr=>∃ k:Nat,k≤8∧i = .int .i64 k∧c = .int .u32 (rV a b k)∧Below w.heap.size w wr∧bD wr w.heap.size (aA a)∧bD wr (w.heap.size+1) (aA b)∧bD wr (w.heap.size+2) (fun _=>0)∧bD wr (w.heap.size+3) (part (aA (a+b)) (fun _=>0) k)) (fun _ i _=>8-(intOf i).toNat)
 case atStart =>
  have hz:bD ((((w.alloc (.cells (#[.int .u32 (aA a 0),.int .u32 (aA a 1),.int .u32 (aA a 2),.int .u32 (aA a 3),.int .u32 (aA a 4),.int .u32 (aA a 5),.int .u32 (aA a 6),.int .u32 (aA a 7)]) 273)).alloc (.cells (#[.int .u32 (aA b 0),.int .u32 (aA b 1),.int .u32 (aA b 2),.int .u32 (aA b 3),.int .u32 (aA b 4),.int .u32 (aA b 5),.int .u32 (aA b 6),.int .u32 (aA b 7)]) 273)).alloc (.cells (#[.int .u32 0,.int .u32 0,.int .u32 0,.int .u32 0,.int .u32 0,.int .u32 0,.int .u32 0,.int .u32 0]) 273)).alloc (.cells (#[.int .u32 0,.int .u32 0,.int .u32 0,.int .u32 0,.int .u32 0,.int .u32 0,.int .u32 0,.int .u32 0]) 273)) (w.heap.size+3) (fun _=>0):=by simpa using bD.here (((w.alloc _).alloc _).alloc _) 273 (fun _=>0)
  exact ⟨0,by omega,rfl,by rw [Dz],by go_grown,(((bD.here w _ (aA a)).alloc (by simp) _).alloc (by simp;omega) _).alloc (by simp;omega) _,by simpa using ((bD.here (w.alloc _) 273 (aA b)).alloc (by simp) _).alloc (by simp) _,by simpa using ((bD.here ((w.alloc _).alloc _) 273 (fun _=>0)).alloc (by simp) _),hz.congr fun j _=>(nY (aA (a+b)) (fun _=>0) j).symm⟩
 case round =>
  obtain ⟨k,hk,rfl,rfl,hB,hA,hBb,hZ,hO⟩:=hrel;have hcb:=Gt a b k;have hd1:=dO a k;have hd2:=dO b k;have hd3:=ko a k;have hd4:=ko b k
  by_cases hlt:k<8
  ·have hc := hO.cell k hlt;have hf:=hO.free k;have ha:=hA.cell k hlt;have hb:=hBb.cell k hlt;have HO:=hid hO;have HZ:=hid hZ;have HA:=hid hA;have HB:=hid hBb;clear hO hZ hA hBb;go_wp2
   go_quiet (fail)
   go_wp2
   exact ⟨⟨k+1,hlt,by go_num,by rw [Dl],(below_drewN' hB _).setCell (by show w.heap.size≤w.heap.size+1+1+1;omega) _,(HA.out.drewN _).far (show w.heap.size+1+1+1≠w.heap.size from by omega) _,(HB.out.drewN _).far (show w.heap.size+1+1+1≠w.heap.size+1 from by omega) _,(HZ.out.drewN _).far (show w.heap.size+1+1+1≠w.heap.size+2 from by omega) _,
    (HO.out.drewN _).set hlt (by rw [lG,Dm,BO _ (by omega) (by omega)]) (lM _ _ k)⟩,by simp [intOf];omega⟩
  ·obtain rfl : k = 8 := by omega
   obtain ⟨z0,z1,z2,z3,z4,z5,z6,z7⟩:=hZ.all;have hO':=hO.congr (o':=aA (a+b)) fun j hj=>dV _ _ _ _ hj
   obtain ⟨o0,o1,o2,o3,o4,o5,o6,o7⟩:=hO'.all;have zf:=hZ.free;clear hO hZ hO' hA hBb;go_wp2;refine bodyPost_ret (v:=iH (a+b)) (by simp [results,Tryz.results271,go_sem,z0,z1,z2,z3,z4,z5,z6,z7]) rfl ⟨rfl,?_⟩
   go_grown

def iW (a b:Int) (i:Nat):Int:=(a % 65536 ^ i)*b
theorem DR (a b:Int):iW a b 0=0:=by simp [iW,Int.emod_one]
theorem tY (a b:Int) (i:Nat):iW a b (i+1)=iW a b i+65536 ^ i*(aA a i*b):=by
 unfold iW;rw [lI];grind
theorem Fh (a b:Int) (i j:Nat) (h:j<i):aA (iW a b (i+1)) j=aA (iW a b i) j:=by
 rw [tY,yE _ _ _ _ h]
theorem Fa (a b:Int) (i:Nat):iW a b (i+1) / 65536 ^ i=iW a b i / 65536 ^ i+aA a i*b:=by
 rw [tY,← Int.mul_assoc,Dh]

def xC (a b:Int) (i k:Nat):Int:=mG (iW a b i / 65536 ^ i) (aA a i) b k
theorem BZ (a b:Int) (i:Nat):xC a b i 0=0:=Dt _ _ _
theorem Gv (a b:Int) (i k:Nat):0≤xC a b i k∧xC a b i k≤65535:=F7 _ _ _ _ (dO _ _) (ko _ _)
theorem CU (a b:Int) (i k:Nat):aA (iW a b (i+1)) (i+k)=(xC a b i k+(aA a i*aA b k+aA (iW a b i) (i+k))) % 65536:=by
 rw [← mR,Fa,rU,mR];rfl
theorem CX (a b:Int) (i k:Nat):xC a b i (k+1)=(xC a b i k+(aA a i*aA b k+aA (iW a b i) (i+k))) / 65536:=by
 unfold xC;rw [tN,mR]
theorem Au (a b:Int) (j:Nat) (h:j<8):aA (iW a b 8) j=aA (a*b) j:=by
 have h1:=Int.emod_add_mul_ediv a (65536 ^ 8);unfold iW
 have e:a*b=a % 65536 ^ 8*b+65536 ^ 8*(a / 65536 ^ 8*b):=by
  generalize a % 65536 ^ 8=r at *
  generalize a / 65536 ^ 8=q at *
  rw [← h1];grind
 rw [e,yE _ _ _ _ h]
theorem Dn (a b:Int) (w:World) :
  Calls Tryz.prog 265 #[iH a,iH b] w (dw (iH (a*b)) w):=by
 go_enter Tryz.func265,Tryz.ntmps265
 go_wp2
 go_loopw [9] (fun i wr=>∃ k:Nat,k≤8∧i = .int .i64 k∧Below w.heap.size w wr∧bD wr w.heap.size (aA a)∧bD wr (w.heap.size+1) (aA b)∧bD wr (w.heap.size+2) (fun _=>0)∧bD wr (w.heap.size+3) (aA (iW a b k))) (fun i _=>8-(intOf i).toNat)
 case atStart =>
  have hz:bD ((((w.alloc (.cells (#[.int .u32 (aA a 0),.int .u32 (aA a 1),.int .u32 (aA a 2),.int .u32 (aA a 3),.int .u32 (aA a 4),.int .u32 (aA a 5),.int .u32 (aA a 6),.int .u32 (aA a 7)]) 273)).alloc (.cells (#[.int .u32 (aA b 0),.int .u32 (aA b 1),.int .u32 (aA b 2),.int .u32 (aA b 3),.int .u32 (aA b 4),.int .u32 (aA b 5),.int .u32 (aA b 6),.int .u32 (aA b 7)]) 273)).alloc (.cells (#[.int .u32 0,.int .u32 0,.int .u32 0,.int .u32 0,.int .u32 0,.int .u32 0,.int .u32 0,.int .u32 0]) 273)).alloc (.cells (#[.int .u32 0,.int .u32 0,.int .u32 0,.int .u32 0,.int .u32 0,.int .u32 0,.int .u32 0,.int .u32 0]) 273)) (w.heap.size+3) (fun _=>0):=by simpa using bD.here (((w.alloc _).alloc _).alloc _) 273 (fun _=>0)
  exact ⟨0,by omega,rfl,by go_grown,(((bD.here w _ (aA a)).alloc (by simp) _).alloc (by simp;omega) _).alloc (by simp;omega) _,by simpa using ((bD.here (w.alloc _) 273 (aA b)).alloc (by simp) _).alloc (by simp) _,by simpa using ((bD.here ((w.alloc _).alloc _) 273 (fun _=>0)).alloc (by simp) _),hz.congr fun j _=>by rw [DR];simp [aA]⟩
 case round =>
  obtain ⟨i,hi,rfl,hB,hA,hBb,hZ,hO⟩:=hrel;obtain ⟨wo,rfl⟩:∃ wo:World,wo=wr:=⟨_,rfl⟩
  by_cases hlt:i<8
  ·have HO := hid hO;have HZ:=hid hZ;have HA:=hid hA;have HB:=hid hBb;clear hO hZ hA hBb;go_wp2
   go_loopw [7,8] (fun c j wr=>∃ k:Nat,i+k≤8∧j = .int .i64 k∧c = .int .u64 (xC a b i k)∧Below w.heap.size w wr∧bD wr w.heap.size (aA a)∧bD wr (w.heap.size+1) (aA b)∧bD wr (w.heap.size+2) (fun _=>0)∧bD wr (w.heap.size+3) (part (aA (iW a b (i+1))) (aA (iW a b i)) (i+k))) (fun _ j _=>8-(intOf j).toNat)
   case atStart =>
    exact ⟨0,by omega,rfl,by rw [BZ],hB,HA.out,HB.out,HZ.out,HO.out.congr fun j _=>by
     unfold part
     split
     ·rw [Fh a b i j (by omega)]
     ·rfl⟩
   case round =>
    obtain ⟨k,hk,rfl,rfl,hB1,hA,hBb,hZ,hO⟩:=hrel;have hcb:=Gv a b i k;have hd1:=dO a i;have hd2:=dO b k;have hd3:=ko a i;have hd4:=ko b k;have hd5:=dO (iW a b i) (i+k);have hd6:=ko (iW a b i) (i+k);have hp:=fU (x:=aA a i) (y:=aA b k) (M:=65535) (N:=65535) (by omega) (by omega) (by omega) (by omega);have hp0:=Int.mul_nonneg hd1 hd2
    by_cases hlt2:i+k<8
    ·have hc := hO.cell (i + k) hlt2;rw [show part (aA (iW a b (i+1))) (aA (iW a b i)) (i+k) (i+k)=aA (iW a b i) (i+k) by simp [part]] at hc;have hf:=hO.free (i+k);have ha:=hA.cell i hlt;have hb:=hBb.cell k (by omega);have HO:=hid hO;have HZ:=hid hZ;have HA:=hid hA;have HB:=hid hBb;clear hO hZ hA hBb;go_wp2
     go_quiet (fail)
     go_wp2
     exact ⟨⟨k+1,by omega,by go_num,by rw [CX],(below_drewN' hB1 _).setCell (by show w.heap.size≤w.heap.size+1+1+1;omega) _,
      (HA.out.drewN _).far (show w.heap.size+1+1+1≠w.heap.size from by omega) _,(HB.out.drewN _).far (show w.heap.size+1+1+1≠w.heap.size+1 from by omega) _,(HZ.out.drewN _).far (show w.heap.size+1+1+1≠w.heap.size+2 from by omega) _,
      (HO.out.drewN _).set hlt2 (by rw [← Nat.add_assoc,lG,CU,jR _ (by omega) (by omega)];omega) (lM _ _ (i+k))⟩,by simp [intOf];omega⟩
    ·have h8 : 8 ≤ i + k := by omega
     have hO2:=hO.congr (o':=aA (iW a b (i+1))) fun j hj=>dV _ _ _ _ (by omega)
     have HO:=hid hO2;have HZ:=hid hZ;have HA:=hid hA;have HB:=hid hBb;clear hO hZ hA hBb hO2;go_wp2;go_roundw
     case rel=>exact ⟨i+1,hlt,by go_num,hB1,HA.out,HB.out,HZ.out,HO.out⟩
     case measure=>simp [intOf];omega
  ·obtain rfl : i = 8 := by omega
   obtain ⟨z0,z1,z2,z3,z4,z5,z6,z7⟩:=hZ.all;have hO':=hO.congr (o':=aA (a*b)) fun j hj=>Au a b j hj
   obtain ⟨o0,o1,o2,o3,o4,o5,o6,o7⟩:=hO'.all;have zf:=hZ.free;clear hO hZ hO' hA hBb;go_wp2;refine bodyPost_ret (v:=iH (a*b)) (by simp [results,Tryz.results265,go_sem,z0,z1,z2,z3,z4,z5,z6,z7]) rfl ⟨rfl,?_⟩
   go_grown

theorem Ib (a:Int) (k:Nat):bits .xor .u32 (aA a k) 65535=aA (-a-1) k:=by
 have h0:=dO a k;have h1:=ko a k
 have e:aA (-a-1) k=65535-aA a k:=by
  unfold aA;have hp:=fB k;generalize (65536:Int) ^ k=M at *
  have e1:(-a-1) / M = - (a / M)-1:=by
   have:=Int.emod_add_mul_ediv a M;have h2:=Int.emod_nonneg a (Int.ne_of_gt hp);have h3:=Int.emod_lt_of_pos a hp;rw [show -a-1=(M-1-a % M)+(-(a / M)-1)*M by grind,Int.add_mul_ediv_right _ _ (Int.ne_of_gt hp),Int.ediv_eq_zero_of_lt (by omega) (by omega)];omega
  rw [e1];omega
 rw [e];generalize aA a k=d at *
 obtain ⟨n,rfl⟩:=Int.eq_ofNat_of_zero_le h0;have hn:n<65536:=by omega
 have:bits .xor .u32 (n:Int) 65535=((n ^^^ 65535:Nat):Int):=by
  show IntKind.u32.wrap ((BitVec.ofInt 32 (n:Int) ^^^ BitVec.ofInt 32 65535).toNat:Int)=_;have hx:n ^^^ 65535<2 ^ 16:=Nat.xor_lt_two_pow (by omega) (by omega);rw [BitVec.toNat_xor,BitVec.ofInt_natCast,BitVec.toNat_ofNat,show (BitVec.ofInt 32 65535).toNat=65535 from rfl,Nat.mod_eq_of_lt (by omega),IntKind.wrap_u32];omega
 rw [this]
 have hx:n ^^^ 65535=65535-n:=by
  have h3:=congrArg BitVec.toNat (BitVec.xor_allOnes (x:=BitVec.ofNat 16 n));rw [BitVec.toNat_xor,BitVec.toNat_not,BitVec.toNat_ofNat,BitVec.toNat_allOnes,Nat.mod_eq_of_lt (by omega)] at h3;exact h3
 rw [hx];omega
theorem BH (a:Int) (w:World) :
  Calls Tryz.prog 272 #[iH a] w (dw (iH (-a)) w):=by
 go_enter Tryz.func272,Tryz.ntmps272
 go_wp2
 go_loopw [4] (fun i wr=>∃ k:Nat,k≤8∧i = .int .i64 k∧Below w.heap.size w wr∧bD wr w.heap.size (part (aA (-a-1)) (aA a) k)∧bD wr (w.heap.size+1) (fun _=>0)) (fun i _=>8-(intOf i).toNat)
 case atStart =>
  exact ⟨0,by omega,rfl,by go_grown,((bD.here w _ (aA a)).alloc (by simp) _).congr fun j _=>(nY (aA (-a-1)) (aA a) j).symm,by simpa using (bD.here (w.alloc _) 273 (fun _=>0))⟩
 case round =>
  obtain ⟨k,hk,rfl,hB,hA,hZ⟩:=hrel
  by_cases hlt:k<8
  ·have hc := hA.cell k hlt;rw [show part (aA (-a-1)) (aA a) k k=aA a k by simp [part]] at hc;have hf:=hA.free k;have hx:=Ib a k;have HA:=hid hA;have HZ:=hid hZ;clear hA hZ;go_wp2;exact ⟨⟨k+1,by omega,by go_num,hB.setCell (Nat.le_refl _) _,HA.out.set hlt (lG _ _ k) (lM _ _ k),HZ.out.far (show w.heap.size≠w.heap.size+1 from by omega) _⟩,by simp [intOf];omega⟩
  ·have hA' := hA.congr (o' := aA (-a - 1)) fun j hj => dV _ _ _ _ (by omega)
   obtain ⟨o0,o1,o2,o3,o4,o5,o6,o7⟩:=hA'.all;have HA:=hid hA';have HZ:=hid hZ;have hsz:w.heap.size+1<wr.heap.size:=hZ.lt;clear hA hZ hA';go_wp2
   go_region_with (first | (go_at_call 251;refine (rW 1 (by omega) (by omega) _).mono ?_;rintro e w1 ⟨rfl,hb1⟩;have HZ1:=hid ((HZ.out.drew).below hb1 hsz);have HA1:=(HA.out.drew).below hb1 (Nat.lt_of_succ_lt hsz);obtain ⟨p0,p1,p2,p3,p4,p5,p6,p7⟩:=HA1.all;clear HA1) | (go_at_call 271;refine (uH _ _ _).mono ?_;rintro e w2 ⟨rfl,hb2⟩;have HZ2:=HZ1.out.below hb2 HZ1.out.lt;obtain ⟨z0,z1,z2,z3,z4,z5,z6,z7⟩:=HZ2.all;have zf:=HZ2.free;clear HZ2))
   all_goals
    go_wp2;refine bodyPost_ret (v:=iH (-a)) (by simp [results,Tryz.results272,go_sem,z0,z1,z2,z3,z4,z5,z6,z7]) rfl ⟨rfl,?_⟩;have hz:=(Below.drew hB).trans ((hb1.mono (show w.heap.size≤wr.drew.heap.size from hB.size)).trans (hb2.mono (Nat.le_trans hB.size hb1.size)))
    go_grown
theorem zG (a b:Int) (w:World) :
  Calls Tryz.prog 266 #[iH a,iH b] w (dw (iH (a-b)) w):=by
 obtain ⟨W,hW⟩:∃ W,W=((w.alloc (.cells (#[.int .u32 (aA a 0),.int .u32 (aA a 1),.int .u32 (aA a 2),.int .u32 (aA a 3),.int .u32 (aA a 4),.int .u32 (aA a 5),.int .u32 (aA a 6),.int .u32 (aA a 7)]) 273)).alloc (.cells (#[.int .u32 (aA b 0),.int .u32 (aA b 1),.int .u32 (aA b 2),.int .u32 (aA b 3),.int .u32 (aA b 4),.int .u32 (aA b 5),.int .u32 (aA b 6),.int .u32 (aA b 7)]) 273)).alloc (.cells (#[.int .u32 0,.int .u32 0,.int .u32 0,.int .u32 0,.int .u32 0,.int .u32 0,.int .u32 0,.int .u32 0]) 273):=⟨_,rfl⟩;have hA:bD W w.heap.size (aA a):=by subst hW;exact ((bD.here w _ (aA a)).alloc (by simp) _).alloc (by simp;omega) _
 have hBb:bD W (w.heap.size+1) (aA b):=by subst hW;simpa using ((bD.here (w.alloc _) 273 (aA b)).alloc (by simp) _)
 have hZ:bD W (w.heap.size+2) (fun _=>0):=by subst hW;simpa using (bD.here ((w.alloc _).alloc _) 273 (fun _=>0))
 have hB:Below w.heap.size w W:=by subst hW;go_grown
 obtain ⟨a0,a1,a2,a3,a4,a5,a6,a7⟩:=hA.all;obtain ⟨b0,b1,b2,b3,b4,b5,b6,b7⟩:=hBb.all;have HA:=hid hA;have HB:=hid hBb;have HZ:=hid hZ;clear hA hBb hZ
 go_enter Tryz.func266,Tryz.ntmps266
 go_wp2;rw [← hW];have HW:=hid hW;clear hW
 go_region_with (first | (go_at_call 272;refine (BH _ _).mono ?_;rintro e w1 ⟨rfl,hb1⟩;have HA1:=(HA.out.drew).below hb1 HA.out.lt;obtain ⟨p0,p1,p2,p3,p4,p5,p6,p7⟩:=HA1.all;clear HA1) | (go_at_call 271;refine (uH _ _ _).mono ?_;rintro e w2 ⟨rfl,hb2⟩;have HZ2:=(HZ.out.drew.below hb1 HZ.out.lt).below hb2 (Nat.lt_of_lt_of_le HZ.out.lt hb1.size);obtain ⟨z0,z1,z2,z3,z4,z5,z6,z7⟩:=HZ2.all;have zf:=HZ2.free;clear HZ2))
 all_goals
  go_wp2;refine bodyPost_ret (v:=iH (a-b)) (by simp [results,Tryz.results266,go_sem,z0,z1,z2,z3,z4,z5,z6,z7,Int.sub_eq_add_neg]) rfl ⟨rfl,?_⟩;have hz:=(Below.drew hB).trans ((hb1.mono (show w.heap.size≤W.drew.heap.size from hB.size)).trans (hb2.mono (Nat.le_trans hB.size hb1.size)))
  go_grown
theorem Gz (z:Int) (h : -170141183460469231731687303715884105728≤z) (h2:z<170141183460469231731687303715884105728):(aA z 7 / 32768 == 1)=decide (z<0):=by
 have:aA z 7=z / 5192296858534827628530496329220096 % 65536:=by simp [aA]
 rw [this,Bool.eq_iff_iff];simp only [beq_iff_eq,decide_eq_true_iff];omega
def dZ (a b:Int):Int:=if a<b then -1 else if a=b then 0 else 1

def iP (a b:Int) (i:Nat):Prop:=a / 65536 ^ i=b / 65536 ^ i
theorem nD (a:Int) (i:Nat):a / 65536 ^ i=a / 65536 ^ (i+1)*65536+aA a i:=by
 unfold aA;rw [Int.pow_succ,← kD (Int.le_of_lt (fB i))];omega
theorem yH {a b:Int} {i:Nat} (h:iP a b (i+1)) (e:aA a i=aA b i):iP a b i:=by
 unfold iP at *
 rw [nD a,nD b,h,e]
theorem qZ {a b:Int} {i:Nat} (h:iP a b (i+1)) (e:aA a i<aA b i):a<b:=by
 unfold iP at h;have h1:=nD a i;have h2:=nD b i;have h3:a / 65536 ^ i<b / 65536 ^ i:=by rw [h1,h2,h];omega
 have hp:=fB i
 by_cases hab:a<b
 ·exact hab
 ·have : b / 65536 ^ i ≤ a / 65536 ^ i := Int.ediv_le_ediv hp (by omega);omega
theorem wJ {a b:Int} (h:iP a b 0):a=b:=by simpa [iP] using h
theorem vX {a b:Int} (h1 : -170141183460469231731687303715884105728≤a) (h2:a<170141183460469231731687303715884105728) (h3 : -170141183460469231731687303715884105728≤b) (h4:b<170141183460469231731687303715884105728) (h:(decide (a<0))=decide (b<0)):iP a b 8:=by
 have e:(65536:Int) ^ 8=340282366920938463463374607431768211456:=by decide
 unfold iP;rw [e];have:(a<0)↔(b<0):=by simpa using h
 omega
theorem Bh {a b:Int} (h:a<b):dZ a b = -1:=by simp [dZ,h]
theorem AX {a b:Int} (h:b<a):dZ a b=1:=by unfold dZ;rw [if_neg (by omega),if_neg (by omega)]
theorem Gn {a b:Int} (h:a=b):dZ a b=0:=by simp [dZ,h]
theorem nZ (d0 d1 d2 d3 d4 d5 d6 d7:Int) (w:World) :
  Calls Tryz.prog 267 #[.agg #[.int .u32 d0,.int .u32 d1,.int .u32 d2,.int .u32 d3,.int .u32 d4,.int .u32 d5,.int .u32 d6,.int .u32 d7]] w (dw (.bool (d7 / 32768 == 1)) w):=by
 go_enter Tryz.func267,Tryz.ntmps267
 go_wp2
 go_returns
 exact aY rfl (by go_grown)
theorem rR (a b:Int) (h1 : -170141183460469231731687303715884105728≤a) (h2:a<170141183460469231731687303715884105728) (h3 : -170141183460469231731687303715884105728≤b) (h4:b<170141183460469231731687303715884105728) (w:World) :
  Calls Tryz.prog 250 #[iH a,iH b] w (dw (.int .i64 (dZ a b)) w):=by
 obtain ⟨W,hW⟩:∃ W,W=(w.alloc (.cells (#[.int .u32 (aA a 0),.int .u32 (aA a 1),.int .u32 (aA a 2),.int .u32 (aA a 3),.int .u32 (aA a 4),.int .u32 (aA a 5),.int .u32 (aA a 6),.int .u32 (aA a 7)]) 273)).alloc (.cells (#[.int .u32 (aA b 0),.int .u32 (aA b 1),.int .u32 (aA b 2),.int .u32 (aA b 3),.int .u32 (aA b 4),.int .u32 (aA b 5),.int .u32 (aA b 6),.int .u32 (aA b 7)]) 273):=⟨_,rfl⟩;have hA:bD W w.heap.size (aA a):=by subst hW;exact ((bD.here w _ (aA a)).alloc (by simp) _)
 have hBb:bD W (w.heap.size+1) (aA b):=by subst hW;simpa using (bD.here (w.alloc _) 273 (aA b))
 have hB:Below w.heap.size w W:=by subst hW;go_grown
 have hsz:w.heap.size+2≤W.heap.size:=by subst hW;simp
 obtain ⟨a0,a1,a2,a3,a4,a5,a6,a7⟩:=hA.all;obtain ⟨b0,b1,b2,b3,b4,b5,b6,b7⟩:=hBb.all;have HA:=hid hA;have HB:=hid hBb;have R:=hid (And.intro h1 (And.intro h2 (And.intro h3 h4)));clear hA hBb h1 h2 h3 h4;have HE:Hid (decide (a<0)=decide (b<0)→iP a b 8):=fun h=>vX R.out.1 R.out.2.1 R.out.2.2.1 R.out.2.2.2 h
 have ea:=Gz a R.out.1 R.out.2.1;have eb:=Gz b R.out.2.2.1 R.out.2.2.2;have na:=dO a 7;have nb:=dO b 7
 go_enter Tryz.func250,Tryz.ntmps250
 go_upto_region 1 with fail
 rw [← hW];have HW:=hid hW;clear hW
 go_cut [10] from 6 (fun t wx=>t = .bool ((aA a 7 / 32768 == 1) != (aA b 7 / 32768 == 1))∧Below w.heap.size w wx∧bD wx w.heap.size (aA a)∧bD wx (w.heap.size+1) (aA b))
 case first =>
  clear ea eb na nb
  go_region_with (go_at_call 267;first | (refine (nZ _ _ _ _ _ _ _ _ _).mono ?_;rintro e w1 ⟨rfl,hb1⟩;have HB1:=hid ((HB.out.drew).below hb1 HB.out.lt);have HA1:=hid ((HA.out.drew).below hb1 HA.out.lt);obtain ⟨p0,p1,p2,p3,p4,p5,p6,p7⟩:=HB1.out.all) | (refine (nZ _ _ _ _ _ _ _ _ _).mono ?_;rintro e w2 ⟨rfl,hb2⟩))
  all_goals
   go_wp2_with fail
   go_meet
   exact ⟨rfl,(Below.drew hB).trans ((hb1.mono (show w.heap.size≤W.drew.heap.size from hB.size)).trans (hb2.mono (Nat.le_trans hB.size hb1.size))),HA1.out.below hb2 HA1.out.lt,HB1.out.below hb2 HB1.out.lt⟩
 case rest =>
  obtain ⟨rfl,hB2,hA2,hBb2⟩:=hcut;clear a0 a1 a2 a3 a4 a5 a6 a7 b0 b1 b2 b3 b4 b5 b6 b7
  cases hsa:decide (a<0) <;> cases hsb:decide (b<0)
  case false.true | true.false =>
   rw [hsa] at ea;rw [hsb] at eb;have hx:((aA a 7 / 32768 == 1) != (aA b 7 / 32768 == 1))=true:=by rw [ea,eb];rfl
   rw [hx];clear hx;obtain ⟨a0,a1,a2,a3,a4,a5,a6,a7⟩:=hA2.all;have sa:¬ (decide (a<0)=true↔decide (b<0)=true):=by rw [hsa,hsb];simp
   simp only [decide_eq_true_iff] at sa;have sa2:decide (a<0)=true∨decide (a<0)=false:=by cases decide (a<0) <;> simp
   have SA:=hid hsa;have SB:=hid hsb;have SC:=hid sa;clear hsa hsb hA2 hBb2 sa sa2
   go_wp2_with (go_at_call 267;refine (nZ _ _ _ _ _ _ _ _ _).mono ?_;rintro e w1 ⟨rfl,hb1⟩)
   go_returns
   refine aj ?_ (hB2.trans (hb1.mono hB2.size));have h1:=SA.out;have h2:=SB.out;simp only [decide_eq_false_iff_not,decide_eq_true_iff] at h1 h2
   first | exact (AX (by omega)).symm | exact (Bh (by omega)).symm
  case false.false | true.true =>
   have h8:=HE.out (by rw [hsa,hsb]);rw [hsa] at ea;rw [hsb] at eb;have hx:((aA a 7 / 32768 == 1) != (aA b 7 / 32768 == 1))=false:=by rw [ea,eb];rfl
   rw [hx];clear hx;have H8:=hid h8;clear h8 hsa hsb;have HA2:=hid hA2;have HB2:=hid hBb2;clear hA2 hBb2;go_wp2
   go_loopw [5] (fun i wr=>∃ q:Int,-1≤q∧q≤7∧i = .int .i64 q∧iP a b (q+1).toNat∧Below w.heap.size w wr∧bD wr w.heap.size (aA a)∧bD wr (w.heap.size+1) (aA b)) (fun i _=>(intOf i+1).toNat)
   case atStart=>exact ⟨7,by omega,by omega,rfl,H8.out,hB2,HA2.out,HB2.out⟩
   case round =>
    obtain ⟨q,hq1,hq2,rfl,hE,hB3,hA3,hBb3⟩:=hrel
    by_cases hq:0≤q
    ·obtain ⟨m, rfl⟩ := Int.eq_ofNat_of_zero_le hq;have hm:m<8:=by omega
     have ca:=hA3.cell m hm;have cb:=hBb3.cell m hm;have HE:=hid hE;have HA3:=hid hA3;have HB3:=hid hBb3;clear hE hA3 hBb3
     by_cases hne:aA a m=aA b m
     ·have hd : (aA a m != aA b m) = false := by simp [hne]
      have HN:=hid hne;clear hne;go_wp2
      go_quiet (fail)
      go_wp2;exact ⟨⟨(m:Int)-1,by omega,by omega,rfl,by rw [show ((m:Int)-1+1).toNat=m by omega];exact yH (by have:=HE.out;rwa [show ((m:Int)+1).toNat=m+1 by omega] at this) HN.out,below_drewN' hB3 _,HA3.out.drewN _,HB3.out.drewN _⟩,by simp [intOf]⟩
     ·have hd : (aA a m != aA b m) = true := by simp [hne]
      have HN:=hid hne;clear hne;go_wp2
      go_quiet (fail)
      go_wp2
      go_quiet (fail)
      go_wp2
      all_goals
       go_returns
       have hE2:=HE.out;rw [show ((m:Int)+1).toNat=m+1 by omega] at hE2
      ·exact aj (Bh (qZ hE2 (by assumption))).symm (below_drewN' (below_drewN' hB3 _) _)
      ·have hge : aA b m ≤ aA a m := by assumption
       have hne2:aA a m≠aA b m:=HN.out;exact aj (AX (qZ (i:=m) (show iP b a (m+1) from hE2.symm) (by omega))).symm (below_drewN' (below_drewN' hB3 _) _)
    ·obtain rfl : q = -1 := by omega
     have HE:=hid hE;clear hE hA3 hBb3;go_wp2
     go_returns
     exact aj (Gn (wJ HE.out)).symm hB3
theorem keepCell {w' w'':World} {b o:Nat} {v:Value} (hb:Below w'.heap.size w' w'') (h:w'.cell? ⟨b,o,none⟩=some v):w''.cell? ⟨b,o,none⟩=some v:=((bX hb).1 _ _ (lt_of_cell h)).trans h
theorem ah {w w' w'':World} (hb:Below w'.heap.size w' w'') (h:Below w.heap.size w w'):Below w.heap.size w w'':=h.trans (hb.mono h.size)

def There (w:World) (g n:Nat):Prop:=∀ j,j<n→(∃ v,w.cell? ⟨g,j,none⟩=some v)∧w.frozen? ⟨g,j,none⟩=false
theorem There.below {g n:Nat} (hb:Below w.heap.size w w') (h:There w g n):There w' g n:=fun j hj=>by
 obtain ⟨⟨v,hv⟩,hf⟩:=h j hj;exact ⟨⟨v,keepCell hb hv⟩,((bX hb).2 _ _ (lt_of_cell hv)).trans hf⟩
theorem There.set {g n:Nat} (h:There w g n) (a:Addr) (u:Value):There (w.setCell a u) g n:=fun j hj=>by
 obtain ⟨⟨v,hv⟩,hf⟩:=h j hj;obtain ⟨v',hv'⟩:=cell?_setCell_some (w:=w) (p:=a) (x:=u) hv;exact ⟨⟨v',hv'⟩,by rw [World.frozen?_setCell];exact hf⟩
theorem There.of8 {g:Nat} {o:Nat→Int} (h:bD w g o):There w g 8:=fun j hj=>⟨⟨_,h.cell j hj⟩,h.free j⟩
theorem There.get8 {w : World} {g : Nat} (h : There w g 8) : ∃ z0 z1 z2 z3 z4 z5 z6 z7 : Value, w.cell? ⟨g, 0, none⟩ = some z0 ∧ w.cell? ⟨g, 1, none⟩ = some z1 ∧ w.cell? ⟨g, 2, none⟩ = some z2 ∧ w.cell? ⟨g, 3, none⟩ = some z3 ∧
  w.cell? ⟨g,4,none⟩=some z4∧w.cell? ⟨g,5,none⟩=some z5∧w.cell? ⟨g,6,none⟩=some z6∧w.cell? ⟨g,7,none⟩=some z7∧w.frozen? ⟨g,0,none⟩=false∧w.frozen? ⟨g,1,none⟩=false∧w.frozen? ⟨g,2,none⟩=false∧w.frozen? ⟨g,3,none⟩=false ∧
  w.frozen? ⟨g,4,none⟩=false∧w.frozen? ⟨g,5,none⟩=false∧w.frozen? ⟨g,6,none⟩=false∧w.frozen? ⟨g,7,none⟩=false:=by
 obtain ⟨⟨z0,h0⟩,f0⟩:=h 0 (by omega);obtain ⟨⟨z1,h1⟩,f1⟩:=h 1 (by omega);obtain ⟨⟨z2,h2⟩,f2⟩:=h 2 (by omega);obtain ⟨⟨z3,h3⟩,f3⟩:=h 3 (by omega);obtain ⟨⟨z4,h4⟩,f4⟩:=h 4 (by omega);obtain ⟨⟨z5,h5⟩,f5⟩:=h 5 (by omega);obtain ⟨⟨z6,h6⟩,f6⟩:=h 6 (by omega);obtain ⟨⟨z7,h7⟩,f7⟩:=h 7 (by omega);exact ⟨z0,z1,z2,z3,z4,z5,z6,z7,h0,h1,h2,h3,h4,h5,h6,h7,f0,f1,f2,f3,f4,f5,f6,f7⟩
theorem There.get2 {g:Nat} (h:There w g 2):∃ z0 z1:Value,w.cell? ⟨g,0,none⟩=some z0∧w.cell? ⟨g,1,none⟩=some z1∧w.frozen? ⟨g,0,none⟩=false∧w.frozen? ⟨g,1,none⟩=false:=by
 obtain ⟨⟨z0,h0⟩,f0⟩:=h 0 (by omega);obtain ⟨⟨z1,h1⟩,f1⟩:=h 1 (by omega);exact ⟨z0,z1,h0,h1,f0,f1⟩
theorem aW {b o g i:Nat} {u v:Value} (hne:g≠b) (h:w.cell? ⟨b,o,none⟩=some v):(w.setCell ⟨g,i,none⟩ u).cell? ⟨b,o,none⟩=some v:=by
 rw [World.cell?_setCell_other _ _ _ _ (by intro e;exact hne (congrArg Addr.block e))];exact h
theorem nI {b o g:Nat} {u0 u1 v:Value} (hne:g≠b) (h:w.cell? ⟨b,o,none⟩=some v):((w.setCell ⟨g,0,none⟩ u0).setCell ⟨g,1,none⟩ u1).cell? ⟨b,o,none⟩=some v:=aW hne (aW hne h)
theorem far8 {b o g:Nat} {u0 u1 u2 u3 u4 u5 u6 u7 v:Value} (hne:g≠b) (h:w.cell? ⟨b,o,none⟩=some v) :
  ((((((((w.setCell ⟨g,0,none⟩ u0).setCell ⟨g,1,none⟩ u1).setCell ⟨g,2,none⟩ u2).setCell ⟨g,3,none⟩ u3).setCell ⟨g,4,none⟩ u4).setCell ⟨g,5,none⟩ u5).setCell ⟨g,6,none⟩ u6).setCell ⟨g,7,none⟩ u7).cell? ⟨b,o,none⟩=some v :=
 aW hne (aW hne (aW hne (aW hne (aW hne (aW hne (aW hne (aW hne h)))))))
theorem nU (a b c d:Int) (r1 : -9223372036854775808≤a∧a≤9223372036854775807) (r2 : -9223372036854775808≤b∧b≤9223372036854775807) (r3 : -9223372036854775808≤c∧c≤9223372036854775807) (r4 : -9223372036854775808≤d∧d≤9223372036854775807) (w:World) :
  Calls Tryz.prog 249 #[bV a b,bV c d] w (dw (iH (a*d-b*c)) w):=by
 obtain ⟨W,hW⟩:∃ W,W=((w.alloc (.cells #[.int .i64 a,.int .i64 b] 24)).alloc (.cells #[.int .i64 c,.int .i64 d] 24)).alloc (.cells (#[.int .u32 0,.int .u32 0,.int .u32 0,.int .u32 0,.int .u32 0,.int .u32 0,.int .u32 0,.int .u32 0]) 273):=⟨_,rfl⟩;have ha:W.cell? ⟨w.heap.size,0,none⟩=some (.int .i64 a):=by subst hW;go_simp
 have hb:W.cell? ⟨w.heap.size,1,none⟩=some (.int .i64 b):=by subst hW;go_simp
 have hc:W.cell? ⟨w.heap.size+1,0,none⟩=some (.int .i64 c):=by subst hW;go_simp
 have hd:W.cell? ⟨w.heap.size+1,1,none⟩=some (.int .i64 d):=by subst hW;go_simp
 have hZ:bD W (w.heap.size+2) (fun _=>0):=by subst hW;simpa using (bD.here ((w.alloc _).alloc _) 273 (fun _=>0))
 have hB:Below w.heap.size w W:=by subst hW;go_grown
 have s1:W.drew.cell? ⟨w.heap.size,0,none⟩=some (.int .i64 a)∧W.drew.cell? ⟨w.heap.size,1,none⟩=some (.int .i64 b)∧W.drew.cell? ⟨w.heap.size+1,0,none⟩=some (.int .i64 c)∧W.drew.cell? ⟨w.heap.size+1,1,none⟩=some (.int .i64 d)∧There W.drew (w.heap.size+2) 8∧Below w.heap.size w W.drew:=⟨ha,hb,hc,hd,There.of8 hZ.drew,hB.drew⟩;clear ha hb hc hd hZ hB;have S1:=hid s1;clear s1
 go_enter Tryz.func249,Tryz.ntmps249
 go_wp2;rw [← hW];have HW:=hid hW;clear hW
 go_region_held3 (fun w' => w'.cell? ⟨w.heap.size, 0, none⟩ = some (.int .i64 a) ∧ w'.cell? ⟨w.heap.size, 1, none⟩ = some (.int .i64 b) ∧ w'.cell? ⟨w.heap.size + 1, 0, none⟩ = some (.int .i64 c) ∧ w'.cell? ⟨w.heap.size + 1, 1, none⟩ = some (.int .i64 d) ∧ There w' (w.heap.size + 2) 8 ∧ Below w.heap.size w w')
  (first | with_reducible exact S1.out | with_reducible exact ⟨g1,g2,g3,g4,g5,g6⟩ | with_reducible exact ⟨far8 (by omega) g1,far8 (by omega) g2,far8 (by omega) g3,far8 (by omega) g4,((((((((g5.set _ _).set _ _).set _ _).set _ _).set _ _).set _ _).set _ _).set _ _),by go_grown⟩ | (go_split_ands;with_reducible exact ⟨keepCell hb1 (by assumption),keepCell hb1 (by assumption),keepCell hb1 (by assumption),keepCell hb1 (by assumption),There.below hb1 (by assumption),ah hb1 (by assumption)⟩))
  (first | (go_at_call 251;refine (rW _ (by omega) (by omega) _).mono ?_;rintro e w1 ⟨rfl,hb1⟩) | (go_at_call 265;refine (Dn _ _ _).mono ?_;rintro e w1 ⟨rfl,hb1⟩) | (go_at_call 266;refine (zG _ _ _).mono ?_;rintro e w1 ⟨rfl,hb1⟩;go_split_ands;have g1:w1.cell? ⟨w.heap.size,0,none⟩=some (.int .i64 a):=keepCell hb1 (by assumption);have g2:w1.cell? ⟨w.heap.size,1,none⟩=some (.int .i64 b):=keepCell hb1 (by assumption);have g3:w1.cell? ⟨w.heap.size+1,0,none⟩=some (.int .i64 c):=keepCell hb1 (by assumption);have g4:w1.cell? ⟨w.heap.size+1,1,none⟩=some (.int .i64 d):=keepCell hb1 (by assumption);have g5:There w1 (w.heap.size+2) 8:=There.below hb1 (by assumption);have g6:Below w.heap.size w w1:=ah hb1 (by assumption);obtain ⟨z0,z1,z2,z3,z4,z5,z6,z7,y0,y1,y2,y3,y4,y5,y6,y7,f0,f1,f2,f3,f4,f5,f6,f7⟩:=g5.get8))
 go_wp2;refine bodyPost_ret (v:=iH (a*d-b*c)) (by simp [results,Tryz.results249,go_sem,y0,y1,y2,y3,y4,y5,y6,y7]) rfl ⟨rfl,?_⟩
 go_grown

def sm (a:Int):Prop := -1099511627776≤a∧a≤1099511627776
theorem DC (a b c d:Int) (w:World) (ha:sm a) (hb:sm b) (hc:sm c) (hd:sm d) :
  Calls Tryz.prog 248 #[bV a b,bV c d] w (dw (bV (a-c) (b-d)) w):=by
 have h:=jN a b c d w;unfold sm at *
 rwa [dJ (n:=a-c) (by omega) (by omega),dJ (n:=b-d) (by omega) (by omega)] at h
theorem Du:iH 0 = .agg #[.int .u32 0,.int .u32 0,.int .u32 0,.int .u32 0,.int .u32 0,.int .u32 0,.int .u32 0,.int .u32 0]:=by simp [iH,aA]
theorem E9 {x y u v:Int} (h1 : -2199023255552≤x∧x≤2199023255552) (h2 : -2199023255552≤y∧y≤2199023255552) (h3 : -2199023255552≤u∧u≤2199023255552) (h4 : -2199023255552≤v∧v≤2199023255552) :
  -170141183460469231731687303715884105728≤x*v-y*u∧x*v-y*u<170141183460469231731687303715884105728:=by
 have m1:=fU h1.1 h1.2 h4.1 h4.2;have m2:=fU h2.1 h2.2 h3.1 h3.2;omega
theorem qL (a b c d p q:Int) (r1:sm a) (r2:sm b) (r3:sm c) (r4:sm d) (r5:sm p) (r6:sm q) (w:World) :
  Calls Tryz.prog 264 #[bV a b,bV c d,bV p q] w (dw (.int .i64 (dZ (bS a b c d p q) 0)) w):=by
 have hz:=Du;obtain ⟨W,hW⟩:∃ W,W=((w.alloc (.cells #[.int .i64 a,.int .i64 b] 24)).alloc (.cells #[.int .i64 c,.int .i64 d] 24)).alloc (.cells #[.int .i64 p,.int .i64 q] 24):=⟨_,rfl⟩
 have s1:W.drew.cell? ⟨w.heap.size,0,none⟩=some (.int .i64 a)∧W.drew.cell? ⟨w.heap.size,1,none⟩=some (.int .i64 b)∧W.drew.cell? ⟨w.heap.size+1,0,none⟩=some (.int .i64 c)∧W.drew.cell? ⟨w.heap.size+1,1,none⟩=some (.int .i64 d)∧W.drew.cell? ⟨w.heap.size+2,0,none⟩=some (.int .i64 p)∧W.drew.cell? ⟨w.heap.size+2,1,none⟩=some (.int .i64 q)∧Below w.heap.size w W.drew:=by
  subst hW;exact ⟨by go_simp,by go_simp,by go_simp,by go_simp,by go_simp,by go_simp,by go_grown⟩
 have S1:=hid s1;clear s1;have R1:=hid (And.intro (E9 (x:=c-a) (y:=d-b) (u:=p-a) (v:=q-b) (by unfold sm at *;omega) (by unfold sm at *;omega) (by unfold sm at *;omega) (by unfold sm at *;omega)) True.intro);have L1 : -9223372036854775808≤c-a∧c-a≤9223372036854775807:=by unfold sm at *;omega
 have L2 : -9223372036854775808≤d-b∧d-b≤9223372036854775807:=by unfold sm at *;omega
 have L3 : -9223372036854775808≤p-a∧p-a≤9223372036854775807:=by unfold sm at *;omega
 have L4 : -9223372036854775808≤q-b∧q-b≤9223372036854775807:=by unfold sm at *;omega
 have L:=hid (And.intro L1 (And.intro L2 (And.intro L3 L4)));clear L1 L2 L3 L4;have HZ:=hid hz;clear hz
 go_enter Tryz.func264,Tryz.ntmps264
 go_wp2;rw [← hW];have HW:=hid hW;clear hW
 go_region_held3 (fun w' => w'.cell? ⟨w.heap.size, 0, none⟩ = some (.int .i64 a) ∧ w'.cell? ⟨w.heap.size, 1, none⟩ = some (.int .i64 b) ∧ w'.cell? ⟨w.heap.size + 1, 0, none⟩ = some (.int .i64 c) ∧ w'.cell? ⟨w.heap.size + 1, 1, none⟩ = some (.int .i64 d) ∧ w'.cell? ⟨w.heap.size + 2, 0, none⟩ = some (.int .i64 p) ∧ w'.cell? ⟨w.heap.size + 2, 1, none⟩ = some (.int .i64 q) ∧ Below w.heap.size w w')
  (first | with_reducible exact S1.out | (with_reducible assumption) | (go_split_ands;with_reducible exact ⟨keepCell hb1 (by assumption),keepCell hb1 (by assumption),keepCell hb1 (by assumption),keepCell hb1 (by assumption),keepCell hb1 (by assumption),keepCell hb1 (by assumption),ah hb1 (by assumption)⟩))
  (first | (go_at_call 248;refine (DC _ _ _ _ _ (by assumption) (by assumption) (by assumption) (by assumption)).mono ?_;rintro e w1 ⟨rfl,hb1⟩) | (go_at_call 249;refine (nU _ _ _ _ L.out.1 L.out.2.1 L.out.2.2.1 L.out.2.2.2 _).mono ?_;rintro e w1 ⟨rfl,hb1⟩) | (go_at_call 250;rw [← HZ.out];refine (rR _ 0 R1.out.1.1 R1.out.1.2 (by omega) (by omega) _).mono ?_;rintro e w1 ⟨rfl,hb1⟩))
 go_wp2
 go_returns
 go_split_ands
 exact aj rfl (by assumption)
end
end Go.Proofs.YtokgmcomgflloaaGreat
