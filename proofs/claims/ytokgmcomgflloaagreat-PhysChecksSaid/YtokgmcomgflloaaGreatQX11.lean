/- Parts of a proof: contracts and laws. -/
import Derived.Test.YtokgmcomgflloaaGreatQX10
import Derived.Test.YtokgmcomgflloaaGreatQX07
import Derived.Test.YtokgmcomgflloaaGreatQX04
set_option maxRecDepth 100000
set_option maxHeartbeats 16000000
namespace Go.Proofs.YtokgmcomgflloaaGreat
section
set_option linter.unusedVariables false
set_option linter.unusedSimpArgs false
open Go.RowKit
def pz (l:List V) (k m:Nat):Bool:=decide (eD l k ((k+1) % l.length) ((k+m) % l.length)<8*(tO l k ((k+1) % l.length)+tO l k ((k+m) % l.length)))
def qF (l:List V) (k m:Nat):Prop:=∀ m',2≤m'→m'<m→pz l k m'=false
def wh (l:List V) (k:Nat):Prop:=∀ k',k'<k→qF l k' l.length
theorem nG {a n:Nat} (h:a<2*n):a % n=if a<n then a else a-n:=by
 split
 ·rename_i h1;exact Nat.mod_eq_of_lt h1
 ·rename_i h1;rw [Nat.mod_eq_sub_mod (by omega)];exact Nat.mod_eq_of_lt (by omega)
theorem Ey {l:List V} {k m:Nat} (h3:3≤l.length) (hk:k<l.length) (h2:2≤m) (hm:m<l.length) (hb:pz l k m=true):nW l=false:=by
 refine xZ (i:=k) (k:=(k+m) % l.length) hk (Nat.mod_lt _ (by omega)) ?_;unfold pz at hb;unfold iy;rw [decide_eq_true_eq] at hb ⊢;have e1:=nG (a:=k+m) (n:=l.length) (by omega);have e2:=nG (a:=k+1) (n:=l.length) (by omega);refine ⟨?_,?_,hb⟩
 ·rw [e1];split <;> omega
 ·rw [e1,e2];split <;> split <;> omega
theorem FP {l:List V} (h3:3≤l.length) (h:wh l l.length):nW l=true:=by
 refine AB fun k hk j hj=>?_
 unfold iy;rw [decide_eq_false_iff_not];rintro ⟨n1,n2,hb⟩;have e2:=nG (a:=k+1) (n:=l.length) (by omega);obtain ⟨m,hm⟩:∃ m,m=if k≤j then j-k else j+l.length-k:=⟨_,rfl⟩
 have hm2:2≤m:=by rw [e2] at n2;split at n2 <;> split at hm <;> omega
 have hml:m<l.length:=by split at hm <;> omega
 have e1:(k+m) % l.length=j:=by rw [nG (by omega)];split at hm <;> split <;> omega
 have:=h k hk m hm2 hml;unfold pz at this;rw [decide_eq_false_iff_not,e1] at this;exact this hb
theorem xU {l:List V} {k m:Nat} (h:qF l k m) (hb:pz l k m=false):qF l k (m+1):=fun m' h2 hk=>by
 by_cases e:m'=m
 ·subst e;exact hb
 ·exact h m' h2 (by omega)
theorem yO {l:List V} {k:Nat} (h:wh l k) (hb:qF l k l.length):wh l (k+1):=fun k' hk=>by
 by_cases e:k'=k
 ·subst e;exact hb
 ·exact h k' (by omega)
theorem zJ {l:List V} {m:Int} (h:∀ j,j<l.length→aB m (px l j) (py l j)=true):aT m l=true:=by
 unfold aT;rw [List.all_eq_true];intro x hx;obtain ⟨j,hj,rfl⟩:=List.mem_iff_getElem.1 hx;have:=h j hj;simpa [px,py,hj] using this
theorem sK (A:Option Addr) (n c:Nat) (l:List V) (w:World) (hS:Sl w A n c l):Calls Tryz.prog 230 #[.slice A n c] w (dw (.int .i64 (cO l)) w):=by
 have HS:=hid hS;clear hS
 go_enter Tryz.func230,Tryz.ntmps230
 go_wp2_with fail
 refine (xq A n c l _ HS.out).mono ?_;rintro e w1 ⟨rfl,hb1⟩;rw [← sS]
 by_cases hE:bF l=0
 case neg =>
  have hne:(bF l != 0)=true:=by simp [hE]
  go_wp2
  go_returns
  exact aj (by unfold cO;rw [if_pos hE]) hb1
 obtain ⟨h8,h3,hw,hr⟩:=dX hE;have HE:=hid hE;have HW:=hid hw;rw [hE];have hn:=HS.out.len;subst hn;obtain ⟨b,off,rfl,hC⟩:=HS.out.at_ (by intro h;subst h;simp at h3);clear hE hr hw;go_wp2
 go_loopw [18] (fun i wr=>∃ k:Nat,k≤l.length∧i = .int .i64 k∧(∀ j,j<k→aB 2097152 (px l j) (py l j)=true)∧Below w.heap.size w wr) (fun i _=>l.length-(intOf i).toNat)
 case atStart=>exact ⟨0,Nat.zero_le _,rfl,fun _ h=>absurd h (by omega),hb1⟩
 case round =>
  obtain ⟨k,hk,rfl,hno,hB⟩:=hrel;obtain ⟨wo,rfl⟩:∃ wo:World,wo=wr:=⟨_,rfl⟩;have HN:=hid hno;have hCo:=hC.below hB;have hbo:=hCo.lt;clear hno hb1
  by_cases hlt:k<l.length
  ·have hx := hCo.x k hlt;have hy:=hCo.y k hlt;obtain ⟨wa,hwa⟩:∃ wa,wa=wo.alloc (.cells #[.int .i64 (px l k),.int .i64 (py l k)] 24):=⟨_,rfl⟩;have r1:wa.cell? ⟨wo.heap.size,0,none⟩=some (.int .i64 (px l k)):=by rw [hwa];go_simp
   have r2:wa.cell? ⟨wo.heap.size,1,none⟩=some (.int .i64 (py l k)):=by rw [hwa];go_simp
   have hBa:Below w.heap.size w wa:=by rw [hwa];exact hB.alloc hB.size _
   clear hCo
   go_upto_region 7 with fail
   rw [← hwa];clear hwa hx hy
   go_wp2_with fail
   refine (aP (px l k) (py l k) 2097152 _ (by omega) (by omega)).mono ?_;rintro e w2 ⟨rfl,hb2⟩;have hB2:=ah hb2 hBa;clear hb2 hBa r1 r2
   by_cases hin:aB 2097152 (px l k) (py l k)=true
   ·rw [hin];go_wp2;go_roundw
    case rel =>
     refine ⟨k+1,hlt,by go_num,fun j hj=>?_,hB2⟩
     by_cases e:j=k
     ·subst e;exact hin
     ·exact HN.out j (by omega)
    case measure=>simp [intOf];omega
   ·have hfa : aB 2097152 (px l k) (py l k) = false := by simpa using hin
    rw [hfa];go_wp2
    go_returns
    refine aj ?_ hB2
    have hall:aT 2097152 l=false:=by
     rcases Bool.eq_false_or_eq_true (aT 2097152 l) with h | h
     ·exact absurd (bG h hlt) hin
     ·exact h
    unfold cO;rw [if_neg (by simp [HE.out]),if_pos hall]
  have hke:k=l.length:=by omega
  have HA:=hid (zJ (l:=l) (m:=2097152) (fun j hj=>HN.out j (by omega)));clear hCo HN;have HB0:=hid hB;go_wp2
  go_loopw [28] (fun i wr=>∃ k:Nat,k≤l.length∧i = .int .i64 k∧wh l k∧Below w.heap.size w wr) (fun i _=>l.length-(intOf i).toNat)
  case atStart=>exact ⟨0,Nat.zero_le _,rfl,fun _ h=>absurd h (by omega),hB⟩
  case round =>
   clear hB hbo hlt hk hke;clear HB0;rename_i k0 _ _;obtain ⟨k,hk,rfl,hno,hB⟩:=hrel;obtain ⟨wo,rfl⟩:∃ wo:World,wo=wr:=⟨_,rfl⟩;have HN:=hid hno;have hCo:=hC.below hB;have hbo:=hCo.lt;have hl0:¬ l=[]:=by intro h;rw [h] at h3;simp at h3
   clear hno
   by_cases hlt:k<l.length
   ·obtain ⟨j, hje⟩ : ∃ j, j = (k + 1) % l.length := ⟨_, rfl⟩;have hj:j<l.length:=by rw [hje];exact Nat.mod_lt _ (by omega)
    have hji:((k:Int)+1) % (l.length:Int)=(j:Int):=by rw [hje];simp
    have hji2:(((k:Int)+1) % (l.length:Int)).toNat=j:=by omega
    have hji3:((k:Int)+1) % (l.length:Int)<(l.length:Int):=by omega
    have hji4:0≤((k:Int)+1) % (l.length:Int):=by omega
    have hx:=hCo.x k hlt;have hy:=hCo.y k hlt;obtain ⟨q1,q2,q3,q4⟩:=aV.1 (bG HW.out hlt);obtain ⟨q5,q6,q7,q8⟩:=aV.1 (bG HW.out hj);obtain ⟨ex,hex⟩:∃ ex,ex=px l j-px l k:=⟨_,rfl⟩;obtain ⟨ey,hey⟩:∃ ey,ey=py l j-py l k:=⟨_,rfl⟩;have b1 : -131072000≤ex∧ex≤131072000:=by omega
    have b2 : -131072000≤ey∧ey≤131072000:=by omega
    have v1:wrap64 (px l j-px l k)=ex:=by rw [← hex];exact dJ (by omega) (by omega)
    have v2:wrap64 (py l j-py l k)=ey:=by rw [← hey];exact dJ (by omega) (by omega)
    have hwk:IntKind.i64.wrap ((k:Int)+1)=(k:Int)+1:=IntWalk.i64_in _ (by omega);have htm:((k:Int)+1).tmod (l.length:Int)=(j:Int):=by rw [Int.tmod_eq_emod_of_nonneg (by omega)];exact hji
    have HJ:=hid hje;have HEX:=hid hex;have HEY:=hid hey;obtain ⟨wa,hwa⟩:∃ wa,wa=wo.alloc (.cells #[.int .i64 (px l k),.int .i64 (py l k)] 24):=⟨_,rfl⟩;have r1:wa.cell? ⟨wo.heap.size,0,none⟩=some (.int .i64 (px l k)):=by rw [hwa];go_simp
    have r2:wa.cell? ⟨wo.heap.size,1,none⟩=some (.int .i64 (py l k)):=by rw [hwa];go_simp
    have hBa:Below w.heap.size w wa:=by rw [hwa];exact hB.alloc hB.size _
    have hCa:=hC.below hBa;have x2:=hCa.x j hj;have y2:=hCa.y j hj;clear hCo hje hex hey hCa
    go_upto_region 13 with fail
    rw [← hwa];clear hwa hx hy
    go_cut [8] from 33 to 42 (fun t wx=>∃ ge:Nat,t = .pointer (some ⟨ge,0,none⟩)∧wo.heap.size<ge∧wx.cell? ⟨ge,0,none⟩=some (.int .i64 ex)∧wx.cell? ⟨ge,1,none⟩=some (.int .i64 ey)∧wx.cell? ⟨wo.heap.size,0,none⟩=some (.int .i64 (px l k))∧wx.cell? ⟨wo.heap.size,1,none⟩=some (.int .i64 (py l k))∧Below w.heap.size w wx)
    case first =>
     refine wp_region_noPanic ?_;refine au (S:=(S2 (fun w'=>w'.cell? ⟨b,off+j*2,none⟩=some (.int .i64 (px l j))∧w'.cell? ⟨b,off+j*2+1,none⟩=some (.int .i64 (py l j))∧w'.cell? ⟨wo.heap.size,0,none⟩=some (.int .i64 (px l k))∧w'.cell? ⟨wo.heap.size,1,none⟩=some (.int .i64 (py l k))∧Below w.heap.size w w'))) (T:=(fun j=>[0,0,0,0,0,0,0,0,0,0,0,1].getD j 0)) (by kernel_rfl) (aM ⟨x2,y2,r1,r2,hBa.drew⟩) (fun hH=>?_);have hWr1:aO (S2 (fun w'=>w'.cell? ⟨b,off+j*2,none⟩=some (.int .i64 (px l j))∧w'.cell? ⟨b,off+j*2+1,none⟩=some (.int .i64 (py l j))∧w'.cell? ⟨wo.heap.size,0,none⟩=some (.int .i64 (px l k))∧w'.cell? ⟨wo.heap.size,1,none⟩=some (.int .i64 (py l k))∧Below w.heap.size w w')):=aR _;refine gH [(0,33),(1,34),(2,35),(3,36),(4,37),(5,38),(6,39),(7,40),(8,41)] 3 0 0 (L':=?Lr1_1) hWr1 hH ?hyr1_1 ?_
     case hyr1_1=>((iterate 9 apply gK;rfl;kernel_rfl;intro w' hSw;replace hSw:=aC hSw;(try dsimp only at hSw);have q0:=hSw.1;have q1:=hSw.2.1;have q2:=hSw.2.2.1;have q3:=hSw.2.2.2.1;have q4:=hSw.2.2.2.2;(try simp only [sB,sC]);go_simp;(try with_reducible rfl));exact gF)
     simp only [sB,sC];refine Ur [9,10] ?_;refine Uc 0 rfl (fun K hK=>?_) ?_
     ·try clear hb
      go_simp
      (go_at_call 248;refine (jN (px l j) (py l j) (px l k) (py l k) _).mono ?_;rintro e wn ⟨rfl,hb⟩;try (replace hT:=dP hb hT))
      refine hK.out _ _ ?hsr1_10 (fun hH2=>?hrr1_10)
      case hsr1_10=>exact aM (by have hG:=hH;replace hG:=aC hG;(try dsimp only at hG);have q0:=hG.1;have q1:=hG.2.1;have q2:=hG.2.2.1;have q3:=hG.2.2.2.1;have q4:=hG.2.2.2.2;exact ⟨keepCell hb q0,keepCell hb q1,keepCell hb q2,keepCell hb q3,ah hb q4⟩)
      clear hK K hH;have hH:=hH2;clear hH2
      try simp only [Act.put,sA,sB,sC]
      refine U1 10 0 rfl (fun K hK=>?_)
      try clear hb
      have hG:=hH;replace hG:=aC hG;(try dsimp only at hG);have q0:=hG.1;have q1:=hG.2.1;have q2:=hG.2.2.1;have q3:=hG.2.2.2.1;have q4:=hG.2.2.2.2;go_simp;refine hK.out _ _ ?hsr1_11 (fun hH2=>?hrr1_11)
      case hsr1_11=>exact aM (by have hG:=hH;replace hG:=aC hG;(try dsimp only at hG);have q0:=hG.1;have q1:=hG.2.1;have q2:=hG.2.2.1;have q3:=hG.2.2.2.1;have q4:=hG.2.2.2.2;exact ⟨keepCell Ba q0,keepCell Ba q1,keepCell Ba q2,keepCell Ba q3,q4.alloc q4.size _⟩)
      clear hK K hH;have hH:=hH2;clear hH2
      try simp only [Act.put,sA,sB,sC]
      have hT:VZ (wn.alloc (.cells #[.int .i64 0,.int .i64 0] 24)) wn.heap.size:=VZ.here _ _ _ _;obtain ⟨gT,hgT⟩:∃ g,g=wn.heap.size:=⟨_,rfl⟩;have hlT:wo.heap.size<gT:=by rw [hgT];exact lt_of_cell q2
      rw [← hgT] at hT
      try rw [← hgT]
      clear hgT q0 q1 q2 q3 q4;generalize wn.alloc (.cells #[.int .i64 0,.int .i64 0] 24)=wx10 at *
      refine U1 11 1 rfl (fun K hK=>?_);have hG:=hH;replace hG:=aC hG;(try dsimp only at hG);have q0:=hG.1;have q1:=hG.2.1;have q2:=hG.2.2.1;have q3:=hG.2.2.2.1;have q4:=hG.2.2.2.2;obtain ⟨⟨z0,z1,y0,y1⟩,yf⟩:=hT;go_simp;refine hK.out _ _ ?hsr1_12 (fun hH2=>?hrr1_12)
      case hsr1_12=>exact fZ
      clear hK K hH;have hH:=hH2;clear hH2
      try simp only [Act.put,sA,sB,sC]
      refine ak (by kernel_rfl) ?_ _ _;refine NoPanic.normal ?_
      go_wp2_with fail
      go_meet
      refine ⟨gT,rfl,hlT,by rw [← v1];go_simp,by rw [← v2];go_simp,by go_simp,by go_simp,by have:=hB.size;go_grown⟩
     refine Uc 0 rfl (fun K hK=>?_) ?_
     ·try clear hb
      have hG:=hH;replace hG:=aC hG;(try dsimp only at hG);have q0:=hG.1;have q1:=hG.2.1;have q2:=hG.2.2.1;have q3:=hG.2.2.2.1;have q4:=hG.2.2.2.2;go_simp;refine hK.out _ _ ?hsr1_13 (fun hH2=>?hrr1_13)
      case hsr1_13=>exact aM (by have hG:=hH;replace hG:=aC hG;(try dsimp only at hG);have q0:=hG.1;have q1:=hG.2.1;have q2:=hG.2.2.1;have q3:=hG.2.2.2.1;have q4:=hG.2.2.2.2;exact ⟨keepCell Ba q0,keepCell Ba q1,keepCell Ba q2,keepCell Ba q3,q4.alloc q4.size _⟩)
      clear hK K hH;have hH:=hH2;clear hH2
      try simp only [Act.put,sA,sB,sC]
      have hT:VZ ((wa.alloc (.cells #[.int .i64 0,.int .i64 0] 24)).drew) wa.heap.size:=VZ.drew (VZ.here _ _ _ _);obtain ⟨gT,hgT⟩:∃ g,g=wa.heap.size:=⟨_,rfl⟩;have hlT:wo.heap.size<gT:=by rw [hgT];exact lt_of_cell q2
      rw [← hgT] at hT
      try rw [← hgT]
      clear hgT q0 q1 q2 q3 q4;generalize (wa.alloc (.cells #[.int .i64 0,.int .i64 0] 24)).drew=wx10 at *
      refine U1 9 0 rfl (fun K hK=>?_)
      try clear hb
      go_simp
      (go_at_call 248;refine (jN (px l j) (py l j) (px l k) (py l k) _).mono ?_;rintro e wn ⟨rfl,hb⟩;try (replace hT:=dP hb hT))
      refine hK.out _ _ ?hsr1_14 (fun hH2=>?hrr1_14)
      case hsr1_14=>exact aM (by have hG:=hH;replace hG:=aC hG;(try dsimp only at hG);have q0:=hG.1;have q1:=hG.2.1;have q2:=hG.2.2.1;have q3:=hG.2.2.2.1;have q4:=hG.2.2.2.2;exact ⟨keepCell hb q0,keepCell hb q1,keepCell hb q2,keepCell hb q3,ah hb q4⟩)
      clear hK K hH;have hH:=hH2;clear hH2
      try simp only [Act.put,sA,sB,sC]
      refine U1 11 1 rfl (fun K hK=>?_);have hG:=hH;replace hG:=aC hG;(try dsimp only at hG);have q0:=hG.1;have q1:=hG.2.1;have q2:=hG.2.2.1;have q3:=hG.2.2.2.1;have q4:=hG.2.2.2.2;obtain ⟨⟨z0,z1,y0,y1⟩,yf⟩:=hT;go_simp;refine hK.out _ _ ?hsr1_15 (fun hH2=>?hrr1_15)
      case hsr1_15=>exact fZ
      clear hK K hH;have hH:=hH2;clear hH2
      try simp only [Act.put,sA,sB,sC]
      refine ak (by kernel_rfl) ?_ _ _;refine NoPanic.normal ?_
      go_wp2_with fail
      go_meet
      refine ⟨gT,rfl,hlT,by rw [← v1];go_simp,by rw [← v2];go_simp,by go_simp,by go_simp,by have:=hB.size;go_grown⟩
     exact bQ.nil
    case rest =>
     obtain ⟨ge,rfl,hge,d0,d1,a0,a1,hBz⟩:=hcut;clear r1 r2 hBa x2 y2 v1 v2 hji hji2 hji3 hji4 hwk htm;obtain ⟨wa,hwa⟩:∃ wa:World,wa=wc:=⟨_,rfl⟩;rw [← hwa] at d0 d1 a0 a1 hBz ⊢;clear hwa;go_wp2
     go_loopw [9] (fun i wr=>∃ m:Nat,2≤m∧m≤l.length∧i = .int .i64 m∧qF l k m∧Below wa.heap.size wa wr) (fun i _=>l.length-(intOf i).toNat)
     case atStart=>exact ⟨2,Nat.le_refl _,by omega,rfl,fun _ h1 h2=>absurd h1 (by omega),Below.refl _ _⟩
     case round =>
      obtain ⟨m,hm2,hm,rfl,hcol,hBi⟩:=hrel;have HCo:=hid hcol;clear hcol;obtain ⟨wi,rfl⟩:∃ wi:World,wi=wr:=⟨_,rfl⟩;have hBw:Below w.heap.size w wi:=ah hBi hBz
      by_cases hlt2:m<l.length
      ·obtain ⟨j2, hje2⟩ : ∃ j2, j2 = (k + m) % l.length := ⟨_, rfl⟩;have hj2:j2<l.length:=by rw [hje2];exact Nat.mod_lt _ (by omega)
       have hji:((k:Int)+m) % (l.length:Int)=(j2:Int):=by rw [hje2];simp
       have hji2:(((k:Int)+m) % (l.length:Int)).toNat=j2:=by omega
       have hji3:((k:Int)+m) % (l.length:Int)<(l.length:Int):=by omega
       have hji4:0≤((k:Int)+m) % (l.length:Int):=by omega
       have hwk:IntKind.i64.wrap ((k:Int)+m)=(k:Int)+m:=IntWalk.i64_in _ (by omega);have htm:((k:Int)+m).tmod (l.length:Int)=(j2:Int):=by rw [Int.tmod_eq_emod_of_nonneg (by omega)];exact hji
       have hCi:=hC.below hBw;have x3:=hCi.x j2 hj2;have y3:=hCi.y j2 hj2;have g5:=keepCell hBi a0;have g6:=keepCell hBi a1;have g7:=keepCell hBi d0;have g8:=keepCell hBi d1;obtain ⟨q9,q10,q11,q12⟩:=aV.1 (bG HW.out hj2);obtain ⟨fx,hfx⟩:∃ fx,fx=px l j2-px l k:=⟨_,rfl⟩;obtain ⟨fy,hfy⟩:∃ fy,fy=py l j2-py l k:=⟨_,rfl⟩;have b3 : -131072000≤fx∧fx≤131072000:=by omega
       have b4 : -131072000≤fy∧fy≤131072000:=by omega
       have v3:wrap64 (px l j2-px l k)=fx:=by rw [← hfx];exact dJ (by omega) (by omega)
       have v4:wrap64 (py l j2-py l k)=fy:=by rw [← hfy];exact dJ (by omega) (by omega)
       have HBD:Hid (pz l k m=decide (ex*fy-ey*fx<8*(aS ex+aS ey+aS fx+aS fy))):=by
        show _=_;unfold pz tO eD bS;rw [decide_eq_decide,← hje2,← HJ.out,← HEX.out,← HEY.out,← hfx,← hfy];omega
       clear hje2 hfx hfy hCi
       go_upto_region 17 with fail
       go_cut [10] from 49 to 59 (fun t wx=>∃ gf:Nat,t = .pointer (some ⟨gf,0,none⟩)∧ge<gf∧wx.cell? ⟨gf,0,none⟩=some (.int .i64 fx)∧wx.cell? ⟨gf,1,none⟩=some (.int .i64 fy)∧wx.cell? ⟨ge,0,none⟩=some (.int .i64 ex)∧wx.cell? ⟨ge,1,none⟩=some (.int .i64 ey)∧Below wa.heap.size wa wx)
       case first =>
        refine wp_region_noPanic ?_;refine au (S:=(S2 (fun w'=>w'.cell? ⟨b,off+j2*2,none⟩=some (.int .i64 (px l j2))∧w'.cell? ⟨b,off+j2*2+1,none⟩=some (.int .i64 (py l j2))∧w'.cell? ⟨wo.heap.size,0,none⟩=some (.int .i64 (px l k))∧w'.cell? ⟨wo.heap.size,1,none⟩=some (.int .i64 (py l k))∧w'.cell? ⟨ge,0,none⟩=some (.int .i64 ex)∧w'.cell? ⟨ge,1,none⟩=some (.int .i64 ey)∧Below wa.heap.size wa w'))) (T:=(fun j=>[0,0,0,0,0,0,0,0,0,0,0,0,1].getD j 0)) (by kernel_rfl) (aM ⟨x3,y3,g5,g6,g7,g8,hBi.drew⟩) (fun hH=>?_);have hWr2:aO (S2 (fun w'=>w'.cell? ⟨b,off+j2*2,none⟩=some (.int .i64 (px l j2))∧w'.cell? ⟨b,off+j2*2+1,none⟩=some (.int .i64 (py l j2))∧w'.cell? ⟨wo.heap.size,0,none⟩=some (.int .i64 (px l k))∧w'.cell? ⟨wo.heap.size,1,none⟩=some (.int .i64 (py l k))∧w'.cell? ⟨ge,0,none⟩=some (.int .i64 ex)∧w'.cell? ⟨ge,1,none⟩=some (.int .i64 ey)∧Below wa.heap.size wa w')):=aR _;refine gH [(0,49),(1,50),(2,51),(3,52),(4,53),(5,54),(6,55),(7,56),(8,57),(9,58)] 3 0 0 (L':=?Lr2_1) hWr2 hH ?hyr2_1 ?_
        case hyr2_1=>((iterate 10 apply gK;rfl;kernel_rfl;intro w' hSw;replace hSw:=aC hSw;(try dsimp only at hSw);have q0:=hSw.1;have q1:=hSw.2.1;have q2:=hSw.2.2.1;have q3:=hSw.2.2.2.1;have q4:=hSw.2.2.2.2.1;have q5:=hSw.2.2.2.2.2.1;have q6:=hSw.2.2.2.2.2.2;(try simp only [sB,sC]);go_simp;(try with_reducible rfl));exact gF)
        simp only [sB,sC];refine Ur [10,11] ?_;refine Uc 0 rfl (fun K hK=>?_) ?_
        ·try clear hb
         go_simp
         (go_at_call 248;refine (jN (px l j2) (py l j2) (px l k) (py l k) _).mono ?_;rintro e wn ⟨rfl,hb⟩;try (replace hT:=dP hb hT))
         refine hK.out _ _ ?hsr2_11 (fun hH2=>?hrr2_11)
         case hsr2_11=>exact aM (by have hG:=hH;replace hG:=aC hG;(try dsimp only at hG);have q0:=hG.1;have q1:=hG.2.1;have q2:=hG.2.2.1;have q3:=hG.2.2.2.1;have q4:=hG.2.2.2.2.1;have q5:=hG.2.2.2.2.2.1;have q6:=hG.2.2.2.2.2.2;exact ⟨keepCell hb q0,keepCell hb q1,keepCell hb q2,keepCell hb q3,keepCell hb q4,keepCell hb q5,ah hb q6⟩)
         clear hK K hH;have hH:=hH2;clear hH2
         try simp only [Act.put,sA,sB,sC]
         refine U1 11 0 rfl (fun K hK=>?_)
         try clear hb
         have hG:=hH;replace hG:=aC hG;(try dsimp only at hG);have q0:=hG.1;have q1:=hG.2.1;have q2:=hG.2.2.1;have q3:=hG.2.2.2.1;have q4:=hG.2.2.2.2.1;have q5:=hG.2.2.2.2.2.1;have q6:=hG.2.2.2.2.2.2;go_simp;refine hK.out _ _ ?hsr2_12 (fun hH2=>?hrr2_12)
         case hsr2_12=>exact aM (by have hG:=hH;replace hG:=aC hG;(try dsimp only at hG);have q0:=hG.1;have q1:=hG.2.1;have q2:=hG.2.2.1;have q3:=hG.2.2.2.1;have q4:=hG.2.2.2.2.1;have q5:=hG.2.2.2.2.2.1;have q6:=hG.2.2.2.2.2.2;exact ⟨keepCell Ba q0,keepCell Ba q1,keepCell Ba q2,keepCell Ba q3,keepCell Ba q4,keepCell Ba q5,q6.alloc q6.size _⟩)
         clear hK K hH;have hH:=hH2;clear hH2
         try simp only [Act.put,sA,sB,sC]
         have hT:VZ (wn.alloc (.cells #[.int .i64 0,.int .i64 0] 24)) wn.heap.size:=VZ.here _ _ _ _;obtain ⟨gT,hgT⟩:∃ g,g=wn.heap.size:=⟨_,rfl⟩;have hlT:ge<gT∧wa.heap.size≤gT:=by rw [hgT];exact ⟨lt_of_cell q4,q6.size⟩
         rw [← hgT] at hT
         try rw [← hgT]
         clear hgT q0 q1 q2 q3 q4 q5 q6;generalize wn.alloc (.cells #[.int .i64 0,.int .i64 0] 24)=wx11 at *
         refine U1 12 1 rfl (fun K hK=>?_);have hG:=hH;replace hG:=aC hG;(try dsimp only at hG);have q0:=hG.1;have q1:=hG.2.1;have q2:=hG.2.2.1;have q3:=hG.2.2.2.1;have q4:=hG.2.2.2.2.1;have q5:=hG.2.2.2.2.2.1;have q6:=hG.2.2.2.2.2.2;obtain ⟨⟨z0,z1,y0,y1⟩,yf⟩:=hT;go_simp;refine hK.out _ _ ?hsr2_13 (fun hH2=>?hrr2_13)
         case hsr2_13=>exact fZ
         clear hK K hH;have hH:=hH2;clear hH2
         try simp only [Act.put,sA,sB,sC]
         refine ak (by kernel_rfl) ?_ _ _;refine NoPanic.normal ?_
         go_wp2_with fail
         go_meet
         refine ⟨gT,rfl,hlT.1,by rw [← v3];go_simp,by rw [← v4];go_simp,by go_simp,by go_simp,by have:=hlT.2;go_grown⟩
        refine Uc 0 rfl (fun K hK=>?_) ?_
        ·try clear hb
         have hG:=hH;replace hG:=aC hG;(try dsimp only at hG);have q0:=hG.1;have q1:=hG.2.1;have q2:=hG.2.2.1;have q3:=hG.2.2.2.1;have q4:=hG.2.2.2.2.1;have q5:=hG.2.2.2.2.2.1;have q6:=hG.2.2.2.2.2.2;go_simp;refine hK.out _ _ ?hsr2_14 (fun hH2=>?hrr2_14)
         case hsr2_14=>exact aM (by have hG:=hH;replace hG:=aC hG;(try dsimp only at hG);have q0:=hG.1;have q1:=hG.2.1;have q2:=hG.2.2.1;have q3:=hG.2.2.2.1;have q4:=hG.2.2.2.2.1;have q5:=hG.2.2.2.2.2.1;have q6:=hG.2.2.2.2.2.2;exact ⟨keepCell Ba q0,keepCell Ba q1,keepCell Ba q2,keepCell Ba q3,keepCell Ba q4,keepCell Ba q5,q6.alloc q6.size _⟩)
         clear hK K hH;have hH:=hH2;clear hH2
         try simp only [Act.put,sA,sB,sC]
         have hT:VZ ((wi.alloc (.cells #[.int .i64 0,.int .i64 0] 24)).drew) wi.heap.size:=VZ.drew (VZ.here _ _ _ _);obtain ⟨gT,hgT⟩:∃ g,g=wi.heap.size:=⟨_,rfl⟩;have hlT:ge<gT∧wa.heap.size≤gT:=by rw [hgT];exact ⟨lt_of_cell q4,q6.size⟩
         rw [← hgT] at hT
         try rw [← hgT]
         clear hgT q0 q1 q2 q3 q4 q5 q6;generalize (wi.alloc (.cells #[.int .i64 0,.int .i64 0] 24)).drew=wx11 at *
         refine U1 10 0 rfl (fun K hK=>?_)
         try clear hb
         go_simp
         (go_at_call 248;refine (jN (px l j2) (py l j2) (px l k) (py l k) _).mono ?_;rintro e wn ⟨rfl,hb⟩;try (replace hT:=dP hb hT))
         refine hK.out _ _ ?hsr2_15 (fun hH2=>?hrr2_15)
         case hsr2_15=>exact aM (by have hG:=hH;replace hG:=aC hG;(try dsimp only at hG);have q0:=hG.1;have q1:=hG.2.1;have q2:=hG.2.2.1;have q3:=hG.2.2.2.1;have q4:=hG.2.2.2.2.1;have q5:=hG.2.2.2.2.2.1;have q6:=hG.2.2.2.2.2.2;exact ⟨keepCell hb q0,keepCell hb q1,keepCell hb q2,keepCell hb q3,keepCell hb q4,keepCell hb q5,ah hb q6⟩)
         clear hK K hH;have hH:=hH2;clear hH2
         try simp only [Act.put,sA,sB,sC]
         refine U1 12 1 rfl (fun K hK=>?_);have hG:=hH;replace hG:=aC hG;(try dsimp only at hG);have q0:=hG.1;have q1:=hG.2.1;have q2:=hG.2.2.1;have q3:=hG.2.2.2.1;have q4:=hG.2.2.2.2.1;have q5:=hG.2.2.2.2.2.1;have q6:=hG.2.2.2.2.2.2;obtain ⟨⟨z0,z1,y0,y1⟩,yf⟩:=hT;go_simp;refine hK.out _ _ ?hsr2_16 (fun hH2=>?hrr2_16)
         case hsr2_16=>exact fZ
         clear hK K hH;have hH:=hH2;clear hH2
         try simp only [Act.put,sA,sB,sC]
         refine ak (by kernel_rfl) ?_ _ _;refine NoPanic.normal ?_
         go_wp2_with fail
         go_meet
         refine ⟨gT,rfl,hlT.1,by rw [← v3];go_simp,by rw [← v4];go_simp,by go_simp,by go_simp,by have:=hlT.2;go_grown⟩
        exact bQ.nil
       case rest =>
        obtain ⟨gf,rfl,hgf,f0,f1,e0,e1,hBf⟩:=hcut;clear x3 y3 g5 g6 g7 g8 v3 v4 hji hji2 hji3 hji4 hwk htm hBi hBw;obtain ⟨s1,hs1⟩:∃ s,s=aS ex:=⟨_,rfl⟩;obtain ⟨s2,hs2⟩:∃ s,s=aS ey:=⟨_,rfl⟩;obtain ⟨s3,hs3⟩:∃ s,s=aS fx:=⟨_,rfl⟩;obtain ⟨s4,hs4⟩:∃ s,s=aS fy:=⟨_,rfl⟩;have t1:0≤s1∧s1≤131072000:=by rw [hs1];unfold aS;split <;> omega
        have t2:0≤s2∧s2≤131072000:=by rw [hs2];unfold aS;split <;> omega
        have t3:0≤s3∧s3≤131072000:=by rw [hs3];unfold aS;split <;> omega
        have t4:0≤s4∧s4≤131072000:=by rw [hs4];unfold aS;split <;> omega
        rw [← hs1,← hs2,← hs3,← hs4] at HBD;have mx:∀ (a:Int),(if -a > a then -a else a)=aS a:=fun a=>by unfold aS;split <;> split <;> omega
        have hr1:∀ (ts:Array TypeId) (t:TypeId) (w:World),(Builtin.max_ ts t #[.int .i64 ex,.int .i64 (-ex)]).run Tryz.prog w = .ok (.int .i64 s1) w:=fun ts t w=>by rw [run_max_int2,mx,hs1]
        have hr2:∀ (ts:Array TypeId) (t:TypeId) (w:World),(Builtin.max_ ts t #[.int .i64 ey,.int .i64 (-ey)]).run Tryz.prog w = .ok (.int .i64 s2) w:=fun ts t w=>by rw [run_max_int2,mx,hs2]
        have hr3:∀ (ts:Array TypeId) (t:TypeId) (w:World),(Builtin.max_ ts t #[.int .i64 fx,.int .i64 (-fx)]).run Tryz.prog w = .ok (.int .i64 s3) w:=fun ts t w=>by rw [run_max_int2,mx,hs3]
        have hr4:∀ (ts:Array TypeId) (t:TypeId) (w:World),(Builtin.max_ ts t #[.int .i64 fy,.int .i64 (-fy)]).run Tryz.prog w = .ok (.int .i64 s4) w:=fun ts t w=>by rw [run_max_int2,mx,hs4]
        clear hs1 hs2 hs3 hs4 mx;obtain ⟨X,hX⟩:∃ X,X=ex*fy-ey*fx:=⟨_,rfl⟩;obtain ⟨S,hSS⟩:∃ S,S=8*(s1+s2+s3+s4):=⟨_,rfl⟩;rw [← hX,← hSS] at HBD;have m1:=fU (x:=ex) (y:=fy) (M:=131072000) (N:=131072000) (by omega) (by omega) (by omega) (by omega);have m2:=fU (x:=ey) (y:=fx) (M:=131072000) (N:=131072000) (by omega) (by omega) (by omega) (by omega);have u1:IntKind.i64.wrap (-ex) = -ex:=IntWalk.i64_in _ (by omega);have u2:IntKind.i64.wrap (-ey) = -ey:=IntWalk.i64_in _ (by omega);have u3:IntKind.i64.wrap (-fx) = -fx:=IntWalk.i64_in _ (by omega);have u4:IntKind.i64.wrap (-fy) = -fy:=IntWalk.i64_in _ (by omega);have u5:IntKind.i64.wrap (s1+s2)=s1+s2:=IntWalk.i64_in _ (by omega);have u6:IntKind.i64.wrap (s1+s2+s3)=s1+s2+s3:=IntWalk.i64_in _ (by omega);have u7:IntKind.i64.wrap (s1+s2+s3+s4)=s1+s2+s3+s4:=IntWalk.i64_in _ (by omega);have u8:IntKind.i64.wrap (8*(s1+s2+s3+s4))=S:=by rw [← hSS];exact IntWalk.i64_in _ (by omega)
        have HXC:Hid (∀ w,Calls Tryz.prog 249 #[bV ex ey,bV fx fy] w (dw (iH X) w)):=fun w=>by
         rw [hX];exact nU ex ey fx fy (by omega) (by omega) (by omega) (by omega) w
        have HSC:Hid (∀ w,Calls Tryz.prog 251 #[.int .i64 S] w (dw (iH S) w)):=fun w=>rW S (by omega) (by omega) w
        have HCM:Hid (∀ w,Calls Tryz.prog 250 #[iH X,iH S] w (dw (.int .i64 (dZ X S)) w)):=fun w=>rR X S (by omega) (by omega) (by omega) (by omega) w
        clear hX hSS m1 m2
        go_wp2_with fail
        refine wp_region_noPanic ?_;refine au (S:=(S2 (fun w'=>w'.cell? ⟨ge,0,none⟩=some (.int .i64 ex)∧w'.cell? ⟨ge,1,none⟩=some (.int .i64 ey)∧w'.cell? ⟨gf,0,none⟩=some (.int .i64 fx)∧w'.cell? ⟨gf,1,none⟩=some (.int .i64 fy)∧Below wa.heap.size wa w'))) (T:=(fun _=>0)) (by kernel_rfl) (aM ⟨e0,e1,f0,f1,hBf.drew⟩) (fun hH=>?_);have hWr3:aO (S2 (fun w'=>w'.cell? ⟨ge,0,none⟩=some (.int .i64 ex)∧w'.cell? ⟨ge,1,none⟩=some (.int .i64 ey)∧w'.cell? ⟨gf,0,none⟩=some (.int .i64 fx)∧w'.cell? ⟨gf,1,none⟩=some (.int .i64 fy)∧Below wa.heap.size wa w')):=aR _;refine gH [(0,60),(1,61),(3,63),(4,64),(5,65),(6,66),(7,67),(8,68),(9,69),(10,70),(11,71),(12,72),(13,73),(14,74),(15,75),(16,76),(17,77),(18,78),(19,79),(20,80),(21,81),(22,82),(23,83),(24,84),(25,85),(26,86),(27,87),(28,88),(29,89),(30,90)] 4 0 0 (L':=?Lr3_1) hWr3 hH ?hyr3_1 ?_
        case hyr3_1=>((iterate 30 apply gK;rfl;kernel_rfl;intro w' hSw;replace hSw:=aC hSw;(try dsimp only at hSw);have q0:=hSw.1;have q1:=hSw.2.1;have q2:=hSw.2.2.1;have q3:=hSw.2.2.2.1;have q4:=hSw.2.2.2.2;(try simp only [sB,sC]);go_simp;(try with_reducible rfl));exact gF)
        simp only [sB,sC];refine U1 2 0 rfl (fun K hK=>?_)
        try clear hb
        go_simp
        (go_at_call 249;refine (HXC.out _).mono ?_;rintro e wn ⟨rfl,hb⟩)
        refine hK.out _ _ ?hsr3_31 (fun hH2=>?hrr3_31)
        case hsr3_31=>exact aM (by have hG:=hH;replace hG:=aC hG;(try dsimp only at hG);have q0:=hG.1;have q1:=hG.2.1;have q2:=hG.2.2.1;have q3:=hG.2.2.2.1;have q4:=hG.2.2.2.2;exact ⟨keepCell hb q0,keepCell hb q1,keepCell hb q2,keepCell hb q3,ah hb q4⟩)
        clear hK K hH;have hH:=hH2;clear hH2
        try simp only [Act.put,sA,sB,sC]
        refine U1 31 0 rfl (fun K hK=>?_)
        try clear hb
        go_simp
        (go_at_call 251;refine (HSC.out _).mono ?_;rintro e wn ⟨rfl,hb⟩)
        refine hK.out _ _ ?hsr3_32 (fun hH2=>?hrr3_32)
        case hsr3_32=>exact aM (by have hG:=hH;replace hG:=aC hG;(try dsimp only at hG);have q0:=hG.1;have q1:=hG.2.1;have q2:=hG.2.2.1;have q3:=hG.2.2.2.1;have q4:=hG.2.2.2.2;exact ⟨keepCell hb q0,keepCell hb q1,keepCell hb q2,keepCell hb q3,ah hb q4⟩)
        clear hK K hH;have hH:=hH2;clear hH2
        try simp only [Act.put,sA,sB,sC]
        refine U1 32 0 rfl (fun K hK=>?_)
        try clear hb
        go_simp
        (go_at_call 250;refine (HCM.out _).mono ?_;rintro e wn ⟨rfl,hb⟩)
        refine hK.out _ _ ?hsr3_33 (fun hH2=>?hrr3_33)
        case hsr3_33=>exact aM (by have hG:=hH;replace hG:=aC hG;(try dsimp only at hG);have q0:=hG.1;have q1:=hG.2.1;have q2:=hG.2.2.1;have q3:=hG.2.2.2.1;have q4:=hG.2.2.2.2;exact ⟨keepCell hb q0,keepCell hb q1,keepCell hb q2,keepCell hb q3,ah hb q4⟩)
        clear hK K hH;have hH:=hH2;clear hH2
        try simp only [Act.put,sA,sB,sC]
        refine Ut 33 93 0 0 0 (v:=?vr3_34) rfl hWr3 hH ?hyr3_34 ?_
        case hyr3_34=>(intro w' hSw;clear hSw;go_simp;try (with_reducible rfl))
        simp only [sB,sC];refine ak (by kernel_rfl) ?_ _ _;refine NoPanic.normal ?_;clear hWr3;replace hH:=aC hH
        (try dsimp only at hH)
        have q0:=hH.1;have q1:=hH.2.1;have q2:=hH.2.2.1;have q3:=hH.2.2.2.1;have q4:=hH.2.2.2.2;have hBn:Below wa.heap.size wa wn:=q4;have hBnw:Below w.heap.size w wn:=ah q4 hBz;clear q0 q1 q2 q3 q4 hH hb e0 e1 f0 f1 hBf hr1 hr2 hr3 hr4 u1 u2 u3 u4 u5 u6 u7 u8 HXC HSC HCM
        by_cases hbad:X<S
        ·have HF : Hid (nW l = false) := Ey h3 hlt hm2 hlt2 (by rw [HBD.out, decide_eq_true_eq]; exact hbad);have hcz:dZ X S<0:=kW.2 hbad;clear HBD;go_wp2
         go_returns
         exact aj (by unfold cO;rw [if_neg (by simp [HE.out]),if_neg (by simp [HA.out]),if_pos (.inl HF.out)]) hBnw
        ·have HF : Hid (pz l k m = false) := by show _ = _; rw [HBD.out, decide_eq_false_iff_not]; exact hbad
         have hcz:¬ dZ X S<0:=fun h=>hbad (kW.1 h)
         clear HBD;go_wp2;go_roundw
         case rel=>exact ⟨m+1,by omega,hlt2,by go_num,xU HCo.out HF.out,hBn⟩
         case measure=>simp [intOf];omega
      ·have hge2 : l.length ≤ m := by omega
       clear d0 d1 a0 a1;go_wp2;go_roundw
       case rel=>exact ⟨k+1,hlt,by go_num,yO HN.out (by have:=HCo.out;rwa [show m=l.length by omega] at this),hBw⟩
       case measure=>simp [intOf];omega
   ·have hge : l.length ≤ k := by omega
    have HF:Hid (nW l=true):=FP h3 (by have:=HN.out;rwa [show k=l.length by omega] at this);clear hCo HN
    go_wp2_with fail
    refine (uN (some ⟨b,off,none⟩) l.length c l 0 0 _ (HS.out.below hB) HW.out h8 h3).mono ?_;rintro e w5 ⟨rfl,hb5⟩;have hB5:=ah hb5 hB;have hie:sH l 0 0=hasB l 0 0:=(has_eq HE.out).symm;rw [hie]
    have HG:Hid (cO l=if hasB l 0 0=false then 3 else 0):=by
     show _=_;unfold cO;rw [if_neg (by simp [HE.out]),if_neg (by simp [HA.out])]
     by_cases hh:hasB l 0 0=false
     ·rw [if_pos (.inr hh),if_pos hh]
     ·rw [if_neg (by rintro (h | h);(rw [HF.out] at h;simp at h);exact hh h),if_neg hh]
    clear hb5 hB hie HF
    cases hh:hasB l 0 0 with
    | true =>
     go_wp2
     go_returns
     exact aj (by rw [HG.out,if_neg (by simp [hh])]) hB5
    | false =>
     go_wp2
     go_returns
     exact aj (by rw [HG.out,if_pos hh]) hB5
end
end Go.Proofs.YtokgmcomgflloaaGreat
