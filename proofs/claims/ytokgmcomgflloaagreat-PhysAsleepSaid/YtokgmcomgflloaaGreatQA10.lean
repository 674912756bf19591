/- Parts of a proof: contracts and laws. -/
import Derived.Test.YtokgmcomgflloaaGreatQA07
import Derived.Test.YtokgmcomgflloaaGreatQA06
import Derived.Test.YtokgmcomgflloaaGreatQA09
import Derived.Test.YtokgmcomgflloaaGreatQA02
import Derived.Test.YtokgmcomgflloaaGreatQA08
set_option maxRecDepth 100000
set_option maxHeartbeats 16000000
namespace Go.Proofs.YtokgmcomgflloaaGreat
section
set_option linter.unusedVariables false
set_option linter.unusedSimpArgs false
open Go.RowKit

def jw (b:Bd) (p q:Int):Int:=dI b.vx (aX (aX b.spin 411775) (dI q b.py))
def jM (b:Bd) (p q:Int):Int:=bT b.vy (aX (aX b.spin 411775) (dI p b.px))
def Kr (b:Bd) (p q nx ny:Int):Int:=bT (dX 65536 b.mass) (dX (aX (qh (dI p b.px) (dI q b.py) nx ny) (qh (dI p b.px) (dI q b.py) nx ny)) b.iner)
def jP (b:Bd) (p q nx ny:Int):Int:=if b.mass=0∨b.asleep=true then 0 else Kr b p q nx ny
def xq (b:Bd) (l:List V) (p q nx ny:Int):Int:=if aT b l≠0∨b.mass=0∨b.asleep=true then 0 else Kr b p q nx ny
def lY (b:Bd) (jx jy u v:Int):Bd :=
 if b.mass=0∨b.asleep=true then b
 else { b with vx:=bD (bT b.vx (dX jx b.mass)) 268435456,vy:=bD (bT b.vy (dX jy b.mass)) 268435456,spin:=bD (bT b.spin (KD b jx jy u v)) 16777216 }
theorem Ea {b:Bd} {l:List V} (h:aT b l=0) (jx jy u v:Int):pushB b l jx jy u v=lY b jx jy u v:=by
 unfold pushB lY
 by_cases hc:b.mass=0∨b.asleep=true
 ·rw [if_pos (.inr hc),if_pos hc]
 ·rw [if_neg (by rintro (h1 | h1);exact h1 h;exact hc h1),if_neg hc]
theorem nG {b:Bd} {l:List V} (h:aT b l=0) (p q nx ny:Int):xq b l p q nx ny=jP b p q nx ny:=by
 unfold xq jP
 by_cases hc:b.mass=0∨b.asleep=true
 ·rw [if_pos (.inr hc),if_pos hc]
 ·rw [if_neg (by rintro (h1 | h1);exact h1 h;exact hc h1),if_neg hc]
theorem jk (b:Bd) (A:Option Addr) (n c:Nat) (l:List V) (p q nx ny:Int) (w:World) (hS:Sl w A n c l):Calls Tryz.prog 173 #[dK b A n c,aR p q,aR nx ny] w (dG (.int .i64 (xq b l p q nx ny)) w):=by
 obtain ⟨W,hW⟩:∃ W,W=((w.alloc (.cells #[.int .i64 b.px,.int .i64 b.py,.int .i64 b.vx,.int .i64 b.vy,.int .i64 b.ang,.int .i64 b.spin,.int .i64 b.mass,.int .i64 b.iner,.int .i64 b.bounce,.int .i64 b.rub,.slice A n c,.bool b.asleep,.int .i64 b.calm] 27)).alloc (.cells #[.int .i64 p,.int .i64 q] 24)).alloc (.cells #[.int .i64 nx,.int .i64 ny] 24):=⟨_,rfl⟩;have HK0:=hid (show aL W w.heap.size b A n c by rw [hW];exact ((aL.here w b A n c _).alloc _).alloc _);have hB0:Below w.heap.size w W:=by rw [hW];go_grown
 have p0:W.cell? ⟨w.heap.size+1,0,none⟩=some (.int .i64 p):=by rw [hW];go_simp
 have p1:W.cell? ⟨w.heap.size+1,1,none⟩=some (.int .i64 q):=by rw [hW];go_simp
 have n0:W.cell? ⟨w.heap.size+2,0,none⟩=some (.int .i64 nx):=by rw [hW];go_simp
 have n1:W.cell? ⟨w.heap.size+2,1,none⟩=some (.int .i64 ny):=by rw [hW];go_simp
 have HS0:=hid (hS.below hB0);clear hS;obtain ⟨k0,k1,k2,k3,k4,k5,k6,k7,k8,k9,k10,k11,k12,kf⟩:=HK0.out
 go_enter Tryz.func173,Tryz.ntmps173
 go_wp2_with fail
 rw [← hW];clear hW;refine (iJ b A n c l _ HS0.out).mono ?_;rintro e w1 ⟨rfl,hb1⟩;have HK1:=hid (aM hb1 HK0.out);have hB1:=aj hb1 hB0;replace p0:=keepCell hb1 p0;replace p1:=keepCell hb1 p1;replace n0:=keepCell hb1 n0;replace n1:=keepCell hb1 n1;clear hb1 HK0 hB0 HS0;clear k0 k1 k2 k3 k4 k5 k6 k7 k8 k9 k10 k11 k12 kf
 by_cases hE:aT b l=0
 ·have HE := hid hE;rw [hE];clear hE;obtain ⟨k0,k1,k2,k3,k4,k5,k6,k7,k8,k9,k10,k11,k12,kf⟩:=HK1.out
  by_cases hm:b.mass=0
  ·have hmb : (b.mass == 0) = true := by simp [hm]
   go_wp2
   go_returns
   exact aB (by unfold xq;rw [if_pos (.inr (.inl hm))]) hB1
  ·have hmb : (b.mass == 0) = false := by simp [hm]
   cases ha:b.asleep with
   | true =>
    rw [ha] at k11;go_wp2
    go_returns
    exact aB (by unfold xq;rw [if_pos (.inr (.inr ha))]) hB1
   | false =>
    rw [ha] at k11;have hcond:¬ (aT b l≠0∨b.mass=0∨b.asleep=true):=by rintro (h | h | h);exact h HE.out;exact hm h;(rw [ha] at h;simp at h)
    have HC:=hid hcond;clear hcond
    go_wp2_with fail
    clear k0 k1 k2 k3 k4 k5 k6 k7 k8 k9 k10 k11 k12 kf;refine wp_region_noPanic ?_;refine au (S:=(S2 (fun w'=>aL w' w.heap.size b A n c∧Below w.heap.size w w'∧w'.cell? ⟨w.heap.size+1,0,none⟩=some (.int .i64 p)∧w'.cell? ⟨w.heap.size+1,1,none⟩=some (.int .i64 q)∧w'.cell? ⟨w.heap.size+2,0,none⟩=some (.int .i64 nx)∧w'.cell? ⟨w.heap.size+2,1,none⟩=some (.int .i64 ny)))) (T:=(fun _=>0)) (by kernel_rfl) (aC ⟨HK1.out.drew,hB1.drew,p0,p1,n0,n1⟩) (fun hH=>?_);have hWr5:aH (S2 (fun w'=>aL w' w.heap.size b A n c∧Below w.heap.size w w'∧w'.cell? ⟨w.heap.size+1,0,none⟩=some (.int .i64 p)∧w'.cell? ⟨w.heap.size+1,1,none⟩=some (.int .i64 q)∧w'.cell? ⟨w.heap.size+2,0,none⟩=some (.int .i64 nx)∧w'.cell? ⟨w.heap.size+2,1,none⟩=some (.int .i64 ny))):=aK _;refine dn [(0,20),(1,21),(2,22),(4,24)] 3 0 0 (L':=?Lr5_1) hWr5 hH ?hyr5_1 ?_
    case hyr5_1=>((iterate 4 apply dA;rfl;kernel_rfl;intro w' hSw;replace hSw:=aA hSw;(try dsimp only at hSw);have q0:=hSw.1;have q1:=hSw.2.1;have q2:=hSw.2.2.1;have q3:=hSw.2.2.2.1;have q4:=hSw.2.2.2.2.1;have q5:=hSw.2.2.2.2.2;obtain ⟨qa0_0,qa0_1,qa0_2,qa0_3,qa0_4,qa0_5,qa0_6,qa0_7,qa0_8,qa0_9,qa0_10,qa0_11,qa0_12,qa0_f⟩:=id q0;(try simp only [sB,sC]);go_simp;(try with_reducible rfl));exact dw)
    simp only [sB,sC];refine U1 3 0 rfl (fun K hK=>?_)
    try clear hb
    go_simp
    (go_at_call 11;refine (je p q b.px b.py _).mono ?_;rintro e wn ⟨rfl,hb⟩)
    refine hK.out _ _ ?hsr5_5 (fun hH2=>?hrr5_5)
    case hsr5_5=>exact aC (by have hG:=hH;replace hG:=aA hG;(try dsimp only at hG);have q0:=hG.1;have q1:=hG.2.1;have q2:=hG.2.2.1;have q3:=hG.2.2.2.1;have q4:=hG.2.2.2.2.1;have q5:=hG.2.2.2.2.2;exact ⟨aM hb q0,aj hb q1,keepCell hb q2,keepCell hb q3,keepCell hb q4,keepCell hb q5⟩)
    clear hK K hH;have hH:=hH2;clear hH2
    try simp only [Act.put,sA,sB,sC]
    refine U1 5 0 rfl (fun K hK=>?_)
    try clear hb
    go_simp
    (go_at_call 224;refine (rX (dI p b.px) (dI q b.py) nx ny _).mono ?_;rintro e wn ⟨rfl,hb⟩)
    refine hK.out _ _ ?hsr5_6 (fun hH2=>?hrr5_6)
    case hsr5_6=>exact aC (by have hG:=hH;replace hG:=aA hG;(try dsimp only at hG);have q0:=hG.1;have q1:=hG.2.1;have q2:=hG.2.2.1;have q3:=hG.2.2.2.1;have q4:=hG.2.2.2.2.1;have q5:=hG.2.2.2.2.2;exact ⟨aM hb q0,aj hb q1,keepCell hb q2,keepCell hb q3,keepCell hb q4,keepCell hb q5⟩)
    clear hK K hH;have hH:=hH2;clear hH2
    try simp only [Act.put,sA,sB,sC]
    refine Ut 6 7 0 0 0 (v:=?vr5_7) rfl hWr5 hH ?hyr5_7 ?_
    case hyr5_7=>(intro w' hSw;clear hSw;go_simp;try (with_reducible rfl))
    simp only [sB,sC];refine ak (by kernel_rfl) ?_ _ _;refine NoPanic.normal ?_;clear hWr5;replace hH:=aA hH
    (try dsimp only at hH)
    have q0:=hH.1;have q1:=hH.2.1;have q2:=hH.2.2.1;have q3:=hH.2.2.2.1;have q4:=hH.2.2.2.2.1;have q5:=hH.2.2.2.2.2;obtain ⟨x,hx⟩:∃ x,x=qh (dI p b.px) (dI q b.py) nx ny:=⟨_,rfl⟩;rw [← hx];have HX:=hid hx;have HKn:=hid q0;have hBn:=q1;clear hx hH hb q0 q1 q2 q3 q4 q5 HK1 hB1 p0 p1 n0 n1
    go_wp2_with fail
    refine wp_region_noPanic ?_;refine au (S:=(S2 (fun w'=>aL w' w.heap.size b A n c∧Below w.heap.size w w'))) (T:=(fun _=>0)) (by kernel_rfl) (aC ⟨HKn.out.drew,hBn.drew⟩) (fun hH=>?_);have hWr6:aH (S2 (fun w'=>aL w' w.heap.size b A n c∧Below w.heap.size w w')):=aK _;refine dn [(0,26),(1,27),(3,29),(4,30),(6,32),(7,33)] 5 0 0 (L':=?Lr6_1) hWr6 hH ?hyr6_1 ?_
    case hyr6_1=>((iterate 6 apply dA;rfl;kernel_rfl;intro w' hSw;replace hSw:=aA hSw;(try dsimp only at hSw);have q0:=hSw.1;have q1:=hSw.2;obtain ⟨qa0_0,qa0_1,qa0_2,qa0_3,qa0_4,qa0_5,qa0_6,qa0_7,qa0_8,qa0_9,qa0_10,qa0_11,qa0_12,qa0_f⟩:=id q0;(try simp only [sB,sC]);go_simp;(try with_reducible rfl));exact dw)
    simp only [sB,sC];refine U1 2 0 rfl (fun K hK=>?_)
    try clear hb
    go_simp
    (go_at_call 225;refine (iI 65536 b.mass _).mono ?_;rintro e wn ⟨rfl,hb⟩)
    refine hK.out _ _ ?hsr6_7 (fun hH2=>?hrr6_7)
    case hsr6_7=>exact aC (by have hG:=hH;replace hG:=aA hG;(try dsimp only at hG);have q0:=hG.1;have q1:=hG.2;exact ⟨aM hb q0,aj hb q1⟩)
    clear hK K hH;have hH:=hH2;clear hH2
    try simp only [Act.put,sA,sB,sC]
    refine U1 5 0 rfl (fun K hK=>?_)
    try clear hb
    go_simp
    (go_at_call 52;refine (bM x x _).mono ?_;rintro e wn ⟨rfl,hb⟩)
    refine hK.out _ _ ?hsr6_8 (fun hH2=>?hrr6_8)
    case hsr6_8=>exact aC (by have hG:=hH;replace hG:=aA hG;(try dsimp only at hG);have q0:=hG.1;have q1:=hG.2;exact ⟨aM hb q0,aj hb q1⟩)
    clear hK K hH;have hH:=hH2;clear hH2
    try simp only [Act.put,sA,sB,sC]
    refine U1 8 0 rfl (fun K hK=>?_)
    try clear hb
    go_simp
    (go_at_call 225;refine (iI (aX x x) b.iner _).mono ?_;rintro e wn ⟨rfl,hb⟩)
    refine hK.out _ _ ?hsr6_9 (fun hH2=>?hrr6_9)
    case hsr6_9=>exact aC (by have hG:=hH;replace hG:=aA hG;(try dsimp only at hG);have q0:=hG.1;have q1:=hG.2;exact ⟨aM hb q0,aj hb q1⟩)
    clear hK K hH;have hH:=hH2;clear hH2
    try simp only [Act.put,sA,sB,sC]
    refine U1 9 0 rfl (fun K hK=>?_)
    try clear hb
    go_simp
    (go_at_call 153;refine (eH (dX 65536 b.mass) (dX (aX x x) b.iner) _).mono ?_;rintro e wn ⟨rfl,hb⟩)
    refine hK.out _ _ ?hsr6_10 (fun hH2=>?hrr6_10)
    case hsr6_10=>exact aC (by have hG:=hH;replace hG:=aA hG;(try dsimp only at hG);have q0:=hG.1;have q1:=hG.2;exact ⟨aM hb q0,aj hb q1⟩)
    clear hK K hH;have hH:=hH2;clear hH2
    try simp only [Act.put,sA,sB,sC]
    refine Ut 10 6 0 0 0 (v:=?vr6_11) rfl hWr6 hH ?hyr6_11 ?_
    case hyr6_11=>(intro w' hSw;clear hSw;go_simp;try (with_reducible rfl))
    simp only [sB,sC];refine ak (by kernel_rfl) ?_ _ _;refine NoPanic.normal ?_;clear hWr6;replace hH:=aA hH
    (try dsimp only at hH)
    have q0:=hH.1;have q1:=hH.2;go_wp2
    go_returns
    exact aB (by unfold xq;rw [if_neg HC.out];unfold Kr;rw [HX.out]) q1
 ·have hne : (aT b l != 0) = true := by simp [hE]
  go_wp2
  go_returns
  exact aB (by unfold xq;rw [if_pos (.inl hE)]) hB1
theorem oJ {n m:Int} (h:0≤m) : -m≤bD n m∧bD n m≤m:=by unfold bD;omega
theorem LQ {b:Bd} {l:List V} (h:aT b l=0) (jx jy u v:Int):aT (lY b jx jy u v) l=0:=by
 unfold lY
 by_cases c:b.mass=0∨b.asleep=true
 ·rw [if_pos c];exact h
 ·rw [if_neg c];obtain ⟨h1,h2⟩:=bJ h;unfold aT;rw [if_neg (by simp [h1])];have c1:(b.mass == 0)=false:=by simp;intro e;exact c (.inl e)
  have c2:b.asleep=false:=by cases q:b.asleep with | false=>rfl | true=>exact absurd (.inr q) c
  unfold kT at h2 ⊢
  by_cases k1:(aI 58982400 b.px b.py && aI 268435456 b.vx b.vy && iA b.spin (-16777216) 16777216 && iA b.ang 0 65535)=true
  ·rw [if_pos k1] at h2;simp only [Bool.and_eq_true] at k1;dsimp only
   rw [if_pos (by
    have w1:=aD.2 (show -268435456≤bD (bT b.vx (dX jx b.mass)) 268435456∧bD (bT b.vx (dX jx b.mass)) 268435456≤268435456 ∧ -268435456≤bD (bT b.vy (dX jy b.mass)) 268435456∧bD (bT b.vy (dX jy b.mass)) 268435456≤268435456 by
     have:=oJ (n:=bT b.vx (dX jx b.mass)) (m:=268435456) (by omega);have:=oJ (n:=bT b.vy (dX jy b.mass)) (m:=268435456) (by omega)
     omega)
    have i1:∀ n,iA (bD n 16777216) (-16777216) 16777216=true:=fun n=>bX.2 (oJ (by omega))
    simp only [w1,i1,k1.1.1.1,k1.2,Bool.and_self])]
   by_cases k2:(iA b.mass 0 1099511627776 && iA b.iner 0 1099511627776 && iA b.bounce 0 65536 && iA b.rub 0 65536 && iA b.calm 0 1000)=true
   ·rw [if_pos k2] at h2 ⊢;simp only [c1,c2,Bool.false_and,Bool.or_false] at h2 ⊢;exact h2
   ·rw [if_neg k2] at h2;cases h2
  ·rw [if_neg k1] at h2;cases h2

def aF (x:BE):Bd × List V:=(x.b,x.l)
def fU (f : Nat → Int) : Nat → Int
 | 0=>0
 | k+1=>if fU f k≠0 then fU f k else f k
theorem oq (f : Nat → Int) {k : Nat} (h : fU f (k + 1) ≠ 0) : ∀ {m : Nat}, k < m → fU f m = fU f (k + 1)
 | 0,g=>by omega
 | m+1,g=>by
  rcases Nat.lt_or_ge k m with q | q
  ·have := oq f h (m := m) q
   rw [show fU f (m+1)=if fU f m≠0 then fU f m else f m from rfl,if_pos (by rw [this];exact h),this]
  ·rw [show m=k by omega]
theorem nQ {f : Nat → Int} : ∀ {m : Nat}, fU f m = 0 → ∀ k, k < m → f k = 0
 | 0,_,k,h=>by omega
 | m+1,hz,k,h=>by
  have hz:(if fU f m≠0 then fU f m else f m)=0:=hz
  by_cases h0:fU f m=0
  ·rw [if_neg (by simp [h0])] at hz
   rcases Nat.lt_or_ge k m with g | g
   ·exact nQ h0 k g
   ·rw [show k=m by omega];exact hz
  ·rw [if_pos h0] at hz;exact absurd hz h0
def kD (L:List BE) (i:Int):Int:=match L[i.toNat]? with | some x=>x.b.mass | none=>0
def lX (n:Nat) (x:Jt):Bool:=decide (x.a<0) || (decide ((n:Int)≤x.b) || (decide (x.b≤x.a) || (!aI 2097152 x.p1 x.p2 || (!aI 2097152 x.q1 x.q2 || (decide (x.len<0) || decide (65536000<x.len))))))
def Cc (L:List BE) (x:Jt):Int:=if lX L.length x=true then 1 else if kD L x.a=0∧kD L x.b=0 then 3 else 0
theorem og {L:List BE} {x:Jt} (h:lX L.length x=true):Cc L x=1:=by unfold Cc;rw [if_pos h]
def uq (L:List BE) (J:List Jt) (k:Nat):Int:=fU (fun i=>match J[i]? with | some x=>Cc L x | none=>0) k
def bS (L:List BE) (J:List Jt):Int:=if aZ L≠0 then aZ L else if 32<J.length then 2 else uq L J J.length
theorem zX {L:List BE} {J:List Jt} {k:Nat} (hk:k<J.length) (hz:uq L J k=0):uq L J (k+1)=Cc L J[k]:=by
 have e:uq L J (k+1)=if uq L J k≠0 then uq L J k else match J[k]? with | some x=>Cc L x | none=>0:=rfl
 rw [e,if_neg (by simp [hz]),List.getElem?_eq_getElem hk]
theorem Jq {L:List BE} {J:List Jt} {k:Nat} {e:Int} (hk:k<J.length) (h:uq L J (k+1)=e) (he:e≠0):uq L J J.length=e:=by
 rw [← h];exact oq _ (by have h2:fU _ (k+1)=e:=h;rw [h2];exact he) hk
theorem iK {L:List BE} {J:List Jt} (h:bS L J=0):aZ L=0∧J.length≤32∧∀ x ∈ J,Cc L x=0:=by
 unfold bS at h
 by_cases h0:aZ L=0
 ·rw [if_neg (by simp [h0])] at h
  by_cases h1:32<J.length
  ·rw [if_pos h1] at h;cases h
  ·rw [if_neg h1] at h;refine ⟨h0,by omega,fun x hx=>?_⟩;obtain ⟨k,hk,rfl⟩:=List.getElem_of_mem hx;have:=nQ h k hk;simpa [hk] using this
 ·rw [if_pos h0] at h;exact absurd h h0
theorem nC {L:List BE} {x:Jt} (h:Cc L x=0):(0≤x.a∧x.a<x.b∧x.b<(L.length:Int))∧aI 2097152 x.p1 x.p2=true∧aI 2097152 x.q1 x.q2=true∧(0≤x.len∧x.len≤65536000)∧¬ (kD L x.a=0∧kD L x.b=0):=by
 unfold Cc at h
 by_cases hb:lX L.length x=true
 ·rw [if_pos hb] at h;cases h
 ·rw [if_neg hb] at h;have hb2:lX L.length x=false:=by simpa using hb
  simp only [lX,Bool.or_eq_false_iff,decide_eq_false_iff_not,Bool.not_eq_false'] at hb2;obtain ⟨h1,h2,h3,h4,h5,h6,h7⟩:=hb2;refine ⟨by omega,h4,h5,by omega,fun hm=>?_⟩;rw [if_pos hm] at h;cases h
theorem dU (a b:Int) (w:World):Calls Tryz.prog 130 #[aR a b] w (dG (.bool (aI 2097152 a b)) w):=by
 obtain ⟨M,hM⟩:∃ M,M=max a b:=⟨_,rfl⟩;obtain ⟨m,hm⟩:∃ m,m=min a b:=⟨_,rfl⟩
 have HW:Hid (aI 2097152 a b=(decide (M≤2097152) && decide (-2097152≤m))):=by
  show _=_;rw [Bool.eq_iff_iff,aD];simp;omega
 have hr1:∀ (ts:Array TypeId) (t:TypeId) (w:World),(Builtin.max_ ts t #[.int .i64 a,.int .i64 b]).run Tryz.prog w = .ok (.int .i64 M) w:=fun ts t w=>by
  rw [run_max_int2];have:(if b > a then b else a)=M:=by split <;> omega
  rw [this]
 have hr2:∀ (ts:Array TypeId) (t:TypeId) (w:World),(Builtin.min_ ts t #[.int .i64 a,.int .i64 b]).run Tryz.prog w = .ok (.int .i64 m) w:=fun ts t w=>by
  rw [run_min_int2];have:(if b<a then b else a)=m:=by split <;> omega
  rw [this]
 clear hM hm;generalize aI 2097152 a b=R at *
 go_enter Tryz.func130,Tryz.ntmps130
 by_cases h1 : -2097152≤m
 ·by_cases h2 : M ≤ 2097152
  ·have HR : Hid (R = true) := by show _ = _; rw [HW.out]; simp [h1, h2]
   clear HW;go_wp2
   go_returns
   exact bR (by rw [HR.out];try simp [*]) (by go_grown)
  ·have HR : Hid (R = false) := by show _ = _; rw [HW.out]; simp [h1, h2]
   clear HW;go_wp2
   go_returns
   exact bR (by rw [HR.out];try simp [*]) (by go_grown)
 ·have HR : Hid (R = false) := by show _ = _; rw [HW.out]; simp [h1]
  clear HW;go_wp2
  go_returns
  exact bR (by rw [HR.out];try simp [*]) (by go_grown)
theorem nV (A B:Option Addr) (n c n' c':Nat) (L:List BE) (J:List Jt) (w:World) (hS:iH w A n c L) (hJ:dW gZ w B n' c' J) :
  Calls Tryz.prog 59 #[.slice A n c,.slice B n' c'] w (dG (.int .i64 (bS L J)) w):=by
 have hn:=hS.sl.len;have hcap:=hS.sl.cap;have hbig:=hS.sl.big;have hn':=hJ.len;have hcap':=hJ.cap;have hbig':=hJ.big;subst hn hn';have HSL:=hid (fun (w':World) (hb:Below w.heap.size w w')=>hS.below hb);have HSJ:=hid (fun (w':World) (hb:Below w.heap.size w w')=>hJ.below hb);have HCK:=hid (nL A L.length c L w hS);clear hS hJ
 go_enter Tryz.func59,Tryz.ntmps59
 go_wp2_with fail
 refine HCK.out.mono ?_;rintro e w1 ⟨rfl,hB⟩;clear HCK
 by_cases hE:aZ L=0
 case neg =>
  have HR:Hid (bS L J=aZ L):=by show _=_;unfold bS;rw [if_pos hE]
  have hne:(aZ L != 0)=true:=by simp [hE]
  generalize aZ L=z at *
  go_wp2
  go_returns
  exact aB HR.out.symm hB
 obtain ⟨h64,hval⟩:=eY hE;have HV:=hid hval
 by_cases h32:32<J.length
 ·have HR : Hid (bS L J = 2) := by show _ = _; unfold bS; rw [if_neg (by simp [hE]), if_pos h32]
  rw [hE];clear hE hval;go_wp2
  go_returns
  exact aB HR.out.symm hB
 have HJ:Hid (bS L J=uq L J J.length):=by show _=_;unfold bS;rw [if_neg (by simp [hE]),if_neg h32]
 rw [hE];clear hE hval;go_wp2
 go_loopw [19] (fun i wr=>∃ k:Nat,k≤J.length∧i = .int .i64 k∧uq L J k=0∧Below w.heap.size w wr) (fun i _=>J.length-(intOf i).toNat)
 case atStart=>exact ⟨0,Nat.zero_le _,rfl,rfl,hB⟩
 case round =>
  clear hB;obtain ⟨k,hk,rfl,hz,hB⟩:=hrel;obtain ⟨wo,rfl⟩:∃ wo:World,wo=wr:=⟨_,rfl⟩
  by_cases hlt:k<J.length
  ·obtain ⟨ba, off, hA, hC⟩ := (HSJ.out _ hB).at_ (by intro h; subst h; simp at hlt);subst hA;have HST:Hid (uq L J (k+1)=Cc L J[k]):=zX hlt hz;have HF:Hid (∀ e,e≠0→Cc L J[k]=e→bS L J=e):=fun e he h=>by rw [HJ.out];exact Jq hlt (by rw [HST.out,h]) he
   obtain ⟨x,hx⟩:∃ x,x=J[k]:=⟨_,rfl⟩;obtain ⟨d0,d1,d2,d3,d4,d5,d6⟩:=yB hC hlt hx;rw [← hx] at HST HF;have hbo:=hC.lt;have hlt':(k:Int)<(J.length:Int):=by omega
   have hkw:IntKind.i64.wrap ((k:Int)+1)=(k:Int)+1:=IntWalk.i64_in _ (by omega);clear hC hx hz;obtain ⟨a,b,p1,p2,q1,q2,ln⟩:=x;simp only at d0 d1 d2 d3 d4 d5 d6;obtain ⟨wj,hwj⟩:∃ wj,wj=wo.alloc (.cells #[.int .i64 a,.int .i64 b,.int .i64 p1,.int .i64 p2,.int .i64 q1,.int .i64 q2,.int .i64 ln] 37):=⟨_,rfl⟩;have hBw:Below w.heap.size w wj:=by rw [hwj];exact hB.alloc hB.size _
   have j0:wj.cell? ⟨wo.heap.size,0,none⟩=some (.int .i64 a):=by rw [hwj];go_simp
   have j1:wj.cell? ⟨wo.heap.size,1,none⟩=some (.int .i64 b):=by rw [hwj];go_simp
   have j2:wj.cell? ⟨wo.heap.size,2,none⟩=some (.int .i64 p1):=by rw [hwj];go_simp
   have j3:wj.cell? ⟨wo.heap.size,3,none⟩=some (.int .i64 p2):=by rw [hwj];go_simp
   have j4:wj.cell? ⟨wo.heap.size,4,none⟩=some (.int .i64 q1):=by rw [hwj];go_simp
   have j5:wj.cell? ⟨wo.heap.size,5,none⟩=some (.int .i64 q2):=by rw [hwj];go_simp
   have j6:wj.cell? ⟨wo.heap.size,6,none⟩=some (.int .i64 ln):=by rw [hwj];go_simp
   have HP0:Hid True:=trivial;have HQ0:Hid True:=trivial;have hwl:wo.heap.size<wj.heap.size:=lt_of_cell j0
   go_upto_region 10 with fail
   rw [← hwj];clear hwj d0 d1 d2 d3 d4 d5 d6 hbo hB;have hB:=hBw;clear hBw
   by_cases c1:a<0
   ·have HR := hid (HF.out 1 (by omega) (og (by simp [lX, c1])));clear HF HP0 HQ0
    go_wp2_with (first | (go_at_call 130;refine (dU _ _ _).mono ?_;rintro e wn ⟨rfl,hb⟩;(try rw [HP.out]);(try rw [HQ.out]);replace hB:=aj hb hB;replace j0:=keepCell hb j0;replace j1:=keepCell hb j1;replace j2:=keepCell hb j2;replace j3:=keepCell hb j3;replace j4:=keepCell hb j4;replace j5:=keepCell hb j5;replace j6:=keepCell hb j6;clear hb))
    go_returns
    exact aB HR.out.symm hB
   by_cases c2:(L.length:Int)≤b
   ·have HR := hid (HF.out 1 (by omega) (og (by simp [lX, c2])));clear HF HP0 HQ0
    go_wp2_with (first | (go_at_call 130;refine (dU _ _ _).mono ?_;rintro e wn ⟨rfl,hb⟩;(try rw [HP.out]);(try rw [HQ.out]);replace hB:=aj hb hB;replace j0:=keepCell hb j0;replace j1:=keepCell hb j1;replace j2:=keepCell hb j2;replace j3:=keepCell hb j3;replace j4:=keepCell hb j4;replace j5:=keepCell hb j5;replace j6:=keepCell hb j6;clear hb))
    go_returns
    exact aB HR.out.symm hB
   by_cases c3:b≤a
   ·have HR := hid (HF.out 1 (by omega) (og (by simp [lX, c3])));clear HF HP0 HQ0
    go_wp2_with (first | (go_at_call 130;refine (dU _ _ _).mono ?_;rintro e wn ⟨rfl,hb⟩;(try rw [HP.out]);(try rw [HQ.out]);replace hB:=aj hb hB;replace j0:=keepCell hb j0;replace j1:=keepCell hb j1;replace j2:=keepCell hb j2;replace j3:=keepCell hb j3;replace j4:=keepCell hb j4;replace j5:=keepCell hb j5;replace j6:=keepCell hb j6;clear hb))
    go_returns
    exact aB HR.out.symm hB
   cases hp:aI 2097152 p1 p2 with
   | false =>
    have HP:Hid (aI 2097152 p1 p2=false):=hp;have HQ:Hid True:=trivial;have HR:=hid (HF.out 1 (by omega) (og (by simp [lX,hp])));clear HF HP0 HQ0
    go_wp2_with (first | (go_at_call 130;refine (dU _ _ _).mono ?_;rintro e wn ⟨rfl,hb⟩;(try rw [HP.out]);(try rw [HQ.out]);replace hB:=aj hb hB;replace j0:=keepCell hb j0;replace j1:=keepCell hb j1;replace j2:=keepCell hb j2;replace j3:=keepCell hb j3;replace j4:=keepCell hb j4;replace j5:=keepCell hb j5;replace j6:=keepCell hb j6;clear hb))
    go_returns
    exact aB HR.out.symm hB
   | true =>
   have HP:Hid (aI 2097152 p1 p2=true):=hp
   cases hq:aI 2097152 q1 q2 with
   | false =>
    have HQ:Hid (aI 2097152 q1 q2=false):=hq;have HR:=hid (HF.out 1 (by omega) (og (by simp [lX,hq])));clear HF HP0 HQ0
    go_wp2_with (first | (go_at_call 130;refine (dU _ _ _).mono ?_;rintro e wn ⟨rfl,hb⟩;(try rw [HP.out]);(try rw [HQ.out]);replace hB:=aj hb hB;replace j0:=keepCell hb j0;replace j1:=keepCell hb j1;replace j2:=keepCell hb j2;replace j3:=keepCell hb j3;replace j4:=keepCell hb j4;replace j5:=keepCell hb j5;replace j6:=keepCell hb j6;clear hb))
    go_returns
    exact aB HR.out.symm hB
   | true =>
   have HQ:Hid (aI 2097152 q1 q2=true):=hq
   by_cases c4:ln<0
   ·have HR := hid (HF.out 1 (by omega) (og (by simp [lX, c4])));clear HF HP0 HQ0
    go_wp2_with (first | (go_at_call 130;refine (dU _ _ _).mono ?_;rintro e wn ⟨rfl,hb⟩;(try rw [HP.out]);(try rw [HQ.out]);replace hB:=aj hb hB;replace j0:=keepCell hb j0;replace j1:=keepCell hb j1;replace j2:=keepCell hb j2;replace j3:=keepCell hb j3;replace j4:=keepCell hb j4;replace j5:=keepCell hb j5;replace j6:=keepCell hb j6;clear hb))
    go_returns
    exact aB HR.out.symm hB
   by_cases c5:65536000<ln
   ·have HR := hid (HF.out 1 (by omega) (og (by simp [lX, c5])));clear HF HP0 HQ0
    go_wp2_with (first | (go_at_call 130;refine (dU _ _ _).mono ?_;rintro e wn ⟨rfl,hb⟩;(try rw [HP.out]);(try rw [HQ.out]);replace hB:=aj hb hB;replace j0:=keepCell hb j0;replace j1:=keepCell hb j1;replace j2:=keepCell hb j2;replace j3:=keepCell hb j3;replace j4:=keepCell hb j4;replace j5:=keepCell hb j5;replace j6:=keepCell hb j6;clear hb))
    go_returns
    exact aB HR.out.symm hB
   have HNB:Hid (lX L.length ⟨a,b,p1,p2,q1,q2,ln⟩=false):=by show _=_;simp [lX,hp,hq];omega
   obtain ⟨ka,rfl⟩:∃ ka:Nat,a=ka:=⟨a.toNat,by omega⟩;obtain ⟨kb,rfl⟩:∃ kb:Nat,b=kb:=⟨b.toNat,by omega⟩;have hka:ka<L.length:=by omega
   have hkb:kb<L.length:=by omega
   obtain ⟨bL,oL,hAL,hCL⟩:=(HSL.out _ hB).sl.at_ (by intro h;subst h;simp at hka);subst hAL;obtain ⟨xa,hxa⟩:∃ x,x=L[ka]:=⟨_,rfl⟩;obtain ⟨xb,hxb⟩:∃ x,x=L[kb]:=⟨_,rfl⟩;have ma:=(dD hCL hka hxa).2.2.2.2.2.2.1;have mb:=(dD hCL hkb hxb).2.2.2.2.2.2.1;have hbL:=hCL.lt;have mva:=ji (bJ (HV.out xa (by rw [hxa];exact List.getElem_mem hka))).2;have mvb:=ji (bJ (HV.out xb (by rw [hxb];exact List.getElem_mem hkb))).2;obtain ⟨na,na'⟩:=mva.2.2.2.2.1;obtain ⟨nb,nb'⟩:=mvb.2.2.2.2.1;have hac:(ka:Int)<(L.length:Int):=by omega
   have hbc:(kb:Int)<(L.length:Int):=by omega
   have h0a:0≤(ka:Int):=by omega
   have h0b:0≤(kb:Int):=by omega
   have HJE:Hid (Cc L ⟨(ka:Int),(kb:Int),p1,p2,q1,q2,ln⟩=if xa.b.mass=0∧xb.b.mass=0 then 3 else 0):=by show _=_;unfold Cc;rw [if_neg (by rw [HNB.out];simp)];simp [kD,hka,hkb,hxa,hxb]
   have KM:Hid (∀ w1 w2:World,Below w1.heap.size w1 w2→w1.cell? ⟨bL,oL+ka*13+6,none⟩=some (.int .i64 xa.b.mass)∧w1.cell? ⟨bL,oL+kb*13+6,none⟩=some (.int .i64 xb.b.mass)→w2.cell? ⟨bL,oL+ka*13+6,none⟩=some (.int .i64 xa.b.mass)∧w2.cell? ⟨bL,oL+kb*13+6,none⟩=some (.int .i64 xb.b.mass)):=fun w1 w2 hb h=>⟨keepCell hb h.1,keepCell hb h.2⟩
   clear hCL hxa hxb mva mvb HNB HP0 HQ0
   by_cases c6:xa.b.mass=0
   ·by_cases c7 : xb.b.mass = 0
    ·have HR := hid (HF.out 3 (by omega) (by rw [HJE.out, if_pos ⟨c6, c7⟩]));clear HF HJE
     go_wp2_with (first | (go_at_call 130;refine (dU _ _ _).mono ?_;rintro e wn ⟨rfl,hb⟩;(try rw [HP.out]);(try rw [HQ.out]);replace hB:=aj hb hB;replace j0:=keepCell hb j0;replace j1:=keepCell hb j1;replace j2:=keepCell hb j2;replace j3:=keepCell hb j3;replace j4:=keepCell hb j4;replace j5:=keepCell hb j5;replace j6:=keepCell hb j6;replace ma:=keepCell hb ma;replace mb:=keepCell hb mb;replace hbL:=Nat.lt_of_lt_of_le hbL hb.size;clear hb))
     go_returns
     exact aB HR.out.symm hB
    ·have HC : Hid (¬ (xa.b.mass = 0 ∧ xb.b.mass = 0)) := fun h => c7 h.2
     go_wp2_with (first | (go_at_call 130;refine (dU _ _ _).mono ?_;rintro e wn ⟨rfl,hb⟩;(try rw [HP.out]);(try rw [HQ.out]);replace hB:=aj hb hB;replace j0:=keepCell hb j0;replace j1:=keepCell hb j1;replace j2:=keepCell hb j2;replace j3:=keepCell hb j3;replace j4:=keepCell hb j4;replace j5:=keepCell hb j5;replace j6:=keepCell hb j6;replace ma:=keepCell hb ma;replace mb:=keepCell hb mb;replace hbL:=Nat.lt_of_lt_of_le hbL hb.size;clear hb))
     go_roundw
     case rel=>exact ⟨k+1,by omega,by go_num,by rw [HST.out,HJE.out,if_neg HC.out],hB⟩
     case measure=>simp [intOf] <;> omega
   ·have HC : Hid (¬ (xa.b.mass = 0 ∧ xb.b.mass = 0)) := fun h => c6 h.1
    go_wp2_with (first | (go_at_call 130;refine (dU _ _ _).mono ?_;rintro e wn ⟨rfl,hb⟩;(try rw [HP.out]);(try rw [HQ.out]);replace hB:=aj hb hB;replace j0:=keepCell hb j0;replace j1:=keepCell hb j1;replace j2:=keepCell hb j2;replace j3:=keepCell hb j3;replace j4:=keepCell hb j4;replace j5:=keepCell hb j5;replace j6:=keepCell hb j6;replace ma:=keepCell hb ma;replace mb:=keepCell hb mb;replace hbL:=Nat.lt_of_lt_of_le hbL hb.size;clear hb))
    go_roundw
    case rel=>exact ⟨k+1,by omega,by go_num,by rw [HST.out,HJE.out,if_neg HC.out],hB⟩
    case measure=>simp [intOf] <;> omega
  ·have hkn : k = J.length := by omega
   subst hkn;have HR:Hid (bS L J=0):=by show _=_;rw [HJ.out];exact hz
   clear hz;go_wp2
   go_returns
   exact aB HR.out.symm hB
end
end Go.Proofs.YtokgmcomgflloaaGreat
