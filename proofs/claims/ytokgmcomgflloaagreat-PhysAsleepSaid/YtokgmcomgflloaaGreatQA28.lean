/- Parts of a proof: contracts and laws. -/
import Derived.Test.YtokgmcomgflloaaGreatQA14
import Derived.Test.YtokgmcomgflloaaGreatQA27
import Derived.Test.YtokgmcomgflloaaGreatQA02
set_option maxRecDepth 100000
set_option maxHeartbeats 16000000
namespace Go.Proofs.YtokgmcomgflloaaGreat
section
set_option linter.unusedVariables false
set_option linter.unusedSimpArgs false
open Go.RowKit
variable {w0 w w':World}

abbrev Ax:=Bool × Nat × Int
def M9 (l m:List V) (i:Nat):Int:=cZ (jC l m i) (fQ (eX l i) (eZ l i))
def Io (s:Option Ax) (sec:Bool) (i:Nat) (d:Int):Option Ax:=match s with
 | none=>some (sec,i,d)
 | some a=>if d<a.2.2 then some (sec,i,d) else some a
def nX (l m : List V) (sec : Bool) (s : Option Ax) : Nat → Option Ax
 | 0=>s
 | i+1=>Io (nX l m sec s i) sec i (M9 l m i)
def GH (s:Option Ax):Bool:=match s with | none=>false | some a=>a.1
def GJ (s:Option Ax):Nat:=match s with | none=>0 | some a=>a.2.1
def FK (s:Option Ax):Int:=match s with | none=>0 | some a=>a.2.2
def Jy (s:Option Ax):Value:=.agg #[.bool (GH s),.int .i64 (GJ s),.int .i64 (FK s)]
def Ap (a b : List V) : Nat → Option Ax
 | 0=>none
 | 1=>nX a b false none a.length
 | _=>nX b a true (nX a b false none a.length) b.length
def PK (a b : List V) : Nat → Prop
 | 0=>True
 | 1=>∀ i,i<a.length→0≤jC a b i
 | _=>(∀ i,i<a.length→0≤jC a b i)∧∀ i,i<b.length→0≤jC b a i
def dN (a b:List V):Bool:=decide (jl a b=0∧(∀ i,i<a.length→0≤jC a b i)∧∀ i,i<b.length→0≤jC b a i)
def dZ (a b:List V):Option Ax:=if dN a b=true then Ap a b 2 else none

structure iX (w : World) (g : Nat) (s : Option Ax) : Prop where
 c0:w.cell? ⟨g,0,none⟩=some (.bool (GH s))
 c1:w.cell? ⟨g,1,none⟩=some (.int .i64 (GJ s))
 c2:w.cell? ⟨g,2,none⟩=some (.int .i64 (FK s))
 free:∀ j,w.frozen? ⟨g,j,none⟩=false
theorem lN {g:Nat} {s:Option Ax} (hb:Below w.heap.size w w') (h:iX w g s):iX w' g s :=
 ⟨keepCell hb h.c0,keepCell hb h.c1,keepCell hb h.c2,fun j=>((dF hb).2 _ _ (lt_of_cell h.c0)).trans (h.free j)⟩
theorem iX.lt {g:Nat} {s:Option Ax} (h:iX w g s):g<w.heap.size:=lt_of_cell h.c0
theorem iX.here (w:World) (t:TypeId):iX (w.alloc (.cells #[.bool false,.int .i64 0,.int .i64 0] t)) w.heap.size none:=⟨by go_simp;rfl,by go_simp;rfl,by go_simp;rfl,fun j=>by go_simp⟩
theorem iX.away {g:Nat} {s:Option Ax} (h:iX w g s) (k o:Nat) (v:Value) (hne:k≠g):iX (w.setCell ⟨k,o,none⟩ v) g s :=
 ⟨aY hne h.c0,aY hne h.c1,aY hne h.c2,fun j=>by rw [World.frozen?_setCell];exact h.free j⟩
def kK (w:World) (g:Nat) (s:Option Ax):World:=((w.setCell ⟨g,0,none⟩ (.bool (GH s))).setCell ⟨g,1,none⟩ (.int .i64 (GJ s))).setCell ⟨g,2,none⟩ (.int .i64 (FK s))
theorem iX.set {g:Nat} {s:Option Ax} (h:iX w g s) (t:Option Ax):iX (kK w g t) g t:=by
 obtain ⟨h0,h1,h2,hf⟩:=h;unfold kK;exact ⟨by go_simp,by go_simp,by go_simp,fun j=>by go_simp⟩
theorem iX.setO {g k:Nat} {s:Option Ax} (h:iX w g s) (t:Option Ax) (hne:k≠g):iX (kK w k t) g s:=((h.away k _ _ hne).away k _ _ hne).away k _ _ hne

structure LW (w0 : World) (gB : Nat) (l m : List V) (A B : Option Addr) (c c' : Nat) (s : Option Ax) (w : World) : Prop where
 r:iX w w0.heap.size none
 b:iX w gB s
 d0:w.cell? ⟨gB+1,0,none⟩=some (.slice A l.length c)
 d1:w.cell? ⟨gB+1,1,none⟩=some (.slice B m.length c')
 d2:w.cell? ⟨gB+1,2,none⟩=some (.slice B m.length c')
 d3:w.cell? ⟨gB+1,3,none⟩=some (.slice A l.length c)
 bel:Below w0.heap.size w0 w
 le:w0.heap.size<gB
theorem LW.keep {gB:Nat} {l m:List V} {A B:Option Addr} {c c':Nat} {s:Option Ax} {w w':World} (hb:Below w.heap.size w w') (h:LW w0 gB l m A B c c' s w):LW w0 gB l m A B c c' s w' :=
 ⟨lN hb h.r,lN hb h.b,keepCell hb h.d0,keepCell hb h.d1,keepCell hb h.d2,keepCell hb h.d3,aj hb h.bel,h.le⟩
theorem LW.drew {gB:Nat} {l m:List V} {A B:Option Addr} {c c':Nat} {s:Option Ax} {w:World} (h:LW w0 gB l m A B c c' s w):LW w0 gB l m A B c c' s w.drew:=h.keep (Below.refl _ _).drew
theorem LW.set {gB:Nat} {l m:List V} {A B:Option Addr} {c c':Nat} {s:Option Ax} {w:World} (h:LW w0 gB l m A B c c' s w) (t:Option Ax):LW w0 gB l m A B c c' t (kK w gB t):=by
 have e:∀ o v,w.cell? ⟨gB+1,o,none⟩=some v→(kK w gB t).cell? ⟨gB+1,o,none⟩=some v:=fun o v hv=>aY (by omega) (aY (by omega) (aY (by omega) hv))
 have hle:=h.le;exact ⟨h.r.setO t (by omega),h.b.set t,e _ _ h.d0,e _ _ h.d1,e _ _ h.d2,e _ _ h.d3,((h.bel.setCell (p:=⟨gB,0,none⟩) (Nat.le_of_lt hle) _).setCell (p:=⟨gB,1,none⟩) (Nat.le_of_lt hle) _).setCell (p:=⟨gB,2,none⟩) (Nat.le_of_lt hle) _,hle⟩
theorem LW.pick {gB:Nat} {l m:List V} {A B:Option Addr} {c c':Nat} {s:Option Ax} {w:World} (h:LW w0 gB l m A B c c' s w) (HS:Sl w0 A l.length c l) (HM:Sl w0 B m.length c' m) (h1:bH l=0) (h2:bH m=0) {k:Nat} (hk:k<2) :
  ∃ (L M:List V) (AL AM:Option Addr) (cL cM:Nat),w.cell? ⟨gB+1,k*2,none⟩=some (.slice AL L.length cL)∧w.cell? ⟨gB+1,k*2+1,none⟩=some (.slice AM M.length cM)∧Sl w0 AL L.length cL L∧Sl w0 AM M.length cM M∧bH L=0∧bH M=0∧Ap l m (k+1)=nX L M ((k:Int) == 1) (Ap l m k) L.length∧(PK l m k→(∀ i,i<L.length→0≤jC L M i)→PK l m (k+1))∧(PK l m 2→∀ i,i<L.length→0≤jC L M i):=by
 rcases (show k=0∨k=1 by omega) with rfl | rfl
 ·exact ⟨l,m,A,B,c,c',h.d0,h.d1,HS,HM,h1,h2,rfl,fun _ g=>g,fun g=>g.1⟩
 ·exact ⟨m,l,B,A,c',c,h.d2,h.d3,HM,HS,h2,h1,rfl,fun g g'=>⟨g,g'⟩,fun g=>g.2⟩
theorem vC (A B:Option Addr) (n c n' c':Nat) (l m:List V) (w:World) (hS:Sl w A n c l) (hM:Sl w B n' c' m) :
  Calls Tryz.prog 161 #[.slice A n c,.slice B n' c'] w (dG (.tuple #[Jy (dZ l m),.bool (dN l m),.int .i64 (jl l m)]) w):=by
 have HS:=hid hS;have HM:=hid hM;have hn:=hS.len;have hn':=hM.len;subst hn hn';clear hS hM;obtain ⟨W,hW⟩:∃ W,W=w.alloc (.cells #[.bool false,.int .i64 0,.int .i64 0] 206):=⟨_,rfl⟩;have HR0:=hid (show iX W w.heap.size none by rw [hW];exact iX.here w _);have hB0:Below w.heap.size w W:=by rw [hW];go_grown
 go_enter Tryz.func161,Tryz.ntmps161
 go_wp2_with fail
 rw [← hW];clear hW;refine (Gl A B l.length c m.length c' l m _ (HS.out.below hB0) (HM.out.below hB0)).mono ?_;rintro e w1 ⟨rfl,hb1⟩;have HR1:=hid (lN hb1 HR0.out);have hB1:=aj hb1 hB0;clear HR0 hB0 hb1
 by_cases hE:jl l m=0
 ·have HE := hid hE;rw [hE];clear hE;obtain ⟨gB,hgB⟩:∃ g,g=w1.heap.size:=⟨_,rfl⟩;have hlt:=HR1.out.lt;obtain ⟨w2,hw2⟩:∃ w2,w2=(w1.alloc (.cells #[.bool false,.int .i64 0,.int .i64 0] 206)).alloc (.cells #[.slice A l.length c,.slice B m.length c',.slice B m.length c',.slice A l.length c] 250):=⟨_,rfl⟩
  have HL2:Hid (LW w gB l m A B c c' none w2):=by
   rw [hw2,hgB];exact ⟨lN Ba (lN Ba HR1.out),lN Ba (iX.here w1 _),by go_simp,by go_simp,by go_simp,by go_simp,(hB1.alloc hB1.size _).alloc (by have:=hB1.size;simp;omega) _,hlt⟩
  clear HR1 hB1 hlt
  obtain ⟨hc1,hc2⟩:bH l=0∧bH m=0:=by
   have:=HE.out;unfold jl at this
   split at this
   ·omega
   ·omega
  go_wp2_with fail
  rw [← hw2,← hgB];clear hw2 hgB
  go_loopw [9,32] (fun s j wr=>∃ k:Nat,k≤2∧j = .int .i64 k∧s = .bool (Ap l m k).isSome∧PK l m k∧LW w gB l m A B c c' (Ap l m k) wr) (fun _ j _=>2-(intOf j).toNat)
  case atStart=>exact ⟨0,by omega,rfl,rfl,trivial,HL2.out⟩
  case round =>
   obtain ⟨k,hk,rfl,rfl,hok,hL⟩:=hrel;obtain ⟨wo,rfl⟩:∃ wo:World,wo=wr:=⟨_,rfl⟩
   by_cases hk2:k<2
   ·obtain ⟨L, M, AL, AM, cL, cM, p0, p1, SL, SM, k1, k2, hst, hok1, hok2⟩ := hL.pick HS.out HM.out hc1 hc2 hk2;have hi2:(k:Int)<2:=by omega
    go_wp2_with fail
    obtain ⟨gA,hgA⟩:∃ g,g=wo.heap.size:=⟨_,rfl⟩;obtain ⟨wi,hwi⟩:∃ wi,wi=wo.alloc (.cells #[.slice AL L.length cL,.slice AM M.length cM] 250):=⟨_,rfl⟩;have r0:wi.cell? ⟨gA,0,none⟩=some (.slice AL L.length cL):=by rw [hwi,hgA];go_simp
    have r1:wi.cell? ⟨gA,1,none⟩=some (.slice AM M.length cM):=by rw [hwi,hgA];go_simp
    have hLi:Hid (LW w gB l m A B c c' (Ap l m k) wi):=by rw [hwi];exact hL.keep Ba
    have hgBA:gB<gA:=by rw [hgA];exact hL.b.lt
    rw [← hwi,← hgA];have HK:=hid (And.intro hok (And.intro hst (And.intro hok1 hok2)));have HSL:=hid SL;have HSM:=hid SM;obtain ⟨L8,L3,LW',-⟩:=bI k1;obtain ⟨M8,M3,MW',-⟩:=bI k2;have HLW:=hid LW';have HMW:=hid MW';clear hwi hgA hL p0 p1 hok hst hok1 hok2 SL SM LW' MW' HL2
    go_loopw [9,40] (fun s j wr=>∃ i:Nat,i≤L.length∧j = .int .i64 i∧s = .bool (nX L M ((k:Int) == 1) (Ap l m k) i).isSome∧(∀ i',i'<i→0≤jC L M i')∧wr.cell? ⟨gA,0,none⟩=some (.slice AL L.length cL)∧wr.cell? ⟨gA,1,none⟩=some (.slice AM M.length cM)∧LW w gB l m A B c c' (nX L M ((k:Int) == 1) (Ap l m k) i) wr) (fun _ j _=>L.length-(intOf j).toNat)
    case atStart=>exact ⟨0,by omega,rfl,rfl,fun i' h=>absurd h (by omega),r0,r1,hLi.out⟩
    case round =>
     clear r0 r1 hLi;obtain ⟨i,hi,rfl,rfl,hnn,r0,r1,hL⟩:=hrel;obtain ⟨wp,rfl⟩:∃ wp:World,wp=wr:=⟨_,rfl⟩
     by_cases hlt:i<L.length
     ·have hlt' : (i : Int) < (L.length : Int) := by omega
      have hB:=hL.bel;have HD:=hid (EF AL AM L.length cL M.length cM L M i wp (HSL.out.below hB) (HSM.out.below hB) HLW.out L3 L8 hlt HMW.out (by omega) M8);have bd:=IX HLW.out HMW.out hlt (M.length-1) (by omega)
      change -34359738368000000≤jC L M i∧jC L M i≤34359738368000000 at bd
      have HNN:=hid hnn;clear hnn;obtain ⟨d,hd⟩:∃ d,d=jC L M i:=⟨_,rfl⟩;rw [← hd] at HD bd;have HDD:=hid hd;clear hd
      go_wp2_with fail
      refine HD.out.mono ?_;rintro e w3 ⟨rfl,hb3⟩;replace r0:=keepCell hb3 r0;replace r1:=keepCell hb3 r1;replace hL:=hL.keep hb3;have hB3:=hL.bel;clear hb3 hB HD
      by_cases hneg:d<0
      ·have HNO:Hid (dN l m=false∧dZ l m=none):=by
        have hm:dN l m=false:=by
         unfold dN;rw [decide_eq_false_iff_not];rintro ⟨_,g1,g2⟩;have:=HK.out.2.2.2 ⟨g1,g2⟩ i hlt;rw [← HDD.out] at this;omega
        exact ⟨hm,by unfold dZ;rw [if_neg (by simp [hm])]⟩
       have HF:=hid (hL.r.set none);obtain ⟨z0,z1,z2,zf⟩:=hL.r;have hBF:Below w.heap.size w (kK w3 w.heap.size none):=((hL.bel.setCell (p:=⟨w.heap.size,0,none⟩) (Nat.le_refl _) _).setCell (p:=⟨w.heap.size,1,none⟩) (Nat.le_refl _) _).setCell (p:=⟨w.heap.size,2,none⟩) (Nat.le_refl _) _;clear hL r0 r1;go_wp2
       change bodyPost _ _ _ _ _ (kK w3 w.heap.size none)
       generalize kK w3 w.heap.size none=wf at *
       have q0:=HF.out.c0;have q1:=HF.out.c1;have q2:=HF.out.c2;refine bodyPost_ret (v:=.tuple #[Jy none,.bool false,.int .i64 0]) (by simp [results,Tryz.results161,go_sem,q0,q1,q2,Jy]) rfl ⟨by rw [HNO.out.1,HNO.out.2,HE.out],hBF⟩
      ·have HNM := hid (jH AL L.length cL L i w3 (HSL.out.below hB3) HLW.out L3 L8 hlt);obtain ⟨bn1,bn2⟩:=oC HLW.out hlt;obtain ⟨n1,hn1⟩:∃ z,z=eX L i:=⟨_,rfl⟩;obtain ⟨n2,hn2⟩:∃ z,z=eZ L i:=⟨_,rfl⟩;rw [← hn1,← hn2] at HNM;rw [← hn1] at bn1;rw [← hn2] at bn2;have HZ:Hid (M9 L M i=cZ d (fQ n1 n2)):=by show _=_;unfold M9;rw [← hn1,← hn2,HDD.out]
       clear hn1 hn2
       go_wp2_with fail
       refine HNM.out.mono ?_;rintro e w4 ⟨rfl,hb4⟩;replace r0:=keepCell hb4 r0;replace r1:=keepCell hb4 r1;replace hL:=hL.keep hb4
       go_upto_region 16 with fail
       obtain ⟨g14,hg14⟩:∃ g,g=w4.heap.size:=⟨_,rfl⟩;obtain ⟨w5,hw5⟩:∃ w5,w5=w4.alloc (.cells #[.int .i64 n1,.int .i64 n2] 24):=⟨_,rfl⟩;have r3:w5.cell? ⟨g14,0,none⟩=some (.int .i64 n1):=by rw [hw5,hg14];go_simp
       have r4:w5.cell? ⟨g14,1,none⟩=some (.int .i64 n2):=by rw [hw5,hg14];go_simp
       replace r0:=keepCell ((Below.refl w4.heap.size w4).alloc (Nat.le_refl _) (.cells #[.int .i64 n1,.int .i64 n2] 24)) r0;replace r1:=keepCell ((Below.refl w4.heap.size w4).alloc (Nat.le_refl _) (.cells #[.int .i64 n1,.int .i64 n2] 24)) r1;replace hL:=hL.keep ((Below.refl w4.heap.size w4).alloc (Nat.le_refl _) (.cells #[.int .i64 n1,.int .i64 n2] 24));rw [← hw5] at r0 r1 hL ⊢;rw [← hg14];have HTI:Hid (∀ w,Calls Tryz.prog 95 #[.int .i64 d,.int .i64 1] w (dG (iV d) w)):=fun w=>by have:=kg d 1 (by omega) (by omega) (by omega) (by omega) w;rwa [Int.mul_one] at this
       have HLE:=hid (qM n1 n2 (by omega) (by omega));obtain ⟨ln,hln⟩:∃ ln,ln=fQ n1 n2:=⟨_,rfl⟩;have bl:=Aq (x:=n1) (y:=n2) (by omega) (by omega);rw [← hln] at HLE HZ bl;have HOV:=hid (oh d ln (by omega) (by omega) (by omega) (by omega));obtain ⟨dz,hdz⟩:∃ dz,dz=cZ d ln:=⟨_,rfl⟩;obtain ⟨de,hde⟩:∃ de,de=dQ d ln:=⟨_,rfl⟩;rw [← hdz] at HOV HZ;rw [← hde] at HOV;have HNG:=hid hneg;clear hw5 hg14 hb4 HNM hln bl hdz hde hB3;refine wp_region_noPanic ?_;refine au (S:=(S2 (fun w'=>w'.cell? ⟨g14,0,none⟩=some (.int .i64 n1)∧w'.cell? ⟨g14,1,none⟩=some (.int .i64 n2)∧w'.cell? ⟨gA,0,none⟩=some (.slice AL L.length cL)∧w'.cell? ⟨gA,1,none⟩=some (.slice AM M.length cM)∧LW w gB l m A B c c' (nX L M ((k:Int) == 1) (Ap l m k) i) w'))) (T:=(fun _=>0)) (by kernel_rfl) (aC ⟨r3,r4,r0,r1,hL.drew⟩) (fun hH=>?_);have hWr1:aH (S2 (fun w'=>w'.cell? ⟨g14,0,none⟩=some (.int .i64 n1)∧w'.cell? ⟨g14,1,none⟩=some (.int .i64 n2)∧w'.cell? ⟨gA,0,none⟩=some (.slice AL L.length cL)∧w'.cell? ⟨gA,1,none⟩=some (.slice AM M.length cM)∧LW w gB l m A B c c' (nX L M ((k:Int) == 1) (Ap l m k) i) w')):=aK _;refine dn [(0,57),(2,59)] 8 0 0 (L':=?Lr1_1) hWr1 hH ?hyr1_1 ?_
       case hyr1_1=>((iterate 2 apply dA;rfl;kernel_rfl;intro w' hSw;replace hSw:=aA hSw;(try dsimp only at hSw);have q0:=hSw.1;have q1:=hSw.2.1;have q2:=hSw.2.2.1;have q3:=hSw.2.2.2.1;have q4:=hSw.2.2.2.2;(try simp only [sB,sC]);go_simp;(try with_reducible rfl));exact dw)
       simp only [sB,sC];refine U1 1 0 rfl (fun K hK=>?_)
       try clear hb
       go_simp
       (go_at_call 95;refine (HTI.out _).mono ?_;rintro e wn ⟨rfl,hb⟩)
       refine hK.out _ _ ?hsr1_3 (fun hH2=>?hrr1_3)
       case hsr1_3=>exact aC (by have hG:=hH;replace hG:=aA hG;(try dsimp only at hG);have q0:=hG.1;have q1:=hG.2.1;have q2:=hG.2.2.1;have q3:=hG.2.2.2.1;have q4:=hG.2.2.2.2;exact ⟨keepCell hb q0,keepCell hb q1,keepCell hb q2,keepCell hb q3,LW.keep hb q4⟩)
       clear hK K hH;have hH:=hH2;clear hH2
       try simp only [Act.put,sA,sB,sC]
       refine U1 3 0 rfl (fun K hK=>?_)
       try clear hb
       go_simp
       (go_at_call 168;refine (HLE.out _).mono ?_;rintro e wn ⟨rfl,hb⟩)
       refine hK.out _ _ ?hsr1_4 (fun hH2=>?hrr1_4)
       case hsr1_4=>exact aC (by have hG:=hH;replace hG:=aA hG;(try dsimp only at hG);have q0:=hG.1;have q1:=hG.2.1;have q2:=hG.2.2.1;have q3:=hG.2.2.2.1;have q4:=hG.2.2.2.2;exact ⟨keepCell hb q0,keepCell hb q1,keepCell hb q2,keepCell hb q3,LW.keep hb q4⟩)
       clear hK K hH;have hH:=hH2;clear hH2
       try simp only [Act.put,sA,sB,sC]
       refine U1 4 0 rfl (fun K hK=>?_)
       try clear hb
       go_simp
       (go_at_call 97;refine (HOV.out _).mono ?_;rintro e wn ⟨rfl,hb⟩)
       refine hK.out _ _ ?hsr1_5 (fun hH2=>?hrr1_5)
       case hsr1_5=>exact aC (by have hG:=hH;replace hG:=aA hG;(try dsimp only at hG);have q0:=hG.1;have q1:=hG.2.1;have q2:=hG.2.2.1;have q3:=hG.2.2.2.1;have q4:=hG.2.2.2.2;exact ⟨keepCell hb q0,keepCell hb q1,keepCell hb q2,keepCell hb q3,LW.keep hb q4⟩)
       clear hK K hH;have hH:=hH2;clear hH2
       try simp only [Act.put,sA,sB,sC]
       refine dn [(5,56),(6,62),(7,63),(8,15),(9,16)] 0 0 0 (L':=?Lr1_6) hWr1 hH ?hyr1_6 ?_
       case hyr1_6=>((iterate 5 apply dA;rfl;kernel_rfl;intro w' hSw;clear hSw;(try simp only [sB,sC]);go_simp;(try with_reducible rfl));exact dw)
       simp only [sB,sC];refine ak (by kernel_rfl) ?_ _ _;refine NoPanic.normal ?_;clear hWr1;replace hH:=aA hH
       (try dsimp only at hH)
       have q0:=hH.1;have q1:=hH.2.1;have q2:=hH.2.2.1;have q3:=hH.2.2.2.1;have q4:=hH.2.2.2.2;clear hH hb q0 q1 HTI HLE HOV hL r0 r1 r3 r4;have HAX:Hid (nX L M ((k:Int) == 1) (Ap l m k) (i+1)=Io (nX L M ((k:Int) == 1) (Ap l m k) i) ((k:Int) == 1) i dz):=by show _=_;rw [nX,HZ.out]
       generalize nX L M ((k:Int) == 1) (Ap l m k) i=st at *
       have HQ2:=hid q2;have HQ3:=hid q3;have HQ4:=hid q4
       have HN2:Hid (∀ i',i'<i+1→0≤jC L M i'):=fun i' h=>by
        rcases Nat.lt_or_ge i' i with g | g
        ·exact HNN.out i' g
        ·have : i' = i := by omega
         rw [this,← HDD.out];have:=HNG.out;omega
       obtain ⟨b0,b1,b2,bf⟩:=q4.b;have e':∀ t,(kK wn gB t).cell? ⟨gA,0,none⟩=wn.cell? ⟨gA,0,none⟩∧(kK wn gB t).cell? ⟨gA,1,none⟩=wn.cell? ⟨gA,1,none⟩:=fun t=>⟨(aY (by omega) (aY (by omega) (aY (by omega) HQ2.out))).trans HQ2.out.symm,(aY (by omega) (aY (by omega) (aY (by omega) HQ3.out))).trans HQ3.out.symm⟩
       have HSET:=hid e';clear q2 q3 q4 e' HNN HDD HZ hneg
       cases st with
       | none =>
        dsimp only [Option.isSome,GH,GJ,FK] at b0 b1 b2 ⊢;go_wp2;go_roundw
        case rel=>exact ⟨i+1,hlt,by go_num,by rw [HAX.out];rfl,HN2.out,(HSET.out (some ((k:Int) == 1,i,dz))).1.trans HQ2.out,(HSET.out (some ((k:Int) == 1,i,dz))).2.trans HQ3.out,by rw [HAX.out];exact HQ4.out.set (some ((k:Int) == 1,i,dz))⟩
        case measure=>simp [intOf];omega
       | some a =>
        obtain ⟨a1,a2,a3⟩:=a;dsimp only [Option.isSome,GH,GJ,FK] at b0 b1 b2 ⊢
        by_cases hlt2:dz<a3
        ·have HUP : Hid (Io (some (a1, a2, a3)) ((k : Int) == 1) i dz = some ((k : Int) == 1, i, dz)) := if_pos hlt2;go_wp2;go_roundw
         case rel=>exact ⟨i+1,hlt,by go_num,by rw [HAX.out,HUP.out];rfl,HN2.out,(HSET.out (some ((k:Int) == 1,i,dz))).1.trans HQ2.out,(HSET.out (some ((k:Int) == 1,i,dz))).2.trans HQ3.out,by rw [HAX.out,HUP.out];exact HQ4.out.set (some ((k:Int) == 1,i,dz))⟩
         case measure=>simp [intOf];omega
        ·have HUP : Hid (Io (some (a1, a2, a3)) ((k : Int) == 1) i dz = some (a1, a2, a3)) := if_neg hlt2;go_wp2;go_roundw
         case rel=>exact ⟨i+1,hlt,by go_num,by rw [HAX.out,HUP.out];rfl,HN2.out,HQ2.out,HQ3.out,by rw [HAX.out,HUP.out];exact HQ4.out⟩
         case measure=>simp [intOf];omega
     ·have hie : i = L.length := by omega
      subst hie;have hok:=HK.out.2.2.1 HK.out.1 hnn;rw [← HK.out.2.1] at hL ⊢;have HOK:=hid hok;have HL:=hid hL;clear hnn hok hL r0 r1 HK;go_wp2;go_roundw
      case rel=>exact ⟨k+1,hk2,by go_num,rfl,HOK.out,HL.out⟩
      case measure=>simp [intOf];omega
   ·have hke : k = 2 := by omega
    subst hke
    have HME:Hid (dN l m=true∧dZ l m=Ap l m 2):=by
     have hm:dN l m=true:=by unfold dN;rw [decide_eq_true_iff];exact ⟨HE.out,hok.1,hok.2⟩
     exact ⟨hm,by unfold dZ;rw [if_pos hm]⟩
    have HF:=hid (hL.r.set (Ap l m 2));obtain ⟨z0,z1,z2,zf⟩:=hL.r;obtain ⟨b0,b1,b2,bf⟩:=hL.b;have hBF:Below w.heap.size w (kK wo w.heap.size (Ap l m 2)):=((hL.bel.setCell (p:=⟨w.heap.size,0,none⟩) (Nat.le_refl _) _).setCell (p:=⟨w.heap.size,1,none⟩) (Nat.le_refl _) _).setCell (p:=⟨w.heap.size,2,none⟩) (Nat.le_refl _) _;have HLE:=hid hL.le;clear hL hok;generalize Ap l m 2=st at *
    go_wp2
    change bodyPost _ _ _ _ _ (kK wo w.heap.size st)
    generalize kK wo w.heap.size st=wf at *
    have q0:=HF.out.c0;have q1:=HF.out.c1;have q2:=HF.out.c2;refine bodyPost_ret (v:=.tuple #[Jy st,.bool true,.int .i64 0]) (by simp [results,Tryz.results161,go_sem,q0,q1,q2,Jy]) rfl ⟨by rw [HME.out.1,HME.out.2,HE.out],hBF⟩
 ·have hne : (jl l m != 0) = true := by simp [hE]
  have HR:Hid (dZ l m=none∧dN l m=false):=by
   have h:dN l m=false:=by unfold dN;simp [hE]
   exact ⟨by unfold dZ;rw [if_neg (by simp [h])],h⟩
  obtain ⟨r0,r1,r2,rf⟩:=HR1.out;have HF:=hid (HR1.out.set none);have hBF:Below w.heap.size w (kK w1 w.heap.size none):=((hB1.setCell (p:=⟨w.heap.size,0,none⟩) (Nat.le_refl _) _).setCell (p:=⟨w.heap.size,1,none⟩) (Nat.le_refl _) _).setCell (p:=⟨w.heap.size,2,none⟩) (Nat.le_refl _) _;clear hE HR1;go_wp2
  change bodyPost _ _ _ _ _ (kK w1 w.heap.size none)
  generalize kK w1 w.heap.size none=wf at *
  have q0:=HF.out.c0;have q1:=HF.out.c1;have q2:=HF.out.c2;refine bodyPost_ret (v:=.tuple #[Jy none,.bool false,.int .i64 (jl l m)]) (by simp [results,Tryz.results161,go_sem,q0,q1,q2,Jy]) rfl ⟨by rw [HR.out.1,HR.out.2],hBF⟩
end
end Go.Proofs.YtokgmcomgflloaaGreat
