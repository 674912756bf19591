/- Parts of a proof: contracts and laws. -/
import Derived.Test.YtokgmcomgflloaaGreatQP04
import Derived.Test.YtokgmcomgflloaaGreatQP00
import Derived.BigQuiet
import Derived.Test.YtokgmcomgflloaaGreatQP03
import Derived.Test.YtokgmcomgflloaaGreatQP01
import Derived.Deep.RegionHeld3
set_option maxRecDepth 100000
set_option maxHeartbeats 16000000
namespace Go.Proofs.YtokgmcomgflloaaGreat
section
set_option linter.unusedVariables false
set_option linter.unusedSimpArgs false
open Go.RowKit
def uP (l:List V) (i k:Nat):Int:=aO (px l k-px l i)+aO (py l k-py l i)
def iJ (l:List V) (i k:Nat):Bool:=decide (k≠i∧k≠(i+1) % l.length∧dH l i ((i+1) % l.length) k<8*(uP l i ((i+1) % l.length)+uP l i k))
def vB (l:List V) (i:Nat):Prop:=∀ i',i'<i→∀ k,k<l.length→iJ l i' k=false
def vw (l:List V) (i k:Nat):Prop:=∀ k',k'<k→iJ l i k'=false
def oq (l:List V):Bool := !((List.range l.length).any fun i=>(List.range l.length).any fun k=>iJ l i k)
theorem CW {l:List V} {i k:Nat} (hi:i<l.length) (hk:k<l.length) (hb:iJ l i k=true):oq l=false:=by
 unfold oq;rw [Bool.not_eq_false'];simp only [List.any_eq_true,List.mem_range];exact ⟨i,hi,k,hk,hb⟩
theorem Hr {l:List V} (h:vB l l.length):oq l=true:=by
 unfold oq;rw [Bool.not_eq_true',← Bool.not_eq_true];simp only [List.any_eq_true,List.mem_range,not_exists,not_and];intro i hi k hk;simp [h i hi k hk]
theorem mO {l:List V} {i k:Nat} (h:vw l i k) (hb:iJ l i k=false):vw l i (k+1):=fun k' hk=>by
 by_cases e:k'=k
 ·subst e;exact hb
 ·exact h k' (by omega)
theorem Aq {l:List V} {i:Nat} (h:vB l i) (hb:vw l i l.length):vB l (i+1):=fun i' hi k hk=>by
 by_cases e:i'=i
 ·subst e;exact hb k hk
 ·exact h i' (by omega) k hk
theorem IV (A:Option Addr) (n c:Nat) (l:List V) (w:World) (hS:Sl w A n c l) (hw:aF 65536000 l=true) (h3:3≤l.length) (h8:l.length≤8) :
  Calls Tryz.prog 213 #[.slice A n c] w (dS (.bool (oq l)) w):=by
 obtain ⟨hn,hcap,hbig,hat⟩:=hS;subst hn;obtain ⟨b,off,rfl,hC⟩:=hat (by intro h;subst h;simp at h3);have HW:=hid hw;clear hat hw
 go_enter Tryz.func213,Tryz.ntmps213
 go_wp2
 go_loopw [12] (fun i wr=>∃ k:Nat,k≤l.length∧i = .int .i64 k∧vB l k∧Below w.heap.size w wr) (fun i _=>l.length-(intOf i).toNat)
 case atStart=>exact ⟨0,Nat.zero_le _,rfl,fun _ h=>absurd h (by omega),Below.refl _ _⟩
 case round =>
  obtain ⟨k,hk,rfl,hno,hB⟩:=hrel;obtain ⟨wo,rfl⟩:∃ wo:World,wo=wr:=⟨_,rfl⟩;have HN:=hid hno;have hCo:=hC.below hB;have hbo:=hCo.lt;have HC1:=hid hC;clear hno hC
  by_cases hlt:k<l.length
  ·obtain ⟨j, hje⟩ : ∃ j, j = (k + 1) % l.length := ⟨_, rfl⟩;have hj:j<l.length:=by rw [hje];exact Nat.mod_lt _ (by omega)
   have hji:((k:Int)+1) % (l.length:Int)=(j:Int):=by rw [hje];simp
   have hji2:(((k:Int)+1) % (l.length:Int)).toNat=j:=by omega
   have hji3:((k:Int)+1) % (l.length:Int)<(l.length:Int):=by omega
   have hji4:0≤((k:Int)+1) % (l.length:Int):=by omega
   have hx:=hCo.x k hlt;have hy:=hCo.y k hlt;have hx2:=hCo.x j hj;have hy2:=hCo.y j hj;obtain ⟨q1,q2,q3,q4⟩:=aA.1 (aD HW.out hlt);obtain ⟨q5,q6,q7,q8⟩:=aA.1 (aD HW.out hj);obtain ⟨ex,hex⟩:∃ ex,ex=px l j-px l k:=⟨_,rfl⟩;obtain ⟨ey,hey⟩:∃ ey,ey=py l j-py l k:=⟨_,rfl⟩;have b1 : -131072000≤ex∧ex≤131072000:=by omega
   have b2 : -131072000≤ey∧ey≤131072000:=by omega
   have v1:IntKind.i64.wrap (px l j-px l k)=ex:=by rw [← hex];exact IntWalk.i64_in _ (by omega)
   have v2:IntKind.i64.wrap (py l j-py l k)=ey:=by rw [← hey];exact IntWalk.i64_in _ (by omega)
   have HJ:=hid hje;have HEX:=hid hex;have HEY:=hid hey;clear hCo hje hex hey;go_wp2;obtain ⟨wa,hwa⟩:∃ wa,wa=((wo.alloc (.cells #[.int .i64 (px l k),.int .i64 (py l k)] 24)).alloc (.cells #[.int .i64 (px l j),.int .i64 (py l j)] 24)).alloc (.cells #[.int .i64 ex,.int .i64 ey] 24):=⟨_,rfl⟩;have r1:wa.cell? ⟨wo.heap.size,0,none⟩=some (.int .i64 (px l k)):=by rw [hwa];go_simp
   have r2:wa.cell? ⟨wo.heap.size,1,none⟩=some (.int .i64 (py l k)):=by rw [hwa];go_simp
   have r3:wa.cell? ⟨wo.heap.size+2,0,none⟩=some (.int .i64 ex):=by rw [hwa];go_simp
   have r4:wa.cell? ⟨wo.heap.size+2,1,none⟩=some (.int .i64 ey):=by rw [hwa];go_simp
   have hBa:Below w.heap.size w wa:=by rw [hwa];exact ((hB.alloc hB.size _).alloc (by have:=hB.size;simp;omega) _).alloc (by have:=hB.size;simp;omega) _
   rw [← hwa];clear hwa hx hy hx2 hy2 hB v1 v2
   go_loopw [38] (fun i wr=>∃ m:Nat,m≤l.length∧i = .int .i64 m∧vw l k m∧Below wa.heap.size wa wr) (fun i _=>l.length-(intOf i).toNat)
   case atStart=>exact ⟨0,Nat.zero_le _,rfl,fun _ h=>absurd h (by omega),Below.refl _ _⟩
   case round =>
    obtain ⟨m,hm,rfl,hcol,hBi⟩:=hrel;have HCo:=hid hcol;clear hcol;obtain ⟨wi,rfl⟩:∃ wi:World,wi=wr:=⟨_,rfl⟩;have hBw:Below w.heap.size w wi:=aj hBi hBa
    by_cases hlt2:m<l.length
    ·have hCi := HC1.out.below hBw;have hx3:=hCi.x m hlt2;have hy3:=hCi.y m hlt2;have hbi:=hCi.lt;have g5:=keepCell hBi r1;have g6:=keepCell hBi r2;have g7:=keepCell hBi r3;have g8:=keepCell hBi r4;obtain ⟨q9,q10,q11,q12⟩:=aA.1 (aD HW.out hlt2);obtain ⟨fx,hfx⟩:∃ fx,fx=px l m-px l k:=⟨_,rfl⟩;obtain ⟨fy,hfy⟩:∃ fy,fy=py l m-py l k:=⟨_,rfl⟩;have b3 : -131072000≤fx∧fx≤131072000:=by omega
     have b4 : -131072000≤fy∧fy≤131072000:=by omega
     have v1:IntKind.i64.wrap (px l m-px l k)=fx:=by rw [← hfx];exact IntWalk.i64_in _ (by omega)
     have v2:IntKind.i64.wrap (py l m-py l k)=fy:=by rw [← hfy];exact IntWalk.i64_in _ (by omega)
     have HFX:=hid hfx;have HFY:=hid hfy;have hz1:=lt_of_cell g5;have hz2:=lt_of_cell g7;have hBs:=hBi.size;clear hCi hfx hfy
     by_cases hi1:m=k
     ·have HE:Hid (iJ l k m=false):=by
       show _=_;unfold iJ;rw [decide_eq_false_iff_not];exact fun h=>h.1 hi1
      have hne:(((m:Int) != (k:Int))=false):=by simp [hi1]
      clear hi1 HFX HFY HEX HEY HJ r1 r2 r3 r4
      go_wp2_with fail
      go_quiet (fail)
      go_wp2;go_roundw
      case rel=>exact ⟨m+1,hlt2,by go_num,mO HCo.out HE.out,below_drewN' ((hBi.alloc hBs _).alloc (by simp;omega) _) _⟩
      case measure=>simp [intOf];omega
     by_cases hi2:m=j
     ·have HE:Hid (iJ l k m=false):=by
       show _=_;unfold iJ;rw [decide_eq_false_iff_not];exact fun h=>h.2.1 (by rw [hi2];exact HJ.out)
      have hne:(((m:Int) != (k:Int))=true):=by simp;omega
      have hne2:(((m:Int) != (j:Int))=false):=by simp [hi2]
      clear hi1 hi2 HFX HFY HEX HEY HJ r1 r2 r3 r4
      go_wp2_with fail
      go_quiet (fail)
      go_wp2;go_roundw
      case rel=>exact ⟨m+1,hlt2,by go_num,mO HCo.out HE.out,below_drewN' ((hBi.alloc hBs _).alloc (by simp;omega) _) _⟩
      case measure=>simp [intOf];omega
     have hne:(((m:Int) != (k:Int))=true):=by simp;omega
     have hne2:(((m:Int) != (j:Int))=true):=by simp;omega
     have HBD:Hid (iJ l k m=decide (ex*fy-ey*fx<8*(aO ex+aO ey+(aO fx+aO fy)))):=by
      show _=_;unfold iJ uP dH fQ;rw [decide_eq_decide,← HJ.out,← HEX.out,← HEY.out,← HFX.out,← HFY.out];exact ⟨fun h=>h.2.2,fun h=>⟨hi1,hi2,h⟩⟩
     have m1:=bZ (x:=ex) (y:=fy) (M:=131072000) (N:=131072000) (by omega) (by omega) (by omega) (by omega);have m2:=bZ (x:=ey) (y:=fx) (M:=131072000) (N:=131072000) (by omega) (by omega) (by omega) (by omega);have w1:IntKind.i64.wrap (ex*fy)=ex*fy:=IntWalk.i64_in _ (by omega);have w2:IntKind.i64.wrap (ey*fx)=ey*fx:=IntWalk.i64_in _ (by omega);have w3:IntKind.i64.wrap (ex*fy-ey*fx)=ex*fy-ey*fx:=IntWalk.i64_in _ (by omega);have s1:0≤aO ex∧aO ex≤131072000:=by unfold aO;split <;> omega
     have s2:0≤aO ey∧aO ey≤131072000:=by unfold aO;split <;> omega
     have s3:0≤aO fx∧aO fx≤131072000:=by unfold aO;split <;> omega
     have s4:0≤aO fy∧aO fy≤131072000:=by unfold aO;split <;> omega
     have w4:IntKind.i64.wrap (aO ex+aO ey+(aO fx+aO fy))=aO ex+aO ey+(aO fx+aO fy):=IntWalk.i64_in _ (by omega);have w5:IntKind.i64.wrap (8*(aO ex+aO ey+(aO fx+aO fy)))=8*(aO ex+aO ey+(aO fx+aO fy)):=IntWalk.i64_in _ (by omega);clear hi1 hi2 HFX HFY HEX HEY HJ m1 m2 s1 s2 s3 s4;obtain ⟨wg,hwg⟩:∃ wg,wg=(wi.alloc (.cells #[.int .i64 (px l m),.int .i64 (py l m)] 24)).alloc (.cells #[.int .i64 fx,.int .i64 fy] 24):=⟨_,rfl⟩;have g1:wg.cell? ⟨wo.heap.size+2,0,none⟩=some (.int .i64 ex):=by rw [hwg];go_simp
     have g2:wg.cell? ⟨wo.heap.size+2,1,none⟩=some (.int .i64 ey):=by rw [hwg];go_simp
     have g3:wg.cell? ⟨wi.heap.size+1,0,none⟩=some (.int .i64 fx):=by rw [hwg];go_simp
     have g4:wg.cell? ⟨wi.heap.size+1,1,none⟩=some (.int .i64 fy):=by rw [hwg];go_simp
     have hBg:Below wi.heap.size wi wg:=by rw [hwg];go_grown
     have HWG:=hid hwg;clear hwg
     go_upto_region 10 with fail
     rw [← HWG.out];have hl0:¬ l=[]:=by intro h;rw [h] at hlt;simp at hlt
     have hwk:IntKind.i64.wrap ((k:Int)+1)=(k:Int)+1:=IntWalk.i64_in _ (by omega);have htm:((k:Int)+1).tmod (l.length:Int)=(j:Int):=by rw [Int.tmod_eq_emod_of_nonneg (by omega)];exact hji
     clear HWG g5 g6 g7 g8 hx3 hy3 v1 v2;refine wp_region_noPanic ?_;refine au (S:=(S2 (fun w'=>w'.cell? ⟨wo.heap.size+2,0,none⟩=some (.int .i64 (ex))∧w'.cell? ⟨wo.heap.size+2,1,none⟩=some (.int .i64 (ey))∧w'.cell? ⟨wi.heap.size+1,0,none⟩=some (.int .i64 (fx))∧w'.cell? ⟨wi.heap.size+1,1,none⟩=some (.int .i64 (fy))∧Below wi.heap.size wi w'))) (T:=(fun _=>0)) (by kernel_rfl) (aK ⟨g1,g2,g3,g4,hBg.drew⟩) (fun hH=>?_);have hWr1:aG (S2 (fun w'=>w'.cell? ⟨wo.heap.size+2,0,none⟩=some (.int .i64 (ex))∧w'.cell? ⟨wo.heap.size+2,1,none⟩=some (.int .i64 (ey))∧w'.cell? ⟨wi.heap.size+1,0,none⟩=some (.int .i64 (fx))∧w'.cell? ⟨wi.heap.size+1,1,none⟩=some (.int .i64 (fy))∧Below wi.heap.size wi w')):=aI _;refine dG [(0,54),(1,55),(2,56),(3,57),(4,58),(5,59),(6,60),(7,61),(8,62),(9,63),(10,64),(11,65),(12,66),(13,67),(14,68),(15,69),(16,70),(17,71),(18,72),(19,73),(20,74),(21,75),(22,76),(23,77),(24,78),(26,80)] 6 0 0 (L':=?Lr1_1) hWr1 hH ?hyr1_1 ?_
     case hyr1_1=>((iterate 26 apply dF;rfl;kernel_rfl;intro w' hSw;replace hSw:=aB hSw;(try dsimp only at hSw);have q0:=hSw.1;have q1:=hSw.2.1;have q2:=hSw.2.2.1;have q3:=hSw.2.2.2.1;have q4:=hSw.2.2.2.2;(try simp only [sB,sC]);go_simp;(try with_reducible rfl));exact dD)
     simp only [sB,sC];refine U1 25 0 rfl (fun K hK=>?_)
     try clear hb
     go_simp
     (go_at_call 241;refine (uG ex ey ⟨by omega,by omega⟩ ⟨by omega,by omega⟩ _).mono ?_;rintro e wn ⟨rfl,hb⟩)
     refine hK.out _ _ ?hsr1_27 (fun hH2=>?hrr1_27)
     case hsr1_27=>exact aK (by have hG:=hH;replace hG:=aB hG;(try dsimp only at hG);have q0:=hG.1;have q1:=hG.2.1;have q2:=hG.2.2.1;have q3:=hG.2.2.2.1;have q4:=hG.2.2.2.2;exact ⟨keepCell hb q0,keepCell hb q1,keepCell hb q2,keepCell hb q3,aj hb q4⟩)
     clear hK K hH;have hH:=hH2;clear hH2
     try simp only [Act.put,sA,sB,sC]
     refine U1 27 0 rfl (fun K hK=>?_)
     try clear hb
     go_simp
     (go_at_call 241;refine (uG fx fy ⟨by omega,by omega⟩ ⟨by omega,by omega⟩ _).mono ?_;rintro e wn ⟨rfl,hb⟩)
     refine hK.out _ _ ?hsr1_28 (fun hH2=>?hrr1_28)
     case hsr1_28=>exact aK (by have hG:=hH;replace hG:=aB hG;(try dsimp only at hG);have q0:=hG.1;have q1:=hG.2.1;have q2:=hG.2.2.1;have q3:=hG.2.2.2.1;have q4:=hG.2.2.2.2;exact ⟨keepCell hb q0,keepCell hb q1,keepCell hb q2,keepCell hb q3,aj hb q4⟩)
     clear hK K hH;have hH:=hH2;clear hH2
     try simp only [Act.put,sA,sB,sC]
     refine dG [(28,82),(29,83),(30,84),(31,85)] 0 0 0 (L':=?Lr1_29) hWr1 hH ?hyr1_29 ?_
     case hyr1_29=>((iterate 4 apply dF;rfl;kernel_rfl;intro w' hSw;clear hSw;(try simp only [sB,sC]);go_simp;(try with_reducible rfl));exact dD)
     simp only [sB,sC];refine ak (by kernel_rfl) ?_ _ _;refine NoPanic.normal ?_;clear hWr1;replace hH:=aB hH
     (try dsimp only at hH)
     have q0:=hH.1;have q1:=hH.2.1;have q2:=hH.2.2.1;have q3:=hH.2.2.2.1;have q4:=hH.2.2.2.2;have hBn:Below wa.heap.size wa wn:=hBi.trans (q4.mono hBs);have hBnw:Below w.heap.size w wn:=hBw.trans (q4.mono hBw.size);clear q0 q1 q2 q3 q4 hH hb g1 g2 g3 g4 hBg
     by_cases hbad:ex*fy-ey*fx<8*(aO ex+aO ey+(aO fx+aO fy))
     ·have HE : Hid (oq l = false) := CW hlt hlt2 (by rw [HBD.out, decide_eq_true_eq]; exact hbad);clear HBD;go_wp2
      go_returns
      exact bg HE.out.symm hBnw
     ·have HE : Hid (iJ l k m = false) := by show _ = _; rw [HBD.out, decide_eq_false_iff_not]; exact hbad
      clear HBD;go_wp2;go_roundw
      case rel =>
       refine ⟨_,_,_,_,_,⟨m+1,hlt2,?_,mO HCo.out HE.out⟩,rfl,rfl,rfl,rfl,rfl⟩;go_num
      case measure=>simp [intOf];omega
    ·have hge : l.length ≤ m := by omega
     clear r1 r2 r3 r4;go_wp2;go_roundw
     case rel=>exact ⟨k+1,hlt,by go_num,Aq HN.out (by have:=HCo.out;rwa [show m=l.length by omega] at this),hBw⟩
     case measure=>simp [intOf];omega
  ·clear hCo;have hge:l.length≤k:=by omega
   go_wp2
   go_returns
   exact bg (Hr (by have:=HN.out;rwa [show k=l.length by omega] at this)).symm hB
def ig (l : List V) : Nat → Int
 | 0=>0
 | k+1=>ig l k+dH l 0 (k+1) (k+2)
def jo (l:List V):Int:=ig l (l.length-2)
theorem Da {l:List V} (hw:aF 65536000 l=true) {i j k:Nat} (hi:i<l.length) (hj:j<l.length) (hk:k<l.length) : -34359738368000000≤dH l i j k∧dH l i j k≤34359738368000000 :=
 (xR (aD hw hi) (aD hw hj) (aD hw hk)).2
theorem zB {l:List V} (hw:aF 65536000 l=true) (k:Nat) (hk:k+2≤l.length) : -34359738368000000*k≤ig l k∧ig l k≤34359738368000000*k:=by
 induction k with
 | zero=>simp [ig]
 | succ k ih =>
  have h1:=ih (by omega);have h2:=Da hw (i:=0) (j:=k+1) (k:=k+2) (by omega) (by omega) (by omega);simp only [ig];omega
theorem wT (A:Option Addr) (n c:Nat) (l:List V) (w:World) (hS:Sl w A n c l) :
  Calls Tryz.prog 92 #[.slice A n c] w (dS (.tuple #[.int .i64 (if aP l=0 then jo l else 0),.int .i64 (aP l)]) w):=by
 by_cases hE:aP l=0
 ·obtain ⟨h8, h3, hw, _⟩ := aU hE;obtain ⟨b,off,rfl,hC⟩:=hS.at_ (by intro h;subst h;simp at h3);have hn:=hS.len;subst hn;have hb2:=hC.lt;have hcap:=hS.cap;have HE:=hid hE;have HC:=hid hC;have HW:=hid hw;clear hE hC hw;rw [HE.out]
  go_enter Tryz.func92,Tryz.ntmps92
  go_wp2_with (go_at_call 146;refine (fZ _ _ _ l _ hS).mono ?_;rintro e w1 ⟨rfl,hb1⟩;rw [HE.out])
  go_loopw [5,6] (fun s i wr=>∃ m:Nat,2≤m∧m≤l.length∧i = .int .i64 m∧s = .int .i64 (ig l (m-2))∧Below w.heap.size w wr) (fun _ i _=>l.length-(intOf i).toNat)
  case atStart=>exact ⟨2,by omega,by omega,rfl,rfl,hb1⟩
  case round =>
   obtain ⟨m,hm2,hm,rfl,rfl,hB⟩:=hrel;have hbd:=zB HW.out (m-2) (by omega)
   by_cases hlt:m<l.length
   ·have hsd := Da HW.out (i := 0) (j := m - 1) (k := m) (by omega) (by omega) hlt;have e1:IntKind.i64.wrap ((m:Int)-1)=(m:Int)-1:=IntWalk.i64_in _ (by omega);have e2:0≤(m:Int)-1:=by omega
    have e3:(m:Int)-1<(l.length:Int):=by omega
    have e4:((m:Int)-1).toNat=m-1:=by omega
    have e5:(0:Int)<(l.length:Int):=by omega
    have e8:0<l.length:=by omega
    have e9:1≤(m:Int):=by omega
    have e6:(m:Int)<(l.length:Int):=by omega
    have e7:IntKind.i64.wrap (ig l (m-2)+dH l 0 (m-1) m)=ig l (m-2)+dH l 0 (m-1) m:=IntWalk.i64_in _ (by omega);have hCr:=HC.out.below hB;have s1:wr.drew.cell? ⟨b,off,none⟩=some (.int .i64 (px l 0))∧wr.drew.cell? ⟨b,off+1,none⟩=some (.int .i64 (py l 0))∧wr.drew.cell? ⟨b,off+(m-1)*2,none⟩=some (.int .i64 (px l (m-1)))∧wr.drew.cell? ⟨b,off+(m-1)*2+1,none⟩=some (.int .i64 (py l (m-1)))∧wr.drew.cell? ⟨b,off+m*2,none⟩=some (.int .i64 (px l m))∧wr.drew.cell? ⟨b,off+m*2+1,none⟩=some (.int .i64 (py l m))∧Below w.heap.size w wr.drew:=⟨by simpa using hCr.x 0 (by omega),by simpa using hCr.y 0 (by omega),hCr.x (m-1) (by omega),hCr.y (m-1) (by omega),hCr.x m hlt,hCr.y m hlt,hB.drew⟩;have S1:=hid s1;clear s1;clear hCr;go_wp2
    go_region_held3 (fun w' => w'.cell? ⟨b, off, none⟩ = some (.int .i64 (px l 0)) ∧ w'.cell? ⟨b, off + 1, none⟩ = some (.int .i64 (py l 0)) ∧ w'.cell? ⟨b, off + (m - 1) * 2, none⟩ = some (.int .i64 (px l (m - 1))) ∧ w'.cell? ⟨b, off + (m - 1) * 2 + 1, none⟩ = some (.int .i64 (py l (m - 1))) ∧ w'.cell? ⟨b, off + m * 2, none⟩ = some (.int .i64 (px l m)) ∧ w'.cell? ⟨b, off + m * 2 + 1, none⟩ = some (.int .i64 (py l m)) ∧ Below w.heap.size w w')
     (first | with_reducible exact S1.out | (go_split_ands;with_reducible exact ⟨keepCell hb1 (by assumption),keepCell hb1 (by assumption),keepCell hb1 (by assumption),keepCell hb1 (by assumption),keepCell hb1 (by assumption),keepCell hb1 (by assumption),aj hb1 (by assumption)⟩))
     (first | (go_at_call 156;refine (qK _ _ _ _ _ _ (aD HW.out (by omega)) (aD HW.out (by omega)) (aD HW.out (by omega)) _).mono ?_;rintro e w1 ⟨rfl,hb1⟩;rw [show fQ (px l 0) (py l 0) (px l (m-1)) (py l (m-1)) (px l m) (py l m)=dH l 0 (m-1) m from rfl]))
    go_wp2;go_roundw
    case rel =>
     go_split_ands
     exact ⟨m+1,by omega,by omega,by go_num,by rw [show m+1-2=(m-2)+1 by omega,ig,show m-2+1=m-1 by omega,show m-2+2=m by omega],by assumption⟩
    case measure=>simp [intOf];omega
   ·have hge : l.length ≤ m := by omega
    go_wp2
    go_returns
    exact ret_val (by rw [show jo l=ig l (m-2) by rw [jo,show l.length-2=m-2 by omega]];simp) hB
 ·have hS2 := hid hS;have HE:=hid hE;have hne:(aP l != 0)=true:=by simp [hE]
  rw [if_neg hE];clear hS hE
  go_enter Tryz.func92,Tryz.ntmps92
  go_wp2_with (go_at_call 146;refine (fZ _ _ _ l _ hS2.out).mono ?_;rintro e w1 ⟨rfl,hb1⟩)
  go_returns
  exact ret_val rfl hb1

def uK (l:List V) (i:Nat) (p q:Int):Int:=fQ (px l i) (py l i) (px l ((i+1) % l.length)) (py l ((i+1) % l.length)) p q
def D9 (l:List V) (p q:Int) (k:Nat):Prop:=∀ i,i<k→0≤uK l i p q
def hasB (l:List V) (p q:Int):Bool:=decide (aP l=0) && aL 65536000 p q && (List.range l.length).all fun i=>decide (0≤uK l i p q)
theorem FN (l:List V) (p q:Int):D9 l p q 0:=fun _ h=>absurd h (by omega)
theorem FI {l:List V} {p q:Int} {k:Nat} (h:D9 l p q k) (hk:0≤uK l k p q):D9 l p q (k+1):=fun i hi=>by
 by_cases e:i=k
 ·subst e;exact hk
 ·exact h i (by omega)
theorem ze {l:List V} {p q:Int} (h1:aP l=0) (h2:aL 65536000 p q=true) (h3:D9 l p q l.length):hasB l p q=true:=by
 unfold hasB;rw [h2,decide_eq_true h1];simp only [Bool.and_self,Bool.true_and,List.all_eq_true,List.mem_range,decide_eq_true_iff];exact h3
theorem EX {l:List V} {p q:Int} {k:Nat} (hk:k<l.length) (h:uK l k p q<0):hasB l p q=false:=by
 have:((List.range l.length).all fun i=>decide (0≤uK l i p q))=false:=by
  rw [List.all_eq_false];exact ⟨k,List.mem_range.2 hk,by simp;omega⟩
 unfold hasB;rw [this];simp
theorem Jp (A:Option Addr) (n c:Nat) (l:List V) (p q:Int) (w:World) (hS:Sl w A n c l) :
  Calls Tryz.prog 214 #[.slice A n c,cZ p q] w (dS (.bool (hasB l p q)) w):=by
 have hS1:Sl (w.alloc (.cells #[.int .i64 p,.int .i64 q] 24)) A n c l:=hS.below ((Below.refl _ _).alloc (Nat.le_refl _) _)
 by_cases hE:aP l=0
 ·cases hP:aL 65536000 p q with
  | false =>
   have HS1:=hid hS1;have HE:=hid hE;have HP:=hid hP;clear hS hS1 hE hP
   go_enter Tryz.func214,Tryz.ntmps214
   go_wp2_with (first | (go_at_call 146;refine (fZ _ _ _ l _ HS1.out).mono ?_;rintro e w1 ⟨rfl,hb1⟩;rw [HE.out];have k1:w1.cell? ⟨w.heap.size,0,none⟩=some (.int .i64 p):=keepCell hb1 (by go_simp);have k2:w1.cell? ⟨w.heap.size,1,none⟩=some (.int .i64 q):=keepCell hb1 (by go_simp)) | (go_at_call 211;refine (nD _ _ _).mono ?_;rintro e w2 ⟨rfl,hb2⟩;rw [HP.out]))
   go_returns
   exact bg (by simp [hasB,HP.out]) ((((Below.refl w.heap.size w).alloc (Nat.le_refl _) _).trans (hb1.mono (by simp))).trans (hb2.mono (Nat.le_trans (by simp) hb1.size)))
  | true =>
   obtain ⟨h8,h3,hw,_⟩:=aU hE;obtain ⟨b,off,rfl,hC⟩:=hS.at_ (by intro h;subst h;simp at h3);have hn:=hS.len;subst hn;have hb2:=hC.lt;have hcap:=hS.cap;have HS1:=hid hS1;have HE:=hid hE;have HP:=hid hP;have HC:=hid hC;have HW:=hid hw;clear hS hS1 hE hP hC hw
   go_enter Tryz.func214,Tryz.ntmps214
   go_wp2_with (first | (go_at_call 146;refine (fZ _ _ _ l _ HS1.out).mono ?_;rintro e w1 ⟨rfl,hb1⟩;rw [HE.out];have k1:w1.cell? ⟨w.heap.size,0,none⟩=some (.int .i64 p):=keepCell hb1 (by go_simp);have k2:w1.cell? ⟨w.heap.size,1,none⟩=some (.int .i64 q):=keepCell hb1 (by go_simp)) | (go_at_call 211;refine (nD _ _ _).mono ?_;rintro e w2 ⟨rfl,hb2⟩;rw [HP.out];have l1:=hid (And.intro (keepCell hb2 k1) (keepCell hb2 k2))))
   have hB0:Below w.heap.size w w2:=(((Below.refl w.heap.size w).alloc (Nat.le_refl _) _).trans (hb1.mono (by simp))).trans (hb2.mono (Nat.le_trans (by simp) hb1.size));clear k1 k2
   go_loopw [17] (fun i wr=>∃ k:Nat,k≤l.length∧i = .int .i64 k∧D9 l p q k∧Below w.heap.size w wr∧wr.cell? ⟨w.heap.size,0,none⟩=some (.int .i64 p)∧wr.cell? ⟨w.heap.size,1,none⟩=some (.int .i64 q)) (fun i _=>l.length-(intOf i).toNat)
   case atStart=>exact ⟨0,Nat.zero_le _,rfl,FN _ _ _,hB0,l1.out.1,l1.out.2⟩
   case round =>
    obtain ⟨k,hk,rfl,hno,hB,kp,kq⟩:=hrel;obtain ⟨wo,rfl⟩:∃ wo:World,wo=wr:=⟨_,rfl⟩;have HN:=hid hno;clear hno
    by_cases hlt:k<l.length
    ·have hj : (k + 1) % l.length < l.length := Nat.mod_lt _ (by omega);have hji:((k:Int)+1) % (l.length:Int)<(l.length:Int):=Int.emod_lt_of_pos _ (by omega);have hj0:0≤((k:Int)+1) % (l.length:Int):=Int.emod_nonneg _ (by omega);have hj1:(((k:Int)+1) % (l.length:Int)).toNat=(k+1) % l.length:=by rw [show ((k:Int)+1) % (l.length:Int)=(((k+1) % l.length:Nat):Int) by simp];omega
     have e1:IntKind.i64.wrap ((k:Int)+1)=(k:Int)+1:=IntWalk.i64_in _ (by omega);have e2:0≤(k:Int)+1:=by omega
     have e3:Int.tmod ((k:Int)+1) (l.length:Int)=((k:Int)+1) % (l.length:Int):=Int.tmod_eq_emod_of_nonneg (by omega);have e4:((l.length:Int) == 0)=false:=by simp;intro h;subst h;simp at hlt
     have e5:¬ l=[]:=by intro h;subst h;simp at hlt
     have e6:l.length≠0:=by omega
     have e7:¬ ((l.length:Int)=0):=by omega
     have hp0:=lt_of_cell kp;have hCo:=HC.out.below hB;have hx:=hCo.x k hlt;have hy:=hCo.y k hlt;have hbo:=hCo.lt;have hCa:=hCo.below ((Below.refl _ _).alloc (Nat.le_refl _) (.cells #[.int .i64 (px l k),.int .i64 (py l k)] 24));have s1:(wo.alloc (.cells #[.int .i64 (px l k),.int .i64 (py l k)] 24)).drew.cell? ⟨wo.heap.size,0,none⟩=some (.int .i64 (px l k))∧(wo.alloc (.cells #[.int .i64 (px l k),.int .i64 (py l k)] 24)).drew.cell? ⟨wo.heap.size,1,none⟩=some (.int .i64 (py l k))∧(wo.alloc (.cells #[.int .i64 (px l k),.int .i64 (py l k)] 24)).drew.cell? ⟨b,off+((k+1) % l.length)*2,none⟩=some (.int .i64 (px l ((k+1) % l.length)))∧(wo.alloc (.cells #[.int .i64 (px l k),.int .i64 (py l k)] 24)).drew.cell? ⟨b,off+((k+1) % l.length)*2+1,none⟩=some (.int .i64 (py l ((k+1) % l.length)))∧(wo.alloc (.cells #[.int .i64 (px l k),.int .i64 (py l k)] 24)).drew.cell? ⟨w.heap.size,0,none⟩=some (.int .i64 p)∧(wo.alloc (.cells #[.int .i64 (px l k),.int .i64 (py l k)] 24)).drew.cell? ⟨w.heap.size,1,none⟩=some (.int .i64 q)∧Below w.heap.size w (wo.alloc (.cells #[.int .i64 (px l k),.int .i64 (py l k)] 24)).drew:=⟨by go_simp,by go_simp,hCa.x ((k+1) % l.length) hj,hCa.y ((k+1) % l.length) hj,by go_simp,by go_simp,((hB.alloc hB.size _)).drew⟩;have S1:=hid s1;clear s1;clear hCo hCa;go_wp2
     go_region_held3 (fun w' => w'.cell? ⟨wo.heap.size, 0, none⟩ = some (.int .i64 (px l k)) ∧ w'.cell? ⟨wo.heap.size, 1, none⟩ = some (.int .i64 (py l k)) ∧ w'.cell? ⟨b, off + ((k + 1) % l.length) * 2, none⟩ = some (.int .i64 (px l ((k + 1) % l.length))) ∧ w'.cell? ⟨b, off + ((k + 1) % l.length) * 2 + 1, none⟩ = some (.int .i64 (py l ((k + 1) % l.length))) ∧ w'.cell? ⟨w.heap.size, 0, none⟩ = some (.int .i64 p) ∧ w'.cell? ⟨w.heap.size, 1, none⟩ = some (.int .i64 q) ∧ Below w.heap.size w w')
      (first | with_reducible exact S1.out | (go_split_ands;with_reducible exact ⟨keepCell hb3 (by assumption),keepCell hb3 (by assumption),keepCell hb3 (by assumption),keepCell hb3 (by assumption),keepCell hb3 (by assumption),keepCell hb3 (by assumption),aj hb3 (by assumption)⟩))
      (first | (go_at_call 156;refine (qK _ _ _ _ _ _ (aD HW.out hlt) (aD HW.out hj) HP.out _).mono ?_;rintro e w3 ⟨rfl,hb3⟩))
     go_wp2
     all_goals go_split_ands
     ·go_returns
      exact bg (EX hlt (by show fQ _ _ _ _ _ _<0;assumption)).symm (by assumption)
     ·go_roundw
      case rel=>exact ⟨k+1,hlt,by go_num,FI HN.out (by show 0≤fQ _ _ _ _ _ _;assumption),by assumption,by assumption,by assumption⟩
      case measure=>simp [intOf];omega
    ·have hge : l.length ≤ k := by omega
     clear kp kq;go_wp2
     go_returns
     exact bg (ze HE.out HP.out (by have:=HN.out;rwa [show k=l.length by omega] at this)).symm hB
 ·have HS1 := hid hS1;have HE:=hid hE;have hne:(aP l != 0)=true:=by simp [hE]
  clear hS hS1 hE
  go_enter Tryz.func214,Tryz.ntmps214
  go_wp2_with (go_at_call 146;refine (fZ _ _ _ l _ HS1.out).mono ?_;rintro e w1 ⟨rfl,hb1⟩)
  go_returns
  exact bg (by have:=HE.out;simp [hasB,this]) (((Below.refl w.heap.size w).alloc (Nat.le_refl _) _).trans (hb1.mono (by simp)))
def i64 (a:Int):Prop := -9223372036854775808≤a∧a≤9223372036854775807









theorem Sl.of4 {w : World} {g c : Nat} (a b p q r s u v : Int) (h0 : w.cell? ⟨g, 0, none⟩ = some (.int .i64 a)) (h1 : w.cell? ⟨g, 1, none⟩ = some (.int .i64 b)) (h2 : w.cell? ⟨g, 2, none⟩ = some (.int .i64 p)) (h3 : w.cell? ⟨g, 3, none⟩ = some (.int .i64 q))
  (h4:w.cell? ⟨g,4,none⟩=some (.int .i64 r)) (h5:w.cell? ⟨g,5,none⟩=some (.int .i64 s)) (h6:w.cell? ⟨g,6,none⟩=some (.int .i64 u)) (h7:w.cell? ⟨g,7,none⟩=some (.int .i64 v)) (hc:4≤c) (hc2:c≤9223372036854775807):Sl w (some ⟨g,0,none⟩) 4 c [(a,b),(p,q),(r,s),(u,v)]:=by
 refine ⟨rfl,hc,hc2,fun _=>⟨g,0,rfl,lt_of_cell h0,fun j hj=>?_,fun j hj=>?_⟩⟩
 ·match j,hj with
  | 0,_=>exact h0
  | 1,_=>exact h2
  | 2,_=>exact h4
  | 3,_=>exact h6
 ·match j,hj with
  | 0,_=>exact h1
  | 1,_=>exact h3
  | 2,_=>exact h5
  | 3,_=>exact h7
end
end Go.Proofs.YtokgmcomgflloaaGreat
