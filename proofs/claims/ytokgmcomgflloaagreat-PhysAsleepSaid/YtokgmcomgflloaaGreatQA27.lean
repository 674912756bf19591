/- Parts of a proof: contracts and laws. -/
import Derived.Test.YtokgmcomgflloaaGreatQA18
import Derived.Test.YtokgmcomgflloaaGreatQA13
import Derived.Test.YtokgmcomgflloaaGreatQA01
import Derived.Test.YtokgmcomgflloaaGreatQA00
import Derived.Deep.RegionLaw
import Derived.Deep.RegionHeld3
import Derived.Deep.DeepCutAuto
import Derived.Laws.IdiomCopy
import Derived.Test.YtokgmcomgflloaaGreatQA02
import Derived.Test.YtokgmcomgflloaaGreatQA04
import Derived.Test.YtokgmcomgflloaaGreatQA14
set_option maxRecDepth 100000
set_option maxHeartbeats 16000000
namespace Go.Proofs.YtokgmcomgflloaaGreat
section
set_option linter.unusedVariables false
set_option linter.unusedSimpArgs false
open Go.RowKit
variable {w0 w w':World}
theorem nD {g o o':Nat} {v u:Value} (h:w.cell? ⟨g,o',none⟩=some u) (hne:o≠o'):(w.setCell ⟨g,o,none⟩ v).cell? ⟨g,o',none⟩=some u:=by
 have n1:¬ o=o':=hne;have n2:¬ o'=o:=fun e=>hne e.symm
 go_simp
theorem Eh {g o:Nat} {v u:Value} (h:w.cell? ⟨g,o,none⟩=some u):(w.setCell ⟨g,o,none⟩ v).cell? ⟨g,o,none⟩=some v:=by go_simp
theorem aJ.pairK {b off:Nat} {l:List (Nat × Nat)} {x:Nat × Nat} (h:aJ bW w b off l) {i:Nat} (hi:i<l.length) (hx:x=l[i]) :
  w.cell? ⟨b,off+i*2,none⟩=some (.int .i64 (x.1:Nat))∧w.cell? ⟨b,off+i*2+1,none⟩=some (.int .i64 (x.2:Nat)):=by
 subst hx;exact ⟨h.at_ i hi 0 _ rfl,h.at_ i hi 1 _ rfl⟩
theorem uM (F : Nat) (p1 : Value) (f : Nat × Nat → Bool) (hcf : ∀ (args : Array Value) (w : World), (callFunc F args).run Tryz.prog w = .ok (.enter F args) w) (A : Option Addr) (n c : Nat) (l : List (Nat × Nat)) (w : World) (hS : dW bW w A n c l)
  (hG:∀ x,x ∈ l→∀ w',Below w.heap.size w w'→Calls Tryz.prog F #[.agg #[.int .i64 (x.1:Nat),.int .i64 (x.2:Nat)],p1] w' (dG (.bool (f x)) w')) :
  Calls Tryz.prog 142 #[.slice A n c,.func (.func F) #[] #[p1]] w fun e w'=>(∃ r:Int,e = .returned (.int .i64 r)∧((r = -1∧∀ i (hi:i<l.length),f l[i]=false)∨∃ k:Nat,r=k∧∃ hk:k<l.length,f l[k]=true∧∀ i (hi:i<l.length),i<k→f l[i]=false))∧Below w.heap.size w w':=by
 have hn:=hS.len;subst hn;have HS:=hid hS;have HG:=hid hG;have hbig:=Nat.le_trans hS.cap hS.big;clear hS hG
 go_enter Tryz.func142,Tryz.ntmps142
 go_wp2
 go_loopw [8] (fun j wr=>∃ k:Nat,k≤l.length∧j = .int .i64 k∧(∀ i (hi:i<l.length),i<k→f l[i]=false)∧Below w.heap.size w wr) (fun j _=>l.length-(intOf j).toNat)
 case atStart=>exact ⟨0,Nat.zero_le _,rfl,fun i _ h=>absurd h (Nat.not_lt_zero i),Below.refl _ _⟩
 case round =>
  obtain ⟨i,hi,rfl,hno,hB⟩:=hrel;have HNO:=hid hno;clear hno;obtain ⟨wo,rfl⟩:∃ wo:World,wo=wr:=⟨_,rfl⟩
  by_cases hlt:i<l.length
  ·have hlt' : (i : Int) < (l.length : Int) := by omega
   have hwk:IntKind.i64.wrap ((i:Int)+1)=(i:Int)+1:=IntWalk.i64_in _ (by omega);obtain ⟨b,off,rfl,hC⟩:=(HS.out.below hB).at_ (by intro h;rw [h] at hlt;simp at hlt);obtain ⟨x,hx⟩:∃ x,x=l[i]:=⟨_,rfl⟩;obtain ⟨d0,d1⟩:=hC.pairK hlt hx;have hbl:=hC.lt;have HCL:=hid (HG.out x (by rw [hx];exact List.getElem_mem hlt) wo hB);have HX:Hid (f l[i]=f x):=by show _=_;rw [hx]
   generalize f x=fx at *
   clear hC hx
   go_wp2_with fail
   refine HCL.out.mono ?_;rintro e w5 ⟨rfl,hb5⟩;have hB5:=aj hb5 hB;clear hb5 HCL d0 d1 hbl hB
   cases fx with
   | true =>
    have HR:Hid ((∃ r:Int,(Ending.returned (.int .i64 (i:Int))) = .returned (.int .i64 r)∧((r = -1∧∀ i (hi:i<l.length),f l[i]=false)∨∃ k:Nat,r=k∧∃ hk:k<l.length,f l[k]=true∧∀ i (hi:i<l.length),i<k→f l[i]=false))∧Below w.heap.size w w5):=⟨⟨i,rfl,.inr ⟨i,rfl,hlt,HX.out,HNO.out⟩⟩,hB5⟩;clear HX HNO;go_wp2;refine bodyPost_ret (v:=.int .i64 i) (by simp [results,Tryz.results142,go_sem]) rfl HR.out
   | false =>
    have HN2:Hid (∀ j (hj:j<l.length),j<i+1→f l[j]=false):=fun j hj hji=>by
     rcases Nat.lt_or_ge j i with q | q
     ·exact HNO.out j hj q
     ·obtain rfl : j = i := by omega
      exact HX.out
    clear HX HNO;go_wp2;go_roundw
    case rel=>exact ⟨i+1,hlt,by go_num,HN2.out,hB5⟩
    case measure=>simp [intOf];omega
  ·have hie : i = l.length := by omega
   subst hie;have HR:Hid ((∃ r:Int,(Ending.returned (.int .i64 (-1))) = .returned (.int .i64 r)∧((r = -1∧∀ i (hi:i<l.length),f l[i]=false)∨∃ k:Nat,r=k∧∃ hk:k<l.length,f l[k]=true∧∀ i (hi:i<l.length),i<k→f l[i]=false))∧Below w.heap.size w wo):=⟨⟨-1,rfl,.inl ⟨rfl,fun i hi=>HNO.out i hi hi⟩⟩,hB⟩;clear HNO;go_wp2;refine bodyPost_ret (v:=.int .i64 (-1)) (by simp [results,Tryz.results142,go_sem]) rfl HR.out
theorem qj (b : Nat) : ∀ (vs : List Value) (o : Nat) (w : World), (w.setCells b o vs).heap.size = w.heap.size
 | [],_,_=>rfl
 | v :: r,o,w=>by rw [World.setCells,qj b r];simp
theorem below_setCells {B b : Nat} (hB : B ≤ b) : ∀ (vs : List Value) (o : Nat) {w0 w : World}, Below B w0 w → Below B w0 (w.setCells b o vs)
 | [],_,_,_,h=>h
 | v :: r,o,w0,w,h=>by
  rw [World.setCells]
  exact below_setCells hB r (o+1) (h.setCell (p:=⟨b,_,none⟩) hB _)

theorem vU (w : World) (ty : TypeId) (b o n c : Nat) (hn : 0 < n)
  (hc:∀ j,j<n*2→(w.cell? ⟨b,o+j,none⟩).isSome=true) (hf:∀ j,j<n*2→w.frozen? ⟨b,o+j,none⟩=false) :
  (Builtin.clear_ #[67] ty #[.slice (some ⟨b,o,none⟩) n c]).run Tryz.prog w = .ok (.tuple #[]) (w.setCells b o (List.replicate (n*2) (.int .i64 0))):=by
 have hzc:(Builtin.zeroCells #[.int .i64 0,.int .i64 0] n).toList=List.replicate (n*2) (.int .i64 0):=by
  simp [Builtin.zeroCells];apply List.ext_getElem
  ·simp
  ·intro i h1 h2;simp;have:i % 2=0∨i % 2=1:=by omega
   rcases this with e | e <;> simp [e]
 have hst:=run_storeCells_cells (P:=Tryz.prog) b o (List.replicate (n*2) (.int .i64 0)) 0 w (by simpa using hc) (by simpa using hf) (by intro v hv';rw [List.eq_of_mem_replicate hv'];rfl);simp only [Nat.add_zero] at hst;obtain ⟨m,rfl⟩:∃ m,n=m+1:=⟨n-1,by omega⟩;have hv:=Tryz.zeroValue72 w;have hz:(Value.agg #[.int .i64 0,.int .i64 0]).cells=#[.int .i64 0,.int .i64 0]:=by rfl
 simp [Builtin.clear_,run_underlying Tryz.underlying67,hv,hz,hzc,hst]

structure Dp (w0 : World) (B g n : Nat) (M : List (Nat × Nat)) (w : World) : Prop where
 cl:aJ bW w g 0 M
 cf:∀ j,w.frozen? ⟨g,j,none⟩=false
 bel:Below B w0 w
 lo:B≤g
 ln:M.length=n
theorem Dp.keep {B g n:Nat} {M:List (Nat × Nat)} {w w':World} (hb:Below w.heap.size w w') (h:Dp w0 B g n M w) (hB:B≤w.heap.size):Dp w0 B g n M w' :=
 ⟨h.cl.below hb,fun j=>((dF hb).2 _ _ h.cl.lt).trans (h.cf j),h.bel.trans (hb.mono hB),h.lo,h.ln⟩
theorem aJ.setPair {g i:Nat} {M:List (Nat × Nat)} (h:aJ bW w g 0 M) (hi:i<M.length) (p:Nat × Nat):aJ bW ((w.setCell ⟨g,i*2,none⟩ (.int .i64 (p.1:Nat))).setCell ⟨g,i*2+1,none⟩ (.int .i64 (p.2:Nat))) g 0 (M.set i p):=by
 refine ⟨by simp;exact h.lt,fun j hj k u hu=>?_⟩;have hlen:∀ x:Nat × Nat,(bW.enc x).length=2:=fun _=>rfl
 have hj':j<M.length:=by simpa using hj
 have h0:=h.at_ j hj' 0 _ (show (bW.enc M[j])[0]? = some (.int .i64 (M[j].1:Nat)) from rfl);have h1:=h.at_ j hj' 1 _ (show (bW.enc M[j])[1]? = some (.int .i64 (M[j].2:Nat)) from rfl);rw [show bW.k=2 from rfl,Nat.zero_add] at h0 h1;have h0:w.cell? ⟨g,j*2,none⟩=_:=h0;show ((w.setCell ⟨g,i*2,none⟩ (.int .i64 (p.1:Nat))).setCell ⟨g,i*2+1,none⟩ (.int .i64 (p.2:Nat))).cell? ⟨g,0+j*2+k,none⟩=some u;rw [Nat.zero_add]
 have hk:k<2:=by
  rcases Nat.lt_or_ge k 2 with q | q
  ·exact q
  ·rw [List.getElem?_eq_none (by rw [hlen];exact q)] at hu;cases hu
 by_cases e:j=i
 ·subst e;rw [List.getElem_set_self] at hu
  match k,hk,hu with
  | 0,_,hu =>
   have hu:some (Value.int .i64 (p.1:Nat))=some u:=hu
   cases hu
   exact nD (Eh h0) (by omega)
  | 1,_,hu =>
   have hu:some (Value.int .i64 (p.2:Nat))=some u:=hu
   cases hu
   exact Eh (nD h1 (by omega))
 ·rw [List.getElem_set_ne (by omega)] at hu
  match k,hk,hu with
  | 0,_,hu =>
   have hu:some (Value.int .i64 (M[j].1:Nat))=some u:=hu
   cases hu
   exact nD (nD h0 (by omega)) (by omega)
  | 1,_,hu =>
   have hu:some (Value.int .i64 (M[j].2:Nat))=some u:=hu
   cases hu
   exact nD (nD h1 (by omega)) (by omega)
theorem Dp.set {B g n i:Nat} {M:List (Nat × Nat)} {w:World} (h:Dp w0 B g n M w) (hi:i<M.length) (p:Nat × Nat) :
  Dp w0 B g n (M.set i p) ((w.setCell ⟨g,i*2,none⟩ (.int .i64 (p.1:Nat))).setCell ⟨g,i*2+1,none⟩ (.int .i64 (p.2:Nat))) :=
 ⟨h.cl.setPair hi p,fun j=>by rw [World.frozen?_setCell,World.frozen?_setCell];exact h.cf j,(h.bel.setCell (p:=⟨g,_,none⟩) h.lo _).setCell (p:=⟨g,_,none⟩) h.lo _,h.lo,by rw [List.length_set];exact h.ln⟩

def Bt (f:Nat × Nat→Bool) (l M:List (Nat × Nat)) (i j:Nat):Prop:=M.take i=(l.take j).filter (fun p => !f p)∧M.drop j=l.drop j∧i≤j
theorem Nr {f:Nat × Nat→Bool} {l M:List (Nat × Nat)} {i j:Nat} (h:Bt f l M i j) (hl:M.length=l.length) (hj:j<l.length):M[j]'(by omega)=l[j]:=by
 have e1:(M.drop j)[0]'(by rw [List.length_drop];omega)=M[j]'(by omega):=by simp
 have e2:(l.drop j)[0]'(by rw [List.length_drop];omega)=l[j]:=by simp
 rw [← e1,← e2];simp only [h.2.1]
theorem Ih {f:Nat × Nat→Bool} {l M:List (Nat × Nat)} {i j:Nat} (h:Bt f l M i j) (hl:M.length=l.length) (hj:j<l.length) (hf:f l[j]=true):Bt f l M i (j+1):=by
 obtain ⟨h1,h2,h3⟩:=h;refine ⟨?_,?_,by omega⟩
 ·rw [h1, List.take_succ_eq_append_getElem hj, List.filter_append];simp [hf]
 ·have : (M.drop j).drop 1 = (l.drop j).drop 1 := by rw [h2]
  simpa [List.drop_drop] using this
theorem Ir {f:Nat × Nat→Bool} {l M:List (Nat × Nat)} {i j:Nat} (h:Bt f l M i j) (hl:M.length=l.length) (hj:j<l.length) (hf:f l[j]=false):Bt f l (M.set i l[j]) (i+1) (j+1):=by
 obtain ⟨h1,h2,h3⟩:=h;refine ⟨?_,?_,by omega⟩
 ·rw [List.take_succ_eq_append_getElem (by rw [List.length_set]; omega), List.getElem_set_self, List.take_set_of_le (by omega), h1, List.take_succ_eq_append_getElem hj, List.filter_append];simp [hf]
 ·rw [List.drop_set_of_lt (by omega)];have:(M.drop j).drop 1=(l.drop j).drop 1:=by rw [h2]
  simpa [List.drop_drop] using this

theorem D5 (F : Nat) (p1 : Value) (f : Nat × Nat → Bool) (hcf : ∀ (args : Array Value) (w : World), (callFunc F args).run Tryz.prog w = .ok (.enter F args) w) (s : Value) (l : List (Nat × Nat)) (B : Nat) (w : World) (hs : aU bW 72 w B s l) (hB : B ≤ w.heap.size) (hl : l.length ≤ 1000000)
  (hG:∀ x,x ∈ l→∀ w',Below B w w'→Calls Tryz.prog F #[.agg #[.int .i64 (x.1:Nat),.int .i64 (x.2:Nat)],p1] w' (dG (.bool (f x)) w')) :
  Calls Tryz.prog 82 #[s,.func (.func F) #[] #[p1]] w fun e w'=>∃ A n c,e = .returned (.slice A n c)∧dW bW w' A n c (l.filter fun p => !f p)∧Below B w w':=by
 have HG:=hid hG
 rcases hs.form with ⟨rfl,h0⟩ | ⟨g,cap,rfl,hBg,hg,hn,hm,hf,hcl⟩
 ·subst h0;have HI:=hid (uM F p1 f hcf none 0 0 [] w (dW.nil _ _) (fun x hx w' hb=>hG x hx w' (hb.mono hB)));clear hG hs
  go_enter Tryz.func82,Tryz.ntmps82
  go_wp2_with fail
  refine HI.out.mono ?_;rintro e w1 ⟨⟨r,rfl,hr⟩,hb⟩
  have hr1:r = -1:=by
   rcases hr with ⟨h,-⟩ | ⟨k,-,hk,-⟩
   ·exact h
   ·simp at hk
  subst hr1;have HR:Hid (∃ A n c,Ending.returned (.slice none 0 0) = .returned (.slice A n c)∧dW bW w1 A n c (([]:List (Nat × Nat)).filter fun p => !f p)∧Below B w w1):=⟨none,0,0,rfl,dW.nil _ _,hb.mono hB⟩;clear hr HI HG hb;go_wp2;refine bodyPost_ret (v:=.slice none 0 0) (by simp [results,Tryz.results82,go_sem]) rfl HR.out
 obtain ⟨n,hn'⟩:∃ n,n=l.length:=⟨_,rfl⟩;have HD0:Hid (Dp w B g n l w):=⟨hcl,hf,Below.refl _ _,hBg,hn'.symm⟩;have hnl:n≤1000000:=by omega
 have hnc:n≤cap:=by omega
 have HN:=hid hn';have HI:=hid (uM F p1 f hcf (some ⟨g,0,none⟩) n cap l w ⟨hn',hnc,hm,fun _=>⟨g,0,rfl,hcl⟩⟩ (fun x hx w' hb=>hG x hx w' (hb.mono hB)));rw [← hn'];clear hG hs hBg hg hn hf hcl hn'
 go_enter Tryz.func82,Tryz.ntmps82
 go_wp2_with fail
 refine HI.out.mono ?_;rintro e w1 ⟨⟨r,rfl,hr⟩,hb⟩;clear HI;have HR0:=hid hr;have HD1:Hid (Dp w B g n l w1):=HD0.out.keep hb hB;have hB1:B≤w1.heap.size:=Nat.le_trans hB hb.size
 have hr2:r = -1∨∃ k:Nat,r=k∧k<n:=by
  rcases hr with ⟨h,-⟩ | ⟨k,h,hk,-⟩
  ·exact .inl h
  ·exact .inr ⟨k,h,by have:=HN.out;omega⟩
 clear hr HD0 hb
 rcases hr2 with rfl | ⟨k,rfl,hk⟩
 ·have HR:Hid (∃ A m c,Ending.returned (.slice (some ⟨g,0,none⟩) n cap) = .returned (.slice A m c)∧dW bW w1 A m c (l.filter fun p => !f p)∧Below B w w1):=by
   have e:l.filter (fun p => !f p)=l:=by
    rw [List.filter_eq_self];intro a ha;obtain ⟨i,hi,rfl⟩:=List.getElem_of_mem ha
    rcases HR0.out with ⟨-,h⟩ | ⟨k,h,-⟩
    ·rw [h i hi];rfl
    ·omega
   rw [e];exact ⟨_,_,_,rfl,⟨HD1.out.ln.symm,hnc,hm,fun _=>⟨g,0,rfl,HD1.out.cl⟩⟩,HD1.out.bel⟩
  clear HR0 HD1 HG HN;go_wp2;refine bodyPost_ret (v:=.slice (some ⟨g,0,none⟩) n cap) (by simp [results,Tryz.results82,go_sem]) rfl HR.out
 have HM0:Hid (Bt f l l k (k+1)):=by
  rcases HR0.out with ⟨h,-⟩ | ⟨k',h,hk',h1,h2⟩
  ·omega
  ·obtain rfl : k = k' := by omega
   refine ⟨?_,rfl,by omega⟩;rw [List.take_succ_eq_append_getElem hk',List.filter_append]
   have e:(l.take k).filter (fun p => !f p)=l.take k:=by
    rw [List.filter_eq_self];intro a ha;obtain ⟨i,hi,rfl⟩:=List.getElem_of_mem ha;rw [List.getElem_take];rw [List.length_take] at hi;rw [h2 i (by omega) (by omega)];rfl
   rw [e];simp [h1]
 have hkw:IntKind.i64.wrap ((k:Int)+1)=(k:Int)+1:=IntWalk.i64_in _ (by omega);have hk1:¬ (k:Int) = -1:=by omega
 clear HR0;go_wp2
 go_loopw [5,6] (fun vi vj wr=>∃ (i j:Nat) (M:List (Nat × Nat)),i<j∧j≤n∧vi = .int .i64 i∧vj = .int .i64 j∧Bt f l M i j∧Dp w B g n M wr∧B≤wr.heap.size) (fun _ vj _=>n-(intOf vj).toNat)
 case atStart=>exact ⟨k,k+1,l,by omega,hk,rfl,by go_num,HM0.out,HD1.out,hB1⟩
 case round =>
  clear HM0 HD1 hB1 hkw hk1 hk;obtain ⟨i,j,M,hij,hj,rfl,rfl,hdm,hdp,hBr⟩:=hrel;obtain ⟨wo,rfl⟩:∃ wo:World,wo=wr:=⟨_,rfl⟩;have HDM:=hid hdm;have HDP:=hid hdp;have hml:=hdp.ln
  by_cases hlt:j<n
  ·have hjl : j < l.length := by rw [← HN.out]; exact hlt
   have hMl:M.length=l.length:=by rw [hml];exact HN.out
   obtain ⟨x,hx⟩:∃ x,x=l[j]:=⟨_,rfl⟩;have hxM:x=M[j]'(by omega):=by rw [hx];exact (Nr hdm hMl hjl).symm
   obtain ⟨d0,d1⟩:=hdp.cl.pairK (by omega) hxM;rw [Nat.zero_add] at d0 d1;have hlt':(j:Int)<(n:Int):=by omega
   have hi':(i:Int)<(n:Int):=by omega
   have hwj:IntKind.i64.wrap ((j:Int)+1)=(j:Int)+1:=IntWalk.i64_in _ (by omega);have hwi:IntKind.i64.wrap ((i:Int)+1)=(i:Int)+1:=IntWalk.i64_in _ (by omega);obtain ⟨gv,hgv⟩:∃ g,g=wo.heap.size:=⟨_,rfl⟩;obtain ⟨wv,hwv⟩:∃ w',w'=wo.alloc (.cells #[.int .i64 (x.1:Nat),.int .i64 (x.2:Nat)] 72):=⟨_,rfl⟩;have hbv:Below wo.heap.size wo wv:=by rw [hwv];go_grown
   have HDV:Hid (Dp w B g n M wv):=hdp.keep hbv hBr;have hBv:B≤wv.heap.size:=Nat.le_trans hBr hbv.size;have v0:wv.cell? ⟨gv,0,none⟩=some (.int .i64 (x.1:Nat)):=by rw [hwv,hgv];go_simp
   have v1:wv.cell? ⟨gv,1,none⟩=some (.int .i64 (x.2:Nat)):=by rw [hwv,hgv];go_simp
   have HCL:=hid (HG.out x (by rw [hx];exact List.getElem_mem hjl) wv HDV.out.bel);have hgg:g<gv:=by have:=hdp.cl.lt;omega
   have HST:Hid (f x=true→Bt f l M i (j+1)):=fun h=>Ih HDM.out hMl hjl (by rw [← hx];exact h)
   have HKT:Hid (f x=false→Bt f l (M.set i x) (i+1) (j+1)):=fun h=>by rw [hx];exact Ir HDM.out hMl hjl (by rw [← hx];exact h)
   have him:i<M.length:=by omega
   have hgl:=hdp.cl.lt;clear hdm hdp hx hxM HDM HDP hbv hjl hMl;generalize f x=fx at *
   go_upto_region 8 with fail
   rw [← hwv,← hgv];clear hwv hgv d0 d1 hgl
   go_wp2_with fail
   refine HCL.out.mono ?_;rintro e w5 ⟨rfl,hb5⟩;have HD5:Hid (Dp w B g n M w5):=HDV.out.keep hb5 hBv;have hB5:B≤w5.heap.size:=Nat.le_trans hBv hb5.size;replace v0:=keepCell hb5 v0;replace v1:=keepCell hb5 v1;clear HDV HCL hb5 hBv
   cases fx with
   | true =>
    have HM2:=hid (HST.out rfl);clear HST HKT v0 v1;go_wp2;go_roundw
    case rel=>exact ⟨_,_,_,_,_,_,_,_,_,_,_,_,_,_,_,_,_,_,_,_,_,_,_,⟨i,j+1,M,by omega,hlt,rfl,by go_num,HM2.out,HD5.out,hB5⟩,rfl⟩
    case measure=>simp [intOf];omega
   | false =>
    have HM2:=hid (HKT.out rfl);have HD6:=hid (HD5.out.set him x);have hcf:=HD5.out.cf;obtain ⟨y,hy⟩:∃ y,y=M[i]:=⟨_,rfl⟩;obtain ⟨u0,u1⟩:=HD5.out.cl.pairK him hy;rw [Nat.zero_add] at u0 u1;clear HST HKT HD5 hy;go_wp2;go_roundw
    case rel=>exact ⟨_,_,_,_,_,_,_,_,_,_,_,_,_,_,_,_,_,_,_,_,_,_,_,⟨i+1,j+1,M.set i x,by omega,hlt,by go_num,by go_num,HM2.out,HD6.out,by simpa using hB5⟩,rfl⟩
    case measure=>simp [intOf];omega
  ·have hjn : j = n := by omega
   subst hjn;have hi':(i:Int)≤(j:Int):=by omega
   have hi0:(0:Int)≤(i:Int):=by omega
   have hcr:∀ ty:TypeId,(Builtin.clear_ #[67] ty #[.slice (some ⟨g,i*2,none⟩) (j-i) (cap-i)]).run Tryz.prog wo = .ok (.tuple #[]) (wo.setCells g (i*2) (List.replicate ((j-i)*2) (.int .i64 0))):=fun ty=>by
    refine vU wo ty g (i*2) (j-i) (cap-i) (by omega) (fun t ht=>?_) (fun t ht=>hdp.cf _);obtain ⟨q,r,hq,hr⟩:∃ q r:Nat,r<2∧t=q*2+r:=⟨t / 2,t % 2,by omega,by omega⟩;obtain ⟨u0,u1⟩:=hdp.cl.pairK (i:=i+q) (by omega) rfl;have e:r=0∨r=1:=by omega
    rcases e with rfl | rfl
    ·rw [show i*2+t=0+(i+q)*2 by omega,u0];rfl
    ·rw [show i*2+t=0+(i+q)*2+1 by omega,u1];rfl
   obtain ⟨wz,hwz⟩:∃ wz,wz=wo.setCells g (i*2) (List.replicate ((j-i)*2) (.int .i64 0)):=⟨_,rfl⟩
   have HR:Hid (∃ A m c,Ending.returned (.slice (some ⟨g,0,none⟩) i cap) = .returned (.slice A m c)∧dW bW wz A m c (l.filter fun p => !f p)∧Below B w wz):=by
    have e:l.filter (fun p => !f p)=M.take i:=by rw [hdm.1,HN.out,List.take_length]
    rw [e];have hsz:(wo.setCells g (i*2) (List.replicate ((j-i)*2) (.int .i64 0))).heap.size=wo.heap.size:=qj _ _ _ _;refine ⟨_,_,_,rfl,⟨by rw [List.length_take];omega,by omega,hm,fun _=>⟨g,0,rfl,by rw [hwz,hsz];exact hdp.cl.lt,fun a ha b v hv=>?_⟩⟩,?_⟩
    ·rw [List.length_take] at ha;rw [List.getElem_take] at hv
     have hb2:b<2:=by
      rcases Nat.lt_or_ge b 2 with q | q
      ·exact q
      ·rw [List.getElem?_eq_none (show (bW.enc M[a]).length≤b from q)] at hv;cases hv
     rw [hwz,World.cell?_setCells_out]
     ·exact hdp.cl.at_ a (by omega) b v hv
     ·intro _ _
      left
      show 0+a*2+b<i*2;omega
    ·rw [hwz];exact below_setCells hdp.lo _ _ hdp.bel
   rw [← hwz] at hcr;clear hdm hdp HDM HDP hwz hml HN HG;go_wp2;refine bodyPost_ret (v:=.slice (some ⟨g,0,none⟩) i cap) (by simp [results,Tryz.results82,go_sem]) rfl HR.out
def Ns (l m:List V) (i k:Nat):Int:=eX l i*(px l i-px m k)+eZ l i*(py l i-py m k)
def jN (l m : List V) (i : Nat) : Nat → Int
 | 0=>Ns l m i 0
 | k+1=>if Ns l m i (k+1) > jN l m i k then Ns l m i (k+1) else jN l m i k
def jC (l m:List V) (i:Nat):Int:=jN l m i (m.length-1)
theorem Kq {l m:List V} (hw:aP 65536000 l=true) (hm:aP 65536000 m=true) {i k:Nat} (hi:i<l.length) (hk:k<m.length) : -34359738368000000≤Ns l m i k∧Ns l m i k≤34359738368000000:=by
 obtain ⟨n1,n2⟩:=oC hw hi;have h1:=aD.1 (aQ hw hi);have h2:=aD.1 (aQ hm hk);have a:=dh (x:=eX l i) (y:=px l i-px m k) (M:=131072000) (N:=131072000) (by omega) (by omega) (by omega) (by omega);have b:=dh (x:=eZ l i) (y:=py l i-py m k) (M:=131072000) (N:=131072000) (by omega) (by omega) (by omega) (by omega);unfold Ns;omega
theorem IX {l m:List V} (hw:aP 65536000 l=true) (hm:aP 65536000 m=true) {i:Nat} (hi:i<l.length):∀ k,k<m.length → -34359738368000000≤jN l m i k∧jN l m i k≤34359738368000000:=by
 intro k
 induction k with
 | zero=>intro hk;exact Kq hw hm hi hk
 | succ k ih =>
  intro hk;have h1:=ih (by omega);have h2:=Kq hw hm hi hk;unfold jN
  split <;> omega
theorem EF (A B:Option Addr) (n c n' c':Nat) (l m:List V) (i:Nat) (w:World) (hS:Sl w A n c l) (hM:Sl w B n' c' m) (hw:aP 65536000 l=true) (h3:3≤l.length) (h8:l.length≤8) (hi:i<l.length) (hmw:aP 65536000 m=true) (hm0:0<m.length) (hm8:m.length≤8) :
  Calls Tryz.prog 220 #[.slice A n c,.slice B n' c',.int .i64 i] w (dG (.int .i64 (jC l m i)) w):=by
 have HSL:=hid hS;have HSM:=hid hM;have hn:=hS.len;have hn':=hM.len;subst hn hn';have HW:=hid hw;have HMW:=hid hmw;clear hS hM;have hlt':(i:Int)<(l.length:Int):=by omega
 obtain ⟨bn1,bn2⟩:=oC hw hi;obtain ⟨n1,hn1⟩:∃ z,z=eX l i:=⟨_,rfl⟩;obtain ⟨n2,hn2⟩:∃ z,z=eZ l i:=⟨_,rfl⟩;rw [← hn1] at bn1;rw [← hn2] at bn2;have HN:=hid (jH A l.length c l i w HSL.out hw h3 h8 hi);rw [← hn1,← hn2] at HN;have HN1:=hid hn1;have HN2:=hid hn2;clear hw hmw hn1 hn2
 go_enter Tryz.func220,Tryz.ntmps220
 go_wp2_with fail
 refine HN.out.mono ?_;rintro e w1 ⟨rfl,hb1⟩;obtain ⟨gn,hgn⟩:∃ g,g=w1.heap.size:=⟨_,rfl⟩;obtain ⟨w2,hw2⟩:∃ w2,w2=w1.alloc (.cells #[.int .i64 n1,.int .i64 n2] 24):=⟨_,rfl⟩;have r1:w2.cell? ⟨gn,0,none⟩=some (.int .i64 n1):=by rw [hw2,hgn];go_simp
 have r2:w2.cell? ⟨gn,1,none⟩=some (.int .i64 n2):=by rw [hw2,hgn];go_simp
 have hB2:Below w.heap.size w w2:=by rw [hw2];exact hb1.alloc hb1.size _
 have hgw:w.heap.size≤gn:=by rw [hgn];exact hb1.size
 clear HN hb1
 go_upto_region 2 with fail
 rw [← hw2,← hgn];clear hw2 hgn;go_wp2
 go_loopw [8,17] (fun s j wr=>∃ k:Nat,k≤m.length∧j = .int .i64 k∧(∃ z:Int,s = .int .i64 z∧(k=0∨z=jN l m i (k-1)))∧Below w2.heap.size w2 wr) (fun _ j _=>m.length-(intOf j).toNat)
 case atStart=>exact ⟨0,Nat.zero_le _,rfl,⟨0,rfl,.inl rfl⟩,Below.refl _ _⟩
 case round =>
  obtain ⟨k,hk,rfl,⟨z,rfl,hz⟩,hB⟩:=hrel;obtain ⟨wo,rfl⟩:∃ wo:World,wo=wr:=⟨_,rfl⟩;have hBw:=aj hB hB2
  by_cases hlt:k<m.length
  ·obtain ⟨ba, off, hA, hC⟩ := (HSL.out.below hBw).at_ (by intro h; subst h; simp at hi);obtain ⟨bb,off2,hA2,hC2⟩:=(HSM.out.below hBw).at_ (by intro h;subst h;simp at hlt);subst hA hA2;have hxi:=hC.x i hi;have hyi:=hC.y i hi;have hxk:=hC2.x k hlt;have hyk:=hC2.y k hlt;have hbo1:=hC.lt;have hbo2:=hC2.lt;have g1:=keepCell hB r1;have g2:=keepCell hB r2;have hgl:=lt_of_cell g1;obtain ⟨a1,a2,a3,a4⟩:=aD.1 (aQ HW.out hi);obtain ⟨b1,b2,b3,b4⟩:=aD.1 (aQ HMW.out hlt);obtain ⟨d,hd⟩:∃ d,d=n1*(px l i-px m k)+n2*(py l i-py m k):=⟨_,rfl⟩;have HD:Hid (Ns l m i k=d):=by show _=_;unfold Ns;rw [hd,HN1.out,HN2.out]
   have m1:=dh (x:=n1) (y:=px l i-px m k) (M:=131072000) (N:=131072000) (by omega) (by omega) (by omega) (by omega);have m2:=dh (x:=n2) (y:=py l i-py m k) (M:=131072000) (N:=131072000) (by omega) (by omega) (by omega) (by omega);have v1:IntKind.i64.wrap (px l i-px m k)=px l i-px m k:=IntWalk.i64_in _ (by omega);have v2:IntKind.i64.wrap (py l i-py m k)=py l i-py m k:=IntWalk.i64_in _ (by omega);have v3:IntKind.i64.wrap (n1*(px l i-px m k))=n1*(px l i-px m k):=IntWalk.i64_in _ (by omega);have v4:IntKind.i64.wrap (n2*(py l i-py m k))=n2*(py l i-py m k):=IntWalk.i64_in _ (by omega);have v5:IntKind.i64.wrap (n1*(px l i-px m k)+n2*(py l i-py m k))=d:=by rw [← hd];exact IntWalk.i64_in _ (by omega)
   have HZ:=hid hz;generalize px l i=x1 at *
   generalize py l i=y1 at *
   generalize px m k=x2 at *
   generalize py m k=y2 at *
   clear hd hz m1 m2 hC hC2 r1 r2
   by_cases hgt:k=0∨z<d
   ·have HS2:Hid (d=jN l m i (k+1-1)):=by
     show _=_;rw [Nat.add_sub_cancel]
     cases k with
     | zero=>rw [jN,HD.out]
     | succ k =>
      rcases HZ.out with h | h
      ·exact absurd h (by omega)
      ·rw [Nat.add_sub_cancel] at h;rw [jN,HD.out,← h,if_pos (by rcases hgt with g | g;exact absurd g (by omega);omega)]
    clear HZ HD
    by_cases hk0:k=0
    ·have e0 : ((k : Int) == 0) = true := by simp [hk0]
     clear hk0 hgt
     go_wp2_with fail
     go_quiet (fail)
     go_wp2;go_roundw
     case rel=>exact ⟨k+1,hlt,by go_num,⟨d,rfl,.inr HS2.out⟩,below_drewN' (hB.alloc hB.size _) _⟩
     case measure=>simp [intOf];omega
    ·have e0 : ((k : Int) == 0) = false := by simp [hk0]
     have hzd:z<d:=by rcases hgt with g | g;exact absurd g hk0;exact g
     clear hgt
     go_wp2_with fail
     go_quiet (fail)
     go_wp2;go_roundw
     case rel=>exact ⟨k+1,hlt,by go_num,⟨d,rfl,.inr HS2.out⟩,below_drewN' (hB.alloc hB.size _) _⟩
     case measure=>simp [intOf];omega
   ·have hk0 : k ≠ 0 := fun h => hgt (.inl h)
    have hnl:¬ z<d:=fun h=>hgt (.inr h)
    have e0:((k:Int) == 0)=false:=by simp [hk0]
    have HS2:Hid (z=jN l m i (k+1-1)):=by
     show _=_;rw [Nat.add_sub_cancel]
     cases k with
     | zero=>exact absurd rfl hk0
     | succ k =>
      rcases HZ.out with h | h
      ·exact absurd h (by omega)
      ·rw [Nat.add_sub_cancel] at h;rw [jN,HD.out,← h,if_neg (by omega)]
    clear HZ HD hgt
    go_wp2_with fail
    go_quiet (fail)
    go_wp2;go_roundw
    case rel=>exact ⟨k+1,hlt,by go_num,⟨z,rfl,.inr HS2.out⟩,below_drewN' (hB.alloc hB.size _) _⟩
    case measure=>simp [intOf];omega
  ·have hke : k = m.length := by omega
   have HR:Hid (jC l m i=z):=by
    show _=_;unfold jC
    rcases hz with h | h
    ·omega
    ·rw [h,hke]
   clear hz r1 r2;go_wp2
   go_returns
   exact aB HR.out.symm hBw

def jl (l m:List V):Int:=if bH l≠0 then bH l else bH m
theorem Gl (A B:Option Addr) (n c n' c':Nat) (l m:List V) (w:World) (hS:Sl w A n c l) (hM:Sl w B n' c' m):Calls Tryz.prog 219 #[.slice A n c,.slice B n' c'] w (dG (.int .i64 (jl l m)) w):=by
 have HS:=hid hS;have HM:=hid hM;clear hS hM
 go_enter Tryz.func219,Tryz.ntmps219
 go_wp2_with fail
 refine (fO A n c l _ HS.out).mono ?_;rintro e w1 ⟨rfl,hb1⟩
 by_cases hE:bH l=0
 ·have HR : Hid (jl l m = bH m) := by show _ = _; unfold jl; rw [if_neg (by simp [hE])]
  rw [hE];clear hE
  go_wp2_with fail
  refine (fO B n' c' m _ (HM.out.below hb1)).mono ?_;rintro e w2 ⟨rfl,hb2⟩;have hB2:=aj hb2 hb1;clear hb1 hb2;go_wp2
  go_returns
  exact aB HR.out.symm hB2
 ·have hne : (bH l != 0) = true := by simp [hE]
  have HR:Hid (jl l m=bH l):=by show _=_;unfold jl;rw [if_pos hE]
  clear hE;go_wp2
  go_returns
  exact aB HR.out.symm hb1
def bk (M:Int) (k:Nat):Int:=M / 2 ^ k % 2




theorem iU.fresh {g:Nat} {t:TypeId} (hg:g=w.heap.size):iU (w.alloc (.cells #[.int .u32 0,.int .u32 0,.int .u32 0,.int .u32 0,.int .u32 0,.int .u32 0,.int .u32 0,.int .u32 0] t)) g (fun _=>0):=by
 subst hg;exact iU.here w t (fun _=>0)
theorem iU.lit {g:Nat} {o:Nat→Int} {t:TypeId} (hg:g=w.heap.size):iU (w.alloc (.cells #[.int .u32 (o 0),.int .u32 (o 1),.int .u32 (o 2),.int .u32 (o 3),.int .u32 (o 4),.int .u32 (o 5),.int .u32 (o 6),.int .u32 (o 7)] t)) g o:=by
 subst hg;exact iU.here w t o
def lT (l:List V) (i:Nat) (p q:Int):Int:=eX l i*(px l i-p)+eZ l i*(py l i-q)
def yK (l:List V) (i:Nat) (p q:Int):Int:=cZ (lT l i p q) (fQ (eX l i) (eZ l i))
end
end Go.Proofs.YtokgmcomgflloaaGreat
