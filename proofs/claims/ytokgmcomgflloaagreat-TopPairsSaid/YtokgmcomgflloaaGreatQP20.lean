/- Parts of a proof: contracts and laws. -/
import Derived.Test.YtokgmcomgflloaaGreatQP11
import Derived.Test.YtokgmcomgflloaaGreatQP15
import Derived.Test.YtokgmcomgflloaaGreatQP01
import Derived.Test.YtokgmcomgflloaaGreatQP00
import Derived.Deep.RegionLaw
import Derived.Deep.RegionHeld3
import Derived.Deep.DeepCutAuto
import Derived.Laws.IdiomCopy
import Derived.Test.YtokgmcomgflloaaGreatQP02
import Derived.Test.YtokgmcomgflloaaGreatQP05
import Derived.Test.YtokgmcomgflloaaGreatQP07
import Derived.Test.YtokgmcomgflloaaGreatQP03
import Derived.Test.YtokgmcomgflloaaGreatQP09
import Derived.Test.YtokgmcomgflloaaGreatQP13
import Derived.Test.YtokgmcomgflloaaGreatQP12
import Derived.Test.YtokgmcomgflloaaGreatQP10
set_option maxRecDepth 100000
set_option maxHeartbeats 16000000
namespace Go.Proofs.YtokgmcomgflloaaGreat
section
set_option linter.unusedVariables false
set_option linter.unusedSimpArgs false
open Go.RowKit
variable {w0 w w':World}
theorem lW {g o o':Nat} {v u:Value} (h:w.cell? ⟨g,o',none⟩=some u) (hne:o≠o'):(w.setCell ⟨g,o,none⟩ v).cell? ⟨g,o',none⟩=some u:=by
 have n1:¬ o=o':=hne;have n2:¬ o'=o:=fun e=>hne e.symm
 go_simp
theorem Dk {g o:Nat} {v u:Value} (h:w.cell? ⟨g,o,none⟩=some u):(w.setCell ⟨g,o,none⟩ v).cell? ⟨g,o,none⟩=some v:=by go_simp
theorem aM.pairK {b off:Nat} {l:List (Nat × Nat)} {x:Nat × Nat} (h:aM aJ w b off l) {i:Nat} (hi:i<l.length) (hx:x=l[i]) :
  w.cell? ⟨b,off+i*2,none⟩=some (.int .i64 (x.1:Nat))∧w.cell? ⟨b,off+i*2+1,none⟩=some (.int .i64 (x.2:Nat)):=by
 subst hx;exact ⟨h.at_ i hi 0 _ rfl,h.at_ i hi 1 _ rfl⟩
theorem uI (F : Nat) (p1 : Value) (f : Nat × Nat → Bool) (hcf : ∀ (args : Array Value) (w : World), (callFunc F args).run Tryz.prog w = .ok (.enter F args) w) (A : Option Addr) (n c : Nat) (l : List (Nat × Nat)) (w : World) (hS : dN aJ w A n c l)
  (hG:∀ x,x ∈ l→∀ w',Below w.heap.size w w'→Calls Tryz.prog F #[.agg #[.int .i64 (x.1:Nat),.int .i64 (x.2:Nat)],p1] w' (dS (.bool (f x)) w')) :
  Calls Tryz.prog 142 #[.slice A n c,.func (.func F) #[] #[p1]] w fun e w'=>(∃ r:Int,e = .returned (.int .i64 r)∧((r = -1∧∀ i (hi:i<l.length),f l[i]=false)∨∃ k:Nat,r=k∧∃ hk:k<l.length,f l[k]=true∧∀ i (hi:i<l.length),i<k→f l[i]=false))∧Below w.heap.size w w':=by
 have hn:=hS.len;subst hn;have HS:=hid hS;have HG:=hid hG;have hbig:=Nat.le_trans hS.cap hS.big;clear hS hG
 go_enter Tryz.func142,Tryz.ntmps142
 go_wp2
 go_loopw [8] (fun j wr=>∃ k:Nat,k≤l.length∧j = .int .i64 k∧(∀ i (hi:i<l.length),i<k→f l[i]=false)∧Below w.heap.size w wr) (fun j _=>l.length-(intOf j).toNat)
 case atStart=>exact ⟨0,Nat.zero_le _,rfl,fun i _ h=>absurd h (Nat.not_lt_zero i),Below.refl _ _⟩
 case round =>
  obtain ⟨i,hi,rfl,hno,hB⟩:=hrel;have HNO:=hid hno;clear hno;obtain ⟨wo,rfl⟩:∃ wo:World,wo=wr:=⟨_,rfl⟩
  by_cases hlt:i<l.length
  ·have hlt' : (i : Int) < (l.length : Int) := by omega
   have hwk:IntKind.i64.wrap ((i:Int)+1)=(i:Int)+1:=IntWalk.i64_in _ (by omega);obtain ⟨b,off,rfl,hC⟩:=(HS.out.below hB).at_ (by intro h;rw [h] at hlt;simp at hlt);obtain ⟨x,hx⟩:∃ x,x=l[i]:=⟨_,rfl⟩;obtain ⟨d0,d1⟩:=hC.pairK hlt hx;have hbl:=hC.lt;have HCL:=hid (HG.out x (by rw [hx];exact List.getElem_mem hlt) wo hB);have HX:Hid (f l[i]=f x):=by show _=_;rw [hx]
   generalize f x=fx at *
   clear hC hx
   go_wp2_with fail
   refine HCL.out.mono ?_;rintro e w5 ⟨rfl,hb5⟩;have hB5:=aj hb5 hB;clear hb5 HCL d0 d1 hbl hB
   cases fx with
   | true =>
    have HR:Hid ((∃ r:Int,(Ending.returned (.int .i64 (i:Int))) = .returned (.int .i64 r)∧((r = -1∧∀ i (hi:i<l.length),f l[i]=false)∨∃ k:Nat,r=k∧∃ hk:k<l.length,f l[k]=true∧∀ i (hi:i<l.length),i<k→f l[i]=false))∧Below w.heap.size w w5):=⟨⟨i,rfl,.inr ⟨i,rfl,hlt,HX.out,HNO.out⟩⟩,hB5⟩;clear HX HNO;go_wp2;refine bodyPost_ret (v:=.int .i64 i) (by simp [results,Tryz.results142,go_sem]) rfl HR.out
   | false =>
    have HN2:Hid (∀ j (hj:j<l.length),j<i+1→f l[j]=false):=fun j hj hji=>by
     rcases Nat.lt_or_ge j i with q | q
     ·exact HNO.out j hj q
     ·obtain rfl : j = i := by omega
      exact HX.out
    clear HX HNO;go_wp2;go_roundw
    case rel=>exact ⟨i+1,hlt,by go_num,HN2.out,hB5⟩
    case measure=>simp [intOf];omega
  ·have hie : i = l.length := by omega
   subst hie;have HR:Hid ((∃ r:Int,(Ending.returned (.int .i64 (-1))) = .returned (.int .i64 r)∧((r = -1∧∀ i (hi:i<l.length),f l[i]=false)∨∃ k:Nat,r=k∧∃ hk:k<l.length,f l[k]=true∧∀ i (hi:i<l.length),i<k→f l[i]=false))∧Below w.heap.size w wo):=⟨⟨-1,rfl,.inl ⟨rfl,fun i hi=>HNO.out i hi hi⟩⟩,hB⟩;clear HNO;go_wp2;refine bodyPost_ret (v:=.int .i64 (-1)) (by simp [results,Tryz.results142,go_sem]) rfl HR.out
theorem oD (b : Nat) : ∀ (vs : List Value) (o : Nat) (w : World), (w.setCells b o vs).heap.size = w.heap.size
 | [],_,_=>rfl
 | v :: r,o,w=>by rw [World.setCells,oD b r];simp
theorem below_setCells {B b : Nat} (hB : B ≤ b) : ∀ (vs : List Value) (o : Nat) {w0 w : World}, Below B w0 w → Below B w0 (w.setCells b o vs)
 | [],_,_,_,h=>h
 | v :: r,o,w0,w,h=>by
  rw [World.setCells]
  exact below_setCells hB r (o+1) (h.setCell (p:=⟨b,_,none⟩) hB _)

theorem uY (w : World) (ty : TypeId) (b o n c : Nat) (hn : 0 < n)
  (hc:∀ j,j<n*2→(w.cell? ⟨b,o+j,none⟩).isSome=true) (hf:∀ j,j<n*2→w.frozen? ⟨b,o+j,none⟩=false) :
  (Builtin.clear_ #[67] ty #[.slice (some ⟨b,o,none⟩) n c]).run Tryz.prog w = .ok (.tuple #[]) (w.setCells b o (List.replicate (n*2) (.int .i64 0))):=by
 have hzc:(Builtin.zeroCells #[.int .i64 0,.int .i64 0] n).toList=List.replicate (n*2) (.int .i64 0):=by
  simp [Builtin.zeroCells];apply List.ext_getElem
  ·simp
  ·intro i h1 h2;simp;have:i % 2=0∨i % 2=1:=by omega
   rcases this with e | e <;> simp [e]
 have hst:=run_storeCells_cells (P:=Tryz.prog) b o (List.replicate (n*2) (.int .i64 0)) 0 w (by simpa using hc) (by simpa using hf) (by intro v hv';rw [List.eq_of_mem_replicate hv'];rfl);simp only [Nat.add_zero] at hst;obtain ⟨m,rfl⟩:∃ m,n=m+1:=⟨n-1,by omega⟩;have hv:=Tryz.zeroValue72 w;have hz:(Value.agg #[.int .i64 0,.int .i64 0]).cells=#[.int .i64 0,.int .i64 0]:=by rfl
 simp [Builtin.clear_,run_underlying Tryz.underlying67,hv,hz,hzc,hst]

structure Dp (w0 : World) (B g n : Nat) (M : List (Nat × Nat)) (w : World) : Prop where
 cl:aM aJ w g 0 M
 cf:∀ j,w.frozen? ⟨g,j,none⟩=false
 bel:Below B w0 w
 lo:B≤g
 ln:M.length=n
theorem Dp.keep {B g n:Nat} {M:List (Nat × Nat)} {w w':World} (hb:Below w.heap.size w w') (h:Dp w0 B g n M w) (hB:B≤w.heap.size):Dp w0 B g n M w' :=
 ⟨h.cl.below hb,fun j=>((cO hb).2 _ _ h.cl.lt).trans (h.cf j),h.bel.trans (hb.mono hB),h.lo,h.ln⟩
theorem aM.setPair {g i:Nat} {M:List (Nat × Nat)} (h:aM aJ w g 0 M) (hi:i<M.length) (p:Nat × Nat):aM aJ ((w.setCell ⟨g,i*2,none⟩ (.int .i64 (p.1:Nat))).setCell ⟨g,i*2+1,none⟩ (.int .i64 (p.2:Nat))) g 0 (M.set i p):=by
 refine ⟨by simp;exact h.lt,fun j hj k u hu=>?_⟩;have hlen:∀ x:Nat × Nat,(aJ.enc x).length=2:=fun _=>rfl
 have hj':j<M.length:=by simpa using hj
 have h0:=h.at_ j hj' 0 _ (show (aJ.enc M[j])[0]? = some (.int .i64 (M[j].1:Nat)) from rfl);have h1:=h.at_ j hj' 1 _ (show (aJ.enc M[j])[1]? = some (.int .i64 (M[j].2:Nat)) from rfl);rw [show aJ.k=2 from rfl,Nat.zero_add] at h0 h1;have h0:w.cell? ⟨g,j*2,none⟩=_:=h0;show ((w.setCell ⟨g,i*2,none⟩ (.int .i64 (p.1:Nat))).setCell ⟨g,i*2+1,none⟩ (.int .i64 (p.2:Nat))).cell? ⟨g,0+j*2+k,none⟩=some u;rw [Nat.zero_add]
 have hk:k<2:=by
  rcases Nat.lt_or_ge k 2 with q | q
  ·exact q
  ·rw [List.getElem?_eq_none (by rw [hlen];exact q)] at hu;cases hu
 by_cases e:j=i
 ·subst e;rw [List.getElem_set_self] at hu
  match k,hk,hu with
  | 0,_,hu =>
   have hu:some (Value.int .i64 (p.1:Nat))=some u:=hu
   cases hu
   exact lW (Dk h0) (by omega)
  | 1,_,hu =>
   have hu:some (Value.int .i64 (p.2:Nat))=some u:=hu
   cases hu
   exact Dk (lW h1 (by omega))
 ·rw [List.getElem_set_ne (by omega)] at hu
  match k,hk,hu with
  | 0,_,hu =>
   have hu:some (Value.int .i64 (M[j].1:Nat))=some u:=hu
   cases hu
   exact lW (lW h0 (by omega)) (by omega)
  | 1,_,hu =>
   have hu:some (Value.int .i64 (M[j].2:Nat))=some u:=hu
   cases hu
   exact lW (lW h1 (by omega)) (by omega)
theorem Dp.set {B g n i:Nat} {M:List (Nat × Nat)} {w:World} (h:Dp w0 B g n M w) (hi:i<M.length) (p:Nat × Nat) :
  Dp w0 B g n (M.set i p) ((w.setCell ⟨g,i*2,none⟩ (.int .i64 (p.1:Nat))).setCell ⟨g,i*2+1,none⟩ (.int .i64 (p.2:Nat))) :=
 ⟨h.cl.setPair hi p,fun j=>by rw [World.frozen?_setCell,World.frozen?_setCell];exact h.cf j,(h.bel.setCell (p:=⟨g,_,none⟩) h.lo _).setCell (p:=⟨g,_,none⟩) h.lo _,h.lo,by rw [List.length_set];exact h.ln⟩

def Au (f:Nat × Nat→Bool) (l M:List (Nat × Nat)) (i j:Nat):Prop:=M.take i=(l.take j).filter (fun p => !f p)∧M.drop j=l.drop j∧i≤j
theorem OT {f:Nat × Nat→Bool} {l M:List (Nat × Nat)} {i j:Nat} (h:Au f l M i j) (hl:M.length=l.length) (hj:j<l.length):M[j]'(by omega)=l[j]:=by
 have e1:(M.drop j)[0]'(by rw [List.length_drop];omega)=M[j]'(by omega):=by simp
 have e2:(l.drop j)[0]'(by rw [List.length_drop];omega)=l[j]:=by simp
 rw [← e1,← e2];simp only [h.2.1]
theorem Jj {f:Nat × Nat→Bool} {l M:List (Nat × Nat)} {i j:Nat} (h:Au f l M i j) (hl:M.length=l.length) (hj:j<l.length) (hf:f l[j]=true):Au f l M i (j+1):=by
 obtain ⟨h1,h2,h3⟩:=h;refine ⟨?_,?_,by omega⟩
 ·rw [h1, List.take_succ_eq_append_getElem hj, List.filter_append];simp [hf]
 ·have : (M.drop j).drop 1 = (l.drop j).drop 1 := by rw [h2]
  simpa [List.drop_drop] using this
theorem II {f:Nat × Nat→Bool} {l M:List (Nat × Nat)} {i j:Nat} (h:Au f l M i j) (hl:M.length=l.length) (hj:j<l.length) (hf:f l[j]=false):Au f l (M.set i l[j]) (i+1) (j+1):=by
 obtain ⟨h1,h2,h3⟩:=h;refine ⟨?_,?_,by omega⟩
 ·rw [List.take_succ_eq_append_getElem (by rw [List.length_set]; omega), List.getElem_set_self, List.take_set_of_le (by omega), h1, List.take_succ_eq_append_getElem hj, List.filter_append];simp [hf]
 ·rw [List.drop_set_of_lt (by omega)];have:(M.drop j).drop 1=(l.drop j).drop 1:=by rw [h2]
  simpa [List.drop_drop] using this

theorem Dz (F : Nat) (p1 : Value) (f : Nat × Nat → Bool) (hcf : ∀ (args : Array Value) (w : World), (callFunc F args).run Tryz.prog w = .ok (.enter F args) w) (s : Value) (l : List (Nat × Nat)) (B : Nat) (w : World) (hs : aN aJ 72 w B s l) (hB : B ≤ w.heap.size) (hl : l.length ≤ 1000000)
  (hG:∀ x,x ∈ l→∀ w',Below B w w'→Calls Tryz.prog F #[.agg #[.int .i64 (x.1:Nat),.int .i64 (x.2:Nat)],p1] w' (dS (.bool (f x)) w')) :
  Calls Tryz.prog 82 #[s,.func (.func F) #[] #[p1]] w fun e w'=>∃ A n c,e = .returned (.slice A n c)∧dN aJ w' A n c (l.filter fun p => !f p)∧Below B w w':=by
 have HG:=hid hG
 rcases hs.form with ⟨rfl,h0⟩ | ⟨g,cap,rfl,hBg,hg,hn,hm,hf,hcl⟩
 ·subst h0;have HI:=hid (uI F p1 f hcf none 0 0 [] w (dN.nil _ _) (fun x hx w' hb=>hG x hx w' (hb.mono hB)));clear hG hs
  go_enter Tryz.func82,Tryz.ntmps82
  go_wp2_with fail
  refine HI.out.mono ?_;rintro e w1 ⟨⟨r,rfl,hr⟩,hb⟩
  have hr1:r = -1:=by
   rcases hr with ⟨h,-⟩ | ⟨k,-,hk,-⟩
   ·exact h
   ·simp at hk
  subst hr1;have HR:Hid (∃ A n c,Ending.returned (.slice none 0 0) = .returned (.slice A n c)∧dN aJ w1 A n c (([]:List (Nat × Nat)).filter fun p => !f p)∧Below B w w1):=⟨none,0,0,rfl,dN.nil _ _,hb.mono hB⟩;clear hr HI HG hb;go_wp2;refine bodyPost_ret (v:=.slice none 0 0) (by simp [results,Tryz.results82,go_sem]) rfl HR.out
 obtain ⟨n,hn'⟩:∃ n,n=l.length:=⟨_,rfl⟩;have HD0:Hid (Dp w B g n l w):=⟨hcl,hf,Below.refl _ _,hBg,hn'.symm⟩;have hnl:n≤1000000:=by omega
 have hnc:n≤cap:=by omega
 have HN:=hid hn';have HI:=hid (uI F p1 f hcf (some ⟨g,0,none⟩) n cap l w ⟨hn',hnc,hm,fun _=>⟨g,0,rfl,hcl⟩⟩ (fun x hx w' hb=>hG x hx w' (hb.mono hB)));rw [← hn'];clear hG hs hBg hg hn hf hcl hn'
 go_enter Tryz.func82,Tryz.ntmps82
 go_wp2_with fail
 refine HI.out.mono ?_;rintro e w1 ⟨⟨r,rfl,hr⟩,hb⟩;clear HI;have HR0:=hid hr;have HD1:Hid (Dp w B g n l w1):=HD0.out.keep hb hB;have hB1:B≤w1.heap.size:=Nat.le_trans hB hb.size
 have hr2:r = -1∨∃ k:Nat,r=k∧k<n:=by
  rcases hr with ⟨h,-⟩ | ⟨k,h,hk,-⟩
  ·exact .inl h
  ·exact .inr ⟨k,h,by have:=HN.out;omega⟩
 clear hr HD0 hb
 rcases hr2 with rfl | ⟨k,rfl,hk⟩
 ·have HR:Hid (∃ A m c,Ending.returned (.slice (some ⟨g,0,none⟩) n cap) = .returned (.slice A m c)∧dN aJ w1 A m c (l.filter fun p => !f p)∧Below B w w1):=by
   have e:l.filter (fun p => !f p)=l:=by
    rw [List.filter_eq_self];intro a ha;obtain ⟨i,hi,rfl⟩:=List.getElem_of_mem ha
    rcases HR0.out with ⟨-,h⟩ | ⟨k,h,-⟩
    ·rw [h i hi];rfl
    ·omega
   rw [e];exact ⟨_,_,_,rfl,⟨HD1.out.ln.symm,hnc,hm,fun _=>⟨g,0,rfl,HD1.out.cl⟩⟩,HD1.out.bel⟩
  clear HR0 HD1 HG HN;go_wp2;refine bodyPost_ret (v:=.slice (some ⟨g,0,none⟩) n cap) (by simp [results,Tryz.results82,go_sem]) rfl HR.out
 have HM0:Hid (Au f l l k (k+1)):=by
  rcases HR0.out with ⟨h,-⟩ | ⟨k',h,hk',h1,h2⟩
  ·omega
  ·obtain rfl : k = k' := by omega
   refine ⟨?_,rfl,by omega⟩;rw [List.take_succ_eq_append_getElem hk',List.filter_append]
   have e:(l.take k).filter (fun p => !f p)=l.take k:=by
    rw [List.filter_eq_self];intro a ha;obtain ⟨i,hi,rfl⟩:=List.getElem_of_mem ha;rw [List.getElem_take];rw [List.length_take] at hi;rw [h2 i (by omega) (by omega)];rfl
   rw [e];simp [h1]
 have hkw:IntKind.i64.wrap ((k:Int)+1)=(k:Int)+1:=IntWalk.i64_in _ (by omega);have hk1:¬ (k:Int) = -1:=by omega
 clear HR0;go_wp2
 go_loopw [5,6] (fun vi vj wr=>∃ (i j:Nat) (M:List (Nat × Nat)),i<j∧j≤n∧vi = .int .i64 i∧vj = .int .i64 j∧Au f l M i j∧Dp w B g n M wr∧B≤wr.heap.size) (fun _ vj _=>n-(intOf vj).toNat)
 case atStart=>exact ⟨k,k+1,l,by omega,hk,rfl,by go_num,HM0.out,HD1.out,hB1⟩
 case round =>
  clear HM0 HD1 hB1 hkw hk1 hk;obtain ⟨i,j,M,hij,hj,rfl,rfl,hdm,hdp,hBr⟩:=hrel;obtain ⟨wo,rfl⟩:∃ wo:World,wo=wr:=⟨_,rfl⟩;have HDM:=hid hdm;have HDP:=hid hdp;have hml:=hdp.ln
  by_cases hlt:j<n
  ·have hjl : j < l.length := by rw [← HN.out]; exact hlt
   have hMl:M.length=l.length:=by rw [hml];exact HN.out
   obtain ⟨x,hx⟩:∃ x,x=l[j]:=⟨_,rfl⟩;have hxM:x=M[j]'(by omega):=by rw [hx];exact (OT hdm hMl hjl).symm
   obtain ⟨d0,d1⟩:=hdp.cl.pairK (by omega) hxM;rw [Nat.zero_add] at d0 d1;have hlt':(j:Int)<(n:Int):=by omega
   have hi':(i:Int)<(n:Int):=by omega
   have hwj:IntKind.i64.wrap ((j:Int)+1)=(j:Int)+1:=IntWalk.i64_in _ (by omega);have hwi:IntKind.i64.wrap ((i:Int)+1)=(i:Int)+1:=IntWalk.i64_in _ (by omega);obtain ⟨gv,hgv⟩:∃ g,g=wo.heap.size:=⟨_,rfl⟩;obtain ⟨wv,hwv⟩:∃ w',w'=wo.alloc (.cells #[.int .i64 (x.1:Nat),.int .i64 (x.2:Nat)] 72):=⟨_,rfl⟩;have hbv:Below wo.heap.size wo wv:=by rw [hwv];go_grown
   have HDV:Hid (Dp w B g n M wv):=hdp.keep hbv hBr;have hBv:B≤wv.heap.size:=Nat.le_trans hBr hbv.size;have v0:wv.cell? ⟨gv,0,none⟩=some (.int .i64 (x.1:Nat)):=by rw [hwv,hgv];go_simp
   have v1:wv.cell? ⟨gv,1,none⟩=some (.int .i64 (x.2:Nat)):=by rw [hwv,hgv];go_simp
   have HCL:=hid (HG.out x (by rw [hx];exact List.getElem_mem hjl) wv HDV.out.bel);have hgg:g<gv:=by have:=hdp.cl.lt;omega
   have HST:Hid (f x=true→Au f l M i (j+1)):=fun h=>Jj HDM.out hMl hjl (by rw [← hx];exact h)
   have HKT:Hid (f x=false→Au f l (M.set i x) (i+1) (j+1)):=fun h=>by rw [hx];exact II HDM.out hMl hjl (by rw [← hx];exact h)
   have him:i<M.length:=by omega
   have hgl:=hdp.cl.lt;clear hdm hdp hx hxM HDM HDP hbv hjl hMl;generalize f x=fx at *
   go_upto_region 8 with fail
   rw [← hwv,← hgv];clear hwv hgv d0 d1 hgl
   go_wp2_with fail
   refine HCL.out.mono ?_;rintro e w5 ⟨rfl,hb5⟩;have HD5:Hid (Dp w B g n M w5):=HDV.out.keep hb5 hBv;have hB5:B≤w5.heap.size:=Nat.le_trans hBv hb5.size;replace v0:=keepCell hb5 v0;replace v1:=keepCell hb5 v1;clear HDV HCL hb5 hBv
   cases fx with
   | true =>
    have HM2:=hid (HST.out rfl);clear HST HKT v0 v1;go_wp2;go_roundw
    case rel=>exact ⟨_,_,_,_,_,_,_,_,_,_,_,_,_,_,_,_,_,_,_,_,_,_,_,⟨i,j+1,M,by omega,hlt,rfl,by go_num,HM2.out,HD5.out,hB5⟩,rfl⟩
    case measure=>simp [intOf];omega
   | false =>
    have HM2:=hid (HKT.out rfl);have HD6:=hid (HD5.out.set him x);have hcf:=HD5.out.cf;obtain ⟨y,hy⟩:∃ y,y=M[i]:=⟨_,rfl⟩;obtain ⟨u0,u1⟩:=HD5.out.cl.pairK him hy;rw [Nat.zero_add] at u0 u1;clear HST HKT HD5 hy;go_wp2;go_roundw
    case rel=>exact ⟨_,_,_,_,_,_,_,_,_,_,_,_,_,_,_,_,_,_,_,_,_,_,_,⟨i+1,j+1,M.set i x,by omega,hlt,by go_num,by go_num,HM2.out,HD6.out,by simpa using hB5⟩,rfl⟩
    case measure=>simp [intOf];omega
  ·have hjn : j = n := by omega
   subst hjn;have hi':(i:Int)≤(j:Int):=by omega
   have hi0:(0:Int)≤(i:Int):=by omega
   have hcr:∀ ty:TypeId,(Builtin.clear_ #[67] ty #[.slice (some ⟨g,i*2,none⟩) (j-i) (cap-i)]).run Tryz.prog wo = .ok (.tuple #[]) (wo.setCells g (i*2) (List.replicate ((j-i)*2) (.int .i64 0))):=fun ty=>by
    refine uY wo ty g (i*2) (j-i) (cap-i) (by omega) (fun t ht=>?_) (fun t ht=>hdp.cf _);obtain ⟨q,r,hq,hr⟩:∃ q r:Nat,r<2∧t=q*2+r:=⟨t / 2,t % 2,by omega,by omega⟩;obtain ⟨u0,u1⟩:=hdp.cl.pairK (i:=i+q) (by omega) rfl;have e:r=0∨r=1:=by omega
    rcases e with rfl | rfl
    ·rw [show i*2+t=0+(i+q)*2 by omega,u0];rfl
    ·rw [show i*2+t=0+(i+q)*2+1 by omega,u1];rfl
   obtain ⟨wz,hwz⟩:∃ wz,wz=wo.setCells g (i*2) (List.replicate ((j-i)*2) (.int .i64 0)):=⟨_,rfl⟩
   have HR:Hid (∃ A m c,Ending.returned (.slice (some ⟨g,0,none⟩) i cap) = .returned (.slice A m c)∧dN aJ wz A m c (l.filter fun p => !f p)∧Below B w wz):=by
    have e:l.filter (fun p => !f p)=M.take i:=by rw [hdm.1,HN.out,List.take_length]
    rw [e];have hsz:(wo.setCells g (i*2) (List.replicate ((j-i)*2) (.int .i64 0))).heap.size=wo.heap.size:=oD _ _ _ _;refine ⟨_,_,_,rfl,⟨by rw [List.length_take];omega,by omega,hm,fun _=>⟨g,0,rfl,by rw [hwz,hsz];exact hdp.cl.lt,fun a ha b v hv=>?_⟩⟩,?_⟩
    ·rw [List.length_take] at ha;rw [List.getElem_take] at hv
     have hb2:b<2:=by
      rcases Nat.lt_or_ge b 2 with q | q
      ·exact q
      ·rw [List.getElem?_eq_none (show (aJ.enc M[a]).length≤b from q)] at hv;cases hv
     rw [hwz,World.cell?_setCells_out]
     ·exact hdp.cl.at_ a (by omega) b v hv
     ·intro _ _
      left
      show 0+a*2+b<i*2;omega
    ·rw [hwz];exact below_setCells hdp.lo _ _ hdp.bel
   rw [← hwz] at hcr;clear hdm hdp HDM HDP hwz hml HN HG;go_wp2;refine bodyPost_ret (v:=.slice (some ⟨g,0,none⟩) i cap) (by simp [results,Tryz.results82,go_sem]) rfl HR.out
def iY (l m:List V):Int:=if aP l≠0 then aP l else aP m
def bk (M:Int) (k:Nat):Int:=M / 2 ^ k % 2




theorem iV.fresh {g:Nat} {t:TypeId} (hg:g=w.heap.size):iV (w.alloc (.cells #[.int .u32 0,.int .u32 0,.int .u32 0,.int .u32 0,.int .u32 0,.int .u32 0,.int .u32 0,.int .u32 0] t)) g (fun _=>0):=by
 subst hg;exact iV.here w t (fun _=>0)
theorem iV.lit {g:Nat} {o:Nat→Int} {t:TypeId} (hg:g=w.heap.size):iV (w.alloc (.cells #[.int .u32 (o 0),.int .u32 (o 1),.int .u32 (o 2),.int .u32 (o 3),.int .u32 (o 4),.int .u32 (o 5),.int .u32 (o 6),.int .u32 (o 7)] t)) g o:=by
 subst hg;exact iV.here w t o
abbrev Ax:=Bool × Nat × Int
def R7 (s:Option Ax):Bool:=match s with | none=>false | some a=>a.1
def Sm (s:Option Ax):Nat:=match s with | none=>0 | some a=>a.2.1
def TD (s:Option Ax):Int:=match s with | none=>0 | some a=>a.2.2

structure mH (w : World) (g : Nat) (s : Option Ax) : Prop where
 c0:w.cell? ⟨g,0,none⟩=some (.bool (R7 s))
 c1:w.cell? ⟨g,1,none⟩=some (.int .i64 (Sm s))
 c2:w.cell? ⟨g,2,none⟩=some (.int .i64 (TD s))
 free:∀ j,w.frozen? ⟨g,j,none⟩=false
theorem Lu {g:Nat} {s:Option Ax} (hb:Below w.heap.size w w') (h:mH w g s):mH w' g s :=
 ⟨keepCell hb h.c0,keepCell hb h.c1,keepCell hb h.c2,fun j=>((cO hb).2 _ _ (lt_of_cell h.c0)).trans (h.free j)⟩
theorem mH.lt {g:Nat} {s:Option Ax} (h:mH w g s):g<w.heap.size:=lt_of_cell h.c0
theorem mH.here (w:World) (t:TypeId):mH (w.alloc (.cells #[.bool false,.int .i64 0,.int .i64 0] t)) w.heap.size none:=⟨by go_simp;rfl,by go_simp;rfl,by go_simp;rfl,fun j=>by go_simp⟩
theorem mH.away {g:Nat} {s:Option Ax} (h:mH w g s) (k o:Nat) (v:Value) (hne:k≠g):mH (w.setCell ⟨k,o,none⟩ v) g s :=
 ⟨aZ hne h.c0,aZ hne h.c1,aZ hne h.c2,fun j=>by rw [World.frozen?_setCell];exact h.free j⟩
def EF (w:World) (g:Nat) (s:Option Ax):World:=((w.setCell ⟨g,0,none⟩ (.bool (R7 s))).setCell ⟨g,1,none⟩ (.int .i64 (Sm s))).setCell ⟨g,2,none⟩ (.int .i64 (TD s))
theorem mH.set {g:Nat} {s:Option Ax} (h:mH w g s) (t:Option Ax):mH (EF w g t) g t:=by
 obtain ⟨h0,h1,h2,hf⟩:=h;unfold EF;exact ⟨by go_simp,by go_simp,by go_simp,fun j=>by go_simp⟩
theorem mH.setO {g k:Nat} {s:Option Ax} (h:mH w g s) (t:Option Ax) (hne:k≠g):mH (EF w k t) g s:=((h.away k _ _ hne).away k _ _ hne).away k _ _ hne

structure LW (w0 : World) (gB : Nat) (l m : List V) (A B : Option Addr) (c c' : Nat) (s : Option Ax) (w : World) : Prop where
 r:mH w w0.heap.size none
 b:mH w gB s
 d0:w.cell? ⟨gB+1,0,none⟩=some (.slice A l.length c)
 d1:w.cell? ⟨gB+1,1,none⟩=some (.slice B m.length c')
 d2:w.cell? ⟨gB+1,2,none⟩=some (.slice B m.length c')
 d3:w.cell? ⟨gB+1,3,none⟩=some (.slice A l.length c)
 bel:Below w0.heap.size w0 w
 le:w0.heap.size<gB
theorem LW.keep {gB:Nat} {l m:List V} {A B:Option Addr} {c c':Nat} {s:Option Ax} {w w':World} (hb:Below w.heap.size w w') (h:LW w0 gB l m A B c c' s w):LW w0 gB l m A B c c' s w' :=
 ⟨Lu hb h.r,Lu hb h.b,keepCell hb h.d0,keepCell hb h.d1,keepCell hb h.d2,keepCell hb h.d3,aj hb h.bel,h.le⟩
theorem LW.drew {gB:Nat} {l m:List V} {A B:Option Addr} {c c':Nat} {s:Option Ax} {w:World} (h:LW w0 gB l m A B c c' s w):LW w0 gB l m A B c c' s w.drew:=h.keep (Below.refl _ _).drew
theorem LW.set {gB:Nat} {l m:List V} {A B:Option Addr} {c c':Nat} {s:Option Ax} {w:World} (h:LW w0 gB l m A B c c' s w) (t:Option Ax):LW w0 gB l m A B c c' t (EF w gB t):=by
 have e:∀ o v,w.cell? ⟨gB+1,o,none⟩=some v→(EF w gB t).cell? ⟨gB+1,o,none⟩=some v:=fun o v hv=>aZ (by omega) (aZ (by omega) (aZ (by omega) hv))
 have hle:=h.le;exact ⟨h.r.setO t (by omega),h.b.set t,e _ _ h.d0,e _ _ h.d1,e _ _ h.d2,e _ _ h.d3,((h.bel.setCell (p:=⟨gB,0,none⟩) (Nat.le_of_lt hle) _).setCell (p:=⟨gB,1,none⟩) (Nat.le_of_lt hle) _).setCell (p:=⟨gB,2,none⟩) (Nat.le_of_lt hle) _,hle⟩
theorem mH.drew {g:Nat} {s:Option Ax} (h:mH w g s):mH w.drew g s:=⟨h.c0,h.c1,h.c2,h.free⟩
section
variable {w0 w w':World}
variable {l m:List V} {u v:Int}
theorem GA {a b:List V}:iY a b=0↔aP a=0∧aP b=0:=by
 unfold iY
 split <;> omega
end







def rD (s:Option Ax):Int:=match s with | none => -1 | some a=>a.2.2
structure Jb (w : World) (g : Nat) (s : Bool) (e d : Int) : Prop where
 c0:w.cell? ⟨g,0,none⟩=some (.bool s)
 c1:w.cell? ⟨g,1,none⟩=some (.int .i64 e)
 c2:w.cell? ⟨g,2,none⟩=some (.int .i64 d)
 free:∀ j,w.frozen? ⟨g,j,none⟩=false
theorem Jb.keep {g:Nat} {s:Bool} {e d:Int} (hb:Below w.heap.size w w') (h:Jb w g s e d):Jb w' g s e d :=
 ⟨keepCell hb h.c0,keepCell hb h.c1,keepCell hb h.c2,fun j=>((cO hb).2 _ _ (lt_of_cell h.c0)).trans (h.free j)⟩
theorem Jb.here (w:World) (s:Bool) (e d:Int) (t:TypeId):Jb (w.alloc (.cells #[.bool s,.int .i64 e,.int .i64 d] t)) w.heap.size s e d:=⟨by go_simp,by go_simp,by go_simp,fun j=>by go_simp⟩
theorem Jb.away {g:Nat} {s:Bool} {e d:Int} (h:Jb w g s e d) (k o:Nat) (v:Value) (hne:k≠g):Jb (w.setCell ⟨k,o,none⟩ v) g s e d :=
 ⟨aZ hne h.c0,aZ hne h.c1,aZ hne h.c2,fun j=>by rw [World.frozen?_setCell];exact h.free j⟩
theorem Jb.set {g:Nat} {s:Bool} {e d:Int} (h:Jb w g s e d) (s':Bool) (e' d':Int):Jb (((w.setCell ⟨g,0,none⟩ (.bool s')).setCell ⟨g,1,none⟩ (.int .i64 e')).setCell ⟨g,2,none⟩ (.int .i64 d')) g s' e' d':=by
 obtain ⟨h0,h1,h2,hf⟩:=h;exact ⟨by go_simp,by go_simp,by go_simp,fun j=>by go_simp⟩
structure RW (w0 : World) (s : Option Ax) (w : World) : Prop where
 r:Jb w w0.heap.size false 0 0
 b:Jb w (w0.heap.size+1) (R7 s) (Sm s) (rD s)
 bel:Below w0.heap.size w0 w
 le:w0.heap.size+1<w.heap.size
theorem RW.keep {s:Option Ax} {w w':World} (hb:Below w.heap.size w w') (h:RW w0 s w):RW w0 s w':=⟨h.r.keep hb,h.b.keep hb,aj hb h.bel,Nat.lt_of_lt_of_le h.le hb.size⟩
theorem RW.set {s:Option Ax} {w:World} (h:RW w0 s w) (t:Option Ax):RW w0 t (((w.setCell ⟨w0.heap.size+1,0,none⟩ (.bool (R7 t))).setCell ⟨w0.heap.size+1,1,none⟩ (.int .i64 (Sm t))).setCell ⟨w0.heap.size+1,2,none⟩ (.int .i64 (rD t))) :=
 ⟨((h.r.away _ _ _ (by omega)).away _ _ _ (by omega)).away _ _ _ (by omega),h.b.set _ _ _,((h.bel.setCell (p:=⟨w0.heap.size+1,0,none⟩) (Nat.le_succ _) _).setCell (p:=⟨w0.heap.size+1,1,none⟩) (Nat.le_succ _) _).setCell (p:=⟨w0.heap.size+1,2,none⟩) (Nat.le_succ _) _,by simpa [World.setCell] using h.le⟩
structure Vm (w : World) (g : Nat) (x y : Int) : Prop where
 a:w.cell? ⟨g,0,none⟩=some (.int .i64 x)
 b:w.cell? ⟨g,1,none⟩=some (.int .i64 y)
 f:∀ j,w.frozen? ⟨g,j,none⟩=false
theorem Nr {g:Nat} {x y:Int} (hb:Below w.heap.size w w') (h:Vm w g x y):Vm w' g x y :=
 ⟨keepCell hb h.a,keepCell hb h.b,fun j=>((cO hb).2 _ _ (lt_of_cell h.a)).trans (h.f j)⟩
theorem Vm.lt {g:Nat} {x y:Int} (h:Vm w g x y):g<w.heap.size:=lt_of_cell h.a
theorem Vm.drew {g:Nat} {x y:Int} (h:Vm w g x y):Vm w.drew g x y:=⟨h.a,h.b,h.f⟩
theorem Vm.vz {g:Nat} {x y:Int} (h:Vm w g x y):VZ w g:=⟨⟨_,_,h.a,h.b⟩,h.f⟩
theorem Vm.here (w:World) (x y:Int) (t:TypeId):Vm (w.alloc (.cells #[.int .i64 x,.int .i64 y] t)) w.heap.size x y:=⟨by go_simp,by go_simp,fun j=>by go_simp⟩
abbrev Ry (w:World) (g:Nat) (x y:Int):World:=(w.setCell ⟨g,0,none⟩ (.int .i64 x)).setCell ⟨g,1,none⟩ (.int .i64 y)
theorem Vm.new {g:Nat} (h:VZ w g) (x y:Int):Vm (Ry w g x y) g x y:=by
 obtain ⟨⟨_,_,z0,z1⟩,zf⟩:=h;have hgl:=lt_of_cell z0;exact ⟨by go_simp,by go_simp,fun j=>by go_simp⟩
theorem Vm.set {g:Nat} {a b:Int} (h:Vm w g a b) (x y:Int):Vm (Ry w g x y) g x y:=Vm.new h.vz x y


structure OA (w0 : World) (gX gW : Nat) (s : Bool) (e : Nat) (wx wy : Int) (w : World) : Prop where
 x0:w.cell? ⟨gX,0,none⟩=some (.bool s)
 x1:w.cell? ⟨gX,1,none⟩=some (.int .i64 e)
 m0:w.cell? ⟨gW,0,none⟩=some (.int .i64 wx)
 m1:w.cell? ⟨gW,1,none⟩=some (.int .i64 wy)
 bel:Below w0.heap.size w0 w
theorem OA.keep {gX gW:Nat} {s:Bool} {e:Nat} {wx wy:Int} {w w':World} (hb:Below w.heap.size w w') (h:OA w0 gX gW s e wx wy w):OA w0 gX gW s e wx wy w' :=
 ⟨keepCell hb h.x0,keepCell hb h.x1,keepCell hb h.m0,keepCell hb h.m1,aj hb h.bel⟩
theorem OA.drew {gX gW:Nat} {s:Bool} {e:Nat} {wx wy:Int} {w:World} (h:OA w0 gX gW s e wx wy w):OA w0 gX gW s e wx wy w.drew:=h.keep (Below.refl _ _).drew
structure OB (w0 : World) (gX gW gN : Nat) (s : Bool) (e : Nat) (wx wy n1 n2 : Int) (w : World) : Prop where
 oa:OA w0 gX gW s e wx wy w
 k0:w.cell? ⟨gN,0,none⟩=some (.int .i64 n1)
 k1:w.cell? ⟨gN,1,none⟩=some (.int .i64 n2)
theorem OB.keep {gX gW gN:Nat} {s:Bool} {e:Nat} {wx wy n1 n2:Int} {w w':World} (hb:Below w.heap.size w w') (h:OB w0 gX gW gN s e wx wy n1 n2 w):OB w0 gX gW gN s e wx wy n1 n2 w':=⟨h.oa.keep hb,keepCell hb h.k0,keepCell hb h.k1⟩
theorem OB.drew {gX gW gN:Nat} {s:Bool} {e:Nat} {wx wy n1 n2:Int} {w:World} (h:OB w0 gX gW gN s e wx wy n1 n2 w):OB w0 gX gW gN s e wx wy n1 n2 w.drew:=h.keep (Below.refl _ _).drew
structure OS (w0 : World) (gX gW gN gR gS : Nat) (s : Bool) (e : Nat) (wx wy n1 n2 r1 r2 s1 s2 : Int) (w : World) : Prop where
 ob:OB w0 gX gW gN s e wx wy n1 n2 w
 a0:w.cell? ⟨gR,0,none⟩=some (.int .i64 r1)
 a1:w.cell? ⟨gR,1,none⟩=some (.int .i64 r2)
 b0:w.cell? ⟨gS,0,none⟩=some (.int .i64 s1)
 b1:w.cell? ⟨gS,1,none⟩=some (.int .i64 s2)
theorem OS.keep {gX gW gN gR gS:Nat} {s:Bool} {e:Nat} {wx wy n1 n2 r1 r2 s1 s2:Int} {w w':World} (hb:Below w.heap.size w w') (h:OS w0 gX gW gN gR gS s e wx wy n1 n2 r1 r2 s1 s2 w):OS w0 gX gW gN gR gS s e wx wy n1 n2 r1 r2 s1 s2 w' :=
 ⟨h.ob.keep hb,keepCell hb h.a0,keepCell hb h.a1,keepCell hb h.b0,keepCell hb h.b1⟩
theorem OS.drew {gX gW gN gR gS:Nat} {s:Bool} {e:Nat} {wx wy n1 n2 r1 r2 s1 s2:Int} {w:World} (h:OS w0 gX gW gN gR gS s e wx wy n1 n2 r1 r2 s1 s2 w):OS w0 gX gW gN gR gS s e wx wy n1 n2 r1 r2 s1 s2 w.drew:=h.keep (Below.refl _ _).drew

structure OP (w0 : World) (gX gW gN gR gS : Nat) (s : Bool) (e : Nat) (wx wy n1 n2 r1 r2 s1 s2 : Int) (gP gQ : Nat) (p q : V) (w : World) : Prop where
 os:OS w0 gX gW gN gR gS s e wx wy n1 n2 r1 r2 s1 s2 w
 vp:Vm w gP p.1 p.2
 vq:Vm w gQ q.1 q.2
 ne:gP≠gQ
 ap:gP≠gX∧gP≠gW∧gP≠gN∧gP≠gR∧gP≠gS
 aq:gQ≠gX∧gQ≠gW∧gQ≠gN∧gQ≠gR∧gQ≠gS
 lp:w0.heap.size≤gP
 lq:w0.heap.size≤gQ
section
variable {w0 w w':World}
variable {w0:World} {gX gW gN gR gS:Nat} {s:Bool} {e:Nat} {wx wy n1 n2 r1 r2 s1 s2:Int} {gP gQ:Nat} {p q:V} {w w':World}
theorem OP.keep (hb:Below w.heap.size w w') (h:OP w0 gX gW gN gR gS s e wx wy n1 n2 r1 r2 s1 s2 gP gQ p q w):OP w0 gX gW gN gR gS s e wx wy n1 n2 r1 r2 s1 s2 gP gQ p q w' :=
 ⟨h.os.keep hb,Nr hb h.vp,Nr hb h.vq,h.ne,h.ap,h.aq,h.lp,h.lq⟩
theorem OP.cells (h:OP w0 gX gW gN gR gS s e wx wy n1 n2 r1 r2 s1 s2 gP gQ p q w):w.cell? ⟨gR,0,none⟩=some (.int .i64 r1)∧w.cell? ⟨gR,1,none⟩=some (.int .i64 r2)∧w.cell? ⟨gS,0,none⟩=some (.int .i64 s1)∧w.cell? ⟨gS,1,none⟩=some (.int .i64 s2)∧w.cell? ⟨gP,0,none⟩=some (.int .i64 p.1)∧w.cell? ⟨gP,1,none⟩=some (.int .i64 p.2)∧w.cell? ⟨gQ,0,none⟩=some (.int .i64 q.1)∧w.cell? ⟨gQ,1,none⟩=some (.int .i64 q.2) :=
 ⟨h.os.a0,h.os.a1,h.os.b0,h.os.b1,h.vp.a,h.vp.b,h.vq.a,h.vq.b⟩
end
def Qj (x:BE):List V:=bT x.b x.l

def bxB (x:BE):Bx:=((vv (r9 (Qj x)),vv (sJ (Qj x))),(uW (r9 (Qj x)),uW (sJ (Qj x))))
def G5 (L:List BE) (i:Nat):Int:=match L[i]? with | some x=>x.b.mass | none=>0

def og (L:List BE) (p:Nat × Nat):Bool:=decide (G5 L p.1=0) && decide (G5 L p.2=0)
def iU (L:List BE):List (Nat × Nat):=(dM (L.map bxB)).filter fun p => !og L p


theorem rT {L:List BE} {i:Nat} (h:i<L.length):G5 L i=L[i].b.mass:=by unfold G5;rw [List.getElem?_eq_getElem h]
theorem wZ {L:List BE} {i:Nat} (h:i<L.length):aV (L.map bxB) i=bxB L[i]:=by unfold aV;simp [h]

theorem zW {α β : Type} {f : α → List β} {n : Nat} (h : ∀ a, (f a).length ≤ n) : ∀ l : List α, (l.flatMap f).length ≤ l.length * n
 | []=>by simp
 | a :: l=>by
  rw [List.flatMap_cons,List.length_append,List.length_cons,Nat.add_mul,Nat.one_mul]
  have:=h a
  have:=zW h l
  omega
theorem JK (l:List Bx):(dM l).length≤l.length*l.length:=by
 have h1:=zW (f:=fun i=>rowP l i l.length) (n:=l.length) (fun i=>by unfold rowP;rw [List.length_map];exact Nat.le_trans (List.length_filter_le _ _) (by simp)) (List.range l.length);rw [List.length_range] at h1;exact h1

end
end Go.Proofs.YtokgmcomgflloaaGreat
