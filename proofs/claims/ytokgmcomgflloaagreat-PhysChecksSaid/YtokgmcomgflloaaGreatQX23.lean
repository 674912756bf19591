/- Parts of a proof: contracts and laws. -/
import Derived.Test.YtokgmcomgflloaaGreatQX22
set_option maxRecDepth 100000
set_option maxHeartbeats 16000000
namespace Go.Proofs.YtokgmcomgflloaaGreat
section
set_option linter.unusedVariables false
set_option linter.unusedSimpArgs false
open Go.RowKit
variable {w0 w w':World}
theorem jQ {g o o':Nat} {v u:Value} (h:w.cell? ⟨g,o',none⟩=some u) (hne:o≠o'):(w.setCell ⟨g,o,none⟩ v).cell? ⟨g,o',none⟩=some u:=by
 have n1:¬ o=o':=hne;have n2:¬ o'=o:=fun e=>hne e.symm
 go_simp
theorem xS {g o:Nat} {v u:Value} (h:w.cell? ⟨g,o,none⟩=some u):(w.setCell ⟨g,o,none⟩ v).cell? ⟨g,o,none⟩=some v:=by go_simp
theorem aH.pairK {b off:Nat} {l:List (Nat × Nat)} {x:Nat × Nat} (h:aH aZ w b off l) {i:Nat} (hi:i<l.length) (hx:x=l[i]) :
  w.cell? ⟨b,off+i*2,none⟩=some (.int .i64 (x.1:Nat))∧w.cell? ⟨b,off+i*2+1,none⟩=some (.int .i64 (x.2:Nat)):=by
 subst hx;exact ⟨h.at_ i hi 0 _ rfl,h.at_ i hi 1 _ rfl⟩
theorem pJ (F : Nat) (p1 : Value) (f : Nat × Nat → Bool) (hcf : ∀ (args : Array Value) (w : World), (callFunc F args).run Tryz.prog w = .ok (.enter F args) w) (A : Option Addr) (n c : Nat) (l : List (Nat × Nat)) (w : World) (hS : dD aZ w A n c l)
  (hG:∀ x,x ∈ l→∀ w',Below w.heap.size w w'→Calls Tryz.prog F #[.agg #[.int .i64 (x.1:Nat),.int .i64 (x.2:Nat)],p1] w' (dw (.bool (f x)) w')) :
  Calls Tryz.prog 142 #[.slice A n c,.func (.func F) #[] #[p1]] w fun e w'=>(∃ r:Int,e = .returned (.int .i64 r)∧((r = -1∧∀ i (hi:i<l.length),f l[i]=false)∨∃ k:Nat,r=k∧∃ hk:k<l.length,f l[k]=true∧∀ i (hi:i<l.length),i<k→f l[i]=false))∧Below w.heap.size w w':=by
 have hn:=hS.len;subst hn;have HS:=hid hS;have HG:=hid hG;have hbig:=Nat.le_trans hS.cap hS.big;clear hS hG
 go_enter Tryz.func142,Tryz.ntmps142
 go_wp2
 go_loopw [8] (fun j wr=>∃ k:Nat,k≤l.length∧j = .int .i64 k∧(∀ i (hi:i<l.length),i<k→f l[i]=false)∧Below w.heap.size w wr) (fun j _=>l.length-(intOf j).toNat)
 case atStart=>exact ⟨0,Nat.zero_le _,rfl,fun i _ h=>absurd h (Nat.not_lt_zero i),Below.refl _ _⟩
 case round =>
  obtain ⟨i,hi,rfl,hno,hB⟩:=hrel;have HNO:=hid hno;clear hno;obtain ⟨wo,rfl⟩:∃ wo:World,wo=wr:=⟨_,rfl⟩
  by_cases hlt:i<l.length
  ·have hlt' : (i : Int) < (l.length : Int) := by omega
   have hwk:IntKind.i64.wrap ((i:Int)+1)=(i:Int)+1:=IntWalk.i64_in _ (by omega);obtain ⟨b,off,rfl,hC⟩:=(HS.out.below hB).at_ (by intro h;rw [h] at hlt;simp at hlt);obtain ⟨x,hx⟩:∃ x,x=l[i]:=⟨_,rfl⟩;obtain ⟨d0,d1⟩:=hC.pairK hlt hx;have hbl:=hC.lt;have HCL:=hid (HG.out x (by rw [hx];exact List.getElem_mem hlt) wo hB);have HX:Hid (f l[i]=f x):=by show _=_;rw [hx]
   generalize f x=fx at *
   clear hC hx
   go_wp2_with fail
   refine HCL.out.mono ?_;rintro e w5 ⟨rfl,hb5⟩;have hB5:=ah hb5 hB;clear hb5 HCL d0 d1 hbl hB
   cases fx with
   | true =>
    have HR:Hid ((∃ r:Int,(Ending.returned (.int .i64 (i:Int))) = .returned (.int .i64 r)∧((r = -1∧∀ i (hi:i<l.length),f l[i]=false)∨∃ k:Nat,r=k∧∃ hk:k<l.length,f l[k]=true∧∀ i (hi:i<l.length),i<k→f l[i]=false))∧Below w.heap.size w w5):=⟨⟨i,rfl,.inr ⟨i,rfl,hlt,HX.out,HNO.out⟩⟩,hB5⟩;clear HX HNO;go_wp2;refine bodyPost_ret (v:=.int .i64 i) (by simp [results,Tryz.results142,go_sem]) rfl HR.out
   | false =>
    have HN2:Hid (∀ j (hj:j<l.length),j<i+1→f l[j]=false):=fun j hj hji=>by
     rcases Nat.lt_or_ge j i with q | q
     ·exact HNO.out j hj q
     ·obtain rfl : j = i := by omega
      exact HX.out
    clear HX HNO;go_wp2;go_roundw
    case rel=>exact ⟨i+1,hlt,by go_num,HN2.out,hB5⟩
    case measure=>simp [intOf];omega
  ·have hie : i = l.length := by omega
   subst hie;have HR:Hid ((∃ r:Int,(Ending.returned (.int .i64 (-1))) = .returned (.int .i64 r)∧((r = -1∧∀ i (hi:i<l.length),f l[i]=false)∨∃ k:Nat,r=k∧∃ hk:k<l.length,f l[k]=true∧∀ i (hi:i<l.length),i<k→f l[i]=false))∧Below w.heap.size w wo):=⟨⟨-1,rfl,.inl ⟨rfl,fun i hi=>HNO.out i hi hi⟩⟩,hB⟩;clear HNO;go_wp2;refine bodyPost_ret (v:=.int .i64 (-1)) (by simp [results,Tryz.results142,go_sem]) rfl HR.out
theorem lD (b : Nat) : ∀ (vs : List Value) (o : Nat) (w : World), (w.setCells b o vs).heap.size = w.heap.size
 | [],_,_=>rfl
 | v :: r,o,w=>by rw [World.setCells,lD b r];simp
theorem below_setCells {B b : Nat} (hB : B ≤ b) : ∀ (vs : List Value) (o : Nat) {w0 w : World}, Below B w0 w → Below B w0 (w.setCells b o vs)
 | [],_,_,_,h=>h
 | v :: r,o,w0,w,h=>by
  rw [World.setCells]
  exact below_setCells hB r (o+1) (h.setCell (p:=⟨b,_,none⟩) hB _)

theorem pU (w : World) (ty : TypeId) (b o n c : Nat) (hn : 0 < n)
  (hc:∀ j,j<n*2→(w.cell? ⟨b,o+j,none⟩).isSome=true) (hf:∀ j,j<n*2→w.frozen? ⟨b,o+j,none⟩=false) :
  (Builtin.clear_ #[67] ty #[.slice (some ⟨b,o,none⟩) n c]).run Tryz.prog w = .ok (.tuple #[]) (w.setCells b o (List.replicate (n*2) (.int .i64 0))):=by
 have hzc:(Builtin.zeroCells #[.int .i64 0,.int .i64 0] n).toList=List.replicate (n*2) (.int .i64 0):=by
  simp [Builtin.zeroCells];apply List.ext_getElem
  ·simp
  ·intro i h1 h2;simp;have:i % 2=0∨i % 2=1:=by omega
   rcases this with e | e <;> simp [e]
 have hst:=run_storeCells_cells (P:=Tryz.prog) b o (List.replicate (n*2) (.int .i64 0)) 0 w (by simpa using hc) (by simpa using hf) (by intro v hv';rw [List.eq_of_mem_replicate hv'];rfl);simp only [Nat.add_zero] at hst;obtain ⟨m,rfl⟩:∃ m,n=m+1:=⟨n-1,by omega⟩;have hv:=Tryz.zeroValue72 w;have hz:(Value.agg #[.int .i64 0,.int .i64 0]).cells=#[.int .i64 0,.int .i64 0]:=by rfl
 simp [Builtin.clear_,run_underlying Tryz.underlying67,hv,hz,hzc,hst]

structure Dp (w0 : World) (B g n : Nat) (M : List (Nat × Nat)) (w : World) : Prop where
 cl:aH aZ w g 0 M
 cf:∀ j,w.frozen? ⟨g,j,none⟩=false
 bel:Below B w0 w
 lo:B≤g
 ln:M.length=n
theorem Dp.keep {B g n:Nat} {M:List (Nat × Nat)} {w w':World} (hb:Below w.heap.size w w') (h:Dp w0 B g n M w) (hB:B≤w.heap.size):Dp w0 B g n M w' :=
 ⟨h.cl.below hb,fun j=>((bX hb).2 _ _ h.cl.lt).trans (h.cf j),h.bel.trans (hb.mono hB),h.lo,h.ln⟩
theorem aH.setPair {g i:Nat} {M:List (Nat × Nat)} (h:aH aZ w g 0 M) (hi:i<M.length) (p:Nat × Nat):aH aZ ((w.setCell ⟨g,i*2,none⟩ (.int .i64 (p.1:Nat))).setCell ⟨g,i*2+1,none⟩ (.int .i64 (p.2:Nat))) g 0 (M.set i p):=by
 refine ⟨by simp;exact h.lt,fun j hj k u hu=>?_⟩;have hlen:∀ x:Nat × Nat,(aZ.enc x).length=2:=fun _=>rfl
 have hj':j<M.length:=by simpa using hj
 have h0:=h.at_ j hj' 0 _ (show (aZ.enc M[j])[0]? = some (.int .i64 (M[j].1:Nat)) from rfl);have h1:=h.at_ j hj' 1 _ (show (aZ.enc M[j])[1]? = some (.int .i64 (M[j].2:Nat)) from rfl);rw [show aZ.k=2 from rfl,Nat.zero_add] at h0 h1;have h0:w.cell? ⟨g,j*2,none⟩=_:=h0;show ((w.setCell ⟨g,i*2,none⟩ (.int .i64 (p.1:Nat))).setCell ⟨g,i*2+1,none⟩ (.int .i64 (p.2:Nat))).cell? ⟨g,0+j*2+k,none⟩=some u;rw [Nat.zero_add]
 have hk:k<2:=by
  rcases Nat.lt_or_ge k 2 with q | q
  ·exact q
  ·rw [List.getElem?_eq_none (by rw [hlen];exact q)] at hu;cases hu
 by_cases e:j=i
 ·subst e;rw [List.getElem_set_self] at hu
  match k,hk,hu with
  | 0,_,hu =>
   have hu:some (Value.int .i64 (p.1:Nat))=some u:=hu
   cases hu
   exact jQ (xS h0) (by omega)
  | 1,_,hu =>
   have hu:some (Value.int .i64 (p.2:Nat))=some u:=hu
   cases hu
   exact xS (jQ h1 (by omega))
 ·rw [List.getElem_set_ne (by omega)] at hu
  match k,hk,hu with
  | 0,_,hu =>
   have hu:some (Value.int .i64 (M[j].1:Nat))=some u:=hu
   cases hu
   exact jQ (jQ h0 (by omega)) (by omega)
  | 1,_,hu =>
   have hu:some (Value.int .i64 (M[j].2:Nat))=some u:=hu
   cases hu
   exact jQ (jQ h1 (by omega)) (by omega)
theorem Dp.set {B g n i:Nat} {M:List (Nat × Nat)} {w:World} (h:Dp w0 B g n M w) (hi:i<M.length) (p:Nat × Nat) :
  Dp w0 B g n (M.set i p) ((w.setCell ⟨g,i*2,none⟩ (.int .i64 (p.1:Nat))).setCell ⟨g,i*2+1,none⟩ (.int .i64 (p.2:Nat))) :=
 ⟨h.cl.setPair hi p,fun j=>by rw [World.frozen?_setCell,World.frozen?_setCell];exact h.cf j,(h.bel.setCell (p:=⟨g,_,none⟩) h.lo _).setCell (p:=⟨g,_,none⟩) h.lo _,h.lo,by rw [List.length_set];exact h.ln⟩

def vI (f:Nat × Nat→Bool) (l M:List (Nat × Nat)) (i j:Nat):Prop:=M.take i=(l.take j).filter (fun p => !f p)∧M.drop j=l.drop j∧i≤j
theorem F8 {f:Nat × Nat→Bool} {l M:List (Nat × Nat)} {i j:Nat} (h:vI f l M i j) (hl:M.length=l.length) (hj:j<l.length):M[j]'(by omega)=l[j]:=by
 have e1:(M.drop j)[0]'(by rw [List.length_drop];omega)=M[j]'(by omega):=by simp
 have e2:(l.drop j)[0]'(by rw [List.length_drop];omega)=l[j]:=by simp
 rw [← e1,← e2];simp only [h.2.1]
theorem Df {f:Nat × Nat→Bool} {l M:List (Nat × Nat)} {i j:Nat} (h:vI f l M i j) (hl:M.length=l.length) (hj:j<l.length) (hf:f l[j]=true):vI f l M i (j+1):=by
 obtain ⟨h1,h2,h3⟩:=h;refine ⟨?_,?_,by omega⟩
 ·rw [h1, List.take_succ_eq_append_getElem hj, List.filter_append];simp [hf]
 ·have : (M.drop j).drop 1 = (l.drop j).drop 1 := by rw [h2]
  simpa [List.drop_drop] using this
theorem C8 {f:Nat × Nat→Bool} {l M:List (Nat × Nat)} {i j:Nat} (h:vI f l M i j) (hl:M.length=l.length) (hj:j<l.length) (hf:f l[j]=false):vI f l (M.set i l[j]) (i+1) (j+1):=by
 obtain ⟨h1,h2,h3⟩:=h;refine ⟨?_,?_,by omega⟩
 ·rw [List.take_succ_eq_append_getElem (by rw [List.length_set]; omega), List.getElem_set_self, List.take_set_of_le (by omega), h1, List.take_succ_eq_append_getElem hj, List.filter_append];simp [hf]
 ·rw [List.drop_set_of_lt (by omega)];have:(M.drop j).drop 1=(l.drop j).drop 1:=by rw [h2]
  simpa [List.drop_drop] using this

theorem wQ (F : Nat) (p1 : Value) (f : Nat × Nat → Bool) (hcf : ∀ (args : Array Value) (w : World), (callFunc F args).run Tryz.prog w = .ok (.enter F args) w) (s : Value) (l : List (Nat × Nat)) (B : Nat) (w : World) (hs : aN aZ 72 w B s l) (hB : B ≤ w.heap.size) (hl : l.length ≤ 1000000)
  (hG:∀ x,x ∈ l→∀ w',Below B w w'→Calls Tryz.prog F #[.agg #[.int .i64 (x.1:Nat),.int .i64 (x.2:Nat)],p1] w' (dw (.bool (f x)) w')) :
  Calls Tryz.prog 82 #[s,.func (.func F) #[] #[p1]] w fun e w'=>∃ A n c,e = .returned (.slice A n c)∧dD aZ w' A n c (l.filter fun p => !f p)∧Below B w w':=by
 have HG:=hid hG
 rcases hs.form with ⟨rfl,h0⟩ | ⟨g,cap,rfl,hBg,hg,hn,hm,hf,hcl⟩
 ·subst h0;have HI:=hid (pJ F p1 f hcf none 0 0 [] w (dD.nil _ _) (fun x hx w' hb=>hG x hx w' (hb.mono hB)));clear hG hs
  go_enter Tryz.func82,Tryz.ntmps82
  go_wp2_with fail
  refine HI.out.mono ?_;rintro e w1 ⟨⟨r,rfl,hr⟩,hb⟩
  have hr1:r = -1:=by
   rcases hr with ⟨h,-⟩ | ⟨k,-,hk,-⟩
   ·exact h
   ·simp at hk
  subst hr1;have HR:Hid (∃ A n c,Ending.returned (.slice none 0 0) = .returned (.slice A n c)∧dD aZ w1 A n c (([]:List (Nat × Nat)).filter fun p => !f p)∧Below B w w1):=⟨none,0,0,rfl,dD.nil _ _,hb.mono hB⟩;clear hr HI HG hb;go_wp2;refine bodyPost_ret (v:=.slice none 0 0) (by simp [results,Tryz.results82,go_sem]) rfl HR.out
 obtain ⟨n,hn'⟩:∃ n,n=l.length:=⟨_,rfl⟩;have HD0:Hid (Dp w B g n l w):=⟨hcl,hf,Below.refl _ _,hBg,hn'.symm⟩;have hnl:n≤1000000:=by omega
 have hnc:n≤cap:=by omega
 have HN:=hid hn';have HI:=hid (pJ F p1 f hcf (some ⟨g,0,none⟩) n cap l w ⟨hn',hnc,hm,fun _=>⟨g,0,rfl,hcl⟩⟩ (fun x hx w' hb=>hG x hx w' (hb.mono hB)));rw [← hn'];clear hG hs hBg hg hn hf hcl hn'
 go_enter Tryz.func82,Tryz.ntmps82
 go_wp2_with fail
 refine HI.out.mono ?_;rintro e w1 ⟨⟨r,rfl,hr⟩,hb⟩;clear HI;have HR0:=hid hr;have HD1:Hid (Dp w B g n l w1):=HD0.out.keep hb hB;have hB1:B≤w1.heap.size:=Nat.le_trans hB hb.size
 have hr2:r = -1∨∃ k:Nat,r=k∧k<n:=by
  rcases hr with ⟨h,-⟩ | ⟨k,h,hk,-⟩
  ·exact .inl h
  ·exact .inr ⟨k,h,by have:=HN.out;omega⟩
 clear hr HD0 hb
 rcases hr2 with rfl | ⟨k,rfl,hk⟩
 ·have HR:Hid (∃ A m c,Ending.returned (.slice (some ⟨g,0,none⟩) n cap) = .returned (.slice A m c)∧dD aZ w1 A m c (l.filter fun p => !f p)∧Below B w w1):=by
   have e:l.filter (fun p => !f p)=l:=by
    rw [List.filter_eq_self];intro a ha;obtain ⟨i,hi,rfl⟩:=List.getElem_of_mem ha
    rcases HR0.out with ⟨-,h⟩ | ⟨k,h,-⟩
    ·rw [h i hi];rfl
    ·omega
   rw [e];exact ⟨_,_,_,rfl,⟨HD1.out.ln.symm,hnc,hm,fun _=>⟨g,0,rfl,HD1.out.cl⟩⟩,HD1.out.bel⟩
  clear HR0 HD1 HG HN;go_wp2;refine bodyPost_ret (v:=.slice (some ⟨g,0,none⟩) n cap) (by simp [results,Tryz.results82,go_sem]) rfl HR.out
 have HM0:Hid (vI f l l k (k+1)):=by
  rcases HR0.out with ⟨h,-⟩ | ⟨k',h,hk',h1,h2⟩
  ·omega
  ·obtain rfl : k = k' := by omega
   refine ⟨?_,rfl,by omega⟩;rw [List.take_succ_eq_append_getElem hk',List.filter_append]
   have e:(l.take k).filter (fun p => !f p)=l.take k:=by
    rw [List.filter_eq_self];intro a ha;obtain ⟨i,hi,rfl⟩:=List.getElem_of_mem ha;rw [List.getElem_take];rw [List.length_take] at hi;rw [h2 i (by omega) (by omega)];rfl
   rw [e];simp [h1]
 have hkw:IntKind.i64.wrap ((k:Int)+1)=(k:Int)+1:=IntWalk.i64_in _ (by omega);have hk1:¬ (k:Int) = -1:=by omega
 clear HR0;go_wp2
 go_loopw [5,6] (fun vi vj wr=>∃ (i j:Nat) (M:List (Nat × Nat)),i<j∧j≤n∧vi = .int .i64 i∧vj = .int .i64 j∧vI f l M i j∧Dp w B g n M wr∧B≤wr.heap.size) (fun _ vj _=>n-(intOf vj).toNat)
 case atStart=>exact ⟨k,k+1,l,by omega,hk,rfl,by go_num,HM0.out,HD1.out,hB1⟩
 case round =>
  clear HM0 HD1 hB1 hkw hk1 hk;obtain ⟨i,j,M,hij,hj,rfl,rfl,hdm,hdp,hBr⟩:=hrel;obtain ⟨wo,rfl⟩:∃ wo:World,wo=wr:=⟨_,rfl⟩;have HDM:=hid hdm;have HDP:=hid hdp;have hml:=hdp.ln
  by_cases hlt:j<n
  ·have hjl : j < l.length := by rw [← HN.out]; exact hlt
   have hMl:M.length=l.length:=by rw [hml];exact HN.out
   obtain ⟨x,hx⟩:∃ x,x=l[j]:=⟨_,rfl⟩;have hxM:x=M[j]'(by omega):=by rw [hx];exact (F8 hdm hMl hjl).symm
   obtain ⟨d0,d1⟩:=hdp.cl.pairK (by omega) hxM;rw [Nat.zero_add] at d0 d1;have hlt':(j:Int)<(n:Int):=by omega
   have hi':(i:Int)<(n:Int):=by omega
   have hwj:IntKind.i64.wrap ((j:Int)+1)=(j:Int)+1:=IntWalk.i64_in _ (by omega);have hwi:IntKind.i64.wrap ((i:Int)+1)=(i:Int)+1:=IntWalk.i64_in _ (by omega);obtain ⟨gv,hgv⟩:∃ g,g=wo.heap.size:=⟨_,rfl⟩;obtain ⟨wv,hwv⟩:∃ w',w'=wo.alloc (.cells #[.int .i64 (x.1:Nat),.int .i64 (x.2:Nat)] 72):=⟨_,rfl⟩;have hbv:Below wo.heap.size wo wv:=by rw [hwv];go_grown
   have HDV:Hid (Dp w B g n M wv):=hdp.keep hbv hBr;have hBv:B≤wv.heap.size:=Nat.le_trans hBr hbv.size;have v0:wv.cell? ⟨gv,0,none⟩=some (.int .i64 (x.1:Nat)):=by rw [hwv,hgv];go_simp
   have v1:wv.cell? ⟨gv,1,none⟩=some (.int .i64 (x.2:Nat)):=by rw [hwv,hgv];go_simp
   have HCL:=hid (HG.out x (by rw [hx];exact List.getElem_mem hjl) wv HDV.out.bel);have hgg:g<gv:=by have:=hdp.cl.lt;omega
   have HST:Hid (f x=true→vI f l M i (j+1)):=fun h=>Df HDM.out hMl hjl (by rw [← hx];exact h)
   have HKT:Hid (f x=false→vI f l (M.set i x) (i+1) (j+1)):=fun h=>by rw [hx];exact C8 HDM.out hMl hjl (by rw [← hx];exact h)
   have him:i<M.length:=by omega
   have hgl:=hdp.cl.lt;clear hdm hdp hx hxM HDM HDP hbv hjl hMl;generalize f x=fx at *
   go_upto_region 8 with fail
   rw [← hwv,← hgv];clear hwv hgv d0 d1 hgl
   go_wp2_with fail
   refine HCL.out.mono ?_;rintro e w5 ⟨rfl,hb5⟩;have HD5:Hid (Dp w B g n M w5):=HDV.out.keep hb5 hBv;have hB5:B≤w5.heap.size:=Nat.le_trans hBv hb5.size;replace v0:=keepCell hb5 v0;replace v1:=keepCell hb5 v1;clear HDV HCL hb5 hBv
   cases fx with
   | true =>
    have HM2:=hid (HST.out rfl);clear HST HKT v0 v1;go_wp2;go_roundw
    case rel=>exact ⟨_,_,_,_,_,_,_,_,_,_,_,_,_,_,_,_,_,_,_,_,_,_,_,⟨i,j+1,M,by omega,hlt,rfl,by go_num,HM2.out,HD5.out,hB5⟩,rfl⟩
    case measure=>simp [intOf];omega
   | false =>
    have HM2:=hid (HKT.out rfl);have HD6:=hid (HD5.out.set him x);have hcf:=HD5.out.cf;obtain ⟨y,hy⟩:∃ y,y=M[i]:=⟨_,rfl⟩;obtain ⟨u0,u1⟩:=HD5.out.cl.pairK him hy;rw [Nat.zero_add] at u0 u1;clear HST HKT HD5 hy;go_wp2;go_roundw
    case rel=>exact ⟨_,_,_,_,_,_,_,_,_,_,_,_,_,_,_,_,_,_,_,_,_,_,_,⟨i+1,j+1,M.set i x,by omega,hlt,by go_num,by go_num,HM2.out,HD6.out,by simpa using hB5⟩,rfl⟩
    case measure=>simp [intOf];omega
  ·have hjn : j = n := by omega
   subst hjn;have hi':(i:Int)≤(j:Int):=by omega
   have hi0:(0:Int)≤(i:Int):=by omega
   have hcr:∀ ty:TypeId,(Builtin.clear_ #[67] ty #[.slice (some ⟨g,i*2,none⟩) (j-i) (cap-i)]).run Tryz.prog wo = .ok (.tuple #[]) (wo.setCells g (i*2) (List.replicate ((j-i)*2) (.int .i64 0))):=fun ty=>by
    refine pU wo ty g (i*2) (j-i) (cap-i) (by omega) (fun t ht=>?_) (fun t ht=>hdp.cf _);obtain ⟨q,r,hq,hr⟩:∃ q r:Nat,r<2∧t=q*2+r:=⟨t / 2,t % 2,by omega,by omega⟩;obtain ⟨u0,u1⟩:=hdp.cl.pairK (i:=i+q) (by omega) rfl;have e:r=0∨r=1:=by omega
    rcases e with rfl | rfl
    ·rw [show i*2+t=0+(i+q)*2 by omega,u0];rfl
    ·rw [show i*2+t=0+(i+q)*2+1 by omega,u1];rfl
   obtain ⟨wz,hwz⟩:∃ wz,wz=wo.setCells g (i*2) (List.replicate ((j-i)*2) (.int .i64 0)):=⟨_,rfl⟩
   have HR:Hid (∃ A m c,Ending.returned (.slice (some ⟨g,0,none⟩) i cap) = .returned (.slice A m c)∧dD aZ wz A m c (l.filter fun p => !f p)∧Below B w wz):=by
    have e:l.filter (fun p => !f p)=M.take i:=by rw [hdm.1,HN.out,List.take_length]
    rw [e];have hsz:(wo.setCells g (i*2) (List.replicate ((j-i)*2) (.int .i64 0))).heap.size=wo.heap.size:=lD _ _ _ _;refine ⟨_,_,_,rfl,⟨by rw [List.length_take];omega,by omega,hm,fun _=>⟨g,0,rfl,by rw [hwz,hsz];exact hdp.cl.lt,fun a ha b v hv=>?_⟩⟩,?_⟩
    ·rw [List.length_take] at ha;rw [List.getElem_take] at hv
     have hb2:b<2:=by
      rcases Nat.lt_or_ge b 2 with q | q
      ·exact q
      ·rw [List.getElem?_eq_none (show (aZ.enc M[a]).length≤b from q)] at hv;cases hv
     rw [hwz,World.cell?_setCells_out]
     ·exact hdp.cl.at_ a (by omega) b v hv
     ·intro _ _
      left
      show 0+a*2+b<i*2;omega
    ·rw [hwz];exact below_setCells hdp.lo _ _ hdp.bel
   rw [← hwz] at hcr;clear hdm hdp HDM HDP hwz hml HN HG;go_wp2;refine bodyPost_ret (v:=.slice (some ⟨g,0,none⟩) i cap) (by simp [results,Tryz.results82,go_sem]) rfl HR.out
end
end Go.Proofs.YtokgmcomgflloaaGreat
