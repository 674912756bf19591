/- Parts of a proof: contracts and laws. -/
import Derived.Test.YtokgmcomgflloaaGreatQP12
import Derived.Test.YtokgmcomgflloaaGreatQP03
set_option maxRecDepth 100000
set_option maxHeartbeats 16000000
namespace Go.Proofs.YtokgmcomgflloaaGreat
section
set_option linter.unusedVariables false
set_option linter.unusedSimpArgs false
open Go.RowKit
variable {w0 w w':World}
abbrev pJ (b:Bx):Value:=.agg #[.int .i64 b.1.1,.int .i64 b.1.2,.int .i64 b.2.1,.int .i64 b.2.2]
theorem iM (x y u v:Int) (w:World):Calls Tryz.prog 67 #[.agg #[.int .i64 x,.int .i64 y,.int .i64 u,.int .i64 v]] w (dS (.bool (fJ ((x,y),(u,v)))) w):=by
 have HZ:Hid (fJ ((x,y),(u,v))=decide (x≤u∧y≤v)):=rfl;obtain ⟨z,hz⟩:∃ z,z=fJ ((x,y),(u,v)):=⟨_,rfl⟩;rw [← hz] at HZ ⊢;clear hz
 by_cases h1:x≤u
 ·by_cases h2 : y ≤ v
  ·have HR : Hid (z = true) := by show _ = _; rw [HZ.out]; exact decide_eq_true ⟨h1, h2⟩
   clear HZ
   go_enter Tryz.func67,Tryz.ntmps67
   go_wp2
   go_returns
   exact bg (by rw [HR.out];try simp [*]) (by go_grown)
  ·have HR : Hid (z = false) := by show _ = _; rw [HZ.out]; exact decide_eq_false (fun h => h2 h.2)
   clear HZ
   go_enter Tryz.func67,Tryz.ntmps67
   go_wp2
   go_returns
   exact bg (by rw [HR.out];try simp [*]) (by go_grown)
 ·have HR : Hid (z = false) := by show _ = _; rw [HZ.out]; exact decide_eq_false (fun h => h1 h.1)
  clear HZ
  go_enter Tryz.func67,Tryz.ntmps67
  go_wp2
  go_returns
  exact bg (by rw [HR.out];try simp [*]) (by go_grown)

def Qs (l:List (Nat × Nat)) (w:World) (e:Ending) (w':World):Prop:=∃ A n c,e = .returned (.slice A n c)∧dN aJ w' A n c l∧(∀ b off,A=some ⟨b,off,none⟩→w.heap.size≤b)∧Below w.heap.size w w'

def Kr (l:List (Nat × Nat)) (w:World) (e:Ending) (w':World):Prop:=∃ s,e = .returned s∧aN aJ 72 w' w.heap.size s l∧Below w.heap.size w w'

structure PW (w0 : World) (gb : Nat) (hd : Value) (s : Value) (o : List Nat) (w : World) : Prop where
 cb:w.cell? ⟨gb,0,none⟩=some hd
 own:aN bJ 3 w (gb+1) s o
 bel:Below w0.heap.size w0 w
 le:w0.heap.size≤gb
theorem PW.keep {gb:Nat} {hd s:Value} {o:List Nat} {w w':World} (hb:Below w.heap.size w w') (h:PW w0 gb hd s o w):PW w0 gb hd s o w':=⟨keepCell hb h.cb,h.own.below hb,aj hb h.bel,h.le⟩
theorem PW.app {gb:Nat} {hd s s':Value} {o o':List Nat} {w w':World} (h:PW w0 gb hd s o w) (ho:aN bJ 3 w' (gb+1) s' o') (hg:w.grownBy w' s.ownBlock):PW w0 gb hd s' o' w' :=
 ⟨hg.cell h.cb (h.own.ne (Nat.lt_succ_self gb)),ho,h.bel.grown hg h.bel.size (fun k hk=>by have:=(h.own.lt hk).1;have:=h.le;omega),h.le⟩

structure PX (w2 : World) (s : Value) (op : List Nat) (t : Value) (out : List (Nat × Nat)) (w : World) : Prop where
 o1:aN bJ 3 w w2.heap.size s op
 o2:aN aJ 72 w w2.heap.size t out
 dis:t.ownBlock=none∨t.ownBlock≠s.ownBlock
 bel:Below w2.heap.size w2 w
theorem PX.keep {w2:World} {s t:Value} {op:List Nat} {out:List (Nat × Nat)} {w w':World} (hb:Below w.heap.size w w') (h:PX w2 s op t out w):PX w2 s op t out w':=⟨h.o1.below hb,h.o2.below hb,h.dis,aj hb h.bel⟩
theorem JH {s t:Value} (h:t.ownBlock=none∨t.ownBlock≠s.ownBlock):s.ownBlock=none∨s.ownBlock≠t.ownBlock:=by
 rcases h with h | h
 ·cases hs:s.ownBlock with
  | none=>exact .inl rfl
  | some k=>exact .inr (by rw [h];simp)
 ·exact .inr fun e=>h e.symm
theorem PX.set1 {w2:World} {s s' t:Value} {op op':List Nat} {out:List (Nat × Nat)} {w w':World} (h:PX w2 s op t out w) (ho:aN bJ 3 w' w2.heap.size s' op') (hg:w.grownBy w' s.ownBlock) (hat:s'.ownBlock=s.ownBlock∨s'.ownBlock=some w.heap.size):PX w2 s' op' t out w':=by
 refine ⟨ho,h.o2.kept hg h.dis,?_,h.bel.grown hg h.bel.size (fun k hk=>(h.o1.lt hk).1)⟩
 rcases hat with q | q
 ·rw [q];exact h.dis
 ·rw [q]
  cases ht:t.ownBlock with
  | none=>exact .inl rfl
  | some k=>exact .inr fun e=>by cases e;have:=(h.o2.lt ht).2;omega
theorem PX.set2 {w2:World} {s t t':Value} {op:List Nat} {out out':List (Nat × Nat)} {w w':World} (h:PX w2 s op t out w) (ho:aN aJ 72 w' w2.heap.size t' out') (hg:w.grownBy w' t.ownBlock) (hat:t'.ownBlock=t.ownBlock∨t'.ownBlock=some w.heap.size):PX w2 s op t' out' w':=by
 refine ⟨h.o1.kept hg (JH h.dis),ho,?_,h.bel.grown hg h.bel.size (fun k hk=>(h.o2.lt hk).1)⟩
 rcases hat with q | q
 ·rw [q];exact h.dis
 ·rw [q];refine .inr fun e=>?_
  have:=(h.o1.lt e.symm).2;omega
theorem EA {l : List Bx} : ∀ (o : List Nat) (m : Nat) (s : List Nat × List (Nat × Nat)) (hm : m < o.length), tL l (o.take (m + 1)) s = (kr l (tL l (o.take m) s).1 o[m] ++ [o[m]], (tL l (o.take m) s).2 ++ kT l (kr l (tL l (o.take m) s).1 o[m]) o[m])
 | i :: o,0,s,_=>by simp [tL]
 | i :: o,m+1,s,hm=>by
  rw [List.take_succ_cons,List.take_succ_cons,tL,tL]
  exact EA o m _ (by simpa using hm)
theorem GR (l:List Bx) (m:Nat):jq l (m+1)=jq l m ++ (if fJ (aV l m)=true then [m] else []):=by
 unfold jq;rw [List.range_succ,List.filter_append]
 congr 1
 cases h:fJ (aV l m) <;> simp [h]
theorem Jv (l:List Bx) (op:List Nat) (i k:Nat) (hk:k<op.length):kT l (op.take (k+1)) i=kT l (op.take k) i ++ (if wW l i op[k]=true then [E5 i op[k]] else []):=by
 unfold kT;rw [List.take_succ_eq_append_getElem hk,List.filter_append,List.map_append]
 congr 1
 cases h:wW l i op[k] <;> simp [h]
theorem zx {b:Nat} {i:Nat} (h:w.cell? ⟨b,0,none⟩=some (.int .i64 i)):aM bJ w b 0 [i] :=
 ⟨lt_of_cell h,fun j hj m v hv=>by
  obtain rfl:j=0:=by simpa using hj
  cases m with
  | zero=>have e:some (Value.int .i64 (i:Int))=some v:=hv;cases e;simpa [bJ] using h
  | succ m=>simp [bJ] at hv⟩
theorem wL {b:Nat} {p:Nat × Nat} (h0:w.cell? ⟨b,0,none⟩=some (.int .i64 p.1)) (h1:w.cell? ⟨b,1,none⟩=some (.int .i64 p.2)):aM aJ w b 0 [p] :=
 ⟨lt_of_cell h0,fun j hj m v hv=>by
  obtain rfl:j=0:=by simpa using hj
  match m,hv with
  | 0,hv=>have e:some (Value.int .i64 (p.1:Int))=some v:=hv;cases e;simpa [aJ] using h0
  | 1,hv=>have e:some (Value.int .i64 (p.2:Int))=some v:=hv;cases e;simpa [aJ] using h1
  | m+2,hv=>simp [aJ] at hv⟩
theorem aM.nat {b off:Nat} {o:List Nat} (h:aM bJ w b off o) {m:Nat} (hm:m<o.length):w.cell? ⟨b,off+m,none⟩=some (.int .i64 (o[m]:Nat)):=by
 have:=h.at_ m hm 0 _ rfl;simpa [bJ] using this
theorem LY {l:List Bx} {m k:Nat} (h:k ∈ jq l m):k<m:=by unfold jq at h;exact List.mem_range.1 (List.mem_filter.1 h).1
theorem JE (l:List Bx) (m:Nat):(jq l m).length≤m:=by unfold jq;exact Nat.le_trans (List.length_filter_le _ _) (by simp)
theorem DR (l:List Bx) (op:List Nat) (i:Nat):(kr l op i).length≤op.length:=List.length_filter_le _ _
theorem Em (l:List Bx) (op:List Nat) (i:Nat):(kT l op i).length≤op.length:=by unfold kT;rw [List.length_map];exact List.length_filter_le _ _
theorem Ib {l : List Bx} : ∀ (o : List Nat) (s : List Nat × List (Nat × Nat)) (k : Nat), k ∈ (tL l o s).1 → k ∈ s.1 ∨ k ∈ o
 | [],s,k,h=>.inl h
 | i :: o,s,k,h=>by
  rw [tL] at h
  rcases Ib o _ k h with g | g
  ·rw [List.mem_append, List.mem_singleton] at g
   rcases g with g | g
   ·exact .inl (List.mem_filter.1 g).1
   ·exact .inr (by rw [g];exact List.mem_cons_self ..)
  ·exact .inr (List.mem_cons_of_mem _ g)
theorem BG {l : List Bx} : ∀ (o : List Nat) (s : List Nat × List (Nat × Nat)), (tL l o s).1.length ≤ s.1.length + o.length ∧ (tL l o s).2.length ≤ s.2.length + o.length * (s.1.length + o.length)
 | [],s=>by simp [tL]
 | i :: o,s=>by
  rw [tL]
  obtain ⟨h1,h2⟩:=BG (l:=l) o (kr l s.1 i ++ [i],s.2 ++ kT l (kr l s.1 i) i)
  have g1:=DR l s.1 i
  have g2:=Em l (kr l s.1 i) i
  simp only [List.length_append,List.length_cons,List.length_nil,Nat.zero_add] at *
  refine ⟨by omega,?_⟩
  have m1:o.length*((kr l s.1 i).length+1+o.length)≤o.length*(s.1.length+(o.length+1)):=Nat.mul_le_mul_left _ (by omega)
  have m2:(o.length+1)*(s.1.length+(o.length+1))=o.length*(s.1.length+(o.length+1))+(s.1.length+(o.length+1)):=by rw [Nat.add_mul,Nat.one_mul]
  omega

structure PY (w2 : World) (gi i : Nat) (s : Value) (op : List Nat) (t : Value) (out : List (Nat × Nat)) (w : World) : Prop where
 px:PX w2 s op t out w
 ci:w.cell? ⟨gi,0,none⟩=some (.int .i64 i)
 ns:∀ k,s.ownBlock=some k→k≠gi
 nt:∀ k,t.ownBlock=some k→k≠gi
theorem PY.keep {w2:World} {gi i:Nat} {s t:Value} {op:List Nat} {out:List (Nat × Nat)} {w w':World} (hb:Below w.heap.size w w') (h:PY w2 gi i s op t out w):PY w2 gi i s op t out w':=⟨h.px.keep hb,keepCell hb h.ci,h.ns,h.nt⟩
theorem PY.set2 {w2:World} {gi i:Nat} {s t t':Value} {op:List Nat} {out out':List (Nat × Nat)} {w w':World} (h:PY w2 gi i s op t out w) (ho:aN aJ 72 w' w2.heap.size t' out') (hg:w.grownBy w' t.ownBlock) (hat:t'.ownBlock=t.ownBlock∨t'.ownBlock=some w.heap.size):PY w2 gi i s op t' out' w':=by
 refine ⟨h.px.set2 ho hg hat,hg.cell h.ci (fun e=>h.nt gi e.symm rfl),h.ns,fun k hk=>?_⟩
 rcases hat with q | q
 ·exact h.nt k (by rw [← q];exact hk)
 ·have := lt_of_cell h.ci;rw [q] at hk
  cases hk
  omega
theorem mI (A:Option Addr) (n c:Nat) (l:List Bx) (w:World) (hS:dN dn w A n c l) (hlen:l.length≤1000):Calls Tryz.prog 30 #[.slice A n c] w (Kr (dM l) w):=by
 have hn:=hS.len;subst hn;have HS:=hid hS;have HV:=hid iM;clear hS;obtain ⟨gb,hgb⟩:∃ g,g=w.heap.size:=⟨_,rfl⟩;have HP0:Hid (PW w gb (.slice A l.length c) (.slice none 0 0) (jq l 0) (w.alloc (.cells #[.slice A l.length c] 62))):=⟨by rw [hgb];go_simp,aN.nil _ _ _ _,by go_grown,by omega⟩;have HGB:=hid hgb
 go_enter Tryz.func30,Tryz.ntmps30
 go_wp2;rw [← hgb];clear hgb
 go_loopw [3,14] (fun s j wr=>∃ k:Nat,k≤l.length∧j = .int .i64 k∧PW w gb (.slice A l.length c) s (jq l k) wr) (fun _ j _=>l.length-(intOf j).toNat)
 case atStart=>exact ⟨0,Nat.zero_le _,rfl,HP0.out⟩
 case round =>
  clear HP0;obtain ⟨k,hk,rfl,hpw⟩:=hrel;obtain ⟨wo,rfl⟩:∃ wo:World,wo=wr:=⟨_,rfl⟩;have HPW:=hid hpw
  by_cases hlt:k<l.length
  ·have hlt' : (k : Int) < (l.length : Int) := by omega
   obtain ⟨b,off,rfl,hC⟩:=(HS.out.below hpw.bel).at_ (by intro h;subst h;simp at hlt);obtain ⟨x0,x1,x2,x3⟩:=hC.box hlt;have hbl:=hC.lt;have hwk:IntKind.i64.wrap ((k:Int)+1)=(k:Int)+1:=IntWalk.i64_in _ (by omega);have HO:=hid (GR l k);have HOL:Hid ((jq l k).length≤1000):=by show _≤_;unfold jq;exact Nat.le_trans (List.length_filter_le _ _) (by simp;omega)
   have HVK:=hid (HV.out (aV l k).1.1 (aV l k).1.2 (aV l k).2.1 (aV l k).2.2)
   change Hid (∀ w,Calls _ _ _ w (dS (.bool (fJ (aV l k))) w)) at HVK
   generalize fJ (aV l k)=vk at *
   generalize (aV l k).1.1=z0 at *
   generalize (aV l k).1.2=z1 at *
   generalize (aV l k).2.1=z2 at *
   generalize (aV l k).2.2=z3 at *
   obtain ⟨wp,hwp⟩:∃ w',w'=wo.alloc (.cells #[.int .i64 z0,.int .i64 z1,.int .i64 z2,.int .i64 z3] 64):=⟨_,rfl⟩;obtain ⟨gp,hgp⟩:∃ g,g=wo.heap.size:=⟨_,rfl⟩;have p0:wp.cell? ⟨gp,0,none⟩=some (.int .i64 z0):=by rw [hwp,hgp];go_simp
   have p1:wp.cell? ⟨gp,1,none⟩=some (.int .i64 z1):=by rw [hwp,hgp];go_simp
   have p2:wp.cell? ⟨gp,2,none⟩=some (.int .i64 z2):=by rw [hwp,hgp];go_simp
   have p3:wp.cell? ⟨gp,3,none⟩=some (.int .i64 z3):=by rw [hwp,hgp];go_simp
   have HP:Hid (PW w gb (.slice (some ⟨b,off,none⟩) l.length c) u3 (jq l k) wp):=by show PW _ _ _ _ _ _;rw [hwp];exact HPW.out.keep Ba
   generalize jq l k=o at *
   clear hC hpw
   go_upto_region 5 with fail
   rw [← hwp,← hgp];clear hwp hgp x0 x1 x2 x3 hbl HPW
   go_wp2_with fail
   refine (HVK.out _).mono ?_;rintro e w1 ⟨rfl,hb1⟩;replace HP:=hid (HP.out.keep hb1);clear hb1 p0 p1 p2 p3 HVK
   cases vk with
   | true =>
    have HO2:Hid (jq l (k+1)=o ++ [k]):=by show _=_;rw [HO.out];rfl
    clear HO
    go_wp2_with (at_builtin;refine fq Nv rfl _ _ rfl (gb+1) _ _ rfl (HP.out.own.alloc _) w1.heap.size 0 1 1 [k] rfl rfl (zx (by go_simp)) (by have:=HOL.out;simp;omega) (by have:=HOL.out;simp;omega) (by have:=lt_of_cell HP.out.cb;simp;omega) ?_;intro v' w7 ho1 hg1 hat;have HP7:=hid ((HP.out.keep Ba).app ho1 hg1);clear ho1 hg1 hat)
    clear HP;go_roundw
    case rel=>exact ⟨k+1,hlt,by go_num,by rw [HO2.out];exact HP7.out⟩
    case measure=>simp [intOf];omega
   | false =>
    have HO2:Hid (jq l (k+1)=o):=by show _=_;rw [HO.out];simp
    clear HO;go_wp2;go_roundw
    case rel=>exact ⟨k+1,hlt,by go_num,by rw [HO2.out];exact HP.out⟩
    case measure=>simp [intOf];omega
  ·have hke : k = l.length := by omega
   subst hke;have hol:=JE l l.length;have HMEM:Hid (∀ k,k ∈ jq l l.length→k<l.length):=fun k hk=>LY hk
   have HSO:=hid (yZ l (jq l l.length) HMEM.out gb c (gb+1) _ wo (fun hne=>by
    obtain ⟨b,off,e,hC⟩:=HS.out.at_ (by intro h;subst h;exact hne rfl)
    exact ⟨b,off,by rw [← e];exact hpw.cb,by have:=hC.lt;have:=HGB.out;omega,hC.below (by have:=hpw.bel;exact this)⟩) (Nat.lt_succ_self gb) hpw.own (by omega))
   obtain ⟨hcb,hown,hbel,hle⟩:=hpw;have HCB:=hid hcb;have HOWN:=hid hown;have HBEL:=hid hbel;have HLE:=hid hle;clear hcb hown hbel hle HPW
   go_wp2_with fail
   refine HSO.out.mono ?_;rintro e w2 ⟨rfl,⟨o,hperm,hsrt,how⟩,hgr⟩;have HCB2:=hid (hgr.cell HCB.out (HOWN.out.ne (Nat.lt_succ_self gb)));have HBEL2:=hid (HBEL.out.grown hgr HBEL.out.size (fun k hk=>by have:=(HOWN.out.lt hk).1;have:=HLE.out;omega));have HPERM:=hid hperm;have HSRT:=hid hsrt;have HOM:Hid (∀ k ∈ o,k<l.length):=fun k hk=>HMEM.out k (HPERM.out.mem_iff.1 hk)
   have HOL:Hid (o.length≤1000):=by show _≤_;rw [HPERM.out.length_eq];omega
   have hgb2:=lt_of_cell HCB2.out;have hw2:=HBEL2.out.size;obtain ⟨Ao,no,co,rfl,hso,-⟩:=how.sl;have hno:=hso.len;subst hno;have HSO2:=hid hso;have hol2:=HOL.out;clear HSO hperm hsrt how hgr HCB HOWN HBEL HLE hso hlt hk hol HMEM;go_wp2
   go_loopw [6,7,31] (fun s t j wr=>∃ m:Nat,m≤o.length∧j = .int .i64 m∧PX w2 s (tL l (o.take m) ([],[])).1 t (tL l (o.take m) ([],[])).2 wr) (fun _ _ j _=>o.length-(intOf j).toNat)
   case atStart=>exact ⟨0,Nat.zero_le _,rfl,aN.nil _ _ _ _,aN.nil _ _ _ _,.inl rfl,Below.refl _ _⟩
   case round =>
    obtain ⟨m,hm,rfl,hpx⟩:=hrel;obtain ⟨wo2,rfl⟩:∃ wo:World,wo=wr:=⟨_,rfl⟩;have HPX:=hid hpx
    by_cases hlt:m<o.length
    ·have hlt' : (m : Int) < (o.length : Int) := by omega
     have hwkm:IntKind.i64.wrap ((m:Int)+1)=(m:Int)+1:=IntWalk.i64_in _ (by omega);have HST:Hid (tL l (o.take (m+1)) ([],[])=(kr l (tL l (o.take m) ([],[])).1 o[m] ++ [o[m]],(tL l (o.take m) ([],[])).2 ++ kT l (kr l (tL l (o.take m) ([],[])).1 o[m]) o[m])):=EA o m _ hlt;have hil:=HOM.out o[m] (List.getElem_mem hlt);obtain ⟨sl1,sl2⟩:=BG (l:=l) (o.take m) ([],[]);have htl:(o.take m).length=m:=by rw [List.length_take];omega
     rw [htl] at sl1 sl2
     have HOP:Hid (∀ k ∈ (tL l (o.take m) ([],[])).1,k<l.length):=fun k hk=>by
      rcases Ib _ _ k hk with g | g
      ·cases g
      ·exact HOM.out k (List.mem_of_mem_take g)
     obtain ⟨bO,oO,hAo,hCo⟩:=(HSO2.out.below hpx.bel).at_ (by intro h;rw [h] at hlt;simp at hlt);subst hAo;have xo:=hCo.nat hlt;have hblo:=hCo.lt;generalize (tL l (o.take m) ([],[])).1=op at *
     generalize (tL l (o.take m) ([],[])).2=out at *
     have HOPL:Hid (op.length≤1000):=by show _≤_;simp at sl1;omega
     have HOUL:Hid (out.length≤1000000):=by
      show _≤_;simp at sl2;have:m*m≤1000*1000:=Nat.mul_le_mul (by omega) (by omega);omega
     obtain ⟨i,hie⟩:∃ i,i=o[m]:=⟨_,rfl⟩;rw [← hie] at HST hil xo;have hil':(i:Int)<(l.length:Int):=by omega
     obtain ⟨b,off,hA,hC0⟩:=HS.out.at_ (by intro h;rw [h] at hil;simp at hil);subst hA;have hb0:=hC0.lt;have HC0:=hid hC0;obtain ⟨gi,hgi⟩:∃ g,g=wo2.heap.size:=⟨_,rfl⟩;obtain ⟨wi,hwi⟩:∃ w',w'=wo2.alloc (.cells #[.int .i64 i] 3):=⟨_,rfl⟩;have HPY:Hid (PY w2 gi i u6 op u7 out wi):=⟨by rw [hwi];exact hpx.keep Ba,by rw [hwi,hgi];go_simp,fun k hk=>by rw [hgi];have:=(hpx.o1.lt hk).2;omega,fun k hk=>by rw [hgi];have:=(hpx.o2.lt hk).2;omega⟩;have HBI:Hid (Below w.heap.size w wi):=HBEL2.out.trans (HPY.out.px.bel.mono hw2);have HDL:=hid (yC l op i HOP.out hil gb gi b off c w2.heap.size _ wi (keepCell HPY.out.px.bel HCB2.out) HPY.out.ci HPY.out.ns (HC0.out.below HBI.out) hgb2 (by omega) HPY.out.px.o1 (by have:=HOPL.out;omega));clear hpx hCo hC0 hie sl1 sl2 htl HPX
     go_upto_region 14 with fail
     rw [← hwi,← hgi];clear hwi hgi xo hblo
     go_wp2_with fail
     refine HDL.out.mono ?_;rintro e w5 ⟨⟨s',rfl,hat,ho1⟩,hg⟩;have HPY5:Hid (PY w2 gi i s' (kr l op i) u7 out w5):=⟨HPY.out.px.set1 ho1 hg (.inl hat),hg.cell HPY.out.ci (fun e=>HPY.out.ns gi e.symm rfl),fun k hk=>HPY.out.ns k (by rw [← hat];exact hk),HPY.out.nt⟩;have HKL:Hid ((kr l op i).length≤1000):=by have:=DR l op i;have:=HOPL.out;show _≤_;omega
     have HKM:Hid (∀ k ∈ kr l op i,k<l.length):=fun k hk=>HOP.out k (List.mem_filter.1 hk).1
     generalize kr l op i=op1 at *
     obtain ⟨A1,n1,c1,rfl,hs1,-⟩:=ho1.sl;have hn1:=hs1.len;subst hn1;have hkl:=HKL.out;clear HDL hat ho1 hg hs1 HPY HBI HOP HOPL;go_wp2
     go_loopw [7,40] (fun t j wr=>∃ k:Nat,k≤op1.length∧j = .int .i64 k∧PY w2 gi i (.slice A1 op1.length c1) op1 t (out ++ kT l (op1.take k) i) wr) (fun _ j _=>op1.length-(intOf j).toNat)
     case atStart=>exact ⟨0,Nat.zero_le _,rfl,by simpa [kT] using HPY5.out⟩
     case round =>
      clear HPY5;obtain ⟨k,hk,rfl,hpy⟩:=hrel;obtain ⟨wv,rfl⟩:∃ wo:World,wo=wr:=⟨_,rfl⟩;have HPY:=hid hpy
      by_cases hlt2:k<op1.length
      ·have hlt2' : (k : Int) < (op1.length : Int) := by omega
       have hwkk:IntKind.i64.wrap ((k:Int)+1)=(k:Int)+1:=IntWalk.i64_in _ (by omega);have HOT:=hid (Jv l op1 i k hlt2);have hkl2:=HKM.out op1[k] (List.getElem_mem hlt2);have HOTL:Hid ((kT l (op1.take k) i).length≤1000):=by have:=Em l (op1.take k) i;rw [List.length_take] at this;show _≤_;omega
       rcases hpy.px.o1.form with ⟨e1,e2⟩ | ⟨g1,cp1,e1,hB1,hg1,hn1,hm1,hf1,hc1⟩
       ·rw [e2] at hlt2;simp at hlt2
       ·cases e1
        have xk:=hc1.nat hlt2;rw [Nat.zero_add] at xk;obtain ⟨kk,hkk⟩:∃ i,i=op1[k]:=⟨_,rfl⟩;rw [← hkk] at HOT hkl2 xk;have hkl2':(kk:Int)<(l.length:Int):=by omega
        have hBw:Below w.heap.size w wv:=HBEL2.out.trans (hpy.px.bel.mono hw2);have hCv:=HC0.out.below hBw;obtain ⟨-,u1,-,u3⟩:=hCv.box hil;obtain ⟨-,v1,-,v3⟩:=hCv.box hkl2;have g0:=keepCell hpy.px.bel HCB2.out;have g1':=hpy.ci;have hblv:=hCv.lt;have HYM:Hid (wW l i kk=(decide ((aV l kk).1.2≤(aV l i).2.2) && decide ((aV l i).1.2≤(aV l kk).2.2))):=rfl;generalize wW l i kk=ym at *
        generalize (aV l i).1.2=x1 at *
        generalize (aV l i).2.2=x3 at *
        generalize (aV l kk).1.2=y1 at *
        generalize (aV l kk).2.2=y3 at *
        have hBv:Below wv.heap.size wv wv.drew:=(Below.refl _ _).drew;clear hpy hc1 hCv hBw hkk hf1
        by_cases d1:y1≤x3
        ·go_upto_region 18 with fail
         refine wp_region_noPanic ?_;refine au (S:=(S2 (fun w'=>w'.cell? ⟨gb,0,none⟩=some (.slice (some ⟨b,off,none⟩) l.length c)∧w'.cell? ⟨gi,0,none⟩=some (.int .i64 i)∧w'.cell? ⟨b,off+i*4+1,none⟩=some (.int .i64 x1)∧w'.cell? ⟨b,off+i*4+3,none⟩=some (.int .i64 x3)∧w'.cell? ⟨b,off+kk*4+1,none⟩=some (.int .i64 y1)∧w'.cell? ⟨b,off+kk*4+3,none⟩=some (.int .i64 y3)∧Below wv.heap.size wv w'))) (T:=(fun _=>0)) (by kernel_rfl) (aK ⟨g0,g1',u1,u3,v1,v3,hBv⟩) (fun hH=>?_);have hWr1:aG (S2 (fun w'=>w'.cell? ⟨gb,0,none⟩=some (.slice (some ⟨b,off,none⟩) l.length c)∧w'.cell? ⟨gi,0,none⟩=some (.int .i64 i)∧w'.cell? ⟨b,off+i*4+1,none⟩=some (.int .i64 x1)∧w'.cell? ⟨b,off+i*4+3,none⟩=some (.int .i64 x3)∧w'.cell? ⟨b,off+kk*4+1,none⟩=some (.int .i64 y1)∧w'.cell? ⟨b,off+kk*4+3,none⟩=some (.int .i64 y3)∧Below wv.heap.size wv w')):=aI _;refine dG [(0,44),(1,45),(2,46),(3,47),(4,48),(5,49),(6,50),(7,51),(8,52),(9,53),(10,54),(11,55),(12,56),(13,57),(14,58),(15,59),(16,60),(17,61),(18,62),(19,63),(20,64),(21,65),(22,66),(23,67),(24,68),(25,69),(26,70),(27,71)] 0 0 0 (L':=?Lr1_1) hWr1 hH ?hyr1_1 ?_
         case hyr1_1=>((iterate 28 apply dF;rfl;kernel_rfl;intro w' hSw;replace hSw:=aB hSw;(try dsimp only at hSw);have q0:=hSw.1;have q1:=hSw.2.1;have q2:=hSw.2.2.1;have q3:=hSw.2.2.2.1;have q4:=hSw.2.2.2.2.1;have q5:=hSw.2.2.2.2.2.1;have q6:=hSw.2.2.2.2.2.2;(try simp only [sB,sC]);go_simp;(try with_reducible rfl));exact dD)
         simp only [sB,sC];refine ak (by kernel_rfl) ?_ _ _;refine NoPanic.normal ?_;clear hWr1;replace hH:=aB hH
         (try dsimp only at hH)
         have q0:=hH.1;have q1:=hH.2.1;have q2:=hH.2.2.1;have q3:=hH.2.2.2.1;have q4:=hH.2.2.2.2.1;have q5:=hH.2.2.2.2.2.1;have q6:=hH.2.2.2.2.2.2;clear hH;have HPQ:=hid (HPY.out.keep q6);clear HPY g0 g1' u1 u3 v1 v3 hBv q0 q2 q3 q4 q5 q6 xk;generalize wv.drew=wq at *
         by_cases d2:x1≤y3
         ·have HO2 : Hid (kT l (op1.take (k + 1)) i = kT l (op1.take k) i ++ [E5 i kk]) := by show _ = _; rw [HOT.out, HYM.out, decide_eq_true d1, decide_eq_true d2]; rfl
          have e1:((E5 i kk).1:Int)=min (i:Int) (kk:Int):=by unfold E5;dsimp only;omega
          have e2:((E5 i kk).2:Int)=max (i:Int) (kk:Int):=by unfold E5;dsimp only;omega
          have HE:=hid (And.intro e1 e2);clear HOT HYM e1 e2
          go_wp2_with (at_builtin;refine fq Ko rfl _ _ rfl w2.heap.size _ _ rfl (HPQ.out.px.o2.alloc _) wq.heap.size 0 1 1 [E5 i kk] rfl rfl (wL (by rw [HE.out.1];go_simp) (by rw [HE.out.2];go_simp)) (by have:=HOUL.out;have:=HOTL.out;simp;omega) (by have:=HOUL.out;have:=HOTL.out;simp;omega) (by have:=HPQ.out.px.bel.size;simp;omega) ?_;intro v' w7 ho1 hg1 hat;have HP7:=hid ((HPQ.out.keep Ba).set2 ho1 hg1 hat);clear ho1 hg1 hat)
          clear HPQ q1;go_roundw
          case rel=>exact ⟨k+1,hlt2,by go_num,by rw [HO2.out,← List.append_assoc];exact HP7.out⟩
          case measure=>simp [intOf];omega
         ·have HO2 : Hid (kT l (op1.take (k + 1)) i = kT l (op1.take k) i) := by show _ = _; rw [HOT.out, HYM.out, decide_eq_true d1, decide_eq_false d2]; simp
          clear HOT HYM q1;go_wp2;go_roundw
          case rel=>exact ⟨k+1,hlt2,by go_num,by rw [HO2.out];exact HPQ.out⟩
          case measure=>simp [intOf];omega
        ·go_upto_region 18 with fail
         refine wp_region_noPanic ?_;refine au (S:=(S2 (fun w'=>w'.cell? ⟨gb,0,none⟩=some (.slice (some ⟨b,off,none⟩) l.length c)∧w'.cell? ⟨gi,0,none⟩=some (.int .i64 i)∧w'.cell? ⟨b,off+i*4+1,none⟩=some (.int .i64 x1)∧w'.cell? ⟨b,off+i*4+3,none⟩=some (.int .i64 x3)∧w'.cell? ⟨b,off+kk*4+1,none⟩=some (.int .i64 y1)∧w'.cell? ⟨b,off+kk*4+3,none⟩=some (.int .i64 y3)∧Below wv.heap.size wv w'))) (T:=(fun _=>0)) (by kernel_rfl) (aK ⟨g0,g1',u1,u3,v1,v3,hBv⟩) (fun hH=>?_);have hWr2:aG (S2 (fun w'=>w'.cell? ⟨gb,0,none⟩=some (.slice (some ⟨b,off,none⟩) l.length c)∧w'.cell? ⟨gi,0,none⟩=some (.int .i64 i)∧w'.cell? ⟨b,off+i*4+1,none⟩=some (.int .i64 x1)∧w'.cell? ⟨b,off+i*4+3,none⟩=some (.int .i64 x3)∧w'.cell? ⟨b,off+kk*4+1,none⟩=some (.int .i64 y1)∧w'.cell? ⟨b,off+kk*4+3,none⟩=some (.int .i64 y3)∧Below wv.heap.size wv w')):=aI _;refine dG [(0,44),(1,45),(2,46),(3,47),(4,48),(5,49),(6,50),(7,51),(8,52),(9,53),(10,54),(11,55),(12,56),(13,57)] 14 0 0 (L':=?Lr2_1) hWr2 hH ?hyr2_1 ?_
         case hyr2_1=>((iterate 14 apply dF;rfl;kernel_rfl;intro w' hSw;replace hSw:=aB hSw;(try dsimp only at hSw);have q0:=hSw.1;have q1:=hSw.2.1;have q2:=hSw.2.2.1;have q3:=hSw.2.2.2.1;have q4:=hSw.2.2.2.2.1;have q5:=hSw.2.2.2.2.2.1;have q6:=hSw.2.2.2.2.2.2;(try simp only [sB,sC]);go_simp;(try with_reducible rfl));exact dD)
         simp only [sB,sC];refine iD (by kernel_rfl) (fun _ _ _ _ h=>h) hWr2 0 0 (by omega) hH [(14,58),(15,59),(16,60),(17,61),(18,62),(19,63),(20,64),(21,65),(22,66),(23,67),(24,68),(25,69),(26,70)] 1 _ _ _ (by kernel_rfl) (by kernel_rfl) ?_;simp only [dV,List.set_cons_zero,List.set_cons_succ];refine Ut 27 71 0 0 0 (v:=?vr2_15) rfl hWr2 hH ?hyr2_15 ?_
         case hyr2_15=>(intro w' hSw;clear hSw;go_simp;try (with_reducible rfl))
         simp only [sB,sC];refine ak (by kernel_rfl) ?_ _ _;refine NoPanic.normal ?_;clear hWr2;replace hH:=aB hH
         (try dsimp only at hH)
         have q0:=hH.1;have q1:=hH.2.1;have q2:=hH.2.2.1;have q3:=hH.2.2.2.1;have q4:=hH.2.2.2.2.1;have q5:=hH.2.2.2.2.2.1;have q6:=hH.2.2.2.2.2.2;clear hH;have HPQ:=hid (HPY.out.keep q6);have HO2:Hid (kT l (op1.take (k+1)) i=kT l (op1.take k) i):=by show _=_;rw [HOT.out,HYM.out,decide_eq_false d1];simp
         clear HPY g0 g1' u1 u3 v1 v3 hBv q0 q1 q2 q3 q4 q5 q6 xk HOT HYM;generalize wv.drew=wq at *
         go_wp2;go_roundw
         case rel=>exact ⟨k+1,hlt2,by go_num,by rw [HO2.out];exact HPQ.out⟩
         case measure=>simp [intOf];omega
      ·have hke : k = op1.length := by omega
       subst hke;rw [List.take_length] at HPY;have ci:=hpy.ci;clear hpy
       go_wp2_with (at_builtin;refine fq Nv rfl _ _ rfl w2.heap.size _ _ rfl (HPY.out.px.o1.alloc _) wv.heap.size 0 1 1 [i] rfl rfl (zx (by go_simp)) (by have:=HKL.out;simp;omega) (by have:=HKL.out;simp;omega) (by have:=HPY.out.px.bel.size;simp;omega) ?_;intro v' w7 ho1 hg1 hat;have HP7:=hid ((HPY.out.px.keep Ba).set1 ho1 hg1 hat);clear ho1 hg1 hat)
       clear HPY ci;go_roundw
       case rel=>exact ⟨m+1,hlt,by go_num,by rw [HST.out];exact HP7.out⟩
       case measure=>simp [intOf];omega
    ·have hme : m = o.length := by omega
     subst hme;rw [List.take_length] at HPX;have hfin:=BG (l:=l) o ([],[])
     have hfl:(tL l o ([],[])).2.length≤1000000:=by
      have:=hfin.2;simp at this;have:o.length*o.length≤1000*1000:=Nat.mul_le_mul (by omega) (by omega);omega
     have HSP:=hid (uX _ w2.heap.size _ wo2 HPX.out.o2 hfl);clear hpx hfin hfl
     go_wp2_with fail
     refine HSP.out.mono ?_;rintro e w5 ⟨rfl,⟨r,hrp,hrs,hro⟩,hg⟩;have HLAW:=hid (Jo HPERM.out HSRT.out hrp (hrs.imp fun h=>Int.not_lt.2 h));have HB5:Hid (Below w.heap.size w w5):=HBEL2.out.trans ((HPX.out.bel.grown hg HPX.out.bel.size (fun k hk=>(HPX.out.o2.lt hk).1)).mono hw2);obtain ⟨Ar,nr,cr,rfl,hsr,hfr⟩:=hro.sl;have HRT:Hid (Kr (dM l) w (.returned (.slice Ar nr cr)) w5):=⟨_,rfl,by rw [← HLAW.out];exact hro.mono hw2,HB5.out⟩;clear hrp hrs hro hg HSP HLAW HB5 hsr hfr HPX;go_wp2;refine bodyPost_ret (v:=.slice Ar nr cr) (by simp [results,Tryz.results30,go_sem]) rfl HRT.out
theorem Dh (A:Option Addr) (n c:Nat) (l:List Bx) (w:World) (hS:dN dn w A n c l) (hlen:l.length≤1000):Calls Tryz.prog 30 #[.slice A n c] w (Qs (dM l) w) :=
 (mI A n c l w hS hlen).mono fun e w' h=>by
  obtain ⟨s,rfl,ho,hb⟩:=h
  obtain ⟨A',n',c',rfl,hs,hf⟩:=ho.sl
  exact ⟨A',n',c',rfl,hs,hf,hb⟩
end
end Go.Proofs.YtokgmcomgflloaaGreat
