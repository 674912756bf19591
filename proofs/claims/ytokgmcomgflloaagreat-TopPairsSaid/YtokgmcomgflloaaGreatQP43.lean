/- Parts of a proof: contracts and laws. -/
import Derived.Test.YtokgmcomgflloaaGreatQP42
import Derived.Test.YtokgmcomgflloaaGreatQP03
set_option maxRecDepth 100000
set_option maxHeartbeats 16000000
namespace Go.Proofs.YtokgmcomgflloaaGreat
section
set_option linter.unusedVariables false
set_option linter.unusedSimpArgs false
open Go.RowKit
variable {w0 w w':World}
theorem yM {w : World} {g : Nat} {s : TS} (h : Mem w g s) {u : Nat} {l r : TB} {up : Option Addr} {C : List dI} (hR : (TB.nd u l r).Rp s up) (hC : nR s C up u) (hCd : (iX C).Nodup)
  (hd:(u :: (l.blocks ++ r.blocks)).Nodup) (hdis:∀ k ∈ (u :: (l.blocks ++ r.blocks)),k ∉ iX C) (hH:l.tr.ht≤1000∧r.tr.ht≤1000) :
  Calls Tryz.prog 136 #[.pointer (pA g),.pointer (pA u)] w (mW g u l r up C s w):=by
 by_cases h1:l.tr.ht≤r.tr.ht+1∧r.tr.ht≤l.tr.ht+1
 ·exact BD h hR hC hH h1
 ·by_cases h2 : l.tr.ht + 1 < r.tr.ht
  ·cases r with
   | lf i id b=>simp [TB.tr,Tr.ht] at h2
   | nd q c d =>
    have e:=TB.tr_ht q c d
    have p:(u :: q :: (l.blocks ++ (c.blocks ++ d.blocks))).Perm (u :: (l.blocks ++ (TB.nd q c d).blocks)):=by
     refine List.perm_iff_count.2 fun a=>?_
     simp only [TB.blocks,List.count_cons,List.count_append];omega
    exact yw h hR hC hCd ((List.Perm.nodup_iff p).2 hd) (fun k hk=>hdis k (p.mem_iff.1 hk)) ⟨hH.1,by omega,by omega⟩ h2
  ·cases l with
   | lf i id b =>
    have:(TB.lf i id b).tr.ht=0:=rfl;omega
   | nd q c d =>
    have e:=TB.tr_ht q c d
    have p:(u :: q :: (r.blocks ++ (c.blocks ++ d.blocks))).Perm (u :: ((TB.nd q c d).blocks ++ r.blocks)):=by
     refine List.perm_iff_count.2 fun a=>?_
     simp only [TB.blocks,List.count_cons,List.count_append];omega
    exact yK h hR hC hCd ((List.Perm.nodup_iff p).2 hd) (fun k hk=>hdis k (p.mem_iff.1 hk)) ⟨hH.2,by omega,by omega⟩ (by omega)

def dI.l (f:dI) (t:TB):TB:=if f.left=true then t else f.sib
def dI.r (f:dI) (t:TB):TB:=if f.left=true then f.sib else t

def jF : List dI → TB → TB
 | [],t=>t
 | f :: C,t=>jF C (eX f.p (f.l t) (f.r t))
def lU : List dI → Option Addr
 | []=>none
 | f :: _=>pA f.p
theorem nR.up {s : TS} : ∀ {C : List dI} {up : Option Addr} {u : Nat}, nR s C up u → up = lU C
 | [],_,_,h=>h.1
 | _ :: _,_,_,h=>h.1
theorem rW (f:dI) (t:TB):((f.l t).blocks ++ (f.r t).blocks).Perm (t.blocks ++ f.sib.blocks):=by
 unfold dI.l dI.r
 cases f.left with
 | true=>exact List.Perm.refl _
 | false=>exact List.perm_append_comm
theorem Kz (u:Nat) (l r:TB):(eX u l r).tr.ht≤1+max l.tr.ht r.tr.ht:=by
 have lift:∀ low high:Tr,low.ht+1<high.ht→(sF low high).ht≤1+high.ht:=fun low high hh=>by
  cases high with
  | lf i b=>simp [Tr.ht] at hh
  | nd p q =>
   rw [Ad];simp only [Tr.ht] at hh ⊢
   split <;> simp only [Tr.ht] <;> omega
 rw [xL];unfold kU
 split
 ·split
  ·simp only [Tr.ht];omega
  ·have:=lift r.tr l.tr (by omega);omega
 ·split
  ·simp only [Tr.ht];omega
  ·have:=lift l.tr r.tr (by omega);omega

structure Ql (s : TS) (g : Nat) (C : List dI) (t : TB) (H : Nat) : Prop where
 tree:t.Rp s (lU C)
 above:nR s C (lU C) t.root
 nodup:(t.blocks ++ iX C).Nodup
 ht:t.tr.ht≤H
 sib:∀ f ∈ C,f.sib.tr.ht≤300
theorem J9 {g:Nat} {s:TS} (h:Mem w g s) {f:dI} {C:List dI} {t:TB} {H:Nat} (hH:H≤700) (hM:Ql s g (f :: C) t H) :
  Calls Tryz.prog 135 #[.pointer (pA f.p)] w (fun e w'=>∃ s',e = .returned (.tuple #[])∧Mem w' g s'∧Out (s.In g) w w'∧(TB.nd f.p (f.l t) (f.r t)).Rp s' (lU C)∧nR s' C (lU C) f.p∧s'.lv=s.lv∧s'.cnt=s.cnt∧(∀ k,k≠f.p→s'.nd k=s.nd k)∧∀ i,s'.In g i→s.In g i):=by
 obtain ⟨hT,hA,hN,hh,hS⟩:=hM;obtain ⟨-,up',e1,e2,e3⟩:=hA;have hup:=e3.up;subst hup;obtain ⟨dt,dc,dx⟩:=List.nodup_append.1 hN;have dc:(f.p :: (f.sib.blocks ++ iX C)).Nodup:=dc;obtain ⟨dp,dc⟩:=List.nodup_cons.1 dc;have nt:∀ k ∈ t.blocks,k≠f.p:=fun k hk e=>dx k hk f.p (by simp [iX]) e
 have ns:∀ k ∈ f.sib.blocks,k≠f.p:=fun k hk e=>dp (by rw [← e];simp [hk])
 have nc:∀ k ∈ iX C,k≠f.p:=fun k hk e=>dp (by rw [← e];simp [hk])
 obtain ⟨rt,ht1,-,bt,tt⟩:=TB.Rp.top hT;obtain ⟨rs,hs1,-,bs,ts⟩:=e2.top;have hsf:=hS f (by simp);have b1:=zS (t:=t) (by omega) tt;have b2:=zS (t:=f.sib) (by omega) ts
 have fin : ∀ (w' : World) (l r : TB) (rl rr : NR), l = f.l t → r = f.r t → rl.bx = oh l → rl.ht = AY l → rr.bx = oh r → rr.ht = AY r → l.Rp s (pA f.p) → r.Rp s (pA f.p) → (∀ k ∈ l.blocks, k ≠ f.p) → (∀ k ∈ r.blocks, k ≠ f.p) → JC g s (s.set f.p ⟨fF rl.bx rr.bx, 0, 1 + max rl.ht rr.ht, lU C, pA l.root, pA r.root⟩) (.tuple #[]) w (.returned (.tuple #[])) w' →
   ∃ s',Ending.returned (.tuple #[]) = .returned (.tuple #[])∧Mem w' g s'∧Out (s.In g) w w'∧(TB.nd f.p (f.l t) (f.r t)).Rp s' (lU C)∧nR s' C (lU C) f.p∧s'.lv=s.lv∧s'.cnt=s.cnt∧(∀ k,k≠f.p→s'.nd k=s.nd k)∧∀ i,s'.In g i→s.In g i:=by
  intro w' l r rl rr hl hr q1 q2 q3 q4 hL hRr nl nr hret;obtain ⟨-,m,o⟩:=hret;rw [← hl,← hr];refine ⟨_,rfl,m,o,⟨?_,hL.same (fun k hk=>TS.set_ne _ _ (nl k hk)),hRr.same (fun k hk=>TS.set_ne _ _ (nr k hk))⟩,nR.same e3 (fun k hk=>TS.set_ne _ _ (nc k hk)) rfl,rfl,rfl,fun k hk=>TS.set_ne _ _ hk,fun i q=>TS.set_in e1 q⟩;rw [TS.set_eq,za,vR,q1,q2,q3,q4]
 cases hlf:f.left with
 | true =>
  rw [hlf] at e1;refine (tO h (n:=f.p) (a:=t.root) (c:=f.sib.root) e1 ht1 hs1 b1 b2).mono ?_;rintro e w' hret;have he:=hret.1;subst he;exact fin w' t f.sib rt rs (by unfold dI.l;rw [hlf];rfl) (by unfold dI.r;rw [hlf];rfl) bt tt bs ts hT e2 nt ns hret
 | false =>
  rw [hlf] at e1;refine (tO h (n:=f.p) (a:=f.sib.root) (c:=t.root) e1 hs1 ht1 b2 b1).mono ?_;rintro e w' hret;have he:=hret.1;subst he;exact fin w' f.sib t rs rt (by unfold dI.l;rw [hlf];rfl) (by unfold dI.r;rw [hlf];rfl) bs ts bt tt e2 hT ns nt hret
def CU (w : World) : Nat → Value → Nat
 | k+1,.pointer (some a)=>1+CU w k ((w.cell? ⟨a.block,6,none⟩).getD undef)
 | _,_=>0
theorem wh {w : World} {g : Nat} {s : TS} (h : Mem w g s) : ∀ (C : List dI) (u fuel : Nat), nR s C (lU C) u → C.length < fuel → CU w fuel (.pointer (lU C)) = C.length
 | [],u,fuel,_,hf=>by cases fuel <;> rfl
 | f :: C,u,fuel,hC,hf=>by
  obtain ⟨-,up',e1,e2,e3⟩:=hC
  have hup:=e3.up
  subst hup
  cases fuel with
  | zero=>simp at hf
  | succ k =>
   have c6:w.cell? ⟨f.p,6,none⟩=some (.pointer (lU C)):=(h.nd _ _ e1).c6
   show 1+CU w k ((w.cell? ⟨f.p,6,none⟩).getD undef)=_
   rw [c6]
   show 1+CU w k (.pointer (lU C))=_
   rw [wh h C f.p k e3 (by simpa using hf)]
   simp;omega

theorem GJ {g : Nat} {s s1 s2 : TS} {f : dI} {C : List dI} {t : TB} {H : Nat} (hH : 300 ≤ H) (hM : Ql s g (f :: C) t H) (o1 : ∀ k, k ≠ f.p → s1.nd k = s.nd k)
  (hb:(eX f.p (f.l t) (f.r t)).Rp s2 (lU C)) (hc:nR s2 C (lU C) (eX f.p (f.l t) (f.r t)).root) (o2:∀ k,k ∉ (f.p :: ((f.l t).blocks ++ (f.r t).blocks))→k ∉ iX C→s2.nd k=s1.nd k) :
  Ql s2 g C (eX f.p (f.l t) (f.r t)) (H+1)∧(∀ k,k ∈ (eX f.p (f.l t) (f.r t)).blocks ++ iX C→k ∈ t.blocks ++ iX (f :: C))∧(∀ k,k ∉ t.blocks ++ iX (f :: C)→s2.nd k=s.nd k):=by
 obtain ⟨hT,hA,hN,hh,hS⟩:=hM
 have p:((eX f.p (f.l t) (f.r t)).blocks ++ iX C).Perm (t.blocks ++ iX (f :: C)):=by
  refine ((Ag f.p (f.l t) (f.r t)).append_right _).trans ?_;have q:=List.perm_iff_count.1 (rW f t);refine List.perm_iff_count.2 fun a=>?_
  have q1:=q a;simp only [List.count_append] at q1;simp only [iX,List.count_cons,List.count_append];omega
 have hs:=hS f (by simp);have hb1:=Kz f.p (f.l t) (f.r t);have hlr:(f.l t).tr.ht≤H∧(f.r t).tr.ht≤H:=by unfold dI.l dI.r;split <;> omega
 refine ⟨⟨hb,hc,(List.Perm.nodup_iff p).2 hN,by omega,fun x hx=>hS x (by simp [hx])⟩,fun k hk=>p.mem_iff.1 hk,fun k hk=>?_⟩;have h1:k ∉ t.blocks:=fun e=>hk (by simp [e])
 have h2:k≠f.p:=fun e=>hk (by simp [iX,e])
 have h3:k ∉ f.sib.blocks:=fun e=>hk (by simp [iX,e])
 have h4:k ∉ iX C:=fun e=>hk (by simp [iX,e])
 refine (o2 k (fun e=>?_) h4).trans (o1 k h2)
 rcases List.mem_cons.1 e with e | e
 ·exact h2 e
 ·have := (rW f t).mem_iff.1 e
  rcases List.mem_append.1 this with e | e
  ·exact h1 e
  ·exact h3 e
def Ht (g:Nat) (s:TS) (C:List dI) (t:TB) (w:World) (e:Ending) (w':World):Prop:=∃ s',e = .returned (.tuple #[])∧Mem w' g s'∧Out (s.In g) w w'∧(jF C t).Rp s' none∧s'.root=pA (jF C t).root∧(jF C t).blocks.Nodup∧s'.lv=s.lv∧s'.cnt=s.cnt∧(∀ k,k ∉ t.blocks ++ iX C→s'.nd k=s.nd k)∧∀ i,s'.In g i→s.In g i

structure SH (s s' : TS) (g : Nat) (C0 C : List dI) (t0 t : TB) (w wr : World) (H : Nat) : Prop where
 mem:Mem wr g s'
 out:Out (s.In g) w wr
 mds:Ql s' g C t H
 h1:300≤H
 h2:H+C.length≤700
 same:jF C t=jF C0 t0
 lv:s'.lv=s.lv
 cnt:s'.cnt=s.cnt
 sub:∀ k,k ∈ t.blocks ++ iX C→k ∈ t0.blocks ++ iX C0
 oth:∀ k,k ∉ t0.blocks ++ iX C0→s'.nd k=s.nd k
 inn:∀ i,s'.In g i→s.In g i
theorem xq {g:Nat} {s:TS} (h:Mem w g s) {C0:List dI} {t0:TB} (hM:Ql s g C0 t0 300) (hl:C0.length≤400) :
  Calls Tryz.prog 72 #[.pointer (pA g),.pointer (lU C0)] w (Ht g s C0 t0 w):=by
 have H0:Hid (SH s s g C0 C0 t0 t0 w w 300):=⟨h,Out.refl _ _,hM,Nat.le_refl _,by omega,rfl,rfl,rfl,fun _ k=>k,fun _ _=>rfl,fun _ q=>q⟩;clear h hM hl
 go_enter Tryz.func72,Tryz.ntmps72
 go_wp2
 go_loopw [1] (fun nv wr=>∃ (s':TS) (C:List dI) (t:TB) (H:Nat),nv = .pointer (lU C)∧Hid (SH s s' g C0 C t0 t w wr H)) (fun nv wr=>CU wr 1000 nv)
 case atStart=>exact ⟨s,C0,t0,300,rfl,H0⟩
 case round =>
  obtain ⟨s',C,t,H,rfl,HL⟩:=hrel;obtain ⟨wo,rfl⟩:∃ wo:World,wo=wr:=⟨_,rfl⟩;have HLEN:=hid (wh HL.out.mem C t.root 1000 HL.out.mds.above (by have:=HL.out.h2;omega))
  cases C with
  | nil =>
   have hret:Ht g s C0 t0 w (.returned (.tuple #[])) wo:=by
    have m:=HL.out;refine ⟨s',rfl,m.mem,m.out,?_,?_,?_,m.lv,m.cnt,m.oth,m.inn⟩
    ·rw [← m.same];exact m.mds.tree
    ·rw [← m.same];exact m.mds.above.2
    ·rw [← m.same];exact (List.nodup_append.1 m.mds.nodup).1
   have HR:=hid hret;clear hret H0 HL HLEN;go_wp2
   go_returns
   exact HR.out
  | cons f C =>
   have HF:=hid (J9 HL.out.mem (H:=H) (by have:=HL.out.h2;simp at this;omega) HL.out.mds)
   go_wp2_with fail
   refine HF.out.mono ?_;rintro e w1 ⟨s1,rfl,m1,o1,r1,c1,lv1,cnt1,n1,i1⟩
   have hbal:=yM m1 r1 c1 (by have:=(List.nodup_append.1 HL.out.mds.nodup).2.1;have:=(List.nodup_cons.1 this).2;exact (List.nodup_append.1 this).2.1) (by
    have hn:=HL.out.mds.nodup;have q:=List.perm_iff_count.1 (rW f t)
    have p:(t.blocks ++ iX (f :: C)).Perm ((f.p :: ((f.l t).blocks ++ (f.r t).blocks)) ++ iX C):=by
     refine List.perm_iff_count.2 fun a=>?_
     have q1:=q a;simp only [List.count_append] at q1;simp only [iX,List.count_cons,List.count_append];omega
    exact (List.nodup_append.1 ((List.Perm.nodup_iff p).1 hn)).1) (by
    have hn:=HL.out.mds.nodup;have q:=List.perm_iff_count.1 (rW f t)
    have p:(t.blocks ++ iX (f :: C)).Perm ((f.p :: ((f.l t).blocks ++ (f.r t).blocks)) ++ iX C):=by
     refine List.perm_iff_count.2 fun a=>?_
     have q1:=q a;simp only [List.count_append] at q1;simp only [iX,List.count_cons,List.count_append];omega
    exact fun k hk hc=>(List.nodup_append.1 ((List.Perm.nodup_iff p).1 hn)).2.2 k hk k hc rfl) (by
    have h2:=HL.out.h2;have hh:=HL.out.mds.ht;have hs:=HL.out.mds.sib f (by simp);simp at h2
    unfold dI.l dI.r;split <;> omega)
   have HB:=hid hbal;have HM1:=hid (And.intro o1 (And.intro lv1 (And.intro cnt1 (And.intro n1 i1))));clear hbal m1 o1 r1 c1 lv1 cnt1 n1 i1 HF H0
   go_wp2_with fail
   refine HB.out.mono ?_;rintro e w2 ⟨s2,rfl,m2,o2,r2,c2,n2,lv2,cnt2,i2⟩;obtain ⟨rr,hrr,hru,-,-⟩:=r2.top;have k6:=(m2.nd _ _ hrr).c6;rw [hru] at k6;have kl:=lt_of_cell k6;obtain ⟨o1,lv1,cnt1,n1,i1⟩:=HM1.out;obtain ⟨a1,a2,a3⟩:=GJ HL.out.h1 HL.out.mds n1 r2 c2 n2
   have hnew:SH s s2 g C0 C t0 (eX f.p (f.l t) (f.r t)) w w2 (H+1) :=
    ⟨m2,(HL.out.out.trans o1 (fun i _ k=>HL.out.inn i k)).trans o2 (fun i _ k=>HL.out.inn i (i1 i k)),a1,by have:=HL.out.h1;omega,by have:=HL.out.h2;simp at this;omega,HL.out.same,lv2.trans (lv1.trans HL.out.lv),cnt2.trans (cnt1.trans HL.out.cnt),fun k hk=>HL.out.sub k (a2 k hk),fun k hk=>(a3 k (fun e=>hk (HL.out.sub k e))).trans (HL.out.oth k hk),fun i q=>HL.out.inn i (i1 i (i2 i q))⟩
   have HLEN2:=hid (wh m2 C _ 1000 c2 (by have:=HL.out.h2;simp at this;omega));have HN:=hid hnew;clear hnew a1 a2 a3 o1 lv1 cnt1 n1 i1 m2 o2 r2 c2 n2 lv2 cnt2 i2 HM1 HB hrr hru HL;go_wp2;go_roundw
   case rel=>exact ⟨s2,C,_,H+1,rfl,HN⟩
   case measure =>
    rw [HLEN.out,HLEN2.out];simp
def Sn:TS:=⟨none,fun _=>none,fun _=>none,0⟩
def Po (w:World) (e:Ending) (w':World):Prop:=∃ g,e = .returned (.pointer (pA g))∧w.heap.size≤g∧Mem w' g Sn∧Below w.heap.size w w'
def vZ:Array Value:=(List.replicate 257 (Value.pointer none) ++ [Value.int .i64 0]).toArray
theorem Pn (w:World) (t:TypeId):Mem (w.alloc (.cells vZ t)) w.heap.size Sn:=by
 have hh:=heap_alloc_new w (.cells vZ t)
 have hc:∀ j (v:Value),vZ[j]? = some v→(w.alloc (.cells vZ t)).cell? ⟨w.heap.size,j,none⟩=some v:=fun j v hv=>by
  unfold World.cell?
  rw [hh];exact hv
 refine ⟨hc 0 _ (by kernel_rfl),fun i hi=>hc (1+i) _ ?_,hc 257 _ (by kernel_rfl),fun j=>?_,fun b r hb=>(by cases hb),rfl⟩
 ·unfold vZ;rw [List.getElem?_toArray,List.getElem?_append_left (by rw [List.length_replicate];omega),List.getElem?_replicate,if_pos (by omega)];rfl
 ·unfold World.frozen?
  rw [hh];simp
theorem FP (w:World):Calls Tryz.prog 27 #[] w (Po w):=by
 have e:Tryz.zeroCells112=vZ:=by kernel_rfl
 have hm:=hid (Pn w 112);have hb:Below w.heap.size w (w.alloc (.cells vZ 112)):=by go_grown
 have HB:=hid hb;have HE:=hid e;clear e hb
 go_enter Tryz.func27,Tryz.ntmps27
 go_wp2;rw [HE.out]
 go_returns
 exact ⟨w.heap.size,rfl,Nat.le_refl _,hm.out,HB.out⟩
def QZ (w:World) (e:Ending) (w':World):Prop:=(∃ z:Int,e = .returned (.int .u64 z))∧Below w.heap.size w w'
theorem Bt (x1 x2 x3 x4:Int) (w:World):Calls Tryz.prog 134 #[pJ ((x1,x2),(x3,x4))] w (QZ w):=by
 go_enter Tryz.func134,Tryz.ntmps134
 go_wp2
 go_returns
 exact ⟨⟨_,rfl⟩,by go_grown⟩
theorem JR (args:Array Value) (w:World):(callFunc 134 args).run Tryz.prog w = .ok (.enter 134 args) w:=by kernel_rfl
theorem CQ (a1 a2 a3 a4 b1 b2 b3 b4:Int) (w:World):Calls Tryz.prog 69 #[pJ ((a1,a2),(a3,a4)),pJ ((b1,b2),(b3,b4))] w (QZ w):=by
 have HG1:=hid Bt;have hcf:=JR;obtain ⟨j1,j2,j3,j4,hj⟩:∃ j1 j2 j3 j4,fF ((a1,a2),(a3,a4)) ((b1,b2),(b3,b4))=((j1,j2),(j3,j4)):=⟨_,_,_,_,rfl⟩;have HJ:Hid (∀ w,Calls Tryz.prog 120 #[pJ ((a1,a2),(a3,a4)),pJ ((b1,b2),(b3,b4))] w (dS (pJ ((j1,j2),(j3,j4))) w)):=fun w=>by have:=om a1 a2 a3 a4 b1 b2 b3 b4 w;rwa [hj] at this
 clear hj;obtain ⟨ga,hga⟩:∃ g,g=w.heap.size:=⟨_,rfl⟩;obtain ⟨W,hW⟩:∃ W,W=(w.alloc (.cells #[.int .i64 a1,.int .i64 a2,.int .i64 a3,.int .i64 a4] 64)).alloc (.cells #[.int .i64 b1,.int .i64 b2,.int .i64 b3,.int .i64 b4] 64):=⟨_,rfl⟩;have hb0:Below w.heap.size w W:=by rw [hW];go_grown
 have a_0:W.cell? ⟨ga,0,none⟩=some (.int .i64 a1):=by rw [hW,hga];go_simp
 have a_1:W.cell? ⟨ga,1,none⟩=some (.int .i64 a2):=by rw [hW,hga];go_simp
 have a_2:W.cell? ⟨ga,2,none⟩=some (.int .i64 a3):=by rw [hW,hga];go_simp
 have a_3:W.cell? ⟨ga,3,none⟩=some (.int .i64 a4):=by rw [hW,hga];go_simp
 have b_0:W.cell? ⟨ga+1,0,none⟩=some (.int .i64 b1):=by rw [hW,hga];go_simp
 have b_1:W.cell? ⟨ga+1,1,none⟩=some (.int .i64 b2):=by rw [hW,hga];go_simp
 have b_2:W.cell? ⟨ga+1,2,none⟩=some (.int .i64 b3):=by rw [hW,hga];go_simp
 have b_3:W.cell? ⟨ga+1,3,none⟩=some (.int .i64 b4):=by rw [hW,hga];go_simp
 have lg:ga<W.heap.size:=lt_of_cell a_0;have lg1:ga+1<W.heap.size:=lt_of_cell b_0
 go_enter Tryz.func69,Tryz.ntmps69
 go_upto_region 1 with fail
 rw [← hW,← hga];clear hW hga
 go_wp2_with fail
 refine (HJ.out _).mono ?_;rintro e w1 ⟨rfl,hb⟩;replace a_0:=keepCell hb a_0;replace a_1:=keepCell hb a_1;replace a_2:=keepCell hb a_2;replace a_3:=keepCell hb a_3;replace hb0:=aj hb hb0;clear b_0 b_1 b_2 b_3 lg lg1 hb HJ;obtain ⟨gj,hgj⟩:∃ g,g=w1.heap.size:=⟨_,rfl⟩;obtain ⟨w2,hw2⟩:∃ w2,w2=w1.alloc (.cells #[.int .i64 j1,.int .i64 j2,.int .i64 j3,.int .i64 j4] 64):=⟨_,rfl⟩;have hb2:Below w1.heap.size w1 w2:=by rw [hw2];go_grown
 have j_0:w2.cell? ⟨gj,0,none⟩=some (.int .i64 j1):=by rw [hw2,hgj];go_simp
 have j_1:w2.cell? ⟨gj,1,none⟩=some (.int .i64 j2):=by rw [hw2,hgj];go_simp
 have j_2:w2.cell? ⟨gj,2,none⟩=some (.int .i64 j3):=by rw [hw2,hgj];go_simp
 have j_3:w2.cell? ⟨gj,3,none⟩=some (.int .i64 j4):=by rw [hw2,hgj];go_simp
 have J0:=hid j_0;have J1:=hid j_1;have J2:=hid j_2;have J3:=hid j_3;have A0:=hid (keepCell hb2 a_0);have A1:=hid (keepCell hb2 a_1);have A2:=hid (keepCell hb2 a_2);have A3:=hid (keepCell hb2 a_3);have HB:=hid (aj hb2 hb0);clear a_0 a_1 a_2 a_3 j_0 j_1 j_2 j_3 hb0 hb2
 go_upto_region 3 with fail
 rw [← hw2,← hgj];clear hw2 hgj;refine wp_region_noPanic ?_;refine au (S:=(S2 (fun w'=>w'.cell? ⟨gj,0,none⟩=some (.int .i64 j1)∧w'.cell? ⟨gj,1,none⟩=some (.int .i64 j2)∧w'.cell? ⟨gj,2,none⟩=some (.int .i64 j3)∧w'.cell? ⟨gj,3,none⟩=some (.int .i64 j4)∧w'.cell? ⟨ga,0,none⟩=some (.int .i64 a1)∧w'.cell? ⟨ga,1,none⟩=some (.int .i64 a2)∧w'.cell? ⟨ga,2,none⟩=some (.int .i64 a3)∧w'.cell? ⟨ga,3,none⟩=some (.int .i64 a4)∧Below w.heap.size w w'))) (T:=(fun _=>0)) (by kernel_rfl) (aK ⟨J0.out,J1.out,J2.out,J3.out,A0.out,A1.out,A2.out,A3.out,HB.out.drew⟩) (fun hH=>?_);have hWr1:aG (S2 (fun w'=>w'.cell? ⟨gj,0,none⟩=some (.int .i64 j1)∧w'.cell? ⟨gj,1,none⟩=some (.int .i64 j2)∧w'.cell? ⟨gj,2,none⟩=some (.int .i64 j3)∧w'.cell? ⟨gj,3,none⟩=some (.int .i64 j4)∧w'.cell? ⟨ga,0,none⟩=some (.int .i64 a1)∧w'.cell? ⟨ga,1,none⟩=some (.int .i64 a2)∧w'.cell? ⟨ga,2,none⟩=some (.int .i64 a3)∧w'.cell? ⟨ga,3,none⟩=some (.int .i64 a4)∧Below w.heap.size w w')):=aI _;refine dG [(0,10),(1,11),(3,13),(4,14)] 4 0 0 (L':=?Lr1_1) hWr1 hH ?yr1_1 ?_
 case yr1_1=>((iterate 4 apply dF;rfl;kernel_rfl;intro w' hSw;replace hSw:=aB hSw;(try dsimp only at hSw);have q0:=hSw.1;have q1:=hSw.2.1;have q2:=hSw.2.2.1;have q3:=hSw.2.2.2.1;have q4:=hSw.2.2.2.2.1;have q5:=hSw.2.2.2.2.2.1;have q6:=hSw.2.2.2.2.2.2.1;have q7:=hSw.2.2.2.2.2.2.2.1;have q8:=hSw.2.2.2.2.2.2.2.2;(try simp only [sB,sC]);go_simp;(try with_reducible rfl));exact dD)
 simp only [sB,sC];refine U1 2 0 rfl (fun K hK=>?_)
 try clear hb
 go_simp
 (go_at_call 134;refine (HG1.out _ _ _ _ _).mono ?_;rintro e wn ⟨⟨z2,rfl⟩,hb⟩)
 refine hK.out _ _ (aK (by have hG:=hH;replace hG:=aB hG;(try dsimp only at hG);have q0:=hG.1;have q1:=hG.2.1;have q2:=hG.2.2.1;have q3:=hG.2.2.2.1;have q4:=hG.2.2.2.2.1;have q5:=hG.2.2.2.2.2.1;have q6:=hG.2.2.2.2.2.2.1;have q7:=hG.2.2.2.2.2.2.2.1;have q8:=hG.2.2.2.2.2.2.2.2;exact ⟨keepCell hb q0,keepCell hb q1,keepCell hb q2,keepCell hb q3,keepCell hb q4,keepCell hb q5,keepCell hb q6,keepCell hb q7,aj hb q8⟩)) (fun hH2=>?_);clear hK K hH
 rename _=>hH
 try simp only [Act.put,sA,sB,sC]
 refine U1 5 0 rfl (fun K hK=>?_)
 try clear hb
 go_simp
 (go_at_call 134;refine (HG1.out _ _ _ _ _).mono ?_;rintro e wn ⟨⟨z5,rfl⟩,hb⟩)
 refine hK.out _ _ (aK (by have hG:=hH;replace hG:=aB hG;(try dsimp only at hG);have q0:=hG.1;have q1:=hG.2.1;have q2:=hG.2.2.1;have q3:=hG.2.2.2.1;have q4:=hG.2.2.2.2.1;have q5:=hG.2.2.2.2.2.1;have q6:=hG.2.2.2.2.2.2.1;have q7:=hG.2.2.2.2.2.2.2.1;have q8:=hG.2.2.2.2.2.2.2.2;exact ⟨keepCell hb q0,keepCell hb q1,keepCell hb q2,keepCell hb q3,keepCell hb q4,keepCell hb q5,keepCell hb q6,keepCell hb q7,aj hb q8⟩)) (fun hH2=>?_);clear hK K hH
 rename _=>hH
 try simp only [Act.put,sA,sB,sC]
 refine dG [(6,16),(7,4)] 0 0 0 (L':=?Lr1_7) hWr1 hH ?yr1_7 ?_
 case yr1_7=>((iterate 2 apply dF;rfl;kernel_rfl;intro w' hSw;clear hSw;(try simp only [sB,sC]);go_simp;(try with_reducible rfl));exact dD)
 simp only [sB,sC];refine ak (by kernel_rfl) ?_ _ _;refine NoPanic.normal ?_;clear hWr1;replace hH:=aB hH
 (try dsimp only at hH)
 have t0:=hH.1;have t1:=hH.2.1;have t2:=hH.2.2.1;have t3:=hH.2.2.2.1;have t4:=hH.2.2.2.2.1;have t5:=hH.2.2.2.2.2.1;have t6:=hH.2.2.2.2.2.2.1;have t7:=hH.2.2.2.2.2.2.2.1;have t8:=hH.2.2.2.2.2.2.2.2
 go_wp2_with fail
 go_returns
 exact ⟨⟨_,rfl⟩,by first | exact t8 | exact t8.drew⟩
def jR : List dI → TB → TB
 | [],t=>t
 | f :: C,t=>jR C (TB.nd f.p (f.l t) (f.r t))

def Sv (p:Nat) (l r:TB):dI:=⟨p,true,r,oh (TB.nd p l r),AY (TB.nd p l r)⟩
def Sd (p:Nat) (l r:TB):dI:=⟨p,false,l,oh (TB.nd p l r),AY (TB.nd p l r)⟩
theorem rU {s:TS} {C:List dI} {p:Nat} {l r:TB} (hT:(TB.nd p l r).Rp s (lU C)) (hC:nR s C (lU C) p):(l.Rp s (pA p)∧nR s (Sv p l r :: C) (pA p) l.root)∧(r.Rp s (pA p)∧nR s (Sd p l r :: C) (pA p) r.root):=by
 obtain ⟨h1,h2,h3⟩:=hT;exact ⟨⟨h2,rfl,lU C,h1,h3,hC⟩,h3,rfl,lU C,h1,h2,hC⟩
theorem KP (f:dI) (t:TB):(f.l t=t∧f.r t=f.sib)∨(f.l t=f.sib∧f.r t=t):=by
 unfold dI.l dI.r
 cases f.left with
 | true=>exact .inl ⟨rfl,rfl⟩
 | false=>exact .inr ⟨rfl,rfl⟩

theorem rJ : ∀ (C : List dI) (t : TB), (jR C t).tr.Avl → t.tr.Avl ∧ t.tr.ht + C.length ≤ (jR C t).tr.ht ∧ ∀ f ∈ C, f.sib.tr.ht ≤ (jR C t).tr.ht
 | [],t,h=>⟨h,by simp [jR],fun f hf=>by cases hf⟩
 | f :: C,t,h=>by
  obtain ⟨h1,h2,h3⟩:=rJ C (TB.nd f.p (f.l t) (f.r t)) h
  have e:(TB.nd f.p (f.l t) (f.r t)).tr.ht=1+max (f.l t).tr.ht (f.r t).tr.ht:=rfl
  have h1:(f.l t).tr.Avl∧(f.r t).tr.Avl∧(f.l t).tr.ht≤(f.r t).tr.ht+1∧(f.r t).tr.ht≤(f.l t).tr.ht+1:=h1
  show t.tr.Avl∧t.tr.ht+(f :: C).length≤(jR C (TB.nd f.p (f.l t) (f.r t))).tr.ht∧∀ x ∈ f :: C,x.sib.tr.ht≤(jR C (TB.nd f.p (f.l t) (f.r t))).tr.ht
  generalize (jR C (TB.nd f.p (f.l t) (f.r t))).tr.ht=Z at h2 h3 ⊢
  rw [e] at h2
  simp only [List.length_cons]
  rcases KP f t with ⟨a,b⟩ | ⟨a,b⟩
  ·rw [a, b] at h1 h2
   refine ⟨h1.1,by omega,fun x hx=>?_⟩
   rcases List.mem_cons.1 hx with q | q
   ·subst q;omega
   ·exact h3 x q
  ·rw [a, b] at h1 h2
   refine ⟨h1.2.1,by omega,fun x hx=>?_⟩
   rcases List.mem_cons.1 hx with q | q
   ·subst q;omega
   ·exact h3 x q

theorem wI : ∀ (C : List dI) (t t' : TB), (jR C t).tr.Avl → t'.tr.Avl → t.tr.ht ≤ t'.tr.ht → t'.tr.ht ≤ t.tr.ht + 1 → (jF C t').tr.Avl ∧ (jR C t).tr.ht ≤ (jF C t').tr.ht ∧ (jF C t').tr.ht ≤ (jR C t).tr.ht + 1
 | [],t,t',_,h',a,b=>⟨h',a,b⟩
 | f :: C,t,t',h,h',a,b=>by
  have h1:=(rJ C (TB.nd f.p (f.l t) (f.r t)) h).1
  have h2:(eX f.p (f.l t') (f.r t')).tr.Avl∧(TB.nd f.p (f.l t) (f.r t)).tr.ht≤(eX f.p (f.l t') (f.r t')).tr.ht∧(eX f.p (f.l t') (f.r t')).tr.ht≤(TB.nd f.p (f.l t) (f.r t)).tr.ht+1:=by
   rw [xL];have h1:(Tr.nd (f.l t).tr (f.r t).tr).Avl:=h1;show (kU (f.l t').tr (f.r t').tr).Avl∧(Tr.nd (f.l t).tr (f.r t).tr).ht≤_∧_≤(Tr.nd (f.l t).tr (f.r t).tr).ht+1;unfold dI.l dI.r at h1 ⊢
   cases hl:f.left with
   | true =>
    rw [hl] at h1;exact JB h' h1 a b
   | false =>
    rw [hl] at h1;exact FY h' h1 a b
  exact wI C _ _ h h2.1 h2.2.1 h2.2.2

theorem uL : ∀ (C : List dI) (t t' : TB), (jR C t).tr.Avl → t'.tr.Avl → t'.tr.ht ≤ t.tr.ht → t.tr.ht ≤ t'.tr.ht + 1 → (jF C t').tr.Avl ∧ (jF C t').tr.ht ≤ (jR C t).tr.ht ∧ (jR C t).tr.ht ≤ (jF C t').tr.ht + 1
 | [],t,t',_,h',a,b=>⟨h',a,b⟩
 | f :: C,t,t',h,h',a,b=>by
  have h1:=(rJ C (TB.nd f.p (f.l t) (f.r t)) h).1
  have h2:(eX f.p (f.l t') (f.r t')).tr.Avl∧(eX f.p (f.l t') (f.r t')).tr.ht≤(TB.nd f.p (f.l t) (f.r t)).tr.ht∧(TB.nd f.p (f.l t) (f.r t)).tr.ht≤(eX f.p (f.l t') (f.r t')).tr.ht+1:=by
   rw [xL];have h1:(Tr.nd (f.l t).tr (f.r t).tr).Avl:=h1;show (kU (f.l t').tr (f.r t').tr).Avl∧_≤(Tr.nd (f.l t).tr (f.r t).tr).ht∧(Tr.nd (f.l t).tr (f.r t).tr).ht≤_+1;unfold dI.l dI.r at h1 ⊢
   cases hl:f.left with
   | true =>
    rw [hl] at h1;exact F7 h' h1 a b
   | false =>
    rw [hl] at h1;exact Du h' h1 a b
  exact uL C _ _ h h2.1 h2.2.1 h2.2.2

def TB.lvs : TB → List (Nat × (Nat × Bx))
 | .lf g i b=>[(g,(i,b))]
 | .nd _ l r=>l.lvs ++ r.lvs
theorem xC (u:Nat) (low high:TB):(sZ u low high).lvs.Perm (low.lvs ++ high.lvs):=by
 cases high with
 | lf g i b=>exact List.Perm.refl _
 | nd h p q =>
  show (if q.tr.ht > p.tr.ht then TB.nd h q (.nd u low p) else TB.nd h p (.nd u low q)).lvs.Perm _;refine List.perm_iff_count.2 fun a=>?_
  split <;> simp only [TB.lvs,List.count_append] <;> omega
theorem Jz (u:Nat) (l r:TB):(eX u l r).lvs.Perm (l.lvs ++ r.lvs):=by
 unfold eX
 split
 ·split
  ·exact List.Perm.refl _
  ·exact (xC u r l).trans List.perm_append_comm
 ·split
  ·exact List.Perm.refl _
  ·exact xC u l r
def NY : List dI → List (Nat × (Nat × Bx))
 | []=>[]
 | f :: C=>f.sib.lvs ++ NY C
theorem KH (f:dI) (t:TB):((f.l t).lvs ++ (f.r t).lvs).Perm (t.lvs ++ f.sib.lvs):=by
 rcases KP f t with ⟨a,b⟩ | ⟨a,b⟩ <;> rw [a,b]
 exact List.perm_append_comm
theorem BH : ∀ (C : List dI) (t : TB), (jR C t).lvs.Perm (t.lvs ++ NY C)
 | [],t=>by rw [NY,List.append_nil];exact List.Perm.refl _
 | f :: C,t=>by
  refine (BH C _).trans ?_
  show (((f.l t).lvs ++ (f.r t).lvs) ++ NY C).Perm (t.lvs ++ (f.sib.lvs ++ NY C))
  rw [← List.append_assoc]
  exact (KH f t).append_right _
theorem wH : ∀ (C : List dI) (t : TB), (jF C t).lvs.Perm (t.lvs ++ NY C)
 | [],t=>by rw [NY,List.append_nil];exact List.Perm.refl _
 | f :: C,t=>by
  refine (wH C _).trans ?_
  refine ((Jz f.p (f.l t) (f.r t)).append_right _).trans ?_
  show (((f.l t).lvs ++ (f.r t).lvs) ++ NY C).Perm (t.lvs ++ (f.sib.lvs ++ NY C))
  rw [← List.append_assoc]
  exact (KH f t).append_right _
theorem mY : ∀ (C : List dI) (t : TB), (jR C t).blocks.Perm (t.blocks ++ iX C)
 | [],t=>by rw [iX,List.append_nil];exact List.Perm.refl _
 | f :: C,t=>by
  refine (mY C _).trans ?_
  have q:=List.perm_iff_count.1 (rW f t)
  refine List.perm_iff_count.2 fun a=>?_
  have q1:=q a
  simp only [List.count_append] at q1
  simp only [iX,TB.blocks,List.count_cons,List.count_append]
  omega
abbrev oH (x y u v id ht:Int) (up k0 k1:Option Addr):Array Value:=#[.int .i64 x,.int .i64 y,.int .i64 u,.int .i64 v,.int .i64 id,.int .i64 ht,.pointer up,.pointer k0,.pointer k1]
theorem Mem.alloc {g:Nat} {s:TS} (h:Mem w g s) (x y u v id ht:Int) (up k0 k1:Option Addr) (t:TypeId) :
  Mem (w.alloc (.cells (oH x y u v id ht up k0 k1) t)) g (s.set w.heap.size ⟨((x,y),(u,v)),id,ht,up,k0,k1⟩):=by
 have hh:=heap_alloc_new w (.cells (oH x y u v id ht up k0 k1) t);have hb:Below w.heap.size w (w.alloc (.cells (oH x y u v id ht up k0 k1) t)):=by go_grown
 have hm:=h.below hb;have hg:=h.lt
 have hn:j6 (w.alloc (.cells (oH x y u v id ht up k0 k1) t)) w.heap.size ⟨((x,y),(u,v)),id,ht,up,k0,k1⟩:=by
  refine ⟨by go_simp,by go_simp,by go_simp,by go_simp,by go_simp,by go_simp,by go_simp,by go_simp,by go_simp,fun j=>?_,⟨_,_,hh⟩⟩;unfold World.frozen?
  rw [hh];simp
 refine ⟨hm.root,hm.lv,hm.cnt,hm.free,fun b r hr=>?_,?_⟩
 ·by_cases q : b = w.heap.size
  ·subst q;rw [TS.set_eq] at hr
   cases hr;exact hn
  ·rw [TS.set_ne _ _ q] at hr;exact hm.nd b r hr
 ·rw [TS.set_ne _ _ (by omega)];exact h.ne
theorem Mem.setLv {g:Nat} {s:TS} (h:Mem w g s) {i:Nat} (hi:i<256) (a:Option Addr):Mem (w.setCell ⟨g,1+i,none⟩ (.pointer a)) g { s with lv:=fun k=>if k=i then a else s.lv k }:=by
 refine ⟨aC h.root (by omega),fun k hk=>?_,aC h.cnt (by omega),cK h.free _ _,fun b x hx=>(h.nd b x hx).same (Below.heap_setCell w _ _ _ (h.neq hx)),h.ne⟩;show _=some (Value.pointer (if k=i then a else s.lv k))
 by_cases q:k=i
 ·subst q;rw [if_pos rfl];exact dZ (h.lv k hk)
 ·rw [if_neg q];exact aC (h.lv k hk) (by omega)
theorem Mem.setCnt {g:Nat} {s:TS} (h:Mem w g s) (z:Int):Mem (w.setCell ⟨g,257,none⟩ (.int .i64 z)) g { s with cnt:=z } :=
 ⟨aC h.root (by omega),fun i hi=>aC (h.lv i hi) (by omega),dZ h.cnt,cK h.free _ _,fun b x hx=>(h.nd b x hx).same (Below.heap_setCell w _ _ _ (h.neq hx)),h.ne⟩

def iG : Option TB → List (Nat × (Nat × Bx))
 | none=>[]
 | some t=>t.lvs
structure WF (s : TS) (T : Option TB) : Prop where
 root:match T with | none=>s.root=none | some t=>s.root=pA t.root∧t.Rp s none∧t.blocks.Nodup∧t.tr.Avl
 ids:((iG T).map (fun x=>x.2.1)).Nodup
 lt:∀ x ∈ iG T,x.2.1<256
 lv:∀ x ∈ iG T,s.lv x.2.1=pA x.1
 no:∀ i,i<256→(∀ x ∈ iG T,x.2.1≠i)→s.lv i=none
 cnt:s.cnt=((iG T).length:Nat)
theorem TH:WF Sn none:=⟨rfl,List.nodup_nil,fun x hx=>(by cases hx),fun x hx=>(by cases hx),fun i _ _=>rfl,rfl⟩

theorem rY : ∀ (n : Nat) (l : List Nat), l.Nodup → (∀ x ∈ l, x < n) → l.length ≤ n
 | 0,l,_,h=>by
  cases l with
  | nil=>exact Nat.le_refl _
  | cons a r=>exact absurd (h a (by simp)) (by omega)
 | n+1,l,hd,h=>by
  have h1:=rY n (l.erase n) (hd.erase n) (fun x hx=>by
   have h2:=h x (List.mem_of_mem_erase hx)
   have h3:x≠n:=fun e=>by rw [e] at hx;exact (List.Nodup.not_mem_erase hd) hx
   omega)
  by_cases e:n ∈ l
  ·rw [List.length_erase_of_mem e] at h1;omega
  ·rw [List.erase_of_not_mem e] at h1;omega
theorem qJ : ∀ t : TB, t.tr.leaves = t.lvs.length
 | .lf _ _ _=>rfl
 | .nd _ l r=>by
  show l.tr.leaves+r.tr.leaves=(l.lvs ++ r.lvs).length
  rw [List.length_append,qJ l,qJ r]
theorem WF.ht {s:TS} {t:TB} (h:WF s (some t)):t.tr.ht≤11:=by
 refine Qg h.root.2.2.2 ?_;rw [qJ]
 have:=rY 256 _ h.ids (fun x hx=>by
  obtain ⟨y,hy,rfl⟩:=List.mem_map.1 hx
  exact h.lt y hy)
 rwa [List.length_map] at this
def FX (g:Nat) (s:TS) (T:Option TB) (i:Nat) (b:Bx) (w:World) (e:Ending) (w':World):Prop:=∃ s' T' gl,e = .returned (.int .i64 0)∧Mem w' g s'∧Out (s.In g) w w'∧WF s' (some T')∧T'.lvs.Perm ((gl,(i,b)) :: iG T)∧(∀ k,s'.In g k→s.In g k∨w.heap.size≤k)
def OC (w : World) : Value → Nat
 | .pointer (some a)=>(intOf ((w.cell? ⟨a.block,5,none⟩).getD undef)).toNat
 | _=>0

structure Dn (s : TS) (g : Nat) (t : TB) (C : List dI) (x : TB) (w wr : World) : Prop where
 zip:jR C x=t
 tree:x.Rp s (lU C)
 cx:nR s C (lU C) x.root
 mem:Mem wr g s
 bel:Below w.heap.size w wr
theorem Dn.left {s:TS} {g p:Nat} {t l r:TB} {C:List dI} {w wr wn:World} (h:Dn s g t C (TB.nd p l r) w wr) (hb:Below wr.heap.size wr wn):Dn s g t (Sv p l r :: C) l w wn :=
 ⟨h.zip,(rU h.tree h.cx).1.1,(rU h.tree h.cx).1.2,h.mem.below hb,aj hb h.bel⟩
theorem Dn.right {s:TS} {g p:Nat} {t l r:TB} {C:List dI} {w wr wn:World} (h:Dn s g t C (TB.nd p l r) w wr) (hb:Below wr.heap.size wr wn):Dn s g t (Sd p l r :: C) r w wn :=
 ⟨h.zip,(rU h.tree h.cx).2.1,(rU h.tree h.cx).2.2,h.mem.below hb,aj hb h.bel⟩
end
end Go.Proofs.YtokgmcomgflloaaGreat
