/- Parts of a proof: contracts and laws. -/
import Derived.Test.YtokgmcomgflloaaGreatQP39
import Derived.Test.YtokgmcomgflloaaGreatQP00
set_option maxRecDepth 100000
set_option maxHeartbeats 16000000
namespace Go.Proofs.YtokgmcomgflloaaGreat
section
set_option linter.unusedVariables false
set_option linter.unusedSimpArgs false
open Go.RowKit
variable {w0 w w':World}
abbrev pA (b:Nat):Option Addr:=some ⟨b,0,none⟩
theorem Mem.neq {g:Nat} {s:TS} (h:Mem w g s) {b:Nat} {r:NR} (hb:s.nd b=some r):b≠g:=fun e=>by have:=h.ne;rw [e,this] at hb;cases hb
theorem TS.in_nd {s:TS} {g b:Nat} {r:NR} (hb:s.nd b=some r):s.In g b:=.inr (by rw [hb];simp)
theorem TS.set_in {s:TS} {g b k:Nat} {r r0:NR} (hb:s.nd b=some r0) (h:(s.set b r).In g k):s.In g k:=by
 rcases h with h | h
 ·exact .inl h
 ·by_cases e : k = b
  ·subst e;exact TS.in_nd hb
  ·rw [TS.set_ne _ _ e] at h;exact .inr h

theorem Mem.put {g:Nat} {s:TS} (h:Mem w g s) {b:Nat} {r0 r:NR} (hb:s.nd b=some r0) (hn:j6 w' b r) (k:Out (fun i=>i=b) w w'):Mem w' g (s.set b r)∧Out (s.In g) w w' :=
 ⟨h.set hn (h.neq hb) k,k.mono (fun i _ e=>by rw [e];exact TS.in_nd hb)⟩
theorem tO {w : World} {g : Nat} {s : TS} (h : Mem w g s) {n a c : Nat} {bx : Bx} {id ht : Int} {up : Option Addr} {ra rc : NR} (hn : s.nd n = some ⟨bx, id, ht, up, pA a, pA c⟩) (ha : s.nd a = some ra) (hc : s.nd c = some rc)
  (h1:0≤ra.ht∧ra.ht≤1000000) (h2:0≤rc.ht∧rc.ht≤1000000):Calls Tryz.prog 135 #[.pointer (pA n)] w (JC g s (s.set n ⟨fF ra.bx rc.bx,id,1+max ra.ht rc.ht,up,pA a,pA c⟩) (.tuple #[]) w):=by
 obtain ⟨⟨x1,x2⟩,x3,x4⟩:=bx;obtain ⟨⟨⟨p1,p2⟩,p3,p4⟩,ida,hta,upa,k0a,k1a⟩:=ra;obtain ⟨⟨⟨q1,q2⟩,q3,q4⟩,idc,htc,upc,k0c,k1c⟩:=rc
 rcases hj:fF ((p1,p2),(p3,p4)) ((q1,q2),(q3,q4)) with ⟨⟨j1,j2⟩,j3,j4⟩
 refine (Fe n a c x1 x2 x3 x4 id ht p1 p2 p3 p4 ida hta q1 q2 q3 q4 idc htc j1 j2 j3 j4 up upa k0a k1a upc k0c k1c hj h1 h2 w (h.nd _ _ hn) (h.nd _ _ ha) (h.nd _ _ hc)).mono ?_;rintro e w' ⟨rfl,hN,hO⟩;obtain ⟨a1,a2⟩:=h.put hn hN hO;exact ⟨rfl,a1,a2⟩

def TS.adopt (s:TS) (n a b:Nat) (rn ra rb:NR):TS:=((((s.set n { rn with k0:=pA a,k1:=pA b }).set a { ra with up:=pA n }).set b { rb with up:=pA n }).set n ⟨fF ra.bx rb.bx,rn.id,1+max ra.ht rb.ht,rn.up,pA a,pA b⟩)
theorem oG {w : World} {g : Nat} {s : TS} (h : Mem w g s) {n a b : Nat} {rn ra rb : NR} (hn : s.nd n = some rn) (ha : s.nd a = some ra) (hb : s.nd b = some rb) (na : a ≠ n) (nb : b ≠ n) (nab : b ≠ a)
  (h1:0≤ra.ht∧ra.ht≤1000000) (h2:0≤rb.ht∧rb.ht≤1000000):Calls Tryz.prog 71 #[.pointer (pA n),.pointer (pA a),.pointer (pA b)] w (JC g s (s.adopt n a b rn ra rb) (.tuple #[]) w):=by
 obtain ⟨bn,idn,htn,upn,k0n,k1n⟩:=rn;obtain ⟨ba,ida,hta,upa,k0a,k1a⟩:=ra;obtain ⟨bb,idb,htb,upb,k0b,k1b⟩:=rb;have c1:=h.nd _ _ hn;obtain ⟨w1,hw1⟩:∃ w1,w1=(w.setCell ⟨n,7,none⟩ (.pointer (pA a))).setCell ⟨n,8,none⟩ (.pointer (pA b)):=⟨_,rfl⟩;obtain ⟨m1,o1⟩:=h.put hn (w':=w1) (by rw [hw1];exact (c1.setK0 (pA a)).setK1 (pA b)) (by rw [hw1];exact ((Out.refl (fun i=>i=n) w).setCell (p:=⟨n,7,none⟩) (.inr rfl) _).setCell (p:=⟨n,8,none⟩) (.inr rfl) _);have ha1:=(TS.set_ne s ⟨bn,idn,htn,upn,pA a,pA b⟩ na).trans ha;have c2:=m1.nd _ _ ha1;obtain ⟨w2,hw2⟩:∃ w2,w2=w1.setCell ⟨a,6,none⟩ (.pointer (pA n)):=⟨_,rfl⟩;obtain ⟨m2,o2⟩:=m1.put ha1 (w':=w2) (by rw [hw2];exact c2.setUp (pA n)) (by rw [hw2];exact (Out.refl (fun i=>i=a) w1).setCell (p:=⟨a,6,none⟩) (.inr rfl) _);have hb2:=(TS.set_ne (s.set n ⟨bn,idn,htn,upn,pA a,pA b⟩) ⟨ba,ida,hta,pA n,k0a,k1a⟩ nab).trans ((TS.set_ne s ⟨bn,idn,htn,upn,pA a,pA b⟩ nb).trans hb);have c3:=m2.nd _ _ hb2;have c4:=m1.nd _ _ ((TS.set_ne s ⟨bn,idn,htn,upn,pA a,pA b⟩ nb).trans hb);have nab':¬ a=b:=fun e=>nab e.symm
 obtain ⟨w3,hw3⟩:∃ w3,w3=w2.setCell ⟨b,6,none⟩ (.pointer (pA n)):=⟨_,rfl⟩;obtain ⟨m3,o3⟩:=m2.put hb2 (w':=w3) (by rw [hw3];exact c3.setUp (pA n)) (by rw [hw3];exact (Out.refl (fun i=>i=b) w2).setCell (p:=⟨b,6,none⟩) (.inr rfl) _);have HF:=hid (tO m3 (n:=n) (a:=a) (c:=b) (ra:=⟨ba,ida,hta,pA n,k0a,k1a⟩) (rc:=⟨bb,idb,htb,pA n,k0b,k1b⟩) (by rw [TS.set_ne _ _ (fun e=>nb e.symm),TS.set_ne _ _ (fun e=>na e.symm),TS.set_eq]) (by rw [TS.set_ne _ _ (fun e=>nab e.symm),TS.set_eq]) (TS.set_eq _ _ _) h1 h2);have hO:Out (s.In g) w w3:=(o1.trans o2 (fun i _ q=>TS.set_in hn q)).trans o3 (fun i _ q=>TS.set_in hn (TS.set_in ha1 q));have HO:=hid hO;have HS:Hid (∀ i,((((s.set n ⟨bn,idn,htn,upn,pA a,pA b⟩).set a ⟨ba,ida,hta,pA n,k0a,k1a⟩).set b ⟨bb,idb,htb,pA n,k0b,k1b⟩)).In g i→s.In g i):=fun i q=>TS.set_in hn (TS.set_in ha1 (TS.set_in hb2 q))
 obtain ⟨-,-,-,-,-,-,-,z7,z8,zf,-⟩:=c1;obtain ⟨-,-,-,-,-,-,y6,-,-,yf,-⟩:=c2;obtain ⟨-,-,-,-,-,-,x6,-,-,xf,-⟩:=c4;have l1:=lt_of_cell z7;have l2:=lt_of_cell y6;have l3:=lt_of_cell x6;clear h hn ha hb h1 h2 m1 o1 ha1 m2 o2 hb2 m3 o3 hO c3
 go_enter Tryz.func71,Tryz.ntmps71
 go_upto_region 1 with fail
 rw [← hw1];clear hw1
 go_upto_region 2 with fail
 rw [← hw2,← hw3];clear hw2 hw3 z7 z8 zf y6 yf x6 xf l1 l2 l3
 go_wp2_with fail
 refine HF.out.mono ?_;rintro e w4 ⟨rfl,m4,o4⟩;go_wp2
 go_returns
 exact ⟨rfl,m4,HO.out.trans o4 (fun i _ q=>HS.out i q)⟩
theorem Mem.setRoot {g:Nat} {s:TS} (h:Mem w g s) (r:Option Addr):Mem (w.setCell ⟨g,0,none⟩ (.pointer r)) g { s with root:=r } :=
 ⟨dZ h.root,fun i hi=>aC (h.lv i hi) (by omega),aC h.cnt (by omega),cK h.free _ _,fun b x hx=>(h.nd b x hx).same (Below.heap_setCell w _ _ _ (h.neq hx)),h.ne⟩
theorem GX {g:Nat} {s:TS} (h:Mem w g s) {old n:Nat} {bo:Bx} {ido hto:Int} {k0o k1o:Option Addr} {rn:NR} (ho:s.nd old=some ⟨bo,ido,hto,none,k0o,k1o⟩) (hn:s.nd n=some rn) (no:old≠n):Calls Tryz.prog 70 #[.pointer (pA g),.pointer (pA old),.pointer (pA n)] w (JC g s ({ s.set n { rn with up:=none } with root:=pA n }) (.tuple #[]) w):=by
 obtain ⟨bn,idn,htn,upn,k0n,k1n⟩:=rn;have c0:=h.nd _ _ ho;have c1:=h.nd _ _ hn;obtain ⟨w1,hw1⟩:∃ w1,w1=w.setCell ⟨n,6,none⟩ (.pointer none):=⟨_,rfl⟩;obtain ⟨m1,o1⟩:=h.put hn (w':=w1) (by rw [hw1];exact c1.setUp none) (by rw [hw1];exact (Out.refl (fun i=>i=n) w).setCell (p:=⟨n,6,none⟩) (.inr rfl) _);have ho1:=(TS.set_ne s ⟨bn,idn,htn,none,k0n,k1n⟩ no).trans ho;have d0:=m1.nd _ _ ho1;obtain ⟨w2,hw2⟩:∃ w2,w2=w1.setCell ⟨g,0,none⟩ (.pointer (pA n)):=⟨_,rfl⟩
 have m2:Mem w2 g { s.set n ⟨bn,idn,htn,none,k0n,k1n⟩ with root:=pA n }:=by
  rw [hw2];exact m1.setRoot (pA n)
 have o2:Out (s.In g) w w2:=by rw [hw2];exact o1.setCell (p:=⟨g,0,none⟩) (.inr (.inl rfl)) _
 have r0:=m1.root;have rf:=m1.free;have lg:=m1.lt;obtain ⟨-,-,-,-,-,-,z6,-,-,zf,-⟩:=c0;obtain ⟨-,-,-,-,-,-,y6,-,-,yf,-⟩:=c1;obtain ⟨-,-,-,-,-,-,x6,-,-,xf,-⟩:=d0;have l0:=lt_of_cell z6;have l1:=lt_of_cell y6;have l2:=lt_of_cell x6;have no':¬ n=old:=fun e=>no e.symm
 have M2:=hid m2;have O2:=hid o2;clear h ho hn m1 o1 ho1 m2 o2
 go_enter Tryz.func70,Tryz.ntmps70
 go_upto_region 2 with fail
 rw [← hw1];clear hw1 z6 zf y6 yf l0 l1;go_wp2;rw [← hw2]
 go_returns
 exact ⟨rfl,M2.out,O2.out⟩
theorem GK {g:Nat} {s:TS} (h:Mem w g s) {old n u x:Nat} {bo:Bx} {ido hto:Int} {k0o k1o:Option Addr} {rn:NR} (ho:s.nd old=some ⟨bo,ido,hto,(pA u),k0o,k1o⟩) (hn:s.nd n=some rn) (no:old≠n) {bu:Bx} {idu htu:Int} {upu k1u:Option Addr} (hu:s.nd u=some ⟨bu,idu,htu,upu,pA old,k1u⟩) (nu:u≠n):Calls Tryz.prog 70 #[.pointer (pA g),.pointer (pA old),.pointer (pA n)] w (JC g s ((s.set n { rn with up:=pA u }).set u ⟨bu,idu,htu,upu,pA n,k1u⟩) (.tuple #[]) w):=by
 obtain ⟨bn,idn,htn,upn,k0n,k1n⟩:=rn;have c0:=h.nd _ _ ho;have c1:=h.nd _ _ hn;obtain ⟨w1,hw1⟩:∃ w1,w1=w.setCell ⟨n,6,none⟩ (.pointer (pA u)):=⟨_,rfl⟩;obtain ⟨m1,o1⟩:=h.put hn (w':=w1) (by rw [hw1];exact c1.setUp (pA u)) (by rw [hw1];exact (Out.refl (fun i=>i=n) w).setCell (p:=⟨n,6,none⟩) (.inr rfl) _);have ho1:=(TS.set_ne s ⟨bn,idn,htn,(pA u),k0n,k1n⟩ no).trans ho;have d0:=m1.nd _ _ ho1;have hu1:=(TS.set_ne s ⟨bn,idn,htn,pA u,k0n,k1n⟩ nu).trans hu;have e0:=m1.nd _ _ hu1;obtain ⟨w2,hw2⟩:∃ w2,w2=w1.setCell ⟨u,7,none⟩ (.pointer (pA n)):=⟨_,rfl⟩;obtain ⟨m2,o2⟩:=m1.put hu1 (w':=w2) (by rw [hw2];exact e0.setK0 (pA n)) (by rw [hw2];exact (Out.refl (fun i=>i=u) w1).setCell (p:=⟨u,7,none⟩) (.inr rfl) _);have o3:=o1.trans o2 (fun i _ q=>TS.set_in hn q);obtain ⟨-,-,-,-,-,-,-,v7,v8,vf,-⟩:=e0;have l3:=lt_of_cell v7;obtain ⟨-,-,-,-,-,-,z6,-,-,zf,-⟩:=c0;obtain ⟨-,-,-,-,-,-,y6,-,-,yf,-⟩:=c1;obtain ⟨-,-,-,-,-,-,x6,-,-,xf,-⟩:=d0;have l0:=lt_of_cell z6;have l1:=lt_of_cell y6;have l2:=lt_of_cell x6;have no':¬ n=old:=fun e=>no e.symm
 have hEQ:=Dx old w1;have M2:=hid m2;have O2:=hid o3;clear h ho hn m1 o1 ho1 m2 o2 o3 hu hu1
 go_enter Tryz.func70,Tryz.ntmps70
 go_upto_region 2 with fail
 rw [← hw1];clear hw1 z6 zf y6 yf l0 l1;go_wp2;rw [← hw2]
 go_returns
 exact ⟨rfl,M2.out,O2.out⟩
theorem Fz {g:Nat} {s:TS} (h:Mem w g s) {old n u x:Nat} {bo:Bx} {ido hto:Int} {k0o k1o:Option Addr} {rn:NR} (ho:s.nd old=some ⟨bo,ido,hto,(pA u),k0o,k1o⟩) (hn:s.nd n=some rn) (no:old≠n) {bu:Bx} {idu htu:Int} {upu k1u:Option Addr} (hu:s.nd u=some ⟨bu,idu,htu,upu,pA x,k1u⟩) (nu:u≠n) (nx:x≠old) (hxs:∃ rx,s.nd x=some rx):Calls Tryz.prog 70 #[.pointer (pA g),.pointer (pA old),.pointer (pA n)] w (JC g s ((s.set n { rn with up:=pA u }).set u ⟨bu,idu,htu,upu,pA x,pA n⟩) (.tuple #[]) w):=by
 obtain ⟨bn,idn,htn,upn,k0n,k1n⟩:=rn;have c0:=h.nd _ _ ho;have c1:=h.nd _ _ hn;obtain ⟨w1,hw1⟩:∃ w1,w1=w.setCell ⟨n,6,none⟩ (.pointer (pA u)):=⟨_,rfl⟩;obtain ⟨m1,o1⟩:=h.put hn (w':=w1) (by rw [hw1];exact c1.setUp (pA u)) (by rw [hw1];exact (Out.refl (fun i=>i=n) w).setCell (p:=⟨n,6,none⟩) (.inr rfl) _);have ho1:=(TS.set_ne s ⟨bn,idn,htn,(pA u),k0n,k1n⟩ no).trans ho;have d0:=m1.nd _ _ ho1;have hu1:=(TS.set_ne s ⟨bn,idn,htn,pA u,k0n,k1n⟩ nu).trans hu;have e0:=m1.nd _ _ hu1;obtain ⟨w2,hw2⟩:∃ w2,w2=w1.setCell ⟨u,8,none⟩ (.pointer (pA n)):=⟨_,rfl⟩;obtain ⟨m2,o2⟩:=m1.put hu1 (w':=w2) (by rw [hw2];exact e0.setK1 (pA n)) (by rw [hw2];exact (Out.refl (fun i=>i=u) w1).setCell (p:=⟨u,8,none⟩) (.inr rfl) _);have o3:=o1.trans o2 (fun i _ q=>TS.set_in hn q);obtain ⟨-,-,-,-,-,-,-,v7,v8,vf,-⟩:=e0;have l3:=lt_of_cell v7;obtain ⟨-,-,-,-,-,-,z6,-,-,zf,-⟩:=c0;obtain ⟨-,-,-,-,-,-,y6,-,-,yf,-⟩:=c1;obtain ⟨-,-,-,-,-,-,x6,-,-,xf,-⟩:=d0;have l0:=lt_of_cell z6;have l1:=lt_of_cell y6;have l2:=lt_of_cell x6;have no':¬ n=old:=fun e=>no e.symm
 obtain ⟨rx,hx⟩:=hxs
 obtain ⟨ry,hy⟩:∃ ry,(s.set n ⟨bn,idn,htn,pA u,k0n,k1n⟩).nd x=some ry:=by
  by_cases q:x=n
  ·exact ⟨_,by rw [q,TS.set_eq]⟩
  ·exact ⟨rx,by rw [TS.set_ne _ _ q];exact hx⟩
 have hx1:=m1.nd x _ hy;have hEQ:=EH hx1 (m1.nd _ _ ho1) nx;have M2:=hid m2;have O2:=hid o3;clear h ho hn m1 o1 ho1 m2 o2 o3 hu hu1;have nx':¬ old=x:=fun e=>nx e.symm
 go_enter Tryz.func70,Tryz.ntmps70
 go_upto_region 2 with fail
 rw [← hw1];clear hw1 z6 zf y6 yf l0 l1;go_wp2;rw [← hw2]
 go_returns
 exact ⟨rfl,M2.out,O2.out⟩
end
section
set_option linter.unusedVariables false
set_option linter.unusedSimpArgs false
variable {w0 w w':World}

inductive Tr where
 | lf (id:Nat) (b:(Int × Int) × (Int × Int)):Tr
 | nd (l r:Tr):Tr
def Tr.ht : Tr → Nat
 | .lf _ _=>0
 | .nd l r=>1+max l.ht r.ht
def Tr.leaves : Tr → Nat
 | .lf _ _=>1
 | .nd l r=>l.leaves+r.leaves
def Tr.Avl : Tr → Prop
 | .lf _ _=>True
 | .nd l r=>l.Avl∧r.Avl∧l.ht≤r.ht+1∧r.ht≤l.ht+1

def sF (low : Tr) : Tr → Tr
 | .lf i b=>.nd low (.lf i b)
 | .nd p q=>if q.ht > p.ht then .nd q (.nd low p) else .nd p (.nd low q)
def kU (l r:Tr):Tr:=if l.ht > r.ht then (if l.ht≤r.ht+1 then .nd l r else sF r l) else (if r.ht≤l.ht+1 then .nd l r else sF l r)
theorem Ad (low p q:Tr):sF low (.nd p q)=if q.ht > p.ht then .nd q (.nd low p) else .nd p (.nd low q):=rfl
theorem Iz {low high:Tr} (hl:low.Avl) (hh:high.Avl) (hd:high.ht=low.ht+2):(sF low high).Avl∧high.ht≤(sF low high).ht∧(sF low high).ht≤1+high.ht:=by
 cases high with
 | lf i b=>simp [Tr.ht] at hd
 | nd p q =>
  obtain ⟨hp,hq,h1,h2⟩:=hh;rw [Ad];simp only [Tr.ht] at hd ⊢
  by_cases h:q.ht > p.ht
  ·rw [if_pos h];refine ⟨⟨hq,⟨hl,hp,by omega,by omega⟩,?_,?_⟩,?_,?_⟩ <;> simp only [Tr.ht] <;> omega
  ·rw [if_neg h];refine ⟨⟨hp,⟨hl,hq,by omega,by omega⟩,?_,?_⟩,?_,?_⟩ <;> simp only [Tr.ht] <;> omega

theorem Cb {l r:Tr} (hl:l.Avl) (hr:r.Avl) (h1:l.ht≤r.ht+2) (h2:r.ht≤l.ht+2):(kU l r).Avl∧max l.ht r.ht≤(kU l r).ht∧(kU l r).ht≤1+max l.ht r.ht∧(l.ht≤r.ht+1→r.ht≤l.ht+1→kU l r = .nd l r):=by
 unfold kU
 by_cases h:l.ht > r.ht
 ·rw [if_pos h]
  by_cases k:l.ht≤r.ht+1
  ·rw [if_pos k];exact ⟨⟨hl,hr,k,by omega⟩,by simp only [Tr.ht];omega,by simp only [Tr.ht];omega,fun _ _=>rfl⟩
  ·rw [if_neg k];obtain ⟨a,b,c⟩:=Iz hr hl (by omega);exact ⟨a,by omega,by omega,fun _ _=>by omega⟩
 ·rw [if_neg h]
  by_cases k:r.ht≤l.ht+1
  ·rw [if_pos k];exact ⟨⟨hl,hr,by omega,k⟩,by simp only [Tr.ht];omega,by simp only [Tr.ht];omega,fun _ _=>rfl⟩
  ·rw [if_neg k];obtain ⟨a,b,c⟩:=Iz hl hr (by omega);exact ⟨a,by omega,by omega,fun _ _=>by omega⟩

theorem JB {l l' r:Tr} (hl:l'.Avl) (h:(Tr.nd l r).Avl) (h1:l.ht≤l'.ht) (h2:l'.ht≤l.ht+1):(kU l' r).Avl∧(Tr.nd l r).ht≤(kU l' r).ht∧(kU l' r).ht≤(Tr.nd l r).ht+1:=by
 obtain ⟨_,hr,k1,k2⟩:=h;obtain ⟨a,b,c,d⟩:=Cb hl hr (by omega) (by omega);refine ⟨a,?_,?_⟩ <;> simp only [Tr.ht]
 ·by_cases e : l'.ht ≤ r.ht + 1 ∧ r.ht ≤ l'.ht + 1
  ·rw [d e.1 e.2];simp only [Tr.ht];omega
  ·omega
 ·omega

theorem F7 {l l' r:Tr} (hl:l'.Avl) (h:(Tr.nd l r).Avl) (h1:l'.ht≤l.ht) (h2:l.ht≤l'.ht+1):(kU l' r).Avl∧(kU l' r).ht≤(Tr.nd l r).ht∧(Tr.nd l r).ht≤(kU l' r).ht+1:=by
 obtain ⟨_,hr,k1,k2⟩:=h;obtain ⟨a,b,c,d⟩:=Cb hl hr (by omega) (by omega);refine ⟨a,?_,?_⟩ <;> simp only [Tr.ht]
 ·omega
 ·by_cases e : l'.ht ≤ r.ht + 1 ∧ r.ht ≤ l'.ht + 1
  ·rw [d e.1 e.2];simp only [Tr.ht];omega
  ·omega
theorem FY {l r r':Tr} (hr:r'.Avl) (h:(Tr.nd l r).Avl) (h1:r.ht≤r'.ht) (h2:r'.ht≤r.ht+1):(kU l r').Avl∧(Tr.nd l r).ht≤(kU l r').ht∧(kU l r').ht≤(Tr.nd l r).ht+1:=by
 obtain ⟨hl,_,k1,k2⟩:=h;obtain ⟨a,b,c,d⟩:=Cb hl hr (by omega) (by omega);refine ⟨a,?_,?_⟩ <;> simp only [Tr.ht]
 ·by_cases e : l.ht ≤ r'.ht + 1 ∧ r'.ht ≤ l.ht + 1
  ·rw [d e.1 e.2];simp only [Tr.ht];omega
  ·omega
 ·omega
theorem Du {l r r':Tr} (hr:r'.Avl) (h:(Tr.nd l r).Avl) (h1:r'.ht≤r.ht) (h2:r.ht≤r'.ht+1):(kU l r').Avl∧(kU l r').ht≤(Tr.nd l r).ht∧(Tr.nd l r).ht≤(kU l r').ht+1:=by
 obtain ⟨hl,_,k1,k2⟩:=h;obtain ⟨a,b,c,d⟩:=Cb hl hr (by omega) (by omega);refine ⟨a,?_,?_⟩ <;> simp only [Tr.ht]
 ·omega
 ·by_cases e : l.ht ≤ r'.ht + 1 ∧ r'.ht ≤ l.ht + 1
  ·rw [d e.1 e.2];simp only [Tr.ht];omega
  ·omega


def Tr.ids : Tr → List Nat
 | .lf i _=>[i]
 | .nd l r=>l.ids ++ r.ids




def minLv : Nat → Nat
 | 0=>1
 | 1=>2
 | n+2=>minLv (n+1)+minLv n
theorem qo : ∀ n, minLv n ≤ minLv (n + 1)
 | 0=>by decide
 | 1=>by decide
 | n+2=>by
  show minLv (n+1)+minLv n≤minLv (n+2)+minLv (n+1)
  have h1:minLv n≤minLv (n+1):=qo n
  have h2:minLv (n+1)≤minLv (n+2):=qo (n+1)
  omega
theorem DF {m:Nat}:∀ {n},m≤n→minLv m≤minLv n:=fun {n} h=>by
 induction h with
 | refl=>exact Nat.le_refl _
 | step _ ih=>exact Nat.le_trans ih (qo _)
theorem qM : ∀ t : Tr, t.Avl → minLv t.ht ≤ t.leaves
 | .lf _ _,_=>Nat.le_refl _
 | .nd l r,h=>by
  obtain ⟨hl,hr,k1,k2⟩:=h
  have a:=qM l hl
  have b:=qM r hr
  simp only [Tr.ht,Tr.leaves]
  have two:∀ x y:Nat,y≤x→x≤y+1→minLv (1+x)≤minLv x+minLv y:=fun x y h1 h2=>by
   cases x with
   | zero =>
    obtain rfl:y=0:=by omega
    decide
   | succ x =>
    have h3:minLv x≤minLv y:=DF (by omega)
    rw [show 1+(x+1)=x+2 by omega]
    show minLv (x+1)+minLv x≤_
    omega
  by_cases h:r.ht≤l.ht
  ·rw [show max l.ht r.ht = l.ht by omega]
   have:=two l.ht r.ht h k1
   omega
  ·rw [show max l.ht r.ht = r.ht by omega]
   have:=two r.ht l.ht (by omega) k2
   omega

theorem Qg {t:Tr} (h:t.Avl) (hn:t.leaves≤256):t.ht≤11:=by
 rcases Nat.lt_or_ge 11 t.ht with g | g
 ·have h1 := qM t h;have h2:minLv 12≤minLv t.ht:=DF g;have h3:minLv 12=377:=by decide
  omega
 ·exact g
end
section
set_option linter.unusedVariables false
set_option linter.unusedSimpArgs false
open Go.RowKit
variable {w0 w w':World}
abbrev CZ:=(Int × Int) × (Int × Int)

structure zX (w : World) (g : Nat) (b : CZ) (id ht : Int) (up k0 k1 : Option Addr) : Prop where
 c0:w.cell? ⟨g,0,none⟩=some (.int .i64 b.1.1)
 c1:w.cell? ⟨g,1,none⟩=some (.int .i64 b.1.2)
 c2:w.cell? ⟨g,2,none⟩=some (.int .i64 b.2.1)
 c3:w.cell? ⟨g,3,none⟩=some (.int .i64 b.2.2)
 c4:w.cell? ⟨g,4,none⟩=some (.int .i64 id)
 c5:w.cell? ⟨g,5,none⟩=some (.int .i64 ht)
 c6:w.cell? ⟨g,6,none⟩=some (.pointer up)
 c7:w.cell? ⟨g,7,none⟩=some (.pointer k0)
 c8:w.cell? ⟨g,8,none⟩=some (.pointer k1)
 free:∀ j,w.frozen? ⟨g,j,none⟩=false
theorem zX.same {g:Nat} {b:CZ} {id ht:Int} {up k0 k1:Option Addr} (h:zX w g b id ht up k0 k1) (e:w'.heap[g]? = w.heap[g]?):zX w' g b id ht up k0 k1 :=
 ⟨(World.cell?_of_block e).trans h.c0,(World.cell?_of_block e).trans h.c1,(World.cell?_of_block e).trans h.c2,(World.cell?_of_block e).trans h.c3,(World.cell?_of_block e).trans h.c4,(World.cell?_of_block e).trans h.c5,(World.cell?_of_block e).trans h.c6,(World.cell?_of_block e).trans h.c7,(World.cell?_of_block e).trans h.c8,fun j=>(World.frozen?_of_block e).trans (h.free j)⟩
theorem zX.lt {g:Nat} {b:CZ} {id ht:Int} {up k0 k1:Option Addr} (h:zX w g b id ht up k0 k1):g<w.heap.size:=lt_of_cell h.c0

inductive TB where
 | lf (g id:Nat) (b:CZ):TB
 | nd (g:Nat) (l r:TB):TB
def TB.root : TB → Nat
 | .lf g _ _=>g
 | .nd g _ _=>g
def TB.tr : TB → Tr
 | .lf _ id b=>.lf id b
 | .nd _ l r=>.nd l.tr r.tr
def TB.blocks : TB → List Nat
 | .lf g _ _=>[g]
 | .nd g l r=>g :: (l.blocks ++ r.blocks)
def Ph (g:Nat):Option Addr:=some ⟨g,0,none⟩

def SE (jn : CZ → CZ → CZ) : Tr → CZ
 | .lf _ b=>b
 | .nd l r=>jn (SE jn l) (SE jn r)
def TB.At (jn : CZ → CZ → CZ) (w : World) : TB → Option Addr → Prop
 | .lf g id b,up=>zX w g b id 0 up none none
 | .nd g l r,up=>zX w g (SE jn (TB.nd g l r).tr) 0 ((TB.nd g l r).tr.ht:Nat) up (Ph l.root) (Ph r.root)∧l.At jn w (Ph g)∧r.At jn w (Ph g)
theorem TB.root_mem : ∀ t : TB, t.root ∈ t.blocks
 | .lf g _ _=>by simp [TB.root,TB.blocks]
 | .nd g l r=>by simp [TB.root,TB.blocks]

theorem TB.At.same {jn : CZ → CZ → CZ} {w w' : World} : ∀ {t : TB} {up : Option Addr}, t.At jn w up → (∀ g ∈ t.blocks, w'.heap[g]? = w.heap[g]?) → t.At jn w' up
 | .lf g id b,up,h,e=>zX.same h (e g (by simp [TB.blocks]))
 | .nd g l r,up,h,e=>by
  obtain ⟨h1,h2,h3⟩:=h
  exact ⟨h1.same (e g (by simp [TB.blocks])),TB.At.same h2 (fun k hk=>e k (by simp [TB.blocks,hk])),TB.At.same h3 (fun k hk=>e k (by simp [TB.blocks,hk]))⟩
theorem TB.At.below {jn : CZ → CZ → CZ} {w : World} : ∀ {t : TB} {up : Option Addr}, t.At jn w up → ∀ g ∈ t.blocks, g < w.heap.size
 | .lf g id b,up,h,k,hk=>by
  have:k=g:=by simpa [TB.blocks] using hk
  rw [this];exact zX.lt h
 | .nd g l r,up,h,k,hk=>by
  obtain ⟨h1,h2,h3⟩:=h
  simp only [TB.blocks,List.mem_cons,List.mem_append] at hk
  rcases hk with hk | hk | hk
  ·rw [hk];exact h1.lt
  ·exact TB.At.below h2 k hk
  ·exact TB.At.below h3 k hk
end
end Go.Proofs.YtokgmcomgflloaaGreat
