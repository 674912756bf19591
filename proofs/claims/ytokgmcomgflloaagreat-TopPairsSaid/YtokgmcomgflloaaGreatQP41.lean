/- Parts of a proof: contracts and laws. -/
import Derived.Test.YtokgmcomgflloaaGreatQP40
import Derived.Test.YtokgmcomgflloaaGreatQP03
set_option maxRecDepth 100000
set_option maxHeartbeats 16000000
namespace Go.Proofs.YtokgmcomgflloaaGreat
section
set_option linter.unusedVariables false
set_option linter.unusedSimpArgs false
open Go.RowKit
variable {w0 w w':World}

abbrev oh (t:TB):Bx:=SE fF t.tr
abbrev AY (t:TB):Int:=(t.tr.ht:Nat)
def TB.Rp (s : TS) : TB → Option Addr → Prop
 | .lf g id b,up=>s.nd g=some ⟨b,id,0,up,none,none⟩
 | .nd g l r,up=>s.nd g=some ⟨oh (TB.nd g l r),0,AY (TB.nd g l r),up,pA l.root,pA r.root⟩∧l.Rp s (pA g)∧r.Rp s (pA g)
theorem TB.Rp.same {s s' : TS} : ∀ {t : TB} {up : Option Addr}, t.Rp s up → (∀ g ∈ t.blocks, s'.nd g = s.nd g) → t.Rp s' up
 | .lf g id b,up,h,e=>by
  have h:s.nd g=some ⟨b,id,0,up,none,none⟩:=h
  show s'.nd g=_
  rw [e g (by simp [TB.blocks]),h]
 | .nd g l r,up,h,e=>by
  obtain ⟨h1,h2,h3⟩:=h
  exact ⟨(e g (by simp [TB.blocks])).trans h1,TB.Rp.same h2 (fun k hk=>e k (by simp [TB.blocks,hk])),TB.Rp.same h3 (fun k hk=>e k (by simp [TB.blocks,hk]))⟩

theorem TB.Rp.top {s : TS} : ∀ {t : TB} {up : Option Addr}, t.Rp s up → ∃ r, s.nd t.root = some r ∧ r.up = up ∧ r.bx = oh t ∧ r.ht = AY t
 | .lf g id b,up,h=>⟨_,h,rfl,rfl,rfl⟩
 | .nd g l r,up,h=>⟨_,h.1,rfl,rfl,rfl⟩
theorem TB.Rp.mem {s : TS} : ∀ {t : TB} {up : Option Addr}, t.Rp s up → ∀ g ∈ t.blocks, ∃ r, s.nd g = some r
 | .lf g id b,up,h,k,hk=>by
  have:k=g:=by simpa [TB.blocks] using hk
  rw [this];exact ⟨_,h⟩
 | .nd g l r,up,h,k,hk=>by
  obtain ⟨h1,h2,h3⟩:=h
  simp only [TB.blocks,List.mem_cons,List.mem_append] at hk
  rcases hk with hk | hk | hk
  ·rw [hk];exact ⟨_,h1⟩
  ·exact TB.Rp.mem h2 k hk
  ·exact TB.Rp.mem h3 k hk

theorem TB.Rp.lift {s s' : TS} {r : NR} {up up' : Option Addr} : ∀ {t : TB}, t.Rp s up → t.blocks.Nodup → s.nd t.root = some r → s'.nd t.root = some { r with up := up' } → (∀ g ∈ t.blocks, g ≠ t.root → s'.nd g = s.nd g) → t.Rp s' up'
 | .lf g id b,h,_,hr,hr',_=>by
  have h:s.nd g=some ⟨b,id,0,up,none,none⟩:=h
  have hr:s.nd g=some r:=hr
  rw [h] at hr
  cases hr
  exact hr'
 | .nd g l rr,h,hd,hr,hr',e=>by
  obtain ⟨h1,h2,h3⟩:=h
  have hr:s.nd g=some r:=hr
  rw [h1] at hr
  cases hr
  have hd:(g :: (l.blocks ++ rr.blocks)).Nodup:=hd
  have hn:=(List.nodup_cons.1 hd).1
  refine ⟨hr',h2.same (fun k hk=>e k (by simp [TB.blocks,hk]) (fun q=>hn ?_)),h3.same (fun k hk=>e k (by simp [TB.blocks,hk]) (fun q=>hn ?_))⟩
  ·have q : k = g := q
   rw [← q];simp [hk]
  ·have q : k = g := q
   rw [← q];simp [hk]

structure dI where
 p:Nat
 left:Bool
 sib:TB
 bx:Bx
 ht:Int
def iX : List dI → List Nat
 | []=>[]
 | f :: C=>f.p :: (f.sib.blocks ++ iX C)
def nR (s : TS) : List dI → Option Addr → Nat → Prop
 | [],up,u=>up=none∧s.root=pA u
 | f :: C,up,u=>up=pA f.p∧(∃ up',s.nd f.p=some ⟨f.bx,0,f.ht,up',if f.left=true then pA u else pA f.sib.root,if f.left=true then pA f.sib.root else pA u⟩∧f.sib.Rp s (pA f.p)∧nR s C up' f.p)
theorem nR.same {s s' : TS} : ∀ {C : List dI} {up : Option Addr} {u : Nat}, nR s C up u → (∀ g ∈ iX C, s'.nd g = s.nd g) → s'.root = s.root → nR s' C up u
 | [],up,u,h,_,hr=>⟨h.1,hr.trans h.2⟩
 | f :: C,up,u,h,e,hr=>by
  obtain ⟨h0,up',h1,h2,h3⟩:=h
  exact ⟨h0,up',(e f.p (by simp [iX])).trans h1,h2.same (fun k hk=>e k (by simp [iX,hk])),nR.same h3 (fun k hk=>e k (by simp [iX,hk])) hr⟩

structure Ta (s s' : TS) (C : List dI) (v : Nat) : Prop where
 out:∀ g,g≠v→g ∉ iX C→s'.nd g=s.nd g
 lv:s'.lv=s.lv
 cnt:s'.cnt=s.cnt
theorem rX {g:Nat} {s:TS} (h:Mem w g s) {C:List dI} {up:Option Addr} {u v:Nat} {ru rv:NR} (hC:nR s C up u) (hd:(iX C).Nodup) (hu:s.nd u=some ru) (hup:ru.up=up) (hv:s.nd v=some rv) (nuv:u≠v) (nu:u ∉ iX C) (nv:v ∉ iX C) :
  Calls Tryz.prog 70 #[.pointer (pA g),.pointer (pA u),.pointer (pA v)] w (fun e w'=>∃ s',e = .returned (.tuple #[])∧Mem w' g s'∧Out (s.In g) w w'∧nR s' C up v∧s'.nd v=some { rv with up:=up }∧Ta s s' C v∧(∀ i,s'.In g i→s.In g i)):=by
 obtain ⟨bo,ido,hto,upo,k0o,k1o⟩:=ru;have hup:upo=up:=hup;subst hup
 cases C with
 | nil =>
  obtain ⟨h0,h1⟩:=hC;subst h0;refine (GX h hu hv nuv).mono ?_;rintro e w' ⟨rfl,m,o⟩;exact ⟨_,rfl,m,o,⟨rfl,rfl⟩,TS.set_eq _ _ _,⟨fun k hk _=>TS.set_ne _ _ hk,rfl,rfl⟩,fun i q=>TS.set_in hv (q.elim .inl .inr)⟩
 | cons f C =>
  obtain ⟨h0,up',h1,h2,h3⟩:=hC;subst h0;obtain ⟨p,lf,sib,fb,fh⟩:=f;have hd:(p :: (sib.blocks ++ iX C)).Nodup:=hd;obtain ⟨d1,d2⟩:=List.nodup_cons.1 hd;have npv:p≠v:=fun q=>nv (by rw [← q];simp [iX])
  have npu:u≠p:=fun q=>nu (by rw [q];simp [iX])
  have hsv:∀ k ∈ sib.blocks,k≠v∧k≠p:=fun k hk=>⟨fun q=>nv (by rw [← q];simp [iX,hk]),fun q=>d1 (by rw [← q];simp [hk])⟩
  have hcv:∀ k ∈ iX C,k≠v∧k≠p:=fun k hk=>⟨fun q=>nv (by rw [← q];simp [iX,hk]),fun q=>d1 (by rw [← q];simp [hk])⟩
  have fin : ∀ (r1 : NR) (w' : World), (r1 = ⟨fb, 0, fh, up', if lf = true then pA v else pA sib.root, if lf = true then pA sib.root else pA v⟩) → Mem w' g ((s.set v { rv with up := pA p }).set p r1) → Out (s.In g) w w' →
    ∃ s',Ending.returned (.tuple #[]) = .returned (.tuple #[])∧Mem w' g s'∧Out (s.In g) w w'∧nR s' (⟨p,lf,sib,fb,fh⟩ :: C) (pA p) v∧s'.nd v=some { rv with up:=pA p }∧Ta s s' (⟨p,lf,sib,fb,fh⟩ :: C) v∧(∀ i,s'.In g i→s.In g i):=by
   intro r1 w' hr1 m o;have hs:∀ k,k≠v→k≠p→((s.set v { rv with up:=pA p }).set p r1).nd k=s.nd k:=fun k a b=>by rw [TS.set_ne _ _ b,TS.set_ne _ _ a]
   refine ⟨_,rfl,m,o,⟨rfl,up',?_,h2.same (fun k hk=>hs k (hsv k hk).1 (hsv k hk).2),h3.same (fun k hk=>hs k (hcv k hk).1 (hcv k hk).2) rfl⟩,?_,⟨fun k a b=>hs k a (fun q=>b (by rw [q];simp [iX])),rfl,rfl⟩,fun i q=>TS.set_in hv (TS.set_in (r0:=⟨fb,0,fh,up',if lf=true then pA u else pA sib.root,if lf=true then pA sib.root else pA u⟩) ((TS.set_ne _ _ npv).trans h1) q)⟩
   ·rw [TS.set_eq,hr1]
   ·rw [TS.set_ne _ _ (fun q=>npv q.symm),TS.set_eq]
  cases lf with
  | true =>
   refine (GK h hu hv nuv (u:=p) (x:=0) (k1u:=pA sib.root) h1 npv).mono ?_;rintro e w' ⟨rfl,m,o⟩;exact fin _ w' rfl m o
  | false =>
   have hsr:sib.root≠u:=fun q=>nu (by rw [← q];simp [iX,TB.root_mem])
   obtain ⟨rs,hrs,-⟩:=h2.top;refine (Fz h hu hv nuv (u:=p) (x:=sib.root) (k1u:=pA u) h1 npv hsr ⟨rs,hrs⟩).mono ?_;rintro e w' ⟨rfl,m,o⟩;exact fin _ w' rfl m o
theorem TS.adopt_n (s:TS) (n a b:Nat) (rn ra rb:NR):(s.adopt n a b rn ra rb).nd n=some ⟨fF ra.bx rb.bx,rn.id,1+max ra.ht rb.ht,rn.up,pA a,pA b⟩:=TS.set_eq _ _ _
theorem TS.adopt_b (s:TS) {n a b:Nat} (rn ra rb:NR) (nb:b≠n):(s.adopt n a b rn ra rb).nd b=some { rb with up:=pA n }:=by
 unfold TS.adopt;rw [TS.set_ne _ _ nb,TS.set_eq]
theorem TS.adopt_a (s:TS) {n a b:Nat} (rn ra rb:NR) (na:a≠n) (nab:b≠a):(s.adopt n a b rn ra rb).nd a=some { ra with up:=pA n }:=by
 unfold TS.adopt;rw [TS.set_ne _ _ na,TS.set_ne _ _ (fun q=>nab q.symm),TS.set_eq]
theorem TS.adopt_ne (s:TS) {n a b k:Nat} (rn ra rb:NR) (h1:k≠n) (h2:k≠a) (h3:k≠b):(s.adopt n a b rn ra rb).nd k=s.nd k:=by
 unfold TS.adopt;rw [TS.set_ne _ _ h1,TS.set_ne _ _ h3,TS.set_ne _ _ h2,TS.set_ne _ _ h1]
def sZ (u : Nat) (low : TB) : TB → TB
 | .lf i id b=>.nd u low (.lf i id b)
 | .nd h p q=>if q.tr.ht > p.tr.ht then .nd h q (.nd u low p) else .nd h p (.nd u low q)
def eX (u:Nat) (l r:TB):TB:=if l.tr.ht > r.tr.ht then (if l.tr.ht≤r.tr.ht+1 then .nd u l r else sZ u r l) else (if r.tr.ht≤l.tr.ht+1 then .nd u l r else sZ u l r)
theorem zw (u:Nat) (low high:TB):(sZ u low high).tr=sF low.tr high.tr:=by
 cases high with
 | lf i id b=>rfl
 | nd h p q =>
  show (if q.tr.ht > p.tr.ht then TB.nd h q (.nd u low p) else TB.nd h p (.nd u low q)).tr=sF low.tr (.nd p.tr q.tr);rw [Ad]
  split <;> rfl
theorem xL (u:Nat) (l r:TB):(eX u l r).tr=kU l.tr r.tr:=by
 unfold eX kU
 by_cases h:l.tr.ht > r.tr.ht
 ·rw [if_pos h, if_pos h]
  by_cases k:l.tr.ht≤r.tr.ht+1
  ·rw [if_pos k,if_pos k];rfl
  ·rw [if_neg k,if_neg k,zw]
 ·rw [if_neg h, if_neg h]
  by_cases k:r.tr.ht≤l.tr.ht+1
  ·rw [if_pos k,if_pos k];rfl
  ·rw [if_neg k,if_neg k,zw]
theorem qh (u:Nat) (low high:TB):(sZ u low high).blocks.Perm (u :: (low.blocks ++ high.blocks)):=by
 cases high with
 | lf i id b=>exact List.Perm.refl _
 | nd h p q =>
  have e:(sZ u low (.nd h p q)).blocks=h :: (if q.tr.ht > p.tr.ht then q.blocks ++ (u :: (low.blocks ++ p.blocks)) else p.blocks ++ (u :: (low.blocks ++ q.blocks))):=by
   show (if q.tr.ht > p.tr.ht then TB.nd h q (.nd u low p) else TB.nd h p (.nd u low q)).blocks=_
   split <;> rfl
  rw [e];show List.Perm _ (u :: (low.blocks ++ (h :: (p.blocks ++ q.blocks))));refine List.perm_iff_count.2 fun a=>?_
  split <;> simp only [List.count_cons,List.count_append] <;> omega
theorem Ag (u:Nat) (l r:TB):(eX u l r).blocks.Perm (u :: (l.blocks ++ r.blocks)):=by
 unfold eX
 split
 ·split
  ·exact List.Perm.refl _
  ·refine (qh u r l).trans ?_;refine List.perm_iff_count.2 fun a=>?_
   simp only [List.count_cons,List.count_append];omega
 ·split
  ·exact List.Perm.refl _
  ·exact qh u l r
theorem za (g:Nat) (l r:TB):oh (TB.nd g l r)=fF (oh l) (oh r):=rfl
theorem vR (g:Nat) (l r:TB):AY (TB.nd g l r)=1+max (AY l) (AY r):=by
 show ((1+max l.tr.ht r.tr.ht:Nat):Int)=1+max ((l.tr.ht:Nat):Int) ((r.tr.ht:Nat):Int);omega

theorem Fp {s : TS} {u q : Nat} {low stay moves : TB} {ru rq ra rb rc : NR} {up ul us um : Option Addr} (hu : s.nd u = some ru) (hq : s.nd q = some rq) (iu : ru.id = 0) (iq : rq.id = 0) (uq : rq.up = up)
  (hl:low.Rp s ul) (hs:stay.Rp s us) (hm:moves.Rp s um) (hd:(u :: q :: (low.blocks ++ (stay.blocks ++ moves.blocks))).Nodup)
  (ha:s.nd low.root=some ra) (hb:s.nd moves.root=some rb) (hc:s.nd stay.root=some rc) :
  (TB.nd q stay (TB.nd u low moves)).Rp ((s.adopt u low.root moves.root ru ra rb).adopt q stay.root u rq rc ⟨fF ra.bx rb.bx,ru.id,1+max ra.ht rb.ht,ru.up,pA low.root,pA moves.root⟩) up ∧
  (∀ k,k ∉ (u :: q :: (low.blocks ++ (stay.blocks ++ moves.blocks)))→((s.adopt u low.root moves.root ru ra rb).adopt q stay.root u rq rc ⟨fF ra.bx rb.bx,ru.id,1+max ra.ht rb.ht,ru.up,pA low.root,pA moves.root⟩).nd k=s.nd k):=by
 obtain ⟨n1,hd⟩:=List.nodup_cons.1 hd;obtain ⟨n2,hd⟩:=List.nodup_cons.1 hd;have nuq:u≠q:=fun e=>n1 (by rw [e];simp)
 obtain ⟨dl,dsm,dx⟩:=List.nodup_append.1 hd;obtain ⟨dst,dmv,dy⟩:=List.nodup_append.1 dsm;have fl:∀ k ∈ low.blocks,k≠u∧k≠q∧k ∉ stay.blocks∧k ∉ moves.blocks:=fun k hk=>⟨fun e=>n1 (by rw [← e];simp [hk]),fun e=>n2 (by rw [← e];simp [hk]),fun e=>dx k hk k (by simp [e]) rfl,fun e=>dx k hk k (by simp [e]) rfl⟩
 have fs:∀ k ∈ stay.blocks,k≠u∧k≠q∧k ∉ low.blocks∧k ∉ moves.blocks:=fun k hk=>⟨fun e=>n1 (by rw [← e];simp [hk]),fun e=>n2 (by rw [← e];simp [hk]),fun e=>dx k e k (by simp [hk]) rfl,fun e=>dy k hk k e rfl⟩
 have fm:∀ k ∈ moves.blocks,k≠u∧k≠q∧k ∉ low.blocks∧k ∉ stay.blocks:=fun k hk=>⟨fun e=>n1 (by rw [← e];simp [hk]),fun e=>n2 (by rw [← e];simp [hk]),fun e=>dx k e k (by simp [hk]) rfl,fun e=>dy k e k hk rfl⟩
 have al:=fl _ low.root_mem;have ast:=fs _ stay.root_mem;have am:=fm _ moves.root_mem;have nlm:moves.root≠low.root:=fun e=>al.2.2.2 (by rw [← e];exact moves.root_mem)
 have nls:low.root≠stay.root:=fun e=>al.2.2.1 (by rw [e];exact stay.root_mem)
 have nms:moves.root≠stay.root:=fun e=>am.2.2.2 (by rw [e];exact stay.root_mem)
 obtain ⟨S2,hS2⟩:∃ S2,S2=s.adopt u low.root moves.root ru ra rb:=⟨_,rfl⟩;obtain ⟨S3,hS3⟩:∃ S3,S3=S2.adopt q stay.root u rq rc ⟨fF ra.bx rb.bx,ru.id,1+max ra.ht rb.ht,ru.up,pA low.root,pA moves.root⟩:=⟨_,rfl⟩;rw [← hS2,← hS3];have g2:∀ k,k≠u→k≠low.root→k≠moves.root→S2.nd k=s.nd k:=fun k a b c=>by rw [hS2];exact TS.adopt_ne s ru ra rb a b c
 have g3:∀ k,k≠q→k≠stay.root→k≠u→S3.nd k=S2.nd k:=fun k a b c=>by rw [hS3];exact TS.adopt_ne S2 rq rc _ a b c
 have e3q:S3.nd q=some ⟨fF rc.bx (fF ra.bx rb.bx),rq.id,1+max rc.ht (1+max ra.ht rb.ht),rq.up,pA stay.root,pA u⟩:=by rw [hS3];exact TS.adopt_n S2 q stay.root u rq rc _
 have e3u:S3.nd u=some ⟨fF ra.bx rb.bx,ru.id,1+max ra.ht rb.ht,pA q,pA low.root,pA moves.root⟩:=by rw [hS3];exact TS.adopt_b S2 rq rc _ nuq
 have e3s:S3.nd stay.root=some { rc with up:=pA q }:=by rw [hS3];exact TS.adopt_a S2 rq rc _ ast.2.1 (fun e=>ast.1 e.symm)
 have e3l:S3.nd low.root=some { ra with up:=pA u }:=by rw [g3 _ al.2.1 nls al.1,hS2];exact TS.adopt_a s ru ra rb al.1 nlm
 have e3m:S3.nd moves.root=some { rb with up:=pA u }:=by rw [g3 _ am.2.1 nms am.1,hS2];exact TS.adopt_b s ru ra rb am.1
 obtain ⟨ra',qa,-,ba,ta⟩:=hl.top;obtain ⟨rb',qb,-,bb,tb⟩:=hm.top;obtain ⟨rc',qc,-,bc,tc⟩:=hs.top;rw [ha] at qa;cases qa;rw [hb] at qb;cases qb;rw [hc] at qc;cases qc;refine ⟨⟨?_,?_,?_,?_,?_⟩,fun k hk=>?_⟩
 ·rw [e3q, za, za, vR, vR, ba, bb, bc, ta, tb, tc, iq, uq];rfl
 ·exact TB.Rp.lift hs dst hc e3s (fun k hk hr=>by
   have f:=fs k hk
   rw [g3 k f.2.1 hr f.1,g2 k f.1 (fun e=>f.2.2.1 (by rw [e];exact low.root_mem)) (fun e=>f.2.2.2 (by rw [e];exact moves.root_mem))])
 ·show S3.nd u = _;rw [e3u,za,vR,ba,bb,ta,tb,iu]
 ·exact TB.Rp.lift hl dl ha e3l (fun k hk hr=>by
   have f:=fl k hk
   rw [g3 k f.2.1 (fun e=>f.2.2.1 (by rw [e];exact stay.root_mem)) f.1,g2 k f.1 hr (fun e=>f.2.2.2 (by rw [e];exact moves.root_mem))])
 ·exact TB.Rp.lift hm dmv hb e3m (fun k hk hr=>by
   have f:=fm k hk
   rw [g3 k f.2.1 (fun e=>f.2.2.2 (by rw [e];exact stay.root_mem)) f.1,g2 k f.1 (fun e=>f.2.2.1 (by rw [e];exact low.root_mem)) hr])
 ·simp only [List.mem_cons, List.mem_append, not_or] at hk;obtain ⟨k1,k2,k3,k4,k5⟩:=hk;rw [g3 k k2 (fun e=>k4 (by rw [e];exact stay.root_mem)) k1,g2 k k1 (fun e=>k3 (by rw [e];exact low.root_mem)) (fun e=>k5 (by rw [e];exact moves.root_mem))]
def mW (g u:Nat) (l r:TB) (up:Option Addr) (C:List dI) (s:TS) (w:World) (e:Ending) (w':World):Prop:=∃ s',e = .returned (.pointer (pA (eX u l r).root))∧Mem w' g s'∧Out (s.In g) w w'∧(eX u l r).Rp s' up∧nR s' C up (eX u l r).root∧(∀ k,k ∉ (u :: (l.blocks ++ r.blocks))→k ∉ iX C→s'.nd k=s.nd k)∧s'.lv=s.lv∧s'.cnt=s.cnt∧∀ i,s'.In g i→s.In g i
theorem BD {g:Nat} {s:TS} (h:Mem w g s) {u:Nat} {l r:TB} {up:Option Addr} {C:List dI} (hR:(TB.nd u l r).Rp s up) (hC:nR s C up u) (hH:l.tr.ht≤1000∧r.tr.ht≤1000) (hB:l.tr.ht≤r.tr.ht+1∧r.tr.ht≤l.tr.ht+1) :
  Calls Tryz.prog 136 #[.pointer (pA g),.pointer (pA u)] w (mW g u l r up C s w):=by
 have c:=h.nd _ _ hR.1;obtain ⟨rl,hrl,-,-,tl⟩:=hR.2.1.top;obtain ⟨rr,hrr,-,-,tr⟩:=hR.2.2.top;have U7:w.cell? ⟨u,7,none⟩=some (.pointer (some ⟨l.root,0,none⟩)):=c.c7;have U8:w.cell? ⟨u,8,none⟩=some (.pointer (some ⟨r.root,0,none⟩)):=c.c8;have L5:w.cell? ⟨l.root,5,none⟩=some (.int .i64 ((l.tr.ht:Nat):Int)):=by rw [(h.nd _ _ hrl).c5,tl]
 have R5:w.cell? ⟨r.root,5,none⟩=some (.int .i64 ((r.tr.ht:Nat):Int)):=by rw [(h.nd _ _ hrr).c5,tr]
 have lu:=lt_of_cell U7;have ll:=lt_of_cell L5;have lr:=lt_of_cell R5
 have hbal:eX u l r=TB.nd u l r:=by
  unfold eX
  split
  ·rw [if_pos (by omega)]
  ·rw [if_pos (by omega)]
 have RET:∀ w',Below w.heap.size w w'→mW g u l r up C s w (.returned (.pointer (pA u))) w':=fun w' hb=>by
  unfold mW;rw [hbal];exact ⟨s,rfl,h.below hb,Out.below hb,hR,hC,fun k _ _=>rfl,rfl,rfl,fun i q=>q⟩
 obtain ⟨lb,hlb⟩:∃ b,b=l.root:=⟨_,rfl⟩;obtain ⟨rb,hrb⟩:∃ b,b=r.root:=⟨_,rfl⟩;rw [← hlb] at U7 L5 ll;rw [← hrb] at U8 R5 lr;obtain ⟨hl,hhl⟩:∃ z,z=((l.tr.ht:Nat):Int):=⟨_,rfl⟩;obtain ⟨hr,hhr⟩:∃ z,z=((r.tr.ht:Nat):Int):=⟨_,rfl⟩;rw [← hhl] at L5;rw [← hhr] at R5;have w1:IntKind.i64.wrap (hl+1)=hl+1:=IntWalk.i64_in _ (by omega);have w2:IntKind.i64.wrap (hr+1)=hr+1:=IntWalk.i64_in _ (by omega)
 by_cases hgt:hl > hr
 ·have hle : hl ≤ hr + 1 := by omega
  clear h hR hC hbal c hrl hrr tl tr hlb hrb hhl hhr hH hB
  go_enter Tryz.func136,Tryz.ntmps136
  go_upto_region 1 with fail
  refine wp_region_noPanic ?_;refine au (S:=(S2 (fun w'=>w'.cell? ⟨u,7,none⟩=some (.pointer (some ⟨lb,0,none⟩))∧w'.cell? ⟨u,8,none⟩=some (.pointer (some ⟨rb,0,none⟩))))) (T:=(fun _=>0)) (by kernel_rfl) (aK ⟨by exact U7,by exact U8⟩) (fun hH=>?_);have hWr1:aG (S2 (fun w'=>w'.cell? ⟨u,7,none⟩=some (.pointer (some ⟨lb,0,none⟩))∧w'.cell? ⟨u,8,none⟩=some (.pointer (some ⟨rb,0,none⟩)))):=aI _;refine dG [(0,9),(1,10),(2,11),(3,12),(4,13),(5,14),(6,15),(7,16),(8,17),(9,18),(10,5),(11,6)] 0 0 0 (L':=?Lr1_1) hWr1 hH ?yr1_1 ?_
  case yr1_1=>((iterate 12 apply dF;rfl;kernel_rfl;intro w' hSw;replace hSw:=aB hSw;(try dsimp only at hSw);have q0:=hSw.1;have q1:=hSw.2;(try simp only [sB,sC]);go_simp;(try with_reducible rfl));exact dD)
  simp only [sB,sC];refine ak (by kernel_rfl) ?_ _ _;refine NoPanic.normal ?_;clear hWr1;clear hH
  go_upto_region 2 with fail
  refine wp_region_noPanic ?_;refine au (S:=(S2 (fun w'=>w'.cell? ⟨lb,5,none⟩=some (.int .i64 hl)∧w'.cell? ⟨rb,5,none⟩=some (.int .i64 hr)))) (T:=(fun _=>0)) (by kernel_rfl) (aK ⟨by exact L5,by exact R5⟩) (fun hH=>?_);have hWr2:aG (S2 (fun w'=>w'.cell? ⟨lb,5,none⟩=some (.int .i64 hl)∧w'.cell? ⟨rb,5,none⟩=some (.int .i64 hr))):=aI _;refine dG [(0,19),(1,20),(2,21),(3,22),(4,23),(5,24),(6,25),(7,26),(8,27)] 0 0 0 (L':=?Lr2_1) hWr2 hH ?yr2_1 ?_
  case yr2_1=>((iterate 9 apply dF;rfl;kernel_rfl;intro w' hSw;replace hSw:=aB hSw;(try dsimp only at hSw);have q0:=hSw.1;have q1:=hSw.2;(try simp only [sB,sC]);go_simp;(try with_reducible rfl));exact dD)
  simp only [sB,sC];refine ak (by kernel_rfl) ?_ _ _;refine NoPanic.normal ?_;clear hWr2;clear hH
  go_upto_region 4 with fail
  refine wp_region_noPanic ?_;refine au (S:=(S2 (fun w'=>w'.cell? ⟨lb,5,none⟩=some (.int .i64 hl)∧w'.cell? ⟨rb,5,none⟩=some (.int .i64 hr)))) (T:=(fun _=>0)) (by kernel_rfl) (aK ⟨by exact L5,by exact R5⟩) (fun hH=>?_);have hWr3:aG (S2 (fun w'=>w'.cell? ⟨lb,5,none⟩=some (.int .i64 hl)∧w'.cell? ⟨rb,5,none⟩=some (.int .i64 hr))):=aI _;refine dG [(0,30),(1,31),(2,32),(3,33),(4,34),(5,35),(6,36),(7,37),(8,38),(9,39)] 0 0 0 (L':=?Lr3_1) hWr3 hH ?yr3_1 ?_
  case yr3_1=>((iterate 10 apply dF;rfl;kernel_rfl;intro w' hSw;replace hSw:=aB hSw;(try dsimp only at hSw);have q0:=hSw.1;have q1:=hSw.2;(try simp only [sB,sC]);go_simp;(try with_reducible rfl));exact dD)
  simp only [sB,sC];refine ak (by kernel_rfl) ?_ _ _;refine NoPanic.normal ?_;clear hWr3;clear hH;go_wp2
  go_returns
  exact RET _ (by first | exact Below.refl _ _ | exact (Below.refl _ _).drew | exact (Below.refl _ _).drew.drew | exact (Below.refl _ _).drew.drew.drew | exact (Below.refl _ _).drew.drew.drew.drew)
 ·have hle : hr ≤ hl + 1 := by omega
  clear h hR hC hbal c hrl hrr tl tr hlb hrb hhl hhr hH hB
  go_enter Tryz.func136,Tryz.ntmps136
  go_upto_region 1 with fail
  refine wp_region_noPanic ?_;refine au (S:=(S2 (fun w'=>w'.cell? ⟨u,7,none⟩=some (.pointer (some ⟨lb,0,none⟩))∧w'.cell? ⟨u,8,none⟩=some (.pointer (some ⟨rb,0,none⟩))))) (T:=(fun _=>0)) (by kernel_rfl) (aK ⟨by exact U7,by exact U8⟩) (fun hH=>?_);have hWr4:aG (S2 (fun w'=>w'.cell? ⟨u,7,none⟩=some (.pointer (some ⟨lb,0,none⟩))∧w'.cell? ⟨u,8,none⟩=some (.pointer (some ⟨rb,0,none⟩)))):=aI _;refine dG [(0,9),(1,10),(2,11),(3,12),(4,13),(5,14),(6,15),(7,16),(8,17),(9,18),(10,5),(11,6)] 0 0 0 (L':=?Lr4_1) hWr4 hH ?yr4_1 ?_
  case yr4_1=>((iterate 12 apply dF;rfl;kernel_rfl;intro w' hSw;replace hSw:=aB hSw;(try dsimp only at hSw);have q0:=hSw.1;have q1:=hSw.2;(try simp only [sB,sC]);go_simp;(try with_reducible rfl));exact dD)
  simp only [sB,sC];refine ak (by kernel_rfl) ?_ _ _;refine NoPanic.normal ?_;clear hWr4;clear hH
  go_upto_region 2 with fail
  refine wp_region_noPanic ?_;refine au (S:=(S2 (fun w'=>w'.cell? ⟨lb,5,none⟩=some (.int .i64 hl)∧w'.cell? ⟨rb,5,none⟩=some (.int .i64 hr)))) (T:=(fun _=>0)) (by kernel_rfl) (aK ⟨by exact L5,by exact R5⟩) (fun hH=>?_);have hWr5:aG (S2 (fun w'=>w'.cell? ⟨lb,5,none⟩=some (.int .i64 hl)∧w'.cell? ⟨rb,5,none⟩=some (.int .i64 hr))):=aI _;refine dG [(0,19),(1,20),(2,21),(3,22),(4,23),(5,24),(6,25),(7,26),(8,27)] 0 0 0 (L':=?Lr5_1) hWr5 hH ?yr5_1 ?_
  case yr5_1=>((iterate 9 apply dF;rfl;kernel_rfl;intro w' hSw;replace hSw:=aB hSw;(try dsimp only at hSw);have q0:=hSw.1;have q1:=hSw.2;(try simp only [sB,sC]);go_simp;(try with_reducible rfl));exact dD)
  simp only [sB,sC];refine ak (by kernel_rfl) ?_ _ _;refine NoPanic.normal ?_;clear hWr5;clear hH
  go_upto_region 4 with fail
  refine wp_region_noPanic ?_;refine au (S:=(S2 (fun w'=>w'.cell? ⟨rb,5,none⟩=some (.int .i64 hr)∧w'.cell? ⟨lb,5,none⟩=some (.int .i64 hl)))) (T:=(fun _=>0)) (by kernel_rfl) (aK ⟨by exact R5,by exact L5⟩) (fun hH=>?_);have hWr6:aG (S2 (fun w'=>w'.cell? ⟨rb,5,none⟩=some (.int .i64 hr)∧w'.cell? ⟨lb,5,none⟩=some (.int .i64 hl))):=aI _;refine dG [(0,30),(1,31),(2,32),(3,33),(4,34),(5,35),(6,36),(7,37),(8,38),(9,39)] 0 0 0 (L':=?Lr6_1) hWr6 hH ?yr6_1 ?_
  case yr6_1=>((iterate 10 apply dF;rfl;kernel_rfl;intro w' hSw;replace hSw:=aB hSw;(try dsimp only at hSw);have q0:=hSw.1;have q1:=hSw.2;(try simp only [sB,sC]);go_simp;(try with_reducible rfl));exact dD)
  simp only [sB,sC];refine ak (by kernel_rfl) ?_ _ _;refine NoPanic.normal ?_;clear hWr6;clear hH;go_wp2
  go_returns
  exact RET _ (by first | exact Below.refl _ _ | exact (Below.refl _ _).drew | exact (Below.refl _ _).drew.drew | exact (Below.refl _ _).drew.drew.drew | exact (Below.refl _ _).drew.drew.drew.drew)
theorem TS.adopt_in {s:TS} {g n a b i:Nat} {rn ra rb rn0 ra0 rb0:NR} (hn:s.nd n=some rn0) (ha:s.nd a=some ra0) (hb:s.nd b=some rb0) (h:(s.adopt n a b rn ra rb).In g i):s.In g i:=by
 rcases h with h | h
 ·exact .inl h
 ·by_cases e1 : i = n
  ·rw [e1];exact TS.in_nd hn
  ·by_cases e2 : i = a
   ·rw [e2];exact TS.in_nd ha
   ·by_cases e3 : i = b
    ·rw [e3];exact TS.in_nd hb
    ·rw [TS.adopt_ne s rn ra rb e1 e2 e3] at h;exact .inr h
theorem zS {t:TB} (h:t.tr.ht≤1000) {r:NR} (e:r.ht=AY t):0≤r.ht∧r.ht≤1000000:=by
 have:AY t=((t.tr.ht:Nat):Int):=rfl;omega
theorem zo {g : Nat} {s s1 : TS} {w w1 : World} {u q : Nat} {l r low stay moves : TB} {up : Option Addr} {C : List dI} {ru rq : NR} (hbal : eX u l r = TB.nd q stay (TB.nd u low moves))
  (hblk:∀ k,k ∈ (u :: q :: (low.blocks ++ (stay.blocks ++ moves.blocks)))↔k ∈ (u :: (l.blocks ++ r.blocks)))
  (hu:s.nd u=some ru) (iu:ru.id=0) (iq:rq.id=0) {ul us um:Option Addr} (hl:low.Rp s ul) (hs:stay.Rp s us) (hm:moves.Rp s um)
  (hd:(u :: q :: (low.blocks ++ (stay.blocks ++ moves.blocks))).Nodup) (hdis:∀ k ∈ (u :: q :: (low.blocks ++ (stay.blocks ++ moves.blocks))),k ∉ iX C)
  (b1:low.tr.ht≤1000) (b2:stay.tr.ht≤1000) (b3:moves.tr.ht≤1000)
  (m1:Mem w1 g s1) (o1:Out (s.In g) w w1) (cx:nR s1 C up q) (hq:s1.nd q=some { rq with up:=up }) (pk:Ta s s1 C q) (in1:∀ i,s1.In g i→s.In g i) :
  Calls Tryz.prog 71 #[.pointer (pA u), .pointer (pA low.root), .pointer (pA moves.root)] w1 (fun e w2 => e = .returned (.tuple #[]) ∧
   Calls Tryz.prog 71 #[.pointer (pA q),.pointer (pA stay.root),.pointer (pA u)] w2 (fun e w3=>e = .returned (.tuple #[])∧mW g u l r up C s w (.returned (.pointer (pA q))) w3)):=by
 have hd0:=hd;obtain ⟨n1,hd⟩:=List.nodup_cons.1 hd;obtain ⟨n2,hd⟩:=List.nodup_cons.1 hd;have nuq:u≠q:=fun e=>n1 (by rw [e];simp)
 obtain ⟨-,dsm,dx⟩:=List.nodup_append.1 hd;obtain ⟨-,-,dy⟩:=List.nodup_append.1 dsm
 have kp:∀ k ∈ (u :: (low.blocks ++ (stay.blocks ++ moves.blocks))),s1.nd k=s.nd k:=fun k hk=>by
  have hk':k ∈ (u :: q :: (low.blocks ++ (stay.blocks ++ moves.blocks))):=by
   rcases List.mem_cons.1 hk with e | e
   ·rw [e];simp
   ·exact List.mem_cons_of_mem _ (List.mem_cons_of_mem _ e)
  refine pk.out k (fun e=>?_) (hdis k hk');rw [e] at hk
  rcases List.mem_cons.1 hk with e | e
  ·exact nuq e.symm
  ·exact n2 e
 have hu1:=(kp u (by simp)).trans hu;have hl1:=hl.same (fun k hk=>kp k (by simp [hk]));have hs1:=hs.same (fun k hk=>kp k (by simp [hk]));have hm1:=hm.same (fun k hk=>kp k (by simp [hk]));obtain ⟨ra,ha,-,-,ta⟩:=hl1.top;obtain ⟨rc,hc,-,-,tc⟩:=hs1.top;obtain ⟨rb,hb,-,-,tb⟩:=hm1.top;have ml:=low.root_mem;have ms:=stay.root_mem;have mm:=moves.root_mem;have nlu:low.root≠u:=fun e=>n1 (by rw [← e];simp [ml])
 have nmu:moves.root≠u:=fun e=>n1 (by rw [← e];simp [mm])
 have nsu:stay.root≠u:=fun e=>n1 (by rw [← e];simp [ms])
 have nsq:stay.root≠q:=fun e=>n2 (by rw [← e];simp [ms])
 have nlq:low.root≠q:=fun e=>n2 (by rw [← e];simp [ml])
 have nmq:moves.root≠q:=fun e=>n2 (by rw [← e];simp [mm])
 have nml:moves.root≠low.root:=fun e=>dx _ ml _ (by simp [mm]) e.symm
 have nsl:stay.root≠low.root:=fun e=>dx _ ml _ (by simp [ms]) e.symm
 have nsm:stay.root≠moves.root:=fun e=>dy _ ms _ mm e
 obtain ⟨L1,L2⟩:=Fp hu1 hq iu (show ({ rq with up:=up }:NR).id=0 from iq) rfl hl1 hs1 hm1 hd0 ha hb hc;refine (oG m1 hu1 ha hb nlu nmu nml (zS b1 ta) (zS b3 tb)).mono ?_;rintro e w2 ⟨rfl,m2,o2⟩;refine ⟨rfl,?_⟩;have hq2:(s1.adopt u low.root moves.root ru ra rb).nd q=some { rq with up:=up }:=(TS.adopt_ne s1 ru ra rb (fun e=>nuq e.symm) (fun e=>nlq e.symm) (fun e=>nmq e.symm)).trans hq;have hs2:(s1.adopt u low.root moves.root ru ra rb).nd stay.root=some rc:=(TS.adopt_ne s1 ru ra rb nsu nsl nsm).trans hc;have hu2:=TS.adopt_n s1 u low.root moves.root ru ra rb
 have hbu:0≤(1+max ra.ht rb.ht)∧(1+max ra.ht rb.ht)≤1000000:=by
  have e1:AY low=((low.tr.ht:Nat):Int):=rfl;have e2:AY moves=((moves.tr.ht:Nat):Int):=rfl;omega
 refine (oG m2 hq2 hs2 hu2 nsq nuq (fun e=>nsu e.symm) (zS b2 tc) hbu).mono ?_;rintro e w3 ⟨rfl,m3,o3⟩;have i2:∀ i,(s1.adopt u low.root moves.root ru ra rb).In g i→s1.In g i:=fun i k=>TS.adopt_in hu1 ha hb k
 refine ⟨rfl,_,?_,m3,(o1.trans o2 (fun i _ k=>in1 i k)).trans o3 (fun i _ k=>in1 i (i2 i k)),?_,?_,fun k h1 h2=>?_,pk.lv,pk.cnt,fun i k=>in1 i (i2 i (TS.adopt_in hq2 hs2 hu2 k))⟩
 ·rw [hbal];rfl
 ·rw [hbal];exact L1
 ·rw [hbal];refine nR.same cx (fun k hk=>L2 k (fun q'=>hdis k q' hk)) rfl
 ·have h1' : k ∉ (u :: q :: (low.blocks ++ (stay.blocks ++ moves.blocks))) := fun q' => h1 ((hblk k).1 q')
  rw [L2 k h1'];exact pk.out k (fun e=>h1' (by rw [e];simp)) h2
end
end Go.Proofs.YtokgmcomgflloaaGreat
