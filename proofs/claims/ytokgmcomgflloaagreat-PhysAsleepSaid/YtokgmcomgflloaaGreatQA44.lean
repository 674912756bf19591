/- Parts of a proof: contracts and laws. -/
import Derived.Test.YtokgmcomgflloaaGreatQA33
import Derived.Test.YtokgmcomgflloaaGreatQA41
import Derived.Test.YtokgmcomgflloaaGreatQA29
import Derived.Test.YtokgmcomgflloaaGreatQA42
import Derived.Test.YtokgmcomgflloaaGreatQA06
import Derived.Test.YtokgmcomgflloaaGreatQA08
import Derived.Test.YtokgmcomgflloaaGreatQA05
import Derived.Test.YtokgmcomgflloaaGreatQA07
import Derived.Test.YtokgmcomgflloaaGreatQALB
import Derived.Test.YtokgmcomgflloaaGreatQA17
import Derived.Test.YtokgmcomgflloaaGreatQA39
import Derived.Test.YtokgmcomgflloaaGreatQA40
import Derived.Test.YtokgmcomgflloaaGreatQA21
import Derived.Test.YtokgmcomgflloaaGreatQA02
set_option maxRecDepth 100000
set_option maxHeartbeats 16000000
namespace Go.Proofs.YtokgmcomgflloaaGreat
section
set_option linter.unusedVariables false
set_option linter.unusedSimpArgs false
open Go.RowKit
theorem yD {x n S:Int} (hn:0≤n) (h:x*x≤S) (h2:S<(n+1)*(n+1)) : -n≤x∧x≤n:=by
 constructor
 ·rcases Int.lt_or_le x (-n) with g | g
  ·have := Int.mul_le_mul (show n + 1 ≤ -x by omega) (show n + 1 ≤ -x by omega) (by omega) (by omega);rw [Int.neg_mul_neg] at this;omega
  ·exact g
 ·rcases Int.lt_or_le n x with g | g
  ·have := Int.mul_le_mul (show n + 1 ≤ x by omega) (show n + 1 ≤ x by omega) (by omega) (by omega);omega
  ·exact g
theorem KL {n x U:Int} (hn:1073741824≤n) (hx : -n≤x∧x≤n) (h1 : -n≤2*n*U-131072*x) (h2:2*n*U-131072*x≤n) : -65536≤U∧U≤65536:=by
 constructor
 ·rcases Int.lt_or_le U (-65536) with g | g
  ·have := Int.mul_le_mul_of_nonneg_left (show U ≤ -65537 by omega) (show 0 ≤ 2 * n by omega);omega
  ·exact g
 ·rcases Int.lt_or_le 65536 U with g | g
  ·have := Int.mul_le_mul_of_nonneg_left (show 65537 ≤ U by omega) (show 0 ≤ 2 * n by omega);omega
  ·exact g
theorem JM {a b:Int} (ha : -1099511627776≤a∧a≤1099511627776) (hb : -1099511627776≤b∧b≤1099511627776) (h:a≠0∨b≠0):(-65536≤ko a b∧ko a b≤65536)∧(-65536≤ku a b∧ku a b≤65536):=by
 obtain ⟨t,n,t0,big,r1,r2,⟨x1,x2⟩,⟨y1,y2⟩⟩:=Ig ha hb h;generalize t*a=x at *
 generalize t*b=y at *
 have p1:=sq_nonneg x;have p2:=sq_nonneg y;exact ⟨KL big (yD (by omega) (by omega) r2) x1 x2,KL big (yD (by omega) (by omega) r2) y1 y2⟩
theorem NJ {l m:List V} (h:dN l m=true):(-65536≤qg l m∧qg l m≤65536)∧(-65536≤qd l m∧qd l m≤65536):=by
 obtain ⟨a,b,c⟩:=Px h;unfold qg qd;rw [if_pos h,if_pos h];exact JM (by omega) (by omega) a
theorem NC {ref:List V} {e:Nat} (hc:bH ref=0) (he:e<ref.length) {p q:Int} (hd:0≤lT ref e p q) (h1 : -2621440≤px ref e-p∧px ref e-p≤2621440) (h2 : -2621440≤py ref e-q∧py ref e-q≤2621440) :
  0≤yK ref e p q∧yK ref e p q≤5242880:=by
 obtain ⟨_,l3,wl,_⟩:=bI hc;have bn:=oC wl he;have L0:0<fQ (eX ref e) (eZ ref e):=(Aq (by omega) (by omega)).2.2 (EZ hc he);have sl:=MJ bn.1 bn.2;have hd':0≤eX ref e*(px ref e-p)+eZ ref e*(py ref e-q):=hd;have hrd:yK ref e p q=cZ (eX ref e*(px ref e-p)+eZ ref e*(py ref e-q)) (fQ (eX ref e) (eZ ref e)):=rfl;generalize eX ref e=a at *
 generalize eZ ref e=b at *
 generalize px ref e-p=u at *
 generalize py ref e-q=v at *
 generalize fQ a b=L at *
 have m1:a*u≤2621440*a∨a*u ≤ -2621440*a:=by
  rcases Int.le_total 0 a with h | h
  ·left;have:=Int.mul_le_mul_of_nonneg_left h1.2 h;omega
  ·right;have:=Int.mul_le_mul_of_nonpos_left h h1.1;omega
 have m2:b*v≤2621440*b∨b*v ≤ -2621440*b:=by
  rcases Int.le_total 0 b with h | h
  ·left;have:=Int.mul_le_mul_of_nonneg_left h2.2 h;omega
  ·right;have:=Int.mul_le_mul_of_nonpos_left h h2.1;omega
 have hD:a*u+b*v≤5242880*L:=by omega
 have k1:=dh (x:=a) (y:=u) (M:=262144000) (N:=2621440) (by omega) (by omega) (by omega) (by omega);have k2:=dh (x:=b) (y:=v) (M:=262144000) (N:=2621440) (by omega) (by omega) (by omega) (by omega);rw [hrd,I5 L0 (by omega)];refine ⟨Int.ediv_nonneg (by omega) (by omega),?_⟩;have:(2*(a*u+b*v)+L) / (2*L)<5242881:=Int.ediv_lt_of_lt_mul (by omega) (by omega);omega

def Pz (way:V) (p:Pt):Prop:=p.1.2=way∧0≤p.2.1∧p.2.1≤5242880∧0≤p.2.2∧p.2.2≤255∧aI 1310720 p.1.1.1 p.1.1.2=true
def O5 (way:V) (P:List Pt):Prop:=(∃ p,P=[p]∧Pz way p)∨∃ p q,P=[p,q]∧Pz way p∧Pz way q∧p.2.2<q.2.2
theorem Ey {ref inc:List V} {e:Nat} {way:V} {id0 M1 M2:Int} (hcr:bH ref=0) (hci:bH inc=0) (he:e<ref.length) (hd:0≤jC ref inc e) (h1:aP M1 ref=true) (h2:aP M2 inc=true) (hM:M1+M2≤2621440) (hM1:0≤M1) (hM3:M2≤1310720) (hM2:0≤M2) (hid:0≤id0∧id0≤15) :
  O5 way (BF ref inc e way id0):=by
 obtain ⟨i8,i3,_,_⟩:=bI hci;have h0:0<inc.length:=by omega
 have hk:=Bg (l:=inc) (eX ref e) (eZ ref e) h0;have hr:=aD.1 (aQ h1 he)
 have hok:∀ p:V,aI M2 p.1 p.2=true→0≤lT ref e p.1 p.2→∀ id:Int,0≤id∧id≤255→Pz way (MB ref e way p id):=fun p hp hdp id hi=>by
  have hp':=aD.1 hp;have:=NC hcr he hdp (by omega) (by omega);exact ⟨rfl,this.1,this.2,hi.1,hi.2,aD.2 (by dsimp only [MB] at *;omega)⟩
 obtain ⟨b1,b2⟩:=MZ (M:=M2) (by omega) (ref:=ref) (e:=e) h2 h0;unfold BF;obtain ⟨ID,hID⟩:∃ z,z=(id0*8+(kV inc (eX ref e) (eZ ref e):Nat))*2:=⟨_,rfl⟩;have hIb:0≤ID∧ID+1≤255:=by omega
 rw [← hID];generalize yM ref inc e=g at *
 have e2:qX ref e way ID g 2=(if g.2=true∧0≤lT ref e g.1.1.1 g.1.1.2 then [MB ref e way g.1.1 ID] else []) ++ (if g.2=true∧0≤lT ref e g.1.2.1 g.1.2.2∧g.1.2≠g.1.1 then [MB ref e way g.1.2 (ID+1)] else []):=rfl;rw [e2]
 by_cases c1:g.2=true∧0≤lT ref e g.1.1.1 g.1.1.2
 ·by_cases c2 : g.2 = true ∧ 0 ≤ lT ref e g.1.2.1 g.1.2.2 ∧ g.1.2 ≠ g.1.1
  ·rw [if_pos c1, if_pos c2, if_neg (by simp)];exact .inr ⟨_,_,rfl,hok _ b1 c1.2 _ (by omega),hok _ b2 c2.2.1 _ (by omega),by show ID<ID+1;omega⟩
  ·rw [if_pos c1, if_neg c2, if_neg (by simp)];exact .inl ⟨_,rfl,hok _ b1 c1.2 _ (by omega)⟩
 ·by_cases c2 : g.2 = true ∧ 0 ≤ lT ref e g.1.2.1 g.1.2.2 ∧ g.1.2 ≠ g.1.1
  ·rw [if_neg c1, if_pos c2, if_neg (by simp)];exact .inl ⟨_,rfl,hok _ b2 c2.2.1 _ (by omega)⟩
  ·rw [if_neg c1, if_neg c2, List.append_nil, if_pos rfl];have hf:=wC inc (eX ref e) (eZ ref e) inc.length (Nat.le_refl _) h0;exact .inl ⟨_,rfl,hok _ (aQ h2 hf) (Int.le_trans hd (Nz h0)) _ (by omega)⟩
theorem NH {l m:List V} (hm:dN l m=true) (h1:aP 1310720 l=true) (h2:aP 1310720 m=true):O5 (qg l m,qd l m) (o9 l m):=by
 have h0:=hm;unfold dN at h0;rw [decide_eq_true_iff] at h0;obtain ⟨hE,d1,d2⟩:=h0;obtain ⟨hl,hm'⟩:=qZ.1 hE;obtain ⟨s,e,d,hso,k1,k2⟩:=least_some hm;obtain ⟨l8,_,_,_⟩:=bI hl;obtain ⟨m8,_,_,_⟩:=bI hm';unfold o9;rw [hso];dsimp only
 cases s with
 | true =>
  rw [if_pos rfl];have he:=k1 rfl;exact Ey hm' hl he (d2 e he) h2 h1 (by omega) (by omega) (by omega) (by omega) (by omega)
 | false =>
  rw [if_neg (by simp)];have he:=k2 rfl;exact Ey hl hm' he (d1 e he) h1 h2 (by omega) (by omega) (by omega) (by omega) (by omega)
theorem xH {b:Bd} {l:List V} (h:jO b) (hl:Made l):aP 1310720 (dO b l)=true:=by
 have hw:=uN hl;have hpx:=h.px;have hpy:=h.py;refine Dy fun j hj=>?_
 rw [oM] at hj;obtain ⟨_,_,t3,t4⟩:=Jj (x:=px l j) (y:=py l j) (a:=b.ang) (by have:=aD.1 (aQ hw hj);omega) (by have:=aD.1 (aQ hw hj);omega) h.ang.1 h.ang.2;rw [Jc hj,IC hj,O9 h t3,OW h t4];exact aD.2 (by omega)

theorem Gt {L:List BE} {c:Ct}:c ∈ qW L↔∃ p,p ∈ iW L∧∃ t,t ∈ o9 (BN L p.1) (BN L p.2)∧c=Ib p t:=by
 unfold qW vT;simp only [List.mem_flatMap,List.mem_map]
 constructor
 ·rintro ⟨p,hp,t,ht,rfl⟩;exact ⟨p,hp,t,ht,rfl⟩
 ·rintro ⟨p,hp,t,ht,rfl⟩;exact ⟨p,hp,t,ht,rfl⟩


theorem Lp (C:List Ct) (h:∀ c ∈ C,c.push=0∧c.sli=0):iR [] C=C:=by
 unfold iR
 have e:∀ c ∈ C,vI [] c=c:=fun c hc=>by
  obtain ⟨h1,h2⟩:=h c hc;unfold vI;rw [List.find?_nil];obtain ⟨⟩:=c;simp only at h1 h2;subst h1 h2;rfl
 induction C with
 | nil=>rfl
 | cons a C ih=>rw [List.map_cons,e a (List.mem_cons_self ..),ih (fun c hc=>h c (List.mem_cons_of_mem _ hc)) (fun c hc=>e c (List.mem_cons_of_mem _ hc))]
theorem JF (L:List BE):∀ c ∈ qW L,c.push=0∧c.sli=0:=fun c hc=>by
 obtain ⟨p,-,t,-,rfl⟩:=Gt.1 hc;exact ⟨rfl,rfl⟩

theorem N9 {L:List BE} (h:∀ x ∈ L,jO x.b∧Made x.l):∀ c ∈ qW L,fT L.length c:=fun c hc=>by
 obtain ⟨p,hp,t,ht,rfl⟩:=Gt.1 hc;obtain ⟨⟨h1,h2,-⟩,-⟩:=Et.1 hp;have hi:p.1<L.length:=by omega
 have hk:p.2<L.length:=h2;rw [wP hi,wP hk] at ht;obtain ⟨m1,m2⟩:=h _ (List.getElem_mem hi);obtain ⟨m3,m4⟩:=h _ (List.getElem_mem hk)
 have hm:dN (pE L[p.1]) (pE L[p.2])=true:=by
  rcases Bool.eq_false_or_eq_true (dN (pE L[p.1]) (pE L[p.2])) with g | g
  ·exact g
  ·have e : o9 (pE L[p.1]) (pE L[p.2]) = [] := by unfold o9 dZ; rw [g]; rfl
   rw [e] at ht
   cases ht
 obtain ⟨⟨a1,a2⟩,⟨b1,b2⟩⟩:=NJ hm
 have hW:Pz (qg (pE L[p.1]) (pE L[p.2]),qd (pE L[p.1]) (pE L[p.2])) t:=by
  rcases NH hm (xH m1 m2) (xH m3 m4) with ⟨q,e,w⟩ | ⟨q,r,e,w,w',-⟩
  ·rw [e,List.mem_singleton] at ht;subst ht;exact w
  ·rw [e] at ht
   rcases List.mem_cons.1 ht with g | g
   ·subst g;exact w
   ·rw [List.mem_singleton] at g;subst g;exact w'
 obtain ⟨e,d1,d2,i1,i2,w⟩:=hW;have w:=aD.1 w;have e1:t.1.2.1=qg (pE L[p.1]) (pE L[p.2]):=congrArg (·.1) e;have e2:t.1.2.2=qd (pE L[p.1]) (pE L[p.2]):=congrArg (·.2) e;unfold fT Ib;dsimp only;refine ⟨?_,?_,?_,?_,?_,?_⟩ <;> omega
theorem KJ {L:List BE} (h:∀ x ∈ L,jO x.b∧Made x.l):∀ x ∈ L,aT x.b x.l=0:=fun x hx=>D7 (h x hx).1 (h x hx).2
def Bj (q:QB):Prop:=aT q.1 q.2=0∧stB q.1
theorem zQ {b:Bd} (h:kT b=0):(((b.mass == 0) != (b.iner == 0)) || (b.mass == 0) && (!fG b || b.asleep || (b.calm != 0)) || b.asleep && !fG b)=false∧0≤b.calm∧b.calm≤1000:=by
 unfold kT at h
 split at h
 ·split at h
  ·rename_i h2
   split at h
   ·omega
   ·rename_i h3;simp only [Bool.and_eq_true] at h2;exact ⟨by simpa using h3,bX.1 h2.2⟩
  ·omega
 ·omega
theorem xW {q:QB} (h:Bj q):q.1.vx=0∧q.1.vy=0∧q.1.spin=0:=by
 have h1:=(zQ (bJ h.1).2).1
 have h2:fG q.1=true:=by
  rcases h.2 with hm | ha
  ·rw [show (q.1.mass == 0) = true by simp [hm]] at h1
   rcases hs:fG q.1 with _ | _
   ·rw [hs] at h1;simp at h1
   ·rfl
  ·rw [ha] at h1
   rcases hs:fG q.1 with _ | _
   ·rw [hs] at h1;simp at h1
   ·rfl
 unfold fG at h2;simpa using h2
theorem JD {L : List BE} (h : ∀ x ∈ L, stB x.b) (f : Nat → Nat) (i : Nat) : ∀ k, LM L f k i = false
 | 0=>rfl
 | k+1=>by
  show (LM L f k i || (decide (f k=i) && awB L k))=false
  rw [JD h f i k]
  have:awB L k=false:=by
   unfold awB
   split
   ·rename_i x hx
    rcases h x (List.mem_of_getElem? hx) with hm | ha
    ·rw [hm];rfl
    ·rw [ha];simp
   ·rfl
  rw [this];simp
theorem KG {L:List BE} (h:∀ x ∈ L,stB x.b) (f:Nat→Nat):jQ L f=L:=by
 unfold jQ;refine List.ext_getElem (by simp) (fun i h1 h2=>?_);rw [List.getElem_mapIdx];exact if_neg (fun q=>by have h9:=JD h f (f i) L.length;have q2:LM L f L.length (f i)=true:=q.2;rw [h9] at q2;cases q2)
theorem LD {gx gy st:Int} {x:BE} (h:stB x.b):jr gx gy st x=x:=by
 unfold jr;rw [if_neg]
 rcases h with hm | ha
 ·rw [hm];simp
 ·rw [ha];simp
theorem Kz {L:List BE} (h:∀ x ∈ L,stB x.b) (gx gy st:Int):L.map (jr gx gy st)=L :=
 (List.map_congr_left (fun x hx=>LD (h x hx))).trans (List.map_id' L)
theorem Lc {L:List BE} (h:∀ x ∈ L,Bj (aF x)) (f:Nat→Nat):iP L f=L:=by
 have hc:L.map iO=L:=(List.map_congr_left (fun x hx=>by
  show iO x=x;unfold iO lI
  rw [if_pos (show x.b.mass=0∨x.b.asleep=true from (h x hx).2)])).trans (List.map_id' L)
 unfold iP;rw [hc];refine List.ext_getElem (by simp) (fun i h1 h2=>?_);rw [List.getElem_mapIdx];have hx:=h _ (List.getElem_mem h2);obtain ⟨e1,e2,e3⟩:=xW hx;generalize L[i]=x at *
 unfold pJ
 split
 ·rename_i hm
  have ha:x.b.asleep=true:=by
   rcases hx.2 with q | q
   ·have q : x.b.mass = 0 := q;rw [q] at hm;exact absurd hm.1 (by decide)
   ·exact q
  have e1:x.b.vx=0:=e1;have e2:x.b.vy=0:=e2;have e3:x.b.spin=0:=e3;obtain ⟨⟨px,py,vx,vy,ang,spin,ms,iner,bounce,rub,asl,calm⟩,xA,xn,xc,xl⟩:=x;dsimp only at ha e1 e2 e3;subst ha e1 e2 e3;rfl
 ·rfl
theorem G9 {Q:List QB} (h:∀ q ∈ Q,Bj q) (st:Int) (j:Nat):xP st Q j=false:=by
 unfold xP
 split
 ·rename_i q hq;obtain ⟨e1,e2,-⟩:=xW (h q (List.mem_of_getElem? hq));unfold Gg vJ;rw [e1,e2,Jm];have h0:aX 0 st=0:=by unfold aX IL;simp [aO,show kM 0 65536=0 by decide]
  rw [h0];rfl
 ·rfl
theorem N8 {Q:List QB} (h:∀ q ∈ Q,Bj q) (st:Int) {n:Nat} (hn:n=Q.length):zy st Q (List.replicate n 65536)=Q:=by
 unfold zy;refine List.ext_getElem (by simp [hn]) (fun i h1 h2=>?_);rw [List.getElem_zipWith];have hx:=h _ (List.getElem_mem h2);generalize Q[i]=q at *
 have:moveB q.1 q.2 (aX st ((List.replicate n (65536:Int))[i]'(by simpa [hn] using h2)))=q.1:=by unfold moveB;rw [if_pos (.inr (by rcases hx.2 with e | e;exact .inl e;exact .inr (.inl e)))]
 rw [this]

def lU (x:BE):BE:=if x.b.mass > 0 then { x with b:=vX x.b } else x
theorem zO (x:BE):(lU x).A=x.A∧(lU x).n=x.n∧(lU x).c=x.c∧(lU x).l=x.l∧(lU x).b.px=x.b.px∧(lU x).b.py=x.b.py∧(lU x).b.ang=x.b.ang∧(lU x).b.mass=x.b.mass:=by
 unfold lU vX
 split <;> exact ⟨rfl,rfl,rfl,rfl,rfl,rfl,rfl,rfl⟩
theorem J2 {x:BE} (h:jO x.b) (hl:Made x.l):Bj (aF (lU x)):=by
 have hv:=D7 h hl;obtain ⟨hs,hn⟩:=bJ hv;have hk:=h.kind;unfold lU
 split
 ·rename_i hm;refine ⟨?_,.inr rfl⟩;show aT (vX x.b) x.l=0
  have hn2:kT (vX x.b)=0:=by
   have h1:=ji hn
   rcases hk with ⟨-,-,-,e,-⟩ | ⟨-,-,-,e1,e2⟩
   ·rw [e] at hm;exact absurd hm (by decide)
   unfold kT at hn ⊢;obtain ⟨⟨p1,p2,p3,p4⟩,-⟩:=h1;have hpx:=h.px;have hpy:=h.py;have hang:=h.ang;have hb:=h.bounce;have hr:=h.rub;have hc:=h.calm;unfold vX fG aI iA;have hi:¬ x.b.iner=0:=by omega
   have hm0:¬ x.b.mass=0:=by omega
   simp [hc,hi,hm0];rw [if_pos (by omega),if_pos (by omega),show (x.b.mass == 0)=false by simp [hm0],show (x.b.iner == 0)=false by simp [hi]];rfl
  unfold aT;rw [if_neg (by simp [hs])];exact hn2
 ·rename_i hm;refine ⟨hv,.inl ?_⟩;show x.b.mass=0
  rcases hk with ⟨-,-,-,e,-⟩ | ⟨-,-,-,e1,e2⟩
  ·exact e
  ·omega
theorem DW (x:BE):pE (lU x)=pE x:=by
 obtain ⟨-,-,-,e4,e5,e6,e7,-⟩:=zO x;unfold pE dO wX wY;rw [e4,e5,e6,e7]
theorem JX (x:BE):bxB (lU x)=bxB x:=by unfold bxB;rw [DW]
theorem xC (L:List BE) (i:Nat):yh (L.map lU) i=yh L i:=by
 unfold yh;rw [List.getElem?_map]
 rcases L[i]? with _ | x
 ·rfl
 ·exact (zO x).2.2.2.2.2.2.2
theorem E8 (L:List BE):iW (L.map lU)=iW L:=by
 unfold iW;have e:(L.map lU).map bxB=L.map bxB:=by rw [List.map_map];exact List.map_congr_left (fun x _=>JX x)
 rw [e];refine List.filter_congr (fun p _=>?_);unfold kG;rw [xC,xC]
theorem Jw (L:List BE):qW (L.map lU)=qW L:=by
 unfold qW;rw [E8]
 have e:∀ i,BN (L.map lU) i=BN L i:=fun i=>by
  unfold BN;rw [List.getElem?_map]
  rcases L[i]? with _ | x
  ·rfl
  ·exact DW x
 have:vT (L.map lU)=vT L:=by funext p;unfold vT;rw [e,e]
 rw [this]
theorem vv (cap g ka kb:Nat) (L:List BE) (x:Jt) (p1 p2 q1 q2 v1 v2 gap st:Int) (w:World) (h:BL w g L) (hlo:∀ y ∈ L,∀ bx off,y.A=some ⟨bx,off,none⟩→bx<w.heap.size) (hv:∀ y ∈ L,aT y.b y.l=0) (hab:ka<kb) (hka:ka<L.length) (hkb:kb<L.length) (hxa:x.a=ka) (hxb:x.b=kb) (h64:L.length≤64) (xa xb:BE) (HXA0:xa=L[ka]'hka) (HXB0:xb=L[kb]'hkb) (hst:∀ y ∈ L,stB y.b) :
  Calls Tryz.prog 112 #[.slice (some ⟨g,0,none⟩) L.length cap,P7 x,aR p1 p2,aR q1 q2,aR v1 v2,.int .i64 gap,.int .i64 st] w (G5 g L (qO (L.map aF) ka kb p1 p2 q1 q2 v1 v2 gap st) w):=by
 obtain ⟨W,hW⟩:∃ W,W=(((w.alloc (.cells #[.int .i64 x.a,.int .i64 x.b,.int .i64 x.p1,.int .i64 x.p2,.int .i64 x.q1,.int .i64 x.q2,.int .i64 x.len] 37)).alloc (.cells #[.int .i64 p1,.int .i64 p2] 24)).alloc (.cells #[.int .i64 q1,.int .i64 q2] 24)).alloc (.cells #[.int .i64 v1,.int .i64 v2] 24):=⟨_,rfl⟩;have hgl:=h.cl.lt;have hB:Below w.heap.size w W:=by rw [hW];go_grown
 have HPJ4:Hid (Pj w g L x p1 p2 q1 q2 v1 v2 W):=by
  show Pj _ _ _ _ _ _ _ _ _ _ _;refine ⟨?_,?_,?_,?_,fI hB h,hB,hgl,hlo,by rw [hW];simp⟩ <;> rw [hW]
  ·exact ⟨by go_simp,by go_simp,by go_simp,by go_simp,by go_simp,by go_simp,by go_simp⟩
  ·exact ⟨by go_simp,by go_simp⟩
  ·exact ⟨by go_simp,by go_simp⟩
  ·exact ⟨by go_simp,by go_simp⟩
 have HXA:=hid HXA0;have HXB:=hid HXB0;have hea:=hv xa (by rw [HXA0];exact List.getElem_mem hka);have heb:=hv xb (by rw [HXB0];exact List.getElem_mem hkb);have HSA:=hid (fun (w':World) (hb:Below w.heap.size w w')=>(h.co xa (by rw [HXA0];exact List.getElem_mem hka)).below hb);have HSB:=hid (fun (w':World) (hb:Below w.heap.size w w')=>(h.co xb (by rw [HXB0];exact List.getElem_mem hkb)).below hb)
 have HEA:Hid (∀ w',Below w.heap.size w w'→Calls Tryz.prog 173 #[dK xa.b xa.A xa.n xa.c,aR p1 p2,aR v1 v2] w' (dG (.int .i64 (jP xa.b p1 p2 v1 v2)) w')):=fun w' hb=>by
  have:=jk xa.b xa.A xa.n xa.c xa.l p1 p2 v1 v2 w' (HSA.out w' hb);rwa [nG hea] at this
 have HEB:Hid (∀ w',Below w.heap.size w w'→Calls Tryz.prog 173 #[dK xb.b xb.A xb.n xb.c,aR q1 q2,aR v1 v2] w' (dG (.int .i64 (jP xb.b q1 q2 v1 v2)) w')):=fun w' hb=>by
  have:=jk xb.b xb.A xb.n xb.c xb.l q1 q2 v1 v2 w' (HSB.out w' hb);rwa [nG heb] at this
 obtain ⟨ez,hez⟩:∃ ez,ez=Am xa.b xb.b p1 p2 q1 q2 v1 v2:=⟨_,rfl⟩;have HZ0:Hid (ez=0):=hid (by rw [hez];exact vZ (hst xa (by rw [HXA0];exact List.getElem_mem hka)) (hst xb (by rw [HXB0];exact List.getElem_mem hkb)) _ _ _ _ _ _);clear hst;have HEZ:Hid (bT (jP xa.b p1 p2 v1 v2) (jP xb.b q1 q2 v1 v2)=ez):=hez.symm;have eA:(L.map aF)[ka]? = some (aF xa):=by rw [List.getElem?_map,List.getElem?_eq_getElem hka,HXA0];rfl
 have eB:(L.map aF)[kb]? = some (aF xb):=by rw [List.getElem?_map,List.getElem?_eq_getElem hkb,HXB0];rfl
 have HFIZ:Hid (ez=0→L.map aF=qO (L.map aF) ka kb p1 p2 q1 q2 v1 v2 gap st):=fun hz=>by
  unfold qO;rw [iY rfl eA,iY rfl eB];rw [if_pos (by show Am xa.b xb.b p1 p2 q1 q2 v1 v2=0;rw [← hez];exact hz)]
 have HXB8:Hid (∀ z:BE,xb=(L.set ka z)[kb]'(by rw [List.length_set];exact hkb)):=fun z=>by rw [List.getElem_set_ne (by omega)];exact HXB0
 have hac:(ka:Int)<(L.length:Int):=by omega
 have hbc:(kb:Int)<(L.length:Int):=by omega
 obtain ⟨w3,hw3⟩:∃ w3:World,w3=W:=⟨_,rfl⟩;have HXI:=hid (And.intro hxa hxb);clear hxa hxb
 go_enter Tryz.func112,Tryz.ntmps112
 go_upto_region 1 with fail
 rw [← hW,← hw3];obtain ⟨hxa,hxb⟩:=HXI.out;clear HXI;rw [← hw3] at HPJ4;clear hW hw3 h hlo hv HXA0 HXB0 hea heb hB hez eA eB;refine (fun (hNr8:Hid (?Tr8:Prop))=>?mainr8) (hid ?prfr8)
 case mainr8 =>
  refine wp_region_noPanic ?_;refine au (S:=(S3 (fun w'=>Pj w g L x p1 p2 q1 q2 v1 v2 w') (fun w'=>Pj w g L x p1 p2 q1 q2 v1 v2 w'))) (T:=(fun j=>[0,0,0,0,0,0,0,0,0,0,0,0,1,2].getD j 0)) (by kernel_rfl) (iC HPJ4.out.drew) (fun hH=>?_);have hWr8:aH (S3 (fun w'=>Pj w g L x p1 p2 q1 q2 v1 v2 w') (fun w'=>Pj w g L x p1 p2 q1 q2 v1 v2 w')):=fP (fun _ q0=>q0);refine dn [(0,19),(1,20),(2,21),(3,22),(4,23)] 9 0 0 (L':=?Lr8_1) hWr8 hH ?hyr8_1 ?_
  case hyr8_1=>((iterate 5 apply dA;rfl;kernel_rfl;intro w' hSw;replace hSw:=dR hSw;(try dsimp only at hSw);have q0:=hSw;obtain ⟨qa0_0,qa0_1,qa0_2,qa0_3,qa0_4,qa0_5,qa0_6⟩:=(q0).j;have d0_0:=(q0).p.1;have d0_1:=(q0).p.2;have e0_0:=(q0).q.1;have e0_1:=(q0).q.2;have f0_0:=(q0).v.1;have f0_1:=(q0).v.2;obtain ⟨b0_0,b0_1,b0_2,b0_3,b0_4,b0_5,b0_6,b0_7,b0_8,b0_9,b0_10,b0_11,b0_12⟩:=bK (q0).bl.cl hka HXA.out;obtain ⟨c0_0,c0_1,c0_2,c0_3,c0_4,c0_5,c0_6,c0_7,c0_8,c0_9,c0_10,c0_11,c0_12⟩:=bK (q0).bl.cl hkb HXB.out;(try simp only [sB,sC]);go_simp;(try with_reducible rfl));exact dw)
  simp only [sB,sC];refine dn [(5,24),(6,25),(7,26),(8,27),(9,28)] 4 1 0 (L':=?Lr8_6) hWr8 hH ?hyr8_6 ?_
  case hyr8_6=>((iterate 5 apply dA;rfl;kernel_rfl;intro w' hSw;replace hSw:=rV hSw;(try dsimp only at hSw);have q0:=hSw;obtain ⟨qa0_0,qa0_1,qa0_2,qa0_3,qa0_4,qa0_5,qa0_6⟩:=(q0).j;have d0_0:=(q0).p.1;have d0_1:=(q0).p.2;have e0_0:=(q0).q.1;have e0_1:=(q0).q.2;have f0_0:=(q0).v.1;have f0_1:=(q0).v.2;obtain ⟨b0_0,b0_1,b0_2,b0_3,b0_4,b0_5,b0_6,b0_7,b0_8,b0_9,b0_10,b0_11,b0_12⟩:=bK (q0).bl.cl hka HXA.out;obtain ⟨c0_0,c0_1,c0_2,c0_3,c0_4,c0_5,c0_6,c0_7,c0_8,c0_9,c0_10,c0_11,c0_12⟩:=bK (q0).bl.cl hkb HXB.out;(try simp only [sB,sC]);go_simp;(try with_reducible rfl));exact dw)
  simp only [sB,sC];refine Ur [10,11] ?_;refine Uc 0 rfl (fun K hK=>?_) ?_
  ·try clear hb
   have hG:=hH;replace hG:=dR hG;(try dsimp only at hG);have q0:=hG;go_simp;refine hK.out _ _ ?hsr8_11 (fun hH2=>?hrr8_11)
   case hsr8_11=>exact iC (by have hG:=hH;replace hG:=dR hG;(try dsimp only at hG);have q0:=hG;exact q0.alloc _)
   clear hK K hH;have hH:=hH2;clear hH2
   try simp only [Act.put,sA,sB,sC]
   have hT:fD ((w3.alloc (.cells #[.int .i64 0,.int .i64 0,.int .i64 0,.int .i64 0,.int .i64 0,.int .i64 0,.int .i64 0,.int .i64 0,.int .i64 0,.int .i64 0,.slice none 0 0,.bool false,.int .i64 0] 27)).drew) w3.heap.size:=fD.drew (by have:=aL.here w3 mX none 0 0 27;simp only [mX] at this;exact fD.of this);obtain ⟨gT,hgT⟩:∃ g,g=w3.heap.size:=⟨_,rfl⟩;have hlT:w.heap.size+3<gT:=by rw [hgT];exact q0.sz
   rw [← hgT] at hT
   try rw [← hgT]
   clear hgT q0;generalize (w3.alloc (.cells #[.int .i64 0,.int .i64 0,.int .i64 0,.int .i64 0,.int .i64 0,.int .i64 0,.int .i64 0,.int .i64 0,.int .i64 0,.int .i64 0,.slice none 0 0,.bool false,.int .i64 0] 27)).drew=wx10 at *
   refine U1 11 0 rfl (fun K hK=>?_)
   try clear hb
   have hG:=hH;replace hG:=dR hG;(try dsimp only at hG);have q0:=hG;have hZT:=fD.lt hT;go_simp;refine hK.out _ _ ?hsr8_12 (fun hH2=>?hrr8_12)
   case hsr8_12=>exact iC (by have hG:=hH;replace hG:=dR hG;(try dsimp only at hG);have q0:=hG;exact q0.alloc _)
   clear hK K hH;have hH:=hH2;clear hH2
   try simp only [Act.put,sA,sB,sC]
   have hU:fD (wx10.alloc (.cells #[.int .i64 0,.int .i64 0,.int .i64 0,.int .i64 0,.int .i64 0,.int .i64 0,.int .i64 0,.int .i64 0,.int .i64 0,.int .i64 0,.slice none 0 0,.bool false,.int .i64 0] 27)) wx10.heap.size:=by have:=aL.here wx10 mX none 0 0 27;simp only [mX] at this;exact fD.of this
   replace hT:=cO ((Below.refl _ _).alloc (Nat.le_refl _) (.cells #[.int .i64 0,.int .i64 0,.int .i64 0,.int .i64 0,.int .i64 0,.int .i64 0,.int .i64 0,.int .i64 0,.int .i64 0,.int .i64 0,.slice none 0 0,.bool false,.int .i64 0] 27)) hT;obtain ⟨gU,hgU⟩:∃ g,g=wx10.heap.size:=⟨_,rfl⟩;have hlU:w.heap.size+3<gU∧gT<gU:=by rw [hgU];exact ⟨q0.sz,hZT⟩
   rw [← hgU] at hU
   try rw [← hgU]
   clear hgU q0;generalize wx10.alloc (.cells #[.int .i64 0,.int .i64 0,.int .i64 0,.int .i64 0,.int .i64 0,.int .i64 0,.int .i64 0,.int .i64 0,.int .i64 0,.int .i64 0,.slice none 0 0,.bool false,.int .i64 0] 27)=wx11 at *
   refine bE (l':=tf 14 4095) (by kernel_rfl) ?_;have hl2:w.heap.size+3<gT∧w.heap.size+3<gU∧gT≠gU:=by omega
   clear hlT hlU
   try clear hZT
   try clear hZU
   try clear hb
   revert hH
   revert hU;revert hT
   revert hl2
   revert gU;revert gT
   revert wx11
   exact hNr8.out
  refine Uc 0 rfl (fun K hK=>?_) ?_
  ·try clear hb
   have hG:=hH;replace hG:=dR hG;(try dsimp only at hG);have q0:=hG;go_simp;refine hK.out _ _ ?hsr8_15 (fun hH2=>?hrr8_15)
   case hsr8_15=>exact iC (by have hG:=hH;replace hG:=dR hG;(try dsimp only at hG);have q0:=hG;exact q0.alloc _)
   clear hK K hH;have hH:=hH2;clear hH2
   try simp only [Act.put,sA,sB,sC]
   have hU:fD ((w3.alloc (.cells #[.int .i64 0,.int .i64 0,.int .i64 0,.int .i64 0,.int .i64 0,.int .i64 0,.int .i64 0,.int .i64 0,.int .i64 0,.int .i64 0,.slice none 0 0,.bool false,.int .i64 0] 27)).drew) w3.heap.size:=fD.drew (by have:=aL.here w3 mX none 0 0 27;simp only [mX] at this;exact fD.of this);obtain ⟨gU,hgU⟩:∃ g,g=w3.heap.size:=⟨_,rfl⟩;have hlU:w.heap.size+3<gU:=by rw [hgU];exact q0.sz
   rw [← hgU] at hU
   try rw [← hgU]
   clear hgU q0;generalize (w3.alloc (.cells #[.int .i64 0,.int .i64 0,.int .i64 0,.int .i64 0,.int .i64 0,.int .i64 0,.int .i64 0,.int .i64 0,.int .i64 0,.int .i64 0,.slice none 0 0,.bool false,.int .i64 0] 27)).drew=wx11 at *
   refine U1 10 0 rfl (fun K hK=>?_)
   try clear hb
   have hG:=hH;replace hG:=dR hG;(try dsimp only at hG);have q0:=hG;have hZU:=fD.lt hU;go_simp;refine hK.out _ _ ?hsr8_16 (fun hH2=>?hrr8_16)
   case hsr8_16=>exact iC (by have hG:=hH;replace hG:=dR hG;(try dsimp only at hG);have q0:=hG;exact q0.alloc _)
   clear hK K hH;have hH:=hH2;clear hH2
   try simp only [Act.put,sA,sB,sC]
   have hT:fD (wx11.alloc (.cells #[.int .i64 0,.int .i64 0,.int .i64 0,.int .i64 0,.int .i64 0,.int .i64 0,.int .i64 0,.int .i64 0,.int .i64 0,.int .i64 0,.slice none 0 0,.bool false,.int .i64 0] 27)) wx11.heap.size:=by have:=aL.here wx11 mX none 0 0 27;simp only [mX] at this;exact fD.of this
   replace hU:=cO ((Below.refl _ _).alloc (Nat.le_refl _) (.cells #[.int .i64 0,.int .i64 0,.int .i64 0,.int .i64 0,.int .i64 0,.int .i64 0,.int .i64 0,.int .i64 0,.int .i64 0,.int .i64 0,.slice none 0 0,.bool false,.int .i64 0] 27)) hU;obtain ⟨gT,hgT⟩:∃ g,g=wx11.heap.size:=⟨_,rfl⟩;have hlT:w.heap.size+3<gT∧gU<gT:=by rw [hgT];exact ⟨q0.sz,hZU⟩
   rw [← hgT] at hT
   try rw [← hgT]
   clear hgT q0;generalize wx11.alloc (.cells #[.int .i64 0,.int .i64 0,.int .i64 0,.int .i64 0,.int .i64 0,.int .i64 0,.int .i64 0,.int .i64 0,.int .i64 0,.int .i64 0,.slice none 0 0,.bool false,.int .i64 0] 27)=wx10 at *
   refine bE (l':=tf 14 4095) (by kernel_rfl) ?_;have hl2:w.heap.size+3<gT∧w.heap.size+3<gU∧gT≠gU:=by omega
   clear hlT hlU
   try clear hZT
   try clear hZU
   try clear hb
   revert hH
   revert hU;revert hT
   revert hl2
   revert gU;revert gT
   revert wx10
   exact hNr8.out
  exact bC.nil
 case prfr8 =>
  intro wX gT gU hl2 hT hU hH;have hWr8:aH (S3 (fun w'=>Pj w g L x p1 p2 q1 q2 v1 v2 w') (fun w'=>Pj w g L x p1 p2 q1 q2 v1 v2 w')):=fP (fun _ q0=>q0);refine U1 12 1 rfl (fun K hK=>?_)
  try clear hb
  have hG:=hH;replace hG:=dR hG;(try dsimp only at hG);have fq0:=hG;have HPJ:=hid fq0;have HT:=hid hT;have HU:=hid hU;obtain ⟨z0,z1,z2,z3,z4,z5,z6,z7,z8,z9,z10,z11,z12,y0,y1,y2,y3,y4,y5,y6,y7,y8,y9,y10,y11,y12⟩:=hT.all;have yf:=hT.free;obtain ⟨t0,t1,t2,t3,t4,t5,t6,t7,t8,t9,t10,t11,t12,u0,u1,u2,u3,u4,u5,u6,u7,u8,u9,u10,u11,u12⟩:=hU.all;have uf:=hU.free;have hneTU:¬ gT=gU:=hl2.2.2;have hneUT:¬ gU=gT:=fun h=>hl2.2.2 h.symm
  clear hG fq0;go_simp;refine hK.out _ _ ?hsr8_13 (fun hH2=>?hrr8_13)
  case hsr8_13=>exact rF (by have hh:=HPJ.out.setBd hl2.1 xa.b xa.A xa.n xa.c;unfold Go.Proofs.YtokgmcomgflloaaGreat.setBd at hh;exact hh)
  clear hK K hH;have hH:=hH2;clear hH2
  try simp only [Act.put,sA,sB,sC]
  refine U1 13 2 rfl (fun K hK=>?_);go_simp;refine hK.out _ _ ?hsr8_14 (fun hH2=>?hrr8_14)
  case hsr8_14=>exact vR
  clear hK K hH;have hH:=hH2;clear hH2
  try simp only [Act.put,sA,sB,sC]
  refine ak (by kernel_rfl) ?_ _ _;refine NoPanic.normal ?_;obtain ⟨w5,hw5⟩:∃ w5,w5=setBd (setBd wX gT xa.b xa.A xa.n xa.c) gU xb.b xb.A xb.n xb.c:=⟨_,rfl⟩;have HE3:=hid (Oz hl2.1 hl2.2.1 hneTU HPJ.out HT.out HU.out xa.b xb.b xa.A xb.A xa.n xb.n xa.c xb.c);rw [← hw5] at HE3;unfold setBd at hw5;have HPJ5:=hid HE3.out.1;have HTA:=hid HE3.out.2.1;have HUB:=hid HE3.out.2.2;clear HE3 HPJ HT HU z0 z1 z2 z3 z4 z5 z6 z7 z8 z9 z10 z11 z12 y0 y1 y2 y3 y4 y5 y6 y7 y8 y9 y10 y11 y12 t0 t1 t2 t3 t4 t5 t6 t7 t8 t9 t10 t11 t12 u0 u1 u2 u3 u4 u5 u6 u7 u8 u9 u10 u11 u12 yf uf
  try clear hH
  go_upto_region 2 with fail
  rw [← hw5];clear hw5;refine wp_region_noPanic ?_;refine au (S:=(S2 (fun w'=>Pj w g L x p1 p2 q1 q2 v1 v2 w'∧aL w' gT xa.b xa.A xa.n xa.c∧aL w' gU xb.b xb.A xb.n xb.c))) (T:=(fun _=>0)) (by kernel_rfl) (aC ⟨HPJ5.out.drew,HTA.out.drew,HUB.out.drew⟩) (fun hH=>?_);have hWr4:aH (S2 (fun w'=>Pj w g L x p1 p2 q1 q2 v1 v2 w'∧aL w' gT xa.b xa.A xa.n xa.c∧aL w' gU xb.b xb.A xb.n xb.c)):=aK _;refine dn [(0,29),(1,30),(2,31),(4,33),(5,34),(6,35)] 4 0 0 (L':=?Lr4_1) hWr4 hH ?hyr4_1 ?_
  case hyr4_1=>((iterate 6 apply dA;rfl;kernel_rfl;intro w' hSw;replace hSw:=aA hSw;(try dsimp only at hSw);have q0:=hSw.1;have q1:=hSw.2.1;have q2:=hSw.2.2;obtain ⟨qa0_0,qa0_1,qa0_2,qa0_3,qa0_4,qa0_5,qa0_6⟩:=(q0).j;have d0_0:=(q0).p.1;have d0_1:=(q0).p.2;have e0_0:=(q0).q.1;have e0_1:=(q0).q.2;have f0_0:=(q0).v.1;have f0_1:=(q0).v.2;obtain ⟨b0_0,b0_1,b0_2,b0_3,b0_4,b0_5,b0_6,b0_7,b0_8,b0_9,b0_10,b0_11,b0_12⟩:=bK (q0).bl.cl hka HXA.out;obtain ⟨c0_0,c0_1,c0_2,c0_3,c0_4,c0_5,c0_6,c0_7,c0_8,c0_9,c0_10,c0_11,c0_12⟩:=bK (q0).bl.cl hkb HXB.out;obtain ⟨qa1_0,qa1_1,qa1_2,qa1_3,qa1_4,qa1_5,qa1_6,qa1_7,qa1_8,qa1_9,qa1_10,qa1_11,qa1_12,qa1_f⟩:=id q1;obtain ⟨qa2_0,qa2_1,qa2_2,qa2_3,qa2_4,qa2_5,qa2_6,qa2_7,qa2_8,qa2_9,qa2_10,qa2_11,qa2_12,qa2_f⟩:=id q2;(try simp only [sB,sC]);go_simp;(try with_reducible rfl));exact dw)
  simp only [sB,sC];refine U1 3 0 rfl (fun K hK=>?_)
  try clear hb
  have hG:=hH;replace hG:=aA hG;(try dsimp only at hG);have fq0:=hG.1;have fq1:=hG.2.1;have fq2:=hG.2.2;go_simp
  (go_at_call 173;refine (HEA.out _ fq0.bel).mono ?_;rintro e wn ⟨rfl,hb⟩)
  refine hK.out _ _ ?hsr4_7 (fun hH2=>?hrr4_7)
  case hsr4_7=>exact aC (by have hG:=hH;replace hG:=aA hG;(try dsimp only at hG);have q0:=hG.1;have q1:=hG.2.1;have q2:=hG.2.2;exact ⟨yI hb q0,aM hb q1,aM hb q2⟩)
  clear hK K hH;have hH:=hH2;clear hH2
  try simp only [Act.put,sA,sB,sC]
  refine U1 7 0 rfl (fun K hK=>?_)
  try clear hb
  have hG:=hH;replace hG:=aA hG;(try dsimp only at hG);have fq0:=hG.1;have fq1:=hG.2.1;have fq2:=hG.2.2;go_simp
  (go_at_call 173;refine (HEB.out _ fq0.bel).mono ?_;rintro e wn ⟨rfl,hb⟩)
  refine hK.out _ _ ?hsr4_8 (fun hH2=>?hrr4_8)
  case hsr4_8=>exact aC (by have hG:=hH;replace hG:=aA hG;(try dsimp only at hG);have q0:=hG.1;have q1:=hG.2.1;have q2:=hG.2.2;exact ⟨yI hb q0,aM hb q1,aM hb q2⟩)
  clear hK K hH;have hH:=hH2;clear hH2
  try simp only [Act.put,sA,sB,sC]
  refine U1 8 0 rfl (fun K hK=>?_)
  try clear hb
  go_simp
  (go_at_call 153;refine (eH _ _ _).mono ?_;rw [HEZ.out];rintro e wn ⟨rfl,hb⟩)
  refine hK.out _ _ ?hsr4_9 (fun hH2=>?hrr4_9)
  case hsr4_9=>exact aC (by have hG:=hH;replace hG:=aA hG;(try dsimp only at hG);have q0:=hG.1;have q1:=hG.2.1;have q2:=hG.2.2;exact ⟨yI hb q0,aM hb q1,aM hb q2⟩)
  clear hK K hH;have hH:=hH2;clear hH2
  try simp only [Act.put,sA,sB,sC]
  refine Ut 9 16 0 0 0 (v:=?vr4_10) rfl hWr4 hH ?hyr4_10 ?_
  case hyr4_10=>(intro w' hSw;clear hSw;go_simp;try (with_reducible rfl))
  simp only [sB,sC];refine ak (by kernel_rfl) ?_ _ _;refine NoPanic.normal ?_;clear hWr4;replace hH:=aA hH
  (try dsimp only at hH)
  have t0:=hH.1;have t1:=hH.2.1;have t2:=hH.2.2;replace HPJ5:=hid t0;replace HTA:=hid t1;replace HUB:=hid t2;clear t0 t1 t2
  try clear hH hb
  have hz:=HZ0.out;clear HZ0;have HB9:=hid (bN (row:=some g) HPJ5.out.bel);have HBL9:=hid HPJ5.out.bl;have HFI:=hid (HFIZ.out hz);clear HPJ5 HTA HUB;go_wp2;refine bodyPost_ret (v:=.tuple #[]) (by simp [results,Tryz.results112,go_sem]) rfl ⟨L,rfl,HBL9.out,HFI.out,HB9.out⟩
end
end Go.Proofs.YtokgmcomgflloaaGreat
