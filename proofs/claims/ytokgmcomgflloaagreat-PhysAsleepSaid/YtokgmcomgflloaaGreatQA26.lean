/- Parts of a proof: contracts and laws. -/
import Derived.Test.YtokgmcomgflloaaGreatQA25
import Derived.Test.YtokgmcomgflloaaGreatQA02
set_option maxRecDepth 100000
set_option maxHeartbeats 16000000
namespace Go.Proofs.YtokgmcomgflloaaGreat
section
set_option linter.unusedVariables false
set_option linter.unusedSimpArgs false
open Go.RowKit
variable {w0 w w':World}
def Qd (c:Int):Int:=if (1000:Int)<c+1 then 1000 else c+1

def Lm (b:Bd):Prop:=rE b.vx b.vy≤2048 ∧ -1024≤b.spin∧b.spin≤1024
instance (b:Bd):Decidable (Lm b):=by unfold Lm;infer_instance
def lI (b:Bd):Bd:=if b.mass=0∨b.asleep=true then b else if Lm b then { b with calm:=Qd b.calm } else { b with calm:=0 }
def iO (x:BE):BE:={ x with b:=lI x.b }

def NG (b:Bd):Bool:=decide (b.mass > 0) && !b.asleep && decide ((lI b).calm<30)
def Me (L:List BE) (j:Nat):Bool:=match L[j]? with | some x=>NG x.b | none=>false
def JA (L : List BE) (f : Nat → Nat) : Nat → Nat → Bool
 | 0,_=>true
 | k+1,i=>JA L f k i && !(decide (f k=i) && Me L k)
def vX (b:Bd):Bd:={ b with asleep:=true,vx:=0,vy:=0,spin:=0 }
def pJ (p:Nat→Bool) (j:Nat) (x:BE):BE:=if x.b.mass > 0∧p j=true then { x with b:=vX x.b } else x
def iP (L:List BE) (f:Nat→Nat):List BE:=(L.map iO).mapIdx (pJ (fun j=>JA L f L.length (f j)))

structure KP (w0 : World) (g ga n k : Nat) (L : List BE) (f : Nat → Nat) (M : List BE) (wr : World) : Prop where
 len:M.length=n
 at_:∀ j:Nat,j<n→M[j]? = if j<k then (L[j]?).map iO else L[j]?
 bl:BL wr g M
 cs:∀ i,i<n→wr.cell? ⟨ga,i,none⟩=some (.bool (JA L f k i))
 fr:∀ j,wr.frozen? ⟨ga,j,none⟩=false
 out:Out (fun k=>k=g) w0 wr
 lt:g<w0.heap.size∧w0.heap.size≤ga∧ga<wr.heap.size
 lo:∀ y ∈ M,∀ bx off,y.A=some ⟨bx,off,none⟩→bx<w0.heap.size
theorem Hg {g ga n k:Nat} {L:List BE} {f:Nat→Nat} {M:List BE} {wr w':World} (hb:Below wr.heap.size wr w') (h:KP w0 g ga n k L f M wr):KP w0 g ga n k L f M w' :=
 ⟨h.len,h.at_,fI hb h.bl,fun i hi=>keepCell hb (h.cs i hi),fun j=>(World.frozen?_of_block (hb.block _ h.lt.2.2)).trans (h.fr j),h.out.trans (Out.below (D:=fun _=>False) hb) (fun i _ q=>q.elim),⟨h.lt.1,h.lt.2.1,Nat.lt_of_lt_of_le h.lt.2.2 hb.size⟩,h.lo⟩
theorem Cm {L:List BE} {f:Nat→Nat} {k:Nat} (h:Me L k=false) (i:Nat):JA L f (k+1) i=JA L f k i:=by
 show (JA L f k i && !(decide (f k=i) && Me L k))=_;rw [h,Bool.and_false,Bool.not_false,Bool.and_true]

theorem KP.next {g ga n k:Nat} {L:List BE} {f:Nat→Nat} {M:List BE} {wr:World} (h:KP w0 g ga n k L f M wr) (hk:k<n) {x:BE} (hx:L[k]? = some x) (hF:iO x=x) (hr:Me L k=false):KP w0 g ga n (k+1) L f M wr :=
 ⟨h.len,fun j hj=>by
  rw [h.at_ j hj]
  by_cases e:j<k
  ·rw [if_pos e,if_pos (by omega)]
  ·rw [if_neg e]
   by_cases e2:j=k
   ·subst e2;rw [if_pos (by omega),hx];simp [hF]
   ·rw [if_neg (by omega)],h.bl,fun i hi=>by rw [Cm hr];exact h.cs i hi,h.fr,h.out,h.lt,h.lo⟩

theorem KP.store {g ga n k:Nat} {L:List BE} {f:Nat→Nat} {M:List BE} {wr:World} (h:KP w0 g ga n k L f M wr) {x:BE} (hk:k<M.length) (hx:x=M[k]) (c1:Int) (hF:L[k]? = some x∧iO x={ x with b:={ x.b with calm:=c1 } }) (hkn:k<n) :
  (Me L k=false→KP w0 g ga n (k+1) L f (M.set k { x with b:={ x.b with calm:=c1 } }) (wr.setCell ⟨g,k*13+12,none⟩ (.int .i64 c1))) ∧
  (Me L k=true→KP w0 g ga n (k+1) L f (M.set k { x with b:={ x.b with calm:=c1 } }) ((wr.setCell ⟨g,k*13+12,none⟩ (.int .i64 c1)).setCell ⟨ga,f k,none⟩ (.bool false))):=by
 have hB1:=h.bl.cell hk { x with b:={ x.b with calm:=c1 } } (o:=12) (v:=.int .i64 c1) (by omega) (by rw [← hx];rfl) (by rw [← hx];exact ⟨rfl,rfl,rfl,rfl⟩);obtain ⟨l1,l2,l3⟩:=h.lt;have hlen:(M.set k { x with b:={ x.b with calm:=c1 } }).length=n:=by rw [List.length_set];exact h.len
 have hat:∀ j:Nat,j<n→(M.set k { x with b:={ x.b with calm:=c1 } })[j]? = if j<k+1 then (L[j]?).map iO else L[j]? := fun j hj=>by
  by_cases e:j=k
  ·subst e;rw [List.getElem?_set_self hk,if_pos (by omega),hF.1,← hF.2];rfl
  ·rw [List.getElem?_set_ne (fun q => e q.symm), h.at_ j hj]
   by_cases e2:j<k
   ·rw [if_pos e2,if_pos (by omega)]
   ·rw [if_neg e2,if_neg (by omega)]
 have hlo:∀ y ∈ M.set k { x with b:={ x.b with calm:=c1 } },∀ bx off,y.A=some ⟨bx,off,none⟩→bx<w0.heap.size:=fun y hy=>by
  rcases List.mem_or_eq_of_mem_set hy with q | rfl
  ·exact h.lo y q
  ·exact h.lo x (by rw [hx];exact List.getElem_mem _)
 have hout:=h.out.setCell (p:=⟨g,k*13+12,none⟩) (.inr rfl) (.int .i64 c1);have hcs:∀ i,i<n→(wr.setCell ⟨g,k*13+12,none⟩ (.int .i64 c1)).cell? ⟨ga,i,none⟩=some (.bool (JA L f k i)):=fun i hi=>aY (by omega) (h.cs i hi)
 have hfr:∀ j,(wr.setCell ⟨g,k*13+12,none⟩ (.int .i64 c1)).frozen? ⟨ga,j,none⟩=false:=eu h.fr _ _;refine ⟨fun hr=>⟨hlen,hat,hB1,fun i hi=>by rw [Cm hr];exact hcs i hi,hfr,hout,⟨l1,l2,by rw [World.size_setCell];exact l3⟩,hlo⟩,fun hr=>⟨hlen,hat,hB1.off (by omega) (fun y hy bx off e=>by have:=hlo y hy bx off e;omega),fun i hi=>?_,eu hfr _ _,hout.setCell (p:=⟨ga,f k,none⟩) (.inl l2) _,⟨l1,l2,by rw [World.size_setCell,World.size_setCell];exact l3⟩,hlo⟩⟩
 by_cases e:i=f k
 ·subst e;show _=some (Value.bool (JA L f k (f k) && !(decide (f k=f k) && Me L k)));rw [hr,decide_eq_true rfl,Bool.and_true,Bool.not_true,Bool.and_false];exact nE (hcs _ hi)
 ·show _ = some (Value.bool (JA L f k i && !(decide (f k = i) && Me L k)));rw [decide_eq_false (fun q=>e q.symm),Bool.false_and,Bool.not_false,Bool.and_true];exact iG (hcs i hi) (fun q=>e q.symm)

structure JB (w0 : World) (g n k : Nat) (L : List BE) (p : Nat → Bool) (M : List BE) (wr : World) : Prop where
 len:M.length=n
 at_:∀ j:Nat,j<n→M[j]? = if j<k then (L[j]?).map (pJ p j) else L[j]?
 bl:BL wr g M
 out:Out (fun k=>k=g) w0 wr
theorem JB.next {g n k:Nat} {L:List BE} {p:Nat→Bool} {M:List BE} {wr w':World} (h:JB w0 g n k L p M wr) {x:BE} (hk:k<M.length) (hx:x=M[k]) (hb:Below wr.heap.size wr w') :
  (pJ p k x=x→JB w0 g n (k+1) L p M w')∧(pJ p k x={ x with b:=vX x.b }→JB w0 g n (k+1) L p (M.set k { x with b:=vX x.b }) ((((w'.setCell ⟨g,k*13+11,none⟩ (.bool true)).setCell ⟨g,k*13+2,none⟩ (.int .i64 0)).setCell ⟨g,k*13+3,none⟩ (.int .i64 0)).setCell ⟨g,k*13+5,none⟩ (.int .i64 0))):=by
 have hkn:k<n:=by rw [← h.len];exact hk
 have hML:L[k]? = some x:=by have:=h.at_ k hkn;rw [if_neg (by omega)] at this;rw [← this,List.getElem?_eq_getElem hk,hx]
 have hbl:=fI hb h.bl;have hout:=h.out.trans (Out.below (D:=fun _=>False) hb) (fun i _ q=>q.elim);refine ⟨fun e=>⟨h.len,fun j hj=>?_,hbl,hout⟩,fun e=>?_⟩
 ·rw [h.at_ j hj]
  by_cases e1:j<k
  ·rw [if_pos e1,if_pos (by omega)]
  ·rw [if_neg e1]
   by_cases e2:j=k
   ·subst e2;rw [if_pos (by omega),hML];simp [e]
   ·rw [if_neg (by omega)]
 ·have h1 := hbl.cell hk { x with b := { x.b with asleep := true } } (o := 11) (v := .bool true) (by omega) (by rw [← hx]; rfl) (by rw [← hx]; exact ⟨rfl, rfl, rfl, rfl⟩);have h2:=h1.cell (k:=k) (by rw [List.length_set];exact hk) { x with b:={ x.b with asleep:=true,vx:=0 } } (o:=2) (v:=.int .i64 0) (by omega) (by rw [List.getElem_set_self];rfl) (by rw [List.getElem_set_self];exact ⟨rfl,rfl,rfl,rfl⟩);have h3:=h2.cell (k:=k) (by rw [List.length_set,List.length_set];exact hk) { x with b:={ x.b with asleep:=true,vx:=0,vy:=0 } } (o:=3) (v:=.int .i64 0) (by omega) (by rw [List.getElem_set_self];rfl) (by rw [List.getElem_set_self];exact ⟨rfl,rfl,rfl,rfl⟩);have h4:=h3.cell (k:=k) (by rw [List.length_set,List.length_set,List.length_set];exact hk) { x with b:=vX x.b } (o:=5) (v:=.int .i64 0) (by omega) (by rw [List.getElem_set_self];rfl) (by rw [List.getElem_set_self];exact ⟨rfl,rfl,rfl,rfl⟩);rw [List.set_set,List.set_set,List.set_set] at h4;refine ⟨by rw [List.length_set];exact h.len,fun j hj=>?_,h4,(((hout.setCell (p:=⟨g,k*13+11,none⟩) (.inr rfl) _).setCell (p:=⟨g,k*13+2,none⟩) (.inr rfl) _).setCell (p:=⟨g,k*13+3,none⟩) (.inr rfl) _).setCell (p:=⟨g,k*13+5,none⟩) (.inr rfl) _⟩
  by_cases e1:j=k
  ·subst e1;rw [List.getElem?_set_self hk,if_pos (by omega),hML];show _=some (pJ p j x);rw [e]
  ·rw [List.getElem?_set_ne (fun q => e1 q.symm), h.at_ j hj]
   by_cases e2:j<k
   ·rw [if_pos e2,if_pos (by omega)]
   ·rw [if_neg e2,if_neg (by omega)]
theorem E5 {g gs n c c':Nat} {L:List BE} {f:Nat→Nat} (hB:BL w g L) (hn:n=L.length) (hlo:∀ y ∈ L,∀ bx off,y.A=some ⟨bx,off,none⟩→bx<w.heap.size) (hm0:∀ y ∈ L,0≤y.b.mass) (hcm:∀ y ∈ L,0≤y.b.calm∧y.b.calm≤1000) (hG:∀ j,j<n→w.cell? ⟨gs,j,none⟩=some (.int .i64 (f j:Nat))) (hne:g≠gs) (hf:∀ j,j<n→f j<n) (hc:n≤c) (hc':n≤c') (hN:n≤1000) :
  Calls Tryz.prog 53 #[.slice (some ⟨g,0,none⟩) n c,.slice (some ⟨gs,0,none⟩) n c'] w (fun e w'=>e = .returned (.tuple #[])∧BL w' g (iP L f)∧Out (fun k=>k=g) w w'):=by
 obtain ⟨w1,hw1⟩:∃ x,x=w.alloc (.cells #[.bool true] 4):=⟨_,rfl⟩;obtain ⟨gt,hgt⟩:∃ x,x=w.heap.size:=⟨_,rfl⟩;have hb1:Below w.heap.size w w1:=by rw [hw1];exact (Below.refl _ _).alloc (Nat.le_refl _) _
 have HRP:=hid (qU w.heap.size 1 n true (w.alloc (.cells #[.bool true] 4)) (by go_simp) hN);have HB1:=hid hb1;have HB:=hid hB;have HL:=hid hn;have HG:=hid hG;have HF:=hid hf;have HLO:=hid hlo;have HM0:=hid hm0;have HCM:=hid hcm;have hgw:=hB.cl.lt;clear hB hn hlo hm0 hcm hG hf hb1 hgt
 go_enter Tryz.func53,Tryz.ntmps53
 go_wp2_with fail
 refine HRP.out.mono ?_;rintro e w2 ⟨ga,rfl,hg1,hg2,hgc,hgf,hb2⟩
 have HW0:Hid (KP w g ga n 0 L f L w2):=hid (by
  rw [World.size_alloc] at hg1;have hbb:Below w.heap.size w w2:=aj hb2 Ba
  exact ⟨HL.out.symm,fun j hj=>by rw [if_neg (by omega)],fI hbb HB.out,hgc,hgf,Out.below hbb,⟨hgw,by omega,hg2⟩,HLO.out⟩)
 clear HRP hg1 hg2 hgc hgf hb2 HB1 hw1;go_wp2
 go_loopw [15] (fun j wr=>∃ (k:Nat) (M:List BE),k≤n∧j = .int .i64 k∧Hid (KP w g ga n k L f M wr)) (fun j _=>n-(intOf j).toNat)
 case atStart=>exact ⟨0,L,Nat.zero_le _,rfl,HW0⟩
 case round =>
  clear HW0;obtain ⟨k,M,hk,rfl,HW⟩:=hrel;obtain ⟨wo,rfl⟩:∃ wo:World,wo=wr:=⟨_,rfl⟩
  by_cases hlt:k<n
  ·have hlt' : (k : Int) < (n : Int) := by omega
   have hwk:IntKind.i64.wrap ((k:Int)+1)=(k:Int)+1:=IntWalk.i64_in _ (by omega);have hkM:k<M.length:=by rw [HW.out.len];exact hlt
   obtain ⟨x,hx⟩:∃ x,x=M[k]:=⟨_,rfl⟩;have HX:Hid (∀ h:k<M.length,x=M[k]):=hid (fun _=>hx);obtain ⟨d0,d1,d2,d3,d4,d5,d6,d7,d8,d9,d10,d11,d12⟩:=bK HW.out.bl.cl hkM hx;have hML:M[k]? = L[k]? := by have:=HW.out.at_ k hlt;rwa [if_neg (by omega)] at this
   have hLK:L[k]? = some x:=by rw [← hML,List.getElem?_eq_getElem hkM,hx]
   have hxm:x ∈ L:=List.mem_of_getElem? hLK;have HLK:=hid hLK;have HRL:Hid (Me L k=NG x.b):=hid (by unfold Me;rw [hLK]);have hms:=HM0.out x hxm;have hcb:=HCM.out x hxm;clear hx hML hkM hLK hxm;obtain ⟨⟨px,py,vx,vy,ang,spin,ms,iner,bounce,rub,asl,calm⟩,xA,xn,xc,xl⟩:=x;dsimp only at d0 d1 d2 d3 d4 d5 d6 d7 d8 d9 d10 d11 d12 hms hcb HRL;have ld:=lt_of_cell d0;obtain ⟨w5,hw5⟩:∃ y,y=wo.alloc (.cells #[.int .i64 px,.int .i64 py,.int .i64 vx,.int .i64 vy,.int .i64 ang,.int .i64 spin,.int .i64 ms,.int .i64 iner,.int .i64 bounce,.int .i64 rub,.slice xA xn xc,.bool asl,.int .i64 calm] 27):=⟨_,rfl⟩;obtain ⟨gb,hgb⟩:∃ y,y=wo.heap.size:=⟨_,rfl⟩;have hb5:Below wo.heap.size wo w5:=by rw [hw5];exact (Below.refl _ _).alloc (Nat.le_refl _) _
   have c2:w5.cell? ⟨gb,2,none⟩=some (.int .i64 vx):=by rw [hw5,hgb];go_simp
   have c3:w5.cell? ⟨gb,3,none⟩=some (.int .i64 vy):=by rw [hw5,hgb];go_simp
   have c5:w5.cell? ⟨gb,5,none⟩=some (.int .i64 spin):=by rw [hw5,hgb];go_simp
   have c6:w5.cell? ⟨gb,6,none⟩=some (.int .i64 ms):=by rw [hw5,hgb];go_simp
   have c11:w5.cell? ⟨gb,11,none⟩=some (.bool asl):=by rw [hw5,hgb];go_simp
   have c12:w5.cell? ⟨gb,12,none⟩=some (.int .i64 calm):=by rw [hw5,hgb];go_simp
   have hgb2:g≠gb∧ga≠gb:=by have h1:=HW.out.lt;omega
   have HF5:=hid (Hg hb5 HW.out);clear hb5 HW
   go_upto_region 5 with fail
   rw [← hw5,← hgb];clear hw5 hgb d0 d1 d2 d3 d4 d5 d6 d7 d8 d9 d10 d11 d12 ld;have lb:=lt_of_cell c6
   by_cases hm:ms=0
   ·have hm1 : (ms == 0) = true := by simp [hm]
    have hm2:¬ ms > 0:=by omega
    have HR:=hid (HF5.out.next hlt HLK.out (by unfold iO lI;rw [if_pos (Or.inl hm)]) (by rw [HRL.out];unfold NG;simp [hm]));clear HF5 HLK HRL HX;go_wp2;go_roundw
    case rel=>exact ⟨k+1,M,hlt,by go_num,HR⟩
    case measure=>simp [intOf];omega
   have hm1:(ms == 0)=false:=by simp [hm]
   have hm2:ms > 0:=by omega
   cases asl with
   | true =>
    have HR:=hid (HF5.out.next hlt HLK.out (by unfold iO lI;rw [if_pos (Or.inr rfl)]) (by rw [HRL.out];unfold NG;simp));clear HF5 HLK HRL HX;go_wp2;go_roundw
    case rel=>exact ⟨k+1,M,hlt,by go_num,HR⟩
    case measure=>simp [intOf];omega
   | false =>
    obtain ⟨lv,hlv⟩:∃ y,y=rE vx vy:=⟨_,rfl⟩;have HVL:Hid (∀ w,Calls Tryz.prog 10 #[aR vx vy] w (dG (.int .i64 lv) w)):=hid (fun w=>by rw [hlv];exact rG vx vy w);have HLV:=hid hlv;clear hlv
    go_wp2_with fail
    refine (HVL.out _).mono ?_;rintro e w6 ⟨rfl,hb6⟩;replace c2:=keepCell hb6 c2;replace c3:=keepCell hb6 c3;replace c5:=keepCell hb6 c5;replace c6:=keepCell hb6 c6;replace c11:=keepCell hb6 c11;replace c12:=keepCell hb6 c12;replace lb:=lt_of_cell c6;have HF6:=hid (Hg hb6 HF5.out);clear hb6 HVL HF5;have hkM6:k<M.length:=by rw [HF6.out.len];exact hlt
    obtain ⟨-,-,-,-,-,-,-,-,-,-,-,-,e12⟩:=bK HF6.out.bl.cl hkM6 (HX.out hkM6);dsimp only at e12;have le:=lt_of_cell e12;have cf:=HF6.out.bl.free;have cfa:=HF6.out.fr;obtain ⟨fk,hfk⟩:∃ y,y=f k:=⟨_,rfl⟩;have HFK:=hid hfk;have hfn:fk<n:=by rw [hfk];exact HF.out k hlt
    have hfn':(fk:Int)<(n:Int):=by omega
    have cg:w6.cell? ⟨gs,k,none⟩=some (.int .i64 (fk:Nat)):=by rw [hfk];exact HF6.out.out.cell (HG.out k hlt) (fun q=>hne q.symm)
    obtain ⟨av,hav⟩:∃ y,y=JA L f k fk:=⟨_,rfl⟩;have ca:w6.cell? ⟨ga,fk,none⟩=some (.bool av):=by rw [hav];exact HF6.out.cs fk hfn
    have lg:=lt_of_cell cg;have la:=lt_of_cell ca;have hga:ga≠g∧g≠ga:=by have h1:=HF6.out.lt;omega
    have hgs2:gs≠g∧g≠gs:=⟨fun q=>hne q.symm,hne⟩;clear hfk hav;have hwc:IntKind.i64.wrap (calm+1)=calm+1:=IntWalk.i64_in _ (by omega);obtain ⟨cc,hcc0⟩:∃ y,y=Qd calm:=⟨_,rfl⟩;have hmn:∀ (ts:Array TypeId) (t:TypeId) (w:World),(Builtin.min_ ts t #[.int .i64 (calm+1),.int .i64 1000]).run Tryz.prog w = .ok (.int .i64 cc) w:=fun ts t w=>by rw [run_min_int2,hcc0];rfl
    have HCC:=hid hcc0;clear hcc0
    by_cases q1:lv≤2048
    ·by_cases q2 : spin ≥ -1024
     ·by_cases q3 : spin ≤ 1024
      ·by_cases q4 : cc < 30
       ·skip
        have HCB:Hid (iO (⟨⟨px,py,vx,vy,ang,spin,ms,iner,bounce,rub,false,calm⟩,xA,xn,xc,xl⟩:BE)=(⟨⟨px,py,vx,vy,ang,spin,ms,iner,bounce,rub,false,cc⟩,xA,xn,xc,xl⟩:BE)):=hid (by unfold iO lI;rw [if_neg (by simp [hm]),if_pos (show Lm _ from ⟨by show rE vx vy≤_;rw [← HLV.out];exact q1,q2,q3⟩),HCC.out]);have HSS:=hid (HF6.out.store hkM6 (HX.out hkM6) (cc) ⟨HLK.out,HCB.out⟩ hlt);have hcc:(lI (⟨px,py,vx,vy,ang,spin,ms,iner,bounce,rub,false,calm⟩:Bd)).calm=cc:=congrArg (fun y:BE=>y.b.calm) HCB.out;have HR:=hid (HSS.out.2 (by rw [HRL.out];unfold NG;rw [hcc];simp [hm2,q4]));rw [← HFK.out] at HR;clear HSS HF6 HLK HRL HX HCB hcc hkM6;go_wp2;go_roundw
        case rel=>exact ⟨k+1,_,hlt,by go_num,HR⟩
        case measure=>simp [intOf];omega
       ·skip
        have HCB:Hid (iO (⟨⟨px,py,vx,vy,ang,spin,ms,iner,bounce,rub,false,calm⟩,xA,xn,xc,xl⟩:BE)=(⟨⟨px,py,vx,vy,ang,spin,ms,iner,bounce,rub,false,cc⟩,xA,xn,xc,xl⟩:BE)):=hid (by unfold iO lI;rw [if_neg (by simp [hm]),if_pos (show Lm _ from ⟨by show rE vx vy≤_;rw [← HLV.out];exact q1,q2,q3⟩),HCC.out]);have HSS:=hid (HF6.out.store hkM6 (HX.out hkM6) (cc) ⟨HLK.out,HCB.out⟩ hlt);have hcc:(lI (⟨px,py,vx,vy,ang,spin,ms,iner,bounce,rub,false,calm⟩:Bd)).calm=cc:=congrArg (fun y:BE=>y.b.calm) HCB.out;have HR:=hid (HSS.out.1 (by rw [HRL.out];unfold NG;rw [hcc];simp [q4]));clear HSS HF6 HLK HRL HX HCB hcc hkM6;go_wp2;go_roundw
        case rel=>exact ⟨k+1,_,hlt,by go_num,HR⟩
        case measure=>simp [intOf];omega
      ·skip
       have HCB:Hid (iO (⟨⟨px,py,vx,vy,ang,spin,ms,iner,bounce,rub,false,calm⟩,xA,xn,xc,xl⟩:BE)=(⟨⟨px,py,vx,vy,ang,spin,ms,iner,bounce,rub,false,0⟩,xA,xn,xc,xl⟩:BE)):=hid (by unfold iO lI;rw [if_neg (by simp [hm]),if_neg (fun h=>q3 h.2.2)]);have HSS:=hid (HF6.out.store hkM6 (HX.out hkM6) (0) ⟨HLK.out,HCB.out⟩ hlt);have hcc:(lI (⟨px,py,vx,vy,ang,spin,ms,iner,bounce,rub,false,calm⟩:Bd)).calm=0:=congrArg (fun y:BE=>y.b.calm) HCB.out;have HR:=hid (HSS.out.2 (by rw [HRL.out];unfold NG;rw [hcc];simp [hm2]));rw [← HFK.out] at HR;clear HSS HF6 HLK HRL HX HCB hcc hkM6;go_wp2;go_roundw
       case rel=>exact ⟨k+1,_,hlt,by go_num,HR⟩
       case measure=>simp [intOf];omega
     ·skip
      have HCB:Hid (iO (⟨⟨px,py,vx,vy,ang,spin,ms,iner,bounce,rub,false,calm⟩,xA,xn,xc,xl⟩:BE)=(⟨⟨px,py,vx,vy,ang,spin,ms,iner,bounce,rub,false,0⟩,xA,xn,xc,xl⟩:BE)):=hid (by unfold iO lI;rw [if_neg (by simp [hm]),if_neg (fun h=>q2 h.2.1)]);have HSS:=hid (HF6.out.store hkM6 (HX.out hkM6) (0) ⟨HLK.out,HCB.out⟩ hlt);have hcc:(lI (⟨px,py,vx,vy,ang,spin,ms,iner,bounce,rub,false,calm⟩:Bd)).calm=0:=congrArg (fun y:BE=>y.b.calm) HCB.out;have HR:=hid (HSS.out.2 (by rw [HRL.out];unfold NG;rw [hcc];simp [hm2]));rw [← HFK.out] at HR;clear HSS HF6 HLK HRL HX HCB hcc hkM6;go_wp2;go_roundw
      case rel=>exact ⟨k+1,_,hlt,by go_num,HR⟩
      case measure=>simp [intOf];omega
    ·skip
     have HCB:Hid (iO (⟨⟨px,py,vx,vy,ang,spin,ms,iner,bounce,rub,false,calm⟩,xA,xn,xc,xl⟩:BE)=(⟨⟨px,py,vx,vy,ang,spin,ms,iner,bounce,rub,false,0⟩,xA,xn,xc,xl⟩:BE)):=hid (by unfold iO lI;rw [if_neg (by simp [hm]),if_neg (fun h=>q1 (by rw [HLV.out];exact h.1))]);have HSS:=hid (HF6.out.store hkM6 (HX.out hkM6) (0) ⟨HLK.out,HCB.out⟩ hlt);have hcc:(lI (⟨px,py,vx,vy,ang,spin,ms,iner,bounce,rub,false,calm⟩:Bd)).calm=0:=congrArg (fun y:BE=>y.b.calm) HCB.out;have HR:=hid (HSS.out.2 (by rw [HRL.out];unfold NG;rw [hcc];simp [hm2]));rw [← HFK.out] at HR;clear HSS HF6 HLK HRL HX HCB hcc hkM6;go_wp2;go_roundw
     case rel=>exact ⟨k+1,_,hlt,by go_num,HR⟩
     case measure=>simp [intOf];omega
  ·have hke : n = k := by omega
   subst hke
   have hML:M=L.map iO:=by
    refine List.ext_getElem? fun j=>?_
    rw [List.getElem?_map]
    by_cases e:j<n
    ·rw [HW.out.at_ j e,if_pos e]
    ·rw [List.getElem?_eq_none (by rw [HW.out.len]; omega), List.getElem?_eq_none (by rw [← HL.out]; omega)];rfl
   subst hML;obtain ⟨p,hp⟩:∃ p:Nat→Bool,p=fun j=>JA L f n (f j):=⟨_,rfl⟩
   have HP:=hid hp;obtain ⟨L2,hL2⟩:∃ L2,L2=L.map iO:=⟨_,rfl⟩;have HL2:=hid hL2;rw [← hL2] at HW;obtain ⟨wl,hwl⟩:∃ y:World,y=wo:=⟨_,rfl⟩;rw [← hwl] at HW ⊢;have HAC:Hid (∀ i,i<n→wl.cell? ⟨ga,i,none⟩=some (.bool (JA L f n i))):=hid HW.out.cs;have HGC:Hid (∀ i,i<n→wl.cell? ⟨gs,i,none⟩=some (.int .i64 (f i:Nat))):=hid (fun i hi=>HW.out.out.cell (HG.out i hi) (fun q=>hne q.symm));have HOL:=hid HW.out.out;have hga:ga≠g:=by have h1:=HW.out.lt;omega
   have HW0:Hid (JB wl g n 0 L2 p L2 wl):=hid ⟨HW.out.len,fun j hj=>by rw [if_neg (by omega)],HW.out.bl,Out.refl _ _⟩;clear hwl hp hL2 HW hlt hk;go_wp2
   go_loopw [80] (fun j wr=>∃ (k:Nat) (M:List BE),k≤n∧j = .int .i64 k∧Hid (JB wl g n k L2 p M wr)) (fun j _=>n-(intOf j).toNat)
   case atStart=>exact ⟨0,L2,Nat.zero_le _,rfl,HW0⟩
   case round =>
    clear HW0;obtain ⟨k,M,hk,rfl,HW⟩:=hrel;obtain ⟨wo,rfl⟩:∃ wo:World,wo=wr:=⟨_,rfl⟩
    by_cases hlt:k<n
    ·have hlt' : (k : Int) < (n : Int) := by omega
     have hwk:IntKind.i64.wrap ((k:Int)+1)=(k:Int)+1:=IntWalk.i64_in _ (by omega);have hkM:k<M.length:=by rw [HW.out.len];exact hlt
     obtain ⟨x,hx⟩:∃ x,x=M[k]:=⟨_,rfl⟩;obtain ⟨d0,d1,d2,d3,d4,d5,d6,d7,d8,d9,d10,d11,d12⟩:=bK HW.out.bl.cl hkM hx;obtain ⟨fk,hfk⟩:∃ y,y=f k:=⟨_,rfl⟩;have hfn:fk<n:=by rw [hfk];exact HF.out k hlt
     have hfn':(fk:Int)<(n:Int):=by omega
     obtain ⟨av,hav⟩:∃ y,y=p k:=⟨_,rfl⟩;have cg0:wo.cell? ⟨gs,k,none⟩=some (.int .i64 (fk:Nat)):=by rw [hfk];exact HW.out.out.cell (HGC.out k hlt) (fun q=>hne q.symm)
     have ca0:wo.cell? ⟨ga,fk,none⟩=some (.bool av):=by rw [hav,HP.out,hfk];exact HW.out.out.cell (HAC.out (f k) (HF.out k hlt)) hga
     have HAV:=hid hav;clear hfk hav;have HX:=hid hx;obtain ⟨⟨px,py,vx,vy,ang,spin,ms,iner,bounce,rub,asl,calm⟩,xA,xn,xc,xl⟩:=x;dsimp only at d0 d1 d2 d3 d4 d5 d6 d7 d8 d9 d10 d11 d12;clear hx;have ld:=lt_of_cell d0;obtain ⟨w5,hw5⟩:∃ y,y=wo.alloc (.cells #[.int .i64 px,.int .i64 py,.int .i64 vx,.int .i64 vy,.int .i64 ang,.int .i64 spin,.int .i64 ms,.int .i64 iner,.int .i64 bounce,.int .i64 rub,.slice xA xn xc,.bool asl,.int .i64 calm] 27):=⟨_,rfl⟩;obtain ⟨gb,hgb⟩:∃ y,y=wo.heap.size:=⟨_,rfl⟩;have hb5:Below wo.heap.size wo w5:=by rw [hw5];exact (Below.refl _ _).alloc (Nat.le_refl _) _
     have c6:w5.cell? ⟨gb,6,none⟩=some (.int .i64 ms):=by rw [hw5,hgb];go_simp
     have cg:=keepCell hb5 cg0;have ca:=keepCell hb5 ca0;have e11:=keepCell hb5 d11;have e2:=keepCell hb5 d2;have e3:=keepCell hb5 d3;have e5:=keepCell hb5 d5;have cf:=(fI hb5 HW.out.bl).free;have HN:=hid (HW.out.next hkM HX.out hb5);clear hb5 HW cg0 ca0
     go_upto_region 14 with fail
     rw [← hw5,← hgb];clear hw5 hgb d0 d1 d2 d3 d4 d5 d6 d7 d8 d9 d10 d11 d12 ld;have lb:=lt_of_cell c6;have lg:=lt_of_cell cg;have la:=lt_of_cell ca;have le:=lt_of_cell e2
     by_cases hm:ms > 0
     ·cases av with
      | false =>
       have HR:=hid (HN.out.1 (by unfold pJ;rw [if_neg (by rw [← HAV.out];simp)]));clear HN HX hkM;go_wp2;go_roundw
       case rel=>exact ⟨k+1,M,hlt,by go_num,HR⟩
       case measure=>simp [intOf];omega
      | true =>
       have HR:=hid (HN.out.2 (by unfold pJ;rw [if_pos ⟨hm,HAV.out.symm⟩]));clear HN HX hkM;go_wp2;go_roundw
       case rel=>exact ⟨k+1,_,hlt,by go_num,HR⟩
       case measure=>simp [intOf];omega
     ·have HR := hid (HN.out.1 (by unfold pJ; rw [if_neg (fun q => hm q.1)]));clear HN HX hkM;go_wp2;go_roundw
      case rel=>exact ⟨k+1,M,hlt,by go_num,HR⟩
      case measure=>simp [intOf];omega
    ·have hke : n = k := by omega
     subst hke
     have HEQ:Hid (M=iP L f):=hid (by
      refine List.ext_getElem? fun j=>?_
      unfold iP;rw [List.getElem?_mapIdx,← HL.out,← HP.out,← HL2.out]
      by_cases e:j<n
      ·rw [HW.out.at_ j e,if_pos e]
      ·rw [List.getElem?_eq_none (by rw [HW.out.len]; omega), List.getElem?_eq_none (by rw [HL2.out, List.length_map, ← HL.out]; omega)]
       rfl)
     have HFIN:Hid (BL wo g (iP L f)∧Out (fun k=>k=g) w wo):=hid ⟨by rw [← HEQ.out];exact HW.out.bl,HOL.out.trans HW.out.out (fun _ _ q=>q)⟩;clear HW HEQ;go_wp2
     go_returns
     exact ⟨by simp,HFIN.out.1,HFIN.out.2⟩
end
end Go.Proofs.YtokgmcomgflloaaGreat
