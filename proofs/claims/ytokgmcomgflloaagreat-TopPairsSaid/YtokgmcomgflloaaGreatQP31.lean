/- Parts of a proof: contracts and laws. -/
import Derived.Test.YtokgmcomgflloaaGreatQP30
import Derived.Test.YtokgmcomgflloaaGreatQP02
import Derived.BigRegion
import Derived.Deep.DeepCutAuto
import Derived.Test.YtokgmcomgflloaaGreatQP03
set_option maxRecDepth 100000
set_option maxHeartbeats 16000000
namespace Go.Proofs.YtokgmcomgflloaaGreat
section
set_option linter.unusedVariables false
set_option linter.unusedSimpArgs false
open Go.RowKit
def Hu (l:List V) (d:Int):Int:=if aP l≠0 then aP l else if aF 2097152 l=false∨d<1∨1048576<d then 1 else if qV l d=0∨qY l d=0 then 17 else if 1099511627776<qV l d∨1099511627776<qY l d then 2 else 0

def DT (l:List V) (d:Int):Value:=if Hu l d=0 then .tuple #[.int .i64 (qV l d),.int .i64 (qY l d),cZ (tC l).1 (tC l).2,.int .i64 0] else .tuple #[.int .i64 0,.int .i64 0,cZ 0 0,.int .i64 (Hu l d)]
theorem mg {l:List V} {d e:Int} (h:Hu l d=e) (he:e≠0):DT l d = .tuple #[.int .i64 0,.int .i64 0,cZ 0 0,.int .i64 e]:=by subst h;unfold DT;rw [if_neg he]
theorem EL {l:List V} {d:Int} (h:Hu l d=0):DT l d = .tuple #[.int .i64 (qV l d),.int .i64 (qY l d),cZ (tC l).1 (tC l).2,.int .i64 0]:=by unfold DT;rw [if_pos h]
theorem I6 (W n:Int):i64 (bU W n):=by
 unfold bU i64
 split
 ·omega
 ·split
  ·omega
  ·omega
theorem Bg {a b c d:Int} (h1:aL 68000000 a b=true) (h2:aL 68000000 c d=true):wrap64 (wrap64 (a*d)-wrap64 (b*c))=eZ a b c d ∧ -9248000000000000≤eZ a b c d∧eZ a b c d≤9248000000000000:=by
 obtain ⟨_,_,_,_⟩:=aA.1 h1;obtain ⟨_,_,_,_⟩:=aA.1 h2;have m1:=bZ (x:=a) (y:=d) (M:=68000000) (N:=68000000) (by omega) (by omega) (by omega) (by omega);have m2:=bZ (x:=b) (y:=c) (M:=68000000) (N:=68000000) (by omega) (by omega) (by omega) (by omega);unfold eZ;generalize a*d=X at *
 generalize b*c=Y at *
 rw [fI (n:=X) (by omega) (by omega),fI (n:=Y) (by omega) (by omega),fI (by omega) (by omega)];omega
theorem JM (a b c d:Int) (h1:aL 68000000 a b=true) (h2:aL 68000000 c d=true) (w:World) :
  Calls Tryz.prog 96 #[cZ a b,cZ c d] w (dS (.int .i64 (eZ a b c d)) w):=by
 have h:=wV a b c d w;rwa [(Bg h1 h2).1] at h
theorem Ky {a b c d:Int} (h1:aL 68000000 a b=true) (h2:aL 68000000 c d=true):(-4624000000000000≤a*a∧a*a≤4624000000000000)∧(-4624000000000000≤a*c∧a*c≤4624000000000000)∧(-4624000000000000≤c*c∧c*c≤4624000000000000)∧(-4624000000000000≤b*b∧b*b≤4624000000000000)∧(-4624000000000000≤b*d∧b*d≤4624000000000000)∧(-4624000000000000≤d*d∧d*d≤4624000000000000):=by
 obtain ⟨_,_,_,_⟩:=aA.1 h1;obtain ⟨_,_,_,_⟩:=aA.1 h2;have m1:=bZ (x:=a) (y:=a) (M:=68000000) (N:=68000000) (by omega) (by omega) (by omega) (by omega);have m2:=bZ (x:=a) (y:=c) (M:=68000000) (N:=68000000) (by omega) (by omega) (by omega) (by omega);have m3:=bZ (x:=c) (y:=c) (M:=68000000) (N:=68000000) (by omega) (by omega) (by omega) (by omega);have m4:=bZ (x:=b) (y:=b) (M:=68000000) (N:=68000000) (by omega) (by omega) (by omega) (by omega);have m5:=bZ (x:=b) (y:=d) (M:=68000000) (N:=68000000) (by omega) (by omega) (by omega) (by omega);have m6:=bZ (x:=d) (y:=d) (M:=68000000) (N:=68000000) (by omega) (by omega) (by omega) (by omega);omega
theorem OE {l:List V} (hw:aF 68000000 l=true) {i:Nat} (hi:i<l.length) : -256586000000000000000000000000000≤wS l i∧wS l i≤256586000000000000000000000000000:=by
 have h1:=aD hw hi;have h2:=aD hw (Hg hi);have hc:=(Bg h1 h2).2;have hs:=Ky h1 h2;have:=bZ (x:=pz l i) (y:=O7 l i) (M:=9248000000000000) (N:=27744000000000000) (by unfold pz;omega) (by unfold pz;omega) (by unfold O7;omega) (by unfold O7;omega);unfold wS;omega
theorem P9 {l:List V} (hw:aF 68000000 l=true) (h8:l.length≤8) (k:Nat) (hk:k≤l.length) : -2052688000000000000000000000000000≤sumTo (wS l) k∧sumTo (wS l) k≤2052688000000000000000000000000000:=by
 have h1:=wC (f:=wS l) (B:=256586000000000000000000000000000) k (fun j hj=>OE hw (by omega));have h2:(k:Int)≤8:=by omega
 have h3:=Int.mul_le_mul_of_nonneg_left h2 (show (0:Int)≤256586000000000000000000000000000 by omega);omega
theorem JG (A:Option Addr) (n c:Nat) (l:List V) (d:Int) (w:World) (hS:Sl w A n c l) (hd:i64 d) :
    Calls Tryz.prog 37 #[.slice A n c,.int .i64 d] w (dS (DT l d) w):=by
  by_cases hE:aP l=0
  · obtain ⟨h8, h3, hw, _⟩ := aU hE;have hn:=hS.len;subst hn;have hcap:=hS.cap;have HE:=hid hE;have HS:=hid hS;have HW:=hid hw;have HD:=hid hd;have d1:=hd.1;have d2:=hd.2;clear hE hS hw hd
    go_enter Tryz.func37,Tryz.ntmps37
    go_wp2_with fail
    refine (wT _ _ _ l _ (HS.out.alloc _)).mono ?_;rintro e w1 ⟨rfl,hb1⟩;rw [if_pos HE.out,HE.out];have HS1:=hid ((HS.out.alloc _).below hb1);have HT1:=hid (There.below hb1 (There.fresh2 rfl rfl));have hB1:Below w.heap.size w w1:=aj hb1 (by go_grown);clear hb1 HS
    go_wp2_with fail
    go_loopw [33] (fun i wr=>∃ k:Nat,k≤l.length∧i = .int .i64 k∧(∀ j,j<k→aL 2097152 (px l j) (py l j)=true)∧There wr w.heap.size 2∧Below w1.heap.size w1 wr) (fun i _=>l.length-(intOf i).toNat)
    case atStart=>exact ⟨0,Nat.zero_le _,rfl,fun j hj=>absurd hj (by omega),HT1.out,Below.refl _ _⟩
    case round =>
      obtain ⟨k,hk,rfl,hin,hT,hB⟩:=hrel;obtain ⟨wo,rfl⟩:∃ wo:World,wo=wr:=⟨_,rfl⟩;have HIN:=hid hin;have HT:=hid hT;clear hin hT;have hB2:Below w.heap.size w wo:=aj hB hB1
      by_cases hlt:k<l.length
      · obtain ⟨b, off, rfl, hC⟩ := (HS1.out.below hB).at_ (by intro h; subst h; simp at hlt);have hx:=hC.x k hlt;have hy:=hC.y k hlt;have hbo:=hC.lt;obtain ⟨x1,x2,y1,y2⟩:=aA.1 (aD HW.out hlt);have nx':IntKind.i64.wrap (-px l k) = -px l k:=IntWalk.i64_in _ (by omega);have ny':IntKind.i64.wrap (-py l k) = -py l k:=IntWalk.i64_in _ (by omega);obtain ⟨m,hm⟩:∃ m,m=max (max (max (px l k) (-px l k)) (py l k)) (-py l k):=⟨_,rfl⟩;have hrun:∀ (ts:Array TypeId) (t:TypeId) (w:World),(Builtin.max_ ts t #[.int .i64 (px l k),.int .i64 (-px l k),.int .i64 (py l k),.int .i64 (-py l k)]).run Tryz.prog w = .ok (.int .i64 m) w:=fun ts t w=>by rw [hm];exact NG ts t _ _ _ _ w
        by_cases hq:aL 2097152 (px l k) (py l k)=true
        · have hm2 : m ≤ 2097152 := by obtain ⟨_, _, _, _⟩ := aA.1 hq; omega
          have HQ:=hid hq;have hz:=hB.size;clear hC hm hq;go_wp2;go_roundw
          case rel =>
            refine ⟨k+1,hlt,by go_num,fun j hj=>?_,HT.out.alloc _,by go_grown⟩
            by_cases e:j=k
            · subst e;exact HQ.out
            · exact HIN.out j (by omega)
          case measure=>simp [intOf];omega
        · have hm2:2097152<m:=by
            have:¬ (-2097152≤px l k∧px l k≤2097152 ∧ -2097152≤py l k∧py l k≤2097152):=fun h=>hq (aA.2 h)
            omega
          have hf:aF 2097152 l=false:=by
            rcases Bool.eq_false_or_eq_true (aF 2097152 l) with h | h
            · exact absurd (aD h hlt) hq
            · exact h
          have he:Hu l d=1:=by
            unfold Hu;rw [if_neg (by simp [HE.out]),if_pos (.inl hf)]
          have HR:=hid (mg he (by omega));obtain ⟨z0,z1,y0,y1',f0,f1⟩:=HT.out.get2;have hl9:=lt_of_cell y0;clear hC hm hq he;go_wp2;refine bodyPost_ret (v:=.tuple #[.int .i64 0,.int .i64 0,cZ 0 0,.int .i64 1]) (by simp [results,Tryz.results37,go_sem,y0,y1',hl9]) rfl ⟨by rw [HR.out],?_⟩
          go_grown
      · have hW2 : aF 2097152 l = true := FL fun j hj => HIN.out j (by omega)
        have HW2:=hid hW2;have HS2:=hid (HS1.out.below hB);clear hW2 HIN hB HS1 HT1
        by_cases hdd:d<1∨1048576<d
        · have he:Hu l d=1:=by
            unfold Hu;rw [if_neg (by simp [HE.out]),if_pos (.inr hdd)]
          have HR:=hid (mg he (by omega));obtain ⟨z0,z1,y0,y1',f0,f1⟩:=HT.out.get2;have hl9:=lt_of_cell y0;clear he
          rcases hdd with hdd | hdd
          · go_wp2;refine bodyPost_ret (v:=.tuple #[.int .i64 0,.int .i64 0,cZ 0 0,.int .i64 1]) (by simp [results,Tryz.results37,go_sem,y0,y1',hl9]) rfl ⟨by rw [HR.out],?_⟩
            go_grown
          · have hd1 : ¬ d < 1 := by omega
            go_wp2;refine bodyPost_ret (v:=.tuple #[.int .i64 0,.int .i64 0,cZ 0 0,.int .i64 1]) (by simp [results,Tryz.results37,go_sem,y0,y1',hl9]) rfl ⟨by rw [HR.out],?_⟩
            go_grown
        · have hd1 : ¬ d < 1 := by omega
          have hd2:¬ 1048576<d:=by omega
          have hab:=hid (IW HE.out);have hcen:=Qu HW.out h8;have HCB:=hid hcen;clear hcen;obtain ⟨u,hu⟩:∃ u,u=(tC l).1:=⟨_,rfl⟩;obtain ⟨v,hv⟩:∃ v,v=(tC l).2:=⟨_,rfl⟩;have hcb:=aA.1 (Oa HE.out);rw [← hu,← hv] at hcb;obtain ⟨c1,c2,c3,c4⟩:=hcb;have HU:=hid (show bU (pI l) (3*jo l)=u from hu.symm);have HV:=hid (show bU (oZ l) (3*jo l)=v from hv.symm);have HU2:=hid hu;have HV2:=hid hv;clear hu hv
          go_wp2_with fail
          refine (yI _ _ _ l _ _ HS2.out HW.out h8 h3 hab.out HCB.out.1 HCB.out.2).mono ?_;rintro e w2 ⟨rfl,hb2⟩;rw [HU.out,HV.out];have HS3:=hid (HS2.out.below hb2);have HT3:=hid (There.below hb2 HT.out);have hB3:=aj hb2 hB2;clear hb2 HS2 HT hB2 HU HV HCB;obtain ⟨M,hM⟩:∃ M,M=yt l (-u) (-v):=⟨_,rfl⟩;have hMl:M.length=l.length:=by rw [hM,Me]
          have HMW:Hid (aF 68000000 M=true):=by
            rw [hM];exact zm (Et HW2.out (n:=65536000) (by omega) (by omega)) (by omega)
          have HPX:Hid (∀ j,j<l.length→px M j=px l j + -u∧py M j=py l j + -v):=fun j hj=>by rw [hM];exact ⟨Oz hj,OL hj⟩
          have HM:=hid hM;have HML:=hid hMl;clear hM hMl
          go_wp2_with fail
          go_loopw [63] (fun i wr=>∃ k:Nat,k≤l.length∧i = .int .i64 k∧Wd wr (w2.heap.size+1) (sumTo (wS M) k)∧wr.cell? ⟨w2.heap.size,0,none⟩=some (.int .i64 u)∧wr.cell? ⟨w2.heap.size,1,none⟩=some (.int .i64 v)∧There wr w.heap.size 2∧Below w2.heap.size w2 wr) (fun i _=>l.length-(intOf i).toNat)
          case atStart=>exact ⟨0,by omega,rfl,Wd.zero (by go_simp) (by go_simp) (by go_simp) (by go_simp),by go_simp,by go_simp,(HT3.out.alloc _).alloc _,by go_grown⟩
          case round =>
            clear hk hlt;obtain ⟨k,hk,rfl,hX,ku,kv,hT,hB⟩:=hrel;obtain ⟨wo,rfl⟩:∃ wo:World,wo=wr:=⟨_,rfl⟩;have HT4:=hid hT;have HX0:=hid hX;have hB4:Below w.heap.size w wo:=aj hB hB3;have hz:=hB.size;have hz1:=hX.lt;clear hT hX
            by_cases hlt:k<l.length
            · obtain ⟨X, hXe⟩ : ∃ X, X = sumTo (wS M) k := ⟨_, rfl⟩;obtain ⟨j,hje⟩:∃ j,j=(k+1) % l.length:=⟨_,rfl⟩;have hj:j<l.length:=by rw [hje];exact Nat.mod_lt _ (by omega)
              have hji:((k:Int)+1) % (l.length:Int)=(j:Int):=by rw [hje];simp
              have hji2:(((k:Int)+1) % (l.length:Int)).toNat=j:=by omega
              have hji3:((k:Int)+1) % (l.length:Int)<(l.length:Int):=by omega
              have hji4:0≤((k:Int)+1) % (l.length:Int):=by omega
              obtain ⟨p,hp⟩:∃ p,p=px M k:=⟨_,rfl⟩;obtain ⟨q,hq⟩:∃ q,q=py M k:=⟨_,rfl⟩;obtain ⟨r,hr⟩:∃ r,r=px M j:=⟨_,rfl⟩;obtain ⟨s,hs⟩:∃ s,s=py M j:=⟨_,rfl⟩;obtain ⟨sq,hsq⟩:∃ sq,sq=p*p+p*r+r*r+q*q+q*s+s*s:=⟨_,rfl⟩
              have hstep:Hid (sumTo (wS M) (k+1)=X+eZ p q r s*sq):=by
                rw [hXe,hsq,hp,hq,hr,hs,hje,← HML.out];rfl
              have HXe:=hid (show Wd wo (w2.heap.size+1) X by rw [hXe];exact HX0.out);obtain ⟨b,off,rfl,hC⟩:=(HS3.out.below hB).at_ (by intro h;subst h;simp at hlt);have hx:=hC.x k hlt;have hy:=hC.y k hlt;have hx2:=hC.x j hj;have hy2:=hC.y j hj;have hbo:=hC.lt;obtain ⟨q1,q2,q3,q4⟩:=aA.1 (aD HW2.out hlt);obtain ⟨q5,q6,q7,q8⟩:=aA.1 (aD HW2.out hj);have e1:px l k-u=p:=by have:=(HPX.out k hlt).1;omega
              have e2:py l k-v=q:=by have:=(HPX.out k hlt).2;omega
              have e3:px l j-u=r:=by have:=(HPX.out j hj).1;omega
              have e4:py l j-v=s:=by have:=(HPX.out j hj).2;omega
              have HPQ:Hid (aL 68000000 p q=true):=aA.2 (by omega);have HRS:Hid (aL 68000000 r s=true):=aA.2 (by omega);clear hC hXe hje hp hq hr hs HX0
              go_upto_region 17 with fail
              go_cut [15,16] from 66 to 77 (fun a b wx=>∃ ga gb:Nat,a = .pointer (some ⟨ga,0,none⟩)∧b = .pointer (some ⟨gb,0,none⟩)∧ga≠gb∧wo.heap.size≤ga∧wo.heap.size≤gb∧wx.cell? ⟨ga,0,none⟩=some (.int .i64 (px l k))∧wx.cell? ⟨ga,1,none⟩=some (.int .i64 (py l k))∧wx.cell? ⟨gb,0,none⟩=some (.int .i64 (px l j))∧wx.cell? ⟨gb,1,none⟩=some (.int .i64 (py l j))∧wx.frozen? ⟨ga,0,none⟩=false∧wx.frozen? ⟨ga,1,none⟩=false∧wx.frozen? ⟨gb,0,none⟩=false∧wx.frozen? ⟨gb,1,none⟩=false∧Below wo.heap.size wo wx)
              case first =>
                clear hsq HM hab HW2 HU2 HV2 HMW HPX HML hstep
                go_region
                all_goals
                  clear hx hy hx2 hy2
                  go_wp2_with fail
                  go_meet
                  exact ⟨_,_,rfl,rfl,by omega,by omega,by omega,by go_simp,by go_simp,by go_simp,by go_simp,by go_simp,by go_simp,by go_simp,by go_simp,by go_grown⟩
              case rest =>
                obtain ⟨ga,gb,rfl,rfl,hg0,hga,hgb,p1,p2,p3,p4,f1,f2,f3,f4,hB5⟩:=hcut;have l1:=lt_of_cell p1;have l2:=lt_of_cell p3;have k5:=keepCell hB5 ku;have k6:=keepCell hB5 kv;have HX:=hid (iW hB5 HXe.out);have HT5:=hid (There.below hB5 HT4.out);have hB6:Below w2.heap.size w2 wc:=aj hB5 hB;have w1':IntKind.i64.wrap p=p:=IntWalk.i64_in _ (by omega);have w2':IntKind.i64.wrap q=q:=IntWalk.i64_in _ (by omega);have w3':IntKind.i64.wrap r=r:=IntWalk.i64_in _ (by omega);have w4':IntKind.i64.wrap s=s:=IntWalk.i64_in _ (by omega);clear hx hy hx2 hy2 ku kv hB5 hB HT4 HXe;have n1:¬ ga=w2.heap.size:=by omega
                have n2:¬ w2.heap.size=ga:=by omega
                have n3:¬ gb=w2.heap.size:=by omega
                have n4:¬ w2.heap.size=gb:=by omega
                have n5:¬ ga=gb:=hg0;have n6:¬ gb=ga:=fun h=>hg0 h.symm
                go_wp2_with fail
--R18--
                refine wp_region_noPanic ?_;refine au (S:=(S3 (fun w'=>w'.cell? ⟨ga,0,none⟩=some (.int .i64 (px l k))∧w'.cell? ⟨ga,1,none⟩=some (.int .i64 (py l k))∧w'.cell? ⟨gb,0,none⟩=some (.int .i64 (px l j))∧w'.cell? ⟨gb,1,none⟩=some (.int .i64 (py l j))∧w'.cell? ⟨w2.heap.size,0,none⟩=some (.int .i64 (u))∧w'.cell? ⟨w2.heap.size,1,none⟩=some (.int .i64 (v))) (fun w'=>w'.cell? ⟨gb,0,none⟩=some (.int .i64 (px l j))∧w'.cell? ⟨gb,1,none⟩=some (.int .i64 (py l j))∧w'.cell? ⟨w2.heap.size,0,none⟩=some (.int .i64 (u))∧w'.cell? ⟨w2.heap.size,1,none⟩=some (.int .i64 (v))))) (T:=(fun j=>[0,0,0,0,0,0,0,0,0,0,0,0,0,0,0,0,0,0,0,0,0,0,1,2].getD j 0)) (by kernel_rfl) (qL ⟨p1,p2,p3,p4,k5,k6⟩) (fun hH=>?_);have hWr3:aG (S3 (fun w'=>w'.cell? ⟨ga,0,none⟩=some (.int .i64 (px l k))∧w'.cell? ⟨ga,1,none⟩=some (.int .i64 (py l k))∧w'.cell? ⟨gb,0,none⟩=some (.int .i64 (px l j))∧w'.cell? ⟨gb,1,none⟩=some (.int .i64 (py l j))∧w'.cell? ⟨w2.heap.size,0,none⟩=some (.int .i64 (u))∧w'.cell? ⟨w2.heap.size,1,none⟩=some (.int .i64 (v))) (fun w'=>w'.cell? ⟨gb,0,none⟩=some (.int .i64 (px l j))∧w'.cell? ⟨gb,1,none⟩=some (.int .i64 (py l j))∧w'.cell? ⟨w2.heap.size,0,none⟩=some (.int .i64 (u))∧w'.cell? ⟨w2.heap.size,1,none⟩=some (.int .i64 (v)))):=jL (fun _ ⟨q0,q1,q2,q3,q4,q5⟩=>⟨q2,q3,q4,q5⟩);refine dG [(0,78),(1,79),(2,80),(3,81),(4,82),(5,83),(6,84),(7,85),(8,86),(9,87),(10,88)] 13 0 0 (L':=?Lr3_1) hWr3 hH ?hyr3_1 ?_
                case hyr3_1=>((iterate 11 apply dF;rfl;kernel_rfl;intro w' hSw;replace hSw:=jf hSw;(try dsimp only at hSw);have q0:=hSw.1;have q1:=hSw.2.1;have q2:=hSw.2.2.1;have q3:=hSw.2.2.2.1;have q4:=hSw.2.2.2.2.1;have q5:=hSw.2.2.2.2.2;(try simp only [sB,sC]);go_simp;(try with_reducible rfl));exact dD)
                simp only [sB,sC];refine dG [(11,89),(12,90),(13,91),(14,92),(15,93),(16,94),(17,95),(18,96),(19,97),(20,98),(21,99)] 2 1 0 (L':=?Lr3_12) hWr3 hH ?hyr3_12 ?_
                case hyr3_12=>((iterate 11 apply dF;rfl;kernel_rfl;intro w' hSw;replace hSw:=xW hSw;(try dsimp only at hSw);have q2:=hSw.1;have q3:=hSw.2.1;have q4:=hSw.2.2.1;have q5:=hSw.2.2.2;(try simp only [sB,sC]);go_simp;(try with_reducible rfl));exact dD)
                simp only [sB,sC];refine U1 22 1 rfl (fun K hK=>?_);have hG:=hH;replace hG:=jf hG;(try dsimp only at hG);have q0:=hG.1;have q1:=hG.2.1;have q2:=hG.2.2.1;have q3:=hG.2.2.2.1;have q4:=hG.2.2.2.2.1;have q5:=hG.2.2.2.2.2;go_simp;refine hK.out _ _ ?hsr3_23 (fun hH2=>?hrr3_23)
                case hsr3_23=>exact xB ⟨by go_simp,by go_simp,by go_simp,by go_simp⟩
                clear hK K hH;have hH:=hH2;clear hH2
                try simp only [Act.put,sA,sB,sC]
                refine U1 23 2 rfl (fun K hK=>?_);have hG:=hH;replace hG:=xW hG;(try dsimp only at hG);have q2:=hG.1;have q3:=hG.2.1;have q4:=hG.2.2.1;have q5:=hG.2.2.2;go_simp;refine hK.out _ _ ?hsr3_24 (fun hH2=>?hrr3_24)
                case hsr3_24=>exact yS
                clear hK K hH;have hH:=hH2;clear hH2
                try simp only [Act.put,sA,sB,sC]
                refine ak (by kernel_rfl) ?_ _ _;refine NoPanic.normal ?_;clear hWr3
--R18end--
                have j2:=hid ((HX.out.far2 (b:=ga) (v0:=.int .i64 p) (v1:=.int .i64 q) (by omega)).far2 (b:=gb) (v0:=.int .i64 r) (v1:=.int .i64 s) (by omega)).drew;obtain ⟨wd,hwd⟩:∃ wd,wd=((((wc.setCell ⟨ga,0,none⟩ (.int .i64 p)).setCell ⟨ga,1,none⟩ (.int .i64 q)).setCell ⟨gb,0,none⟩ (.int .i64 r)).setCell ⟨gb,1,none⟩ (.int .i64 s)).drew:=⟨_,rfl⟩;rw [← hwd];have g1:wd.cell? ⟨ga,0,none⟩=some (.int .i64 p):=by rw [hwd];go_simp
                have g2:wd.cell? ⟨ga,1,none⟩=some (.int .i64 q):=by rw [hwd];go_simp
                have g3:wd.cell? ⟨gb,0,none⟩=some (.int .i64 r):=by rw [hwd];go_simp
                have g4:wd.cell? ⟨gb,1,none⟩=some (.int .i64 s):=by rw [hwd];go_simp
                have g5:wd.cell? ⟨w2.heap.size,0,none⟩=some (.int .i64 u):=by rw [hwd];go_simp
                have g6:wd.cell? ⟨w2.heap.size,1,none⟩=some (.int .i64 v):=by rw [hwd];go_simp
                have g7:Below w2.heap.size w2 wd:=by rw [hwd];go_grown
                have g8:There wd w.heap.size 2:=by rw [hwd];exact (((HT5.out.set _ _).set _ _).set _ _).set _ _
                have HX6:Hid (Wd wd (w2.heap.size+1) X):=by rw [hwd];exact j2
                clear hwd p1 p2 p3 p4 f1 f2 f3 f4 l1 l2 k5 k6 HT5 hB6 hH hG j2 HX q0 q1 q2 q3 q4 q5;have HT5:=hid g8;have hsb:=Ky HPQ.out HRS.out;obtain ⟨⟨m1,m2⟩,⟨m3,m4⟩,⟨m5,m6⟩,⟨m7,m8⟩,⟨m9,m10⟩,⟨m11,m12⟩⟩:=hsb;clear g8 w1' w2' w3' w4' e1 e2 e3 e4
                go_wp2_with fail
                rw [← hsq];have HSB:Hid (-27744000000000000≤sq∧sq≤27744000000000000):=by show _∧_;omega
                have HCB:Hid (-9248000000000000≤eZ p q r s∧eZ p q r s≤9248000000000000):=(Bg HPQ.out HRS.out).2;have HX:=HX6;have hB3':=g7;clear hsq m1 m2 m3 m4 m5 m6 m7 m8 m9 m10 m11 m12 HX6 g7;have HSL:=hid hstep;have HMM:=hid HM;clear hstep
--R20--
                refine wp_region_noPanic ?_;refine au (S:=(S2 (fun w'=>Wd w' (w2.heap.size+1) (X)∧w'.cell? ⟨ga,0,none⟩=some (.int .i64 (p))∧w'.cell? ⟨ga,1,none⟩=some (.int .i64 (q))∧w'.cell? ⟨gb,0,none⟩=some (.int .i64 (r))∧w'.cell? ⟨gb,1,none⟩=some (.int .i64 (s))∧w'.cell? ⟨w2.heap.size,0,none⟩=some (.int .i64 (u))∧w'.cell? ⟨w2.heap.size,1,none⟩=some (.int .i64 (v))∧There w' (w.heap.size) 2∧Below w2.heap.size w2 w'))) (T:=(fun j=>[0,0,0,0,0,0,0,1].getD j 0)) (by kernel_rfl) (aK ⟨HX.out.drew,g1,g2,g3,g4,g5,g6,HT5.out,hB3'.drew⟩) (fun hH=>?_);have hWr1:aG (S2 (fun w'=>Wd w' (w2.heap.size+1) (X)∧w'.cell? ⟨ga,0,none⟩=some (.int .i64 (p))∧w'.cell? ⟨ga,1,none⟩=some (.int .i64 (q))∧w'.cell? ⟨gb,0,none⟩=some (.int .i64 (r))∧w'.cell? ⟨gb,1,none⟩=some (.int .i64 (s))∧w'.cell? ⟨w2.heap.size,0,none⟩=some (.int .i64 (u))∧w'.cell? ⟨w2.heap.size,1,none⟩=some (.int .i64 (v))∧There w' (w.heap.size) 2∧Below w2.heap.size w2 w')):=aI _;refine dG [(0,135),(1,136),(2,137),(4,139)] 4 0 0 (L':=?Lr1_1) hWr1 hH ?hyr1_1 ?_
                case hyr1_1=>((iterate 4 apply dF;rfl;kernel_rfl;intro w' hSw;replace hSw:=aB hSw;(try dsimp only at hSw);have q0:=hSw.1;have q1:=hSw.2.1;have q2:=hSw.2.2.1;have q3:=hSw.2.2.2.1;have q4:=hSw.2.2.2.2.1;have q5:=hSw.2.2.2.2.2.1;have q6:=hSw.2.2.2.2.2.2.1;have q7:=hSw.2.2.2.2.2.2.2.1;have q8:=hSw.2.2.2.2.2.2.2.2;obtain ⟨qa0_0,qa0_1,qa0_2,qa0_3⟩:=id q0;(try simp only [sB,sC]);go_simp;(try with_reducible rfl));exact dD)
                simp only [sB,sC];refine U1 3 0 rfl (fun K hK=>?_)
                try clear hb
                go_simp
                (go_at_call 96;refine (JM p q r s HPQ.out HRS.out _).mono ?_;rintro e wn ⟨rfl,hb⟩)
                refine hK.out _ _ ?hsr1_5 (fun hH2=>?hrr1_5)
                case hsr1_5=>exact aK (by have hG:=hH;replace hG:=aB hG;(try dsimp only at hG);have q0:=hG.1;have q1:=hG.2.1;have q2:=hG.2.2.1;have q3:=hG.2.2.2.1;have q4:=hG.2.2.2.2.1;have q5:=hG.2.2.2.2.2.1;have q6:=hG.2.2.2.2.2.2.1;have q7:=hG.2.2.2.2.2.2.2.1;have q8:=hG.2.2.2.2.2.2.2.2;exact ⟨iW hb q0,keepCell hb q1,keepCell hb q2,keepCell hb q3,keepCell hb q4,keepCell hb q5,keepCell hb q6,There.below hb q7,aj hb q8⟩)
                clear hK K hH;have hH:=hH2;clear hH2
                try simp only [Act.put,sA,sB,sC]
                refine U1 5 0 rfl (fun K hK=>?_)
                try clear hb
                go_simp
                (go_at_call 95;refine (gI (eZ p q r s) sq (by have:=HCB.out;omega) (by have:=HCB.out;omega) (by have:=HSB.out;omega) (by have:=HSB.out;omega) _).mono ?_;rintro e wn ⟨rfl,hb⟩)
                refine hK.out _ _ ?hsr1_6 (fun hH2=>?hrr1_6)
                case hsr1_6=>exact aK (by have hG:=hH;replace hG:=aB hG;(try dsimp only at hG);have q0:=hG.1;have q1:=hG.2.1;have q2:=hG.2.2.1;have q3:=hG.2.2.2.1;have q4:=hG.2.2.2.2.1;have q5:=hG.2.2.2.2.2.1;have q6:=hG.2.2.2.2.2.2.1;have q7:=hG.2.2.2.2.2.2.2.1;have q8:=hG.2.2.2.2.2.2.2.2;exact ⟨iW hb q0,keepCell hb q1,keepCell hb q2,keepCell hb q3,keepCell hb q4,keepCell hb q5,keepCell hb q6,There.below hb q7,aj hb q8⟩)
                clear hK K hH;have hH:=hH2;clear hH2
                try simp only [Act.put,sA,sB,sC]
                refine U1 6 0 rfl (fun K hK=>?_)
                try clear hb
                go_simp
                (go_at_call 94;refine (qC X (eZ p q r s*sq) _).mono ?_;rintro e wn ⟨rfl,hb⟩)
                refine hK.out _ _ ?hsr1_7 (fun hH2=>?hrr1_7)
                case hsr1_7=>exact aK (by have hG:=hH;replace hG:=aB hG;(try dsimp only at hG);have q0:=hG.1;have q1:=hG.2.1;have q2:=hG.2.2.1;have q3:=hG.2.2.2.1;have q4:=hG.2.2.2.2.1;have q5:=hG.2.2.2.2.2.1;have q6:=hG.2.2.2.2.2.2.1;have q7:=hG.2.2.2.2.2.2.2.1;have q8:=hG.2.2.2.2.2.2.2.2;exact ⟨iW hb q0,keepCell hb q1,keepCell hb q2,keepCell hb q3,keepCell hb q4,keepCell hb q5,keepCell hb q6,There.below hb q7,aj hb q8⟩)
                clear hK K hH;have hH:=hH2;clear hH2
                try simp only [Act.put,sA,sB,sC]
                refine U1 7 1 rfl (fun K hK=>?_);have hG:=hH;replace hG:=aB hG;(try dsimp only at hG);have q0:=hG.1;have q1:=hG.2.1;have q2:=hG.2.2.1;have q3:=hG.2.2.2.1;have q4:=hG.2.2.2.2.1;have q5:=hG.2.2.2.2.2.1;have q6:=hG.2.2.2.2.2.2.1;have q7:=hG.2.2.2.2.2.2.2.1;have q8:=hG.2.2.2.2.2.2.2.2;obtain ⟨qa0_0,qa0_1,qa0_2,qa0_3⟩:=id q0;go_simp;refine hK.out _ _ ?hsr1_8 (fun hH2=>?hrr1_8)
                case hsr1_8=>exact gV
                clear hK K hH;have hH:=hH2;clear hH2
                try simp only [Act.put,sA,sB,sC]
                refine ak (by kernel_rfl) ?_ _ _;refine NoPanic.normal ?_;clear hWr1
--R20end--
                clear hH hG;have HQ0:=hid q0;have HQ7:=hid q7;have h8':=q8;clear q0 q1 q2 q3 q4 q7 q8 qa0_0 qa0_1 qa0_2 qa0_3 g1 g2 g3 g4 g5 g6
                go_wp2_with fail
                refine ⟨⟨k+1,hlt,by go_num,by rw [HSL.out];exact HQ0.out.sets2,by go_simp,by go_simp,(HQ7.out.set _ _).set _ _,by go_grown⟩,by simp [intOf];omega⟩
            · obtain rfl : k = l.length := by omega
              obtain ⟨S,hS⟩:∃ S,S=sumTo (wS M) l.length:=⟨_,rfl⟩;have hSb:=P9 HMW.out (by rw [HML.out];exact h8) l.length (by rw [HML.out];omega);rw [← hS] at hSb;rw [← hS] at HX0;obtain ⟨x0,x1,_,_⟩:=HX0.out
              have H2:Hid (bU S 51539607552=Pv l (tC l)):=by
                rw [hS,HM.out,HU2.out,HV2.out];rfl
              clear hS
              go_wp2_with fail
              refine (mQ S 51539607552 (by omega) (by omega) (by omega) (by omega) _).mono ?_;rintro e w3 ⟨rfl,hb3⟩;rw [H2.out];have k1:=keepCell hb3 ku;have k2:=keepCell hb3 kv;have HT6:=hid (There.below hb3 HT4.out);have hB5:=aj hb3 hB4;clear x0 x1 hb3 ku kv HT4 hB4 HX0 hB;have hdi:=HD.out
              go_wp2_with fail
              refine (qR (jo l) d 8589934592 ⟨by have:=hab.out;omega,by have:=hab.out;omega⟩ hdi ⟨by omega,by omega⟩ _).mono ?_;rintro e w4 ⟨rfl,hb4⟩;replace k1:=keepCell hb4 k1;replace k2:=keepCell hb4 k2;have HT7:=hid (There.below hb4 HT6.out);have hB6:=aj hb4 hB5;clear hb4 HT6 hB5
              go_wp2_with fail
              refine (qR (Pv l (tC l)) d 4294967296 (I6 _ _) hdi ⟨by omega,by omega⟩ _).mono ?_;rintro e w5 ⟨rfl,hb5⟩;replace k1:=keepCell hb5 k1;replace k2:=keepCell hb5 k2;have HT8:=hid (There.below hb5 HT7.out);have hB7:=aj hb5 hB6;clear hb5 HT7 hB6;obtain ⟨m,hm⟩:∃ m,m=qV l d:=⟨_,rfl⟩;obtain ⟨i,hi⟩:∃ i,i=qY l d:=⟨_,rfl⟩;rw [show bU (jo l*d) 8589934592=m from hm.symm,show bU (Pv l (tC l)*d) 4294967296=i from hi.symm]
              have hof:Hu l d=if m=0∨i=0 then 17 else if 1099511627776<m∨1099511627776<i then 2 else 0:=by
                unfold Hu;rw [if_neg (by simp [HE.out]),if_neg (by rw [HW2.out];simp;omega),← hm,← hi]
              have HOF:=hid hof;have HMI:=hid (And.intro hm hi);clear hof hm hi
              by_cases hz0:m=0∨i=0
              · have HR := hid (mg (e := 17) (by rw [HOF.out, if_pos hz0]) (by omega));obtain ⟨z0,z1,y0,y1',f0,f1⟩:=HT8.out.get2;have hl9:=lt_of_cell y0
                have hz1:(m == 0)=true∨(m == 0)=false∧(i == 0)=true:=by
                  by_cases h:m=0
                  · exact .inl (by simp [h])
                  · exact .inr ⟨by simp [h], by have : i = 0 := by omega
                                                simp [this]⟩
                clear hz0
                rcases hz1 with hz1 | ⟨hz1,hz2⟩
                · go_wp2;refine bodyPost_ret (v:=.tuple #[.int .i64 0,.int .i64 0,cZ 0 0,.int .i64 17]) (by simp [results,Tryz.results37,go_sem,y0,y1',hl9]) rfl ⟨by rw [HR.out],?_⟩
                  go_grown
                · go_wp2;refine bodyPost_ret (v:=.tuple #[.int .i64 0,.int .i64 0,cZ 0 0,.int .i64 17]) (by simp [results,Tryz.results37,go_sem,y0,y1',hl9]) rfl ⟨by rw [HR.out],?_⟩
                  go_grown
              · have hm0 : ¬ m = 0 := fun h => hz0 (.inl h)
                have hi0:¬ i=0:=fun h=>hz0 (.inr h)
                have hm0b:(m == 0)=false:=by simp [hm0]
                have hi0b:(i == 0)=false:=by simp [hi0]
                by_cases hg:1099511627776<m∨1099511627776<i
                · have HR := hid (mg (e := 2) (by rw [HOF.out, if_neg hz0, if_pos hg]) (by omega));obtain ⟨z0,z1,y0,y1',f0,f1⟩:=HT8.out.get2;have hl9:=lt_of_cell y0;clear hz0 hm0 hi0
                  by_cases hg1:1099511627776<m
                  · clear hg;go_wp2;refine bodyPost_ret (v:=.tuple #[.int .i64 0,.int .i64 0,cZ 0 0,.int .i64 2]) (by simp [results,Tryz.results37,go_sem,y0,y1',hl9]) rfl ⟨by rw [HR.out],?_⟩
                    go_grown
                  · have hg2 : 1099511627776 < i := by omega
                    clear hg;go_wp2;refine bodyPost_ret (v:=.tuple #[.int .i64 0,.int .i64 0,cZ 0 0,.int .i64 2]) (by simp [results,Tryz.results37,go_sem,y0,y1',hl9]) rfl ⟨by rw [HR.out],?_⟩
                    go_grown
                · have hg1 : ¬ 1099511627776 < m := fun h => hg (.inl h)
                  have hg2:¬ 1099511627776<i:=fun h=>hg (.inr h)
                  have HR:=hid (EL (show Hu l d=0 by rw [HOF.out,if_neg hz0,if_neg hg]));clear hg hz0 hm0 hi0;obtain ⟨z0,z1,y0,y1',f0,f1⟩:=HT8.out.get2;have hl9:=lt_of_cell y0
                  go_wp2_with fail
--R28--
                  refine wp_region_noPanic ?_;refine au (S:=(S2 (fun w'=>w'.cell? ⟨w2.heap.size,0,none⟩=some (.int .i64 (u))∧w'.cell? ⟨w2.heap.size,1,none⟩=some (.int .i64 (v))∧There w' (w.heap.size) 2∧Below w.heap.size w w'))) (T:=(fun j=>[0,0,0,0,0,1].getD j 0)) (by kernel_rfl) (aK ⟨k1,k2,HT8.out,hB7.drew⟩) (fun hH=>?_);have hWr2:aG (S2 (fun w'=>w'.cell? ⟨w2.heap.size,0,none⟩=some (.int .i64 (u))∧w'.cell? ⟨w2.heap.size,1,none⟩=some (.int .i64 (v))∧There w' (w.heap.size) 2∧Below w.heap.size w w')):=aI _;refine dG [(0,170),(1,171),(2,172),(3,4),(4,5)] 2 0 0 (L':=?Lr2_1) hWr2 hH ?hyr2_1 ?_
                  case hyr2_1=>((iterate 5 apply dF;rfl;kernel_rfl;intro w' hSw;replace hSw:=aB hSw;(try dsimp only at hSw);have q0:=hSw.1;have q1:=hSw.2.1;have q2:=hSw.2.2.1;have q3:=hSw.2.2.2;(try simp only [sB,sC]);go_simp;(try with_reducible rfl));exact dD)
                  simp only [sB,sC];refine U1 5 1 rfl (fun K hK=>?_);go_simp;refine hK.out _ _ ?hsr2_6 (fun hH2=>?hrr2_6)
                  case hsr2_6=>exact gV
                  clear hK K hH;have hH:=hH2;clear hH2
                  try simp only [Act.put,sA,sB,sC]
                  refine Ut 6 7 0 1 1 (v:=?vr2_7) rfl hWr2 hH ?hyr2_7 ?_
                  case hyr2_7=>(intro w' hSw;clear hSw;go_simp;try (with_reducible rfl))
                  simp only [sB,sC];refine ak (by kernel_rfl) ?_ _ _;refine NoPanic.normal ?_;clear hWr2
--R28end--
                  clear hH;go_wp2;refine bodyPost_ret (v:=.tuple #[.int .i64 m,.int .i64 i,cZ u v,.int .i64 0]) (by simp [results,Tryz.results37,go_sem,y0,y1',hl9]) rfl ⟨by rw [HR.out,← HMI.out.1,← HMI.out.2,← HU2.out,← HV2.out],?_⟩
                  go_grown
  · have he : Hu l d = aP l := by unfold Hu; rw [if_pos hE]
    have HR:=hid (mg he hE);have HS:=hid hS;have HE:=hid hE;have hne:(aP l != 0)=true:=by simp [hE]
    clear hS hE he
    go_enter Tryz.func37,Tryz.ntmps37
    go_wp2_with fail
    refine (wT _ _ _ l _ (HS.out.alloc _)).mono ?_;rintro e w1 ⟨rfl,hb1⟩;rw [if_neg HE.out];obtain ⟨z0,z1,y0,y1',f0,f1⟩:=(There.below hb1 (There.fresh2 rfl rfl)).get2;have hl9:=lt_of_cell y0;have hB1:Below w.heap.size w w1:=aj hb1 (by go_grown);clear hb1;go_wp2;refine bodyPost_ret (v:=.tuple #[.int .i64 0,.int .i64 0,cZ 0 0,.int .i64 (aP l)]) (by simp [results,Tryz.results37,go_sem,y0,y1',hl9]) rfl ⟨by rw [HR.out],?_⟩
    go_grown
end
end Go.Proofs.YtokgmcomgflloaaGreat
