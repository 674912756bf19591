/- Parts of a proof: contracts and laws. -/
import Derived.Test.YtiaoandbdgdecaaGreatPK24
import Derived.Test.YtiaoandbdgdecaaGreatPK26
import Derived.Test.YtiaoandbdgdecaaGreatPK04
set_option maxRecDepth 100000
set_option maxHeartbeats 16000000
namespace Go.Proofs.YtiaoandbdgdecaaGreat
section
set_option linter.unusedVariables false
set_option linter.unusedSimpArgs false
open Go.RowKit

def rmost (l m : List V) (i : Nat) : Nat → Int
 | 0=>0
 | k+1=>max (rmost l m i k) (rdpZ l i (px m k) (py m k))
theorem overQ_rnd {d L:Int} (hL:0<L) (hd : -34359738368000000≤d∧d≤34359738368000000):overQ d L=(2*d+L) / (2*L):=by
 have e:rnd d L=(2*d+L) / (2*L):=by unfold rnd;rw [if_neg (by omega)]
 have q1:(2*d+L) / (2*L)≤34359738368000001:=by
  have:(2*d+L) / (2*L)<34359738368000002:=Int.ediv_lt_of_lt_mul (by omega) (by have:=Int.mul_le_mul_of_nonneg_left (show 1≤L by omega) (show (0:Int)≤2*34359738368000002 by omega);omega)
  omega
 have q0 : -34359738368000001≤(2*d+L) / (2*L):=by
  have:=(Int.le_ediv_iff_mul_le (show 0<2*L by omega) (a := -34359738368000001) (b:=2*d+L)).2 (by have:=Int.mul_le_mul_of_nonneg_left (show 1≤L by omega) (show (0:Int)≤2*34359738368000001 by omega);omega)
  exact this
 unfold overQ
 rw [if_neg (by omega),e,if_pos (by omega)]
theorem rmost_eq {l m:List V} (hl:checkE l=0) (hm:checkE m=0) {i:Nat} (hi:i<l.length) (hd:0≤deepZ l m i):rmost l m i m.length=depZ l m i∧0≤depZ l m i:=by
  obtain ⟨_,l3,wl,_⟩:=checkE_zero hl
  obtain ⟨_,m3,wm,_⟩:=checkE_zero hm
  have bn:=nrm_bd wl hi
  have L0:0<lenZ (nrmX l i) (nrmY l i):=(len_bd (by omega) (by omega)).2.2 (nrm_ne hl hi)
  have bd:=deepTo_bd wl wm hi (m.length-1) (by omega)
  change -34359738368000000≤deepZ l m i∧deepZ l m i≤34359738368000000 at bd
  have e0:depZ l m i=(2*deepZ l m i+lenZ (nrmX l i) (nrmY l i)) / (2*lenZ (nrmX l i) (nrmY l i)):=overQ_rnd L0 bd
  have ek:∀ k,k<m.length→rdpZ l i (px m k) (py m k)=(2*dpt l m i k+lenZ (nrmX l i) (nrmY l i)) / (2*lenZ (nrmX l i) (nrmY l i)):=fun k hk=>overQ_rnd L0 (dpt_bd wl wm hi hk)
  have d0:0≤depZ l m i:=by rw [e0];exact Int.ediv_nonneg (by omega) (by omega)
  have le:∀ k,k<m.length→rdpZ l i (px m k) (py m k)≤depZ l m i:=fun k hk=>by
    rw [e0,ek k hk]
    have g:dpt l m i k≤deepZ l m i:=by
      have:∀ n j,j≤n→dpt l m i j≤deepTo l m i n:=by
        intro n
        induction n with
        | zero => intro j hj; obtain rfl : j = 0 := by omega
                  exact Int.le_refl _
        | succ n ih =>
          intro j hj
          rw [deepTo]
          rcases Nat.lt_or_ge j (n+1) with g | g
          · have:=ih j (by omega);split <;> omega
          · obtain rfl : j = n + 1 := by omega
            split <;> omega
      exact this (m.length-1) k (by omega)
    exact Int.ediv_le_ediv (by omega) (by omega)
  have up:∀ n,n≤m.length→rmost l m i n≤depZ l m i∧∀ k,k<n→rdpZ l i (px m k) (py m k)≤rmost l m i n:=by
    intro n
    induction n with
    | zero=>intro _;exact ⟨d0,fun k h=>absurd h (by omega)⟩
    | succ n ih =>
      intro hn
      obtain ⟨a,b⟩:=ih (by omega)
      have c:=le n (by omega)
      rw [rmost]
      refine ⟨by omega,fun k hk=>?_⟩
      rcases Nat.lt_or_ge k n with g | g
      · have:=b k g;omega
      · obtain rfl : k = n := by omega
        omega
  obtain ⟨j,hj,ej⟩:=deepTo_mem l m i (m.length-1)
  have ej':deepZ l m i=dpt l m i j:=ej
  obtain ⟨a,b⟩:=up m.length (Nat.le_refl _)
  have:=b j (by omega)
  rw [ek j (by omega),← ej',← e0] at this
  exact ⟨by omega,d0⟩
theorem axTo_nn {l m : List V} (sec : Bool) {s : Option Ax} (h0 : ∀ a, s = some a → 0 ≤ a.2.2) (hd : ∀ i, i < l.length → 0 ≤ depZ l m i) : ∀ k, k ≤ l.length → ∀ a, axTo l m sec s k = some a → 0 ≤ a.2.2
 | 0,_,a,h=>h0 a h
 | k+1,hk,a,h=>by
  rw [axTo] at h
  obtain ⟨b,h1,h2⟩:=axUp_some (axTo l m sec s k) sec k (depZ l m k)
  rw [h1] at h
  cases h
  rcases h2 with rfl | h2
  ·exact hd k (by omega)
  ·exact axTo_nn sec h0 hd k (by omega) _ h2

def rD (s:Option Ax):Int:=match s with | none => -1 | some a=>a.2.2
structure AxC (w : World) (g : Nat) (s : Bool) (e d : Int) : Prop where
 c0:w.cell? ⟨g,0,none⟩=some (.bool s)
 c1:w.cell? ⟨g,1,none⟩=some (.int .i64 e)
 c2:w.cell? ⟨g,2,none⟩=some (.int .i64 d)
 free:∀ j,w.frozen? ⟨g,j,none⟩=false
theorem AxC.keep {w w':World} {g:Nat} {s:Bool} {e d:Int} (hb:Below w.heap.size w w') (h:AxC w g s e d):AxC w' g s e d :=
 ⟨keepCell hb h.c0,keepCell hb h.c1,keepCell hb h.c2,fun j=>((bcell hb).2 _ _ (lt_of_cell h.c0)).trans (h.free j)⟩
theorem AxC.here (w:World) (s:Bool) (e d:Int) (t:TypeId):AxC (w.alloc (.cells #[.bool s,.int .i64 e,.int .i64 d] t)) w.heap.size s e d:=⟨by go_simp,by go_simp,by go_simp,fun j=>by go_simp⟩
theorem AxC.away {w:World} {g:Nat} {s:Bool} {e d:Int} (h:AxC w g s e d) (k o:Nat) (v:Value) (hne:k≠g):AxC (w.setCell ⟨k,o,none⟩ v) g s e d :=
 ⟨far1 hne h.c0,far1 hne h.c1,far1 hne h.c2,fun j=>by rw [World.frozen?_setCell];exact h.free j⟩
theorem AxC.set {w:World} {g:Nat} {s:Bool} {e d:Int} (h:AxC w g s e d) (s':Bool) (e' d':Int):AxC (((w.setCell ⟨g,0,none⟩ (.bool s')).setCell ⟨g,1,none⟩ (.int .i64 e')).setCell ⟨g,2,none⟩ (.int .i64 d')) g s' e' d':=by
 obtain ⟨h0,h1,h2,hf⟩:=h
 exact ⟨by go_simp,by go_simp,by go_simp,fun j=>by go_simp⟩
structure RW (w0 : World) (s : Option Ax) (w : World) : Prop where
 r:AxC w w0.heap.size false 0 0
 b:AxC w (w0.heap.size+1) (axS s) (axE s) (rD s)
 bel:Below w0.heap.size w0 w
 le:w0.heap.size+1<w.heap.size
theorem RW.keep {w0:World} {s:Option Ax} {w w':World} (hb:Below w.heap.size w w') (h:RW w0 s w):RW w0 s w':=⟨h.r.keep hb,h.b.keep hb,keepBelow hb h.bel,Nat.lt_of_lt_of_le h.le hb.size⟩
theorem RW.set {w0:World} {s:Option Ax} {w:World} (h:RW w0 s w) (t:Option Ax):RW w0 t (((w.setCell ⟨w0.heap.size+1,0,none⟩ (.bool (axS t))).setCell ⟨w0.heap.size+1,1,none⟩ (.int .i64 (axE t))).setCell ⟨w0.heap.size+1,2,none⟩ (.int .i64 (rD t))) :=
 ⟨((h.r.away _ _ _ (by omega)).away _ _ _ (by omega)).away _ _ _ (by omega),h.b.set _ _ _,((h.bel.setCell (p:=⟨w0.heap.size+1,0,none⟩) (Nat.le_succ _) _).setCell (p:=⟨w0.heap.size+1,1,none⟩) (Nat.le_succ _) _).setCell (p:=⟨w0.heap.size+1,2,none⟩) (Nat.le_succ _) _,by simpa [World.setCell] using h.le⟩
theorem rleast_calls (A B:Option Addr) (n c n' c':Nat) (l m:List V) (w:World) (hS:Sl w A n c l) (hM:Sl w B n' c' m) (hmt:meetsB l m=true) :
  Calls Tryz.prog 96 #[.slice A n c,.slice B n' c'] w (Ret (axV (leastO l m)) w):=by
 have h0:=hmt
 unfold meetsB at h0
 rw [decide_eq_true_iff] at h0
 obtain ⟨hE,d1,d2⟩:=h0
 obtain ⟨hc1,hc2⟩:=bothE_zero.1 hE
 obtain ⟨l8,l3,wl,_⟩:=checkE_zero hc1
 obtain ⟨m8,m3,wm,_⟩:=checkE_zero hc2
 have hn:=hS.len
 have hn':=hM.len
 subst hn hn'
 have HS:=hid hS
 have HM:=hid hM
 have HD1:Hid (∀ w',Below w.heap.size w w'→∀ i t,i<l.length→t<m.length→Calls Tryz.prog 102 #[.slice A l.length c,.int .i64 i,vecV (px m t) (py m t)] w' (Ret (.tuple #[.int .i64 (rdpZ l i (px m t) (py m t)),.bool (decide (0≤dptZ l i (px m t) (py m t)))]) w')):=fun w' h i t hi ht=>rdepth_calls A _ c l i _ _ w' (hS.below h) wl l3 l8 hi (allWithin_at wm ht)
 have HD2:Hid (∀ w',Below w.heap.size w w'→∀ i t,i<m.length→t<l.length→Calls Tryz.prog 102 #[.slice B m.length c',.int .i64 i,vecV (px l t) (py l t)] w' (Ret (.tuple #[.int .i64 (rdpZ m i (px l t) (py l t)),.bool (decide (0≤dptZ m i (px l t) (py l t)))]) w')):=fun w' h i t hi ht=>rdepth_calls B _ c' m i _ _ w' (hM.below h) wm m3 m8 hi (allWithin_at wl ht)
 have axNN0:∀ a,axTo l m false none l.length=some a→0≤a.2.2:=axTo_nn false (s:=none) (by intro a h;cases h) (fun i hi=>(rmost_eq hc1 hc2 hi (d1 i hi)).2) l.length (Nat.le_refl _)
 have HLO:Hid (leastO l m=axTo m l true (axTo l m false none l.length) m.length):=by show _=_;unfold leastO;rw [if_pos hmt];rfl
 clear hS hM hmt hE
 obtain ⟨W,hW⟩:∃ W,W=(w.alloc (.cells #[.bool false,.int .i64 0,.int .i64 0] 105)).alloc (.cells #[.bool false,.int .i64 0,.int .i64 (-1)] 105):=⟨_,rfl⟩
 have hR0:RW w none W:=by
  rw [hW]
  refine ⟨(AxC.here w _ _ _ _).keep Ba,?_,by go_grown,by simp⟩
  have:=AxC.here (w.alloc (.cells #[.bool false,.int .i64 0,.int .i64 0] 105)) false 0 (-1) 105
  exact (by simpa using this:AxC ((w.alloc (.cells #[.bool false,.int .i64 0,.int .i64 0] 105)).alloc (.cells #[.bool false,.int .i64 0,.int .i64 (-1)] 105)) (w.heap.size+1) false 0 (-1))
 go_enter Tryz.func96,Tryz.ntmps96
 go_wp2_with fail
 rw [← hW]
 clear hW
 go_loopw [16] (fun j wr=>∃ (k:Nat) (z:Int),k≤2∧z=(k:Int)∧j = .int .i64 z∧RW w (stL l m k) wr) (fun j _=>2-(intOf j).toNat)
 case atStart=>exact ⟨0,0,by omega,rfl,rfl,hR0⟩
 case round =>
  clear hR0
  obtain ⟨k,z,hk,hz,rfl,hR⟩:=hrel
  obtain ⟨wo,rfl⟩:∃ wo:World,wo=wr:=⟨_,rfl⟩
  rcases (show k=0∨k=1∨k=2 by omega) with rfl | rfl | rfl
  ·obtain rfl : z = 0 := by omega
   clear hz
   replace hR:RW w none wo:=hR
   go_wp2
   go_loopw [27] (fun j wr=>∃ i:Nat,i≤l.length∧j = .int .i64 i∧RW w (axTo l m false none i) wr) (fun j _=>l.length-(intOf j).toNat)
   case atStart=>exact ⟨0,Nat.zero_le _,rfl,hR⟩
   case round =>
    clear hR
    obtain ⟨i,hi,rfl,hR⟩:=hrel
    obtain ⟨wi,rfl⟩:∃ wi:World,wi=wr:=⟨_,rfl⟩
    by_cases hlt:i<l.length
    ·have hlt' : (i : Int) < (l.length : Int) := by omega
     go_wp2
     go_loopw [10,32] (fun s j wr=>∃ t:Nat,t≤m.length∧j = .int .i64 t∧s = .int .i64 (rmost l m i t)∧RW w (axTo l m false none i) wr) (fun _ j _=>m.length-(intOf j).toNat)
     case atStart=>exact ⟨0,Nat.zero_le _,rfl,rfl,hR⟩
     case round =>
      clear hR
      obtain ⟨t,ht,rfl,rfl,hR⟩:=hrel
      obtain ⟨wj,rfl⟩:∃ wj:World,wj=wr:=⟨_,rfl⟩
      by_cases hlt2:t<m.length
      ·have hlt2' : (t : Int) < (m.length : Int) := by omega
       have hB:=hR.bel
       obtain ⟨b,off,hA,hC⟩:=(HM.out.below hB).at_ (by intro h;rw [h] at hlt2;simp at hlt2)
       subst hA
       have xk:=hC.x t hlt2
       have yk:=hC.y t hlt2
       have HDP:=hid (fun w' (h:Below w.heap.size w w')=>HD1.out w' h i t hlt hlt2)
       have HRM:Hid (rmost l m i (t+1)=max (rmost l m i t) (rdpZ l i (px m t) (py m t))):=rfl
       generalize px m t=x at *
       generalize py m t=y at *
       generalize rdpZ l i x y=dz at *
       generalize decide (0≤dptZ l i x y)=bz at *
       clear hC
       go_wp2_with fail
       obtain ⟨wz,hwz⟩:∃ wz,wz=wj.alloc (.cells #[.int .i64 x,.int .i64 y] 27):=⟨_,rfl⟩
       have hRz:RW w (axTo l m false none i) wz:=by rw [hwz];exact hR.keep Ba
       rw [← hwz]
       clear hwz hR hB xk yk
       refine (HDP.out _ hRz.bel).mono ?_
       rintro e w9 ⟨rfl,hb9⟩
       have hR9:=hRz.keep hb9
       clear hRz hb9 HDP
       go_wp2
       go_roundw
       case rel=>exact ⟨t+1,hlt2,by go_num,by rw [HRM.out],hR9⟩
       case measure=>simp [intOf];omega
      ·have hte : t = m.length := by omega
       have hge:m.length≤t:=by omega
       have hdz:=rmost_eq hc1 hc2 hlt (d1 i hlt)
       rw [← hte] at hdz
       rw [hdz.1]
       have hdn:=hdz.2
       have hnn:=axTo_nn false (s:=none) (by intro a ha;first | (cases ha;done) | exact axNN0 _ ha) (fun i hi=>(rmost_eq hc1 hc2 hi (d1 i hi)).2) i (by omega)
       have HAX:Hid (axTo l m false none (i+1)=axUp (axTo l m false none i) false i (depZ l m i)):=rfl
       obtain ⟨sx,hsx⟩:∃ sx,sx=axTo l m false none i:=⟨_,rfl⟩
       rw [← hsx] at hR hnn HAX
       generalize depZ l m i=dz at *
       clear hdz hsx hlt2 hte
       have hRH:=hid hR
       obtain ⟨z0,z1,z2,zf⟩:=hR.b
       have hle:=hR.le
       cases sx with
       | none =>
        have z2':wj.cell? ⟨w.heap.size+1,2,none⟩=some (.int .i64 (-1)):=z2
        have HN:Hid (RW w (axTo l m false none (i+1)) (((wj.setCell ⟨w.heap.size+1,0,none⟩ (.bool false)).setCell ⟨w.heap.size+1,1,none⟩ (.int .i64 i)).setCell ⟨w.heap.size+1,2,none⟩ (.int .i64 dz))):=by
         show RW _ _ _
         rw [HAX.out]
         exact hRH.out.set (some (false,i,dz))
        clear z2 HAX
        go_wp2
        go_roundw
        case rel=>exact ⟨i+1,hlt,by go_num,HN.out⟩
        case measure=>simp [intOf];omega
       | some a =>
        have ha:=hnn a rfl
        have z2':wj.cell? ⟨w.heap.size+1,2,none⟩=some (.int .i64 a.2.2):=z2
        clear z2
        have hn0:¬ a.2.2<0:=by omega
        by_cases hlt3:dz<a.2.2
        ·have HN:Hid (RW w (axTo l m false none (i+1)) (((wj.setCell ⟨w.heap.size+1,0,none⟩ (.bool false)).setCell ⟨w.heap.size+1,1,none⟩ (.int .i64 i)).setCell ⟨w.heap.size+1,2,none⟩ (.int .i64 dz))):=by
          show RW _ _ _
          rw [HAX.out,axUp,if_pos hlt3]
          exact hRH.out.set (some (false,i,dz))
         clear HAX
         go_wp2
         go_roundw
         case rel=>exact ⟨i+1,hlt,by go_num,HN.out⟩
         case measure=>simp [intOf];omega
        ·have HN:Hid (RW w (axTo l m false none (i+1)) wj):=by
          show RW _ _ _
          rw [HAX.out,axUp,if_neg hlt3]
          exact hRH.out
         clear HAX
         go_wp2
         go_roundw
         case rel=>exact ⟨i+1,hlt,by go_num,HN.out⟩
         case measure=>simp [intOf];omega
    ·have hie : i = l.length := by omega
     have HN:=hid hR
     rw [hie] at HN
     clear hR
     go_wp2
     go_roundw
     case rel=>exact ⟨1,1,by omega,rfl,by go_num,HN.out⟩
     case measure=>simp [intOf]
  ·obtain rfl : z = 1 := by omega
   clear hz
   replace hR:RW w (axTo l m false none l.length) wo:=hR
   go_wp2
   go_loopw [27] (fun j wr=>∃ i:Nat,i≤m.length∧j = .int .i64 i∧RW w (axTo m l true (axTo l m false none l.length) i) wr) (fun j _=>m.length-(intOf j).toNat)
   case atStart=>exact ⟨0,Nat.zero_le _,rfl,hR⟩
   case round =>
    clear hR
    obtain ⟨i,hi,rfl,hR⟩:=hrel
    obtain ⟨wi,rfl⟩:∃ wi:World,wi=wr:=⟨_,rfl⟩
    by_cases hlt:i<m.length
    ·have hlt' : (i : Int) < (m.length : Int) := by omega
     go_wp2
     go_loopw [10,32] (fun s j wr=>∃ t:Nat,t≤l.length∧j = .int .i64 t∧s = .int .i64 (rmost m l i t)∧RW w (axTo m l true (axTo l m false none l.length) i) wr) (fun _ j _=>l.length-(intOf j).toNat)
     case atStart=>exact ⟨0,Nat.zero_le _,rfl,rfl,hR⟩
     case round =>
      clear hR
      obtain ⟨t,ht,rfl,rfl,hR⟩:=hrel
      obtain ⟨wj,rfl⟩:∃ wj:World,wj=wr:=⟨_,rfl⟩
      by_cases hlt2:t<l.length
      ·have hlt2' : (t : Int) < (l.length : Int) := by omega
       have hB:=hR.bel
       obtain ⟨b,off,hA,hC⟩:=(HS.out.below hB).at_ (by intro h;rw [h] at hlt2;simp at hlt2)
       subst hA
       have xk:=hC.x t hlt2
       have yk:=hC.y t hlt2
       have HDP:=hid (fun w' (h:Below w.heap.size w w')=>HD2.out w' h i t hlt hlt2)
       have HRM:Hid (rmost m l i (t+1)=max (rmost m l i t) (rdpZ m i (px l t) (py l t))):=rfl
       generalize px l t=x at *
       generalize py l t=y at *
       generalize rdpZ m i x y=dz at *
       generalize decide (0≤dptZ m i x y)=bz at *
       clear hC
       go_wp2_with fail
       obtain ⟨wz,hwz⟩:∃ wz,wz=wj.alloc (.cells #[.int .i64 x,.int .i64 y] 27):=⟨_,rfl⟩
       have hRz:RW w (axTo m l true (axTo l m false none l.length) i) wz:=by rw [hwz];exact hR.keep Ba
       rw [← hwz]
       clear hwz hR hB xk yk
       refine (HDP.out _ hRz.bel).mono ?_
       rintro e w9 ⟨rfl,hb9⟩
       have hR9:=hRz.keep hb9
       clear hRz hb9 HDP
       go_wp2
       go_roundw
       case rel=>exact ⟨t+1,hlt2,by go_num,by rw [HRM.out],hR9⟩
       case measure=>simp [intOf];omega
      ·have hte : t = l.length := by omega
       have hge:l.length≤t:=by omega
       have hdz:=rmost_eq hc2 hc1 hlt (d2 i hlt)
       rw [← hte] at hdz
       rw [hdz.1]
       have hdn:=hdz.2
       have hnn:=axTo_nn true (s:=(axTo l m false none l.length)) (by intro a ha;first | (cases ha;done) | exact axNN0 _ ha) (fun i hi=>(rmost_eq hc2 hc1 hi (d2 i hi)).2) i (by omega)
       have HAX:Hid (axTo m l true (axTo l m false none l.length) (i+1)=axUp (axTo m l true (axTo l m false none l.length) i) true i (depZ m l i)):=rfl
       obtain ⟨sx,hsx⟩:∃ sx,sx=axTo m l true (axTo l m false none l.length) i:=⟨_,rfl⟩
       rw [← hsx] at hR hnn HAX
       generalize depZ m l i=dz at *
       clear hdz hsx hlt2 hte
       have hRH:=hid hR
       obtain ⟨z0,z1,z2,zf⟩:=hR.b
       have hle:=hR.le
       cases sx with
       | none =>
        have z2':wj.cell? ⟨w.heap.size+1,2,none⟩=some (.int .i64 (-1)):=z2
        have HN:Hid (RW w (axTo m l true (axTo l m false none l.length) (i+1)) (((wj.setCell ⟨w.heap.size+1,0,none⟩ (.bool true)).setCell ⟨w.heap.size+1,1,none⟩ (.int .i64 i)).setCell ⟨w.heap.size+1,2,none⟩ (.int .i64 dz))):=by
         show RW _ _ _
         rw [HAX.out]
         exact hRH.out.set (some (true,i,dz))
        clear z2 HAX
        go_wp2
        go_roundw
        case rel=>exact ⟨i+1,hlt,by go_num,HN.out⟩
        case measure=>simp [intOf];omega
       | some a =>
        have ha:=hnn a rfl
        have z2':wj.cell? ⟨w.heap.size+1,2,none⟩=some (.int .i64 a.2.2):=z2
        clear z2
        have hn0:¬ a.2.2<0:=by omega
        by_cases hlt3:dz<a.2.2
        ·have HN:Hid (RW w (axTo m l true (axTo l m false none l.length) (i+1)) (((wj.setCell ⟨w.heap.size+1,0,none⟩ (.bool true)).setCell ⟨w.heap.size+1,1,none⟩ (.int .i64 i)).setCell ⟨w.heap.size+1,2,none⟩ (.int .i64 dz))):=by
          show RW _ _ _
          rw [HAX.out,axUp,if_pos hlt3]
          exact hRH.out.set (some (true,i,dz))
         clear HAX
         go_wp2
         go_roundw
         case rel=>exact ⟨i+1,hlt,by go_num,HN.out⟩
         case measure=>simp [intOf];omega
        ·have HN:Hid (RW w (axTo m l true (axTo l m false none l.length) (i+1)) wj):=by
          show RW _ _ _
          rw [HAX.out,axUp,if_neg hlt3]
          exact hRH.out
         clear HAX
         go_wp2
         go_roundw
         case rel=>exact ⟨i+1,hlt,by go_num,HN.out⟩
         case measure=>simp [intOf];omega
    ·have hie : i = m.length := by omega
     have HN:=hid hR
     rw [hie] at HN
     clear hR
     go_wp2
     go_roundw
     case rel=>exact ⟨2,2,by omega,rfl,by go_num,HN.out⟩
     case measure=>simp [intOf]
  ·obtain rfl : z = 2 := by omega
   clear hz
   replace hR:RW w (axTo m l true (axTo l m false none l.length) m.length) wo:=hR
   rw [← HLO.out] at hR
   have hRr:=hid hR.r
   obtain ⟨q0,q1,q2,qf⟩:=hR.r
   obtain ⟨z0,z1,z2,zf⟩:=hR.b
   have hB:=hR.bel
   obtain ⟨a,ha⟩:∃ a,leastO l m=some a:=by
    obtain ⟨b,b1,b2⟩:=axTo_some m l true (axTo l m false none l.length) m.length (by omega)
    exact ⟨b,by rw [HLO.out];exact b1⟩
   rw [ha] at z0 z1 z2 ⊢
   clear hR HLO
   have HF:=hid (hRr.out.set (axS (some a)) (axE (some a)) (axD (some a)))
   have hBF:Below w.heap.size w (((wo.setCell ⟨w.heap.size,0,none⟩ (.bool (axS (some a)))).setCell ⟨w.heap.size,1,none⟩ (.int .i64 (axE (some a)))).setCell ⟨w.heap.size,2,none⟩ (.int .i64 (axD (some a)))):=((hB.setCell (p:=⟨w.heap.size,0,none⟩) (Nat.le_refl _) _).setCell (p:=⟨w.heap.size,1,none⟩) (Nat.le_refl _) _).setCell (p:=⟨w.heap.size,2,none⟩) (Nat.le_refl _) _
   have z2':wo.cell? ⟨w.heap.size+1,2,none⟩=some (.int .i64 (axD (some a))):=z2
   clear z2
   have HV:Hid (axV (some a) = .agg #[.bool (axS (some a)),.int .i64 (axE (some a)),.int .i64 (axD (some a))]):=rfl
   generalize axS (some a)=s1 at *
   generalize axD (some a)=s3 at *
   generalize hs2:(axE (some a):Int)=s2 at *
   clear hs2
   go_wp2
   change bodyPost _ _ _ _ _ (((wo.setCell ⟨w.heap.size,0,none⟩ (.bool s1)).setCell ⟨w.heap.size,1,none⟩ (.int .i64 s2)).setCell ⟨w.heap.size,2,none⟩ (.int .i64 s3))
   generalize (((wo.setCell ⟨w.heap.size,0,none⟩ (.bool s1)).setCell ⟨w.heap.size,1,none⟩ (.int .i64 s2)).setCell ⟨w.heap.size,2,none⟩ (.int .i64 s3))=wf at *
   have e0:=HF.out.c0
   have e1:=HF.out.c1
   have e2:=HF.out.c2
   refine bodyPost_ret (v:=.agg #[.bool s1,.int .i64 s2,.int .i64 s3]) (by simp [results,Tryz.results96,go_sem,e0,e1,e2]) rfl ⟨by rw [ha,HV.out],hBF⟩
theorem rway_calls (A B:Option Addr) (n c n' c':Nat) (l m:List V) (s:Bool) (i:Nat) (d:Int) (w:World) (hS:Sl w A n c l) (hM:Sl w B n' c' m) (hl:checkE l=0) (hm:checkE m=0) (h1:s=true→i<m.length) (h2:s=false→i<l.length) :
  Calls Tryz.prog 97 #[.slice A n c,.slice B n' c',.agg #[.bool s,.int .i64 i,.int .i64 d]] w (Ret (vecV (unitX (axN1 l m (some (s,i,d))) (axN2 l m (some (s,i,d)))) (unitY (axN1 l m (some (s,i,d))) (axN2 l m (some (s,i,d))))) w):=by
 obtain ⟨l8,l3,wl,_⟩:=checkE_zero hl
 obtain ⟨m8,m3,wm,_⟩:=checkE_zero hm
 obtain ⟨W,hW⟩:∃ W,W=(w.alloc (.cells #[.bool s,.int .i64 i,.int .i64 d] 105)).alloc (.cells #[.int .i64 0,.int .i64 0] 27):=⟨_,rfl⟩
 have c0:W.cell? ⟨w.heap.size,0,none⟩=some (.bool s):=by rw [hW];go_simp
 have c1:W.cell? ⟨w.heap.size,1,none⟩=some (.int .i64 i):=by rw [hW];go_simp
 have HZ:=hid (show VZ W (w.heap.size+1) by rw [hW];have:=VZ.here (w.alloc (.cells #[.bool s,.int .i64 i,.int .i64 d] 105)) 0 0 27;simpa using this)
 have hB:Below w.heap.size w W:=by rw [hW];go_grown
 cases s with
 | true =>
  have hi:=h1 rfl
  have bn:=nrm_bd wm hi
  have HO:Hid (∀ w',Below w.heap.size w w'→Calls Tryz.prog 98 #[.slice B n' c',.int .i64 i] w' (Ret (vecV (nrmX m i) (nrmY m i)) w')):=fun w' h=>out_calls B n' c' m i w' (hM.below h) wm m3 m8 hi
  have HR:Hid (axN1 l m (some (true,i,d)) = -nrmX m i∧axN2 l m (some (true,i,d)) = -nrmY m i):=⟨rfl,rfl⟩
  rw [HR.out.1,HR.out.2]
  generalize nrmX m i=nx at *
  generalize nrmY m i=ny at *
  have v1:IntKind.i64.wrap (-nx) = -nx:=IntWalk.i64_in _ (by omega)
  have v2:IntKind.i64.wrap (-ny) = -ny:=IntWalk.i64_in _ (by omega)
  have HU:=hid (unit_calls (-nx) (-ny))
  generalize unitX (-nx) (-ny)=ux at *
  generalize unitY (-nx) (-ny)=uy at *
  clear HR hS hM wl wm bn
  go_enter Tryz.func97,Tryz.ntmps97
  go_wp2_with fail
  rw [← hW]
  clear hW
  refine (HO.out _ hB).mono ?_
  rintro e w1 ⟨rfl,hb1⟩
  have HZ1:=hid (keepVZ hb1 HZ.out)
  have hB1:=keepBelow hb1 hB
  clear HZ hb1 hB c0 c1
  obtain ⟨w2,hw2⟩:∃ w2,w2=w1.alloc (.cells #[.int .i64 nx,.int .i64 ny] 27):=⟨_,rfl⟩
  have HZ2:=hid (show VZ w2 (w.heap.size+1) by rw [hw2];exact HZ1.out.alloc _)
  have hB2:Below w.heap.size w w2:=by rw [hw2];exact hB1.alloc hB1.size _
  clear HZ1 hB1
  go_wp2_with fail
  rw [← hw2]
  clear hw2
  refine (HU.out _).mono ?_
  rintro e w3 ⟨rfl,hb3⟩
  obtain ⟨⟨z0,z1,y0,y1⟩,yf⟩:=keepVZ hb3 HZ2.out
  have hB3:=keepBelow hb3 hB2
  have hsz:=hB3.size
  clear HZ2 hb3 hB2
  go_wp2
  refine bodyPost_ret (v:=vecV ux uy) (by simp [results,Tryz.results97,go_sem,y0,y1]) rfl ⟨rfl,by go_grown⟩
 | false =>
  have hi:=h2 rfl
  have bn:=nrm_bd wl hi
  have HO:Hid (∀ w',Below w.heap.size w w'→Calls Tryz.prog 98 #[.slice A n c,.int .i64 i] w' (Ret (vecV (nrmX l i) (nrmY l i)) w')):=fun w' h=>out_calls A n c l i w' (hS.below h) wl l3 l8 hi
  have HR:Hid (axN1 l m (some (false,i,d))=nrmX l i∧axN2 l m (some (false,i,d))=nrmY l i):=⟨rfl,rfl⟩
  rw [HR.out.1,HR.out.2]
  generalize nrmX l i=nx at *
  generalize nrmY l i=ny at *
  have HU:=hid (unit_calls nx ny)
  generalize unitX nx ny=ux at *
  generalize unitY nx ny=uy at *
  clear HR hS hM wl wm bn
  go_enter Tryz.func97,Tryz.ntmps97
  go_wp2_with fail
  rw [← hW]
  clear hW
  refine (HO.out _ hB).mono ?_
  rintro e w1 ⟨rfl,hb1⟩
  have HZ1:=hid (keepVZ hb1 HZ.out)
  have hB1:=keepBelow hb1 hB
  clear HZ hb1 hB c0 c1
  go_wp2_with fail
  refine (HU.out _).mono ?_
  rintro e w3 ⟨rfl,hb3⟩
  obtain ⟨⟨z0,z1,y0,y1⟩,yf⟩:=keepVZ hb3 HZ1.out
  have hB3:=keepBelow hb3 hB1
  have hsz:=hB3.size
  clear HZ1 hb3 hB1
  go_wp2
  refine bodyPost_ret (v:=vecV ux uy) (by simp [results,Tryz.results97,go_sem,y0,y1]) rfl ⟨rfl,by go_grown⟩
end
end Go.Proofs.YtiaoandbdgdecaaGreat
