/- Parts of a proof: contracts and laws. -/
import Derived.Test.YtokgmcomgflloaaGreatQP43
set_option maxRecDepth 100000
set_option maxHeartbeats 16000000
namespace Go.Proofs.YtokgmcomgflloaaGreat
section
set_option linter.unusedVariables false
set_option linter.unusedSimpArgs false
open Go.RowKit
abbrev PU:NR:=⟨((0,0),(0,0)),0,0,none,none,none⟩

structure QV (g : Nat) (s s4 : TS) (n i gl : Nat) (b : Bx) (w : World) : Prop where
 leaf:s4.nd gl=some ⟨b,(i:Nat),0,none,none,none⟩
 oth:∀ k,k≠gl→s4.nd k=s.nd k
 lv:∀ k,s4.lv k=if k=i then pA gl else s.lv k
 cnt:s4.cnt=((n:Nat):Int)+1
 fresh:w.heap.size≤gl
 old:∀ k,s.nd k≠none→k<w.heap.size
 gin:g<w.heap.size
theorem Ld {w wn : World} {g gl gn i : Nat} {s s4 : TS} {t x : TB} {C : List dI} {b : Bx} (hW : WF s (some t)) (hi : i < 256) (hno : ∀ y ∈ iG (some t), y.2.1 ≠ i)
  (hP:QV g s s4 t.lvs.length i gl b w) (hz:jR C x=t) (hx0:x.tr.ht=0) (hT:x.Rp s4 (lU C)) (hC:nR s4 C (lU C) x.root) (hgn:gl<gn)
  (mn:Mem wn g (s4.set gn PU)) (on:Out (s.In g) w wn) :
  Calls Tryz.prog 70 #[.pointer (pA g), .pointer (pA x.root), .pointer (pA gn)] wn (fun e w5 => e = .returned (.tuple #[]) ∧
   Calls Tryz.prog 71 #[.pointer (pA gn), .pointer (pA x.root), .pointer (pA gl)] w5 (fun e w6 => e = .returned (.tuple #[]) ∧ w6.cell? ⟨gn, 6, none⟩ = some (.pointer (lU C)) ∧
    Calls Tryz.prog 72 #[.pointer (pA g),.pointer (lU C)] w6 (fun e w7=>e = .returned (.tuple #[])∧FX g s (some t) i b w (.returned (.int .i64 0)) w7))):=by
 obtain ⟨hr1,hr2,hr3,hr4⟩:=hW.root;have hht:=hW.ht;have hzb:=mY C x;have hzl:=BH C x;rw [hz] at hzb hzl;have hza:=rJ C x (by rw [hz];exact hr4);rw [hz] at hza;obtain ⟨xa,xh,xs⟩:=hza;have hnd:(x.blocks ++ iX C).Nodup:=(List.Perm.nodup_iff hzb).1 hr3
 have hold:∀ k,k ∈ x.blocks ++ iX C→k<w.heap.size:=fun k hk=>by
  obtain ⟨r,hr⟩:=hr2.mem k (hzb.mem_iff.2 hk);exact hP.old k (by rw [hr];simp)
 have hf:=hP.fresh;have h5:∀ k,k≠gn→(s4.set gn PU).nd k=s4.nd k:=fun k hk=>TS.set_ne _ _ hk
 have hin5:∀ k,(s4.set gn PU).In g k→s.In g k∨w.heap.size≤k:=fun k hk=>by
  rcases hk with hk | hk
  ·exact .inl (.inl hk)
  ·by_cases e1 : k = gn
   ·exact .inr (by omega)
   ·by_cases e2 : k = gl
    ·exact .inr (by omega)
    ·rw [h5 k e1, hP.oth k e2] at hk;exact .inl (.inr hk)
 have hlt5:∀ k,k<w.heap.size→(s4.set gn PU).In g k→s.In g k:=fun k hk hin=>(hin5 k hin).elim id (fun q=>by omega)
 obtain ⟨dx,dc,dxc⟩:=List.nodup_append.1 hnd;have bx_lt:∀ k ∈ x.blocks,k<w.heap.size:=fun k hk=>hold k (by simp [hk])
 have bc_lt:∀ k ∈ iX C,k<w.heap.size:=fun k hk=>hold k (by simp [hk])
 have hxr:=bx_lt _ x.root_mem;have hT5:x.Rp (s4.set gn PU) (lU C):=hT.same (fun k hk=>h5 k (by have:=bx_lt k hk;omega));have hC5:nR (s4.set gn PU) C (lU C) x.root:=hC.same (fun k hk=>h5 k (by have:=bc_lt k hk;omega)) rfl;obtain ⟨rx,hrx,hru,hrb,hrh⟩:=hT5.top;refine (rX mn hC5 dc hrx hru (TS.set_eq _ _ _) (by omega) (fun k=>dxc _ x.root_mem _ k rfl) (fun k=>by have:=bc_lt gn k;omega)).mono ?_;rintro e w5 ⟨s6,rfl,m6,o6,c6,n6,pk6,in6⟩;refine ⟨rfl,?_⟩;have k6:∀ k,k≠gn→k ∉ iX C→s6.nd k=s4.nd k:=fun k h1 h2=>(pk6.out k h1 h2).trans (h5 k h1)
 have hl6:s6.nd gl=some ⟨b,(i:Nat),0,none,none,none⟩:=(k6 gl (by omega) (fun k=>by have:=bc_lt gl k;omega)).trans hP.leaf;have xk6:∀ k ∈ x.blocks,s6.nd k=(s4.set gn PU).nd k:=fun k hk=>pk6.out k (by have:=bx_lt k hk;omega) (fun q=>dxc k hk k q rfl)
 have hx6:s6.nd x.root=some rx:=(xk6 _ x.root_mem).trans hrx;have hT6:x.Rp s6 (lU C):=hT5.same xk6;have nxn:x.root≠gn:=by omega
 have nln:gl≠gn:=by omega
 have nlx:gl≠x.root:=by omega
 refine (oG m6 n6 hx6 hl6 nxn nln nlx (zS (by omega) hrh) (by show (0:Int)≤0∧(0:Int)≤1000000;omega)).mono ?_;rintro e w6 ⟨rfl,m7,o7⟩;obtain ⟨s7,hs7⟩:∃ s7,s7=s6.adopt gn x.root gl { PU with up:=lU C } rx ⟨b,(i:Nat),0,none,none,none⟩:=⟨_,rfl⟩;have a_n:s7.nd gn=some ⟨fF rx.bx b,0,1+max rx.ht 0,lU C,pA x.root,pA gl⟩:=by rw [hs7];exact TS.adopt_n _ _ _ _ _ _ _
 have a_x:s7.nd x.root=some { rx with up:=pA gn }:=by rw [hs7];exact TS.adopt_a _ _ _ _ nxn nlx
 have a_l:s7.nd gl=some ⟨b,(i:Nat),0,pA gn,none,none⟩:=by rw [hs7];exact TS.adopt_b _ _ _ _ nln
 have a_k:∀ k,k≠gn→k≠x.root→k≠gl→s7.nd k=s6.nd k:=fun k h1 h2 h3=>by rw [hs7];exact TS.adopt_ne _ _ _ _ h1 h2 h3
 have a_lv:s7.lv=s4.lv:=by rw [hs7];exact pk6.lv
 have a_cnt:s7.cnt=s4.cnt:=by rw [hs7];exact pk6.cnt
 have a_rt:s7.root=s6.root:=by rw [hs7];rfl
 have in7:∀ k,s7.In g k→s6.In g k:=fun k hk=>by rw [hs7] at hk;exact TS.adopt_in n6 hx6 hl6 hk
 rw [← hs7] at m7;refine ⟨rfl,(m7.nd _ _ a_n).c6,?_⟩
 have hR7:(TB.nd gn x (TB.lf gl i b)).Rp s7 (lU C):=by
  refine ⟨?_,TB.Rp.lift hT6 dx hx6 a_x (fun k hk hne=>a_k k (by have:=bx_lt k hk;omega) hne (by have:=bx_lt k hk;omega)),a_l⟩;rw [a_n,za,vR,hrb,hrh];rfl
 have hC7:nR s7 C (lU C) (TB.nd gn x (TB.lf gl i b)).root:=c6.same (fun k hk=>a_k k (by have:=bc_lt k hk;omega) (fun q=>dxc _ x.root_mem _ (q ▸ hk) rfl) (by have:=bc_lt k hk;omega)) a_rt
 have hN7:((TB.nd gn x (TB.lf gl i b)).blocks ++ iX C).Nodup:=by
  have p:((TB.nd gn x (TB.lf gl i b)).blocks ++ iX C).Perm (gn :: gl :: (x.blocks ++ iX C)):=by
   refine List.perm_iff_count.2 fun a=>?_
   simp only [TB.blocks,List.count_cons,List.count_append,List.count_nil];omega
  refine (List.Perm.nodup_iff p).2 (List.nodup_cons.2 ⟨fun hk=>?_,List.nodup_cons.2 ⟨fun hk=>?_,hnd⟩⟩)
  ·rcases List.mem_cons.1 hk with q | q
   ·omega
   ·have:=hold gn q;omega
  ·have:=hold gl hk;omega
 have h7:(TB.nd gn x (TB.lf gl i b)).tr.ht=1:=by
  show 1+max x.tr.ht 0=1;omega
 have hM7:Ql s7 g C (TB.nd gn x (TB.lf gl i b)) 300:=⟨hR7,hC7,hN7,by omega,fun f hf=>by have:=xs f hf;omega⟩;refine (xq m7 hM7 (by omega)).mono ?_;rintro e w7 ⟨s',rfl,m8,o8,r8,rt8,nd8,lv8,cnt8,-,in8⟩
 have pm:(jF C (TB.nd gn x (TB.lf gl i b))).lvs.Perm ((gl,(i,b)) :: t.lvs):=by
  have q1:=List.perm_iff_count.1 (wH C (TB.nd gn x (TB.lf gl i b)));have q2:=List.perm_iff_count.1 hzl;refine List.perm_iff_count.2 fun a=>?_
  have p1:=q1 a;have p2:=q2 a;simp only [TB.lvs,List.count_append,List.count_cons,List.count_nil] at p1 p2 ⊢;omega
 have hav:(jF C (TB.nd gn x (TB.lf gl i b))).tr.Avl:=(wI C x (TB.nd gn x (TB.lf gl i b)) (by rw [hz];exact hr4) ⟨xa,trivial,by show x.tr.ht≤0+1;omega,by show 0≤x.tr.ht+1;omega⟩ (by omega) (by omega)).1;have hlv:s'.lv=s4.lv:=lv8.trans a_lv;refine ⟨rfl,s',_,gl,rfl,m8,((on.trans o6 hlt5).trans o7 (fun k hk q=>hlt5 k hk (in6 k q))).trans o8 (fun k hk q=>hlt5 k hk (in6 k (in7 k q))),⟨⟨rt8,r8,nd8,hav⟩,?_,fun y hy=>?_,fun y hy=>?_,fun k hk hn=>?_,?_⟩,pm,fun k hk=>hin5 k (in6 k (in7 k (in8 k hk)))⟩
 ·have q := pm.map (fun y => y.2.1);refine (List.Perm.nodup_iff q).2 ?_;show (i :: t.lvs.map (fun y=>y.2.1)).Nodup;refine List.nodup_cons.2 ⟨fun hk=>?_,hW.ids⟩;obtain ⟨y,hy,e⟩:=List.mem_map.1 hk;exact hno y hy e
 ·rcases List.mem_cons.1 (pm.mem_iff.1 hy) with q | q
  ·rw [q];exact hi
  ·exact hW.lt y q
 ·rw [hlv, hP.lv]
  rcases List.mem_cons.1 (pm.mem_iff.1 hy) with q | q
  ·rw [q,if_pos rfl]
  ·rw [if_neg (hno y q)];exact hW.lv y q
 ·rw [hlv, hP.lv];have h1:i≠k:=hn (gl,(i,b)) (pm.mem_iff.2 (List.mem_cons_self ..));rw [if_neg (fun q=>h1 q.symm)];exact hW.no k hk (fun y hy=>hn y (pm.mem_iff.2 (List.mem_cons_of_mem _ hy)))
 ·rw [cnt8, a_cnt, hP.cnt, show (iG (some (jF C (TB.nd gn x (TB.lf gl i b))))).length = t.lvs.length + 1 from pm.length_eq];omega
theorem oU {s : TS} : ∀ (t : TB) (C : List dI) {y : Nat × (Nat × Bx)}, y ∈ t.lvs → t.Rp s (lU C) → nR s C (lU C) t.root → ∃ D, jR D (TB.lf y.1 y.2.1 y.2.2) = jR C t ∧ (TB.lf y.1 y.2.1 y.2.2).Rp s (lU D) ∧ nR s D (lU D) y.1
 | .lf g i b,C,y,hy,hT,hC=>by
  obtain rfl:y=(g,(i,b)):=by simpa [TB.lvs] using hy
  exact ⟨C,rfl,hT,hC⟩
 | .nd p l r,C,y,hy,hT,hC=>by
  obtain ⟨⟨a1,a2⟩,b1,b2⟩:=rU hT hC
  rcases List.mem_append.1 hy with q | q
  ·obtain ⟨D, d1, d2, d3⟩ := oU l (Sv p l r :: C) q a1 a2
   exact ⟨D,d1,d2,d3⟩
  ·obtain ⟨D, d1, d2, d3⟩ := oU r (Sd p l r :: C) q b1 b2
   exact ⟨D,d1,d2,d3⟩

structure S9 (s s1 : TS) (n i : Nat) : Prop where
 nd:∀ k,s1.nd k=s.nd k
 lv:∀ k,s1.lv k=if k=i then none else s.lv k
 cnt:s1.cnt=((n:Nat):Int)-1
 root:s1.root=s.root
def BP (g:Nat) (s:TS) (t:TB) (i:Nat) (w:World) (e:Ending) (w':World):Prop:=∃ s' T' gl b,e = .returned (.int .i64 0)∧Mem w' g s'∧Out (s.In g) w w'∧WF s' T'∧t.lvs.Perm ((gl,(i,b)) :: iG T')∧(∀ k,s'.In g k→s.In g k)

theorem Ih {s s1 s' : TS} {t : TB} {T' : Option TB} {i gl : Nat} {b : Bx} (hW : WF s (some t)) (hD : S9 s s1 t.lvs.length i) (hroot : match T' with | none => s'.root = none | some t => s'.root = pA t.root ∧ t.Rp s' none ∧ t.blocks.Nodup ∧ t.tr.Avl)
  (hlv:s'.lv=s1.lv) (hcnt:s'.cnt=s1.cnt) (pm:t.lvs.Perm ((gl,(i,b)) :: iG T')):WF s' T':=by
 have hpm:(t.lvs.map (fun y=>y.2.1)).Perm (((gl,(i,b)) :: iG T').map (fun y=>y.2.1)):=pm.map (fun y:Nat × (Nat × Bx)=>y.2.1);have hids:(i :: (iG T').map (fun y=>y.2.1)).Nodup:=(List.Perm.nodup_iff hpm).1 hW.ids;obtain ⟨hni,hids⟩:=List.nodup_cons.1 hids;have hne:∀ y ∈ iG T',y.2.1≠i:=fun y hy e=>hni (List.mem_map.2 ⟨y,hy,e⟩)
 have hin:∀ y ∈ iG T',y ∈ t.lvs:=fun y hy=>pm.mem_iff.2 (List.mem_cons_of_mem _ hy)
 refine ⟨hroot,hids,fun y hy=>hW.lt y (hin y hy),fun y hy=>?_,fun k hk hn=>?_,?_⟩
 ·rw [hlv, hD.lv, if_neg (hne y hy)];exact hW.lv y (hin y hy)
 ·rw [hlv, hD.lv]
  by_cases q:k=i
  ·rw [if_pos q]
  ·rw [if_neg q];refine hW.no k hk (fun y hy=>?_)
   rcases List.mem_cons.1 (pm.mem_iff.1 hy) with e | e
   ·rw [e];exact fun h=>q h.symm
   ·exact hn y e
 ·have h1 : t.lvs.length = (iG T').length + 1 := pm.length_eq;rw [hcnt,hD.cnt,h1];omega
theorem drop_tail {w w1 : World} {g gl i : Nat} {s s1 : TS} {t : TB} {f : dI} {C : List dI} {b : Bx} (hW : WF s (some t)) (hD : S9 s s1 t.lvs.length i) (hz : jR (f :: C) (TB.lf gl i b) = t)
  (hC:nR s1 (f :: C) (pA f.p) gl) (m1:Mem w1 g s1) (o1:Out (s.In g) w w1) :
  Calls Tryz.prog 70 #[.pointer (pA g), .pointer (pA f.p), .pointer (pA f.sib.root)] w1 (fun e w2 => e = .returned (.tuple #[]) ∧ w2.cell? ⟨f.sib.root, 6, none⟩ = some (.pointer (lU C)) ∧
    Calls Tryz.prog 72 #[.pointer (pA g),.pointer (lU C)] w2 (fun e w3=>e = .returned (.tuple #[])∧BP g s t i w (.returned (.int .i64 0)) w3)):=by
 obtain ⟨hr1,hr2,hr3,hr4⟩:=hW.root;have hht:=hW.ht;have hzb:=mY (f :: C) (TB.lf gl i b);have hzl:=BH (f :: C) (TB.lf gl i b);rw [hz] at hzb hzl;have hza:=rJ C (TB.nd f.p (f.l (TB.lf gl i b)) (f.r (TB.lf gl i b))) (by show (jR (f :: C) (TB.lf gl i b)).tr.Avl;rw [hz];exact hr4);have hza:(TB.nd f.p (f.l (TB.lf gl i b)) (f.r (TB.lf gl i b))).tr.Avl∧(TB.nd f.p (f.l (TB.lf gl i b)) (f.r (TB.lf gl i b))).tr.ht+C.length≤(jR (f :: C) (TB.lf gl i b)).tr.ht∧∀ x ∈ C,x.sib.tr.ht≤(jR (f :: C) (TB.lf gl i b)).tr.ht:=hza;rw [hz] at hza;obtain ⟨xa,xh,xs⟩:=hza
 have xht:(TB.nd f.p (f.l (TB.lf gl i b)) (f.r (TB.lf gl i b))).tr.ht=1+f.sib.tr.ht∧f.sib.tr.Avl:=by
  have e0:(TB.nd f.p (f.l (TB.lf gl i b)) (f.r (TB.lf gl i b))).tr.ht=1+max (f.l (TB.lf gl i b)).tr.ht (f.r (TB.lf gl i b)).tr.ht:=rfl;have xa:(f.l (TB.lf gl i b)).tr.Avl∧(f.r (TB.lf gl i b)).tr.Avl∧_:=xa;have e1:(TB.lf gl i b).tr.ht=0:=rfl;rw [e0]
  rcases KP f (TB.lf gl i b) with ⟨q1,q2⟩ | ⟨q1,q2⟩
  ·rw [q1, q2] at xa ⊢;exact ⟨by omega,xa.2.1⟩
  ·rw [q1, q2] at xa ⊢;exact ⟨by omega,xa.1⟩
 have hnd:((TB.lf gl i b).blocks ++ iX (f :: C)).Nodup:=(List.Perm.nodup_iff hzb).1 hr3;have hnd:(gl :: f.p :: (f.sib.blocks ++ iX C)).Nodup:=hnd;obtain ⟨n1,hnd⟩:=List.nodup_cons.1 hnd;obtain ⟨n2,hnd⟩:=List.nodup_cons.1 hnd;obtain ⟨ds,dc,dsc⟩:=List.nodup_append.1 hnd;obtain ⟨-,up',e1,e2,e3⟩:=hC;have hup:=e3.up;subst hup;have ms:=f.sib.root_mem;obtain ⟨rs,hrs,hsu,hsb,hsh⟩:=e2.top;have nps:f.p≠f.sib.root:=fun q=>n2 (by rw [q];simp [ms])
 have nvc:f.sib.root ∉ iX C:=fun q=>dsc _ ms _ q rfl
 have nuc:f.p ∉ iX C:=fun q=>n2 (by simp [q])
 refine (rX m1 e3 dc e1 rfl hrs nps nuc nvc).mono ?_;rintro e w2 ⟨s2,rfl,m2,o2,c2,nv2,pk2,in2⟩;refine ⟨rfl,(m2.nd _ _ nv2).c6,?_⟩;have hT2:f.sib.Rp s2 (lU C):=TB.Rp.lift e2 ds hrs nv2 (fun k hk hne=>pk2.out k hne (fun q=>dsc k hk k q rfl));have hM2:Ql s2 g C f.sib 300:=⟨hT2,c2,hnd,by omega,fun x hx=>by have:=xs x hx;omega⟩;refine (xq m2 hM2 (by omega)).mono ?_;rintro e w3 ⟨s',rfl,m3,o3,r3,rt3,nd3,lv3,cnt3,-,in3⟩;have in1:∀ k,s1.In g k→s.In g k:=fun k hk=>hk.elim .inl (fun q=>.inr (by rwa [hD.nd] at q))
 have pm:t.lvs.Perm ((gl,(i,b)) :: (jF C f.sib).lvs):=by
  have q1:=List.perm_iff_count.1 (wH C f.sib);have q2:=List.perm_iff_count.1 hzl;refine List.perm_iff_count.2 fun a=>?_
  have p1:=q1 a;have p2:=q2 a;simp only [TB.lvs,NY,List.count_append,List.count_cons,List.count_nil] at p1 p2 ⊢;omega
 have hav:(jF C f.sib).tr.Avl:=(uL C (TB.nd f.p (f.l (TB.lf gl i b)) (f.r (TB.lf gl i b))) f.sib (by show (jR (f :: C) (TB.lf gl i b)).tr.Avl;rw [hz];exact hr4) xht.2 (by omega) (by omega)).1;exact ⟨rfl,s',some (jF C f.sib),gl,b,rfl,m3,(o1.trans o2 (fun k _ q=>in1 k q)).trans o3 (fun k _ q=>in1 k (in2 k q)),Ih hW hD ⟨rt3,r3,nd3,hav⟩ (lv3.trans pk2.lv) (cnt3.trans pk2.cnt) pm,pm,fun k hk=>in1 k (in2 k (in3 k hk))⟩
def F3 (l:List (Nat × (Nat × Bx))) (i:Nat):Option Bx:=(l.find? (fun y=>decide (y.2.1=i))).map (fun y=>y.2.2)
def sK (T:Option TB) (i:Nat):Option Bx:=F3 (iG T) i
abbrev NK (l:List (Nat × (Nat × Bx))):List Nat:=l.map (fun y=>y.2.1)
theorem rH {l:List (Nat × (Nat × Bx))} (hd:(NK l).Nodup) {i:Nat} {b:Bx}:F3 l i=some b↔∃ g,(g,(i,b)) ∈ l:=by
  induction l with
  | nil => constructor
           · intro h;cases h
           · rintro ⟨g,h⟩;cases h
  | cons y r ih =>
    obtain ⟨g,j,c⟩:=y;obtain ⟨hn,hd⟩:=List.nodup_cons.1 hd;have ih:=ih hd
    by_cases e:j=i
    · subst e;have e1:F3 ((g,(j,c)) :: r) j=some c:=by simp [F3]
      rw [e1]
      constructor
      · intro h;cases h;exact ⟨g,by simp⟩
      · rintro ⟨g', h⟩
        rcases List.mem_cons.1 h with q | q
        · cases q;rfl
        · exact absurd (List.mem_map.2 ⟨_,q,rfl⟩) hn
    · have e1 : F3 ((g, (j, c)) :: r) i = F3 r i := by simp [F3, e]
      rw [e1,ih]
      constructor
      · rintro ⟨g',h⟩;exact ⟨g',List.mem_cons_of_mem _ h⟩
      · rintro ⟨g', h⟩
        rcases List.mem_cons.1 h with q | q
        · cases q;exact absurd rfl e
        · exact ⟨g',q⟩
theorem vK {l:List (Nat × (Nat × Bx))} {i:Nat}:F3 l i=none↔∀ y ∈ l,y.2.1≠i:=by
 unfold F3;rw [Option.map_eq_none_iff,List.find?_eq_none]
 constructor
 ·intro h y hy e;exact h y hy (by simp [e])
 ·intro h y hy e;exact h y hy (by simpa using e)
theorem Ie {l m:List (Nat × (Nat × Bx))} (hd:(NK l).Nodup) (h:l.Perm m) (i:Nat):F3 l i=F3 m i:=by
 have hm:(NK m).Nodup:=(List.Perm.nodup_iff (h.map _)).1 hd;refine Option.ext fun b=>?_
 rw [rH hd,rH hm];exact ⟨fun ⟨g,q⟩=>⟨g,h.mem_iff.1 q⟩,fun ⟨g,q⟩=>⟨g,h.mem_iff.2 q⟩⟩
theorem Hq (g i:Nat) (b:Bx) (l:List (Nat × (Nat × Bx))) (j:Nat):F3 ((g,(i,b)) :: l) j=if j=i then some b else F3 l j:=by
 by_cases e:j=i
 ·subst e;simp [F3]
 ·have e' : ¬ i = j := fun q => e q.symm
  simp [F3,e,e']

theorem Pz {T T':Option TB} {s':TS} (hW:WF s' T') {gl i:Nat} {b:Bx} (h:(iG T').Perm ((gl,(i,b)) :: iG T)) (j:Nat):sK T' j=if j=i then some b else sK T j:=by
 unfold sK;rw [Ie hW.ids h,Hq]

theorem MS {T T':Option TB} {s:TS} (hW:WF s T) {gl i:Nat} {b:Bx} (h:(iG T).Perm ((gl,(i,b)) :: iG T')) (j:Nat):sK T' j=if j=i then none else sK T j:=by
 have hd:(NK ((gl,(i,b)) :: iG T')).Nodup:=(List.Perm.nodup_iff (h.map _)).1 hW.ids;unfold sK;rw [Ie hW.ids h,Hq]
 by_cases e:j=i
 ·subst e;rw [if_pos rfl];refine vK.2 fun y hy q=>?_
  exact (List.nodup_cons.1 hd).1 (List.mem_map.2 ⟨y,hy,q⟩)
 ·rw [if_neg e,if_neg e]
theorem vD {s:TS} {T:Option TB} (hW:WF s T) {i:Nat} (hi:i<256):sK T i=none↔s.lv i=none:=by
 constructor
 ·intro h;exact hW.no i hi (vK.1 h)
 ·intro h;refine vK.2 fun y hy q=>?_
  have:=hW.lv y hy;rw [q,h] at this
  cases this
theorem Mc {s:TS} {T:Option TB} (hW:WF s T) {i:Nat} {b:Bx} (h:sK T i=some b):∃ g t,T=some t∧s.lv i=pA g∧(g,(i,b)) ∈ t.lvs:=by
 obtain ⟨g,hg⟩:=(rH hW.ids).1 h
 cases T with
 | none=>cases hg
 | some t=>exact ⟨g,t,rfl,hW.lv _ hg,hg⟩

def mD (F:Nat→Option Bx) (is:Bx→Bool):List Nat:=(List.range 256).filter fun i=>match F i with | some x=>is x | none=>false
theorem vJ {F:Nat→Option Bx} {is:Bx→Bool} {i:Nat}:i ∈ mD F is↔i<256∧∃ x,F i=some x∧is x=true:=by
 unfold mD;rw [List.mem_filter,List.mem_range];refine and_congr Iff.rfl ?_
 cases F i with
 | none=>simp
 | some x=>simp
theorem xU (F:Nat→Option Bx) (is:Bx→Bool):(mD F is).Pairwise (·<·):=(List.pairwise_lt_range).filter _

theorem G7 : ∀ {l m : List Nat}, l.Pairwise (· < ·) → m.Pairwise (· < ·) → (∀ x, x ∈ l ↔ x ∈ m) → l = m
 | [],[],_,_,_=>rfl
 | [],b :: m,_,_,h=>by have:=(h b).2 (by simp);cases this
 | a :: l,[],_,_,h=>by have:=(h a).1 (by simp);cases this
 | a :: l,b :: m,h1,h2,h=>by
  obtain ⟨p1,p2⟩:=List.pairwise_cons.1 h1
  obtain ⟨q1,q2⟩:=List.pairwise_cons.1 h2
  have e:a=b:=by
   rcases List.mem_cons.1 ((h a).1 (by simp)) with e | e
   ·exact e
   ·rcases List.mem_cons.1 ((h b).2 (by simp)) with k | k
    ·exact k.symm
    ·have := q1 a e;have:=p1 b k;omega
  subst e
  congr 1
  refine G7 p2 q2 fun x=>?_
  constructor
  ·intro hx
   rcases List.mem_cons.1 ((h x).1 (by simp [hx])) with k | k
   ·have:=p1 x hx;omega
   ·exact k
  ·intro hx
   rcases List.mem_cons.1 ((h x).2 (by simp [hx])) with k | k
   ·have:=q1 x hx;omega
   ·exact k

theorem OQ {s:TS} {T:Option TB} (hW:WF s T) (is:Bx→Bool) {m:List Nat} (hm:m.Perm (((iG T).filter (fun y=>is y.2.2)).map (fun y=>y.2.1))) (hs:m.Pairwise (·≤·)):m=mD (sK T) is:=by
 have hn:m.Nodup:=(List.Perm.nodup_iff hm).2 (hW.ids.sublist ((List.filter_sublist).map _));refine G7 ?_ (xU _ _) fun x=>?_
 ·have := List.pairwise_and_iff.2 ⟨hs, hn⟩;exact this.imp (fun ⟨a,b⟩=>Nat.lt_of_le_of_ne a b)
 ·rw [vJ, hm.mem_iff, List.mem_map]
  constructor
  ·rintro ⟨y, hy, rfl⟩;obtain ⟨h1,h2⟩:=List.mem_filter.1 hy;exact ⟨hW.lt y h1,y.2.2,(rH hW.ids).2 ⟨y.1,h1⟩,h2⟩
  ·rintro ⟨h1, b, h2, h3⟩;obtain ⟨g,hg⟩:=(rH hW.ids).1 h2;exact ⟨_,List.mem_filter.2 ⟨hg,h3⟩,rfl⟩

def ji (F:Nat→Option Bx) (tch:Bx→Bx→Bool) (n:Nat):List (Nat × Nat):=(List.range n).flatMap fun i=>match F i with
 | some b=>((mD F (fun x=>tch x b)).filter fun k=>decide (i<k)).map fun k=>(i,k)
 | none=>[]
theorem Iw {F:Nat→Option Bx} {tch:Bx→Bx→Bool} {n:Nat} {p:Nat × Nat}:p ∈ ji F tch n↔p.1<n∧p.1<p.2∧p.2<256∧∃ x y,F p.1=some x∧F p.2=some y∧tch y x=true:=by
 unfold ji;rw [List.mem_flatMap]
 constructor
 ·rintro ⟨i, hi, h⟩
  rcases hF:F i with _ | b
  ·rw [hF] at h;cases h
  ·rw [hF] at h;obtain ⟨k,hk,rfl⟩:=List.mem_map.1 h;obtain ⟨h1,h2⟩:=List.mem_filter.1 hk;obtain ⟨h3,y,h4,h5⟩:=vJ.1 h1;exact ⟨List.mem_range.1 hi,of_decide_eq_true h2,h3,b,y,hF,h4,h5⟩
 ·rintro ⟨h1, h2, h3, x, y, h4, h5, h6⟩;refine ⟨p.1,List.mem_range.2 h1,?_⟩;rw [h4];exact List.mem_map.2 ⟨p.2,List.mem_filter.2 ⟨vJ.2 ⟨h3,y,h5,h6⟩,decide_eq_true h2⟩,rfl⟩
theorem nE (F : Nat → Option Bx) (tch : Bx → Bx → Bool) : ∀ n, (ji F tch n).Pairwise xJ
 | 0=>List.Pairwise.nil
 | n+1=>by
  unfold ji
  rw [List.range_succ,List.flatMap_append]
  refine List.pairwise_append.2 ⟨nE F tch n,?_,?_⟩
  ·rw [List.flatMap_cons, List.flatMap_nil, List.append_nil]
   rcases F n with _ | b
   ·exact List.Pairwise.nil
   ·refine List.pairwise_map.2 (((xU F (fun x=>tch x b)).filter _).imp fun h=>.inr ⟨rfl,h⟩)
  ·intro p hp q hq
   have h1:p.1<n:=(Iw.1 hp).1
   have h2:q.1=n:=by
    rw [List.flatMap_cons,List.flatMap_nil,List.append_nil] at hq
    rcases hF:F n with _ | b
    ·rw [hF] at hq;cases hq
    ·rw [hF] at hq;obtain ⟨k,-,rfl⟩:=List.mem_map.1 hq;rfl
   exact .inl (by omega)

theorem Ot {F:Nat→Option Bx} {tch:Bx→Bx→Bool} {r:List (Nat × Nat)} (hr:r.Perm (ji F tch 256)) (hs:r.Pairwise fun p q=>¬ dR q p<0):r=ji F tch 256:=by
 have hn:(ji F tch 256).Nodup:=(nE F tch 256).imp fun h e=>by subst e;exact jJ h
 have hn2:r.Nodup:=(List.Perm.nodup_iff hr).2 hn;refine oQ ?_ (nE F tch 256) fun p=>hr.mem_iff
 have:=List.pairwise_and_iff.2 ⟨hs,hn2⟩;refine this.imp fun {p q} ⟨a,b⟩=>?_
 rw [mR] at a;unfold xJ at a ⊢;have:¬ (p.1=q.1∧p.2=q.2):=fun ⟨e1,e2⟩=>b (Prod.ext e1 e2)
 omega

theorem KI {F:Nat→Option Bx} {l:List Bx} (hF:∀ i,F i=l[i]?) (hl:l.length≤256):ji F dY 256=dM l:=by
 refine oQ (nE _ _ _) (sD l) fun p=>?_
 rw [Iw,kJ]
 have hb:∀ i,i<l.length→F i=some (aV l i):=fun i hi=>by
  rw [hF,List.getElem?_eq_getElem hi];unfold aV;rw [List.getD_eq_getElem?_getD,List.getElem?_eq_getElem hi];rfl
 constructor
 ·rintro ⟨h1, h2, h3, x, y, h4, h5, h6⟩
  have h7:p.2<l.length:=by
   rcases Nat.lt_or_ge p.2 l.length with q | q
   ·exact q
   ·rw [hF,List.getElem?_eq_none q] at h5;cases h5
  have h8:p.1<l.length:=by omega
  rw [hb _ h8] at h4;rw [hb _ h7] at h5
  cases h4;cases h5
  exact ⟨h2,h7,by rw [oN];exact h6⟩
 ·rintro ⟨h1, h2, h3⟩;exact ⟨by omega,h1,by omega,_,_,hb _ (by omega),hb _ h2,by rw [oN];exact h3⟩
end
end Go.Proofs.YtokgmcomgflloaaGreat
