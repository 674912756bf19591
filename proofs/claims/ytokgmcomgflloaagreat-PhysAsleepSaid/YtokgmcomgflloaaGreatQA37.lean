/- Parts of a proof: contracts and laws. -/
import Derived.Test.YtokgmcomgflloaaGreatQA36
import Derived.Test.YtokgmcomgflloaaGreatQA02
set_option maxRecDepth 100000
set_option maxHeartbeats 16000000
namespace Go.Proofs.YtokgmcomgflloaaGreat
section
set_option linter.unusedVariables false
set_option linter.unusedSimpArgs false
open Go.RowKit
variable {w0 w w':World}
theorem CV (a n:Int) (w:World):Calls Tryz.prog 179 #[.int .i64 a,.int .i64 n] w (dG (.int .i64 (dX a n)) w):=by
 go_enter Tryz.func179,Tryz.ntmps179
 go_wp2_with fail
 refine (xO a n _).mono ?_;rintro e w1 ⟨rfl,hb1⟩;go_wp2
 go_returns
 exact aB rfl hb1

structure Rz (w : World) (g : Nat) : Prop where
 c:∀ j,j<6→∃ v,w.cell? ⟨g,j,none⟩=some v
 free:∀ j,w.frozen? ⟨g,j,none⟩=false
theorem Rz.lt {g:Nat} (h:Rz w g):g<w.heap.size:=by
 obtain ⟨v,hv⟩:=h.c 0 (by omega);exact lt_of_cell hv
theorem Oy {g:Nat} (hb:Below w.heap.size w w') (h:Rz w g):Rz w' g :=
 ⟨fun j hj=>by obtain ⟨v,hv⟩:=h.c j hj;exact ⟨v,keepCell hb hv⟩,fun j=>((dF hb).2 _ _ h.lt).trans (h.free j)⟩
theorem Rz.set {g:Nat} (h:Rz w g) (a:Addr) (u:Value):Rz (w.setCell a u) g:=⟨fun j hj=>by
  obtain ⟨v,hv⟩:=h.c j hj
  by_cases e:a=⟨g,j,none⟩
  ·subst e;exact ⟨u,by go_simp⟩
  ·exact ⟨v,by go_simp⟩,fun j=>by rw [World.frozen?_setCell];exact h.free j⟩
theorem Rz.all {g:Nat} (h:Rz w g):∃ z0 z1 z2 z3 z4 z5:Value,w.cell? ⟨g,0,none⟩=some z0∧w.cell? ⟨g,1,none⟩=some z1∧w.cell? ⟨g,2,none⟩=some z2∧w.cell? ⟨g,3,none⟩=some z3∧w.cell? ⟨g,4,none⟩=some z4∧w.cell? ⟨g,5,none⟩=some z5:=by
 obtain ⟨z0,h0⟩:=h.c 0 (by omega);obtain ⟨z1,h1⟩:=h.c 1 (by omega);obtain ⟨z2,h2⟩:=h.c 2 (by omega);obtain ⟨z3,h3⟩:=h.c 3 (by omega);obtain ⟨z4,h4⟩:=h.c 4 (by omega);obtain ⟨z5,h5⟩:=h.c 5 (by omega);exact ⟨z0,z1,z2,z3,z4,z5,h0,h1,h2,h3,h4,h5⟩

structure Rg (w : World) (g : Nat) (a0 a1 a2 a3 a4 a5 : Int) : Prop where
 c0:w.cell? ⟨g,0,none⟩=some (.int .i64 a0)
 c1:w.cell? ⟨g,1,none⟩=some (.int .i64 a1)
 c2:w.cell? ⟨g,2,none⟩=some (.int .i64 a2)
 c3:w.cell? ⟨g,3,none⟩=some (.int .i64 a3)
 c4:w.cell? ⟨g,4,none⟩=some (.int .i64 a4)
 c5:w.cell? ⟨g,5,none⟩=some (.int .i64 a5)
 f:∀ j,w.frozen? ⟨g,j,none⟩=false
section
variable {w0 w w':World}
variable {w w':World} {g:Nat} {a0 a1 a2 a3 a4 a5:Int}
theorem jT (hb:Below w.heap.size w w') (h:Rg w g a0 a1 a2 a3 a4 a5):Rg w' g a0 a1 a2 a3 a4 a5:=⟨keepCell hb h.c0,keepCell hb h.c1,keepCell hb h.c2,keepCell hb h.c3,keepCell hb h.c4,keepCell hb h.c5,fun j=>((dF hb).2 _ _ (lt_of_cell h.c0)).trans (h.f j)⟩
theorem Rg.drew (h:Rg w g a0 a1 a2 a3 a4 a5):Rg w.drew g a0 a1 a2 a3 a4 a5:=jT (Below.refl _ _).drew h
theorem Rg.s2 (h:Rg w g a0 a1 a2 a3 a4 a5) (v:Int):Rg (w.setCell ⟨g,2,none⟩ (.int .i64 v)) g a0 a1 v a3 a4 a5:=by
 obtain ⟨h0,h1,h2,h3,h4,h5,hf⟩:=h;exact ⟨by go_simp,by go_simp,by go_simp,by go_simp,by go_simp,by go_simp,fun j=>by rw [World.frozen?_setCell];exact hf j⟩
theorem Rg.s3 (h:Rg w g a0 a1 a2 a3 a4 a5) (v:Int):Rg (w.setCell ⟨g,3,none⟩ (.int .i64 v)) g a0 a1 a2 v a4 a5:=by
 obtain ⟨h0,h1,h2,h3,h4,h5,hf⟩:=h;exact ⟨by go_simp,by go_simp,by go_simp,by go_simp,by go_simp,by go_simp,fun j=>by rw [World.frozen?_setCell];exact hf j⟩
theorem Rg.s4 (h:Rg w g a0 a1 a2 a3 a4 a5) (v:Int):Rg (w.setCell ⟨g,4,none⟩ (.int .i64 v)) g a0 a1 a2 a3 v a5:=by
 obtain ⟨h0,h1,h2,h3,h4,h5,hf⟩:=h;exact ⟨by go_simp,by go_simp,by go_simp,by go_simp,by go_simp,by go_simp,fun j=>by rw [World.frozen?_setCell];exact hf j⟩
end

structure Ps (w0 : World) (gs g cap : Nat) (L : List BE) (x : Ct) (w : World) : Prop where
 sv:w.cell? ⟨gs,0,none⟩=some (.slice (some ⟨g,0,none⟩) L.length cap)
 cg:Cg w w0.heap.size x
 bl:BL w g L
 bel:Below w0.heap.size w0 w
 lt:g<w0.heap.size
 ls:gs<w0.heap.size
 lo:∀ y ∈ L,∀ bx off,y.A=some ⟨bx,off,none⟩→bx<w0.heap.size
 rz:Rz w (w0.heap.size+1)
 sz:w0.heap.size+1<w.heap.size
section
variable {w0 w w':World}
variable {w0 w w':World} {gs g cap:Nat} {L:List BE} {x:Ct}
theorem iQ (hb:Below w.heap.size w w') (h:Ps w0 gs g cap L x w):Ps w0 gs g cap L x w':=⟨keepCell hb h.sv,jU hb h.cg,fI hb h.bl,aj hb h.bel,h.lt,h.ls,h.lo,Oy hb h.rz,Nat.lt_of_lt_of_le h.sz hb.size⟩
theorem Ps.drew (h:Ps w0 gs g cap L x w):Ps w0 gs g cap L x w.drew:=iQ (Below.refl _ _).drew h
theorem Ps.alloc (h:Ps w0 gs g cap L x w) (o:Obj):Ps w0 gs g cap L x (w.alloc o):=iQ Ba h
theorem Ps.set {k o:Nat} {v:Value} (h:Ps w0 gs g cap L x w) (hk:w0.heap.size+1<k):Ps w0 gs g cap L x (w.setCell ⟨k,o,none⟩ v):=by
 have hlt:=h.lt;have hls:=h.ls;exact ⟨aY (by omega) h.sv,h.cg.next (aN w k o v) (by omega),h.bl.off (by omega) (fun y hy bx off e=>by have:=h.lo y hy bx off e;omega),h.bel.setCell (p:=⟨k,o,none⟩) (by show w0.heap.size≤k;omega) _,h.lt,h.ls,h.lo,h.rz.set _ _,by simp;exact h.sz⟩
theorem Ps.setBd {k:Nat} (h:Ps w0 gs g cap L x w) (hk:w0.heap.size+1<k) (b:Bd) (A:Option Addr) (n c:Nat):Ps w0 gs g cap L x (Go.Proofs.YtokgmcomgflloaaGreat.setBd w k b A n c):=by
 unfold Go.Proofs.YtokgmcomgflloaaGreat.setBd
 iterate 13 refine Ps.set ?_ hk
 exact h
theorem NZ {gT gU:Nat} (h1:w0.heap.size+1<gT) (h2:w0.heap.size+1<gU) (hne:¬ gT=gU) (h:Ps w0 gs g cap L x w) (hT:fD w gT) (hU:fD w gU) (b b':Bd) (A A':Option Addr) (n n' c c':Nat) :
  Ps w0 gs g cap L x (setBd (setBd w gT b A n c) gU b' A' n' c')∧aL (setBd (setBd w gT b A n c) gU b' A' n' c') gT b A n c∧aL (setBd (setBd w gT b A n c) gU b' A' n' c') gU b' A' n' c' :=
 ⟨(h.setBd h1 b A n c).setBd h2 b' A' n' c',aL.setBd_offJ (jZ hT b A n c) (fun e=>hne e.symm) b' A' n' c',jZ (hU.setBd b A n c) b' A' n' c'⟩
end
def Oq (r:Rw):Value:=.agg #[.int .i64 r.t1,.int .i64 r.t2,.int .i64 r.ease,.int .i64 r.slip,.int .i64 r.lift,.int .i64 r.bound]
theorem F6 (cap gs g ka kb:Nat) (L:List BE) (x:Ct) (st:Int) (w:World) (h:BL w g L) (hv:∀ y ∈ L,aT y.b y.l=0) (hsv:w.cell? ⟨gs,0,none⟩=some (.slice (some ⟨g,0,none⟩) L.length cap)) (hgs:g≠gs) (hab:ka<kb) (hka:ka<L.length) (hkb:kb<L.length) (hxa:x.a=ka) (hxb:x.b=kb) (h64:L.length≤64) (hok:fT L.length x) (hgsw:gs<w.heap.size) :
  Calls Tryz.prog 115 #[.pointer (some ⟨gs,0,none⟩),OO x,.int .i64 st] w (dG (Oq (yR (L.map aF) st x)) w):=by
 obtain ⟨xa,HXA0⟩:∃ y,y=L[ka]:=⟨_,rfl⟩;obtain ⟨xb,HXB0⟩:∃ y,y=L[kb]:=⟨_,rfl⟩;have eA:(L.map aF)[ka]? = some (aF xa):=by rw [List.getElem?_map,List.getElem?_eq_getElem hka,HXA0];rfl
 have eB:(L.map aF)[kb]? = some (aF xb):=by rw [List.getElem?_map,List.getElem?_eq_getElem hkb,HXB0];rfl
 have hea:=hv xa (by rw [HXA0];exact List.getElem_mem hka);have heb:=hv xb (by rw [HXB0];exact List.getElem_mem hkb);have HXA:=hid HXA0;have HXB:=hid HXB0;have HMA:Hid (xa ∈ L):=by show _ ∈ _;rw [HXA0];exact List.getElem_mem hka
 have HMB:Hid (xb ∈ L):=by show _ ∈ _;rw [HXB0];exact List.getElem_mem hkb
 have hac:(ka:Int)<(L.length:Int):=by omega
 have hbc:(kb:Int)<(L.length:Int):=by omega
 have HGS:=hid hgs;have hxl:∀ {y:BE},y ∈ L→y.l≠[]:=fun {y} hy e=>by have:=hv y hy;rw [e] at this;exact absurd (bJ this).1 (by decide)
 obtain ⟨W,hW⟩:∃ W,W=(w.alloc (.cells #[.int .i64 x.a,.int .i64 x.b,.int .i64 x.id,.int .i64 x.px,.int .i64 x.py,.int .i64 x.nx,.int .i64 x.ny,.int .i64 x.dep,.int .i64 x.push,.int .i64 x.sli] 106)).alloc (.cells #[.int .i64 0,.int .i64 0,.int .i64 0,.int .i64 0,.int .i64 0,.int .i64 0] 173):=⟨_,rfl⟩;have hB:Below w.heap.size w W:=by rw [hW];go_grown
 have HPS:Hid (Ps w gs g cap L x W):=by
  show Ps _ _ _ _ _ _ _;refine ⟨keepCell hB hsv,?_,fI hB h,hB,h.cl.lt,hgsw,fun y hy=>kI (h.co y hy) (hxl hy),?_,by rw [hW];simp⟩ <;> rw [hW]
  ·exact ⟨by go_simp,by go_simp,by go_simp,by go_simp,by go_simp,by go_simp,by go_simp,by go_simp,by go_simp,by go_simp⟩
  ·exact ⟨fun j hj=>match j,hj with | 0,_ | 1,_ | 2,_ | 3,_ | 4,_ | 5,_=>⟨.int .i64 0,by go_simp⟩,fun j=>by go_simp⟩
 obtain ⟨tx,htx⟩:∃ z,z = -x.ny:=⟨_,rfl⟩;have hwn:IntKind.i64.wrap (-x.ny)=tx:=by rw [htx];have:=hok.2.2.1;exact IntWalk.i64_in _ (by omega)
 obtain ⟨bd,hbd⟩:∃ z,z=min xa.b.rub xb.b.rub:=⟨_,rfl⟩
 have hrmin:∀ (ts:Array TypeId) (t:TypeId) (w:World),(Builtin.min_ ts t #[.int .i64 xa.b.rub,.int .i64 xb.b.rub]).run Tryz.prog w = .ok (.int .i64 bd) w:=fun ts t w=>by
  rw [run_min_int2,show (if xb.b.rub<xa.b.rub then xb.b.rub else xa.b.rub)=bd by rw [hbd];split <;> omega]
 obtain ⟨e1,he1⟩:∃ z,z=jP xa.b x.px x.py x.nx x.ny:=⟨_,rfl⟩;obtain ⟨e2,he2⟩:∃ z,z=jP xb.b x.px x.py x.nx x.ny:=⟨_,rfl⟩;obtain ⟨e3,he3⟩:∃ z,z=jP xa.b x.px x.py tx x.nx:=⟨_,rfl⟩;obtain ⟨e4,he4⟩:∃ z,z=jP xb.b x.px x.py tx x.nx:=⟨_,rfl⟩
 have HEA1:Hid (∀ w',Ps w gs g cap L x w'→Calls Tryz.prog 173 #[dK xa.b xa.A xa.n xa.c,aR x.px x.py,aR x.nx x.ny] w' (dG (.int .i64 e1) w')):=fun w' hr=>by
  have:=jk xa.b xa.A xa.n xa.c xa.l x.px x.py x.nx x.ny w' (hr.bl.co xa HMA.out);rwa [nG hea,show jP xa.b x.px x.py x.nx x.ny=e1 by rw [he1]] at this
 have HEB1:Hid (∀ w',Ps w gs g cap L x w'→Calls Tryz.prog 173 #[dK xb.b xb.A xb.n xb.c,aR x.px x.py,aR x.nx x.ny] w' (dG (.int .i64 e2) w')):=fun w' hr=>by
  have:=jk xb.b xb.A xb.n xb.c xb.l x.px x.py x.nx x.ny w' (hr.bl.co xb HMB.out);rwa [nG heb,show jP xb.b x.px x.py x.nx x.ny=e2 by rw [he2]] at this
 have HEA2:Hid (∀ w',Ps w gs g cap L x w'→Calls Tryz.prog 173 #[dK xa.b xa.A xa.n xa.c,aR x.px x.py,aR tx x.nx] w' (dG (.int .i64 e3) w')):=fun w' hr=>by
  have:=jk xa.b xa.A xa.n xa.c xa.l x.px x.py tx x.nx w' (hr.bl.co xa HMA.out);rwa [nG hea,show jP xa.b x.px x.py tx x.nx=e3 by rw [he3]] at this
 have HEB2:Hid (∀ w',Ps w gs g cap L x w'→Calls Tryz.prog 173 #[dK xb.b xb.A xb.n xb.c,aR x.px x.py,aR tx x.nx] w' (dG (.int .i64 e4) w')):=fun w' hr=>by
  have:=jk xb.b xb.A xb.n xb.c xb.l x.px x.py tx x.nx w' (hr.bl.co xb HMB.out);rwa [nG heb,show jP xb.b x.px x.py tx x.nx=e4 by rw [he4]] at this
 obtain ⟨ez,hez⟩:∃ z,z=bT e1 e2:=⟨_,rfl⟩;have HEZ1:=hid (eH e1 e2);rw [← hez] at HEZ1;obtain ⟨sz,hsz⟩:∃ z,z=bT e3 e4:=⟨_,rfl⟩;have HEZ2:=hid (eH e3 e4);rw [← hsz] at HEZ2;have hwd:IntKind.i64.wrap (x.dep-512)=x.dep-512:=by have:=hok.2.2.2.1;exact IntWalk.i64_in _ (by omega)
 obtain ⟨dm,hdm⟩:∃ z,z=max 0 (x.dep-512):=⟨_,rfl⟩
 have hrmax:∀ (ts:Array TypeId) (t:TypeId) (w:World),(Builtin.max_ ts t #[.int .i64 0,.int .i64 (x.dep-512)]).run Tryz.prog w = .ok (.int .i64 dm) w:=fun ts t w=>by
  rw [run_max_int2,show (if x.dep-512 > 0 then x.dep-512 else 0)=dm by rw [hdm];split <;> omega]
 obtain ⟨m0,hm0⟩:∃ z,z=aX dm 8192:=⟨_,rfl⟩;have HMU0:=hid (bM dm 8192);rw [← hm0] at HMU0;obtain ⟨l0,hl0⟩:∃ z,z=dX m0 st:=⟨_,rfl⟩;have HOV0:=hid (CV m0 st);rw [← hl0] at HOV0;obtain ⟨s1,hs1⟩:∃ z,z=dI (jw xb.b x.px x.py) (jw xa.b x.px x.py):=⟨_,rfl⟩;obtain ⟨s2,hs2⟩:∃ z,z=dI (jM xb.b x.px x.py) (jM xa.b x.px x.py):=⟨_,rfl⟩
 have HSPD:Hid (∀ w',Ps w gs g cap L x w'→Calls Tryz.prog 180 #[.pointer (some ⟨gs,0,none⟩),OO x] w' (dG (aR s1 s2) w')):=fun w' hr=>by
  have:=BH cap gs g ka kb L x w' hr.bl hv hr.sv hgs hab hka hkb hxa hxb h64;rw [iY hxa eA,iY hxb eB] at this;rw [hs1,hs2];exact this
 obtain ⟨vz,hvz⟩:∃ z,z=IG s1 s2 x.nx x.ny:=⟨_,rfl⟩;have HDOT:=hid (EU s1 s2 x.nx x.ny);rw [← hvz] at HDOT;have hvb : -1099511627776≤vz∧vz≤1099511627776:=by rw [hvz];exact MP _ _ _ _
 have hwv:IntKind.i64.wrap (-vz) = -vz:=IntWalk.i64_in _ (by omega);obtain ⟨bm,hbm⟩:∃ z,z=max xa.b.bounce xb.b.bounce:=⟨_,rfl⟩
 have hrmx2:∀ (ts:Array TypeId) (t:TypeId) (w:World),(Builtin.max_ ts t #[.int .i64 xa.b.bounce,.int .i64 xb.b.bounce]).run Tryz.prog w = .ok (.int .i64 bm) w:=fun ts t w=>by
  rw [run_max_int2,show (if xb.b.bounce > xa.b.bounce then xb.b.bounce else xa.b.bounce)=bm by rw [hbm];split <;> omega]
 obtain ⟨mv,hmv⟩:∃ z,z=aX bm (-vz):=⟨_,rfl⟩;have HMUL:=hid (bM bm (-vz));rw [← hmv] at HMUL;obtain ⟨l1,hl1⟩:∃ z,z=bT l0 mv:=⟨_,rfl⟩;have HADD:=hid (eH l0 mv);rw [← hl1] at HADD
 have HROW:Hid ((vz < -32768→Oq (yR (L.map aF) st x) = .agg #[.int .i64 tx,.int .i64 x.nx,.int .i64 ez,.int .i64 sz,.int .i64 l1,.int .i64 bd])∧(¬ vz < -32768→Oq (yR (L.map aF) st x) = .agg #[.int .i64 tx,.int .i64 x.nx,.int .i64 ez,.int .i64 sz,.int .i64 l0,.int .i64 bd])):=by
  have hrel:∀ v1 v2,Dz (L.map aF) x v1 v2=IG s1 s2 v1 v2:=fun v1 v2=>by unfold Dz OI;rw [iY hxa eA,iY hxb eB,hs1,hs2];rfl
  have hE1:relE (L.map aF) x x.nx x.ny=ez:=by unfold relE Am;rw [iY hxa eA,iY hxb eB,hez,he1,he2];rfl
  have hE2:relE (L.map aF) x (-x.ny) x.nx=sz:=by unfold relE Am;rw [iY hxa eA,iY hxb eB,hsz,he3,he4,htx];rfl
  have hL0:GK x st=l0:=by unfold GK;rw [hl0,hm0,hdm]
  have hBD:min (qB (L.map aF) x.a).rub (qB (L.map aF) x.b).rub=bd:=by rw [iY hxa eA,iY hxb eB,hbd];rfl
  have hBM:max (qB (L.map aF) x.a).bounce (qB (L.map aF) x.b).bounce=bm:=by rw [iY hxa eA,iY hxb eB,hbm];rfl
  have hR:yR (L.map aF) st x=⟨tx,x.nx,ez,sz,zN (L.map aF) x st,bd⟩:=by unfold yR;rw [hE1,hE2,hBD,htx]
  constructor
  ·intro hv9;have:zN (L.map aF) x st=l1:=by unfold zN;rw [hrel,← hvz,if_pos hv9,hL0,hBM,hl1,hmv]
   rw [hR,this];rfl
  ·intro hv9;have:zN (L.map aF) x st=l0:=by unfold zN;rw [hrel,← hvz,if_neg hv9,hL0]
   rw [hR,this];rfl
 have HXI:=hid (And.intro hxa hxb);obtain ⟨w3,hw3⟩:∃ w3:World,w3=W:=⟨_,rfl⟩;clear h hv hsv hgs hok HXA0 HXB0 eA eB hea heb hxl htx hbd he1 he2 he3 he4 hez hsz hdm hm0 hl0 hs1 hs2 hvz hvb hbm hmv hl1 hxa hxb hgsw
 go_enter Tryz.func115,Tryz.ntmps115
 go_upto_region 1 with fail
 rw [← hW,← hw3];obtain ⟨hxa,hxb⟩:=HXI.out;rw [← hw3] at HPS;clear hW hw3 hB HXI;refine (fun (hNr11:Hid (?Tr11:Prop))=>?mainr11) (hid ?prfr11)
 case mainr11 =>
  refine wp_region_noPanic ?_;refine au (S:=(S3 (fun w'=>Ps w gs g cap L x w') (fun w'=>Ps w gs g cap L x w'))) (T:=(fun j=>[0,0,0,0,0,0,0,0,0,0,0,0,0,0,0,0,0,0,1,2].getD j 0)) (by kernel_rfl) (iC HPS.out.drew) (fun hH=>?_);have hWr11:aH (S3 (fun w'=>Ps w gs g cap L x w') (fun w'=>Ps w gs g cap L x w')):=fP (fun _ q0=>q0);refine dn [(0,12),(1,13),(2,14),(3,15),(4,16),(5,17),(6,18),(7,19)] 12 0 0 (L':=?Lr11_1) hWr11 hH ?hyr11_1 ?_
  case hyr11_1=>((iterate 8 apply dA;rfl;kernel_rfl;intro w' hSw;replace hSw:=dR hSw;(try dsimp only at hSw);have q0:=hSw;have d0:=(q0).sv;obtain ⟨qa0_0,qa0_1,qa0_2,qa0_3,qa0_4,qa0_5,qa0_6,qa0_7,qa0_8,qa0_9⟩:=(q0).cg;obtain ⟨b0_0,b0_1,b0_2,b0_3,b0_4,b0_5,b0_6,b0_7,b0_8,b0_9,b0_10,b0_11,b0_12⟩:=bK (q0).bl.cl hka HXA.out;obtain ⟨c0_0,c0_1,c0_2,c0_3,c0_4,c0_5,c0_6,c0_7,c0_8,c0_9,c0_10,c0_11,c0_12⟩:=bK (q0).bl.cl hkb HXB.out;(try simp only [sB,sC]);go_simp;(try with_reducible rfl));exact dw)
  simp only [sB,sC];refine dn [(8,20),(9,21),(10,22),(11,23),(12,24),(13,25),(14,26),(15,27)] 4 1 0 (L':=?Lr11_9) hWr11 hH ?hyr11_9 ?_
  case hyr11_9=>((iterate 8 apply dA;rfl;kernel_rfl;intro w' hSw;replace hSw:=rV hSw;(try dsimp only at hSw);have q0:=hSw;have d0:=(q0).sv;obtain ⟨qa0_0,qa0_1,qa0_2,qa0_3,qa0_4,qa0_5,qa0_6,qa0_7,qa0_8,qa0_9⟩:=(q0).cg;obtain ⟨b0_0,b0_1,b0_2,b0_3,b0_4,b0_5,b0_6,b0_7,b0_8,b0_9,b0_10,b0_11,b0_12⟩:=bK (q0).bl.cl hka HXA.out;obtain ⟨c0_0,c0_1,c0_2,c0_3,c0_4,c0_5,c0_6,c0_7,c0_8,c0_9,c0_10,c0_11,c0_12⟩:=bK (q0).bl.cl hkb HXB.out;(try simp only [sB,sC]);go_simp;(try with_reducible rfl));exact dw)
  simp only [sB,sC];refine Ur [16,17] ?_;refine Uc 0 rfl (fun K hK=>?_) ?_
  ·try clear hb
   have hG:=hH;replace hG:=dR hG;(try dsimp only at hG);have q0:=hG;go_simp;refine hK.out _ _ ?hsr11_17 (fun hH2=>?hrr11_17)
   case hsr11_17=>exact iC (by have hG:=hH;replace hG:=dR hG;(try dsimp only at hG);have q0:=hG;exact q0.alloc _)
   clear hK K hH;have hH:=hH2;clear hH2
   try simp only [Act.put,sA,sB,sC]
   have hT:fD ((w3.alloc (.cells #[.int .i64 0,.int .i64 0,.int .i64 0,.int .i64 0,.int .i64 0,.int .i64 0,.int .i64 0,.int .i64 0,.int .i64 0,.int .i64 0,.slice none 0 0,.bool false,.int .i64 0] 27)).drew) w3.heap.size:=fD.drew (by have:=aL.here w3 mX none 0 0 27;simp only [mX] at this;exact fD.of this);obtain ⟨gT,hgT⟩:∃ g,g=w3.heap.size:=⟨_,rfl⟩;have hlT:w.heap.size+1<gT:=by rw [hgT];exact q0.sz
   rw [← hgT] at hT
   try rw [← hgT]
   clear hgT q0;generalize (w3.alloc (.cells #[.int .i64 0,.int .i64 0,.int .i64 0,.int .i64 0,.int .i64 0,.int .i64 0,.int .i64 0,.int .i64 0,.int .i64 0,.int .i64 0,.slice none 0 0,.bool false,.int .i64 0] 27)).drew=wx16 at *
   refine U1 17 0 rfl (fun K hK=>?_)
   try clear hb
   have hG:=hH;replace hG:=dR hG;(try dsimp only at hG);have q0:=hG;have hZT:=fD.lt hT;go_simp;refine hK.out _ _ ?hsr11_18 (fun hH2=>?hrr11_18)
   case hsr11_18=>exact iC (by have hG:=hH;replace hG:=dR hG;(try dsimp only at hG);have q0:=hG;exact q0.alloc _)
   clear hK K hH;have hH:=hH2;clear hH2
   try simp only [Act.put,sA,sB,sC]
   have hU:fD (wx16.alloc (.cells #[.int .i64 0,.int .i64 0,.int .i64 0,.int .i64 0,.int .i64 0,.int .i64 0,.int .i64 0,.int .i64 0,.int .i64 0,.int .i64 0,.slice none 0 0,.bool false,.int .i64 0] 27)) wx16.heap.size:=by have:=aL.here wx16 mX none 0 0 27;simp only [mX] at this;exact fD.of this
   replace hT:=cO ((Below.refl _ _).alloc (Nat.le_refl _) (.cells #[.int .i64 0,.int .i64 0,.int .i64 0,.int .i64 0,.int .i64 0,.int .i64 0,.int .i64 0,.int .i64 0,.int .i64 0,.int .i64 0,.slice none 0 0,.bool false,.int .i64 0] 27)) hT;obtain ⟨gU,hgU⟩:∃ g,g=wx16.heap.size:=⟨_,rfl⟩;have hlU:w.heap.size+1<gU∧gT<gU:=by rw [hgU];exact ⟨q0.sz,hZT⟩
   rw [← hgU] at hU
   try rw [← hgU]
   clear hgU q0;generalize wx16.alloc (.cells #[.int .i64 0,.int .i64 0,.int .i64 0,.int .i64 0,.int .i64 0,.int .i64 0,.int .i64 0,.int .i64 0,.int .i64 0,.int .i64 0,.slice none 0 0,.bool false,.int .i64 0] 27)=wx17 at *
   refine bE (l':=tf 20 262143) (by kernel_rfl) ?_;have hl2:w.heap.size+1<gT∧w.heap.size+1<gU∧gT≠gU:=by omega
   clear hlT hlU
   try clear hZT
   try clear hZU
   try clear hb
   revert hH
   revert hU;revert hT
   revert hl2
   revert gU;revert gT
   revert wx17
   exact hNr11.out
  refine Uc 0 rfl (fun K hK=>?_) ?_
  ·try clear hb
   have hG:=hH;replace hG:=dR hG;(try dsimp only at hG);have q0:=hG;go_simp;refine hK.out _ _ ?hsr11_21 (fun hH2=>?hrr11_21)
   case hsr11_21=>exact iC (by have hG:=hH;replace hG:=dR hG;(try dsimp only at hG);have q0:=hG;exact q0.alloc _)
   clear hK K hH;have hH:=hH2;clear hH2
   try simp only [Act.put,sA,sB,sC]
   have hU:fD ((w3.alloc (.cells #[.int .i64 0,.int .i64 0,.int .i64 0,.int .i64 0,.int .i64 0,.int .i64 0,.int .i64 0,.int .i64 0,.int .i64 0,.int .i64 0,.slice none 0 0,.bool false,.int .i64 0] 27)).drew) w3.heap.size:=fD.drew (by have:=aL.here w3 mX none 0 0 27;simp only [mX] at this;exact fD.of this);obtain ⟨gU,hgU⟩:∃ g,g=w3.heap.size:=⟨_,rfl⟩;have hlU:w.heap.size+1<gU:=by rw [hgU];exact q0.sz
   rw [← hgU] at hU
   try rw [← hgU]
   clear hgU q0;generalize (w3.alloc (.cells #[.int .i64 0,.int .i64 0,.int .i64 0,.int .i64 0,.int .i64 0,.int .i64 0,.int .i64 0,.int .i64 0,.int .i64 0,.int .i64 0,.slice none 0 0,.bool false,.int .i64 0] 27)).drew=wx17 at *
   refine U1 16 0 rfl (fun K hK=>?_)
   try clear hb
   have hG:=hH;replace hG:=dR hG;(try dsimp only at hG);have q0:=hG;have hZU:=fD.lt hU;go_simp;refine hK.out _ _ ?hsr11_22 (fun hH2=>?hrr11_22)
   case hsr11_22=>exact iC (by have hG:=hH;replace hG:=dR hG;(try dsimp only at hG);have q0:=hG;exact q0.alloc _)
   clear hK K hH;have hH:=hH2;clear hH2
   try simp only [Act.put,sA,sB,sC]
   have hT:fD (wx17.alloc (.cells #[.int .i64 0,.int .i64 0,.int .i64 0,.int .i64 0,.int .i64 0,.int .i64 0,.int .i64 0,.int .i64 0,.int .i64 0,.int .i64 0,.slice none 0 0,.bool false,.int .i64 0] 27)) wx17.heap.size:=by have:=aL.here wx17 mX none 0 0 27;simp only [mX] at this;exact fD.of this
   replace hU:=cO ((Below.refl _ _).alloc (Nat.le_refl _) (.cells #[.int .i64 0,.int .i64 0,.int .i64 0,.int .i64 0,.int .i64 0,.int .i64 0,.int .i64 0,.int .i64 0,.int .i64 0,.int .i64 0,.slice none 0 0,.bool false,.int .i64 0] 27)) hU;obtain ⟨gT,hgT⟩:∃ g,g=wx17.heap.size:=⟨_,rfl⟩;have hlT:w.heap.size+1<gT∧gU<gT:=by rw [hgT];exact ⟨q0.sz,hZU⟩
   rw [← hgT] at hT
   try rw [← hgT]
   clear hgT q0;generalize wx17.alloc (.cells #[.int .i64 0,.int .i64 0,.int .i64 0,.int .i64 0,.int .i64 0,.int .i64 0,.int .i64 0,.int .i64 0,.int .i64 0,.int .i64 0,.slice none 0 0,.bool false,.int .i64 0] 27)=wx16 at *
   refine bE (l':=tf 20 262143) (by kernel_rfl) ?_;have hl2:w.heap.size+1<gT∧w.heap.size+1<gU∧gT≠gU:=by omega
   clear hlT hlU
   try clear hZT
   try clear hZU
   try clear hb
   revert hH
   revert hU;revert hT
   revert hl2
   revert gU;revert gT
   revert wx16
   exact hNr11.out
  exact bC.nil
 case prfr11 =>
  intro wX gT gU hl2 hT hU hH;have hWr11:aH (S3 (fun w'=>Ps w gs g cap L x w') (fun w'=>Ps w gs g cap L x w')):=fP (fun _ q0=>q0);refine U1 18 1 rfl (fun K hK=>?_)
  try clear hb
  have hG:=hH;replace hG:=dR hG;(try dsimp only at hG);have fq0:=hG;have HPS:=hid fq0;have HT:=hid hT;have HU:=hid hU;obtain ⟨z0,z1,z2,z3,z4,z5,z6,z7,z8,z9,z10,z11,z12,y0,y1,y2,y3,y4,y5,y6,y7,y8,y9,y10,y11,y12⟩:=hT.all;have yf:=hT.free;obtain ⟨t0,t1,t2,t3,t4,t5,t6,t7,t8,t9,t10,t11,t12,u0,u1,u2,u3,u4,u5,u6,u7,u8,u9,u10,u11,u12⟩:=hU.all;have uf:=hU.free;have hneTU:¬ gT=gU:=hl2.2.2;have hneUT:¬ gU=gT:=fun h=>hl2.2.2 h.symm
  clear hG fq0;go_simp;refine hK.out _ _ ?hsr11_19 (fun hH2=>?hrr11_19)
  case hsr11_19=>exact rF (by have hh:=HPS.out.setBd hl2.1 xa.b xa.A xa.n xa.c;unfold Go.Proofs.YtokgmcomgflloaaGreat.setBd at hh;exact hh)
  clear hK K hH;have hH:=hH2;clear hH2
  try simp only [Act.put,sA,sB,sC]
  refine U1 19 2 rfl (fun K hK=>?_);go_simp;refine hK.out _ _ ?hsr11_20 (fun hH2=>?hrr11_20)
  case hsr11_20=>exact vR
  clear hK K hH;have hH:=hH2;clear hH2
  try simp only [Act.put,sA,sB,sC]
  refine ak (by kernel_rfl) ?_ _ _;refine NoPanic.normal ?_;obtain ⟨w5,hw5⟩:∃ w5,w5=setBd (setBd wX gT xa.b xa.A xa.n xa.c) gU xb.b xb.A xb.n xb.c:=⟨_,rfl⟩;have HE3:=hid (NZ hl2.1 hl2.2.1 hneTU HPS.out HT.out HU.out xa.b xb.b xa.A xb.A xa.n xb.n xa.c xb.c);rw [← hw5] at HE3;unfold setBd at hw5;have HPS5:=hid HE3.out.1;have HTA:=hid HE3.out.2.1;have HUB:=hid HE3.out.2.2;clear HE3 HPS HT HU z0 z1 z2 z3 z4 z5 z6 z7 z8 z9 z10 z11 z12 y0 y1 y2 y3 y4 y5 y6 y7 y8 y9 y10 y11 y12 t0 t1 t2 t3 t4 t5 t6 t7 t8 t9 t10 t11 t12 u0 u1 u2 u3 u4 u5 u6 u7 u8 u9 u10 u11 u12 yf uf;have HPS:=HPS5;clear HPS5 hxa hxb
  try clear hH
  go_upto_region 2 with fail
  rw [← hw5];clear hw5;obtain ⟨e0,e1,e2,e3,e4,e5,e6,e7,e8,e9⟩:=HPS.out.cg;obtain ⟨gt,hgt⟩:∃ gt,gt=w5.heap.size:=⟨_,rfl⟩;obtain ⟨w6,hw6⟩:∃ w6,w6=w5.alloc (.cells #[.int .i64 tx,.int .i64 x.nx] 24):=⟨_,rfl⟩;have hb6:Below w5.heap.size w5 w6:=by rw [hw6];go_grown
  have HVT:=hid (show Vg w6 gt tx x.nx by rw [hw6,hgt];exact ⟨by go_simp,by go_simp⟩);have htT:gT<gt:=by rw [hgt];exact aL.lt HTA.out
  have htU:gU<gt:=by rw [hgt];exact aL.lt HUB.out
  replace HPS:=hid (iQ hb6 HPS.out);replace HTA:=hid (aM hb6 HTA.out);replace HUB:=hid (aM hb6 HUB.out)
  go_upto_region 3 with fail
  rw [← hw6,← hgt];clear hw6 hgt hb6 e0 e1 e2 e3 e4 e5 e6 e7 e8 e9;obtain ⟨e0,e1⟩:=HVT.out;obtain ⟨k0,k1,k2,k3,k4,k5,k6,k7,k8,k9,k10,k11,k12,kf⟩:=HTA.out;obtain ⟨m0,m1,m2,m3,m4,m5,m6,m7,m8,m9,m10,m11,m12,mf⟩:=HUB.out;obtain ⟨gr,hgr⟩:∃ gr,gr=w6.heap.size:=⟨_,rfl⟩;obtain ⟨w7,hw7⟩:∃ w7,w7=w6.alloc (.cells #[.int .i64 tx,.int .i64 x.nx,.int .i64 0,.int .i64 0,.int .i64 0,.int .i64 bd] 173):=⟨_,rfl⟩;have hb7:Below w6.heap.size w6 w7:=by rw [hw7];go_grown
  have HRG:=hid (show Rg w7 gr tx x.nx 0 0 0 bd by rw [hw7,hgr];exact ⟨by go_simp,by go_simp,by go_simp,by go_simp,by go_simp,by go_simp,fun j=>by go_simp⟩);have htr:gt<gr:=by rw [hgr];exact lt_of_cell HVT.out.a
  have hlr:w.heap.size+1<gr∧gr≠gT∧gr≠gU∧gt≠gr:=by have:=hl2.1;omega
  replace HPS:=hid (iQ hb7 HPS.out);replace HTA:=hid (aM hb7 HTA.out);replace HUB:=hid (aM hb7 HUB.out);replace HVT:=hid (dL hb7 HVT.out)
  go_upto_region 4 with fail
  rw [← hw7,← hgr];clear hw7 hgr hb7 e0 e1 k0 k1 k2 k3 k4 k5 k6 k7 k8 k9 k10 k11 k12 kf m0 m1 m2 m3 m4 m5 m6 m7 m8 m9 m10 m11 m12 mf;refine wp_region_noPanic ?_;refine au (S:=(S2 (fun w'=>Ps w gs g cap L x w'∧aL w' gT xa.b xa.A xa.n xa.c∧aL w' gU xb.b xb.A xb.n xb.c∧Vg w' gt tx x.nx∧Rg w' gr tx x.nx 0 0 0 bd))) (T:=(fun j=>[0,0,0,0,0,0,0,0,0,0,0,0,0,0,1].getD j 0)) (by kernel_rfl) (aC ⟨HPS.out.drew,HTA.out.drew,HUB.out.drew,HVT.out.drew,HRG.out.drew⟩) (fun hH=>?_);have hWr10:aH (S2 (fun w'=>Ps w gs g cap L x w'∧aL w' gT xa.b xa.A xa.n xa.c∧aL w' gU xb.b xb.A xb.n xb.c∧Vg w' gt tx x.nx∧Rg w' gr tx x.nx 0 0 0 bd)):=aK _;refine dn [(0,43),(1,44),(2,45),(3,46),(4,47),(6,49),(7,50),(8,51),(9,52),(10,53)] 5 0 0 (L':=?Lr10_1) hWr10 hH ?hyr10_1 ?_
  case hyr10_1=>((iterate 10 apply dA;rfl;kernel_rfl;intro w' hSw;replace hSw:=aA hSw;(try dsimp only at hSw);have q0:=hSw.1;have q1:=hSw.2.1;have q2:=hSw.2.2.1;have q3:=hSw.2.2.2.1;have q4:=hSw.2.2.2.2;have d0:=(q0).sv;obtain ⟨qa0_0,qa0_1,qa0_2,qa0_3,qa0_4,qa0_5,qa0_6,qa0_7,qa0_8,qa0_9⟩:=(q0).cg;obtain ⟨b0_0,b0_1,b0_2,b0_3,b0_4,b0_5,b0_6,b0_7,b0_8,b0_9,b0_10,b0_11,b0_12⟩:=bK (q0).bl.cl hka HXA.out;obtain ⟨c0_0,c0_1,c0_2,c0_3,c0_4,c0_5,c0_6,c0_7,c0_8,c0_9,c0_10,c0_11,c0_12⟩:=bK (q0).bl.cl hkb HXB.out;obtain ⟨qa1_0,qa1_1,qa1_2,qa1_3,qa1_4,qa1_5,qa1_6,qa1_7,qa1_8,qa1_9,qa1_10,qa1_11,qa1_12,qa1_f⟩:=id q1;obtain ⟨qa2_0,qa2_1,qa2_2,qa2_3,qa2_4,qa2_5,qa2_6,qa2_7,qa2_8,qa2_9,qa2_10,qa2_11,qa2_12,qa2_f⟩:=id q2;obtain ⟨qa3_0,qa3_1⟩:=id q3;obtain ⟨r4_0,r4_1,r4_2,r4_3,r4_4,r4_5,r4_f⟩:=id q4;(try simp only [sB,sC]);go_simp;(try with_reducible rfl));exact dw)
  simp only [sB,sC];refine U1 5 0 rfl (fun K hK=>?_)
  try clear hb
  have hG:=hH;replace hG:=aA hG;(try dsimp only at hG);have fq0:=hG.1;have fq1:=hG.2.1;have fq2:=hG.2.2.1;have fq3:=hG.2.2.2.1;have fq4:=hG.2.2.2.2;have HRX:=hid fq0;clear hG fq0 fq1 fq2 fq3 fq4;go_simp
  (go_at_call 173;refine (HEA1.out _ HRX.out).mono ?_;rintro e wn ⟨rfl,hb⟩)
  refine hK.out _ _ ?hsr10_11 (fun hH2=>?hrr10_11)
  case hsr10_11=>exact aC (by have hG:=hH;replace hG:=aA hG;(try dsimp only at hG);have q0:=hG.1;have q1:=hG.2.1;have q2:=hG.2.2.1;have q3:=hG.2.2.2.1;have q4:=hG.2.2.2.2;exact ⟨iQ hb q0,aM hb q1,aM hb q2,dL hb q3,jT hb q4⟩)
  clear hK K hH;have hH:=hH2;clear hH2
  try simp only [Act.put,sA,sB,sC]
  clear HRX;refine U1 11 0 rfl (fun K hK=>?_)
  try clear hb
  have hG:=hH;replace hG:=aA hG;(try dsimp only at hG);have fq0:=hG.1;have fq1:=hG.2.1;have fq2:=hG.2.2.1;have fq3:=hG.2.2.2.1;have fq4:=hG.2.2.2.2;have HRX:=hid fq0;clear hG fq0 fq1 fq2 fq3 fq4;go_simp
  (go_at_call 173;refine (HEB1.out _ HRX.out).mono ?_;rintro e wn ⟨rfl,hb⟩)
  refine hK.out _ _ ?hsr10_12 (fun hH2=>?hrr10_12)
  case hsr10_12=>exact aC (by have hG:=hH;replace hG:=aA hG;(try dsimp only at hG);have q0:=hG.1;have q1:=hG.2.1;have q2:=hG.2.2.1;have q3:=hG.2.2.2.1;have q4:=hG.2.2.2.2;exact ⟨iQ hb q0,aM hb q1,aM hb q2,dL hb q3,jT hb q4⟩)
  clear hK K hH;have hH:=hH2;clear hH2
  try simp only [Act.put,sA,sB,sC]
  clear HRX;refine U1 12 0 rfl (fun K hK=>?_)
  try clear hb
  go_simp
  (go_at_call 153;refine (HEZ1.out _).mono ?_;rintro e wn ⟨rfl,hb⟩)
  refine hK.out _ _ ?hsr10_13 (fun hH2=>?hrr10_13)
  case hsr10_13=>exact aC (by have hG:=hH;replace hG:=aA hG;(try dsimp only at hG);have q0:=hG.1;have q1:=hG.2.1;have q2:=hG.2.2.1;have q3:=hG.2.2.2.1;have q4:=hG.2.2.2.2;exact ⟨iQ hb q0,aM hb q1,aM hb q2,dL hb q3,jT hb q4⟩)
  clear hK K hH;have hH:=hH2;clear hH2
  try simp only [Act.put,sA,sB,sC]
  refine Ut 13 56 1 0 0 (v:=?vr10_14) rfl hWr10 hH ?hyr10_14 ?_
  case hyr10_14=>(intro w' hSw;clear hSw;go_simp;try (with_reducible rfl))
  simp only [sB,sC];refine U1 14 1 rfl (fun K hK=>?_)
  try clear hb
  have hG:=hH;replace hG:=aA hG;(try dsimp only at hG);have fq0:=hG.1;have fq1:=hG.2.1;have fq2:=hG.2.2.1;have fq3:=hG.2.2.2.1;have fq4:=hG.2.2.2.2;replace HPS:=hid fq0;replace HTA:=hid fq1;replace HUB:=hid fq2;replace HVT:=hid fq3;replace HRG:=hid fq4;obtain ⟨rr0,rr1,rr2,rr3,rr4,rr5,rrf⟩:=fq4;clear hG fq0 fq1 fq2 fq3;go_simp;refine hK.out _ _ ?hsr10_15 (fun hH2=>?hrr10_15)
  case hsr10_15=>exact dY
  clear hK K hH;have hH:=hH2;clear hH2
  try simp only [Act.put,sA,sB,sC]
  refine ak (by kernel_rfl) ?_ _ _;refine NoPanic.normal ?_;obtain ⟨ws,hws⟩:∃ ws,ws=wn.setCell ⟨gr,2,none⟩ (.int .i64 ez):=⟨_,rfl⟩;replace HPS:=hid (HPS.out.set (o:=2) (v:=.int .i64 ez) hlr.1);replace HTA:=hid (HTA.out.offJ (o:=2) (v:=.int .i64 ez) hlr.2.1);replace HUB:=hid (HUB.out.offJ (o:=2) (v:=.int .i64 ez) hlr.2.2.1);replace HVT:=hid (HVT.out.next (aN _ gr 2 (.int .i64 ez)) hlr.2.2.2);replace HRG:=hid (HRG.out.s2 ez);rw [← hws] at HPS HTA HUB HVT HRG
  try clear hH
  go_upto_region 5 with fail
  rw [← hws];clear hws
  try clear rr0 rr1 rr2 rr3 rr4 rr5 rrf
  refine wp_region_noPanic ?_;refine au (S:=(S2 (fun w'=>Ps w gs g cap L x w'∧aL w' gT xa.b xa.A xa.n xa.c∧aL w' gU xb.b xb.A xb.n xb.c∧Vg w' gt tx x.nx∧Rg w' gr tx x.nx ez 0 0 bd))) (T:=(fun j=>[0,0,0,0,0,0,0,0,0,0,0,0,1].getD j 0)) (by kernel_rfl) (aC ⟨HPS.out.drew,HTA.out.drew,HUB.out.drew,HVT.out.drew,HRG.out.drew⟩) (fun hH=>?_);have hWr9:aH (S2 (fun w'=>Ps w gs g cap L x w'∧aL w' gT xa.b xa.A xa.n xa.c∧aL w' gU xb.b xb.A xb.n xb.c∧Vg w' gt tx x.nx∧Rg w' gr tx x.nx ez 0 0 bd)):=aK _;refine dn [(0,57),(1,58),(2,59),(3,60),(5,62),(6,63),(7,64),(8,65)] 5 0 0 (L':=?Lr9_1) hWr9 hH ?hyr9_1 ?_
  case hyr9_1=>((iterate 8 apply dA;rfl;kernel_rfl;intro w' hSw;replace hSw:=aA hSw;(try dsimp only at hSw);have q0:=hSw.1;have q1:=hSw.2.1;have q2:=hSw.2.2.1;have q3:=hSw.2.2.2.1;have q4:=hSw.2.2.2.2;have d0:=(q0).sv;obtain ⟨qa0_0,qa0_1,qa0_2,qa0_3,qa0_4,qa0_5,qa0_6,qa0_7,qa0_8,qa0_9⟩:=(q0).cg;obtain ⟨b0_0,b0_1,b0_2,b0_3,b0_4,b0_5,b0_6,b0_7,b0_8,b0_9,b0_10,b0_11,b0_12⟩:=bK (q0).bl.cl hka HXA.out;obtain ⟨c0_0,c0_1,c0_2,c0_3,c0_4,c0_5,c0_6,c0_7,c0_8,c0_9,c0_10,c0_11,c0_12⟩:=bK (q0).bl.cl hkb HXB.out;obtain ⟨qa1_0,qa1_1,qa1_2,qa1_3,qa1_4,qa1_5,qa1_6,qa1_7,qa1_8,qa1_9,qa1_10,qa1_11,qa1_12,qa1_f⟩:=id q1;obtain ⟨qa2_0,qa2_1,qa2_2,qa2_3,qa2_4,qa2_5,qa2_6,qa2_7,qa2_8,qa2_9,qa2_10,qa2_11,qa2_12,qa2_f⟩:=id q2;obtain ⟨qa3_0,qa3_1⟩:=id q3;obtain ⟨r4_0,r4_1,r4_2,r4_3,r4_4,r4_5,r4_f⟩:=id q4;(try simp only [sB,sC]);go_simp;(try with_reducible rfl));exact dw)
  simp only [sB,sC];refine U1 4 0 rfl (fun K hK=>?_)
  try clear hb
  have hG:=hH;replace hG:=aA hG;(try dsimp only at hG);have fq0:=hG.1;have fq1:=hG.2.1;have fq2:=hG.2.2.1;have fq3:=hG.2.2.2.1;have fq4:=hG.2.2.2.2;have HRX:=hid fq0;clear hG fq0 fq1 fq2 fq3 fq4;go_simp
  (go_at_call 173;refine (HEA2.out _ HRX.out).mono ?_;rintro e wn ⟨rfl,hb⟩)
  refine hK.out _ _ ?hsr9_9 (fun hH2=>?hrr9_9)
  case hsr9_9=>exact aC (by have hG:=hH;replace hG:=aA hG;(try dsimp only at hG);have q0:=hG.1;have q1:=hG.2.1;have q2:=hG.2.2.1;have q3:=hG.2.2.2.1;have q4:=hG.2.2.2.2;exact ⟨iQ hb q0,aM hb q1,aM hb q2,dL hb q3,jT hb q4⟩)
  clear hK K hH;have hH:=hH2;clear hH2
  try simp only [Act.put,sA,sB,sC]
  clear HRX;refine U1 9 0 rfl (fun K hK=>?_)
  try clear hb
  have hG:=hH;replace hG:=aA hG;(try dsimp only at hG);have fq0:=hG.1;have fq1:=hG.2.1;have fq2:=hG.2.2.1;have fq3:=hG.2.2.2.1;have fq4:=hG.2.2.2.2;have HRX:=hid fq0;clear hG fq0 fq1 fq2 fq3 fq4;go_simp
  (go_at_call 173;refine (HEB2.out _ HRX.out).mono ?_;rintro e wn ⟨rfl,hb⟩)
  refine hK.out _ _ ?hsr9_10 (fun hH2=>?hrr9_10)
  case hsr9_10=>exact aC (by have hG:=hH;replace hG:=aA hG;(try dsimp only at hG);have q0:=hG.1;have q1:=hG.2.1;have q2:=hG.2.2.1;have q3:=hG.2.2.2.1;have q4:=hG.2.2.2.2;exact ⟨iQ hb q0,aM hb q1,aM hb q2,dL hb q3,jT hb q4⟩)
  clear hK K hH;have hH:=hH2;clear hH2
  try simp only [Act.put,sA,sB,sC]
  clear HRX;refine U1 10 0 rfl (fun K hK=>?_)
  try clear hb
  go_simp
  (go_at_call 153;refine (HEZ2.out _).mono ?_;rintro e wn ⟨rfl,hb⟩)
  refine hK.out _ _ ?hsr9_11 (fun hH2=>?hrr9_11)
  case hsr9_11=>exact aC (by have hG:=hH;replace hG:=aA hG;(try dsimp only at hG);have q0:=hG.1;have q1:=hG.2.1;have q2:=hG.2.2.1;have q3:=hG.2.2.2.1;have q4:=hG.2.2.2.2;exact ⟨iQ hb q0,aM hb q1,aM hb q2,dL hb q3,jT hb q4⟩)
  clear hK K hH;have hH:=hH2;clear hH2
  try simp only [Act.put,sA,sB,sC]
  refine Ut 11 68 1 0 0 (v:=?vr9_12) rfl hWr9 hH ?hyr9_12 ?_
  case hyr9_12=>(intro w' hSw;clear hSw;go_simp;try (with_reducible rfl))
  simp only [sB,sC];refine U1 12 1 rfl (fun K hK=>?_)
  try clear hb
  have hG:=hH;replace hG:=aA hG;(try dsimp only at hG);have fq0:=hG.1;have fq1:=hG.2.1;have fq2:=hG.2.2.1;have fq3:=hG.2.2.2.1;have fq4:=hG.2.2.2.2;replace HPS:=hid fq0;replace HTA:=hid fq1;replace HUB:=hid fq2;replace HVT:=hid fq3;replace HRG:=hid fq4;obtain ⟨rr0,rr1,rr2,rr3,rr4,rr5,rrf⟩:=fq4;clear hG fq0 fq1 fq2 fq3;go_simp;refine hK.out _ _ ?hsr9_13 (fun hH2=>?hrr9_13)
  case hsr9_13=>exact dY
  clear hK K hH;have hH:=hH2;clear hH2
  try simp only [Act.put,sA,sB,sC]
  refine ak (by kernel_rfl) ?_ _ _;refine NoPanic.normal ?_;obtain ⟨ws,hws⟩:∃ ws,ws=wn.setCell ⟨gr,3,none⟩ (.int .i64 sz):=⟨_,rfl⟩;replace HPS:=hid (HPS.out.set (o:=3) (v:=.int .i64 sz) hlr.1);replace HTA:=hid (HTA.out.offJ (o:=3) (v:=.int .i64 sz) hlr.2.1);replace HUB:=hid (HUB.out.offJ (o:=3) (v:=.int .i64 sz) hlr.2.2.1);replace HVT:=hid (HVT.out.next (aN _ gr 3 (.int .i64 sz)) hlr.2.2.2);replace HRG:=hid (HRG.out.s3 sz);rw [← hws] at HPS HTA HUB HVT HRG
  try clear hH
  go_upto_region 6 with fail
  rw [← hws];clear hws
  try clear rr0 rr1 rr2 rr3 rr4 rr5 rrf
  obtain ⟨rr0,rr1,rr2,rr3,rr4,rr5,rrf⟩:=HRG.out;obtain ⟨e0,e1,e2,e3,e4,e5,e6,e7,e8,e9⟩:=HPS.out.cg
  go_wp2_with fail
  refine (HMU0.out _).mono ?_;rintro e wn1 ⟨rfl,hb⟩;replace HPS:=hid (iQ hb HPS.out);replace HTA:=hid (aM hb HTA.out);replace HUB:=hid (aM hb HUB.out);replace HVT:=hid (dL hb HVT.out);replace HRG:=hid (jT hb HRG.out);clear hb rr0 rr1 rr2 rr3 rr4 rr5 rrf e0 e1 e2 e3 e4 e5 e6 e7 e8 e9;obtain ⟨rr0,rr1,rr2,rr3,rr4,rr5,rrf⟩:=HRG.out
  go_wp2_with fail
  refine (HOV0.out _).mono ?_;rintro e wn2 ⟨rfl,hb⟩;replace HPS:=hid (iQ hb HPS.out);replace HTA:=hid (aM hb HTA.out);replace HUB:=hid (aM hb HUB.out);replace HVT:=hid (dL hb HVT.out);replace HRG:=hid (jT hb HRG.out);clear hb rr0 rr1 rr2 rr3 rr4 rr5 rrf;obtain ⟨rr0,rr1,rr2,rr3,rr4,rr5,rrf⟩:=HRG.out;obtain ⟨ws,hws⟩:∃ ws,ws=wn2.setCell ⟨gr,4,none⟩ (.int .i64 l0):=⟨_,rfl⟩;replace HPS:=hid (HPS.out.set (o:=4) (v:=.int .i64 l0) hlr.1);replace HTA:=hid (HTA.out.offJ (o:=4) (v:=.int .i64 l0) hlr.2.1);replace HUB:=hid (HUB.out.offJ (o:=4) (v:=.int .i64 l0) hlr.2.2.1);replace HVT:=hid (HVT.out.next (aN _ gr 4 (.int .i64 l0)) hlr.2.2.2);replace HRG:=hid (HRG.out.s4 l0);rw [← hws] at HPS HTA HUB HVT HRG
  try clear hH
  go_upto_region 7 with fail
  rw [← hws];clear hws
  try clear rr0 rr1 rr2 rr3 rr4 rr5 rrf
  refine wp_region_noPanic ?_;refine au (S:=(S2 (fun w'=>Ps w gs g cap L x w'∧aL w' gT xa.b xa.A xa.n xa.c∧aL w' gU xb.b xb.A xb.n xb.c∧Vg w' gt tx x.nx∧Rg w' gr tx x.nx ez sz l0 bd))) (T:=(fun _=>0)) (by kernel_rfl) (aC ⟨HPS.out.drew,HTA.out.drew,HUB.out.drew,HVT.out.drew,HRG.out.drew⟩) (fun hH=>?_);have hWr8:aH (S2 (fun w'=>Ps w gs g cap L x w'∧aL w' gT xa.b xa.A xa.n xa.c∧aL w' gU xb.b xb.A xb.n xb.c∧Vg w' gt tx x.nx∧Rg w' gr tx x.nx ez sz l0 bd)):=aK _;refine dn [(0,77),(1,78),(3,80),(4,81)] 3 0 0 (L':=?Lr8_1) hWr8 hH ?hyr8_1 ?_
  case hyr8_1=>((iterate 4 apply dA;rfl;kernel_rfl;intro w' hSw;replace hSw:=aA hSw;(try dsimp only at hSw);have q0:=hSw.1;have q1:=hSw.2.1;have q2:=hSw.2.2.1;have q3:=hSw.2.2.2.1;have q4:=hSw.2.2.2.2;have d0:=(q0).sv;obtain ⟨qa0_0,qa0_1,qa0_2,qa0_3,qa0_4,qa0_5,qa0_6,qa0_7,qa0_8,qa0_9⟩:=(q0).cg;obtain ⟨b0_0,b0_1,b0_2,b0_3,b0_4,b0_5,b0_6,b0_7,b0_8,b0_9,b0_10,b0_11,b0_12⟩:=bK (q0).bl.cl hka HXA.out;obtain ⟨c0_0,c0_1,c0_2,c0_3,c0_4,c0_5,c0_6,c0_7,c0_8,c0_9,c0_10,c0_11,c0_12⟩:=bK (q0).bl.cl hkb HXB.out;obtain ⟨qa1_0,qa1_1,qa1_2,qa1_3,qa1_4,qa1_5,qa1_6,qa1_7,qa1_8,qa1_9,qa1_10,qa1_11,qa1_12,qa1_f⟩:=id q1;obtain ⟨qa2_0,qa2_1,qa2_2,qa2_3,qa2_4,qa2_5,qa2_6,qa2_7,qa2_8,qa2_9,qa2_10,qa2_11,qa2_12,qa2_f⟩:=id q2;obtain ⟨qa3_0,qa3_1⟩:=id q3;obtain ⟨r4_0,r4_1,r4_2,r4_3,r4_4,r4_5,r4_f⟩:=id q4;(try simp only [sB,sC]);go_simp;(try with_reducible rfl));exact dw)
  simp only [sB,sC];refine U1 2 0 rfl (fun K hK=>?_)
  try clear hb
  have hG:=hH;replace hG:=aA hG;(try dsimp only at hG);have fq0:=hG.1;have fq1:=hG.2.1;have fq2:=hG.2.2.1;have fq3:=hG.2.2.2.1;have fq4:=hG.2.2.2.2;have HRX:=hid fq0;clear hG fq0 fq1 fq2 fq3 fq4;go_simp
  (go_at_call 180;refine (HSPD.out _ HRX.out).mono ?_;rintro e wn ⟨rfl,hb⟩)
  refine hK.out _ _ ?hsr8_5 (fun hH2=>?hrr8_5)
  case hsr8_5=>exact aC (by have hG:=hH;replace hG:=aA hG;(try dsimp only at hG);have q0:=hG.1;have q1:=hG.2.1;have q2:=hG.2.2.1;have q3:=hG.2.2.2.1;have q4:=hG.2.2.2.2;exact ⟨iQ hb q0,aM hb q1,aM hb q2,dL hb q3,jT hb q4⟩)
  clear hK K hH;have hH:=hH2;clear hH2
  try simp only [Act.put,sA,sB,sC]
  clear HRX;refine U1 5 0 rfl (fun K hK=>?_)
  try clear hb
  go_simp
  (go_at_call 174;refine (HDOT.out _).mono ?_;rintro e wn ⟨rfl,hb⟩)
  refine hK.out _ _ ?hsr8_6 (fun hH2=>?hrr8_6)
  case hsr8_6=>exact aC (by have hG:=hH;replace hG:=aA hG;(try dsimp only at hG);have q0:=hG.1;have q1:=hG.2.1;have q2:=hG.2.2.1;have q3:=hG.2.2.2.1;have q4:=hG.2.2.2.2;exact ⟨iQ hb q0,aM hb q1,aM hb q2,dL hb q3,jT hb q4⟩)
  clear hK K hH;have hH:=hH2;clear hH2
  try simp only [Act.put,sA,sB,sC]
  refine Ut 6 11 0 0 0 (v:=?vr8_7) rfl hWr8 hH ?hyr8_7 ?_
  case hyr8_7=>(intro w' hSw;clear hSw;go_simp;try (with_reducible rfl))
  simp only [sB,sC];refine ak (by kernel_rfl) ?_ _ _;refine NoPanic.normal ?_;clear hWr8;replace hH:=aA hH
  (try dsimp only at hH)
  have t0:=hH.1;have t1:=hH.2.1;have t2:=hH.2.2.1;have t3:=hH.2.2.2.1;have t4:=hH.2.2.2.2;replace HPS:=hid t0;replace HTA:=hid t1;replace HUB:=hid t2;replace HVT:=hid t3;replace HRG:=hid t4;clear t0 t1 t2 t3 t4
  try clear hH hb
  by_cases hv:vz < -32768
  ·have HROW1 := hid (HROW.out.1 (by omega))
   go_upto_region 9 with fail
   clear hv;refine wp_region_noPanic ?_;refine au (S:=(S2 (fun w'=>Ps w gs g cap L x w'∧aL w' gT xa.b xa.A xa.n xa.c∧aL w' gU xb.b xb.A xb.n xb.c∧Vg w' gt tx x.nx∧Rg w' gr tx x.nx ez sz l0 bd))) (T:=(fun j=>[0,0,0,0,0,0,0,0,0,0,0,0,1].getD j 0)) (by kernel_rfl) (aC ⟨HPS.out.drew,HTA.out.drew,HUB.out.drew,HVT.out.drew,HRG.out.drew⟩) (fun hH=>?_);have hWr7:aH (S2 (fun w'=>Ps w gs g cap L x w'∧aL w' gT xa.b xa.A xa.n xa.c∧aL w' gU xb.b xb.A xb.n xb.c∧Vg w' gt tx x.nx∧Rg w' gr tx x.nx ez sz l0 bd)):=aK _;refine dn [(0,85),(1,86),(2,87),(3,88),(4,89),(5,90),(6,91),(7,92),(8,93)] 4 0 0 (L':=?Lr7_1) hWr7 hH ?hyr7_1 ?_
   case hyr7_1=>((iterate 9 apply dA;rfl;kernel_rfl;intro w' hSw;replace hSw:=aA hSw;(try dsimp only at hSw);have q0:=hSw.1;have q1:=hSw.2.1;have q2:=hSw.2.2.1;have q3:=hSw.2.2.2.1;have q4:=hSw.2.2.2.2;have d0:=(q0).sv;obtain ⟨qa0_0,qa0_1,qa0_2,qa0_3,qa0_4,qa0_5,qa0_6,qa0_7,qa0_8,qa0_9⟩:=(q0).cg;obtain ⟨b0_0,b0_1,b0_2,b0_3,b0_4,b0_5,b0_6,b0_7,b0_8,b0_9,b0_10,b0_11,b0_12⟩:=bK (q0).bl.cl hka HXA.out;obtain ⟨c0_0,c0_1,c0_2,c0_3,c0_4,c0_5,c0_6,c0_7,c0_8,c0_9,c0_10,c0_11,c0_12⟩:=bK (q0).bl.cl hkb HXB.out;obtain ⟨qa1_0,qa1_1,qa1_2,qa1_3,qa1_4,qa1_5,qa1_6,qa1_7,qa1_8,qa1_9,qa1_10,qa1_11,qa1_12,qa1_f⟩:=id q1;obtain ⟨qa2_0,qa2_1,qa2_2,qa2_3,qa2_4,qa2_5,qa2_6,qa2_7,qa2_8,qa2_9,qa2_10,qa2_11,qa2_12,qa2_f⟩:=id q2;obtain ⟨qa3_0,qa3_1⟩:=id q3;obtain ⟨r4_0,r4_1,r4_2,r4_3,r4_4,r4_5,r4_f⟩:=id q4;(try simp only [sB,sC]);go_simp;(try with_reducible rfl));exact dw)
   simp only [sB,sC];refine U1 9 0 rfl (fun K hK=>?_)
   try clear hb
   go_simp
   (go_at_call 52;refine (HMUL.out _).mono ?_;rintro e wn ⟨rfl,hb⟩)
   refine hK.out _ _ ?hsr7_10 (fun hH2=>?hrr7_10)
   case hsr7_10=>exact aC (by have hG:=hH;replace hG:=aA hG;(try dsimp only at hG);have q0:=hG.1;have q1:=hG.2.1;have q2:=hG.2.2.1;have q3:=hG.2.2.2.1;have q4:=hG.2.2.2.2;exact ⟨iQ hb q0,aM hb q1,aM hb q2,dL hb q3,jT hb q4⟩)
   clear hK K hH;have hH:=hH2;clear hH2
   try simp only [Act.put,sA,sB,sC]
   refine U1 10 0 rfl (fun K hK=>?_)
   try clear hb
   go_simp
   (go_at_call 153;refine (HADD.out _).mono ?_;rintro e wn ⟨rfl,hb⟩)
   refine hK.out _ _ ?hsr7_11 (fun hH2=>?hrr7_11)
   case hsr7_11=>exact aC (by have hG:=hH;replace hG:=aA hG;(try dsimp only at hG);have q0:=hG.1;have q1:=hG.2.1;have q2:=hG.2.2.1;have q3:=hG.2.2.2.1;have q4:=hG.2.2.2.2;exact ⟨iQ hb q0,aM hb q1,aM hb q2,dL hb q3,jT hb q4⟩)
   clear hK K hH;have hH:=hH2;clear hH2
   try simp only [Act.put,sA,sB,sC]
   refine Ut 11 96 1 0 0 (v:=?vr7_12) rfl hWr7 hH ?hyr7_12 ?_
   case hyr7_12=>(intro w' hSw;clear hSw;go_simp;try (with_reducible rfl))
   simp only [sB,sC];refine U1 12 1 rfl (fun K hK=>?_)
   try clear hb
   have hG:=hH;replace hG:=aA hG;(try dsimp only at hG);have fq0:=hG.1;have fq1:=hG.2.1;have fq2:=hG.2.2.1;have fq3:=hG.2.2.2.1;have fq4:=hG.2.2.2.2;replace HPS:=hid fq0;replace HTA:=hid fq1;replace HUB:=hid fq2;replace HVT:=hid fq3;replace HRG:=hid fq4;obtain ⟨rr0,rr1,rr2,rr3,rr4,rr5,rrf⟩:=fq4;clear hG fq0 fq1 fq2 fq3;go_simp;refine hK.out _ _ ?hsr7_13 (fun hH2=>?hrr7_13)
   case hsr7_13=>exact dY
   clear hK K hH;have hH:=hH2;clear hH2
   try simp only [Act.put,sA,sB,sC]
   refine ak (by kernel_rfl) ?_ _ _;refine NoPanic.normal ?_;obtain ⟨ws,hws⟩:∃ ws,ws=wn.setCell ⟨gr,4,none⟩ (.int .i64 l1):=⟨_,rfl⟩;replace HPS:=hid (HPS.out.set (o:=4) (v:=.int .i64 l1) hlr.1);replace HTA:=hid (HTA.out.offJ (o:=4) (v:=.int .i64 l1) hlr.2.1);replace HUB:=hid (HUB.out.offJ (o:=4) (v:=.int .i64 l1) hlr.2.2.1);replace HVT:=hid (HVT.out.next (aN _ gr 4 (.int .i64 l1)) hlr.2.2.2);replace HRG:=hid (HRG.out.s4 l1);rw [← hws] at HPS HTA HUB HVT HRG
   try clear hH
   go_upto_region 10 with fail
   rw [← hws];clear hws
   try clear rr0 rr1 rr2 rr3 rr4 rr5 rrf
   obtain ⟨rr0,rr1,rr2,rr3,rr4,rr5,rrf⟩:=HRG.out;obtain ⟨z0,z1,z2,z3,z4,z5,y0,y1,y2,y3,y4,y5⟩:=HPS.out.rz.all;have yf:=HPS.out.rz.free;have hl9:=lt_of_cell y0;have hnr:¬ gr=w.heap.size+1:=by have:=hlr.1;omega
   have hnr2:¬ w.heap.size+1=gr:=by have:=hlr.1;omega
   have HB9:=hid HPS.out.bel;clear HPS HTA HUB HVT HRG;go_wp2;refine bodyPost_ret (v:=.agg #[.int .i64 tx,.int .i64 x.nx,.int .i64 ez,.int .i64 sz,.int .i64 l1,.int .i64 bd]) (by simp [results,Tryz.results115,go_sem,y0,y1,y2,y3,y4,y5,hl9]) rfl ⟨by rw [HROW1.out],?_⟩;have hb9:=HB9.out
   iterate 6 refine Below.setCell ?_ (p:=⟨w.heap.size+1,_,none⟩) (by show w.heap.size≤w.heap.size+1;omega) _
   exact hb9
  have HROW2:=hid (HROW.out.2 (by omega));obtain ⟨rr0,rr1,rr2,rr3,rr4,rr5,rrf⟩:=HRG.out;obtain ⟨z0,z1,z2,z3,z4,z5,y0,y1,y2,y3,y4,y5⟩:=HPS.out.rz.all;have yf:=HPS.out.rz.free;have hl9:=lt_of_cell y0;have hnr:¬ gr=w.heap.size+1:=by have:=hlr.1;omega
  have hnr2:¬ w.heap.size+1=gr:=by have:=hlr.1;omega
  have HB9:=hid HPS.out.bel;clear HPS HTA HUB HVT HRG;go_wp2;refine bodyPost_ret (v:=.agg #[.int .i64 tx,.int .i64 x.nx,.int .i64 ez,.int .i64 sz,.int .i64 l0,.int .i64 bd]) (by simp [results,Tryz.results115,go_sem,y0,y1,y2,y3,y4,y5,hl9]) rfl ⟨by rw [HROW2.out],?_⟩;have hb9:=HB9.out
  iterate 6 refine Below.setCell ?_ (p:=⟨w.heap.size+1,_,none⟩) (by show w.heap.size≤w.heap.size+1;omega) _
  exact hb9
end
end Go.Proofs.YtokgmcomgflloaaGreat
