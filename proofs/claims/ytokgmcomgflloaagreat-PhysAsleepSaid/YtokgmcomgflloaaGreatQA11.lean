/- Parts of a proof: contracts and laws. -/
import Derived.Test.YtokgmcomgflloaaGreatQA07
import Derived.Test.YtokgmcomgflloaaGreatQA06
import Derived.BigQuiet
import Derived.Laws.Bits64b
import Derived.Laws.MathBits
import Derived.Deep.WholeRow
import Derived.Test.YtokgmcomgflloaaGreatQA02
set_option maxRecDepth 100000
set_option maxHeartbeats 16000000
namespace Go.Proofs.YtokgmcomgflloaaGreat
section
set_option linter.unusedVariables false
set_option linter.unusedSimpArgs false
open Go.RowKit

def JV:List Int:=[0,1608,3216,4821,6424,8022,9616,11204,12785,14359,15924,17479,19024,20557,22078,23586,25080,26558,28020,29466,30893,32303,33692,35062,36410,37736,39040,40320,41576,42806,44011,45190,46341,47464,48559,49624,50660,51665,52639,53581,54491,55368,56212,57022,57798,58538,59244,59914,60547,61145,61705,62228,62714,63162,63572,63944,64277,64571,64827,65043,65220,65358,65457,65516,65536]
def iD (k:Nat):Int:=JV.getD k 0
theorem l9 (k:Nat):0≤iD k∧iD k≤65536:=by
 have h:∀ x ∈ JV,0≤x∧x≤65536:=by decide
 unfold iD
 by_cases hk:k<JV.length
 ·rw [List.getD_eq_getElem?_getD, List.getElem?_eq_getElem hk];exact h _ (List.getElem_mem hk)
 ·rw [List.getD_eq_getElem?_getD, List.getElem?_eq_none (by omega)];simp
def qm:Array Value:=#[.int .i64 0,.int .i64 1608,.int .i64 3216,.int .i64 4821,.int .i64 6424,.int .i64 8022,.int .i64 9616,.int .i64 11204,.int .i64 12785,.int .i64 14359,.int .i64 15924,.int .i64 17479,.int .i64 19024,.int .i64 20557,.int .i64 22078,.int .i64 23586,.int .i64 25080,.int .i64 26558,.int .i64 28020,.int .i64 29466,.int .i64 30893,.int .i64 32303,.int .i64 33692,.int .i64 35062,.int .i64 36410,.int .i64 37736,.int .i64 39040,.int .i64 40320,.int .i64 41576,.int .i64 42806,.int .i64 44011,.int .i64 45190,.int .i64 46341,.int .i64 47464,.int .i64 48559,.int .i64 49624,.int .i64 50660,.int .i64 51665,.int .i64 52639,.int .i64 53581,.int .i64 54491,.int .i64 55368,.int .i64 56212,.int .i64 57022,.int .i64 57798,.int .i64 58538,.int .i64 59244,.int .i64 59914,.int .i64 60547,.int .i64 61145,.int .i64 61705,.int .i64 62228,.int .i64 62714,.int .i64 63162,.int .i64 63572,.int .i64 63944,.int .i64 64277,.int .i64 64571,.int .i64 64827,.int .i64 65043,.int .i64 65220,.int .i64 65358,.int .i64 65457,.int .i64 65516,.int .i64 65536]
theorem Ny (k:Nat) (h:k<65):qm[k]? = some (.int .i64 (iD k)):=by
 have e:qm=(JV.map fun x=>Value.int .i64 x).toArray:=by kernel_rfl
 rw [e];have hl:k<JV.length:=h;simp [iD,List.getElem?_eq_getElem hl]
theorem Eo (w:World):Calls Tryz.prog 242 #[] w (dG (.agg qm) w):=by
 go_enter Tryz.func242,Tryz.ntmps242
 have key:∀ cs:List Value,cs=qm.toList→Sem.run Tryz.prog (storeCells ⟨w.heap.size,0,none⟩ cs) (w.alloc (.cells Tryz.zeroCells269 269)) = .ok () (w.alloc (.cells qm 269)):=fun cs h=>by
  subst h;exact run_storeCells_new w _ _ qm (by kernel_rfl) (by kernel_rfl) (by kernel_rfl)
 go_wp2_with fail
 rw [key]
 ·have hload : (loadVar 269 ⟨w.heap.size, 0, none⟩).run Tryz.prog (w.alloc (.cells qm 269)) = .ok (.agg qm) (w.alloc (.cells qm 269)) := run_loadVar_new w _ qm 65 3 Tryz.underlying269 (by kernel_rfl);have HL:=hid hload;clear hload key;go_wp2;refine bodyPost_ret (v:=.agg qm) ?_ rfl ⟨rfl,by go_grown⟩;have hload:=HL.out;simp [results,Tryz.results242,asAddr,hload]
 ·kernel_rfl

def bQ (a:Int):Int:=if a % 256=0 then iD (a / 256).toNat else iD (a / 256).toNat+((iD ((a / 256).toNat+1)-iD (a / 256).toNat)*(a % 256)+128).tdiv 256
theorem zJ {a:Int} (h0:0≤a) : -200000≤bQ a∧bQ a≤200000:=by
 unfold bQ;have b1:=l9 (a / 256).toNat;have b2:=l9 ((a / 256).toNat+1)
 split
 ·omega
 ·have m := dh (x := iD ((a / 256).toNat + 1) - iD (a / 256).toNat) (y := a % 256) (M := 65536) (N := 256) (by omega) (by omega) (by omega) (by omega);generalize (iD ((a / 256).toNat+1)-iD (a / 256).toNat)*(a % 256)=x at *
  have e:=Int.tmod_add_mul_tdiv (x+128) 256;have t1:=Int.tmod_lt_of_pos (x+128) (show (0:Int)<256 by omega);have t2:=Int.lt_tmod_of_pos (x+128) (show (0:Int)<256 by omega);omega
theorem uD (a:Int) (h0:0≤a) (h1:a≤16384) (w:World):Calls Tryz.prog 215 #[.int .i64 a] w (dG (.int .i64 (bQ a)) w):=by
 obtain ⟨k,hk⟩:∃ k:Nat,k=(a / 256).toNat:=⟨_,rfl⟩;obtain ⟨f,hf⟩:∃ f:Int,f=a % 256:=⟨_,rfl⟩;have hq:a.tdiv 256=(k:Int):=by rw [Int.tdiv_eq_ediv_of_nonneg h0];omega
 have hr:a.tmod 256=f:=by rw [Int.tmod_eq_emod_of_nonneg h0];omega
 have hk65:k<65:=by omega
 have hk65':(k:Int)<65:=by omega
 have hkn:((k:Int)).toNat=k:=by omega
 have wk:IntKind.i64.wrap (k:Int)=k:=IntWalk.i64_in _ (by omega);have wf:IntKind.i64.wrap f=f:=IntWalk.i64_in _ (by omega)
 go_enter Tryz.func215,Tryz.ntmps215
 go_wp2_with fail
 refine (Eo _).mono ?_;rintro e w1 ⟨rfl,hb1⟩;have hst:Sem.run Tryz.prog (storeCells ⟨w1.heap.size,0,none⟩ qm.toList) (w1.alloc (.cells Tryz.zeroCells269 269)) = .ok () (w1.alloc (.cells qm 269)):=run_storeCells_new w1 _ _ qm (by kernel_rfl) (by kernel_rfl) (by kernel_rfl);obtain ⟨wa,hwa⟩:∃ wa,wa=w1.alloc (.cells qm 269):=⟨_,rfl⟩;obtain ⟨g,hg⟩:∃ g,g=w1.heap.size:=⟨_,rfl⟩
 have hat:∀ j,j<65→wa.cell? ⟨g,j,none⟩=some (.int .i64 (iD j)):=fun j hj=>by
  rw [hwa,hg];rw [cell_of_row _ _ j qm _ (0,0) (heap_alloc_last w1 _)];exact Ny j hj
 have hBa:Below w.heap.size w wa:=by rw [hwa];exact hb1.alloc hb1.size _
 have hsz:qm.size=65:=by kernel_rfl
 go_upto_region 2 with fail
 rw [← hwa,← hg];clear hst hwa hsz hg hb1
 by_cases hz:f=0
 ·have HR : Hid (bQ a = iD k) := by show _ = _; unfold bQ; rw [← hf, if_pos hz, ← hk]
  have c0:=hat k hk65;rw [hz] at hr wf;generalize iD k=t0 at *
  clear hat hf hk hz;go_wp2
  go_returns
  exact aB HR.out.symm hBa
 ·have hk1 : k + 1 < 65 := by omega
  have HR:Hid (bQ a=iD k+((iD (k+1)-iD k)*f+128).tdiv 256):=by show _=_;unfold bQ;rw [← hf,if_neg hz,← hk]
  have c0:=hat k hk65;have c1:=hat (k+1) hk1;have b0:=l9 k;have b1:=l9 (k+1);have hkn1:((k:Int)+1).toNat=k+1:=by omega
  have hk2:(k:Int)+1<65:=by omega
  have hk3:0≤(k:Int)+1:=by omega
  have wk1:IntKind.i64.wrap ((k:Int)+1)=(k:Int)+1:=IntWalk.i64_in _ (by omega);generalize iD k=t0 at *
  generalize iD (k+1)=t1 at *
  have m:=dh (x:=t1-t0) (y:=f) (M:=65536) (N:=256) (by omega) (by omega) (by omega) (by omega);have w1':IntKind.i64.wrap (t1-t0)=t1-t0:=IntWalk.i64_in _ (by omega);have w2':IntKind.i64.wrap ((t1-t0)*f)=(t1-t0)*f:=IntWalk.i64_in _ (by omega);have w3':IntKind.i64.wrap ((t1-t0)*f+128)=(t1-t0)*f+128:=IntWalk.i64_in _ (by omega);obtain ⟨q,hq2⟩:∃ q,q=((t1-t0)*f+128).tdiv 256:=⟨_,rfl⟩
  have bq : -70000≤q∧q≤70000:=by
   have e:=Int.tmod_add_mul_tdiv ((t1-t0)*f+128) 256;have x1:=Int.tmod_lt_of_pos ((t1-t0)*f+128) (show (0:Int)<256 by omega);have x2:=Int.lt_tmod_of_pos ((t1-t0)*f+128) (show (0:Int)<256 by omega);rw [← hq2] at e;omega
  have w4':IntKind.i64.wrap q=q:=IntWalk.i64_in _ (by omega);have w5':IntKind.i64.wrap (t0+q)=t0+q:=IntWalk.i64_in _ (by omega);have hq3:((t1-t0)*f+128).tdiv 256=q:=hq2.symm;rw [← hq2] at HR;clear hat hf hk m bq b0 b1 hq2
  go_wp2_with fail
  go_quiet (fail)
  go_wp2
  go_returns
  exact aB HR.out.symm (below_drewN' hBa _)

def kZ (a:Int):Int:=if a % 65536 / 16384=0 then bQ (a % 16384) else if a % 65536 / 16384=1 then bQ (16384-a % 16384) else if a % 65536 / 16384=2 then-bQ (a % 16384) else-bQ (16384-a % 16384)
def ni (a:Int):Int:=kZ (a % 65536+16384)
theorem Kv (a:Int) (h0:0≤a) (h1:a<4294967296):bits .and .i64 a 65535=a % 65536:=by
 obtain ⟨n,rfl⟩:=Int.eq_ofNat_of_zero_le h0
 have e1:(BitVec.ofInt 64 (n:Int)).toNat=n:=by
  rw [BitVec.ofInt_natCast,BitVec.toNat_ofNat];exact Nat.mod_eq_of_lt (by omega)
 have e2:(BitVec.ofInt 64 65535).toNat=65535:=by decide
 have e3:n &&& 65535=n % 65536:=Nat.and_two_pow_sub_one_eq_mod n 16;show IntKind.i64.wrap ((BitVec.ofInt 64 (n:Int) &&& BitVec.ofInt 64 65535).toNat:Int)=_;rw [BitVec.toNat_and,e1,e2,e3,IntWalk.i64_in _ (by omega)];omega
theorem zU (a:Int) (h0:0≤a) (h1:a<4294967296) (w:World):Calls Tryz.prog 155 #[.int .i64 a] w (dG (.int .i64 (kZ a)) w):=by
 have ha:=Kv a h0 h1;obtain ⟨b,hb⟩:∃ b,b=a % 65536:=⟨_,rfl⟩;obtain ⟨r,hr⟩:∃ r,r=a % 16384:=⟨_,rfl⟩;obtain ⟨q,hq⟩:∃ q,q=a % 65536 / 16384:=⟨_,rfl⟩;have hbr:b.tmod 16384=r:=by rw [Int.tmod_eq_emod_of_nonneg (by omega)];omega
 have hbq:b.tdiv 16384=q:=by rw [Int.tdiv_eq_ediv_of_nonneg (by omega)];omega
 have HS:Hid (kZ a=if q=0 then bQ r else if q=1 then bQ (16384-r) else if q=2 then-bQ r else-bQ (16384-r)):=by show _=_;unfold kZ;rw [← hq,← hr]
 have f1:=zJ (a:=r) (by omega);have f2:=zJ (a:=16384-r) (by omega);have w1:IntKind.i64.wrap r=r:=IntWalk.i64_in _ (by omega);have w2:IntKind.i64.wrap q=q:=IntWalk.i64_in _ (by omega);have w3:IntKind.i64.wrap (16384-r)=16384-r:=IntWalk.i64_in _ (by omega);have w4:IntKind.i64.wrap (- bQ r) = - bQ r:=IntWalk.i64_in _ (by omega);have w5:IntKind.i64.wrap (- bQ (16384-r)) = - bQ (16384-r):=IntWalk.i64_in _ (by omega);have w6:IntKind.i64.wrap b=b:=IntWalk.i64_in _ (by omega);have HF1:Hid (∀ w,Calls Tryz.prog 215 #[.int .i64 r] w (dG (.int .i64 (bQ r)) w)):=fun w=>uD r (by omega) (by omega) w
 have HF2:Hid (∀ w,Calls Tryz.prog 215 #[.int .i64 (16384-r)] w (dG (.int .i64 (bQ (16384-r))) w)):=fun w=>uD (16384-r) (by omega) (by omega) w
 have hq4:q=0∨q=1∨q=2∨q=3:=by omega
 rw [← hb] at ha;clear hb hr hq f1 f2 h0 h1;generalize bQ (16384-r)=y at *
 generalize bQ r=x at *
 rcases hq4 with rfl | rfl | rfl | rfl
 ·go_enter Tryz.func155, Tryz.ntmps155
  go_wp2_with fail
  refine (HF1.out _).mono ?_;rintro e w1 ⟨rfl,hb1⟩;go_wp2
  go_returns
  exact aB (by rw [HS.out];simp) hb1
 ·go_enter Tryz.func155, Tryz.ntmps155
  go_wp2_with fail
  refine (HF2.out _).mono ?_;rintro e w1 ⟨rfl,hb1⟩;go_wp2
  go_returns
  exact aB (by rw [HS.out];simp) hb1
 ·go_enter Tryz.func155, Tryz.ntmps155
  go_wp2_with fail
  refine (HF1.out _).mono ?_;rintro e w1 ⟨rfl,hb1⟩;go_wp2
  go_returns
  exact aB (by rw [HS.out];simp) hb1
 ·go_enter Tryz.func155, Tryz.ntmps155
  go_wp2_with fail
  refine (HF2.out _).mono ?_;rintro e w1 ⟨rfl,hb1⟩;go_wp2
  go_returns
  exact aB (by rw [HS.out];simp) hb1
theorem Ja (a:Int) (h0:0≤a) (h1:a<4294967296) (w:World):Calls Tryz.prog 154 #[.int .i64 a] w (dG (.int .i64 (ni a)) w):=by
 have ha:=Kv a h0 h1;obtain ⟨b,hb⟩:∃ b,b=a % 65536:=⟨_,rfl⟩;have w1:IntKind.i64.wrap b=b:=IntWalk.i64_in _ (by omega);have w2:IntKind.i64.wrap (b+16384)=b+16384:=IntWalk.i64_in _ (by omega)
 have HS:Hid (∀ w,Calls Tryz.prog 155 #[.int .i64 (b+16384)] w (dG (.int .i64 (ni a)) w)):=fun w=>by
  rw [hb];exact zU (a % 65536+16384) (by omega) (by omega) w
 rw [← hb] at ha;clear hb h0 h1
 go_enter Tryz.func154,Tryz.ntmps154
 go_wp2_with fail
 refine (HS.out _).mono ?_;rintro e w1 ⟨rfl,hb1⟩;go_wp2
 go_returns
 exact aB rfl hb1

def mE (x y a:Int):Int:=dI (aX x (ni a)) (aX y (kZ a))
def mg (x y a:Int):Int:=bT (aX x (kZ a)) (aX y (ni a))
theorem rJ (x y a:Int) (h0:0≤a) (h1:a<4294967296) (w:World):Calls Tryz.prog 90 #[aR x y,.int .i64 a] w (dG (aR (mE x y a) (mg x y a)) w):=by
 obtain ⟨W,hW⟩:∃ W,W=(w.alloc (.cells #[.int .i64 x,.int .i64 y] 24)).alloc (.cells #[.int .i64 0,.int .i64 0] 24):=⟨_,rfl⟩;have HZ0:=hid (show VZ W (w.heap.size+1) by rw [hW];have:=VZ.here (w.alloc (.cells #[.int .i64 x,.int .i64 y] 24)) 0 0 24;simpa using this);have hB0:Below w.heap.size w W:=by rw [hW];go_grown
 have p0:W.cell? ⟨w.heap.size,0,none⟩=some (.int .i64 x):=by rw [hW];go_simp
 have p1:W.cell? ⟨w.heap.size,1,none⟩=some (.int .i64 y):=by rw [hW];go_simp
 have HC:=hid (Ja a h0 h1);have HS:=hid (zU a h0 h1);obtain ⟨cc,hcc⟩:∃ c,c=ni a:=⟨_,rfl⟩;obtain ⟨ss,hss⟩:∃ s,s=kZ a:=⟨_,rfl⟩;rw [← hcc] at HC;rw [← hss] at HS;have HCC:=hid hcc;have HSS:=hid hss;clear hcc hss
 go_enter Tryz.func90,Tryz.ntmps90
 go_wp2_with fail
 rw [← hW];clear hW;refine (HC.out _).mono ?_;rintro e w1 ⟨rfl,hb1⟩
 go_wp2_with fail
 refine (HS.out _).mono ?_;rintro e w2 ⟨rfl,hb2⟩;have HZ2:=hid (aG hb2 (aG hb1 HZ0.out));have hB2:=aj hb2 (aj hb1 hB0);replace p0:=keepCell hb2 (keepCell hb1 p0);replace p1:=keepCell hb2 (keepCell hb1 p1);clear hb1 hb2 HZ0 hB0 HC HS
 go_wp2_with fail
 refine wp_region_noPanic ?_;refine au (S:=(S2 (fun w'=>VZ w' (w.heap.size+1)∧Below w.heap.size w w'∧w'.cell? ⟨w.heap.size,0,none⟩=some (.int .i64 x)∧w'.cell? ⟨w.heap.size,1,none⟩=some (.int .i64 y)))) (T:=(fun j=>[0,0,0,0,0,0,0,0,0,0,0,0,0,0,0,0,0,0,0,1].getD j 0)) (by kernel_rfl) (aC ⟨HZ2.out.drew,hB2.drew,p0,p1⟩) (fun hH=>?_);have hWr1:aH (S2 (fun w'=>VZ w' (w.heap.size+1)∧Below w.heap.size w w'∧w'.cell? ⟨w.heap.size,0,none⟩=some (.int .i64 x)∧w'.cell? ⟨w.heap.size,1,none⟩=some (.int .i64 y))):=aK _;refine dn [(0,11),(1,12),(2,13),(4,15),(5,16),(6,17),(9,20),(10,21),(11,22),(13,24),(14,25),(15,26)] 8 0 0 (L':=?Lr1_1) hWr1 hH ?hyr1_1 ?_
 case hyr1_1=>((iterate 12 apply dA;rfl;kernel_rfl;intro w' hSw;replace hSw:=aA hSw;(try dsimp only at hSw);have q0:=hSw.1;have q1:=hSw.2.1;have q2:=hSw.2.2.1;have q3:=hSw.2.2.2;(try simp only [sB,sC]);go_simp;(try with_reducible rfl));exact dw)
 simp only [sB,sC];refine U1 3 0 rfl (fun K hK=>?_)
 try clear hb
 go_simp
 (go_at_call 52;refine (bM x cc _).mono ?_;rintro e wn ⟨rfl,hb⟩)
 refine hK.out _ _ ?hsr1_13 (fun hH2=>?hrr1_13)
 case hsr1_13=>exact aC (by have hG:=hH;replace hG:=aA hG;(try dsimp only at hG);have q0:=hG.1;have q1:=hG.2.1;have q2:=hG.2.2.1;have q3:=hG.2.2.2;exact ⟨aG hb q0,aj hb q1,keepCell hb q2,keepCell hb q3⟩)
 clear hK K hH;have hH:=hH2;clear hH2
 try simp only [Act.put,sA,sB,sC]
 refine U1 7 0 rfl (fun K hK=>?_)
 try clear hb
 go_simp
 (go_at_call 52;refine (bM y ss _).mono ?_;rintro e wn ⟨rfl,hb⟩)
 refine hK.out _ _ ?hsr1_14 (fun hH2=>?hrr1_14)
 case hsr1_14=>exact aC (by have hG:=hH;replace hG:=aA hG;(try dsimp only at hG);have q0:=hG.1;have q1:=hG.2.1;have q2:=hG.2.2.1;have q3:=hG.2.2.2;exact ⟨aG hb q0,aj hb q1,keepCell hb q2,keepCell hb q3⟩)
 clear hK K hH;have hH:=hH2;clear hH2
 try simp only [Act.put,sA,sB,sC]
 refine U1 8 0 rfl (fun K hK=>?_)
 try clear hb
 go_simp
 (go_at_call 40;refine (lH (aX x cc) (aX y ss) _).mono ?_;rintro e wn ⟨rfl,hb⟩)
 refine hK.out _ _ ?hsr1_15 (fun hH2=>?hrr1_15)
 case hsr1_15=>exact aC (by have hG:=hH;replace hG:=aA hG;(try dsimp only at hG);have q0:=hG.1;have q1:=hG.2.1;have q2:=hG.2.2.1;have q3:=hG.2.2.2;exact ⟨aG hb q0,aj hb q1,keepCell hb q2,keepCell hb q3⟩)
 clear hK K hH;have hH:=hH2;clear hH2
 try simp only [Act.put,sA,sB,sC]
 refine U1 12 0 rfl (fun K hK=>?_)
 try clear hb
 go_simp
 (go_at_call 52;refine (bM x ss _).mono ?_;rintro e wn ⟨rfl,hb⟩)
 refine hK.out _ _ ?hsr1_16 (fun hH2=>?hrr1_16)
 case hsr1_16=>exact aC (by have hG:=hH;replace hG:=aA hG;(try dsimp only at hG);have q0:=hG.1;have q1:=hG.2.1;have q2:=hG.2.2.1;have q3:=hG.2.2.2;exact ⟨aG hb q0,aj hb q1,keepCell hb q2,keepCell hb q3⟩)
 clear hK K hH;have hH:=hH2;clear hH2
 try simp only [Act.put,sA,sB,sC]
 refine U1 16 0 rfl (fun K hK=>?_)
 try clear hb
 go_simp
 (go_at_call 52;refine (bM y cc _).mono ?_;rintro e wn ⟨rfl,hb⟩)
 refine hK.out _ _ ?hsr1_17 (fun hH2=>?hrr1_17)
 case hsr1_17=>exact aC (by have hG:=hH;replace hG:=aA hG;(try dsimp only at hG);have q0:=hG.1;have q1:=hG.2.1;have q2:=hG.2.2.1;have q3:=hG.2.2.2;exact ⟨aG hb q0,aj hb q1,keepCell hb q2,keepCell hb q3⟩)
 clear hK K hH;have hH:=hH2;clear hH2
 try simp only [Act.put,sA,sB,sC]
 refine U1 17 0 rfl (fun K hK=>?_)
 try clear hb
 go_simp
 (go_at_call 153;refine (eH (aX x ss) (aX y cc) _).mono ?_;rintro e wn ⟨rfl,hb⟩)
 refine hK.out _ _ ?hsr1_18 (fun hH2=>?hrr1_18)
 case hsr1_18=>exact aC (by have hG:=hH;replace hG:=aA hG;(try dsimp only at hG);have q0:=hG.1;have q1:=hG.2.1;have q2:=hG.2.2.1;have q3:=hG.2.2.2;exact ⟨aG hb q0,aj hb q1,keepCell hb q2,keepCell hb q3⟩)
 clear hK K hH;have hH:=hH2;clear hH2
 try simp only [Act.put,sA,sB,sC]
 refine Ut 18 29 1 0 0 (v:=?vr1_19) rfl hWr1 hH ?hyr1_19 ?_
 case hyr1_19=>(intro w' hSw;clear hSw;go_simp;try (with_reducible rfl))
 simp only [sB,sC];refine U1 19 1 rfl (fun K hK=>?_);have hG:=hH;replace hG:=aA hG;(try dsimp only at hG);have q0:=hG.1;have q1:=hG.2.1;have q2:=hG.2.2.1;have q3:=hG.2.2.2;obtain ⟨⟨z0,z1,y0,y1⟩,yf⟩:=q0;go_simp;refine hK.out _ _ ?hsr1_20 (fun hH2=>?hrr1_20)
 case hsr1_20=>exact dY
 clear hK K hH;have hH:=hH2;clear hH2
 try simp only [Act.put,sA,sB,sC]
 refine ak (by kernel_rfl) ?_ _ _;refine NoPanic.normal ?_;go_wp2;refine bodyPost_ret (v:=aR (dI (aX x cc) (aX y ss)) (bT (aX x ss) (aX y cc))) (by simp [results,Tryz.results90,go_sem,y0,y1]) rfl ⟨by unfold mE mg;rw [HCC.out,HSS.out],by go_grown⟩
end
end Go.Proofs.YtokgmcomgflloaaGreat
