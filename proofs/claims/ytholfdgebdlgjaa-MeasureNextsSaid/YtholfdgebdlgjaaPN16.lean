/- Parts of a proof: Rq, LBou, Vh, Rx. No conditions. -/
import Derived.Test.YtholfdgebdlgjaaPN8
import Derived.Test.YtholfdgebdlgjaaPN10
import Derived.Test.YtholfdgebdlgjaaPN12
import Derived.Test.YtholfdgebdlgjaaPN13
import Derived.Test.YtholfdgebdlgjaaPN15
set_option linter.unusedVariables false
set_option linter.unusedSimpArgs false
namespace Go.Proofs.Ytholfdgebdlgjaa
open Go.RowKit
theorem R_wsub {P : Program} {ρ : Operand → Value} {o : Oper} {w : World} {x y : Operand} {t t' : TypeId} {k : IntKind} {n m : Int} (ho : o.op = .binOp .sub t x y t') (hx : ρ x = .int k n) (hy : ρ y = .int k m) : (execOp ρ o).run P w = .ok (.value (.int k (k.wrap (n - m)))) w:=by
 unfold execOp
 simp [ho,hx,hy,eqGuard,binOp,go_sem]
def lessW (n : Int) : Int:=IntKind.i64.wrap (n - 1)
theorem lessW_eq {n : Int} (h1 : -1000000 ≤ n) (h2 : n ≤ 1000000) : lessW n = n - 1:=by
 unfold lessW IntKind.wrap IntKind.bits IntKind.signed
 simp
 omega
def isMB (t : Tp) (s a : Int) : Bool:=decide (0 ≤ s ∧ s ≤ lessW t.S) && decide (0 ≤ a ∧ a ≤ lessW t.A)
theorem isMB_iff {t : Tp} (ok : t.Ok) {s a : Int} : isMB t s a = true ↔ 0 ≤ s ∧ s < t.S ∧ 0 ≤ a ∧ a < t.A:=by
 have o1:=ok.S1
 have o2:=ok.S3
 have o3:=ok.A1
 have o4:=ok.A3
 rw [isMB,lessW_eq (by omega) (by omega),lessW_eq (by omega) (by omega),Bool.and_eq_true,decide_eq_true_iff,decide_eq_true_iff]
 omega
def begE (t : Tp) (b : Bool) : Int:=if checkE t ≠ 0 then checkE t else if b = false then 3 else if bdB t 0 then 0 else 9
theorem begE_zero {t : Tp} {b : Bool} (h : begE t b = 0) : t.Live ∧ b = true:=by
 unfold begE at h
 by_cases c : checkE t = 0
 ·rw [if_neg (by omega)] at h
  cases b with
  | false=>rw [if_pos rfl] at h;exact absurd h (by decide)
  | true =>
   rw [if_neg (by decide)] at h
   cases hb : bdB t 0 with
   | false=>rw [hb] at h;exact absurd h (by decide)
   | true =>
    obtain ⟨ok,h8⟩:=checkE_zero.1 c
    exact ⟨live_of ok h8 hb,rfl⟩
 ·rw [if_pos c] at h;exact absurd h c
theorem firstE_03 : ∀ {es : List Int},(∀ e ∈ es,e = 0 ∨ e = 3) → firstE es = 0 ∨ firstE es = 3
 | [],_=>.inl rfl
 | e :: r,h=>by
  rcases h e (by simp) with h0 | h0
  ·rw [show firstE (e :: r) = firstE r by simp [firstE,h0]]
   exact firstE_03 fun x hx=>h x (by simp [hx])
  ·exact .inr (by simp [firstE,h0])
theorem askE_03 (t : Tp) (xs : Nat → List Int) (i : Nat) : askE t xs i = 0 ∨ askE t xs i = 3:=firstE_03 fun e he=>by
 obtain ⟨n,-,rfl⟩:=List.mem_map.1 he
 unfold knownE
 split
 ·exact .inl rfl
 ·exact .inr rfl
theorem askE_zero {t : Tp} {xs : Nat → List Int} {i : Nat} : askE t xs i = 0 ↔ ∀ n ∈ xs i,0 ≤ n ∧ n < lim t i:=by
 rw [askE,map_zero]
 exact ⟨fun h n hn=>knownE_zero.1 (h n hn),fun h n hn=>knownE_zero.2 (h n hn)⟩
theorem open_beg {t : Tp} (hc : checkE t = 0) (xs ys zs : List Int) {b : Bool} (hb : b = true ↔ (∀ n ∈ xs,0 ≤ n ∧ n < t.S) ∧ (∀ n ∈ ys,0 ≤ n ∧ n < t.A) ∧ ∀ n ∈ zs,0 ≤ n ∧ n < t.T) : openE t (sel3 xs ys zs) = if b = false then 3 else 0:=by
 have h03 : firstE ((List.range 3).map (askE t (sel3 xs ys zs))) = 0 ∨ firstE ((List.range 3).map (askE t (sel3 xs ys zs))) = 3:=firstE_03 fun e he=>by
  obtain ⟨i,-,rfl⟩:=List.mem_map.1 he
  exact askE_03 _ _ _
 have h0 : firstE ((List.range 3).map (askE t (sel3 xs ys zs))) = 0 ↔ b = true:=by
  rw [hb,map_zero]
  constructor
  ·intro h
   exact ⟨askE_zero.1 (h 0 (by decide)),askE_zero.1 (h 1 (by decide)),askE_zero.1 (h 2 (by decide))⟩
  ·rintro ⟨h1,h2,h3⟩ i hi
   have hi:=List.mem_range.1 hi
   rcases i with _ | _ | _ | i
   ·exact askE_zero.2 h1
   ·exact askE_zero.2 h2
   ·exact askE_zero.2 h3
   ·omega
 rw [openE,if_neg (by omega)]
 cases b with
 | true=>rw [if_neg (by decide)];exact h0.2 rfl
 | false =>
  rw [if_pos rfl]
  rcases h03 with h | h
  ·exact absurd (h0.1 h) (by decide)
  ·exact h
theorem solved_beg {t : Tp} (xs ys zs : List Int) {b : Bool} (hb : t.Ok → (b = true ↔ (∀ n ∈ xs,0 ≤ n ∧ n < t.S) ∧ (∀ n ∈ ys,0 ≤ n ∧ n < t.A) ∧ ∀ n ∈ zs,0 ≤ n ∧ n < t.T)) : solvedE t (sel3 xs ys zs) = begE t b:=by
 unfold begE
 by_cases c : checkE t = 0
 ·have ho:=open_beg c xs ys zs (hb (checkE_zero.1 c).1)
  rw [if_neg (by omega),solvedE,ho]
  cases b <;> simp
 ·rw [if_pos c,solvedE,openE,if_pos c,if_pos c]
theorem meas_beg (t : Tp) (s a : Int) : measE t s a = begE t (isMB t s a):=solved_beg [s] [a] [] fun ok=>by rw [isMB_iff ok];simp;omega
set_option maxRecDepth 100000 in
theorem refIs_any (t : Tp) (gv rv lv : Value) (s a : Int) (w : World) :
  Calls Try.prog 94 #[tpV t gv rv lv,.int .i64 s,.int .i64 a] w fun e w'=>e = .returned (.bool (isMB t s a)) ∧ Ext [] w w':=by
 have E : Ext [] w w:=Ext.refl _ _
 unfold tpV
 refine calls_has 19 Try.func94 rfl Try.ntmps94 (Nat.le_of_ble_eq_true rfl) ?_
 intro fa F
 refine wp_seq_k fun K1 hK1=>?_
 refine wp_region_lit ?_
 refine sq_new F rfl (by decide) rfl (R_box rfl (F.at rfl)) ?_;clear F fa;intro fa w1 F hw
 obtain ⟨n3,hn⟩ : ∃ n,n = w.heap.size:=⟨_,rfl⟩
 rw [← hn] at F
 have s3 : w.heap.size ≤ n3:=Nat.le_of_eq hn.symm
 have l3_E : w.heap.size ≤ n3:=by rw [hn];exact E.size
 replace E:=ext_alloc E hw
 have q3:=new_row hw hn
 clear hw hn
 refine F.vl (R_assign rfl (ev_c fa _)) ?_;clear F fa;intro fa F
 refine wpList_nil ?_
 refine hK1 _ _ ?_
 clear hK1
 refine wp_seq_k fun K2 hK2=>?_
 refine wp_region_lit ?_
 refine F.mv ?_;clear F fa;intro fa F
 refine F.vl (R_field rfl (F.at rfl) Try.underlying28 rfl (n:=0) (sz:=1) rfl (by kernel_rfl) (by decide)) ?_;clear F fa;intro fa F
 refine F.vl (R_load rfl (F.at rfl) Try.underlying3 rfl ((cells_of_block q3 0).trans (get0))) ?_;clear F fa;intro fa F
 refine F.vl ((R_wsub rfl (F.at rfl) (ev_c fa _))) ?_;clear F fa;intro fa F
 refine sq_call F rfl (by decide) rfl (R_callV rfl rfl Try.call98 (mpS (F.at rfl) (mpS (ev_c fa _) (mpS (F.at rfl) mp0)))) (refIn_any s 0 (lessW t.S) _) fun e w2 hR=>?_
 obtain ⟨rfl,e9⟩:=hR
 refine ⟨_,rfl,?_⟩;clear F fa;intro fa F
 replace q3:=(e9).keep0 q3
 replace E:=ext_same E (e9)
 clear e9
 refine F.mv ?_;clear F fa;intro fa F
 by_cases hg1 : (0 ≤ s ∧ s ≤ lessW t.S)
 ·skip
  replace F:=F.re (k:=12) rfl (congrArg Value.bool (decide_eq_true hg1))
  refine F.mv ?_ (hw:=(wantT F rfl rfl (by decide) rfl));clear F fa;intro fa F
  refine F.vl (R_field rfl (F.at rfl) Try.underlying28 rfl (n:=1) (sz:=1) rfl (by kernel_rfl) (by decide)) ?_ (hw:=(wantT F rfl rfl (by decide) rfl));clear F fa;intro fa F
  refine F.vl (R_load rfl (F.at rfl) Try.underlying3 rfl ((cells_of_block q3 1).trans (getS (get0)))) ?_ (hw:=(wantT F rfl rfl (by decide) rfl));clear F fa;intro fa F
  refine F.vl ((R_wsub rfl (F.at rfl) (ev_c fa _))) ?_ (hw:=(wantT F rfl rfl (by decide) rfl));clear F fa;intro fa F
  refine sq_call F rfl (by decide) (wantT F rfl rfl (by decide) rfl) (R_callV rfl rfl Try.call98 (mpS (F.at rfl) (mpS (ev_c fa _) (mpS (F.at rfl) mp0)))) (refIn_any a 0 (lessW t.A) _) fun e w3 hR=>?_
  obtain ⟨rfl,e9⟩:=hR
  refine ⟨_,rfl,?_⟩;clear F fa;intro fa F
  replace q3:=(e9).keep0 q3
  replace E:=ext_same E (e9)
  clear e9
  refine F.vl (R_pickT rfl (F.at rfl) (F.at rfl)) ?_;clear F fa;intro fa F
  refine F.as ?_;clear F fa;intro fa F
  refine wpList_nil ?_
  refine hK2 _ _ ?_
  clear hK2
  refine wp_ret ?_
  (try simp only [Exit.inBlock,Exit.then])
  refine rt_v F (rs_1 F rfl rfl) ?_
  exact ⟨by unfold isMB;first | (rw [decide_eq_true hg1];rfl) | (rw [decide_eq_false hg1];rfl),E⟩
 ·skip
  replace F:=F.re (k:=12) rfl (congrArg Value.bool (decide_eq_false hg1))
  refine sq_no F rfl (by decide) (wantF F rfl rfl (by decide) rfl (by decide)) ?_;clear F fa;intro fa F
  refine sq_no F rfl (by decide) (wantF F rfl rfl (by decide) rfl (by decide)) ?_;clear F fa;intro fa F
  refine sq_no F rfl (by decide) (wantF F rfl rfl (by decide) rfl (by decide)) ?_;clear F fa;intro fa F
  refine sq_no F rfl (by decide) (wantF F rfl rfl (by decide) rfl (by decide)) ?_;clear F fa;intro fa F
  refine sq_no F rfl (by decide) (wantF F rfl rfl (by decide) rfl (by decide)) ?_;clear F fa;intro fa F
  refine F.vl (R_pickF rfl (F.at rfl) (ev_c fa _)) ?_;clear F fa;intro fa F
  refine F.as ?_;clear F fa;intro fa F
  refine wpList_nil ?_
  refine hK2 _ _ ?_
  clear hK2
  refine wp_ret ?_
  (try simp only [Exit.inBlock,Exit.then])
  refine rt_v F (rs_1 F rfl rfl) ?_
  exact ⟨by unfold isMB;first | (rw [decide_eq_true hg1];rfl) | (rw [decide_eq_false hg1];rfl),E⟩
set_option maxRecDepth 100000 in
theorem refSpan_any {n : Nat} (hn : n ≤ 13) {oa : Option Addr} {oc : Nat} {va : Nat → Option Addr} {vc : Nat → Nat} {m : Nat → Nat → Int} {w : World} (h : MF w oa va vc n m) (x y : Nat) (hx : x < n) (hy : y < n) (l1 : -100000 ≤ m y x) (l2 : m y x ≤ 100000) :
  Calls Try.prog 95 #[.agg #[.slice oa n oc],.int .i64 x,.int .i64 y] w fun e w'=>e = .returned (.agg #[.int .i64 (-(m y x)),.int .i64 (m x y)]) ∧ Ext [] w w':=by
 have E : Ext [] w w:=Ext.refl _ _
 have HO:=Lib.hid h.o
 have HX:=Lib.hid (h.r x hx)
 have HY:=Lib.hid (h.r y hy)
 clear h
 refine calls_has 25 Try.func95 rfl Try.ntmps95 (Nat.le_of_ble_eq_true rfl) ?_
 intro fa F
 refine wp_seq_k fun K1 hK1=>?_
 refine wp_region_lit ?_
 refine sq_new F rfl (by decide) rfl (R_box rfl (F.at rfl)) ?_;clear F fa;intro fa w1 F hw
 obtain ⟨n3,hn⟩ : ∃ n,n = w.heap.size:=⟨_,rfl⟩
 rw [← hn] at F
 have s3 : w.heap.size ≤ n3:=Nat.le_of_eq hn.symm
 have l3_E : w.heap.size ≤ n3:=by rw [hn];exact E.size
 replace E:=ext_alloc E hw
 have q3:=new_row hw hn
 clear hw hn
 refine sq_new F rfl (by decide) rfl (R_alloc rfl Try.zeroValue23) ?_;clear F fa;intro fa w2 F hw
 obtain ⟨n6,hn⟩ : ∃ n,n = w1.heap.size:=⟨_,rfl⟩
 rw [← hn] at F
 have s6 : w1.heap.size ≤ n6:=Nat.le_of_eq hn.symm
 have l6_E : w.heap.size ≤ n6:=by rw [hn];exact E.size
 have m6_3 : n3 < n6:=by rw [hn];exact blk_lt q3
 replace q3:=keep_alloc hw q3
 replace E:=ext_alloc E hw
 have q6:=new_row hw hn
 clear hw hn
 refine wpList_nil ?_
 refine hK1 _ _ ?_
 clear hK1
 refine wp_seq_k fun K2 hK2=>?_
 refine wp_region_st 18 follows (by kernel_rfl) fun w3 hh eh=>?_
 replace q3:=keep_same hh q3
 replace q6:=keep_same hh q6
 replace E:=ext_same E eh
 clear hh eh
 refine F.sv (R_field rfl (F.at rfl) Try.underlying111 rfl (n:=0) (sz:=1) rfl (by kernel_rfl) (by decide)) ?_;clear F fa;intro fa F
 refine F.sv (R_load rfl (F.at rfl) Try.underlying50 rfl ((cells_of_block q3 0).trans (get0))) ?_;clear F fa;intro fa F
 refine F.smv ?_;clear F fa;intro fa F
 obtain ⟨xb3,xo3,xa3,xr3⟩:=HO.out y (by omega)
 refine F.sv (R_ixSlice (sz:=1) rfl ((F.at rfl).trans (xa3 _ _)) (F.at rfl) Try.underlying50 (by kernel_rfl) (by omega) (by omega)) ?_;clear F fa;intro fa F
 refine F.sv (R_load rfl (F.at rfl) Try.underlying29 rfl (xr3 _ E 0 _ rfl)) ?_;clear F fa;intro fa F
 refine F.smv ?_;clear F fa;intro fa F
 obtain ⟨xb4,xo4,xa4,xr4⟩:=HY.out x (by omega)
 refine F.sv (R_ixSlice (sz:=1) rfl ((F.at rfl).trans (xa4 _ _)) (F.at rfl) Try.underlying29 (by kernel_rfl) (by omega) (by omega)) ?_;clear F fa;intro fa F
 refine F.sv (R_load rfl (F.at rfl) Try.underlying3 rfl (xr4 _ E 0 _ rfl)) ?_;clear F fa;intro fa F
 refine F.sv (R_neg rfl (F.at rfl) (by omega) (by omega)) ?_;clear F fa;intro fa F
 refine F.sv (R_field rfl (F.at rfl) Try.underlying111 rfl (n:=0) (sz:=1) rfl (by kernel_rfl) (by decide)) ?_;clear F fa;intro fa F
 refine F.sv (R_load rfl (F.at rfl) Try.underlying50 rfl ((cells_of_block q3 0).trans (get0))) ?_;clear F fa;intro fa F
 refine F.smv ?_;clear F fa;intro fa F
 obtain ⟨xb5,xo5,xa5,xr5⟩:=HO.out x (by omega)
 refine F.sv (R_ixSlice (sz:=1) rfl ((F.at rfl).trans (xa5 _ _)) (F.at rfl) Try.underlying50 (by kernel_rfl) (by omega) (by omega)) ?_;clear F fa;intro fa F
 refine F.sv (R_load rfl (F.at rfl) Try.underlying29 rfl (xr5 _ E 0 _ rfl)) ?_;clear F fa;intro fa F
 refine F.smv ?_;clear F fa;intro fa F
 obtain ⟨xb6,xo6,xa6,xr6⟩:=HX.out y (by omega)
 refine F.sv (R_ixSlice (sz:=1) rfl ((F.at rfl).trans (xa6 _ _)) (F.at rfl) Try.underlying29 (by kernel_rfl) (by omega) (by omega)) ?_;clear F fa;intro fa F
 refine F.sv (R_load rfl (F.at rfl) Try.underlying3 rfl (xr6 _ E 0 _ rfl)) ?_;clear F fa;intro fa F
 refine F.sv (R_buildV rfl (prS (F.at rfl) (prS (F.at rfl) pr0)) (cells:=#[.int .i64 (-(m y x)),.int .i64 (m x y)]) (by kernel_rfl)) ?_;clear F fa;intro fa F
 refine wpStill_nil ?_
 refine sq_to rfl rfl (R_storeRow rfl (F.at rfl) (F.at rfl) (by kernel_rfl) (by first | (simp [Value.oneCell'];done) | (simp [Value.oneCell',grRow,rdRow,lkRow];done)) q6 rfl) ?_;intro w4 hw
 replace q3:=keep_cells hw q3 (by omega)
 replace q6:=put_row hw q6 rfl
 replace E:=ext_cells E hw (fun h=>by first | exact absurd h (by omega) | simp)
 clear hw
 refine wpList_nil ?_
 refine hK2 _ _ ?_
 clear hK2
 refine wp_ret ?_
 (try simp only [Exit.inBlock,Exit.then])
 refine rt_v F (rs_c F rfl rfl Try.underlying23 rfl (by kernel_rfl) q6) ?_
 exact ⟨rfl,E⟩
def BegPost (t : Tp) (n : Nat) (b : Bool) (w : World) (e : Ending) (w' : World) : Prop:=∃ oa k oc va vc,e = .returned (.tuple #[.agg #[.slice oa k oc],.int .i64 (begE t b)]) ∧ (begE t b = 0 → k = n) ∧ IsM w' w.heap.size oa oc va vc k (kTt n (looseR t) n) ∧ Ext [] w w'
set_option maxRecDepth 100000 in
theorem refBegin_any (t : Tp) {n : Nat} (hn : t.Ok → (n : Int) = 1 + t.S * t.A + t.T) (b : Bool) (ga ra la : Option Addr) (gc rc lc : Nat) (w : World) (ht : IsTp w (.slice ga t.gr.length gc) (.slice ra t.rd.length rc) (.slice la t.lk.length lc) t) (l1 : t.gr.length ≤ 1000) (l2 : t.rd.length ≤ 1000) (l3 : t.lk.length ≤ 1000) :
  Calls Try.prog 93 #[tpV t (.slice ga t.gr.length gc) (.slice ra t.rd.length rc) (.slice la t.lk.length lc),.bool b] w (BegPost t n b w):=by
 have E : Ext [] w w:=Ext.refl _ _
 have HT:=Lib.hid ht
 clear ht
 unfold tpV
 refine calls_has 27 Try.func93 rfl Try.ntmps93 (Nat.le_of_ble_eq_true rfl) ?_
 intro fa F
 refine wp_seq_k fun K1 hK1=>?_
 refine wp_region_lit ?_
 refine sq_new F rfl (by decide) rfl (R_box rfl (F.at rfl)) ?_;clear F fa;intro fa w1 F hw
 obtain ⟨n2,hn⟩ : ∃ n,n = w.heap.size:=⟨_,rfl⟩
 rw [← hn] at F
 have s2 : w.heap.size ≤ n2:=Nat.le_of_eq hn.symm
 have l2_E : w.heap.size ≤ n2:=by rw [hn];exact E.size
 replace E:=ext_alloc E hw
 have q2:=new_row hw hn
 clear hw hn
 refine sq_new F rfl (by decide) rfl (R_alloc rfl Try.zeroValue111) ?_;clear F fa;intro fa w2 F hw
 obtain ⟨n4,hn⟩ : ∃ n,n = w1.heap.size:=⟨_,rfl⟩
 rw [← hn] at F
 have s4 : w1.heap.size ≤ n4:=Nat.le_of_eq hn.symm
 have l4_E : w.heap.size ≤ n4:=by rw [hn];exact E.size
 have m4_2 : n2 < n4:=by rw [hn];exact blk_lt q2
 replace q2:=keep_alloc hw q2
 replace E:=ext_alloc E hw
 have q4:=new_row hw hn
 clear hw hn
 refine F.vl (R_assign rfl (ev_c fa _)) ?_;clear F fa;intro fa F
 refine wpList_nil ?_
 refine hK1 _ _ ?_
 clear hK1
 refine wp_seq_k fun K2 hK2=>?_
 refine wp_seq_k fun K3 hK3=>?_
 refine wp_region_lit ?_
 refine F.vl (R_loadBlk rfl (F.at rfl) Try.underlying28 rfl (by kernel_rfl) q2) ?_;clear F fa;intro fa F
 refine sq_call F rfl (by decide) rfl (R_callV rfl rfl Try.call32 (mpS (F.at rfl) mp0)) (refCheck_any t ga ra la gc rc lc _ (HT.out.ext E (by simp)) l1 l2 l3) fun e w3 hR=>?_
 obtain ⟨rfl,e9⟩:=hR
 refine ⟨_,rfl,?_⟩;clear F fa;intro fa F
 replace q2:=(e9).keep0 q2
 replace q4:=(e9).keep0 q4
 replace E:=ext_same E (e9)
 clear e9
 refine F.as ?_;clear F fa;intro fa F
 refine wpList_nil ?_
 refine hK3 _ _ ?_
 clear hK3
 refine wp_seq_k fun K4 hK4=>?_
 refine wp_region_lit ?_
 refine F.mv ?_;clear F fa;intro fa F
 refine F.vl (R_neqD rfl (F.at rfl) (ev_c fa _)) ?_;clear F fa;intro fa F
 refine wpList_nil ?_
 refine hK4 _ _ ?_
 clear hK4
 refine cd_if F rfl (fun hc12=>?_) (fun hc12=>?_)
 ·skip
  refine wp_seq_k fun K5 hK5=>?_
  refine wp_region_lit ?_
  refine F.vl (R_buildV rfl pr0 (cells:=#[.slice none 0 0]) (by kernel_rfl)) ?_;clear F fa;intro fa F
  refine F.mv ?_;clear F fa;intro fa F
  refine sq_to rfl rfl (R_storeRow rfl (F.at rfl) (F.at rfl) (by kernel_rfl) (by first | (simp [Value.oneCell'];done) | (simp [Value.oneCell',grRow,rdRow,lkRow];done)) q4 rfl) ?_;intro w4 hw
  replace q2:=keep_cells hw q2 (by omega)
  replace q4:=put_row hw q4 rfl
  replace E:=ext_cells E hw (fun h=>by first | exact absurd h (by omega) | simp)
  clear hw
  refine F.as ?_;clear F fa;intro fa F
  refine wpList_nil ?_
  refine hK5 _ _ ?_
  clear hK5
  refine wp_ret ?_
  (try simp only [Exit.inBlock,Exit.then])
  refine rt_v F (rs_ct F rfl rfl rfl Try.underlying111 rfl (by kernel_rfl) q4) ?_
  exact ⟨none,0,0,fun _=>none,fun _=>0,by rw [show begE t b = checkE t from if_pos hc12],fun h=>absurd ((if_pos hc12).symm.trans h) hc12,ism_nil _ _ _,E⟩
 ·skip
  refine wp_skip ?_
  refine hK2 _ _ ?_
  clear hK2
  refine wp_seq_k fun K6 hK6=>?_
  refine wp_seq_k fun K7 hK7=>?_
  refine wp_region_lit ?_
  refine F.mv ?_;clear F fa;intro fa F
  refine F.vl (R_not rfl (F.at rfl)) ?_;clear F fa;intro fa F
  refine wpList_nil ?_
  refine hK7 _ _ ?_
  clear hK7
  refine cd_b F rfl (fun hc16=>?_) (fun hc16=>?_)
  ·skip
   refine wp_seq_k fun K8 hK8=>?_
   refine wp_region_lit ?_
   refine F.vl (R_buildV rfl pr0 (cells:=#[.slice none 0 0]) (by kernel_rfl)) ?_;clear F fa;intro fa F
   refine sq_to rfl rfl (R_storeRow rfl (F.at rfl) (F.at rfl) (by kernel_rfl) (by first | (simp [Value.oneCell'];done) | (simp [Value.oneCell',grRow,rdRow,lkRow];done)) q4 rfl) ?_;intro w5 hw
   replace q2:=keep_cells hw q2 (by omega)
   replace q4:=put_row hw q4 rfl
   replace E:=ext_cells E hw (fun h=>by first | exact absurd h (by omega) | simp)
   clear hw
   refine F.vl (R_assign rfl (ev_c fa _)) ?_;clear F fa;intro fa F
   refine wpList_nil ?_
   refine hK8 _ _ ?_
   clear hK8
   refine wp_ret ?_
   (try simp only [Exit.inBlock,Exit.then])
   refine rt_v F (rs_ct F rfl rfl rfl Try.underlying111 rfl (by kernel_rfl) q4) ?_
   exact ⟨none,0,0,fun _=>none,fun _=>0,by rw [show begE t b = 3 by unfold begE;rw [if_neg hc12,if_pos (by simpa using hc16)]],fun h=>absurd ((show begE t b = 3 by unfold begE;rw [if_neg hc12,if_pos (by simpa using hc16)]).symm.trans h) (by decide),ism_nil _ _ _,E⟩
  ·skip
   refine wp_skip ?_
   refine hK6 _ _ ?_
   clear hK6
   refine wp_seq_k fun K9 hK9=>?_
   have hc0 : checkE t = 0:=by omega
   obtain ⟨ok,h8⟩:=checkE_zero.1 hc0
   refine wp_region_lit ?_
   refine F.vl (R_loadBlk rfl (F.at rfl) Try.underlying28 rfl (by kernel_rfl) q2) ?_;clear F fa;intro fa F
   have hle:=E.size
   refine sq_call F rfl (by decide) rfl (R_callV rfl rfl Try.call81 (mpS (F.at rfl) mp0)) (refNarrow_any ok (hn ok) ga ra la gc rc lc _ (HT.out.ext E (by simp))) fun e w6 hR=>?_
   obtain ⟨oa,oc,va,vc,rfl,ism,eX⟩:=hR
   refine ⟨_,rfl,?_⟩;clear F fa;intro fa F
   replace q2:=(eX).keep0 q2
   replace q4:=(eX).keep0 q4
   replace E:=ext_same E (eX)
   replace ism:=ism_lower ism hle
   refine F.mv ?_;clear F fa;intro fa F
   refine F.vl (R_extract rfl (F.at rfl) (get0)) ?_;clear F fa;intro fa F
   refine F.vl (R_extract rfl (F.at rfl) (getS (get0))) ?_;clear F fa;intro fa F
   refine sq_new F rfl (by decide) rfl (R_alloc rfl Try.zeroValue111) ?_;clear F fa;intro fa w7 F hw
   obtain ⟨n7,hn⟩ : ∃ n,n = w6.heap.size:=⟨_,rfl⟩
   rw [← hn] at F
   have s7 : w6.heap.size ≤ n7:=Nat.le_of_eq hn.symm
   have l7_E : w.heap.size ≤ n7:=by rw [hn];exact E.size
   have m7_2 : n2 < n7:=by rw [hn];exact blk_lt q2
   have m7_4 : n4 < n7:=by rw [hn];exact blk_lt q4
   replace ism:=ism_lift ism (fun _ _ _ h=>owns_alloc hw h) (fun _ _ _ h=>owns_alloc hw h)
   replace q2:=keep_alloc hw q2
   replace q4:=keep_alloc hw q4
   replace E:=ext_alloc E hw
   have q7:=new_row hw hn
   clear hw hn
   refine sq_to rfl rfl (R_storeRow rfl (F.at rfl) (F.at rfl) (by kernel_rfl) (by first | (simp [Value.oneCell'];done) | (simp [Value.oneCell',grRow,rdRow,lkRow];done)) q7 rfl) ?_;intro w8 hw
   replace ism:=ism_lift ism (fun _ _ _ h=>owns_cellsX hw h (own_ne_type h q7 (by decide))) (fun _ _ _ h=>owns_cellsX hw h (own_ne_type h q7 (by decide)))
   replace q2:=keep_cells hw q2 (by omega)
   replace q4:=keep_cells hw q4 (by omega)
   replace q7:=put_row hw q7 rfl
   replace E:=ext_cells E hw (fun h=>by first | exact absurd h (by omega) | simp)
   clear hw
   refine F.as ?_;clear F fa;intro fa F
   refine wpList_nil ?_
   refine hK9 _ _ ?_
   clear hK9
   refine wp_seq_k fun K10 hK10=>?_
   refine wp_seq_k fun K11 hK11=>?_
   refine wp_region_lit ?_
   refine F.mv ?_;clear F fa;intro fa F
   refine F.vl (R_not rfl (F.at rfl)) ?_;clear F fa;intro fa F
   refine wpList_nil ?_
   have hbt : b = true:=by simpa using hc16
   refine hK11 _ _ ?_
   clear hK11
   refine cd_b F rfl (fun hc24=>?_) (fun hc24=>?_)
   ·skip
    refine wp_seq_k fun K12 hK12=>?_
    refine wp_region_lit ?_
    refine F.vl (R_buildV rfl pr0 (cells:=#[.slice none 0 0]) (by kernel_rfl)) ?_;clear F fa;intro fa F
    refine sq_to rfl rfl (R_storeRow rfl (F.at rfl) (F.at rfl) (by kernel_rfl) (by first | (simp [Value.oneCell'];done) | (simp [Value.oneCell',grRow,rdRow,lkRow];done)) q4 rfl) ?_;intro w9 hw
    replace ism:=ism_lift ism (fun _ _ _ h=>owns_cellsX hw h (own_ne_type h q4 (by decide))) (fun _ _ _ h=>owns_cellsX hw h (own_ne_type h q4 (by decide)))
    replace q2:=keep_cells hw q2 (by omega)
    replace q4:=put_row hw q4 rfl
    replace q7:=keep_cells hw q7 (by omega)
    replace E:=ext_cells E hw (fun h=>by first | exact absurd h (by omega) | simp)
    clear hw
    refine F.vl (R_assign rfl (ev_c fa _)) ?_;clear F fa;intro fa F
    refine wpList_nil ?_
    refine hK12 _ _ ?_
    clear hK12
    refine wp_ret ?_
    (try simp only [Exit.inBlock,Exit.then])
    refine rt_v F (rs_ct F rfl rfl rfl Try.underlying111 rfl (by kernel_rfl) q4) ?_
    exact ⟨none,0,0,fun _=>none,fun _=>0,by rw [show begE t b = 9 by unfold begE;rw [if_neg hc12,if_neg (by rw [hbt];decide),show bdB t 0 = false by simpa using hc24];rfl],fun h=>absurd ((show begE t b = 9 by unfold begE;rw [if_neg hc12,if_neg (by rw [hbt];decide),show bdB t 0 = false by simpa using hc24];rfl).symm.trans h) (by decide),ism_nil _ _ _,E⟩
   ·skip
    refine wp_skip ?_
    refine hK10 _ _ ?_
    clear hK10
    refine wp_seq_k fun K13 hK13=>?_
    refine wp_region_lit ?_
    refine F.vl (R_loadBlk rfl (F.at rfl) Try.underlying111 rfl (by kernel_rfl) q7) ?_;clear F fa;intro fa F
    refine sq_to rfl rfl (R_storeRow rfl (F.at rfl) (F.at rfl) (by kernel_rfl) (by first | (simp [Value.oneCell'];done) | (simp [Value.oneCell',grRow,rdRow,lkRow];done)) q4 rfl) ?_;intro w10 hw
    replace ism:=ism_lift ism (fun _ _ _ h=>owns_cellsX hw h (own_ne_type h q4 (by decide))) (fun _ _ _ h=>owns_cellsX hw h (own_ne_type h q4 (by decide)))
    replace q2:=keep_cells hw q2 (by omega)
    replace q4:=put_row hw q4 rfl
    replace q7:=keep_cells hw q7 (by omega)
    replace E:=ext_cells E hw (fun h=>by first | exact absurd h (by omega) | simp)
    clear hw
    refine F.vl (R_assign rfl (ev_c fa _)) ?_;clear F fa;intro fa F
    refine wpList_nil ?_
    refine hK13 _ _ ?_
    clear hK13
    refine wp_ret ?_
    (try simp only [Exit.inBlock,Exit.then])
    refine rt_v F (rs_ct F rfl rfl rfl Try.underlying111 rfl (by kernel_rfl) q4) ?_
    exact ⟨oa,n,oc,va,vc,by rw [show begE t b = 0 by unfold begE;rw [if_neg hc12,if_neg (by rw [hbt];decide),show bdB t 0 = true by simpa using hc24];rfl],fun _=>rfl,ism,E⟩
theorem nR_13 {t : Tp} (ok : t.Ok) {n : Nat} (hn : (n : Int) = 1 + t.S * t.A + t.T) : n ≤ 13 ∧ 0 < n:=by
 have:=ok_prod ok
 have:=ok.T3
 have:=ok.T1
 omega
theorem rn_lt {t : Tp} (ok : t.Ok) {n : Nat} (hn : (n : Int) = 1 + t.S * t.A + t.T) {s a : Int} (s0 : 0 ≤ s) (s1 : s < t.S) (a0 : 0 ≤ a) (a1 : a < t.A) : rnI t s a < n:=by
 obtain ⟨e1,e2,e3,e4⟩:=rn_eq ok s0 s1 a0 a1
 have:=ok.T1
 omega
theorem rp_lt {t : Tp} (ok : t.Ok) {n : Nat} (hn : (n : Int) = 1 + t.S * t.A + t.T) {i : Int} (i0 : 0 ≤ i) (i1 : i < t.T) : rpI t i < n:=by
 obtain ⟨e1,e2,e3⟩:=rp_eq ok i0
 omega
theorem row_ext {w W : World} {a : Option Addr} {n c : Nat} {zs : List Int} (h : IsRow .i64 w a n c zs) (e : Ext [] w W) : IsRow .i64 W a n c zs:=by
 rcases h with h | ⟨x,rfl,hl,hm,hz,hc,hw⟩
 ·exact .inl h
 ·refine .inr ⟨x,rfl,hl,hm,hz,fun i hi=>?_,hw⟩
  have:=hc i hi
  have hb : (x.add i).block < w.heap.size:=by
   unfold World.cell? at this
   cases hq : w.heap[(x.add i).block]? with
   | none=>simp [hq] at this
   | some o=>exact (Array.getElem?_eq_some_iff.1 hq).1
  rw [e.cell hb (by simp)]
  exact this
theorem node_n (t : Tp) : ∃ n : Nat,t.Ok → (n : Int) = 1 + t.S * t.A + t.T:=⟨(1 + t.S * t.A + t.T).toNat,fun ok=>by have:=ok_prod ok;have:=ok.T1;omega⟩
theorem Tp.Live.between {t : Tp} (h : t.Live) {i j : Nat} (hi : i < 13) (hj : j < 13) {n : Int} (h1 : -(bdV t 0 j i) ≤ n) (h2 : n ≤ bdV t 0 i j) : ∃ x,Tr t 0 x ∧ x j - x i = n:=by
 obtain ⟨y,hy⟩:=h.some
 rw [bdV_some hy] at h1 h2
 have hc:=closed_of_round (fun p _=>by rw [(small_loose h.ok 0).2 p];exact Int.le_refl _) hy
 have zi:=(bd_reach h.ok hy hi).2
 have zj:=(bd_reach h.ok hy hj).2
 refine ⟨fun k=>min (y i k) (n + y j k),((sol_loose h.ok 0).1 (sol_back hy (fun p q hp hq=>?_))).2,?_⟩
 ·have a:=hc.2 p i q hp hi hq
  have b:=hc.2 p j q hp hj hq
  show min (y i q) (n + y j q) - min (y i p) (n + y j p) ≤ y p q
  omega
 ·show min (y i j) (n + y j j) - min (y i i) (n + y j i) = n
  omega
theorem Tr.shift {t : Tp} {x : Nat → Int} (h : Tr t 0 x) (c : Int) : Tr t 0 (fun k=>x k + c):=
 ⟨fun s a hs ha=>by
  have q:=h.cell s a hs ha
  have q1:=q.lo
  have q2:=q.hi
  refine ⟨by show _ ≤ (x _ + c) - (x _ + c);omega,by show (x _ + c) - (x _ + c) ≤ _;omega,fun h0=>?_,fun h0=>?_⟩
  ·have:=q.glo h0
   show _ ≤ (x _ + c) - (x _ + c)
   omega
  ·have:=q.ghi h0
   show (x _ + c) - (x _ + c) ≤ _
   omega,
 fun i hi=>by
  have q:=h.tail i hi
  have q1:=q.lo
  have q2:=q.hi
  exact ⟨by show _ ≤ (x _ + c) - (x _ + c);omega,by show (x _ + c) - (x _ + c) ≤ _;omega⟩,
 fun i hi hb=>by
  have q:=h.read i hi hb
  have q1:=q.lo
  have q2:=q.hi
  exact ⟨by show _ ≤ (x _ + c) - (x _ + c);omega,by show (x _ + c) - (x _ + c) ≤ _;omega⟩,
 fun i hi=>by
  have q:=h.link i hi
  have q1:=q.lo
  have q2:=q.hi
  exact ⟨by show _ ≤ (x _ + c) - (x _ + c);omega,by show (x _ + c) - (x _ + c) ≤ _;omega⟩⟩
theorem ref_bd9 {t : Tp} (ok : t.Ok) (hb : bdB t 0 = true) {n : Nat} (hn : (n : Int) = 1 + t.S * t.A + t.T) {i j : Nat} (hi : i < n) (hj : j < n) : kTt n (looseR t) n i j = bdV t 0 (phi_ t j) (phi_ t i):=by
 have hy:=bdB_get hb
 have hd:=(ref_iff ok hn).2 hb
 have lj:=phi_live ok hn hj
 have t1 : ∀ x,Tr t 0 x → x (phi_ t i) - x (phi_ t j) ≤ bdV t 0 (phi_ t j) (phi_ t i):=fun x hx=>bd_le ok hy hx lj (phi_live ok hn hi)
 obtain ⟨x,hx,e⟩ : ∃ x,Tr t 0 x ∧ x (phi_ t i) - x (phi_ t j) = bdV t 0 (phi_ t j) (phi_ t i):=⟨_,(bd_reach ok hy (live_lt ok lj)).1,by rw [(bd_reach ok hy (live_lt ok lj)).2];omega⟩
 have a:=solN_kTt (tr_solR ok hn hx) n (Nat.le_refl _) i j hi hj
 have hR:=kTt_reach hd hi
 have b:=t1 _ ((solR_loose ok hn).1 hR).2
 rw [yOf_phi ok hn _ hi,yOf_phi ok hn _ hj] at b
 have z1:=hd i hi
 have z2:=kTt_le n (looseR t) i i n
 have z3:=(looseR_sm ok i i).2.2
 simp only at a b
 omega
theorem near9 {t : Tp} (ok : t.Ok) (hb : bdB t 0 = true) {i j : Nat} (hi : live t i) (hj : live t j) : -2000 ≤ bdV t 0 i j ∧ bdV t 0 i j ≤ 2000:=by
 have hy:=bdB_get hb
 obtain ⟨r1,r2⟩:=bd_reach ok hy (live_lt ok hi)
 have a:=r1.near ok hj
 have b:=r1.near ok hi
 try simp only at a b
 omega
theorem ref_at9 {t : Tp} (ok : t.Ok) (hb : bdB t 0 = true) {n : Nat} (hn : (n : Int) = 1 + t.S * t.A + t.T) {i j : Nat} (hi : i < n) (hj : j < n) : kTt n (looseR t) n i j = bdV t 0 (phi_ t j) (phi_ t i) ∧ -100000 ≤ kTt n (looseR t) n i j ∧ kTt n (looseR t) n i j ≤ 100000:=by
 have e:=ref_bd9 ok hb hn hi hj
 have:=near9 ok hb (phi_live ok hn hj) (phi_live ok hn hi)
 exact ⟨e,by omega,by omega⟩
def mxF (t : Tp) (s a : Int) (i : Nat) (lo : Int) : Nat → Int
 | 0=>0
 | k + 1=>max (mxF t s a i lo k) (numB (addR t (s,a,i,lo + k)) (nodeC s a))
theorem mxF_le (t : Tp) (s a : Int) (i : Nat) (lo : Int) (k : Nat) : ∀ n,mxF t s a i lo k ≤ mxF t s a i lo (k + n)
 | 0=>Int.le_refl _
 | n + 1=>by
  have:=mxF_le t s a i lo k n
  have e : mxF t s a i lo (k + (n + 1)) = max (mxF t s a i lo (k + n)) (numB (addR t (s,a,i,lo + (k + n : Nat))) (nodeC s a)):=rfl
  omega
theorem nxt1_mx {t : Tp} {s a : Int} {i : Nat} {lo left : Int} : ∀ (n k : Nat),(∀ j : Nat,k ≤ j → j < k + n → bdB (addR t (s,a,i,lo + j)) 0 = true) → mxF t s a i lo k < left →
  nxt1 t s a i left n (lo + k) (mxF t s a i lo k) = if left ≤ mxF t s a i lo (k + n) then none else some (mxF t s a i lo (k + n))
 | 0,k,_,h=>by rw [nxt1,Nat.add_zero,if_neg (by omega)]
 | n + 1,k,hb,h=>by
  have e : max (mxF t s a i lo k) (numB (addR t (s,a,i,lo + k)) (nodeC s a)) = mxF t s a i lo (k + 1):=rfl
  have hl:=mxF_le t s a i lo (k + 1) n
  have e3 : k + 1 + n = k + (n + 1):=by omega
  rw [e3] at hl
  rw [nxt1,if_pos (hb k (Nat.le_refl _) (by omega)),e]
  by_cases c : left ≤ mxF t s a i lo (k + 1)
  ·rw [if_pos c,if_pos (show left ≤ mxF t s a i lo (k + (n + 1)) by omega)]
  ·have ih:=nxt1_mx (left:=left) n (k + 1) (fun j h1 h2=>hb j (by omega) (by omega)) (by omega)
   rw [e3,show lo + ((k + 1 : Nat) : Int) = lo + k + 1 by omega] at ih
   rw [if_neg c,ih]
theorem next_sat {t : Tp} (h : t.Live) {s a i : Nat} (hs : (s : Int) < t.S) (ha : (a : Int) < t.A) (hi : (i : Int) < t.T) {tape : Int} (h1 : nxtLo t s a i ≤ tape) (h2 : tape ≤ nxtHi t s a i) :
  (addR t (s,a,i,tape)).Ok ∧ bdB (addR t (s,a,i,tape)) 0 = true:=by
 have ok:=h.ok
 have hsum:=sum_bd ok h.bdB hs ha hi
 have s0:=ok.sl0
 have s5:=ok.sl5
 unfold nxtLo at h1
 unfold nxtHi at h2
 have okR:=addR_ok ok h.rd8 (s:=(s : Int)) (a:=(a : Int)) (i:=(i : Int)) (tape:=tape) ⟨by omega,hs⟩ ⟨by omega,ha⟩ ⟨by omega,hi⟩ ⟨by omega,by omega⟩
 refine ⟨okR,(bdB_iffO okR 0).2 ?_⟩
 have hle : -(bdV t 0 (nodeC s a) (nodeT i)) ≤ bdV t 0 (nodeT i) (nodeC s a):=by
  obtain ⟨x,hx⟩:=h.tr
  have a1:=(h.top (live_cell hs ha) (live_tail hi)).1 x hx
  have a2:=(h.top (live_tail hi) (live_cell hs ha)).1 x hx
  omega
 obtain ⟨x,hx,e⟩:=h.between (i:=nodeT i) (j:=nodeC s a) (n:=max (-(bdV t 0 (nodeC s a) (nodeT i))) (min tape (bdV t 0 (nodeT i) (nodeC s a)))) (live_lt ok (live_tail hi)) (live_lt ok (live_cell hs ha)) (by omega) (by omega)
 exact ⟨x,addR_tr.2 ⟨hx,⟨by simp only;omega,by simp only;omega⟩⟩⟩
theorem numB_pos {t : Tp} (ok : t.Ok) (hb : bdB t 0 = true) {s a : Nat} (hs : (s : Int) < t.S) (ha : (a : Int) < t.A) : 1 ≤ numB t (nodeC s a):=by
 have hy:=bdB_get hb
 obtain ⟨x,hx⟩:=(bdB_iffO ok 0).1 hb
 have a1:=bd_le ok hy hx (live_cell hs ha) (live_zero t)
 have a2:=bd_le ok hy hx (live_zero t) (live_cell hs ha)
 unfold numB
 omega
theorem refNumbers_any (lo hi n : Int) (hn : n = hi - lo + 1) (w : World) (l1 : -1000000 ≤ lo) (l2 : lo ≤ 1000000) (l3 : -1000000 ≤ hi) (l4 : hi ≤ 1000000) :
  Calls Try.prog 103 #[.agg #[.int .i64 lo,.int .i64 hi]] w fun e w'=>e = .returned (.int .i64 n) ∧ Ext [] w w':=by
 have E : Ext [] w w:=Ext.refl _ _
 subst hn
 refine calls_has 9 Try.func103 rfl Try.ntmps103 (Nat.le_of_ble_eq_true rfl) ?_
 intro fa F
 refine wp_seq_k fun K1 hK1=>?_
 refine wp_region_lit ?_
 refine sq_new F rfl (by decide) rfl (R_box rfl (F.at rfl)) ?_;clear F fa;intro fa w1 F hw
 obtain ⟨n1,hn⟩ : ∃ n,n = w.heap.size:=⟨_,rfl⟩
 rw [← hn] at F
 have s1 : w.heap.size ≤ n1:=Nat.le_of_eq hn.symm
 have l1_E : w.heap.size ≤ n1:=by rw [hn];exact E.size
 replace E:=ext_alloc E hw
 have q1:=new_row hw hn
 clear hw hn
 refine F.vl (R_assign rfl (ev_c fa _)) ?_;clear F fa;intro fa F
 refine wpList_nil ?_
 refine hK1 _ _ ?_
 clear hK1
 refine wp_seq_k fun K2 hK2=>?_
 refine wp_region_lit ?_
 refine F.vl (R_field rfl (F.at rfl) Try.underlying23 rfl (n:=1) (sz:=1) rfl (by kernel_rfl) (by decide)) ?_;clear F fa;intro fa F
 refine F.vl (R_load rfl (F.at rfl) Try.underlying3 rfl ((cells_of_block q1 1).trans (getS (get0)))) ?_;clear F fa;intro fa F
 refine F.vl (R_field rfl (F.at rfl) Try.underlying23 rfl (n:=0) (sz:=1) rfl (by kernel_rfl) (by decide)) ?_;clear F fa;intro fa F
 refine F.vl (R_load rfl (F.at rfl) Try.underlying3 rfl ((cells_of_block q1 0).trans (get0))) ?_;clear F fa;intro fa F
 refine F.vl (R_sub rfl (F.at rfl) (F.at rfl) (by omega) (by omega)) ?_;clear F fa;intro fa F
 refine F.vl (R_add rfl (F.at rfl) (ev_c fa _) (by omega) (by omega)) ?_;clear F fa;intro fa F
 refine F.as ?_;clear F fa;intro fa F
 refine wpList_nil ?_
 refine hK2 _ _ ?_
 clear hK2
 refine wp_ret ?_
 (try simp only [Exit.inBlock,Exit.then])
 refine rt_v F (rs_1 F rfl rfl) ?_
 exact ⟨rfl,E⟩
def WithPost (t : Tp) (r : Int × Int × Int × Int) (gv lv : Value) (w : World) (e : Ending) (w' : World) : Prop:=∃ xa xc,e = .returned (tpV (addR t r) gv (.slice xa (addR t r).rd.length xc) lv) ∧ IsRows w' (.slice xa (addR t r).rd.length xc) 4 ((addR t r).rd.map rdRow) ∧ Ext [] w w'
set_option maxRecDepth 100000 in
theorem refWith_any (t : Tp) (r : Int × Int × Int × Int) (ga ra la : Option Addr) (gc rc lc : Nat) (w : World) (ht : IsTp w (.slice ga t.gr.length gc) (.slice ra t.rd.length rc) (.slice la t.lk.length lc) t) (l2 : t.rd.length ≤ 1000) :
  Calls Try.prog 104 #[tpV t (.slice ga t.gr.length gc) (.slice ra t.rd.length rc) (.slice la t.lk.length lc),.agg #[.int .i64 r.1,.int .i64 r.2.1,.int .i64 r.2.2.1,.int .i64 r.2.2.2]] w (WithPost t r (.slice ga t.gr.length gc) (.slice la t.lk.length lc) w):=by
 have E : Ext [] w w:=Ext.refl _ _
 have HR:=Lib.hid ht.rd
 clear ht
 unfold tpV
 refine calls_has 14 Try.func104 rfl Try.ntmps104 (Nat.le_of_ble_eq_true rfl) ?_
 intro fa F
 refine wp_seq_k fun K1 hK1=>?_
 refine wp_region_lit ?_
 refine sq_new F rfl (by decide) rfl (R_box rfl (F.at rfl)) ?_;clear F fa;intro fa w1 F hw
 obtain ⟨n2,hn⟩ : ∃ n,n = w.heap.size:=⟨_,rfl⟩
 rw [← hn] at F
 have s2 : w.heap.size ≤ n2:=Nat.le_of_eq hn.symm
 have l2_E : w.heap.size ≤ n2:=by rw [hn];exact E.size
 replace E:=ext_alloc E hw
 have q2:=new_row hw hn
 clear hw hn
 refine sq_new F rfl (by decide) rfl (R_box rfl (F.at rfl)) ?_;clear F fa;intro fa w2 F hw
 obtain ⟨n3,hn⟩ : ∃ n,n = w1.heap.size:=⟨_,rfl⟩
 rw [← hn] at F
 have s3 : w1.heap.size ≤ n3:=Nat.le_of_eq hn.symm
 have l3_E : w.heap.size ≤ n3:=by rw [hn];exact E.size
 have m3_2 : n2 < n3:=by rw [hn];exact blk_lt q2
 replace q2:=keep_alloc hw q2
 replace E:=ext_alloc E hw
 have q3:=new_row hw hn
 clear hw hn
 refine sq_new F rfl (by decide) rfl (R_alloc rfl Try.zeroValue28) ?_;clear F fa;intro fa w3 F hw
 obtain ⟨n4,hn⟩ : ∃ n,n = w2.heap.size:=⟨_,rfl⟩
 rw [← hn] at F
 have s4 : w2.heap.size ≤ n4:=Nat.le_of_eq hn.symm
 have l4_E : w.heap.size ≤ n4:=by rw [hn];exact E.size
 have m4_2 : n2 < n4:=by rw [hn];exact blk_lt q2
 have m4_3 : n3 < n4:=by rw [hn];exact blk_lt q3
 replace q2:=keep_alloc hw q2
 replace q3:=keep_alloc hw q3
 replace E:=ext_alloc E hw
 have q4:=new_row hw hn
 clear hw hn
 refine wpList_nil ?_
 refine hK1 _ _ ?_
 clear hK1
 refine wp_seq_k fun K2 hK2=>?_
 have z3:=blk_lt q3
 have hwB:=E.size
 suffices hcut : ∀ (va11 : Option Addr) (vc11 : Nat) (fa : Act) (w19 : World),Has 14 fa [(2,.pointer (some ⟨n2,0,none⟩)),(4,.pointer (some ⟨n4,0,none⟩))] → w19.heap[n2]? = some (.cells #[.int .i64 t.S,.int .i64 t.A,.int .i64 t.T,.int .i64 t.bl,.int .i64 t.bm,.int .i64 t.pl,.int .i64 t.pm,.int .i64 t.sl,.slice ga t.gr.length gc,.slice va11 (t.rd.length + 1) vc11,.slice la t.lk.length lc] 28 (0,0)) → w19.heap[n4]? = some (.cells #[.int .i64 0,.int .i64 0,.int .i64 0,.int .i64 0,.int .i64 0,.int .i64 0,.int .i64 0,.int .i64 0,.slice none 0 0,.slice none 0 0,.slice none 0 0] 28 (0,0)) → Ext [] w w19 → w19.ownsRow w3.heap.size 66 4 (.slice va11 (t.rd.length + 1) vc11) (t.rd.length + 1) (flatR t.rd ++ [.int .i64 r.1,.int .i64 r.2.1,.int .i64 r.2.2.1,.int .i64 r.2.2.2]) → K2 fa w19 by
  refine region_x (Ext [] w3) (some 8) follows fun w4 hh eh=>?_
  have q2_:=q2
  replace q2:=keep_same hh q2
  have q3_:=q3
  replace q3:=keep_same hh q3
  have q4_:=q4
  replace q4:=keep_same hh q4
  have E_:=E
  have zEw4:=E.size
  replace E:=ext_same E eh
  have eT:=eh
  clear hh eh
  refine F.x (i:=1) rfl (fun w'=>R_field rfl (F.at rfl) Try.underlying28 rfl (n:=9) (sz:=1) rfl (by kernel_rfl) (by decide)) (fun _=>eT) ?_;clear F fa;intro fa F
  refine F.xr (i:=2) rfl (fun w' hS=>R_load rfl (F.at rfl) Try.underlying25 rfl ((cells_of_block (hS.keep q2_ (by simp)) 9).trans (getS (getS (getS (getS (getS (getS (getS (getS (getS (get0)))))))))))) (fun _=>eT) ?_;clear F fa;intro fa F
  refine F.xr (i:=4) rfl (fun w' hS=>R_loadBlk rfl (F.at rfl) Try.underlying66 rfl (by kernel_rfl) (hS.keep q3_ (by simp))) (fun _=>eT) ?_;clear F fa;intro fa F
  refine ax_pair (i:=0) (j:=5) (by kernel_rfl) ?_ ?_
  ·skip
   refine (op_new F rfl rfl (by decide) rfl (R_buildSlice0 rfl Try.underlying25 (size:=4) (by kernel_rfl)) ?_);clear F fa;intro fa w5 F hw
   obtain ⟨n5,hn⟩ : ∃ n,n = w4.heap.size:=⟨_,rfl⟩
   rw [← hn] at F
   have s5 : w4.heap.size ≤ n5:=Nat.le_of_eq hn.symm
   have l5_E : w.heap.size ≤ n5:=by rw [hn];exact E.size
   have lT5 : w3.heap.size ≤ n5:=by rw [hn];exact eT.size
   have m5_2 : n2 < n5:=by rw [hn];exact blk_lt q2
   have m5_3 : n3 < n5:=by rw [hn];exact blk_lt q3
   have m5_4 : n4 < n5:=by rw [hn];exact blk_lt q4
   replace q2:=keep_alloc hw q2
   replace q3:=keep_alloc hw q3
   replace q4:=keep_alloc hw q4
   replace E:=ext_alloc E hw
   replace eT:=ext_alloc eT hw
   have q5:=new_block hw hn
   clear hw hn
   refine ⟨fun _=>eT,?_⟩
   refine ax_pair (i:=3) (j:=5) (by kernel_rfl) ?_ ?_
   ·skip
    have hor:=owns_empty (base:=w3.heap.size) (size:=4) q5 (by omega)
    have hbl:=blk_lt q5
    have hTs:=eT.size
    clear q5
    refine (op_some F rfl rfl (by decide) rfl (appends_run rfl (w3.heap.size) (e:=66) (size:=4) (bytes:=32) Try.underlying25 (by kernel_rfl) (by decide) (F.at rfl) hor (F.at rfl) (srcAt_of_rows (HR.out.ext E (by simp)) (by decide) (fun _=>rfl) rd_one) (by omega) (by omega) (by omega)) ?_);clear F fa;rintro fa v' w6 F ⟨hown',hg⟩
    rw [Nat.zero_add,List.nil_append] at hown'
    clear hbl
    obtain ⟨va8,vc8,rfl⟩:=owns_slice hown'
    replace q2:=keep_type hor hg q2 (by decide)
    replace q3:=keep_append hor hg q3 (by omega)
    replace q4:=keep_type hor hg q4 (by decide)
    replace E:=ext_appendX E hor hg (by omega)
    replace eT:=ext_appendX eT hor hg (by omega)
    replace hor:=hown'
    clear hg
    refine ⟨fun _=>eT,?_⟩
    refine ax_only (i:=5) (by kernel_rfl) (op_new F rfl rfl (by decide) rfl (R_buildSliceV rfl (prS (F.at rfl) pr0) Try.underlying25 (size:=4) (by kernel_rfl) (by decide) (by decide) Try.zeroValue66 (cells:=#[.int .i64 r.1,.int .i64 r.2.1,.int .i64 r.2.2.1,.int .i64 r.2.2.2]) (by kernel_rfl)) ?_);clear F fa;intro fa w7 F hw
    obtain ⟨n10,hn⟩ : ∃ n,n = w6.heap.size:=⟨_,rfl⟩
    rw [← hn] at F
    have s10 : w6.heap.size ≤ n10:=Nat.le_of_eq hn.symm
    have l10_E : w.heap.size ≤ n10:=by rw [hn];exact E.size
    have lT10 : w3.heap.size ≤ n10:=by rw [hn];exact eT.size
    have m10_2 : n2 < n10:=by rw [hn];exact blk_lt q2
    have m10_3 : n3 < n10:=by rw [hn];exact blk_lt q3
    have m10_4 : n4 < n10:=by rw [hn];exact blk_lt q4
    have o10_hor:=Lib.hid (own_ne_new hor hn)
    replace hor:=owns_alloc hw hor
    replace q2:=keep_alloc hw q2
    replace q3:=keep_alloc hw q3
    replace q4:=keep_alloc hw q4
    replace E:=ext_alloc E hw
    replace eT:=ext_alloc eT hw
    have q10:=new_block hw hn
    clear hw hn
    refine ⟨fun _=>eT,?_⟩
    have hTs:=eT.size
    refine ax_only (i:=6) (by kernel_rfl) (op_some F rfl rfl (by decide) rfl (append_run rfl (w3.heap.size) (e:=66) (size:=4) (bytes:=32) Try.underlying25 (by kernel_rfl) (by decide) (F.at rfl) hor (F.at rfl) q10 rfl (by simp [Value.oneCell']) (by omega) (by omega) (by omega)) ?_);clear F fa;rintro fa v' w8 F ⟨hown',hg⟩
    obtain ⟨va11,vc11,rfl⟩:=owns_slice hown'
    replace q2:=keep_type hor hg q2 (by decide)
    replace q3:=keep_append hor hg q3 (by omega)
    replace q4:=keep_type hor hg q4 (by decide)
    replace E:=ext_appendX E hor hg (by omega)
    replace eT:=ext_appendX eT hor hg (by omega)
    replace hor:=hown'
    clear hg
    refine ⟨fun _=>eT,?_⟩
    refine F.x (i:=7) rfl (fun w'=>R_field rfl (F.at rfl) Try.underlying28 rfl (n:=9) (sz:=1) rfl (by kernel_rfl) (by decide)) (fun _=>eT) ?_;clear F fa;intro fa F
    refine ax_only (i:=8) (by kernel_rfl) (op_to rfl rfl rfl (R_store rfl (F.at rfl) (F.at rfl) rfl (by kernel_rfl) ((cells_of_block q2 9).trans (getS (getS (getS (getS (getS (getS (getS (getS (getS (get0))))))))))) (free_of_block q2 9)) ?_);intro w9 hw
    replace hor:=owns_cellX hw hor (own_ne_type hor q2 (by decide))
    replace q2:=put_cell hw q2 (by simp only [List.setIfInBounds_toArray,ls,lz];exact rfl)
    replace q3:=keep_cell hw q3 (by omega)
    replace q4:=keep_cell hw q4 (by omega)
    replace E:=ext_cell E hw (fun h=>by first | exact absurd h (by omega) | simp)
    clear hw
    refine ⟨gone (by kernel_rfl),?_⟩
    refine ax_done (by kernel_rfl) ?_ _
    exact hcut _ _ _ _ (F.sub (.c 2 rfl (.c 4 rfl .n))) q2 q4 E hor
   ·skip
    refine (op_new F rfl rfl (by decide) rfl (R_buildSliceV rfl (prS (F.at rfl) pr0) Try.underlying25 (size:=4) (by kernel_rfl) (by decide) (by decide) Try.zeroValue66 (cells:=#[.int .i64 r.1,.int .i64 r.2.1,.int .i64 r.2.2.1,.int .i64 r.2.2.2]) (by kernel_rfl)) ?_);clear F fa;intro fa w10 F hw
    obtain ⟨n10,hn⟩ : ∃ n,n = w5.heap.size:=⟨_,rfl⟩
    rw [← hn] at F
    have s10 : w5.heap.size ≤ n10:=Nat.le_of_eq hn.symm
    have l10_E : w.heap.size ≤ n10:=by rw [hn];exact E.size
    have lT10 : w3.heap.size ≤ n10:=by rw [hn];exact eT.size
    have m10_2 : n2 < n10:=by rw [hn];exact blk_lt q2
    have m10_3 : n3 < n10:=by rw [hn];exact blk_lt q3
    have m10_4 : n4 < n10:=by rw [hn];exact blk_lt q4
    have m10_5 : n5 < n10:=by rw [hn];exact blk_lt q5
    replace q2:=keep_alloc hw q2
    replace q3:=keep_alloc hw q3
    replace q4:=keep_alloc hw q4
    replace q5:=keep_alloc hw q5
    replace E:=ext_alloc E hw
    replace eT:=ext_alloc eT hw
    have q10:=new_block hw hn
    clear hw hn
    refine ⟨fun _=>eT,?_⟩
    have hor:=owns_empty (base:=w3.heap.size) (size:=4) q5 (by omega)
    have hbl:=blk_lt q5
    have hTs:=eT.size
    have o10_hor:=Lib.hid (show some n10 ≠ Value.ownBlock (.slice (some ⟨n5,0,none⟩) 0 0) from fun h=>absurd (Option.some.inj h) (by simp only;omega))
    clear q5
    refine ax_only (i:=3) (by kernel_rfl) (op_some F rfl rfl (by decide) rfl (appends_run rfl (w3.heap.size) (e:=66) (size:=4) (bytes:=32) Try.underlying25 (by kernel_rfl) (by decide) (F.at rfl) hor (F.at rfl) (srcAt_of_rows (HR.out.ext E (by simp)) (by decide) (fun _=>rfl) rd_one) (by omega) (by omega) (by omega)) ?_);clear F fa;rintro fa v' w11 F ⟨hown',hg⟩
    rw [Nat.zero_add,List.nil_append] at hown'
    clear hbl
    obtain ⟨va8,vc8,rfl⟩:=owns_slice hown'
    replace q2:=keep_type hor hg q2 (by decide)
    replace q3:=keep_append hor hg q3 (by omega)
    replace q4:=keep_type hor hg q4 (by decide)
    replace q10:=(hg.block n10 (blk_lt q10) o10_hor.out).trans q10
    replace E:=ext_appendX E hor hg (by omega)
    replace eT:=ext_appendX eT hor hg (by omega)
    replace hor:=hown'
    clear hg
    refine ⟨fun _=>eT,?_⟩
    have hTs:=eT.size
    refine ax_only (i:=6) (by kernel_rfl) (op_some F rfl rfl (by decide) rfl (append_run rfl (w3.heap.size) (e:=66) (size:=4) (bytes:=32) Try.underlying25 (by kernel_rfl) (by decide) (F.at rfl) hor (F.at rfl) q10 rfl (by simp [Value.oneCell']) (by omega) (by omega) (by omega)) ?_);clear F fa;rintro fa v' w12 F ⟨hown',hg⟩
    obtain ⟨va11,vc11,rfl⟩:=owns_slice hown'
    replace q2:=keep_type hor hg q2 (by decide)
    replace q3:=keep_append hor hg q3 (by omega)
    replace q4:=keep_type hor hg q4 (by decide)
    replace E:=ext_appendX E hor hg (by omega)
    replace eT:=ext_appendX eT hor hg (by omega)
    replace hor:=hown'
    clear hg
    refine ⟨fun _=>eT,?_⟩
    refine F.x (i:=7) rfl (fun w'=>R_field rfl (F.at rfl) Try.underlying28 rfl (n:=9) (sz:=1) rfl (by kernel_rfl) (by decide)) (fun _=>eT) ?_;clear F fa;intro fa F
    refine ax_only (i:=8) (by kernel_rfl) (op_to rfl rfl rfl (R_store rfl (F.at rfl) (F.at rfl) rfl (by kernel_rfl) ((cells_of_block q2 9).trans (getS (getS (getS (getS (getS (getS (getS (getS (getS (get0))))))))))) (free_of_block q2 9)) ?_);intro w13 hw
    replace hor:=owns_cellX hw hor (own_ne_type hor q2 (by decide))
    replace q2:=put_cell hw q2 (by simp only [List.setIfInBounds_toArray,ls,lz];exact rfl)
    replace q3:=keep_cell hw q3 (by omega)
    replace q4:=keep_cell hw q4 (by omega)
    replace E:=ext_cell E hw (fun h=>by first | exact absurd h (by omega) | simp)
    clear hw
    refine ⟨gone (by kernel_rfl),?_⟩
    refine ax_done (by kernel_rfl) ?_ _
    exact hcut _ _ _ _ (F.sub (.c 2 rfl (.c 4 rfl .n))) q2 q4 E hor
  ·skip
   refine (op_new F rfl rfl (by decide) rfl (R_buildSliceV rfl (prS (F.at rfl) pr0) Try.underlying25 (size:=4) (by kernel_rfl) (by decide) (by decide) Try.zeroValue66 (cells:=#[.int .i64 r.1,.int .i64 r.2.1,.int .i64 r.2.2.1,.int .i64 r.2.2.2]) (by kernel_rfl)) ?_);clear F fa;intro fa w14 F hw
   obtain ⟨n10,hn⟩ : ∃ n,n = w4.heap.size:=⟨_,rfl⟩
   rw [← hn] at F
   have s10 : w4.heap.size ≤ n10:=Nat.le_of_eq hn.symm
   have l10_E : w.heap.size ≤ n10:=by rw [hn];exact E.size
   have lT10 : w3.heap.size ≤ n10:=by rw [hn];exact eT.size
   have m10_2 : n2 < n10:=by rw [hn];exact blk_lt q2
   have m10_3 : n3 < n10:=by rw [hn];exact blk_lt q3
   have m10_4 : n4 < n10:=by rw [hn];exact blk_lt q4
   replace q2:=keep_alloc hw q2
   replace q3:=keep_alloc hw q3
   replace q4:=keep_alloc hw q4
   replace E:=ext_alloc E hw
   replace eT:=ext_alloc eT hw
   have q10:=new_block hw hn
   clear hw hn
   refine ⟨fun _=>eT,?_⟩
   refine ax_only (i:=0) (by kernel_rfl) (op_new F rfl rfl (by decide) rfl (R_buildSlice0 rfl Try.underlying25 (size:=4) (by kernel_rfl)) ?_);clear F fa;intro fa w15 F hw
   obtain ⟨n5,hn⟩ : ∃ n,n = w14.heap.size:=⟨_,rfl⟩
   rw [← hn] at F
   have s5 : w14.heap.size ≤ n5:=Nat.le_of_eq hn.symm
   have l5_E : w.heap.size ≤ n5:=by rw [hn];exact E.size
   have lT5 : w3.heap.size ≤ n5:=by rw [hn];exact eT.size
   have m5_2 : n2 < n5:=by rw [hn];exact blk_lt q2
   have m5_3 : n3 < n5:=by rw [hn];exact blk_lt q3
   have m5_4 : n4 < n5:=by rw [hn];exact blk_lt q4
   have m5_10 : n10 < n5:=by rw [hn];exact blk_lt q10
   replace q2:=keep_alloc hw q2
   replace q3:=keep_alloc hw q3
   replace q4:=keep_alloc hw q4
   replace q10:=keep_alloc hw q10
   replace E:=ext_alloc E hw
   replace eT:=ext_alloc eT hw
   have q5:=new_block hw hn
   clear hw hn
   refine ⟨fun _=>eT,?_⟩
   have hor:=owns_empty (base:=w3.heap.size) (size:=4) q5 (by omega)
   have hbl:=blk_lt q5
   have hTs:=eT.size
   have o10_hor:=Lib.hid (show some n10 ≠ Value.ownBlock (.slice (some ⟨n5,0,none⟩) 0 0) from fun h=>absurd (Option.some.inj h) (by simp only;omega))
   clear q5
   refine ax_only (i:=3) (by kernel_rfl) (op_some F rfl rfl (by decide) rfl (appends_run rfl (w3.heap.size) (e:=66) (size:=4) (bytes:=32) Try.underlying25 (by kernel_rfl) (by decide) (F.at rfl) hor (F.at rfl) (srcAt_of_rows (HR.out.ext E (by simp)) (by decide) (fun _=>rfl) rd_one) (by omega) (by omega) (by omega)) ?_);clear F fa;rintro fa v' w16 F ⟨hown',hg⟩
   rw [Nat.zero_add,List.nil_append] at hown'
   clear hbl
   obtain ⟨va8,vc8,rfl⟩:=owns_slice hown'
   replace q2:=keep_type hor hg q2 (by decide)
   replace q3:=keep_append hor hg q3 (by omega)
   replace q4:=keep_type hor hg q4 (by decide)
   replace q10:=(hg.block n10 (blk_lt q10) o10_hor.out).trans q10
   replace E:=ext_appendX E hor hg (by omega)
   replace eT:=ext_appendX eT hor hg (by omega)
   replace hor:=hown'
   clear hg
   refine ⟨fun _=>eT,?_⟩
   have hTs:=eT.size
   refine ax_only (i:=6) (by kernel_rfl) (op_some F rfl rfl (by decide) rfl (append_run rfl (w3.heap.size) (e:=66) (size:=4) (bytes:=32) Try.underlying25 (by kernel_rfl) (by decide) (F.at rfl) hor (F.at rfl) q10 rfl (by simp [Value.oneCell']) (by omega) (by omega) (by omega)) ?_);clear F fa;rintro fa v' w17 F ⟨hown',hg⟩
   obtain ⟨va11,vc11,rfl⟩:=owns_slice hown'
   replace q2:=keep_type hor hg q2 (by decide)
   replace q3:=keep_append hor hg q3 (by omega)
   replace q4:=keep_type hor hg q4 (by decide)
   replace E:=ext_appendX E hor hg (by omega)
   replace eT:=ext_appendX eT hor hg (by omega)
   replace hor:=hown'
   clear hg
   refine ⟨fun _=>eT,?_⟩
   refine F.x (i:=7) rfl (fun w'=>R_field rfl (F.at rfl) Try.underlying28 rfl (n:=9) (sz:=1) rfl (by kernel_rfl) (by decide)) (fun _=>eT) ?_;clear F fa;intro fa F
   refine ax_only (i:=8) (by kernel_rfl) (op_to rfl rfl rfl (R_store rfl (F.at rfl) (F.at rfl) rfl (by kernel_rfl) ((cells_of_block q2 9).trans (getS (getS (getS (getS (getS (getS (getS (getS (getS (get0))))))))))) (free_of_block q2 9)) ?_);intro w18 hw
   replace hor:=owns_cellX hw hor (own_ne_type hor q2 (by decide))
   replace q2:=put_cell hw q2 (by simp only [List.setIfInBounds_toArray,ls,lz];exact rfl)
   replace q3:=keep_cell hw q3 (by omega)
   replace q4:=keep_cell hw q4 (by omega)
   replace E:=ext_cell E hw (fun h=>by first | exact absurd h (by omega) | simp)
   clear hw
   refine ⟨gone (by kernel_rfl),?_⟩
   refine ax_done (by kernel_rfl) ?_ _
   exact hcut _ _ _ _ (F.sub (.c 2 rfl (.c 4 rfl .n))) q2 q4 E hor
 clear F q2 q3 q4 E fa
 intro  va11 vc11 fa w19 F q2 q4 E hor
 refine hK2 _ _ ?_
 clear hK2
 refine wp_seq_k fun K3 hK3=>?_
 refine wp_region_lit ?_
 refine F.vl (R_loadBlk rfl (F.at rfl) Try.underlying28 rfl (by kernel_rfl) q2) ?_;clear F fa;intro fa F
 refine sq_to rfl rfl (R_storeRow rfl (F.at rfl) (F.at rfl) (by kernel_rfl) (by first | (simp [Value.oneCell'];done) | (simp [Value.oneCell',grRow,rdRow,lkRow];done)) q4 rfl) ?_;intro w20 hw
 replace hor:=owns_cellsX hw hor (own_ne_type hor q4 (by decide))
 replace q2:=keep_cells hw q2 (by omega)
 replace q4:=put_row hw q4 rfl
 replace E:=ext_cells E hw (fun h=>by first | exact absurd h (by omega) | simp)
 clear hw
 refine wpList_nil ?_
 refine hK3 _ _ ?_
 clear hK3
 refine wp_ret ?_
 (try simp only [Exit.inBlock,Exit.then])
 refine rt_v F (rs_c F rfl rfl Try.underlying28 rfl (by kernel_rfl) q4) ?_
 exact ⟨va11,vc11,by rw [show (addR t r).rd.length = t.rd.length + 1 by simp [addR]];rfl,by rw [show (addR t r).rd.length = t.rd.length + 1 by simp [addR]];exact own_addR hor,E⟩
theorem refSpan_eq {n : Nat} (hn : n ≤ 13) {oa : Option Addr} {oc : Nat} {va : Nat → Option Addr} {vc : Nat → Nat} {m : Nat → Nat → Int} {w : World} (h : MF w oa va vc n m) (x y : Nat) (hx : x < n) (hy : y < n) {p q : Int} (e1 : m y x = p ∧ -100000 ≤ m y x ∧ m y x ≤ 100000) (e2 : m x y = q ∧ -100000 ≤ m x y ∧ m x y ≤ 100000) :
  Calls Try.prog 95 #[.agg #[.slice oa n oc],.int .i64 x,.int .i64 y] w fun e w'=>e = .returned (.agg #[.int .i64 (-p),.int .i64 q]) ∧ Ext [] w w':=by
 obtain ⟨rfl,l1,l2⟩:=e1
 obtain ⟨rfl,-,-⟩:=e2
 exact refSpan_any hn h x y hx hy l1 l2
theorem numB_posI {t : Tp} (ok : t.Ok) (hb : bdB t 0 = true) {s a : Int} (s0 : 0 ≤ s) (s1 : s < t.S) (a0 : 0 ≤ a) (a1 : a < t.A) : 1 ≤ numB t (nodeC s a):=by
 obtain ⟨s,rfl⟩:=Int.eq_ofNat_of_zero_le s0
 obtain ⟨a,rfl⟩:=Int.eq_ofNat_of_zero_le a0
 exact numB_pos ok hb s1 a1
theorem next_satI {t : Tp} (h : t.Live) {s a : Int} {i : Nat} (s0 : 0 ≤ s) (s1 : s < t.S) (a0 : 0 ≤ a) (a1 : a < t.A) (hi : (i : Int) < t.T) {tape : Int} (h1 : nxtLo t s a i ≤ tape) (h2 : tape ≤ nxtHi t s a i) :
  (addR t (s,a,i,tape)).Ok ∧ bdB (addR t (s,a,i,tape)) 0 = true:=by
 obtain ⟨s,rfl⟩:=Int.eq_ofNat_of_zero_le s0
 obtain ⟨a,rfl⟩:=Int.eq_ofNat_of_zero_le a0
 exact next_sat h s1 a1 hi h1 h2
def nxN (t : Tp) (s a : Int) (i : Nat) : Nat:=(nxtHi t s a i - nxtLo t s a i + 1).toNat
theorem nxt_bds {t : Tp} (h : t.Live) {s a : Int} {i : Nat} (s0 : 0 ≤ s) (s1 : s < t.S) (a0 : 0 ≤ a) (a1 : a < t.A) (hi : (i : Int) < t.T) : 6 ≤ nxtLo t s a i ∧ nxtHi t s a i ≤ 214 ∧ nxtLo t s a i ≤ nxtHi t s a i:=by
 obtain ⟨s,rfl⟩:=Int.eq_ofNat_of_zero_le s0
 obtain ⟨a,rfl⟩:=Int.eq_ofNat_of_zero_le a0
 have hsum:=sum_bd h.ok h.bdB s1 a1 hi
 have q0:=h.ok.sl0
 have q5:=h.ok.sl5
 obtain ⟨x,hx⟩:=h.tr
 have k1:=(h.top (live_cell s1 a1) (live_tail hi)).1 x hx
 have k2:=(h.top (live_tail hi) (live_cell s1 a1)).1 x hx
 unfold nxtLo nxtHi
 omega
theorem mxF_pos {t : Tp} (h : t.Live) {s a : Int} {i : Nat} (s0 : 0 ≤ s) (s1 : s < t.S) (a0 : 0 ≤ a) (a1 : a < t.A) (hi : (i : Int) < t.T) : 1 ≤ mxF t s a i (nxtLo t s a i) (nxN t s a i):=by
 obtain ⟨b1,b2,b3⟩:=nxt_bds h s0 s1 a0 a1 hi
 obtain ⟨n,hn⟩ : ∃ n,nxN t s a i = 1 + n:=⟨nxN t s a i - 1,by unfold nxN;omega⟩
 obtain ⟨ok,hb⟩:=next_satI h s0 s1 a0 a1 hi (tape:=nxtLo t s a i + ((0 : Nat) : Int)) (by omega) (by omega)
 have p:=numB_posI (t:=addR t (s,a,i,nxtLo t s a i + ((0 : Nat) : Int))) ok hb s0 s1 a0 a1
 have l:=mxF_le t s a i (nxtLo t s a i) 1 n
 have e : mxF t s a i (nxtLo t s a i) 1 = max 0 (numB (addR t (s,a,i,nxtLo t s a i + ((0 : Nat) : Int))) (nodeC s a)):=rfl
 rw [hn]
 omega
theorem nxt_step {t : Tp} (h : t.Live) {s a : Int} {i : Nat} (s0 : 0 ≤ s) (s1 : s < t.S) (a0 : 0 ≤ a) (a1 : a < t.A) (hi : (i : Int) < t.T) (hl : 1 ≤ (nxtTo t s a i).2) :
  nxtTo t s a (i + 1) = if mxF t s a i (nxtLo t s a i) (nxN t s a i) < (nxtTo t s a i).2 then ((i : Int),mxF t s a i (nxtLo t s a i) (nxN t s a i)) else nxtTo t s a i:=by
 obtain ⟨b1,b2,b3⟩:=nxt_bds h s0 s1 a0 a1 hi
 have hN : ((nxN t s a i : Nat) : Int) = nxtHi t s a i - nxtLo t s a i + 1:=by unfold nxN;omega
 have e:=nxt1_mx (t:=t) (s:=s) (a:=a) (i:=i) (lo:=nxtLo t s a i) (left:=(nxtTo t s a i).2) (nxN t s a i) 0 (fun j _ hj=>(next_satI h s0 s1 a0 a1 hi (by omega) (by omega)).2) (by show (0 : Int) < _;omega)
 rw [Nat.zero_add] at e
 have e2 : nxt1 t s a i (nxtTo t s a i).2 (nxtHi t s a i - nxtLo t s a i + 1).toNat (nxtLo t s a i) 0 = nxt1 t s a i (nxtTo t s a i).2 (nxN t s a i) (nxtLo t s a i + ((0 : Nat) : Int)) (mxF t s a i (nxtLo t s a i) 0):=by
  rw [show nxtLo t s a i + ((0 : Nat) : Int) = nxtLo t s a i by omega];rfl
 rw [nxtTo_succ,e2,e]
 by_cases c : mxF t s a i (nxtLo t s a i) (nxN t s a i) < (nxtTo t s a i).2
 ·rw [if_pos c,if_neg (by omega)];rfl
 ·rw [if_neg c,if_pos (by omega)];rfl
theorem nxt_left {t : Tp} (h : t.Live) {s a : Int} (s0 : 0 ≤ s) (s1 : s < t.S) (a0 : 0 ≤ a) (a1 : a < t.A) : ∀ i : Nat,(i : Int) ≤ t.T → 1 ≤ (nxtTo t s a i).2
 | 0,_=>numB_posI h.ok h.bdB s0 s1 a0 a1
 | i + 1,hi=>by
  have ih:=nxt_left h s0 s1 a0 a1 i (by omega)
  have hp:=mxF_pos h s0 s1 a0 a1 (i:=i) (by omega)
  rw [nxt_step h s0 s1 a0 a1 (by omega) ih]
  split
  ·exact hp
  ·exact ih
theorem next_bad {t : Tp} {s a : Int} (h : measE t s a ≠ 0) : nextE t s a = measE t s a ∧ nextV t s a = (0,0):=by
 have e : nextE t s a = measE t s a:=by rw [nextE,if_pos h]
 exact ⟨e,by rw [nextV,if_neg (by rw [e];exact h)]⟩
theorem next_none {t : Tp} {s a : Int} (h : measE t s a = 0) (hn : (nxtTo t s a t.T.toNat).1 < 0) : nextE t s a = 11 ∧ nextV t s a = (0,0):=by
 have e : nextE t s a = 11:=by rw [nextE,if_neg (by rw [h];simp),if_pos hn]
 exact ⟨e,by rw [nextV,if_neg (by rw [e];decide)]⟩
theorem next_some {t : Tp} {s a : Int} (h : measE t s a = 0) (hn : ¬ (nxtTo t s a t.T.toNat).1 < 0) : nextE t s a = 0 ∧ nextV t s a = nxtTo t s a t.T.toNat:=by
 have e : nextE t s a = 0:=by rw [nextE,if_neg (by rw [h];simp),if_neg hn]
 exact ⟨e,by rw [nextV,if_pos e]⟩
theorem addR_n {t : Tp} {n : Nat} (h : (n : Int) = 1 + t.S * t.A + t.T) (r : Int × Int × Int × Int) : (n : Int) = 1 + (addR t r).S * (addR t r).A + (addR t r).T:=h
set_option maxRecDepth 100000 in
set_option maxHeartbeats 4000000 in
theorem refNext_any (t : Tp) {n : Nat} (hn : t.Ok → (n : Int) = 1 + t.S * t.A + t.T) (ga ra la : Option Addr) (gc rc lc : Nat) (w : World) (ht : IsTp w (.slice ga t.gr.length gc) (.slice ra t.rd.length rc) (.slice la t.lk.length lc) t) (l1 : t.gr.length ≤ 1000) (l2 : t.rd.length ≤ 1000) (l3 : t.lk.length ≤ 1000) (s a : Int) :
  Calls Try.prog 39 #[tpV t (.slice ga t.gr.length gc) (.slice ra t.rd.length rc) (.slice la t.lk.length lc),.int .i64 s,.int .i64 a] w fun e w'=>e = .returned (.tuple #[.int .i64 (nextV t s a).1,.int .i64 (nextV t s a).2,.int .i64 (nextE t s a)]) ∧ Ext [] w w':=by
 have E : Ext [] w w:=Ext.refl _ _
 have HT:=Lib.hid ht
 clear ht
 have hbe:=meas_beg t s a
 unfold tpV
 refine calls_has 92 Try.func39 rfl Try.ntmps39 (Nat.le_of_ble_eq_true rfl) ?_
 intro fa F
 refine wp_seq_k fun K1 hK1=>?_
 refine wp_region_lit ?_
 refine sq_new F rfl (by decide) rfl (R_box rfl (F.at rfl)) ?_;clear F fa;intro fa w1 F hw
 obtain ⟨n3,hn⟩ : ∃ n,n = w.heap.size:=⟨_,rfl⟩
 rw [← hn] at F
 have s3 : w.heap.size ≤ n3:=Nat.le_of_eq hn.symm
 have l3_E : w.heap.size ≤ n3:=by rw [hn];exact E.size
 replace E:=ext_alloc E hw
 have q3:=new_row hw hn
 clear hw hn
 refine F.vl (R_assign rfl (ev_c fa _)) ?_;clear F fa;intro fa F
 refine F.vl (R_assign rfl (ev_c fa _)) ?_;clear F fa;intro fa F
 refine F.vl (R_assign rfl (ev_c fa _)) ?_;clear F fa;intro fa F
 refine wpList_nil ?_
 refine hK1 _ _ ?_
 clear hK1
 refine wp_seq_k fun K2 hK2=>?_
 suffices hcut : ∀ (n9 : Nat) (oa : Option Addr) (k oc : Nat) (va : Nat → Option Addr) (vc : Nat → Nat) (fa : Act) (w14 : World),Has 92 fa [(1,.int .i64 s),(2,.int .i64 a),(3,.pointer (some ⟨n3,0,none⟩)),(9,.pointer (some ⟨n9,0,none⟩)),(10,.int .i64 (begE t (isMB t s a)))] → w14.heap[n3]? = some (.cells #[.int .i64 t.S,.int .i64 t.A,.int .i64 t.T,.int .i64 t.bl,.int .i64 t.bm,.int .i64 t.pl,.int .i64 t.pm,.int .i64 t.sl,.slice ga t.gr.length gc,.slice ra t.rd.length rc,.slice la t.lk.length lc] 28 (0,0)) → w14.heap[n9]? = some (.cells #[.slice oa k oc] 111 (0,0)) → Ext [] w w14 → w.heap.size ≤ n9 → n3 ≠ n9 → IsM w14 w.heap.size oa oc va vc k (kTt n (looseR t) n) → (begE t (isMB t s a) = 0 → k = n) → K2 fa w14 by
  refine region_x (Ext [] w1) none follows fun w2 hh eh=>?_
  have q3_:=q3
  replace q3:=keep_same hh q3
  have E_:=E
  have zEw2:=E.size
  replace E:=ext_same E eh
  have eT:=eh
  clear hh eh
  refine F.xr (i:=0) rfl (fun w' hS=>R_loadBlk rfl (F.at rfl) Try.underlying28 rfl (by kernel_rfl) (hS.keep q3_ (by simp))) (fun _=>eT) ?_;clear F fa;intro fa F
  refine F.xr (i:=1) rfl (fun w' hS=>R_loadBlk rfl (F.at rfl) Try.underlying28 rfl (by kernel_rfl) (hS.keep q3_ (by simp))) (fun _=>eT) ?_;clear F fa;intro fa F
  refine F.x (i:=2) rfl (fun w'=>R_move rfl (F.at rfl)) (fun _=>eT) ?_;clear F fa;intro fa F
  refine F.x (i:=3) rfl (fun w'=>R_move rfl (F.at rfl)) (fun _=>eT) ?_;clear F fa;intro fa F
  refine ax_pair (i:=4) (j:=9) (by kernel_rfl) ?_ ?_
  ·skip
   refine (op_call F rfl rfl (by decide) rfl (R_callV rfl rfl Try.call94 (mpS (F.at rfl) (mpS (F.at rfl) (mpS (F.at rfl) mp0)))) (refIs_any t _ _ _ s a _) fun e w3 hR=>?_)
   obtain ⟨rfl,e9⟩:=hR
   refine ⟨_,rfl,?_⟩;clear F fa;intro fa F
   replace q3:=(e9).keep0 q3
   replace E:=ext_same E (e9)
   replace eT:=ext_same eT (e9)
   clear e9
   refine ⟨fun _=>eT,?_⟩
   refine ax_pair (i:=5) (j:=9) (by kernel_rfl) ?_ ?_
   ·skip
    have hle:=E.size
    refine (op_call F rfl rfl (by decide) rfl (R_callV rfl rfl Try.call93 (mpS (F.at rfl) (mpS (F.at rfl) mp0))) (refBegin_any t hn (isMB t s a) ga ra la gc rc lc _ (HT.out.ext E (by simp)) l1 l2 l3) fun e w4 hR=>?_)
    obtain ⟨oa,k,oc,va,vc,rfl,hk,ism,eX⟩:=hR
    refine ⟨_,rfl,?_⟩;clear F fa;intro fa F
    replace q3:=(eX).keep0 q3
    replace E:=ext_same E (eX)
    replace eT:=ext_same eT (eX)
    refine ⟨fun _=>eT,?_⟩
    replace ism:=ism_lower ism hle
    refine F.x (i:=6) rfl (fun w'=>R_move rfl (F.at rfl)) (fun _=>eT) ?_;clear F fa;intro fa F
    refine F.x (i:=7) rfl (fun w'=>R_extract rfl (F.at rfl) (get0)) (fun _=>eT) ?_;clear F fa;intro fa F
    refine F.x (i:=8) rfl (fun w'=>R_extract rfl (F.at rfl) (getS (get0))) (fun _=>eT) ?_;clear F fa;intro fa F
    refine ax_only (i:=9) (by kernel_rfl) (op_new F rfl rfl (by decide) rfl (R_alloc rfl Try.zeroValue111) ?_);clear F fa;intro fa w5 F hw
    obtain ⟨n9,hn⟩ : ∃ n,n = w4.heap.size:=⟨_,rfl⟩
    rw [← hn] at F
    have s9 : w4.heap.size ≤ n9:=Nat.le_of_eq hn.symm
    have l9_E : w.heap.size ≤ n9:=by rw [hn];exact E.size
    have lT9 : w1.heap.size ≤ n9:=by rw [hn];exact eT.size
    have m9_3 : n3 < n9:=by rw [hn];exact blk_lt q3
    replace ism:=ism_lift ism (fun _ _ _ h=>owns_alloc hw h) (fun _ _ _ h=>owns_alloc hw h)
    replace q3:=keep_alloc hw q3
    replace E:=ext_alloc E hw
    replace eT:=ext_alloc eT hw
    have q9:=new_row hw hn
    clear hw hn
    refine ⟨fun _=>eT,?_⟩
    refine ax_only (i:=10) (by kernel_rfl) (op_to rfl rfl rfl (R_storeRow rfl (F.at rfl) (F.at rfl) (by kernel_rfl) (by first | (simp [Value.oneCell'];done) | (simp [Value.oneCell',grRow,rdRow,lkRow];done)) q9 rfl) ?_);intro w6 hw
    replace ism:=ism_lift ism (fun _ _ _ h=>owns_cellsX hw h (own_ne_type h q9 (by decide))) (fun _ _ _ h=>owns_cellsX hw h (own_ne_type h q9 (by decide)))
    replace q3:=keep_cells hw q3 (by omega)
    replace q9:=put_row hw q9 rfl
    replace E:=ext_cells E hw (fun h=>by first | exact absurd h (by omega) | simp)
    replace eT:=ext_cells eT hw (fun h=>by first | exact absurd h (by omega) | simp)
    clear hw
    refine ⟨fun _=>eT,?_⟩
    refine F.x (i:=11) rfl (fun w'=>R_assign rfl (F.at rfl)) (fun _=>eT) ?_;clear F fa;intro fa F
    refine ax_done (by kernel_rfl) ?_ _
    exact hcut _ _ _ _ _ _ _ _ (F.sub (.c 1 rfl (.c 2 rfl (.c 3 rfl (.c 9 rfl (.c 10 rfl .n)))))) q3 q9 E (by omega) (by omega) ism hk
   ·skip
    refine (op_new F rfl rfl (by decide) rfl (R_alloc rfl Try.zeroValue111) ?_);clear F fa;intro fa w7 F hw
    obtain ⟨n9,hn⟩ : ∃ n,n = w3.heap.size:=⟨_,rfl⟩
    rw [← hn] at F
    have s9 : w3.heap.size ≤ n9:=Nat.le_of_eq hn.symm
    have l9_E : w.heap.size ≤ n9:=by rw [hn];exact E.size
    have lT9 : w1.heap.size ≤ n9:=by rw [hn];exact eT.size
    have m9_3 : n3 < n9:=by rw [hn];exact blk_lt q3
    replace q3:=keep_alloc hw q3
    replace E:=ext_alloc E hw
    replace eT:=ext_alloc eT hw
    have q9:=new_row hw hn
    clear hw hn
    refine ⟨fun _=>eT,?_⟩
    have hle:=E.size
    refine ax_only (i:=5) (by kernel_rfl) (op_call F rfl rfl (by decide) rfl (R_callV rfl rfl Try.call93 (mpS (F.at rfl) (mpS (F.at rfl) mp0))) (refBegin_any t hn (isMB t s a) ga ra la gc rc lc _ (HT.out.ext E (by simp)) l1 l2 l3) fun e w8 hR=>?_)
    obtain ⟨oa,k,oc,va,vc,rfl,hk,ism,eX⟩:=hR
    refine ⟨_,rfl,?_⟩;clear F fa;intro fa F
    replace q3:=(eX).keep0 q3
    replace q9:=(eX).keep0 q9
    replace E:=ext_same E (eX)
    replace eT:=ext_same eT (eX)
    refine ⟨fun _=>eT,?_⟩
    replace ism:=ism_lower ism hle
    refine F.x (i:=6) rfl (fun w'=>R_move rfl (F.at rfl)) (fun _=>eT) ?_;clear F fa;intro fa F
    refine F.x (i:=7) rfl (fun w'=>R_extract rfl (F.at rfl) (get0)) (fun _=>eT) ?_;clear F fa;intro fa F
    refine F.x (i:=8) rfl (fun w'=>R_extract rfl (F.at rfl) (getS (get0))) (fun _=>eT) ?_;clear F fa;intro fa F
    refine ax_only (i:=10) (by kernel_rfl) (op_to rfl rfl rfl (R_storeRow rfl (F.at rfl) (F.at rfl) (by kernel_rfl) (by first | (simp [Value.oneCell'];done) | (simp [Value.oneCell',grRow,rdRow,lkRow];done)) q9 rfl) ?_);intro w9 hw
    replace ism:=ism_lift ism (fun _ _ _ h=>owns_cellsX hw h (own_ne_type h q9 (by decide))) (fun _ _ _ h=>owns_cellsX hw h (own_ne_type h q9 (by decide)))
    replace q3:=keep_cells hw q3 (by omega)
    replace q9:=put_row hw q9 rfl
    replace E:=ext_cells E hw (fun h=>by first | exact absurd h (by omega) | simp)
    replace eT:=ext_cells eT hw (fun h=>by first | exact absurd h (by omega) | simp)
    clear hw
    refine ⟨fun _=>eT,?_⟩
    refine F.x (i:=11) rfl (fun w'=>R_assign rfl (F.at rfl)) (fun _=>eT) ?_;clear F fa;intro fa F
    refine ax_done (by kernel_rfl) ?_ _
    exact hcut _ _ _ _ _ _ _ _ (F.sub (.c 1 rfl (.c 2 rfl (.c 3 rfl (.c 9 rfl (.c 10 rfl .n)))))) q3 q9 E (by omega) (by omega) ism hk
  ·skip
   refine (op_new F rfl rfl (by decide) rfl (R_alloc rfl Try.zeroValue111) ?_);clear F fa;intro fa w10 F hw
   obtain ⟨n9,hn⟩ : ∃ n,n = w2.heap.size:=⟨_,rfl⟩
   rw [← hn] at F
   have s9 : w2.heap.size ≤ n9:=Nat.le_of_eq hn.symm
   have l9_E : w.heap.size ≤ n9:=by rw [hn];exact E.size
   have lT9 : w1.heap.size ≤ n9:=by rw [hn];exact eT.size
   have m9_3 : n3 < n9:=by rw [hn];exact blk_lt q3
   replace q3:=keep_alloc hw q3
   replace E:=ext_alloc E hw
   replace eT:=ext_alloc eT hw
   have q9:=new_row hw hn
   clear hw hn
   refine ⟨fun _=>eT,?_⟩
   refine ax_only (i:=4) (by kernel_rfl) (op_call F rfl rfl (by decide) rfl (R_callV rfl rfl Try.call94 (mpS (F.at rfl) (mpS (F.at rfl) (mpS (F.at rfl) mp0)))) (refIs_any t _ _ _ s a _) fun e w11 hR=>?_)
   obtain ⟨rfl,e9⟩:=hR
   refine ⟨_,rfl,?_⟩;clear F fa;intro fa F
   replace q3:=(e9).keep0 q3
   replace q9:=(e9).keep0 q9
   replace E:=ext_same E (e9)
   replace eT:=ext_same eT (e9)
   clear e9
   refine ⟨fun _=>eT,?_⟩
   have hle:=E.size
   refine ax_only (i:=5) (by kernel_rfl) (op_call F rfl rfl (by decide) rfl (R_callV rfl rfl Try.call93 (mpS (F.at rfl) (mpS (F.at rfl) mp0))) (refBegin_any t hn (isMB t s a) ga ra la gc rc lc _ (HT.out.ext E (by simp)) l1 l2 l3) fun e w12 hR=>?_)
   obtain ⟨oa,k,oc,va,vc,rfl,hk,ism,eX⟩:=hR
   refine ⟨_,rfl,?_⟩;clear F fa;intro fa F
   replace q3:=(eX).keep0 q3
   replace q9:=(eX).keep0 q9
   replace E:=ext_same E (eX)
   replace eT:=ext_same eT (eX)
   refine ⟨fun _=>eT,?_⟩
   replace ism:=ism_lower ism hle
   refine F.x (i:=6) rfl (fun w'=>R_move rfl (F.at rfl)) (fun _=>eT) ?_;clear F fa;intro fa F
   refine F.x (i:=7) rfl (fun w'=>R_extract rfl (F.at rfl) (get0)) (fun _=>eT) ?_;clear F fa;intro fa F
   refine F.x (i:=8) rfl (fun w'=>R_extract rfl (F.at rfl) (getS (get0))) (fun _=>eT) ?_;clear F fa;intro fa F
   refine ax_only (i:=10) (by kernel_rfl) (op_to rfl rfl rfl (R_storeRow rfl (F.at rfl) (F.at rfl) (by kernel_rfl) (by first | (simp [Value.oneCell'];done) | (simp [Value.oneCell',grRow,rdRow,lkRow];done)) q9 rfl) ?_);intro w13 hw
   replace ism:=ism_lift ism (fun _ _ _ h=>owns_cellsX hw h (own_ne_type h q9 (by decide))) (fun _ _ _ h=>owns_cellsX hw h (own_ne_type h q9 (by decide)))
   replace q3:=keep_cells hw q3 (by omega)
   replace q9:=put_row hw q9 rfl
   replace E:=ext_cells E hw (fun h=>by first | exact absurd h (by omega) | simp)
   replace eT:=ext_cells eT hw (fun h=>by first | exact absurd h (by omega) | simp)
   clear hw
   refine ⟨fun _=>eT,?_⟩
   refine F.x (i:=11) rfl (fun w'=>R_assign rfl (F.at rfl)) (fun _=>eT) ?_;clear F fa;intro fa F
   refine ax_done (by kernel_rfl) ?_ _
   exact hcut _ _ _ _ _ _ _ _ (F.sub (.c 1 rfl (.c 2 rfl (.c 3 rfl (.c 9 rfl (.c 10 rfl .n)))))) q3 q9 E (by omega) (by omega) ism hk
 clear F q3 E fa
 intro n9 oa k oc va vc fa w14 F q3 q9 E l9_E m9_3 ism hk
 refine hK2 _ _ ?_
 clear hK2
 refine wp_seq_k fun K3 hK3=>?_
 refine wp_seq_k fun K4 hK4=>?_
 refine wp_region_lit ?_
 refine F.mv ?_;clear F fa;intro fa F
 refine F.vl (R_neqD rfl (F.at rfl) (ev_c fa _)) ?_;clear F fa;intro fa F
 refine wpList_nil ?_
 refine hK4 _ _ ?_
 clear hK4
 refine cd_if F rfl (fun hc30=>?_) (fun hc30=>?_)
 ·skip
  refine wp_seq_k fun K5 hK5=>?_
  refine wp_region_lit ?_
  refine F.mv ?_;clear F fa;intro fa F
  refine F.vl (R_assign rfl (ev_c fa _)) ?_;clear F fa;intro fa F
  refine F.vl (R_assign rfl (ev_c fa _)) ?_;clear F fa;intro fa F
  refine F.as ?_;clear F fa;intro fa F
  refine wpList_nil ?_
  refine hK5 _ _ ?_
  clear hK5
  refine wp_ret ?_
  (try simp only [Exit.inBlock,Exit.then])
  refine rt_v F (rs_3 F rfl rfl rfl rfl) ?_
  exact ⟨by obtain ⟨e1,e2⟩:=next_bad (t:=t) (s:=s) (a:=a) (by rw [hbe];omega);rw [e1,e2,hbe],E⟩
 ·skip
  refine wp_skip ?_
  refine hK3 _ _ ?_
  clear hK3
  refine wp_seq_k fun K6 hK6=>?_
  have h0 : begE t (isMB t s a) = 0:=by omega
  obtain ⟨hL,hb⟩:=begE_zero h0
  have hnn:=hn hL.ok
  obtain ⟨s0,s1,a0,a1⟩:=(isMB_iff hL.ok).1 hb
  obtain rfl:=hk h0
  have hlt:=rn_lt hL.ok hnn s0 s1 a0 a1
  have hl0:=(nR_13 hL.ok hnn).2
  have k1:=ref_at9 hL.ok hL.bdB hnn (i:=rnI t s a) (j:=0) hlt hl0
  have k2:=ref_at9 hL.ok hL.bdB hnn (i:=0) (j:=rnI t s a) hl0 hlt
  rw [phi_0,phi_n hL.ok s0 s1 a0 a1] at k1 k2
  have hT3:=hL.ok.T3
  have hT1:=hL.ok.T1
  have hq0:=hL.ok.sl0
  have hq5:=hL.ok.sl5
  refine wp_region_lit ?_
  refine F.vl (R_loadBlk rfl (F.at rfl) Try.underlying28 rfl (by kernel_rfl) q3) ?_;clear F fa;intro fa F
  refine F.mv ?_;clear F fa;intro fa F
  refine F.mv ?_;clear F fa;intro fa F
  refine sq_call F rfl (by decide) rfl (R_callV rfl rfl Try.call96 (mpS (F.at rfl) (mpS (F.at rfl) (mpS (F.at rfl) mp0)))) (refMeasured_any hL.ok _ _ _ s a _ s0 s1 a0 a1) fun e w15 hR=>?_
  obtain ⟨rfl,e9⟩:=hR
  refine ⟨_,rfl,?_⟩;clear F fa;intro fa F
  replace ism:=ism_lift ism (fun _ _ _ h=>owns_ext h (e9) (by simp)) (fun _ _ _ h=>owns_ext h (e9) (by simp))
  replace q3:=(e9).keep0 q3
  replace q9:=(e9).keep0 q9
  replace E:=ext_same E (e9)
  clear e9
  refine F.as ?_;clear F fa;intro fa F
  refine wpList_nil ?_
  refine hK6 _ _ ?_
  clear hK6
  refine wp_seq_k fun K7 hK7=>?_
  refine wp_region_lit ?_
  refine F.vl (R_loadBlk rfl (F.at rfl) Try.underlying111 rfl (by kernel_rfl) q9) ?_;clear F fa;intro fa F
  refine F.mv ?_;clear F fa;intro fa F
  refine sq_call F rfl (by decide) rfl (R_callV rfl rfl Try.call95 (mpS (F.at rfl) (mpS (F.at rfl) (mpS (ev_c fa _) mp0)))) (refSpan_eq (nR_13 hL.ok hnn).1 (ism_mf ism) (rnI t s a) 0 hlt hl0 k2 k1) fun e w16 hR=>?_
  obtain ⟨rfl,e9⟩:=hR
  refine ⟨_,rfl,?_⟩;clear F fa;intro fa F
  replace ism:=ism_lift ism (fun _ _ _ h=>owns_ext h (e9) (by simp)) (fun _ _ _ h=>owns_ext h (e9) (by simp))
  replace q3:=(e9).keep0 q3
  replace q9:=(e9).keep0 q9
  replace E:=ext_same E (e9)
  clear e9
  refine sq_call F rfl (by decide) rfl (R_callV rfl rfl Try.call103 (mpS (F.at rfl) mp0)) (refNumbers_any _ _ (nxtTo t s a 0).2 (by show numB t (nodeC s a) = _;unfold numB;omega) _ (by omega) (by omega) (by omega) (by omega)) fun e w17 hR=>?_
  obtain ⟨rfl,e9⟩:=hR
  refine ⟨_,rfl,?_⟩;clear F fa;intro fa F
  replace ism:=ism_lift ism (fun _ _ _ h=>owns_ext h (e9) (by simp)) (fun _ _ _ h=>owns_ext h (e9) (by simp))
  replace q3:=(e9).keep0 q3
  replace q9:=(e9).keep0 q9
  replace E:=ext_same E (e9)
  clear e9
  refine F.vl (R_assign rfl (ev_c fa _)) ?_;clear F fa;intro fa F
  rw [show (-1 : Int) = (nxtTo t s a 0).1 from rfl] at F
  refine F.as ?_;clear F fa;intro fa F
  refine wpList_nil ?_
  refine hK7 _ _ ?_
  clear hK7
  refine wp_seq_k fun K8 hK8=>?_
  refine wp_seq_k fun K9 hK9=>?_
  refine wp_region_lit ?_
  refine F.vl (R_assign rfl (ev_c fa _)) ?_;clear F fa;intro fa F
  refine wpList_nil ?_
  refine hK9 _ _ ?_
  clear hK9
  refine wp_block ?_
  have F0:=F.sub (.c 1 rfl (.c 2 rfl (.c 3 rfl (.c 9 rfl (.c 11 rfl .n)))))
  refine lp_for F0 (t.T.toNat) (fun i Lv W=>Lv = [(12,.int .i64 ((nxtTo t s a i).1)),(13,.int .i64 ((nxtTo t s a i).2)),(14,.int .i64 ((i : Nat) : Int))] ∧ Ext [] w W ∧ W.heap[n3]? = some (.cells #[.int .i64 t.S,.int .i64 t.A,.int .i64 t.T,.int .i64 t.bl,.int .i64 t.bm,.int .i64 t.pl,.int .i64 t.pm,.int .i64 t.sl,.slice ga t.gr.length gc,.slice ra t.rd.length rc,.slice la t.lk.length lc] 28 (0,0)) ∧ W.heap[n9]? = some (.cells #[.slice oa k oc] 111 (0,0)) ∧ IsM W w.heap.size oa oc va vc k (kTt k (looseR t) k)) ⟨_,⟨rfl,E,q3,q9,ism⟩,F.sub (.c 12 rfl (.c 13 rfl (.c 14 rfl (.c 1 rfl (.c 2 rfl (.c 3 rfl (.c 9 rfl (.c 11 rfl .n))))))))⟩ ?_
  clear F F0
  clear E q3 q9 ism
  rintro i _ fa w18 hi1 ⟨rfl,E,q3,q9,ism⟩ F
  refine wp_seq_k fun K10 hK10=>?_
  refine wp_seq_k fun K11 hK11=>?_
  refine wp_region_lit ?_
  refine F.mv ?_;clear F fa;intro fa F
  refine F.vl (R_field rfl (F.at rfl) Try.underlying28 rfl (n:=2) (sz:=1) rfl (by kernel_rfl) (by decide)) ?_;clear F fa;intro fa F
  refine F.vl (R_load rfl (F.at rfl) Try.underlying3 rfl ((cells_of_block q3 2).trans (getS (getS (get0))))) ?_;clear F fa;intro fa F
  refine F.vl (R_lss rfl (F.at rfl) (F.at rfl)) ?_;clear F fa;intro fa F
  refine wpList_nil ?_
  refine hK11 _ _ ?_
  clear hK11
  refine cd_if F rfl (fun hc43=>?_) (fun hc43=>?_)
  ·skip
   refine wp_skip ?_
   refine hK10 _ _ ?_
   clear hK10
   refine wp_seq_k fun K12 hK12=>?_
   refine wp_block ?_
   refine wp_seq_k fun K13 hK13=>?_
   have hiT : (i : Int) < t.T:=by omega
   have hlu:=rp_lt hL.ok hnn (i:=(i : Int)) (by omega) hiT
   have k3:=ref_at9 hL.ok hL.bdB hnn (i:=rnI t s a) (j:=rpI t (i : Int)) hlt hlu
   have k4:=ref_at9 hL.ok hL.bdB hnn (i:=rpI t (i : Int)) (j:=rnI t s a) hlu hlt
   rw [phi_t hL.ok (by omega),phi_n hL.ok s0 s1 a0 a1] at k3 k4
   obtain ⟨g1,g2,g3⟩:=nxt_bds hL s0 s1 a0 a1 hiT
   have e1 : -(bdV t 0 (nodeC s a) (nodeT (i : Int))) - t.sl = nxtLo t s a i:=rfl
   have e2 : bdV t 0 (nodeT (i : Int)) (nodeC s a) + t.sl = nxtHi t s a i:=rfl
   suffices hcut : ∀ (n15 : Nat) (fa : Act) (w31 : World),Has 92 fa [(1,.int .i64 s),(2,.int .i64 a),(3,.pointer (some ⟨n3,0,none⟩)),(9,.pointer (some ⟨n9,0,none⟩)),(11,.int .i64 ((rnI t s a : Nat) : Int)),(12,.int .i64 ((nxtTo t s a i).1)),(13,.int .i64 ((nxtTo t s a i).2)),(14,.int .i64 ((i : Nat) : Int)),(15,.pointer (some ⟨n15,0,none⟩))] → w31.heap[n3]? = some (.cells #[.int .i64 t.S,.int .i64 t.A,.int .i64 t.T,.int .i64 t.bl,.int .i64 t.bm,.int .i64 t.pl,.int .i64 t.pm,.int .i64 t.sl,.slice ga t.gr.length gc,.slice ra t.rd.length rc,.slice la t.lk.length lc] 28 (0,0)) → w31.heap[n9]? = some (.cells #[.slice oa k oc] 111 (0,0)) → w31.heap[n15]? = some (.cells #[.int .i64 (-(bdV t 0 (nodeC s a) (nodeT (i : Int)))),.int .i64 (bdV t 0 (nodeT (i : Int)) (nodeC s a))] 23 (0,0)) → Ext [] w w31 → w.heap.size ≤ n15 → n3 ≠ n15 → n9 ≠ n15 → IsM w31 w.heap.size oa oc va vc k (kTt k (looseR t) k) → K13 fa w31 by
    refine region_x (Ext [] w18) none follows fun w19 hh eh=>?_
    have q3_:=q3
    replace q3:=keep_same hh q3
    have q9_:=q9
    replace q9:=keep_same hh q9
    have E_:=E
    have zEw19:=E.size
    replace E:=ext_same E eh
    replace ism:=ism_lift ism (fun _ _ _ h=>owns_same hh h) (fun _ _ _ h=>owns_same hh h)
    have eT:=eh
    clear hh eh
    refine F.xr (i:=0) rfl (fun w' hS=>R_loadBlk rfl (F.at rfl) Try.underlying111 rfl (by kernel_rfl) (hS.keep q9_ (by simp))) (fun _=>eT) ?_;clear F fa;intro fa F
    refine F.x (i:=1) rfl (fun w'=>R_move rfl (F.at rfl)) (fun _=>eT) ?_;clear F fa;intro fa F
    refine F.xr (i:=2) rfl (fun w' hS=>R_loadBlk rfl (F.at rfl) Try.underlying28 rfl (by kernel_rfl) (hS.keep q3_ (by simp))) (fun _=>eT) ?_;clear F fa;intro fa F
    refine F.x (i:=3) rfl (fun w'=>R_move rfl (F.at rfl)) (fun _=>eT) ?_;clear F fa;intro fa F
    refine ax_pair (i:=4) (j:=6) (by kernel_rfl) ?_ ?_
    ·skip
     refine (op_call F rfl rfl (by decide) rfl (R_callV rfl rfl Try.call99 (mpS (F.at rfl) (mpS (F.at rfl) mp0))) (refPulled_any hL.ok _ _ _ (i : Int) _ (by omega) hiT) fun e w20 hR=>?_)
     obtain ⟨rfl,e9⟩:=hR
     refine ⟨_,rfl,?_⟩;clear F fa;intro fa F
     replace ism:=ism_lift ism (fun _ _ _ h=>owns_ext h (e9) (by simp)) (fun _ _ _ h=>owns_ext h (e9) (by simp))
     replace q3:=(e9).keep0 q3
     replace q9:=(e9).keep0 q9
     replace E:=ext_same E (e9)
     replace eT:=ext_same eT (e9)
     clear e9
     refine ⟨fun _=>eT,?_⟩
     refine ax_pair (i:=5) (j:=6) (by kernel_rfl) ?_ ?_
     ·skip
      refine (op_call F rfl rfl (by decide) rfl (R_callV rfl rfl Try.call95 (mpS (F.at rfl) (mpS (F.at rfl) (mpS (F.at rfl) mp0)))) (refSpan_eq (nR_13 hL.ok hnn).1 (ism_mf ism) (rnI t s a) (rpI t (i : Int)) hlt hlu k4 k3) fun e w21 hR=>?_)
      obtain ⟨rfl,e9⟩:=hR
      refine ⟨_,rfl,?_⟩;clear F fa;intro fa F
      replace ism:=ism_lift ism (fun _ _ _ h=>owns_ext h (e9) (by simp)) (fun _ _ _ h=>owns_ext h (e9) (by simp))
      replace q3:=(e9).keep0 q3
      replace q9:=(e9).keep0 q9
      replace E:=ext_same E (e9)
      replace eT:=ext_same eT (e9)
      clear e9
      refine ⟨fun _=>eT,?_⟩
      refine ax_only (i:=6) (by kernel_rfl) (op_new F rfl rfl (by decide) rfl (R_alloc rfl Try.zeroValue23) ?_);clear F fa;intro fa w22 F hw
      obtain ⟨n15,hn⟩ : ∃ n,n = w21.heap.size:=⟨_,rfl⟩
      rw [← hn] at F
      have s15 : w21.heap.size ≤ n15:=Nat.le_of_eq hn.symm
      have l15_E : w.heap.size ≤ n15:=by rw [hn];exact E.size
      have lT15 : w18.heap.size ≤ n15:=by rw [hn];exact eT.size
      have m15_3 : n3 < n15:=by rw [hn];exact blk_lt q3
      have m15_9 : n9 < n15:=by rw [hn];exact blk_lt q9
      replace ism:=ism_lift ism (fun _ _ _ h=>owns_alloc hw h) (fun _ _ _ h=>owns_alloc hw h)
      replace q3:=keep_alloc hw q3
      replace q9:=keep_alloc hw q9
      replace E:=ext_alloc E hw
      replace eT:=ext_alloc eT hw
      have q15:=new_row hw hn
      clear hw hn
      refine ⟨fun _=>eT,?_⟩
      refine ax_only (i:=7) (by kernel_rfl) (op_to rfl rfl rfl (R_storeRow rfl (F.at rfl) (F.at rfl) (by kernel_rfl) (by first | (simp [Value.oneCell'];done) | (simp [Value.oneCell',grRow,rdRow,lkRow];done)) q15 rfl) ?_);intro w23 hw
      replace ism:=ism_lift ism (fun _ _ _ h=>owns_cellsX hw h (own_ne_type h q15 (by decide))) (fun _ _ _ h=>owns_cellsX hw h (own_ne_type h q15 (by decide)))
      replace q3:=keep_cells hw q3 (by omega)
      replace q9:=keep_cells hw q9 (by omega)
      replace q15:=put_row hw q15 rfl
      replace E:=ext_cells E hw (fun h=>by first | exact absurd h (by omega) | simp)
      replace eT:=ext_cells eT hw (fun h=>by first | exact absurd h (by omega) | simp)
      clear hw
      refine ⟨fun _=>eT,?_⟩
      refine ax_done (by kernel_rfl) ?_ _
      exact hcut _ _ _ (F.sub (.c 1 rfl (.c 2 rfl (.c 3 rfl (.c 9 rfl (.c 11 rfl (.c 12 rfl (.c 13 rfl (.c 14 rfl (.c 15 rfl .n)))))))))) q3 q9 q15 E (by omega) (by omega) (by omega) ism
     ·skip
      refine (op_new F rfl rfl (by decide) rfl (R_alloc rfl Try.zeroValue23) ?_);clear F fa;intro fa w24 F hw
      obtain ⟨n15,hn⟩ : ∃ n,n = w20.heap.size:=⟨_,rfl⟩
      rw [← hn] at F
      have s15 : w20.heap.size ≤ n15:=Nat.le_of_eq hn.symm
      have l15_E : w.heap.size ≤ n15:=by rw [hn];exact E.size
      have lT15 : w18.heap.size ≤ n15:=by rw [hn];exact eT.size
      have m15_3 : n3 < n15:=by rw [hn];exact blk_lt q3
      have m15_9 : n9 < n15:=by rw [hn];exact blk_lt q9
      replace ism:=ism_lift ism (fun _ _ _ h=>owns_alloc hw h) (fun _ _ _ h=>owns_alloc hw h)
      replace q3:=keep_alloc hw q3
      replace q9:=keep_alloc hw q9
      replace E:=ext_alloc E hw
      replace eT:=ext_alloc eT hw
      have q15:=new_row hw hn
      clear hw hn
      refine ⟨fun _=>eT,?_⟩
      refine ax_only (i:=5) (by kernel_rfl) (op_call F rfl rfl (by decide) rfl (R_callV rfl rfl Try.call95 (mpS (F.at rfl) (mpS (F.at rfl) (mpS (F.at rfl) mp0)))) (refSpan_eq (nR_13 hL.ok hnn).1 (ism_mf ism) (rnI t s a) (rpI t (i : Int)) hlt hlu k4 k3) fun e w25 hR=>?_)
      obtain ⟨rfl,e9⟩:=hR
      refine ⟨_,rfl,?_⟩;clear F fa;intro fa F
      replace ism:=ism_lift ism (fun _ _ _ h=>owns_ext h (e9) (by simp)) (fun _ _ _ h=>owns_ext h (e9) (by simp))
      replace q3:=(e9).keep0 q3
      replace q9:=(e9).keep0 q9
      replace q15:=(e9).keep0 q15
      replace E:=ext_same E (e9)
      replace eT:=ext_same eT (e9)
      clear e9
      refine ⟨fun _=>eT,?_⟩
      refine ax_only (i:=7) (by kernel_rfl) (op_to rfl rfl rfl (R_storeRow rfl (F.at rfl) (F.at rfl) (by kernel_rfl) (by first | (simp [Value.oneCell'];done) | (simp [Value.oneCell',grRow,rdRow,lkRow];done)) q15 rfl) ?_);intro w26 hw
      replace ism:=ism_lift ism (fun _ _ _ h=>owns_cellsX hw h (own_ne_type h q15 (by decide))) (fun _ _ _ h=>owns_cellsX hw h (own_ne_type h q15 (by decide)))
      replace q3:=keep_cells hw q3 (by omega)
      replace q9:=keep_cells hw q9 (by omega)
      replace q15:=put_row hw q15 rfl
      replace E:=ext_cells E hw (fun h=>by first | exact absurd h (by omega) | simp)
      replace eT:=ext_cells eT hw (fun h=>by first | exact absurd h (by omega) | simp)
      clear hw
      refine ⟨fun _=>eT,?_⟩
      refine ax_done (by kernel_rfl) ?_ _
      exact hcut _ _ _ (F.sub (.c 1 rfl (.c 2 rfl (.c 3 rfl (.c 9 rfl (.c 11 rfl (.c 12 rfl (.c 13 rfl (.c 14 rfl (.c 15 rfl .n)))))))))) q3 q9 q15 E (by omega) (by omega) (by omega) ism
    ·skip
     refine (op_new F rfl rfl (by decide) rfl (R_alloc rfl Try.zeroValue23) ?_);clear F fa;intro fa w27 F hw
     obtain ⟨n15,hn⟩ : ∃ n,n = w19.heap.size:=⟨_,rfl⟩
     rw [← hn] at F
     have s15 : w19.heap.size ≤ n15:=Nat.le_of_eq hn.symm
     have l15_E : w.heap.size ≤ n15:=by rw [hn];exact E.size
     have lT15 : w18.heap.size ≤ n15:=by rw [hn];exact eT.size
     have m15_3 : n3 < n15:=by rw [hn];exact blk_lt q3
     have m15_9 : n9 < n15:=by rw [hn];exact blk_lt q9
     replace ism:=ism_lift ism (fun _ _ _ h=>owns_alloc hw h) (fun _ _ _ h=>owns_alloc hw h)
     replace q3:=keep_alloc hw q3
     replace q9:=keep_alloc hw q9
     replace E:=ext_alloc E hw
     replace eT:=ext_alloc eT hw
     have q15:=new_row hw hn
     clear hw hn
     refine ⟨fun _=>eT,?_⟩
     refine ax_only (i:=4) (by kernel_rfl) (op_call F rfl rfl (by decide) rfl (R_callV rfl rfl Try.call99 (mpS (F.at rfl) (mpS (F.at rfl) mp0))) (refPulled_any hL.ok _ _ _ (i : Int) _ (by omega) hiT) fun e w28 hR=>?_)
     obtain ⟨rfl,e9⟩:=hR
     refine ⟨_,rfl,?_⟩;clear F fa;intro fa F
     replace ism:=ism_lift ism (fun _ _ _ h=>owns_ext h (e9) (by simp)) (fun _ _ _ h=>owns_ext h (e9) (by simp))
     replace q3:=(e9).keep0 q3
     replace q9:=(e9).keep0 q9
     replace q15:=(e9).keep0 q15
     replace E:=ext_same E (e9)
     replace eT:=ext_same eT (e9)
     clear e9
     refine ⟨fun _=>eT,?_⟩
     refine ax_only (i:=5) (by kernel_rfl) (op_call F rfl rfl (by decide) rfl (R_callV rfl rfl Try.call95 (mpS (F.at rfl) (mpS (F.at rfl) (mpS (F.at rfl) mp0)))) (refSpan_eq (nR_13 hL.ok hnn).1 (ism_mf ism) (rnI t s a) (rpI t (i : Int)) hlt hlu k4 k3) fun e w29 hR=>?_)
     obtain ⟨rfl,e9⟩:=hR
     refine ⟨_,rfl,?_⟩;clear F fa;intro fa F
     replace ism:=ism_lift ism (fun _ _ _ h=>owns_ext h (e9) (by simp)) (fun _ _ _ h=>owns_ext h (e9) (by simp))
     replace q3:=(e9).keep0 q3
     replace q9:=(e9).keep0 q9
     replace q15:=(e9).keep0 q15
     replace E:=ext_same E (e9)
     replace eT:=ext_same eT (e9)
     clear e9
     refine ⟨fun _=>eT,?_⟩
     refine ax_only (i:=7) (by kernel_rfl) (op_to rfl rfl rfl (R_storeRow rfl (F.at rfl) (F.at rfl) (by kernel_rfl) (by first | (simp [Value.oneCell'];done) | (simp [Value.oneCell',grRow,rdRow,lkRow];done)) q15 rfl) ?_);intro w30 hw
     replace ism:=ism_lift ism (fun _ _ _ h=>owns_cellsX hw h (own_ne_type h q15 (by decide))) (fun _ _ _ h=>owns_cellsX hw h (own_ne_type h q15 (by decide)))
     replace q3:=keep_cells hw q3 (by omega)
     replace q9:=keep_cells hw q9 (by omega)
     replace q15:=put_row hw q15 rfl
     replace E:=ext_cells E hw (fun h=>by first | exact absurd h (by omega) | simp)
     replace eT:=ext_cells eT hw (fun h=>by first | exact absurd h (by omega) | simp)
     clear hw
     refine ⟨fun _=>eT,?_⟩
     refine ax_done (by kernel_rfl) ?_ _
     exact hcut _ _ _ (F.sub (.c 1 rfl (.c 2 rfl (.c 3 rfl (.c 9 rfl (.c 11 rfl (.c 12 rfl (.c 13 rfl (.c 14 rfl (.c 15 rfl .n)))))))))) q3 q9 q15 E (by omega) (by omega) (by omega) ism
   clear F q3 q9 E ism fa
   intro n15  fa w31 F q3 q9 q15 E l15_E m15_3 m15_9 ism
   refine hK13 _ _ ?_
   clear hK13
   refine wp_seq_k fun K14 hK14=>?_
   refine wp_region_lit ?_
   refine F.vl (R_assign rfl (ev_c fa _)) ?_;clear F fa;intro fa F
   rw [show (0 : Int) = mxF t s a i (nxtLo t s a i) 0 from rfl] at F
   refine wpList_nil ?_
   refine hK14 _ _ ?_
   clear hK14
   refine wp_seq_k fun K15 hK15=>?_
   refine wp_seq_k fun K16 hK16=>?_
   refine wp_region_lit ?_
   refine F.vl (R_field rfl (F.at rfl) Try.underlying23 rfl (n:=0) (sz:=1) rfl (by kernel_rfl) (by decide)) ?_;clear F fa;intro fa F
   refine F.vl (R_load rfl (F.at rfl) Try.underlying3 rfl ((cells_of_block q15 0).trans (get0))) ?_;clear F fa;intro fa F
   refine F.vl (R_field rfl (F.at rfl) Try.underlying28 rfl (n:=7) (sz:=1) rfl (by kernel_rfl) (by decide)) ?_;clear F fa;intro fa F
   refine F.vl (R_load rfl (F.at rfl) Try.underlying3 rfl ((cells_of_block q3 7).trans (getS (getS (getS (getS (getS (getS (getS (get0)))))))))) ?_;clear F fa;intro fa F
   refine F.vl (R_sub rfl (F.at rfl) (F.at rfl) (by omega) (by omega)) ?_;clear F fa;intro fa F
   rw [show -(bdV t 0 (nodeC s a) (nodeT (i : Int))) - t.sl = nxtLo t s a i + ((0 : Nat) : Int) by omega] at F
   refine F.as ?_;clear F fa;intro fa F
   refine wpList_nil ?_
   refine hK16 _ _ ?_
   clear hK16
   refine wp_block ?_
   have F0:=F.sub (.c 1 rfl (.c 2 rfl (.c 3 rfl (.c 9 rfl (.c 11 rfl (.c 12 rfl (.c 13 rfl (.c 14 rfl (.c 15 rfl .n)))))))))
   refine lp_for F0 (nxN t s a i) (fun j Lv W=>Lv = [(16,.int .i64 (mxF t s a i (nxtLo t s a i) j)),(17,.int .i64 (nxtLo t s a i + ((j : Nat) : Int)))] ∧ Ext [] w W ∧ W.heap[n3]? = some (.cells #[.int .i64 t.S,.int .i64 t.A,.int .i64 t.T,.int .i64 t.bl,.int .i64 t.bm,.int .i64 t.pl,.int .i64 t.pm,.int .i64 t.sl,.slice ga t.gr.length gc,.slice ra t.rd.length rc,.slice la t.lk.length lc] 28 (0,0)) ∧ W.heap[n9]? = some (.cells #[.slice oa k oc] 111 (0,0)) ∧ W.heap[n15]? = some (.cells #[.int .i64 (-(bdV t 0 (nodeC s a) (nodeT (i : Int)))),.int .i64 (bdV t 0 (nodeT (i : Int)) (nodeC s a))] 23 (0,0)) ∧ IsM W w.heap.size oa oc va vc k (kTt k (looseR t) k)) ⟨_,⟨rfl,E,q3,q9,q15,ism⟩,F.sub (.c 16 rfl (.c 17 rfl (.c 1 rfl (.c 2 rfl (.c 3 rfl (.c 9 rfl (.c 11 rfl (.c 12 rfl (.c 13 rfl (.c 14 rfl (.c 15 rfl .n)))))))))))⟩ ?_
   clear F F0
   clear E q3 q9 q15 ism
   rintro j _ fa w32 hi2 ⟨rfl,E,q3,q9,q15,ism⟩ F
   have hjN : (j : Int) ≤ nxtHi t s a i - nxtLo t s a i + 1:=by have : nxN t s a i = (nxtHi t s a i - nxtLo t s a i + 1).toNat:=rfl;omega
   refine wp_seq_k fun K17 hK17=>?_
   refine wp_seq_k fun K18 hK18=>?_
   refine wp_region_lit ?_
   refine F.mv ?_;clear F fa;intro fa F
   refine F.vl (R_field rfl (F.at rfl) Try.underlying23 rfl (n:=1) (sz:=1) rfl (by kernel_rfl) (by decide)) ?_;clear F fa;intro fa F
   refine F.vl (R_load rfl (F.at rfl) Try.underlying3 rfl ((cells_of_block q15 1).trans (getS (get0)))) ?_;clear F fa;intro fa F
   refine F.vl (R_field rfl (F.at rfl) Try.underlying28 rfl (n:=7) (sz:=1) rfl (by kernel_rfl) (by decide)) ?_;clear F fa;intro fa F
   refine F.vl (R_load rfl (F.at rfl) Try.underlying3 rfl ((cells_of_block q3 7).trans (getS (getS (getS (getS (getS (getS (getS (get0)))))))))) ?_;clear F fa;intro fa F
   refine F.vl (R_add rfl (F.at rfl) (F.at rfl) (by omega) (by omega)) ?_;clear F fa;intro fa F
   refine F.vl (R_leq rfl (F.at rfl) (F.at rfl)) ?_;clear F fa;intro fa F
   refine wpList_nil ?_
   refine hK18 _ _ ?_
   clear hK18
   refine cd_if F rfl (fun hc63=>?_) (fun hc63=>?_)
   ·skip
    refine wp_skip ?_
    refine hK17 _ _ ?_
    clear hK17
    refine wp_seq_k fun K19 hK19=>?_
    refine wp_block ?_
    refine wp_seq_k fun K20 hK20=>?_
    obtain ⟨okR,hbR⟩:=next_satI hL s0 s1 a0 a1 hiT (tape:=nxtLo t s a i + ((j : Nat) : Int)) (by omega) (by omega)
    have hnR:=addR_n hnn (s,a,(i : Int),nxtLo t s a i + ((j : Nat) : Int))
    refine wp_region_lit ?_
    refine F.vl (R_loadBlk rfl (F.at rfl) Try.underlying28 rfl (by kernel_rfl) q3) ?_;clear F fa;intro fa F
    refine F.mv ?_;clear F fa;intro fa F
    refine F.mv ?_;clear F fa;intro fa F
    refine F.mv ?_;clear F fa;intro fa F
    refine F.mv ?_;clear F fa;intro fa F
    refine F.vl (R_buildV rfl (prS (F.at rfl) (prS (F.at rfl) (prS (F.at rfl) (prS (F.at rfl) pr0)))) (cells:=#[.int .i64 s,.int .i64 a,.int .i64 ((i : Nat) : Int),.int .i64 (nxtLo t s a i + ((j : Nat) : Int))]) (by kernel_rfl)) ?_;clear F fa;intro fa F
    refine sq_call F rfl (by decide) rfl (R_callV rfl rfl Try.call104 (mpS (F.at rfl) (mpS (F.at rfl) mp0))) (refWith_any t (s,a,(i : Int),nxtLo t s a i + ((j : Nat) : Int)) ga ra la gc rc lc _ (HT.out.ext E (by simp)) l2) fun e w33 hR=>?_
    obtain ⟨xa,xc,rfl,hrx,eX⟩:=hR
    refine ⟨_,rfl,?_⟩;clear F fa;intro fa F
    replace ism:=ism_lift ism (fun _ _ _ h=>owns_ext h (eX) (by simp)) (fun _ _ _ h=>owns_ext h (eX) (by simp))
    replace q3:=(eX).keep0 q3
    replace q9:=(eX).keep0 q9
    replace q15:=(eX).keep0 q15
    replace E:=ext_same E (eX)
    have hle2:=E.size
    refine sq_call F rfl (by decide) rfl (R_callV rfl rfl Try.call81 (mpS (F.at rfl) mp0)) (refNarrow_any okR hnR ga xa la gc xc lc _ ⟨(HT.out.ext E (by simp)).gr,hrx,(HT.out.ext E (by simp)).lk⟩) fun e w34 hR=>?_
    obtain ⟨ob,oc2,vb,vc2,rfl,ism2,eX⟩:=hR
    refine ⟨_,rfl,?_⟩;clear F fa;intro fa F
    replace ism:=ism_lift ism (fun _ _ _ h=>owns_ext h (eX) (by simp)) (fun _ _ _ h=>owns_ext h (eX) (by simp))
    replace q3:=(eX).keep0 q3
    replace q9:=(eX).keep0 q9
    replace q15:=(eX).keep0 q15
    replace E:=ext_same E (eX)
    replace ism2:=ism_lower ism2 hle2
    refine F.mv ?_;clear F fa;intro fa F
    refine F.vl (R_extract rfl (F.at rfl) (get0)) ?_;clear F fa;intro fa F
    refine F.vl (R_extract rfl (F.at rfl) (getS (get0))) ?_;clear F fa;intro fa F
    refine sq_new F rfl (by decide) rfl (R_alloc rfl Try.zeroValue111) ?_;clear F fa;intro fa w35 F hw
    obtain ⟨n18,hn⟩ : ∃ n,n = w34.heap.size:=⟨_,rfl⟩
    rw [← hn] at F
    have s18 : w34.heap.size ≤ n18:=Nat.le_of_eq hn.symm
    have l18_E : w.heap.size ≤ n18:=by rw [hn];exact E.size
    have m18_3 : n3 < n18:=by rw [hn];exact blk_lt q3
    have m18_9 : n9 < n18:=by rw [hn];exact blk_lt q9
    have m18_15 : n15 < n18:=by rw [hn];exact blk_lt q15
    replace ism:=ism_lift ism (fun _ _ _ h=>owns_alloc hw h) (fun _ _ _ h=>owns_alloc hw h)
    replace ism2:=ism_lift ism2 (fun _ _ _ h=>owns_alloc hw h) (fun _ _ _ h=>owns_alloc hw h)
    replace q3:=keep_alloc hw q3
    replace q9:=keep_alloc hw q9
    replace q15:=keep_alloc hw q15
    replace E:=ext_alloc E hw
    have q18:=new_row hw hn
    clear hw hn
    refine sq_to rfl rfl (R_storeRow rfl (F.at rfl) (F.at rfl) (by kernel_rfl) (by first | (simp [Value.oneCell'];done) | (simp [Value.oneCell',grRow,rdRow,lkRow];done)) q18 rfl) ?_;intro w36 hw
    replace ism:=ism_lift ism (fun _ _ _ h=>owns_cellsX hw h (own_ne_type h q18 (by decide))) (fun _ _ _ h=>owns_cellsX hw h (own_ne_type h q18 (by decide)))
    replace ism2:=ism_lift ism2 (fun _ _ _ h=>owns_cellsX hw h (own_ne_type h q18 (by decide))) (fun _ _ _ h=>owns_cellsX hw h (own_ne_type h q18 (by decide)))
    replace q3:=keep_cells hw q3 (by omega)
    replace q9:=keep_cells hw q9 (by omega)
    replace q15:=keep_cells hw q15 (by omega)
    replace q18:=put_row hw q18 rfl
    replace E:=ext_cells E hw (fun h=>by first | exact absurd h (by omega) | simp)
    clear hw
    refine F.as ?_;clear F fa;intro fa F
    refine wpList_nil ?_
    have k5:=ref_at9 okR hbR hnR (i:=rnI t s a) (j:=0) hlt hl0
    have k6:=ref_at9 okR hbR hnR (i:=0) (j:=rnI t s a) hl0 hlt
    rw [phi_0,show phi_ (addR t (s,a,(i : Int),nxtLo t s a i + ((j : Nat) : Int))) (rnI t s a) = nodeC s a from phi_n hL.ok s0 s1 a0 a1] at k5 k6
    refine hK20 _ _ ?_
    clear hK20
    refine wp_region_lit ?_
    refine F.mv ?_;clear F fa;intro fa F
    refine F.vl (R_loadBlk rfl (F.at rfl) Try.underlying111 rfl (by kernel_rfl) q18) ?_;clear F fa;intro fa F
    refine F.mv ?_;clear F fa;intro fa F
    refine sq_call F rfl (by decide) rfl (R_callV rfl rfl Try.call95 (mpS (F.at rfl) (mpS (F.at rfl) (mpS (ev_c fa _) mp0)))) (refSpan_eq (nR_13 hL.ok hnn).1 (ism_mf ism2) (rnI t s a) 0 hlt hl0 k6 k5) fun e w37 hR=>?_
    obtain ⟨rfl,e9⟩:=hR
    refine ⟨_,rfl,?_⟩;clear F fa;intro fa F
    replace ism:=ism_lift ism (fun _ _ _ h=>owns_ext h (e9) (by simp)) (fun _ _ _ h=>owns_ext h (e9) (by simp))
    replace ism2:=ism_lift ism2 (fun _ _ _ h=>owns_ext h (e9) (by simp)) (fun _ _ _ h=>owns_ext h (e9) (by simp))
    replace q3:=(e9).keep0 q3
    replace q9:=(e9).keep0 q9
    replace q15:=(e9).keep0 q15
    replace q18:=(e9).keep0 q18
    replace E:=ext_same E (e9)
    clear e9
    refine sq_call F rfl (by decide) rfl (R_callV rfl rfl Try.call103 (mpS (F.at rfl) mp0)) (refNumbers_any _ _ (numB (addR t (s,a,(i : Int),nxtLo t s a i + ((j : Nat) : Int))) (nodeC s a)) (by unfold numB;omega) _ (by omega) (by omega) (by omega) (by omega)) fun e w38 hR=>?_
    obtain ⟨rfl,e9⟩:=hR
    refine ⟨_,rfl,?_⟩;clear F fa;intro fa F
    replace ism:=ism_lift ism (fun _ _ _ h=>owns_ext h (e9) (by simp)) (fun _ _ _ h=>owns_ext h (e9) (by simp))
    replace ism2:=ism_lift ism2 (fun _ _ _ h=>owns_ext h (e9) (by simp)) (fun _ _ _ h=>owns_ext h (e9) (by simp))
    replace q3:=(e9).keep0 q3
    replace q9:=(e9).keep0 q9
    replace q15:=(e9).keep0 q15
    replace q18:=(e9).keep0 q18
    replace E:=ext_same E (e9)
    clear e9
    refine F.vl (R_max rfl rfl (F.at rfl) (F.at rfl)) ?_;clear F fa;intro fa F
    rw [show max (mxF t s a i (nxtLo t s a i) j) (numB (addR t (s,a,(i : Int),nxtLo t s a i + ((j : Nat) : Int))) (nodeC s a)) = mxF t s a i (nxtLo t s a i) (j + 1) from rfl] at F
    refine F.as ?_;clear F fa;intro fa F
    refine wpList_nil ?_
    refine hK19 _ _ ?_
    clear hK19
    refine wp_region_lit ?_
    refine F.mv ?_;clear F fa;intro fa F
    refine F.vl (R_add rfl (F.at rfl) (ev_c fa _) (by omega) (by omega)) ?_;clear F fa;intro fa F
    rw [show nxtLo t s a i + ((j : Nat) : Int) + 1 = nxtLo t s a i + ((j + 1 : Nat) : Int) by omega] at F
    refine F.as ?_;clear F fa;intro fa F
    refine wpList_nil ?_
    show _ ∧ _
    exact ⟨by unfold nxN;omega,_,⟨rfl,E,q3,q9,q15,ism⟩,F.sub (.c 16 rfl (.c 17 rfl (.c 1 rfl (.c 2 rfl (.c 3 rfl (.c 9 rfl (.c 11 rfl (.c 12 rfl (.c 13 rfl (.c 14 rfl (.c 15 rfl .n)))))))))))⟩
   ·skip
    refine wp_exit ?_
    obtain rfl : j = nxN t s a i:=by have : nxN t s a i = (nxtHi t s a i - nxtLo t s a i + 1).toNat:=rfl;omega
    refine hK15 _ _ ?_
    clear hK15
    refine wp_seq_k fun K21 hK21=>?_
    have hst:=nxt_step hL s0 s1 a0 a1 hiT (nxt_left hL s0 s1 a0 a1 i (by omega))
    refine wp_region_lit ?_
    refine F.mv ?_;clear F fa;intro fa F
    refine F.mv ?_;clear F fa;intro fa F
    refine F.vl (R_lss rfl (F.at rfl) (F.at rfl)) ?_;clear F fa;intro fa F
    refine wpList_nil ?_
    refine hK21 _ _ ?_
    clear hK21
    refine cd_if F rfl (fun hc85=>?_) (fun hc85=>?_)
    ·skip
     rw [if_pos hc85] at hst
     refine wp_region_lit ?_
     refine F.mv ?_;clear F fa;intro fa F
     refine F.mv ?_;clear F fa;intro fa F
     refine F.as ?_;clear F fa;intro fa F
     refine F.as ?_;clear F fa;intro fa F
     refine wpList_nil ?_
     replace F:=F.re (k:=12) rfl (congrArg (Value.int .i64) (show (i : Int) = (nxtTo t s a (i + 1)).1 by rw [hst]))
     replace F:=F.re (k:=13) rfl (congrArg (Value.int .i64) (show mxF t s a i (nxtLo t s a i) (nxN t s a i) = (nxtTo t s a (i + 1)).2 by rw [hst]))
     refine hK12 _ _ ?_
     clear hK12
     refine wp_region_lit ?_
     refine F.mv ?_;clear F fa;intro fa F
     refine F.vl (R_add rfl (F.at rfl) (ev_c fa _) (by omega) (by omega)) ?_;clear F fa;intro fa F
     refine F.as ?_;clear F fa;intro fa F
     refine wpList_nil ?_
     show _ ∧ _
     exact ⟨by omega,_,⟨rfl,E,q3,q9,ism⟩,F.sub (.c 12 rfl (.c 13 rfl (.c 14 rfl (.c 1 rfl (.c 2 rfl (.c 3 rfl (.c 9 rfl (.c 11 rfl .n))))))))⟩
    ·skip
     rw [if_neg hc85] at hst
     replace F:=F.re (k:=12) rfl (congrArg (Value.int .i64) (show (nxtTo t s a i).1 = (nxtTo t s a (i + 1)).1 by rw [hst]))
     replace F:=F.re (k:=13) rfl (congrArg (Value.int .i64) (show (nxtTo t s a i).2 = (nxtTo t s a (i + 1)).2 by rw [hst]))
     refine wp_skip ?_
     refine hK12 _ _ ?_
     clear hK12
     refine wp_region_lit ?_
     refine F.mv ?_;clear F fa;intro fa F
     refine F.vl (R_add rfl (F.at rfl) (ev_c fa _) (by omega) (by omega)) ?_;clear F fa;intro fa F
     refine F.as ?_;clear F fa;intro fa F
     refine wpList_nil ?_
     show _ ∧ _
     exact ⟨by omega,_,⟨rfl,E,q3,q9,ism⟩,F.sub (.c 12 rfl (.c 13 rfl (.c 14 rfl (.c 1 rfl (.c 2 rfl (.c 3 rfl (.c 9 rfl (.c 11 rfl .n))))))))⟩
  ·skip
   refine wp_exit ?_
   obtain rfl : i = t.T.toNat:=by omega
   refine hK8 _ _ ?_
   clear hK8
   refine wp_seq_k fun K22 hK22=>?_
   refine wp_seq_k fun K23 hK23=>?_
   refine wp_region_lit ?_
   refine F.mv ?_;clear F fa;intro fa F
   refine F.vl (R_lss rfl (F.at rfl) (ev_c fa _)) ?_;clear F fa;intro fa F
   refine wpList_nil ?_
   refine hK23 _ _ ?_
   clear hK23
   refine cd_if F rfl (fun hc89=>?_) (fun hc89=>?_)
   ·skip
    refine wp_seq_k fun K24 hK24=>?_
    refine wp_region_lit ?_
    refine F.vl (R_assign rfl (ev_c fa _)) ?_;clear F fa;intro fa F
    refine F.vl (R_assign rfl (ev_c fa _)) ?_;clear F fa;intro fa F
    refine F.vl (R_assign rfl (ev_c fa _)) ?_;clear F fa;intro fa F
    refine wpList_nil ?_
    refine hK24 _ _ ?_
    clear hK24
    refine wp_ret ?_
    (try simp only [Exit.inBlock,Exit.then])
    refine rt_v F (rs_3 F rfl rfl rfl rfl) ?_
    exact ⟨by obtain ⟨e1,e2⟩:=next_none (t:=t) (s:=s) (a:=a) (by rw [hbe];omega) (by omega);rw [e1,e2],E⟩
   ·skip
    refine wp_skip ?_
    refine hK22 _ _ ?_
    clear hK22
    refine wp_seq_k fun K25 hK25=>?_
    refine wp_region_lit ?_
    refine F.mv ?_;clear F fa;intro fa F
    refine F.mv ?_;clear F fa;intro fa F
    refine F.as ?_;clear F fa;intro fa F
    refine F.as ?_;clear F fa;intro fa F
    refine F.vl (R_assign rfl (ev_c fa _)) ?_;clear F fa;intro fa F
    refine wpList_nil ?_
    refine hK25 _ _ ?_
    clear hK25
    refine wp_ret ?_
    (try simp only [Exit.inBlock,Exit.then])
    refine rt_v F (rs_3 F rfl rfl rfl rfl) ?_
    exact ⟨by obtain ⟨e1,e2⟩:=next_some (t:=t) (s:=s) (a:=a) (by rw [hbe];omega) (by omega);rw [e1,e2],E⟩
end Go.Proofs.Ytholfdgebdlgjaa
