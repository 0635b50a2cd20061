/- Parts of a proof: Rq, LBou. No conditions. -/
import Derived.Test.YtholfdgebdlgjaaPA8
import Derived.Test.YtholfdgebdlgjaaPA12
import Derived.Test.YtholfdgebdlgjaaPA13
import Derived.Test.YtholfdgebdlgjaaPA15
set_option linter.unusedVariables false
set_option linter.unusedSimpArgs false
namespace Go.Proofs.Ytholfdgebdlgjaa
open Go.RowKit
theorem R_wsub {P : Program} {ρ : Operand → Value} {o : Oper} {w : World} {x y : Operand} {t t' : TypeId} {k : IntKind} {n m : Int} (ho : o.op = .binOp .sub t x y t') (hx : ρ x = .int k n) (hy : ρ y = .int k m) : (execOp ρ o).run P w = .ok (.value (.int k (k.wrap (n - m)))) w:=by
 unfold execOp
 simp [ho,hx,hy,eqGuard,binOp,go_sem]
def lessW (n : Int) : Int:=IntKind.i64.wrap (n - 1)
theorem lessW_eq {n : Int} (h1 : -1000000 ≤ n) (h2 : n ≤ 1000000) : lessW n = n - 1:=by
 unfold lessW IntKind.wrap IntKind.bits IntKind.signed
 simp
 omega
def isMB (t : Tp) (s a : Int) : Bool:=decide (0 ≤ s ∧ s ≤ lessW t.S) && decide (0 ≤ a ∧ a ≤ lessW t.A)
theorem isMB_iff {t : Tp} (ok : t.Ok) {s a : Int} : isMB t s a = true ↔ 0 ≤ s ∧ s < t.S ∧ 0 ≤ a ∧ a < t.A:=by
 have o1:=ok.S1
 have o2:=ok.S3
 have o3:=ok.A1
 have o4:=ok.A3
 rw [isMB,lessW_eq (by omega) (by omega),lessW_eq (by omega) (by omega),Bool.and_eq_true,decide_eq_true_iff,decide_eq_true_iff]
 omega
def begE (t : Tp) (b : Bool) : Int:=if checkE t ≠ 0 then checkE t else if b = false then 3 else if bdB t 0 then 0 else 9
theorem begE_zero {t : Tp} {b : Bool} (h : begE t b = 0) : t.Live ∧ b = true:=by
 unfold begE at h
 by_cases c : checkE t = 0
 ·rw [if_neg (by omega)] at h
  cases b with
  | false=>rw [if_pos rfl] at h;exact absurd h (by decide)
  | true =>
   rw [if_neg (by decide)] at h
   cases hb : bdB t 0 with
   | false=>rw [hb] at h;exact absurd h (by decide)
   | true =>
    obtain ⟨ok,h8⟩:=checkE_zero.1 c
    exact ⟨live_of ok h8 hb,rfl⟩
 ·rw [if_pos c] at h;exact absurd h c
theorem firstE_03 : ∀ {es : List Int},(∀ e ∈ es,e = 0 ∨ e = 3) → firstE es = 0 ∨ firstE es = 3
 | [],_=>.inl rfl
 | e :: r,h=>by
  rcases h e (by simp) with h0 | h0
  ·rw [show firstE (e :: r) = firstE r by simp [firstE,h0]]
   exact firstE_03 fun x hx=>h x (by simp [hx])
  ·exact .inr (by simp [firstE,h0])
theorem askE_03 (t : Tp) (xs : Nat → List Int) (i : Nat) : askE t xs i = 0 ∨ askE t xs i = 3:=firstE_03 fun e he=>by
 obtain ⟨n,-,rfl⟩:=List.mem_map.1 he
 unfold knownE
 split
 ·exact .inl rfl
 ·exact .inr rfl
theorem askE_zero {t : Tp} {xs : Nat → List Int} {i : Nat} : askE t xs i = 0 ↔ ∀ n ∈ xs i,0 ≤ n ∧ n < lim t i:=by
 rw [askE,map_zero]
 exact ⟨fun h n hn=>knownE_zero.1 (h n hn),fun h n hn=>knownE_zero.2 (h n hn)⟩
theorem open_beg {t : Tp} (hc : checkE t = 0) (xs ys zs : List Int) {b : Bool} (hb : b = true ↔ (∀ n ∈ xs,0 ≤ n ∧ n < t.S) ∧ (∀ n ∈ ys,0 ≤ n ∧ n < t.A) ∧ ∀ n ∈ zs,0 ≤ n ∧ n < t.T) : openE t (sel3 xs ys zs) = if b = false then 3 else 0:=by
 have h03 : firstE ((List.range 3).map (askE t (sel3 xs ys zs))) = 0 ∨ firstE ((List.range 3).map (askE t (sel3 xs ys zs))) = 3:=firstE_03 fun e he=>by
  obtain ⟨i,-,rfl⟩:=List.mem_map.1 he
  exact askE_03 _ _ _
 have h0 : firstE ((List.range 3).map (askE t (sel3 xs ys zs))) = 0 ↔ b = true:=by
  rw [hb,map_zero]
  constructor
  ·intro h
   exact ⟨askE_zero.1 (h 0 (by decide)),askE_zero.1 (h 1 (by decide)),askE_zero.1 (h 2 (by decide))⟩
  ·rintro ⟨h1,h2,h3⟩ i hi
   have hi:=List.mem_range.1 hi
   rcases i with _ | _ | _ | i
   ·exact askE_zero.2 h1
   ·exact askE_zero.2 h2
   ·exact askE_zero.2 h3
   ·omega
 rw [openE,if_neg (by omega)]
 cases b with
 | true=>rw [if_neg (by decide)];exact h0.2 rfl
 | false =>
  rw [if_pos rfl]
  rcases h03 with h | h
  ·exact absurd (h0.1 h) (by decide)
  ·exact h
theorem solved_beg {t : Tp} (xs ys zs : List Int) {b : Bool} (hb : t.Ok → (b = true ↔ (∀ n ∈ xs,0 ≤ n ∧ n < t.S) ∧ (∀ n ∈ ys,0 ≤ n ∧ n < t.A) ∧ ∀ n ∈ zs,0 ≤ n ∧ n < t.T)) : solvedE t (sel3 xs ys zs) = begE t b:=by
 unfold begE
 by_cases c : checkE t = 0
 ·have ho:=open_beg c xs ys zs (hb (checkE_zero.1 c).1)
  rw [if_neg (by omega),solvedE,ho]
  cases b <;> simp
 ·rw [if_pos c,solvedE,openE,if_pos c,if_pos c]
theorem apart_beg (t : Tp) (s a o h : Int) : apartE t s a o h = begE t (isMB t s a && isMB t o h):=solved_beg [s,o] [a,h] [] fun ok=>by rw [Bool.and_eq_true,isMB_iff ok,isMB_iff ok];simp;omega
set_option maxRecDepth 100000 in
theorem refIs_any (t : Tp) (gv rv lv : Value) (s a : Int) (w : World) :
  Calls Try.prog 94 #[tpV t gv rv lv,.int .i64 s,.int .i64 a] w fun e w'=>e = .returned (.bool (isMB t s a)) ∧ Ext [] w w':=by
 have E : Ext [] w w:=Ext.refl _ _
 unfold tpV
 refine calls_has 19 Try.func94 rfl Try.ntmps94 (Nat.le_of_ble_eq_true rfl) ?_
 intro fa F
 refine wp_seq_k fun K1 hK1=>?_
 refine wp_region_lit ?_
 refine sq_new F rfl (by decide) rfl (R_box rfl (F.at rfl)) ?_;clear F fa;intro fa w1 F hw
 obtain ⟨n3,hn⟩ : ∃ n,n = w.heap.size:=⟨_,rfl⟩
 rw [← hn] at F
 have s3 : w.heap.size ≤ n3:=Nat.le_of_eq hn.symm
 have l3_E : w.heap.size ≤ n3:=by rw [hn];exact E.size
 replace E:=ext_alloc E hw
 have q3:=new_row hw hn
 clear hw hn
 refine F.vl (R_assign rfl (ev_c fa _)) ?_;clear F fa;intro fa F
 refine wpList_nil ?_
 refine hK1 _ _ ?_
 clear hK1
 refine wp_seq_k fun K2 hK2=>?_
 refine wp_region_lit ?_
 refine F.mv ?_;clear F fa;intro fa F
 refine F.vl (R_field rfl (F.at rfl) Try.underlying28 rfl (n:=0) (sz:=1) rfl (by kernel_rfl) (by decide)) ?_;clear F fa;intro fa F
 refine F.vl (R_load rfl (F.at rfl) Try.underlying3 rfl ((cells_of_block q3 0).trans (get0))) ?_;clear F fa;intro fa F
 refine F.vl ((R_wsub rfl (F.at rfl) (ev_c fa _))) ?_;clear F fa;intro fa F
 refine sq_call F rfl (by decide) rfl (R_callV rfl rfl Try.call98 (mpS (F.at rfl) (mpS (ev_c fa _) (mpS (F.at rfl) mp0)))) (refIn_any s 0 (lessW t.S) _) fun e w2 hR=>?_
 obtain ⟨rfl,e9⟩:=hR
 refine ⟨_,rfl,?_⟩;clear F fa;intro fa F
 replace q3:=(e9).keep0 q3
 replace E:=ext_same E (e9)
 clear e9
 refine F.mv ?_;clear F fa;intro fa F
 by_cases hg1 : (0 ≤ s ∧ s ≤ lessW t.S)
 ·skip
  replace F:=F.re (k:=12) rfl (congrArg Value.bool (decide_eq_true hg1))
  refine F.mv ?_ (hw:=(wantT F rfl rfl (by decide) rfl));clear F fa;intro fa F
  refine F.vl (R_field rfl (F.at rfl) Try.underlying28 rfl (n:=1) (sz:=1) rfl (by kernel_rfl) (by decide)) ?_ (hw:=(wantT F rfl rfl (by decide) rfl));clear F fa;intro fa F
  refine F.vl (R_load rfl (F.at rfl) Try.underlying3 rfl ((cells_of_block q3 1).trans (getS (get0)))) ?_ (hw:=(wantT F rfl rfl (by decide) rfl));clear F fa;intro fa F
  refine F.vl ((R_wsub rfl (F.at rfl) (ev_c fa _))) ?_ (hw:=(wantT F rfl rfl (by decide) rfl));clear F fa;intro fa F
  refine sq_call F rfl (by decide) (wantT F rfl rfl (by decide) rfl) (R_callV rfl rfl Try.call98 (mpS (F.at rfl) (mpS (ev_c fa _) (mpS (F.at rfl) mp0)))) (refIn_any a 0 (lessW t.A) _) fun e w3 hR=>?_
  obtain ⟨rfl,e9⟩:=hR
  refine ⟨_,rfl,?_⟩;clear F fa;intro fa F
  replace q3:=(e9).keep0 q3
  replace E:=ext_same E (e9)
  clear e9
  refine F.vl (R_pickT rfl (F.at rfl) (F.at rfl)) ?_;clear F fa;intro fa F
  refine F.as ?_;clear F fa;intro fa F
  refine wpList_nil ?_
  refine hK2 _ _ ?_
  clear hK2
  refine wp_ret ?_
  (try simp only [Exit.inBlock,Exit.then])
  refine rt_v F (rs_1 F rfl rfl) ?_
  exact ⟨by unfold isMB;first | (rw [decide_eq_true hg1];rfl) | (rw [decide_eq_false hg1];rfl),E⟩
 ·skip
  replace F:=F.re (k:=12) rfl (congrArg Value.bool (decide_eq_false hg1))
  refine sq_no F rfl (by decide) (wantF F rfl rfl (by decide) rfl (by decide)) ?_;clear F fa;intro fa F
  refine sq_no F rfl (by decide) (wantF F rfl rfl (by decide) rfl (by decide)) ?_;clear F fa;intro fa F
  refine sq_no F rfl (by decide) (wantF F rfl rfl (by decide) rfl (by decide)) ?_;clear F fa;intro fa F
  refine sq_no F rfl (by decide) (wantF F rfl rfl (by decide) rfl (by decide)) ?_;clear F fa;intro fa F
  refine sq_no F rfl (by decide) (wantF F rfl rfl (by decide) rfl (by decide)) ?_;clear F fa;intro fa F
  refine F.vl (R_pickF rfl (F.at rfl) (ev_c fa _)) ?_;clear F fa;intro fa F
  refine F.as ?_;clear F fa;intro fa F
  refine wpList_nil ?_
  refine hK2 _ _ ?_
  clear hK2
  refine wp_ret ?_
  (try simp only [Exit.inBlock,Exit.then])
  refine rt_v F (rs_1 F rfl rfl) ?_
  exact ⟨by unfold isMB;first | (rw [decide_eq_true hg1];rfl) | (rw [decide_eq_false hg1];rfl),E⟩
set_option maxRecDepth 100000 in
theorem refSpan_any {n : Nat} (hn : n ≤ 13) {oa : Option Addr} {oc : Nat} {va : Nat → Option Addr} {vc : Nat → Nat} {m : Nat → Nat → Int} {w : World} (h : MF w oa va vc n m) (x y : Nat) (hx : x < n) (hy : y < n) (l1 : -100000 ≤ m y x) (l2 : m y x ≤ 100000) :
  Calls Try.prog 95 #[.agg #[.slice oa n oc],.int .i64 x,.int .i64 y] w fun e w'=>e = .returned (.agg #[.int .i64 (-(m y x)),.int .i64 (m x y)]) ∧ Ext [] w w':=by
 have E : Ext [] w w:=Ext.refl _ _
 have HO:=Lib.hid h.o
 have HX:=Lib.hid (h.r x hx)
 have HY:=Lib.hid (h.r y hy)
 clear h
 refine calls_has 25 Try.func95 rfl Try.ntmps95 (Nat.le_of_ble_eq_true rfl) ?_
 intro fa F
 refine wp_seq_k fun K1 hK1=>?_
 refine wp_region_lit ?_
 refine sq_new F rfl (by decide) rfl (R_box rfl (F.at rfl)) ?_;clear F fa;intro fa w1 F hw
 obtain ⟨n3,hn⟩ : ∃ n,n = w.heap.size:=⟨_,rfl⟩
 rw [← hn] at F
 have s3 : w.heap.size ≤ n3:=Nat.le_of_eq hn.symm
 have l3_E : w.heap.size ≤ n3:=by rw [hn];exact E.size
 replace E:=ext_alloc E hw
 have q3:=new_row hw hn
 clear hw hn
 refine sq_new F rfl (by decide) rfl (R_alloc rfl Try.zeroValue23) ?_;clear F fa;intro fa w2 F hw
 obtain ⟨n6,hn⟩ : ∃ n,n = w1.heap.size:=⟨_,rfl⟩
 rw [← hn] at F
 have s6 : w1.heap.size ≤ n6:=Nat.le_of_eq hn.symm
 have l6_E : w.heap.size ≤ n6:=by rw [hn];exact E.size
 have m6_3 : n3 < n6:=by rw [hn];exact blk_lt q3
 replace q3:=keep_alloc hw q3
 replace E:=ext_alloc E hw
 have q6:=new_row hw hn
 clear hw hn
 refine wpList_nil ?_
 refine hK1 _ _ ?_
 clear hK1
 refine wp_seq_k fun K2 hK2=>?_
 refine wp_region_st 18 follows (by kernel_rfl) fun w3 hh eh=>?_
 replace q3:=keep_same hh q3
 replace q6:=keep_same hh q6
 replace E:=ext_same E eh
 clear hh eh
 refine F.sv (R_field rfl (F.at rfl) Try.underlying111 rfl (n:=0) (sz:=1) rfl (by kernel_rfl) (by decide)) ?_;clear F fa;intro fa F
 refine F.sv (R_load rfl (F.at rfl) Try.underlying50 rfl ((cells_of_block q3 0).trans (get0))) ?_;clear F fa;intro fa F
 refine F.smv ?_;clear F fa;intro fa F
 obtain ⟨xb3,xo3,xa3,xr3⟩:=HO.out y (by omega)
 refine F.sv (R_ixSlice (sz:=1) rfl ((F.at rfl).trans (xa3 _ _)) (F.at rfl) Try.underlying50 (by kernel_rfl) (by omega) (by omega)) ?_;clear F fa;intro fa F
 refine F.sv (R_load rfl (F.at rfl) Try.underlying29 rfl (xr3 _ E 0 _ rfl)) ?_;clear F fa;intro fa F
 refine F.smv ?_;clear F fa;intro fa F
 obtain ⟨xb4,xo4,xa4,xr4⟩:=HY.out x (by omega)
 refine F.sv (R_ixSlice (sz:=1) rfl ((F.at rfl).trans (xa4 _ _)) (F.at rfl) Try.underlying29 (by kernel_rfl) (by omega) (by omega)) ?_;clear F fa;intro fa F
 refine F.sv (R_load rfl (F.at rfl) Try.underlying3 rfl (xr4 _ E 0 _ rfl)) ?_;clear F fa;intro fa F
 refine F.sv (R_neg rfl (F.at rfl) (by omega) (by omega)) ?_;clear F fa;intro fa F
 refine F.sv (R_field rfl (F.at rfl) Try.underlying111 rfl (n:=0) (sz:=1) rfl (by kernel_rfl) (by decide)) ?_;clear F fa;intro fa F
 refine F.sv (R_load rfl (F.at rfl) Try.underlying50 rfl ((cells_of_block q3 0).trans (get0))) ?_;clear F fa;intro fa F
 refine F.smv ?_;clear F fa;intro fa F
 obtain ⟨xb5,xo5,xa5,xr5⟩:=HO.out x (by omega)
 refine F.sv (R_ixSlice (sz:=1) rfl ((F.at rfl).trans (xa5 _ _)) (F.at rfl) Try.underlying50 (by kernel_rfl) (by omega) (by omega)) ?_;clear F fa;intro fa F
 refine F.sv (R_load rfl (F.at rfl) Try.underlying29 rfl (xr5 _ E 0 _ rfl)) ?_;clear F fa;intro fa F
 refine F.smv ?_;clear F fa;intro fa F
 obtain ⟨xb6,xo6,xa6,xr6⟩:=HX.out y (by omega)
 refine F.sv (R_ixSlice (sz:=1) rfl ((F.at rfl).trans (xa6 _ _)) (F.at rfl) Try.underlying29 (by kernel_rfl) (by omega) (by omega)) ?_;clear F fa;intro fa F
 refine F.sv (R_load rfl (F.at rfl) Try.underlying3 rfl (xr6 _ E 0 _ rfl)) ?_;clear F fa;intro fa F
 refine F.sv (R_buildV rfl (prS (F.at rfl) (prS (F.at rfl) pr0)) (cells:=#[.int .i64 (-(m y x)),.int .i64 (m x y)]) (by kernel_rfl)) ?_;clear F fa;intro fa F
 refine wpStill_nil ?_
 refine sq_to rfl rfl (R_storeRow rfl (F.at rfl) (F.at rfl) (by kernel_rfl) (by first | (simp [Value.oneCell'];done) | (simp [Value.oneCell',grRow,rdRow,lkRow];done)) q6 rfl) ?_;intro w4 hw
 replace q3:=keep_cells hw q3 (by omega)
 replace q6:=put_row hw q6 rfl
 replace E:=ext_cells E hw (fun h=>by first | exact absurd h (by omega) | simp)
 clear hw
 refine wpList_nil ?_
 refine hK2 _ _ ?_
 clear hK2
 refine wp_ret ?_
 (try simp only [Exit.inBlock,Exit.then])
 refine rt_v F (rs_c F rfl rfl Try.underlying23 rfl (by kernel_rfl) q6) ?_
 exact ⟨rfl,E⟩
def BegPost (t : Tp) (n : Nat) (b : Bool) (w : World) (e : Ending) (w' : World) : Prop:=∃ oa k oc va vc,e = .returned (.tuple #[.agg #[.slice oa k oc],.int .i64 (begE t b)]) ∧ (begE t b = 0 → k = n) ∧ IsM w' w.heap.size oa oc va vc k (kTt n (looseR t) n) ∧ Ext [] w w'
set_option maxRecDepth 100000 in
theorem refBegin_any (t : Tp) {n : Nat} (hn : t.Ok → (n : Int) = 1 + t.S * t.A + t.T) (b : Bool) (ga ra la : Option Addr) (gc rc lc : Nat) (w : World) (ht : IsTp w (.slice ga t.gr.length gc) (.slice ra t.rd.length rc) (.slice la t.lk.length lc) t) (l1 : t.gr.length ≤ 1000) (l2 : t.rd.length ≤ 1000) (l3 : t.lk.length ≤ 1000) :
  Calls Try.prog 93 #[tpV t (.slice ga t.gr.length gc) (.slice ra t.rd.length rc) (.slice la t.lk.length lc),.bool b] w (BegPost t n b w):=by
 have E : Ext [] w w:=Ext.refl _ _
 have HT:=Lib.hid ht
 clear ht
 unfold tpV
 refine calls_has 27 Try.func93 rfl Try.ntmps93 (Nat.le_of_ble_eq_true rfl) ?_
 intro fa F
 refine wp_seq_k fun K1 hK1=>?_
 refine wp_region_lit ?_
 refine sq_new F rfl (by decide) rfl (R_box rfl (F.at rfl)) ?_;clear F fa;intro fa w1 F hw
 obtain ⟨n2,hn⟩ : ∃ n,n = w.heap.size:=⟨_,rfl⟩
 rw [← hn] at F
 have s2 : w.heap.size ≤ n2:=Nat.le_of_eq hn.symm
 have l2_E : w.heap.size ≤ n2:=by rw [hn];exact E.size
 replace E:=ext_alloc E hw
 have q2:=new_row hw hn
 clear hw hn
 refine sq_new F rfl (by decide) rfl (R_alloc rfl Try.zeroValue111) ?_;clear F fa;intro fa w2 F hw
 obtain ⟨n4,hn⟩ : ∃ n,n = w1.heap.size:=⟨_,rfl⟩
 rw [← hn] at F
 have s4 : w1.heap.size ≤ n4:=Nat.le_of_eq hn.symm
 have l4_E : w.heap.size ≤ n4:=by rw [hn];exact E.size
 have m4_2 : n2 < n4:=by rw [hn];exact blk_lt q2
 replace q2:=keep_alloc hw q2
 replace E:=ext_alloc E hw
 have q4:=new_row hw hn
 clear hw hn
 refine F.vl (R_assign rfl (ev_c fa _)) ?_;clear F fa;intro fa F
 refine wpList_nil ?_
 refine hK1 _ _ ?_
 clear hK1
 refine wp_seq_k fun K2 hK2=>?_
 refine wp_seq_k fun K3 hK3=>?_
 refine wp_region_lit ?_
 refine F.vl (R_loadBlk rfl (F.at rfl) Try.underlying28 rfl (by kernel_rfl) q2) ?_;clear F fa;intro fa F
 refine sq_call F rfl (by decide) rfl (R_callV rfl rfl Try.call32 (mpS (F.at rfl) mp0)) (refCheck_any t ga ra la gc rc lc _ (HT.out.ext E (by simp)) l1 l2 l3) fun e w3 hR=>?_
 obtain ⟨rfl,e9⟩:=hR
 refine ⟨_,rfl,?_⟩;clear F fa;intro fa F
 replace q2:=(e9).keep0 q2
 replace q4:=(e9).keep0 q4
 replace E:=ext_same E (e9)
 clear e9
 refine F.as ?_;clear F fa;intro fa F
 refine wpList_nil ?_
 refine hK3 _ _ ?_
 clear hK3
 refine wp_seq_k fun K4 hK4=>?_
 refine wp_region_lit ?_
 refine F.mv ?_;clear F fa;intro fa F
 refine F.vl (R_neqD rfl (F.at rfl) (ev_c fa _)) ?_;clear F fa;intro fa F
 refine wpList_nil ?_
 refine hK4 _ _ ?_
 clear hK4
 refine cd_if F rfl (fun hc12=>?_) (fun hc12=>?_)
 ·skip
  refine wp_seq_k fun K5 hK5=>?_
  refine wp_region_lit ?_
  refine F.vl (R_buildV rfl pr0 (cells:=#[.slice none 0 0]) (by kernel_rfl)) ?_;clear F fa;intro fa F
  refine F.mv ?_;clear F fa;intro fa F
  refine sq_to rfl rfl (R_storeRow rfl (F.at rfl) (F.at rfl) (by kernel_rfl) (by first | (simp [Value.oneCell'];done) | (simp [Value.oneCell',grRow,rdRow,lkRow];done)) q4 rfl) ?_;intro w4 hw
  replace q2:=keep_cells hw q2 (by omega)
  replace q4:=put_row hw q4 rfl
  replace E:=ext_cells E hw (fun h=>by first | exact absurd h (by omega) | simp)
  clear hw
  refine F.as ?_;clear F fa;intro fa F
  refine wpList_nil ?_
  refine hK5 _ _ ?_
  clear hK5
  refine wp_ret ?_
  (try simp only [Exit.inBlock,Exit.then])
  refine rt_v F (rs_ct F rfl rfl rfl Try.underlying111 rfl (by kernel_rfl) q4) ?_
  exact ⟨none,0,0,fun _=>none,fun _=>0,by rw [show begE t b = checkE t from if_pos hc12],fun h=>absurd ((if_pos hc12).symm.trans h) hc12,ism_nil _ _ _,E⟩
 ·skip
  refine wp_skip ?_
  refine hK2 _ _ ?_
  clear hK2
  refine wp_seq_k fun K6 hK6=>?_
  refine wp_seq_k fun K7 hK7=>?_
  refine wp_region_lit ?_
  refine F.mv ?_;clear F fa;intro fa F
  refine F.vl (R_not rfl (F.at rfl)) ?_;clear F fa;intro fa F
  refine wpList_nil ?_
  refine hK7 _ _ ?_
  clear hK7
  refine cd_b F rfl (fun hc16=>?_) (fun hc16=>?_)
  ·skip
   refine wp_seq_k fun K8 hK8=>?_
   refine wp_region_lit ?_
   refine F.vl (R_buildV rfl pr0 (cells:=#[.slice none 0 0]) (by kernel_rfl)) ?_;clear F fa;intro fa F
   refine sq_to rfl rfl (R_storeRow rfl (F.at rfl) (F.at rfl) (by kernel_rfl) (by first | (simp [Value.oneCell'];done) | (simp [Value.oneCell',grRow,rdRow,lkRow];done)) q4 rfl) ?_;intro w5 hw
   replace q2:=keep_cells hw q2 (by omega)
   replace q4:=put_row hw q4 rfl
   replace E:=ext_cells E hw (fun h=>by first | exact absurd h (by omega) | simp)
   clear hw
   refine F.vl (R_assign rfl (ev_c fa _)) ?_;clear F fa;intro fa F
   refine wpList_nil ?_
   refine hK8 _ _ ?_
   clear hK8
   refine wp_ret ?_
   (try simp only [Exit.inBlock,Exit.then])
   refine rt_v F (rs_ct F rfl rfl rfl Try.underlying111 rfl (by kernel_rfl) q4) ?_
   exact ⟨none,0,0,fun _=>none,fun _=>0,by rw [show begE t b = 3 by unfold begE;rw [if_neg hc12,if_pos (by simpa using hc16)]],fun h=>absurd ((show begE t b = 3 by unfold begE;rw [if_neg hc12,if_pos (by simpa using hc16)]).symm.trans h) (by decide),ism_nil _ _ _,E⟩
  ·skip
   refine wp_skip ?_
   refine hK6 _ _ ?_
   clear hK6
   refine wp_seq_k fun K9 hK9=>?_
   have hc0 : checkE t = 0:=by omega
   obtain ⟨ok,h8⟩:=checkE_zero.1 hc0
   refine wp_region_lit ?_
   refine F.vl (R_loadBlk rfl (F.at rfl) Try.underlying28 rfl (by kernel_rfl) q2) ?_;clear F fa;intro fa F
   have hle:=E.size
   refine sq_call F rfl (by decide) rfl (R_callV rfl rfl Try.call81 (mpS (F.at rfl) mp0)) (refNarrow_any ok (hn ok) ga ra la gc rc lc _ (HT.out.ext E (by simp))) fun e w6 hR=>?_
   obtain ⟨oa,oc,va,vc,rfl,ism,eX⟩:=hR
   refine ⟨_,rfl,?_⟩;clear F fa;intro fa F
   replace q2:=(eX).keep0 q2
   replace q4:=(eX).keep0 q4
   replace E:=ext_same E (eX)
   replace ism:=ism_lower ism hle
   refine F.mv ?_;clear F fa;intro fa F
   refine F.vl (R_extract rfl (F.at rfl) (get0)) ?_;clear F fa;intro fa F
   refine F.vl (R_extract rfl (F.at rfl) (getS (get0))) ?_;clear F fa;intro fa F
   refine sq_new F rfl (by decide) rfl (R_alloc rfl Try.zeroValue111) ?_;clear F fa;intro fa w7 F hw
   obtain ⟨n7,hn⟩ : ∃ n,n = w6.heap.size:=⟨_,rfl⟩
   rw [← hn] at F
   have s7 : w6.heap.size ≤ n7:=Nat.le_of_eq hn.symm
   have l7_E : w.heap.size ≤ n7:=by rw [hn];exact E.size
   have m7_2 : n2 < n7:=by rw [hn];exact blk_lt q2
   have m7_4 : n4 < n7:=by rw [hn];exact blk_lt q4
   replace ism:=ism_lift ism (fun _ _ _ h=>owns_alloc hw h) (fun _ _ _ h=>owns_alloc hw h)
   replace q2:=keep_alloc hw q2
   replace q4:=keep_alloc hw q4
   replace E:=ext_alloc E hw
   have q7:=new_row hw hn
   clear hw hn
   refine sq_to rfl rfl (R_storeRow rfl (F.at rfl) (F.at rfl) (by kernel_rfl) (by first | (simp [Value.oneCell'];done) | (simp [Value.oneCell',grRow,rdRow,lkRow];done)) q7 rfl) ?_;intro w8 hw
   replace ism:=ism_lift ism (fun _ _ _ h=>owns_cellsX hw h (own_ne_type h q7 (by decide))) (fun _ _ _ h=>owns_cellsX hw h (own_ne_type h q7 (by decide)))
   replace q2:=keep_cells hw q2 (by omega)
   replace q4:=keep_cells hw q4 (by omega)
   replace q7:=put_row hw q7 rfl
   replace E:=ext_cells E hw (fun h=>by first | exact absurd h (by omega) | simp)
   clear hw
   refine F.as ?_;clear F fa;intro fa F
   refine wpList_nil ?_
   refine hK9 _ _ ?_
   clear hK9
   refine wp_seq_k fun K10 hK10=>?_
   refine wp_seq_k fun K11 hK11=>?_
   refine wp_region_lit ?_
   refine F.mv ?_;clear F fa;intro fa F
   refine F.vl (R_not rfl (F.at rfl)) ?_;clear F fa;intro fa F
   refine wpList_nil ?_
   have hbt : b = true:=by simpa using hc16
   refine hK11 _ _ ?_
   clear hK11
   refine cd_b F rfl (fun hc24=>?_) (fun hc24=>?_)
   ·skip
    refine wp_seq_k fun K12 hK12=>?_
    refine wp_region_lit ?_
    refine F.vl (R_buildV rfl pr0 (cells:=#[.slice none 0 0]) (by kernel_rfl)) ?_;clear F fa;intro fa F
    refine sq_to rfl rfl (R_storeRow rfl (F.at rfl) (F.at rfl) (by kernel_rfl) (by first | (simp [Value.oneCell'];done) | (simp [Value.oneCell',grRow,rdRow,lkRow];done)) q4 rfl) ?_;intro w9 hw
    replace ism:=ism_lift ism (fun _ _ _ h=>owns_cellsX hw h (own_ne_type h q4 (by decide))) (fun _ _ _ h=>owns_cellsX hw h (own_ne_type h q4 (by decide)))
    replace q2:=keep_cells hw q2 (by omega)
    replace q4:=put_row hw q4 rfl
    replace q7:=keep_cells hw q7 (by omega)
    replace E:=ext_cells E hw (fun h=>by first | exact absurd h (by omega) | simp)
    clear hw
    refine F.vl (R_assign rfl (ev_c fa _)) ?_;clear F fa;intro fa F
    refine wpList_nil ?_
    refine hK12 _ _ ?_
    clear hK12
    refine wp_ret ?_
    (try simp only [Exit.inBlock,Exit.then])
    refine rt_v F (rs_ct F rfl rfl rfl Try.underlying111 rfl (by kernel_rfl) q4) ?_
    exact ⟨none,0,0,fun _=>none,fun _=>0,by rw [show begE t b = 9 by unfold begE;rw [if_neg hc12,if_neg (by rw [hbt];decide),show bdB t 0 = false by simpa using hc24];rfl],fun h=>absurd ((show begE t b = 9 by unfold begE;rw [if_neg hc12,if_neg (by rw [hbt];decide),show bdB t 0 = false by simpa using hc24];rfl).symm.trans h) (by decide),ism_nil _ _ _,E⟩
   ·skip
    refine wp_skip ?_
    refine hK10 _ _ ?_
    clear hK10
    refine wp_seq_k fun K13 hK13=>?_
    refine wp_region_lit ?_
    refine F.vl (R_loadBlk rfl (F.at rfl) Try.underlying111 rfl (by kernel_rfl) q7) ?_;clear F fa;intro fa F
    refine sq_to rfl rfl (R_storeRow rfl (F.at rfl) (F.at rfl) (by kernel_rfl) (by first | (simp [Value.oneCell'];done) | (simp [Value.oneCell',grRow,rdRow,lkRow];done)) q4 rfl) ?_;intro w10 hw
    replace ism:=ism_lift ism (fun _ _ _ h=>owns_cellsX hw h (own_ne_type h q4 (by decide))) (fun _ _ _ h=>owns_cellsX hw h (own_ne_type h q4 (by decide)))
    replace q2:=keep_cells hw q2 (by omega)
    replace q4:=put_row hw q4 rfl
    replace q7:=keep_cells hw q7 (by omega)
    replace E:=ext_cells E hw (fun h=>by first | exact absurd h (by omega) | simp)
    clear hw
    refine F.vl (R_assign rfl (ev_c fa _)) ?_;clear F fa;intro fa F
    refine wpList_nil ?_
    refine hK13 _ _ ?_
    clear hK13
    refine wp_ret ?_
    (try simp only [Exit.inBlock,Exit.then])
    refine rt_v F (rs_ct F rfl rfl rfl Try.underlying111 rfl (by kernel_rfl) q4) ?_
    exact ⟨oa,n,oc,va,vc,by rw [show begE t b = 0 by unfold begE;rw [if_neg hc12,if_neg (by rw [hbt];decide),show bdB t 0 = true by simpa using hc24];rfl],fun _=>rfl,ism,E⟩
theorem ref_at {t : Tp} (h : t.Live) {n : Nat} (hn : (n : Int) = 1 + t.S * t.A + t.T) {i j : Nat} (hi : i < n) (hj : j < n) : kTt n (looseR t) n i j = bdV t 0 (phi_ t j) (phi_ t i) ∧ -100000 ≤ kTt n (looseR t) n i j ∧ kTt n (looseR t) n i j ≤ 100000:=by
 have e:=ref_bd h hn hi hj
 have:=h.near (phi_live h.ok hn hj) (phi_live h.ok hn hi)
 exact ⟨e,by omega,by omega⟩
theorem nR_13 {t : Tp} (ok : t.Ok) {n : Nat} (hn : (n : Int) = 1 + t.S * t.A + t.T) : n ≤ 13 ∧ 0 < n:=by
 have:=ok_prod ok
 have:=ok.T3
 have:=ok.T1
 omega
theorem rn_lt {t : Tp} (ok : t.Ok) {n : Nat} (hn : (n : Int) = 1 + t.S * t.A + t.T) {s a : Int} (s0 : 0 ≤ s) (s1 : s < t.S) (a0 : 0 ≤ a) (a1 : a < t.A) : rnI t s a < n:=by
 obtain ⟨e1,e2,e3,e4⟩:=rn_eq ok s0 s1 a0 a1
 have:=ok.T1
 omega
theorem wid_ref (t : Tp) (s o a : Int) : widE t s o a = if checkE t ≠ 0 then checkE t else if isMB t s a = true ∧ s = o then 4 else apartE t s a o a:=by
 unfold widE
 by_cases c : checkE t = 0
 ·obtain ⟨ok,h8⟩:=checkE_zero.1 c
  have ho:=open_beg c [s,o] [a] [] (b:=isMB t s a && isMB t o a) (by rw [Bool.and_eq_true,isMB_iff ok,isMB_iff ok];simp;omega)
  rw [ho,apart_beg,begE]
  by_cases e : s = o
  ·subst e
   cases hb : isMB t s a <;> simp [c]
  ·cases hb : isMB t s a <;> cases hb2 : isMB t o a <;> simp [c,e]
 ·rw [if_pos c,openE,if_pos c,if_pos c]
section
variable (t : Tp) {n : Nat} (hn : t.Ok → (n : Int) = 1 + t.S * t.A + t.T) (ga ra la : Option Addr) (gc rc lc : Nat) (w : World) (ht : IsTp w (.slice ga t.gr.length gc) (.slice ra t.rd.length rc) (.slice la t.lk.length lc) t) (l1 : t.gr.length ≤ 1000) (l2 : t.rd.length ≤ 1000) (l3 : t.lk.length ≤ 1000)
include ht l1 l2 l3
include hn
set_option maxRecDepth 100000 in
set_option maxHeartbeats 1000000 in
theorem refApart_any (s a o h : Int) : Calls Try.prog 62 #[tpV t (.slice ga t.gr.length gc) (.slice ra t.rd.length rc) (.slice la t.lk.length lc),.int .i64 s,.int .i64 a,.int .i64 o,.int .i64 h] w fun e w'=>e = .returned (.tuple #[.agg #[.int .i64 (apartV t s a o h).1,.int .i64 (apartV t s a o h).2],.int .i64 (apartE t s a o h)]) ∧ Ext [] w w':=by
 have E : Ext [] w w:=Ext.refl _ _
 have HT:=Lib.hid ht
 clear ht
 have hbe:=apart_beg t s a o h
 obtain ⟨bb,hbb⟩ : ∃ bb,bb = (isMB t s a && isMB t o h):=⟨_,rfl⟩
 rw [← hbb] at hbe
 unfold tpV
 refine calls_has 43 Try.func62 rfl Try.ntmps62 (Nat.le_of_ble_eq_true rfl) ?_
 intro fa F
 refine wp_seq_k fun K1 hK1=>?_
 refine wp_region_lit ?_
 refine sq_new F rfl (by decide) rfl (R_box rfl (F.at rfl)) ?_;clear F fa;intro fa w1 F hw
 obtain ⟨n5,hn⟩ : ∃ n,n = w.heap.size:=⟨_,rfl⟩
 rw [← hn] at F
 have s5 : w.heap.size ≤ n5:=Nat.le_of_eq hn.symm
 have l5_E : w.heap.size ≤ n5:=by rw [hn];exact E.size
 replace E:=ext_alloc E hw
 have q5:=new_row hw hn
 clear hw hn
 refine sq_new F rfl (by decide) rfl (R_alloc rfl Try.zeroValue23) ?_;clear F fa;intro fa w2 F hw
 obtain ⟨n10,hn⟩ : ∃ n,n = w1.heap.size:=⟨_,rfl⟩
 rw [← hn] at F
 have s10 : w1.heap.size ≤ n10:=Nat.le_of_eq hn.symm
 have l10_E : w.heap.size ≤ n10:=by rw [hn];exact E.size
 have m10_5 : n5 < n10:=by rw [hn];exact blk_lt q5
 replace q5:=keep_alloc hw q5
 replace E:=ext_alloc E hw
 have q10:=new_row hw hn
 clear hw hn
 refine F.vl (R_assign rfl (ev_c fa _)) ?_;clear F fa;intro fa F
 refine wpList_nil ?_
 refine hK1 _ _ ?_
 clear hK1
 refine wp_seq_k fun K2 hK2=>?_
 suffices hcut : ∀ (n12 : Nat) (oa : Option Addr) (k oc : Nat) (va : Nat → Option Addr) (vc : Nat → Nat) (fa : Act) (w29 : World),Has 43 fa [(1,.int .i64 s),(2,.int .i64 a),(3,.int .i64 o),(4,.int .i64 h),(5,.pointer (some ⟨n5,0,none⟩)),(10,.pointer (some ⟨n10,0,none⟩)),(12,.pointer (some ⟨n12,0,none⟩)),(13,.int .i64 (begE t bb))] → w29.heap[n5]? = some (.cells #[.int .i64 t.S,.int .i64 t.A,.int .i64 t.T,.int .i64 t.bl,.int .i64 t.bm,.int .i64 t.pl,.int .i64 t.pm,.int .i64 t.sl,.slice ga t.gr.length gc,.slice ra t.rd.length rc,.slice la t.lk.length lc] 28 (0,0)) → w29.heap[n10]? = some (.cells #[.int .i64 0,.int .i64 0] 23 (0,0)) → w29.heap[n12]? = some (.cells #[.slice oa k oc] 111 (0,0)) → Ext [] w w29 → w.heap.size ≤ n12 → n5 ≠ n12 → n10 ≠ n12 → IsM w29 w.heap.size oa oc va vc k (kTt n (looseR t) n) → (begE t bb = 0 → k = n) → K2 fa w29 by
  refine region_x (Ext [] w2) none follows fun w3 hh eh=>?_
  have q5_:=q5
  replace q5:=keep_same hh q5
  have q10_:=q10
  replace q10:=keep_same hh q10
  have E_:=E
  have zEw3:=E.size
  replace E:=ext_same E eh
  have eT:=eh
  clear hh eh
  refine F.xr (i:=0) rfl (fun w' hS=>R_loadBlk rfl (F.at rfl) Try.underlying28 rfl (by kernel_rfl) (hS.keep q5_ (by simp))) (fun _=>eT) ?_;clear F fa;intro fa F
  refine F.xr (i:=1) rfl (fun w' hS=>R_loadBlk rfl (F.at rfl) Try.underlying28 rfl (by kernel_rfl) (hS.keep q5_ (by simp))) (fun _=>eT) ?_;clear F fa;intro fa F
  refine F.x (i:=2) rfl (fun w'=>R_move rfl (F.at rfl)) (fun _=>eT) ?_;clear F fa;intro fa F
  refine F.x (i:=3) rfl (fun w'=>R_move rfl (F.at rfl)) (fun _=>eT) ?_;clear F fa;intro fa F
  refine ax_pair (i:=4) (j:=15) (by kernel_rfl) ?_ ?_
  ·skip
   refine (op_call F rfl rfl (by decide) rfl (R_callV rfl rfl Try.call94 (mpS (F.at rfl) (mpS (F.at rfl) (mpS (F.at rfl) mp0)))) (refIs_any t _ _ _ s a _) fun e w4 hR=>?_)
   obtain ⟨rfl,e9⟩:=hR
   refine ⟨_,rfl,?_⟩;clear F fa;intro fa F
   replace q5:=(e9).keep0 q5
   replace q10:=(e9).keep0 q10
   replace E:=ext_same E (e9)
   replace eT:=ext_same eT (e9)
   clear e9
   refine ⟨fun _=>eT,?_⟩
   refine F.x (i:=5) rfl (fun w'=>R_move rfl (F.at rfl)) (fun _=>eT) ?_;clear F fa;intro fa F
   cases hg1 : (isMB t s a)
   ·skip
    replace F:=F.re (k:=20) rfl (congrArg Value.bool hg1)
    refine ax_no (i:=6) F rfl rfl (by decide) (by kernel_rfl) (fun _ _ _ h=>h) (wantF F rfl rfl (by decide) rfl (by decide)) (fun _=>eT) ?_;clear F fa;intro fa F
    refine ax_no (i:=7) F rfl rfl (by decide) (by kernel_rfl) (fun _ _ _ h=>h) (wantF F rfl rfl (by decide) rfl (by decide)) (fun _=>eT) ?_;clear F fa;intro fa F
    refine ax_no (i:=8) F rfl rfl (by decide) (by kernel_rfl) (fun _ _ _ h=>h) (wantF F rfl rfl (by decide) rfl (by decide)) (fun _=>eT) ?_;clear F fa;intro fa F
    refine ax_no (i:=9) F rfl rfl (by decide) (by kernel_rfl) (fun _ _ _ h=>h) (wantF F rfl rfl (by decide) rfl (by decide)) (fun _=>eT) ?_;clear F fa;intro fa F
    refine F.x (i:=10) rfl (fun w'=>R_pickF rfl (F.at rfl) (ev_c fa _)) (fun _=>eT) ?_;clear F fa;intro fa F
    first | replace F:=F.re (k:=25) rfl (congrArg Value.bool (show isMB t o h = bb by rw [hbb,(show isMB t s a = true by assumption)];rfl)) | replace F:=F.re (k:=25) rfl (congrArg Value.bool (show false = bb by rw [hbb,(show isMB t s a = false by assumption)];rfl))
    refine ax_pair (i:=11) (j:=15) (by kernel_rfl) ?_ ?_
    ·skip
     have hle:=E.size
     refine (op_call F rfl rfl (by decide) rfl (R_callV rfl rfl Try.call93 (mpS (F.at rfl) (mpS (F.at rfl) mp0))) (refBegin_any t hn bb ga ra la gc rc lc _ (HT.out.ext E (by simp)) l1 l2 l3) fun e w5 hR=>?_)
     obtain ⟨oa,k,oc,va,vc,rfl,hk,ism,eX⟩:=hR
     refine ⟨_,rfl,?_⟩;clear F fa;intro fa F
     replace q5:=(eX).keep0 q5
     replace q10:=(eX).keep0 q10
     replace E:=ext_same E (eX)
     replace eT:=ext_same eT (eX)
     refine ⟨fun _=>eT,?_⟩
     replace ism:=ism_lower ism hle
     refine F.x (i:=12) rfl (fun w'=>R_move rfl (F.at rfl)) (fun _=>eT) ?_;clear F fa;intro fa F
     refine F.x (i:=13) rfl (fun w'=>R_extract rfl (F.at rfl) (get0)) (fun _=>eT) ?_;clear F fa;intro fa F
     refine F.x (i:=14) rfl (fun w'=>R_extract rfl (F.at rfl) (getS (get0))) (fun _=>eT) ?_;clear F fa;intro fa F
     refine ax_only (i:=15) (by kernel_rfl) (op_new F rfl rfl (by decide) rfl (R_alloc rfl Try.zeroValue111) ?_);clear F fa;intro fa w6 F hw
     obtain ⟨n12,hn⟩ : ∃ n,n = w5.heap.size:=⟨_,rfl⟩
     rw [← hn] at F
     have s12 : w5.heap.size ≤ n12:=Nat.le_of_eq hn.symm
     have l12_E : w.heap.size ≤ n12:=by rw [hn];exact E.size
     have lT12 : w2.heap.size ≤ n12:=by rw [hn];exact eT.size
     have m12_5 : n5 < n12:=by rw [hn];exact blk_lt q5
     have m12_10 : n10 < n12:=by rw [hn];exact blk_lt q10
     replace ism:=ism_lift ism (fun _ _ _ h=>owns_alloc hw h) (fun _ _ _ h=>owns_alloc hw h)
     replace q5:=keep_alloc hw q5
     replace q10:=keep_alloc hw q10
     replace E:=ext_alloc E hw
     replace eT:=ext_alloc eT hw
     have q12:=new_row hw hn
     clear hw hn
     refine ⟨fun _=>eT,?_⟩
     refine ax_only (i:=16) (by kernel_rfl) (op_to rfl rfl rfl (R_storeRow rfl (F.at rfl) (F.at rfl) (by kernel_rfl) (by first | (simp [Value.oneCell'];done) | (simp [Value.oneCell',grRow,rdRow,lkRow];done)) q12 rfl) ?_);intro w7 hw
     replace ism:=ism_lift ism (fun _ _ _ h=>owns_cellsX hw h (own_ne_type h q12 (by decide))) (fun _ _ _ h=>owns_cellsX hw h (own_ne_type h q12 (by decide)))
     replace q5:=keep_cells hw q5 (by omega)
     replace q10:=keep_cells hw q10 (by omega)
     replace q12:=put_row hw q12 rfl
     replace E:=ext_cells E hw (fun h=>by first | exact absurd h (by omega) | simp)
     replace eT:=ext_cells eT hw (fun h=>by first | exact absurd h (by omega) | simp)
     clear hw
     refine ⟨fun _=>eT,?_⟩
     refine F.x (i:=17) rfl (fun w'=>R_assign rfl (F.at rfl)) (fun _=>eT) ?_;clear F fa;intro fa F
     refine ax_done (by kernel_rfl) ?_ _
     exact hcut _ _ _ _ _ _ _ _ (F.sub (.c 1 rfl (.c 2 rfl (.c 3 rfl (.c 4 rfl (.c 5 rfl (.c 10 rfl (.c 12 rfl (.c 13 rfl .n))))))))) q5 q10 q12 E (by omega) (by omega) (by omega) ism hk
    ·skip
     refine (op_new F rfl rfl (by decide) rfl (R_alloc rfl Try.zeroValue111) ?_);clear F fa;intro fa w8 F hw
     obtain ⟨n12,hn⟩ : ∃ n,n = w4.heap.size:=⟨_,rfl⟩
     rw [← hn] at F
     have s12 : w4.heap.size ≤ n12:=Nat.le_of_eq hn.symm
     have l12_E : w.heap.size ≤ n12:=by rw [hn];exact E.size
     have lT12 : w2.heap.size ≤ n12:=by rw [hn];exact eT.size
     have m12_5 : n5 < n12:=by rw [hn];exact blk_lt q5
     have m12_10 : n10 < n12:=by rw [hn];exact blk_lt q10
     replace q5:=keep_alloc hw q5
     replace q10:=keep_alloc hw q10
     replace E:=ext_alloc E hw
     replace eT:=ext_alloc eT hw
     have q12:=new_row hw hn
     clear hw hn
     refine ⟨fun _=>eT,?_⟩
     have hle:=E.size
     refine ax_only (i:=11) (by kernel_rfl) (op_call F rfl rfl (by decide) rfl (R_callV rfl rfl Try.call93 (mpS (F.at rfl) (mpS (F.at rfl) mp0))) (refBegin_any t hn bb ga ra la gc rc lc _ (HT.out.ext E (by simp)) l1 l2 l3) fun e w9 hR=>?_)
     obtain ⟨oa,k,oc,va,vc,rfl,hk,ism,eX⟩:=hR
     refine ⟨_,rfl,?_⟩;clear F fa;intro fa F
     replace q5:=(eX).keep0 q5
     replace q10:=(eX).keep0 q10
     replace q12:=(eX).keep0 q12
     replace E:=ext_same E (eX)
     replace eT:=ext_same eT (eX)
     refine ⟨fun _=>eT,?_⟩
     replace ism:=ism_lower ism hle
     refine F.x (i:=12) rfl (fun w'=>R_move rfl (F.at rfl)) (fun _=>eT) ?_;clear F fa;intro fa F
     refine F.x (i:=13) rfl (fun w'=>R_extract rfl (F.at rfl) (get0)) (fun _=>eT) ?_;clear F fa;intro fa F
     refine F.x (i:=14) rfl (fun w'=>R_extract rfl (F.at rfl) (getS (get0))) (fun _=>eT) ?_;clear F fa;intro fa F
     refine ax_only (i:=16) (by kernel_rfl) (op_to rfl rfl rfl (R_storeRow rfl (F.at rfl) (F.at rfl) (by kernel_rfl) (by first | (simp [Value.oneCell'];done) | (simp [Value.oneCell',grRow,rdRow,lkRow];done)) q12 rfl) ?_);intro w10 hw
     replace ism:=ism_lift ism (fun _ _ _ h=>owns_cellsX hw h (own_ne_type h q12 (by decide))) (fun _ _ _ h=>owns_cellsX hw h (own_ne_type h q12 (by decide)))
     replace q5:=keep_cells hw q5 (by omega)
     replace q10:=keep_cells hw q10 (by omega)
     replace q12:=put_row hw q12 rfl
     replace E:=ext_cells E hw (fun h=>by first | exact absurd h (by omega) | simp)
     replace eT:=ext_cells eT hw (fun h=>by first | exact absurd h (by omega) | simp)
     clear hw
     refine ⟨fun _=>eT,?_⟩
     refine F.x (i:=17) rfl (fun w'=>R_assign rfl (F.at rfl)) (fun _=>eT) ?_;clear F fa;intro fa F
     refine ax_done (by kernel_rfl) ?_ _
     exact hcut _ _ _ _ _ _ _ _ (F.sub (.c 1 rfl (.c 2 rfl (.c 3 rfl (.c 4 rfl (.c 5 rfl (.c 10 rfl (.c 12 rfl (.c 13 rfl .n))))))))) q5 q10 q12 E (by omega) (by omega) (by omega) ism hk
   ·skip
    replace F:=F.re (k:=20) rfl (congrArg Value.bool hg1)
    refine F.xr (i:=6) rfl (fun w' hS=>R_loadBlk rfl (F.at rfl) Try.underlying28 rfl (by kernel_rfl) (hS.keep q5_ (by simp))) (fun _=>eT) ?_ (hw:=(wantT F rfl rfl (by decide) rfl));clear F fa;intro fa F
    refine F.x (i:=7) rfl (fun w'=>R_move rfl (F.at rfl)) (fun _=>eT) ?_ (hw:=(wantT F rfl rfl (by decide) rfl));clear F fa;intro fa F
    refine F.x (i:=8) rfl (fun w'=>R_move rfl (F.at rfl)) (fun _=>eT) ?_ (hw:=(wantT F rfl rfl (by decide) rfl));clear F fa;intro fa F
    refine ax_pair (i:=9) (j:=15) (by kernel_rfl) ?_ ?_
    ·skip
     refine (op_call F rfl rfl (by decide) (wantT F rfl rfl (by decide) rfl) (R_callV rfl rfl Try.call94 (mpS (F.at rfl) (mpS (F.at rfl) (mpS (F.at rfl) mp0)))) (refIs_any t _ _ _ o h _) fun e w11 hR=>?_)
     obtain ⟨rfl,e9⟩:=hR
     refine ⟨_,rfl,?_⟩;clear F fa;intro fa F
     replace q5:=(e9).keep0 q5
     replace q10:=(e9).keep0 q10
     replace E:=ext_same E (e9)
     replace eT:=ext_same eT (e9)
     clear e9
     refine ⟨fun _=>eT,?_⟩
     refine F.x (i:=10) rfl (fun w'=>R_pickT rfl (F.at rfl) (F.at rfl)) (fun _=>eT) ?_;clear F fa;intro fa F
     first | replace F:=F.re (k:=25) rfl (congrArg Value.bool (show isMB t o h = bb by rw [hbb,(show isMB t s a = true by assumption)];rfl)) | replace F:=F.re (k:=25) rfl (congrArg Value.bool (show false = bb by rw [hbb,(show isMB t s a = false by assumption)];rfl))
     refine ax_pair (i:=11) (j:=15) (by kernel_rfl) ?_ ?_
     ·skip
      have hle:=E.size
      refine (op_call F rfl rfl (by decide) rfl (R_callV rfl rfl Try.call93 (mpS (F.at rfl) (mpS (F.at rfl) mp0))) (refBegin_any t hn bb ga ra la gc rc lc _ (HT.out.ext E (by simp)) l1 l2 l3) fun e w12 hR=>?_)
      obtain ⟨oa,k,oc,va,vc,rfl,hk,ism,eX⟩:=hR
      refine ⟨_,rfl,?_⟩;clear F fa;intro fa F
      replace q5:=(eX).keep0 q5
      replace q10:=(eX).keep0 q10
      replace E:=ext_same E (eX)
      replace eT:=ext_same eT (eX)
      refine ⟨fun _=>eT,?_⟩
      replace ism:=ism_lower ism hle
      refine F.x (i:=12) rfl (fun w'=>R_move rfl (F.at rfl)) (fun _=>eT) ?_;clear F fa;intro fa F
      refine F.x (i:=13) rfl (fun w'=>R_extract rfl (F.at rfl) (get0)) (fun _=>eT) ?_;clear F fa;intro fa F
      refine F.x (i:=14) rfl (fun w'=>R_extract rfl (F.at rfl) (getS (get0))) (fun _=>eT) ?_;clear F fa;intro fa F
      refine ax_only (i:=15) (by kernel_rfl) (op_new F rfl rfl (by decide) rfl (R_alloc rfl Try.zeroValue111) ?_);clear F fa;intro fa w13 F hw
      obtain ⟨n12,hn⟩ : ∃ n,n = w12.heap.size:=⟨_,rfl⟩
      rw [← hn] at F
      have s12 : w12.heap.size ≤ n12:=Nat.le_of_eq hn.symm
      have l12_E : w.heap.size ≤ n12:=by rw [hn];exact E.size
      have lT12 : w2.heap.size ≤ n12:=by rw [hn];exact eT.size
      have m12_5 : n5 < n12:=by rw [hn];exact blk_lt q5
      have m12_10 : n10 < n12:=by rw [hn];exact blk_lt q10
      replace ism:=ism_lift ism (fun _ _ _ h=>owns_alloc hw h) (fun _ _ _ h=>owns_alloc hw h)
      replace q5:=keep_alloc hw q5
      replace q10:=keep_alloc hw q10
      replace E:=ext_alloc E hw
      replace eT:=ext_alloc eT hw
      have q12:=new_row hw hn
      clear hw hn
      refine ⟨fun _=>eT,?_⟩
      refine ax_only (i:=16) (by kernel_rfl) (op_to rfl rfl rfl (R_storeRow rfl (F.at rfl) (F.at rfl) (by kernel_rfl) (by first | (simp [Value.oneCell'];done) | (simp [Value.oneCell',grRow,rdRow,lkRow];done)) q12 rfl) ?_);intro w14 hw
      replace ism:=ism_lift ism (fun _ _ _ h=>owns_cellsX hw h (own_ne_type h q12 (by decide))) (fun _ _ _ h=>owns_cellsX hw h (own_ne_type h q12 (by decide)))
      replace q5:=keep_cells hw q5 (by omega)
      replace q10:=keep_cells hw q10 (by omega)
      replace q12:=put_row hw q12 rfl
      replace E:=ext_cells E hw (fun h=>by first | exact absurd h (by omega) | simp)
      replace eT:=ext_cells eT hw (fun h=>by first | exact absurd h (by omega) | simp)
      clear hw
      refine ⟨fun _=>eT,?_⟩
      refine F.x (i:=17) rfl (fun w'=>R_assign rfl (F.at rfl)) (fun _=>eT) ?_;clear F fa;intro fa F
      refine ax_done (by kernel_rfl) ?_ _
      exact hcut _ _ _ _ _ _ _ _ (F.sub (.c 1 rfl (.c 2 rfl (.c 3 rfl (.c 4 rfl (.c 5 rfl (.c 10 rfl (.c 12 rfl (.c 13 rfl .n))))))))) q5 q10 q12 E (by omega) (by omega) (by omega) ism hk
     ·skip
      refine (op_new F rfl rfl (by decide) rfl (R_alloc rfl Try.zeroValue111) ?_);clear F fa;intro fa w15 F hw
      obtain ⟨n12,hn⟩ : ∃ n,n = w11.heap.size:=⟨_,rfl⟩
      rw [← hn] at F
      have s12 : w11.heap.size ≤ n12:=Nat.le_of_eq hn.symm
      have l12_E : w.heap.size ≤ n12:=by rw [hn];exact E.size
      have lT12 : w2.heap.size ≤ n12:=by rw [hn];exact eT.size
      have m12_5 : n5 < n12:=by rw [hn];exact blk_lt q5
      have m12_10 : n10 < n12:=by rw [hn];exact blk_lt q10
      replace q5:=keep_alloc hw q5
      replace q10:=keep_alloc hw q10
      replace E:=ext_alloc E hw
      replace eT:=ext_alloc eT hw
      have q12:=new_row hw hn
      clear hw hn
      refine ⟨fun _=>eT,?_⟩
      have hle:=E.size
      refine ax_only (i:=11) (by kernel_rfl) (op_call F rfl rfl (by decide) rfl (R_callV rfl rfl Try.call93 (mpS (F.at rfl) (mpS (F.at rfl) mp0))) (refBegin_any t hn bb ga ra la gc rc lc _ (HT.out.ext E (by simp)) l1 l2 l3) fun e w16 hR=>?_)
      obtain ⟨oa,k,oc,va,vc,rfl,hk,ism,eX⟩:=hR
      refine ⟨_,rfl,?_⟩;clear F fa;intro fa F
      replace q5:=(eX).keep0 q5
      replace q10:=(eX).keep0 q10
      replace q12:=(eX).keep0 q12
      replace E:=ext_same E (eX)
      replace eT:=ext_same eT (eX)
      refine ⟨fun _=>eT,?_⟩
      replace ism:=ism_lower ism hle
      refine F.x (i:=12) rfl (fun w'=>R_move rfl (F.at rfl)) (fun _=>eT) ?_;clear F fa;intro fa F
      refine F.x (i:=13) rfl (fun w'=>R_extract rfl (F.at rfl) (get0)) (fun _=>eT) ?_;clear F fa;intro fa F
      refine F.x (i:=14) rfl (fun w'=>R_extract rfl (F.at rfl) (getS (get0))) (fun _=>eT) ?_;clear F fa;intro fa F
      refine ax_only (i:=16) (by kernel_rfl) (op_to rfl rfl rfl (R_storeRow rfl (F.at rfl) (F.at rfl) (by kernel_rfl) (by first | (simp [Value.oneCell'];done) | (simp [Value.oneCell',grRow,rdRow,lkRow];done)) q12 rfl) ?_);intro w17 hw
      replace ism:=ism_lift ism (fun _ _ _ h=>owns_cellsX hw h (own_ne_type h q12 (by decide))) (fun _ _ _ h=>owns_cellsX hw h (own_ne_type h q12 (by decide)))
      replace q5:=keep_cells hw q5 (by omega)
      replace q10:=keep_cells hw q10 (by omega)
      replace q12:=put_row hw q12 rfl
      replace E:=ext_cells E hw (fun h=>by first | exact absurd h (by omega) | simp)
      replace eT:=ext_cells eT hw (fun h=>by first | exact absurd h (by omega) | simp)
      clear hw
      refine ⟨fun _=>eT,?_⟩
      refine F.x (i:=17) rfl (fun w'=>R_assign rfl (F.at rfl)) (fun _=>eT) ?_;clear F fa;intro fa F
      refine ax_done (by kernel_rfl) ?_ _
      exact hcut _ _ _ _ _ _ _ _ (F.sub (.c 1 rfl (.c 2 rfl (.c 3 rfl (.c 4 rfl (.c 5 rfl (.c 10 rfl (.c 12 rfl (.c 13 rfl .n))))))))) q5 q10 q12 E (by omega) (by omega) (by omega) ism hk
    ·skip
     refine (op_new F rfl rfl (by decide) rfl (R_alloc rfl Try.zeroValue111) ?_);clear F fa;intro fa w18 F hw
     obtain ⟨n12,hn⟩ : ∃ n,n = w4.heap.size:=⟨_,rfl⟩
     rw [← hn] at F
     have s12 : w4.heap.size ≤ n12:=Nat.le_of_eq hn.symm
     have l12_E : w.heap.size ≤ n12:=by rw [hn];exact E.size
     have lT12 : w2.heap.size ≤ n12:=by rw [hn];exact eT.size
     have m12_5 : n5 < n12:=by rw [hn];exact blk_lt q5
     have m12_10 : n10 < n12:=by rw [hn];exact blk_lt q10
     replace q5:=keep_alloc hw q5
     replace q10:=keep_alloc hw q10
     replace E:=ext_alloc E hw
     replace eT:=ext_alloc eT hw
     have q12:=new_row hw hn
     clear hw hn
     refine ⟨fun _=>eT,?_⟩
     refine ax_only (i:=9) (by kernel_rfl) (op_call F rfl rfl (by decide) (wantT F rfl rfl (by decide) rfl) (R_callV rfl rfl Try.call94 (mpS (F.at rfl) (mpS (F.at rfl) (mpS (F.at rfl) mp0)))) (refIs_any t _ _ _ o h _) fun e w19 hR=>?_)
     obtain ⟨rfl,e9⟩:=hR
     refine ⟨_,rfl,?_⟩;clear F fa;intro fa F
     replace q5:=(e9).keep0 q5
     replace q10:=(e9).keep0 q10
     replace q12:=(e9).keep0 q12
     replace E:=ext_same E (e9)
     replace eT:=ext_same eT (e9)
     clear e9
     refine ⟨fun _=>eT,?_⟩
     refine F.x (i:=10) rfl (fun w'=>R_pickT rfl (F.at rfl) (F.at rfl)) (fun _=>eT) ?_;clear F fa;intro fa F
     first | replace F:=F.re (k:=25) rfl (congrArg Value.bool (show isMB t o h = bb by rw [hbb,(show isMB t s a = true by assumption)];rfl)) | replace F:=F.re (k:=25) rfl (congrArg Value.bool (show false = bb by rw [hbb,(show isMB t s a = false by assumption)];rfl))
     have hle:=E.size
     refine ax_only (i:=11) (by kernel_rfl) (op_call F rfl rfl (by decide) rfl (R_callV rfl rfl Try.call93 (mpS (F.at rfl) (mpS (F.at rfl) mp0))) (refBegin_any t hn bb ga ra la gc rc lc _ (HT.out.ext E (by simp)) l1 l2 l3) fun e w20 hR=>?_)
     obtain ⟨oa,k,oc,va,vc,rfl,hk,ism,eX⟩:=hR
     refine ⟨_,rfl,?_⟩;clear F fa;intro fa F
     replace q5:=(eX).keep0 q5
     replace q10:=(eX).keep0 q10
     replace q12:=(eX).keep0 q12
     replace E:=ext_same E (eX)
     replace eT:=ext_same eT (eX)
     refine ⟨fun _=>eT,?_⟩
     replace ism:=ism_lower ism hle
     refine F.x (i:=12) rfl (fun w'=>R_move rfl (F.at rfl)) (fun _=>eT) ?_;clear F fa;intro fa F
     refine F.x (i:=13) rfl (fun w'=>R_extract rfl (F.at rfl) (get0)) (fun _=>eT) ?_;clear F fa;intro fa F
     refine F.x (i:=14) rfl (fun w'=>R_extract rfl (F.at rfl) (getS (get0))) (fun _=>eT) ?_;clear F fa;intro fa F
     refine ax_only (i:=16) (by kernel_rfl) (op_to rfl rfl rfl (R_storeRow rfl (F.at rfl) (F.at rfl) (by kernel_rfl) (by first | (simp [Value.oneCell'];done) | (simp [Value.oneCell',grRow,rdRow,lkRow];done)) q12 rfl) ?_);intro w21 hw
     replace ism:=ism_lift ism (fun _ _ _ h=>owns_cellsX hw h (own_ne_type h q12 (by decide))) (fun _ _ _ h=>owns_cellsX hw h (own_ne_type h q12 (by decide)))
     replace q5:=keep_cells hw q5 (by omega)
     replace q10:=keep_cells hw q10 (by omega)
     replace q12:=put_row hw q12 rfl
     replace E:=ext_cells E hw (fun h=>by first | exact absurd h (by omega) | simp)
     replace eT:=ext_cells eT hw (fun h=>by first | exact absurd h (by omega) | simp)
     clear hw
     refine ⟨fun _=>eT,?_⟩
     refine F.x (i:=17) rfl (fun w'=>R_assign rfl (F.at rfl)) (fun _=>eT) ?_;clear F fa;intro fa F
     refine ax_done (by kernel_rfl) ?_ _
     exact hcut _ _ _ _ _ _ _ _ (F.sub (.c 1 rfl (.c 2 rfl (.c 3 rfl (.c 4 rfl (.c 5 rfl (.c 10 rfl (.c 12 rfl (.c 13 rfl .n))))))))) q5 q10 q12 E (by omega) (by omega) (by omega) ism hk
  ·skip
   refine (op_new F rfl rfl (by decide) rfl (R_alloc rfl Try.zeroValue111) ?_);clear F fa;intro fa w22 F hw
   obtain ⟨n12,hn⟩ : ∃ n,n = w3.heap.size:=⟨_,rfl⟩
   rw [← hn] at F
   have s12 : w3.heap.size ≤ n12:=Nat.le_of_eq hn.symm
   have l12_E : w.heap.size ≤ n12:=by rw [hn];exact E.size
   have lT12 : w2.heap.size ≤ n12:=by rw [hn];exact eT.size
   have m12_5 : n5 < n12:=by rw [hn];exact blk_lt q5
   have m12_10 : n10 < n12:=by rw [hn];exact blk_lt q10
   replace q5:=keep_alloc hw q5
   replace q10:=keep_alloc hw q10
   replace E:=ext_alloc E hw
   replace eT:=ext_alloc eT hw
   have q12:=new_row hw hn
   clear hw hn
   refine ⟨fun _=>eT,?_⟩
   refine ax_only (i:=4) (by kernel_rfl) (op_call F rfl rfl (by decide) rfl (R_callV rfl rfl Try.call94 (mpS (F.at rfl) (mpS (F.at rfl) (mpS (F.at rfl) mp0)))) (refIs_any t _ _ _ s a _) fun e w23 hR=>?_)
   obtain ⟨rfl,e9⟩:=hR
   refine ⟨_,rfl,?_⟩;clear F fa;intro fa F
   replace q5:=(e9).keep0 q5
   replace q10:=(e9).keep0 q10
   replace q12:=(e9).keep0 q12
   replace E:=ext_same E (e9)
   replace eT:=ext_same eT (e9)
   clear e9
   refine ⟨fun _=>eT,?_⟩
   refine F.x (i:=5) rfl (fun w'=>R_move rfl (F.at rfl)) (fun _=>eT) ?_;clear F fa;intro fa F
   cases hg2 : (isMB t s a)
   ·skip
    replace F:=F.re (k:=20) rfl (congrArg Value.bool hg2)
    refine ax_no (i:=6) F rfl rfl (by decide) (by kernel_rfl) (fun _ _ _ h=>h) (wantF F rfl rfl (by decide) rfl (by decide)) (fun _=>eT) ?_;clear F fa;intro fa F
    refine ax_no (i:=7) F rfl rfl (by decide) (by kernel_rfl) (fun _ _ _ h=>h) (wantF F rfl rfl (by decide) rfl (by decide)) (fun _=>eT) ?_;clear F fa;intro fa F
    refine ax_no (i:=8) F rfl rfl (by decide) (by kernel_rfl) (fun _ _ _ h=>h) (wantF F rfl rfl (by decide) rfl (by decide)) (fun _=>eT) ?_;clear F fa;intro fa F
    refine ax_no (i:=9) F rfl rfl (by decide) (by kernel_rfl) (fun _ _ _ h=>h) (wantF F rfl rfl (by decide) rfl (by decide)) (fun _=>eT) ?_;clear F fa;intro fa F
    refine F.x (i:=10) rfl (fun w'=>R_pickF rfl (F.at rfl) (ev_c fa _)) (fun _=>eT) ?_;clear F fa;intro fa F
    first | replace F:=F.re (k:=25) rfl (congrArg Value.bool (show isMB t o h = bb by rw [hbb,(show isMB t s a = true by assumption)];rfl)) | replace F:=F.re (k:=25) rfl (congrArg Value.bool (show false = bb by rw [hbb,(show isMB t s a = false by assumption)];rfl))
    have hle:=E.size
    refine ax_only (i:=11) (by kernel_rfl) (op_call F rfl rfl (by decide) rfl (R_callV rfl rfl Try.call93 (mpS (F.at rfl) (mpS (F.at rfl) mp0))) (refBegin_any t hn bb ga ra la gc rc lc _ (HT.out.ext E (by simp)) l1 l2 l3) fun e w24 hR=>?_)
    obtain ⟨oa,k,oc,va,vc,rfl,hk,ism,eX⟩:=hR
    refine ⟨_,rfl,?_⟩;clear F fa;intro fa F
    replace q5:=(eX).keep0 q5
    replace q10:=(eX).keep0 q10
    replace q12:=(eX).keep0 q12
    replace E:=ext_same E (eX)
    replace eT:=ext_same eT (eX)
    refine ⟨fun _=>eT,?_⟩
    replace ism:=ism_lower ism hle
    refine F.x (i:=12) rfl (fun w'=>R_move rfl (F.at rfl)) (fun _=>eT) ?_;clear F fa;intro fa F
    refine F.x (i:=13) rfl (fun w'=>R_extract rfl (F.at rfl) (get0)) (fun _=>eT) ?_;clear F fa;intro fa F
    refine F.x (i:=14) rfl (fun w'=>R_extract rfl (F.at rfl) (getS (get0))) (fun _=>eT) ?_;clear F fa;intro fa F
    refine ax_only (i:=16) (by kernel_rfl) (op_to rfl rfl rfl (R_storeRow rfl (F.at rfl) (F.at rfl) (by kernel_rfl) (by first | (simp [Value.oneCell'];done) | (simp [Value.oneCell',grRow,rdRow,lkRow];done)) q12 rfl) ?_);intro w25 hw
    replace ism:=ism_lift ism (fun _ _ _ h=>owns_cellsX hw h (own_ne_type h q12 (by decide))) (fun _ _ _ h=>owns_cellsX hw h (own_ne_type h q12 (by decide)))
    replace q5:=keep_cells hw q5 (by omega)
    replace q10:=keep_cells hw q10 (by omega)
    replace q12:=put_row hw q12 rfl
    replace E:=ext_cells E hw (fun h=>by first | exact absurd h (by omega) | simp)
    replace eT:=ext_cells eT hw (fun h=>by first | exact absurd h (by omega) | simp)
    clear hw
    refine ⟨fun _=>eT,?_⟩
    refine F.x (i:=17) rfl (fun w'=>R_assign rfl (F.at rfl)) (fun _=>eT) ?_;clear F fa;intro fa F
    refine ax_done (by kernel_rfl) ?_ _
    exact hcut _ _ _ _ _ _ _ _ (F.sub (.c 1 rfl (.c 2 rfl (.c 3 rfl (.c 4 rfl (.c 5 rfl (.c 10 rfl (.c 12 rfl (.c 13 rfl .n))))))))) q5 q10 q12 E (by omega) (by omega) (by omega) ism hk
   ·skip
    replace F:=F.re (k:=20) rfl (congrArg Value.bool hg2)
    refine F.xr (i:=6) rfl (fun w' hS=>R_loadBlk rfl (F.at rfl) Try.underlying28 rfl (by kernel_rfl) (hS.keep q5_ (by simp))) (fun _=>eT) ?_ (hw:=(wantT F rfl rfl (by decide) rfl));clear F fa;intro fa F
    refine F.x (i:=7) rfl (fun w'=>R_move rfl (F.at rfl)) (fun _=>eT) ?_ (hw:=(wantT F rfl rfl (by decide) rfl));clear F fa;intro fa F
    refine F.x (i:=8) rfl (fun w'=>R_move rfl (F.at rfl)) (fun _=>eT) ?_ (hw:=(wantT F rfl rfl (by decide) rfl));clear F fa;intro fa F
    refine ax_only (i:=9) (by kernel_rfl) (op_call F rfl rfl (by decide) (wantT F rfl rfl (by decide) rfl) (R_callV rfl rfl Try.call94 (mpS (F.at rfl) (mpS (F.at rfl) (mpS (F.at rfl) mp0)))) (refIs_any t _ _ _ o h _) fun e w26 hR=>?_)
    obtain ⟨rfl,e9⟩:=hR
    refine ⟨_,rfl,?_⟩;clear F fa;intro fa F
    replace q5:=(e9).keep0 q5
    replace q10:=(e9).keep0 q10
    replace q12:=(e9).keep0 q12
    replace E:=ext_same E (e9)
    replace eT:=ext_same eT (e9)
    clear e9
    refine ⟨fun _=>eT,?_⟩
    refine F.x (i:=10) rfl (fun w'=>R_pickT rfl (F.at rfl) (F.at rfl)) (fun _=>eT) ?_;clear F fa;intro fa F
    first | replace F:=F.re (k:=25) rfl (congrArg Value.bool (show isMB t o h = bb by rw [hbb,(show isMB t s a = true by assumption)];rfl)) | replace F:=F.re (k:=25) rfl (congrArg Value.bool (show false = bb by rw [hbb,(show isMB t s a = false by assumption)];rfl))
    have hle:=E.size
    refine ax_only (i:=11) (by kernel_rfl) (op_call F rfl rfl (by decide) rfl (R_callV rfl rfl Try.call93 (mpS (F.at rfl) (mpS (F.at rfl) mp0))) (refBegin_any t hn bb ga ra la gc rc lc _ (HT.out.ext E (by simp)) l1 l2 l3) fun e w27 hR=>?_)
    obtain ⟨oa,k,oc,va,vc,rfl,hk,ism,eX⟩:=hR
    refine ⟨_,rfl,?_⟩;clear F fa;intro fa F
    replace q5:=(eX).keep0 q5
    replace q10:=(eX).keep0 q10
    replace q12:=(eX).keep0 q12
    replace E:=ext_same E (eX)
    replace eT:=ext_same eT (eX)
    refine ⟨fun _=>eT,?_⟩
    replace ism:=ism_lower ism hle
    refine F.x (i:=12) rfl (fun w'=>R_move rfl (F.at rfl)) (fun _=>eT) ?_;clear F fa;intro fa F
    refine F.x (i:=13) rfl (fun w'=>R_extract rfl (F.at rfl) (get0)) (fun _=>eT) ?_;clear F fa;intro fa F
    refine F.x (i:=14) rfl (fun w'=>R_extract rfl (F.at rfl) (getS (get0))) (fun _=>eT) ?_;clear F fa;intro fa F
    refine ax_only (i:=16) (by kernel_rfl) (op_to rfl rfl rfl (R_storeRow rfl (F.at rfl) (F.at rfl) (by kernel_rfl) (by first | (simp [Value.oneCell'];done) | (simp [Value.oneCell',grRow,rdRow,lkRow];done)) q12 rfl) ?_);intro w28 hw
    replace ism:=ism_lift ism (fun _ _ _ h=>owns_cellsX hw h (own_ne_type h q12 (by decide))) (fun _ _ _ h=>owns_cellsX hw h (own_ne_type h q12 (by decide)))
    replace q5:=keep_cells hw q5 (by omega)
    replace q10:=keep_cells hw q10 (by omega)
    replace q12:=put_row hw q12 rfl
    replace E:=ext_cells E hw (fun h=>by first | exact absurd h (by omega) | simp)
    replace eT:=ext_cells eT hw (fun h=>by first | exact absurd h (by omega) | simp)
    clear hw
    refine ⟨fun _=>eT,?_⟩
    refine F.x (i:=17) rfl (fun w'=>R_assign rfl (F.at rfl)) (fun _=>eT) ?_;clear F fa;intro fa F
    refine ax_done (by kernel_rfl) ?_ _
    exact hcut _ _ _ _ _ _ _ _ (F.sub (.c 1 rfl (.c 2 rfl (.c 3 rfl (.c 4 rfl (.c 5 rfl (.c 10 rfl (.c 12 rfl (.c 13 rfl .n))))))))) q5 q10 q12 E (by omega) (by omega) (by omega) ism hk
 clear F q5 q10 E fa
 intro n12 oa k oc va vc fa w29 F q5 q10 q12 E l12_E m12_5 m12_10 ism hk
 refine hK2 _ _ ?_
 clear hK2
 refine wp_seq_k fun K3 hK3=>?_
 refine wp_seq_k fun K4 hK4=>?_
 refine wp_region_lit ?_
 refine F.mv ?_;clear F fa;intro fa F
 refine F.vl (R_neqD rfl (F.at rfl) (ev_c fa _)) ?_;clear F fa;intro fa F
 refine wpList_nil ?_
 refine hK4 _ _ ?_
 clear hK4
 refine cd_if F rfl (fun hc30=>?_) (fun hc30=>?_)
 ·skip
  refine wp_seq_k fun K5 hK5=>?_
  refine wp_region_lit ?_
  refine F.vl (R_buildV rfl pr0 (cells:=#[.int .i64 0,.int .i64 0]) (by kernel_rfl)) ?_;clear F fa;intro fa F
  refine F.mv ?_;clear F fa;intro fa F
  refine sq_to rfl rfl (R_storeRow rfl (F.at rfl) (F.at rfl) (by kernel_rfl) (by first | (simp [Value.oneCell'];done) | (simp [Value.oneCell',grRow,rdRow,lkRow];done)) q10 rfl) ?_;intro w30 hw
  replace ism:=ism_lift ism (fun _ _ _ h=>owns_cellsX hw h (own_ne_type h q10 (by decide))) (fun _ _ _ h=>owns_cellsX hw h (own_ne_type h q10 (by decide)))
  replace q5:=keep_cells hw q5 (by omega)
  replace q10:=put_row hw q10 rfl
  replace q12:=keep_cells hw q12 (by omega)
  replace E:=ext_cells E hw (fun h=>by first | exact absurd h (by omega) | simp)
  clear hw
  refine F.as ?_;clear F fa;intro fa F
  refine wpList_nil ?_
  refine hK5 _ _ ?_
  clear hK5
  refine wp_ret ?_
  (try simp only [Exit.inBlock,Exit.then])
  refine rt_v F (rs_ct F rfl rfl rfl Try.underlying23 rfl (by kernel_rfl) q10) ?_
  exact ⟨by rw [hbe,apartV,if_neg (by rw [hbe];omega)],E⟩
 ·skip
  refine wp_skip ?_
  refine hK3 _ _ ?_
  clear hK3
  refine wp_seq_k fun K6 hK6=>?_
  have h0 : begE t bb = 0:=by omega
  obtain ⟨hL,hb⟩:=begE_zero h0
  have hnn:=hn hL.ok
  rw [hbb,Bool.and_eq_true] at hb
  obtain ⟨s0,s1,a0,a1⟩:=(isMB_iff hL.ok).1 hb.1
  obtain ⟨o0,o1,h0',h1⟩:=(isMB_iff hL.ok).1 hb.2
  obtain rfl:=hk h0
  have hlt:=rn_lt hL.ok hnn s0 s1 a0 a1
  have hlu:=rn_lt hL.ok hnn o0 o1 h0' h1
  obtain ⟨k1,k2,k3⟩:=ref_at hL hnn (i:=rnI t s a) (j:=rnI t o h) hlt hlu
  obtain ⟨k4,k5,k6⟩:=ref_at hL hnn (i:=rnI t o h) (j:=rnI t s a) hlu hlt
  refine region_x (Ext [] w29) (some 10) follows fun w31 hh eh=>?_
  have q5_:=q5
  replace q5:=keep_same hh q5
  have q10_:=q10
  replace q10:=keep_same hh q10
  have q12_:=q12
  replace q12:=keep_same hh q12
  have E_:=E
  have zEw31:=E.size
  replace E:=ext_same E eh
  replace ism:=ism_lift ism (fun _ _ _ h=>owns_same hh h) (fun _ _ _ h=>owns_same hh h)
  have eT:=eh
  clear hh eh
  refine F.xr (i:=0) rfl (fun w' hS=>R_loadBlk rfl (F.at rfl) Try.underlying111 rfl (by kernel_rfl) (hS.keep q12_ (by simp))) (fun _=>eT) ?_;clear F fa;intro fa F
  refine F.xr (i:=1) rfl (fun w' hS=>R_loadBlk rfl (F.at rfl) Try.underlying28 rfl (by kernel_rfl) (hS.keep q5_ (by simp))) (fun _=>eT) ?_;clear F fa;intro fa F
  refine F.x (i:=2) rfl (fun w'=>R_move rfl (F.at rfl)) (fun _=>eT) ?_;clear F fa;intro fa F
  refine F.x (i:=3) rfl (fun w'=>R_move rfl (F.at rfl)) (fun _=>eT) ?_;clear F fa;intro fa F
  refine F.xr (i:=5) rfl (fun w' hS=>R_loadBlk rfl (F.at rfl) Try.underlying28 rfl (by kernel_rfl) (hS.keep q5_ (by simp))) (fun _=>eT) ?_;clear F fa;intro fa F
  refine F.x (i:=6) rfl (fun w'=>R_move rfl (F.at rfl)) (fun _=>eT) ?_;clear F fa;intro fa F
  refine F.x (i:=7) rfl (fun w'=>R_move rfl (F.at rfl)) (fun _=>eT) ?_;clear F fa;intro fa F
  refine ax_only (i:=4) (by kernel_rfl) (op_call F rfl rfl (by decide) rfl (R_callV rfl rfl Try.call96 (mpS (F.at rfl) (mpS (F.at rfl) (mpS (F.at rfl) mp0)))) (refMeasured_any hL.ok _ _ _ s a _ s0 s1 a0 a1) fun e w32 hR=>?_)
  obtain ⟨rfl,e9⟩:=hR
  refine ⟨_,rfl,?_⟩;clear F fa;intro fa F
  replace ism:=ism_lift ism (fun _ _ _ h=>owns_ext h (e9) (by simp)) (fun _ _ _ h=>owns_ext h (e9) (by simp))
  replace q5:=(e9).keep0 q5
  replace q10:=(e9).keep0 q10
  replace q12:=(e9).keep0 q12
  replace E:=ext_same E (e9)
  replace eT:=ext_same eT (e9)
  clear e9
  refine ⟨fun _=>eT,?_⟩
  refine ax_only (i:=8) (by kernel_rfl) (op_call F rfl rfl (by decide) rfl (R_callV rfl rfl Try.call96 (mpS (F.at rfl) (mpS (F.at rfl) (mpS (F.at rfl) mp0)))) (refMeasured_any hL.ok _ _ _ o h _ o0 o1 h0' h1) fun e w33 hR=>?_)
  obtain ⟨rfl,e9⟩:=hR
  refine ⟨_,rfl,?_⟩;clear F fa;intro fa F
  replace ism:=ism_lift ism (fun _ _ _ h=>owns_ext h (e9) (by simp)) (fun _ _ _ h=>owns_ext h (e9) (by simp))
  replace q5:=(e9).keep0 q5
  replace q10:=(e9).keep0 q10
  replace q12:=(e9).keep0 q12
  replace E:=ext_same E (e9)
  replace eT:=ext_same eT (e9)
  clear e9
  refine ⟨fun _=>eT,?_⟩
  refine ax_only (i:=9) (by kernel_rfl) (op_call F rfl rfl (by decide) rfl (R_callV rfl rfl Try.call95 (mpS (F.at rfl) (mpS (F.at rfl) (mpS (F.at rfl) mp0)))) (refSpan_any (nR_13 hL.ok hnn).1 (ism_mf ism) (rnI t s a) (rnI t o h) hlt hlu k5 k6) fun e w34 hR=>?_)
  obtain ⟨rfl,e9⟩:=hR
  refine ⟨_,rfl,?_⟩;clear F fa;intro fa F
  replace ism:=ism_lift ism (fun _ _ _ h=>owns_ext h (e9) (by simp)) (fun _ _ _ h=>owns_ext h (e9) (by simp))
  replace q5:=(e9).keep0 q5
  replace q10:=(e9).keep0 q10
  replace q12:=(e9).keep0 q12
  replace E:=ext_same E (e9)
  replace eT:=ext_same eT (e9)
  clear e9
  refine ⟨fun _=>eT,?_⟩
  refine ax_only (i:=10) (by kernel_rfl) (op_to rfl rfl rfl (R_storeRow rfl (F.at rfl) (F.at rfl) (by kernel_rfl) (by first | (simp [Value.oneCell'];done) | (simp [Value.oneCell',grRow,rdRow,lkRow];done)) q10 rfl) ?_);intro w35 hw
  replace ism:=ism_lift ism (fun _ _ _ h=>owns_cellsX hw h (own_ne_type h q10 (by decide))) (fun _ _ _ h=>owns_cellsX hw h (own_ne_type h q10 (by decide)))
  replace q5:=keep_cells hw q5 (by omega)
  replace q10:=put_row hw q10 rfl
  replace q12:=keep_cells hw q12 (by omega)
  replace E:=ext_cells E hw (fun h=>by first | exact absurd h (by omega) | simp)
  clear hw
  refine ⟨gone (by kernel_rfl),?_⟩
  refine F.x (i:=11) rfl (fun w'=>R_assign rfl (ev_c fa _)) (gone (by kernel_rfl)) ?_;clear F fa;intro fa F
  refine ax_done (by kernel_rfl) ?_ _
  clear eT q5_ q10_ q12_ E_
  refine hK6 _ _ ?_
  clear hK6
  refine wp_ret ?_
  (try simp only [Exit.inBlock,Exit.then])
  refine rt_v F (rs_ct F rfl rfl rfl Try.underlying23 rfl (by kernel_rfl) q10) ?_
  exact ⟨by rw [hbe,h0,k1,k4,phi_n hL.ok s0 s1 a0 a1,phi_n hL.ok o0 o1 h0' h1,apartV,if_pos (by rw [hbe,h0])],E⟩
set_option maxRecDepth 100000 in
set_option maxHeartbeats 1000000 in
theorem refWider_any (s o a : Int) : Calls Try.prog 64 #[tpV t (.slice ga t.gr.length gc) (.slice ra t.rd.length rc) (.slice la t.lk.length lc),.int .i64 s,.int .i64 o,.int .i64 a] w fun e w'=>e = .returned (.tuple #[.int .i64 (widV t s o a),.int .i64 (widE t s o a)]) ∧ Ext [] w w':=by
 have E : Ext [] w w:=Ext.refl _ _
 have hwr:=wid_ref t s o a
 have HT:=Lib.hid ht
 have HA:=Lib.hid (fun W (e : Ext [] w W)=>refApart_any t hn ga ra la gc rc lc W (ht.ext e (by simp)) l1 l2 l3 s a o a)
 clear ht
 unfold tpV at HA ⊢
 refine calls_has 48 Try.func64 rfl Try.ntmps64 (Nat.le_of_ble_eq_true rfl) ?_
 intro fa F
 refine wp_seq_k fun K1 hK1=>?_
 refine wp_region_lit ?_
 refine sq_new F rfl (by decide) rfl (R_box rfl (F.at rfl)) ?_;clear F fa;intro fa w1 F hw
 obtain ⟨n4,hn⟩ : ∃ n,n = w.heap.size:=⟨_,rfl⟩
 rw [← hn] at F
 have s4 : w.heap.size ≤ n4:=Nat.le_of_eq hn.symm
 have l4_E : w.heap.size ≤ n4:=by rw [hn];exact E.size
 replace E:=ext_alloc E hw
 have q4:=new_row hw hn
 clear hw hn
 refine F.vl (R_assign rfl (ev_c fa _)) ?_;clear F fa;intro fa F
 refine F.vl (R_assign rfl (ev_c fa _)) ?_;clear F fa;intro fa F
 refine wpList_nil ?_
 refine hK1 _ _ ?_
 clear hK1
 refine wp_seq_k fun K2 hK2=>?_
 refine wp_seq_k fun K3 hK3=>?_
 refine wp_region_lit ?_
 refine F.vl (R_loadBlk rfl (F.at rfl) Try.underlying28 rfl (by kernel_rfl) q4) ?_;clear F fa;intro fa F
 refine sq_call F rfl (by decide) rfl (R_callV rfl rfl Try.call32 (mpS (F.at rfl) mp0)) (refCheck_any t ga ra la gc rc lc _ (HT.out.ext E (by simp)) l1 l2 l3) fun e w2 hR=>?_
 obtain ⟨rfl,e9⟩:=hR
 refine ⟨_,rfl,?_⟩;clear F fa;intro fa F
 replace q4:=(e9).keep0 q4
 replace E:=ext_same E (e9)
 clear e9
 refine F.as ?_;clear F fa;intro fa F
 refine wpList_nil ?_
 refine hK3 _ _ ?_
 clear hK3
 refine wp_seq_k fun K4 hK4=>?_
 refine wp_region_lit ?_
 refine F.mv ?_;clear F fa;intro fa F
 refine F.vl (R_neqD rfl (F.at rfl) (ev_c fa _)) ?_;clear F fa;intro fa F
 refine wpList_nil ?_
 refine hK4 _ _ ?_
 clear hK4
 refine cd_if F rfl (fun hc16=>?_) (fun hc16=>?_)
 ·skip
  refine wp_seq_k fun K5 hK5=>?_
  refine wp_region_lit ?_
  refine F.mv ?_;clear F fa;intro fa F
  refine F.vl (R_assign rfl (ev_c fa _)) ?_;clear F fa;intro fa F
  refine F.as ?_;clear F fa;intro fa F
  refine wpList_nil ?_
  refine hK5 _ _ ?_
  clear hK5
  refine wp_ret ?_
  (try simp only [Exit.inBlock,Exit.then])
  refine rt_v F (rs_2 F rfl rfl rfl) ?_
  exact ⟨by unfold widV;rw [hwr,if_pos hc16,if_neg hc16],E⟩
 ·skip
  refine wp_skip ?_
  refine hK2 _ _ ?_
  clear hK2
  refine wp_seq_k fun K6 hK6=>?_
  refine wp_seq_k fun K7 hK7=>?_
  by_cases hm : isMB t s a = true ∧ s = o
  ·skip
   rw [if_neg hc16,if_pos hm] at hwr
   refine wp_region_lit ?_
   refine F.vl (R_loadBlk rfl (F.at rfl) Try.underlying28 rfl (by kernel_rfl) q4) ?_;clear F fa;intro fa F
   refine F.mv ?_;clear F fa;intro fa F
   refine F.mv ?_;clear F fa;intro fa F
   refine sq_call F rfl (by decide) rfl (R_callV rfl rfl Try.call94 (mpS (F.at rfl) (mpS (F.at rfl) (mpS (F.at rfl) mp0)))) (refIs_any t _ _ _ s a _) fun e w3 hR=>?_
   obtain ⟨rfl,e9⟩:=hR
   refine ⟨_,rfl,?_⟩;clear F fa;intro fa F
   replace q4:=(e9).keep0 q4
   replace E:=ext_same E (e9)
   clear e9
   rw [hm.1] at F
   refine F.mv ?_;clear F fa;intro fa F
   refine F.mv ?_ (hw:=(wantT F rfl rfl (by decide) rfl));clear F fa;intro fa F
   refine F.mv ?_ (hw:=(wantT F rfl rfl (by decide) rfl));clear F fa;intro fa F
   refine F.vl (R_eqlB (b:=true) rfl (F.at rfl) (F.at rfl) (decide_eq_true (hm.2))) ?_ (hw:=(wantT F rfl rfl (by decide) rfl));clear F fa;intro fa F
   refine F.vl (R_pickT rfl (F.at rfl) (F.at rfl)) ?_;clear F fa;intro fa F
   refine wpList_nil ?_
   refine hK7 _ _ ?_
   clear hK7
   refine cd_T F rfl ?_
   refine wp_seq_k fun K8 hK8=>?_
   refine wp_region_lit ?_
   refine F.vl (R_assign rfl (ev_c fa _)) ?_;clear F fa;intro fa F
   refine F.vl (R_assign rfl (ev_c fa _)) ?_;clear F fa;intro fa F
   refine wpList_nil ?_
   refine hK8 _ _ ?_
   clear hK8
   refine wp_ret ?_
   (try simp only [Exit.inBlock,Exit.then])
   refine rt_v F (rs_2 F rfl rfl rfl) ?_
   refine ⟨?_,E⟩
   unfold widV
   rw [hwr]
   first | (rw [if_neg (by decide)];done) | (rw [if_neg hc36];done) | (rw [if_pos (Decidable.not_not.1 hc36),Decidable.not_not.1 hc36,if_pos hc40];done) | (rw [if_pos (Decidable.not_not.1 hc36),Decidable.not_not.1 hc36,if_neg hc40,if_pos hc44];done) | (rw [if_pos (Decidable.not_not.1 hc36),Decidable.not_not.1 hc36,if_neg hc40,if_neg hc44];done)
  ·skip
   by_cases hm1 : isMB t s a = true
   ·skip
    rw [if_neg hc16,if_neg hm] at hwr
    refine wp_region_lit ?_
    refine F.vl (R_loadBlk rfl (F.at rfl) Try.underlying28 rfl (by kernel_rfl) q4) ?_;clear F fa;intro fa F
    refine F.mv ?_;clear F fa;intro fa F
    refine F.mv ?_;clear F fa;intro fa F
    refine sq_call F rfl (by decide) rfl (R_callV rfl rfl Try.call94 (mpS (F.at rfl) (mpS (F.at rfl) (mpS (F.at rfl) mp0)))) (refIs_any t _ _ _ s a _) fun e w4 hR=>?_
    obtain ⟨rfl,e9⟩:=hR
    refine ⟨_,rfl,?_⟩;clear F fa;intro fa F
    replace q4:=(e9).keep0 q4
    replace E:=ext_same E (e9)
    clear e9
    rw [hm1] at F
    refine F.mv ?_;clear F fa;intro fa F
    refine F.mv ?_ (hw:=(wantT F rfl rfl (by decide) rfl));clear F fa;intro fa F
    refine F.mv ?_ (hw:=(wantT F rfl rfl (by decide) rfl));clear F fa;intro fa F
    refine F.vl (R_eqlB (b:=false) rfl (F.at rfl) (F.at rfl) (decide_eq_false ((fun e=>hm ⟨hm1,e⟩)))) ?_ (hw:=(wantT F rfl rfl (by decide) rfl));clear F fa;intro fa F
    refine F.vl (R_pickT rfl (F.at rfl) (F.at rfl)) ?_;clear F fa;intro fa F
    refine wpList_nil ?_
    refine hK7 _ _ ?_
    clear hK7
    refine cd_F F rfl ?_
    refine wp_skip ?_
    refine hK6 _ _ ?_
    clear hK6
    refine wp_seq_k fun K9 hK9=>?_
    refine wp_region_lit ?_
    refine F.vl (R_loadBlk rfl (F.at rfl) Try.underlying28 rfl (by kernel_rfl) q4) ?_;clear F fa;intro fa F
    refine F.mv ?_;clear F fa;intro fa F
    refine F.mv ?_;clear F fa;intro fa F
    refine F.mv ?_;clear F fa;intro fa F
    refine F.mv ?_;clear F fa;intro fa F
    refine sq_call F rfl (by decide) rfl (R_callV rfl rfl Try.call62 (mpS (F.at rfl) (mpS (F.at rfl) (mpS (F.at rfl) (mpS (F.at rfl) (mpS (F.at rfl) mp0)))))) (HA.out _ E) fun e w5 hR=>?_
    obtain ⟨rfl,e9⟩:=hR
    refine ⟨_,rfl,?_⟩;clear F fa;intro fa F
    replace q4:=(e9).keep0 q4
    replace E:=ext_same E (e9)
    clear e9
    refine F.mv ?_;clear F fa;intro fa F
    refine F.vl (R_extract rfl (F.at rfl) (get0)) ?_;clear F fa;intro fa F
    refine F.vl (R_extract rfl (F.at rfl) (getS (get0))) ?_;clear F fa;intro fa F
    refine sq_new F rfl (by decide) rfl (R_alloc rfl Try.zeroValue23) ?_;clear F fa;intro fa w6 F hw
    obtain ⟨n11,hn⟩ : ∃ n,n = w5.heap.size:=⟨_,rfl⟩
    rw [← hn] at F
    have s11 : w5.heap.size ≤ n11:=Nat.le_of_eq hn.symm
    have l11_E : w.heap.size ≤ n11:=by rw [hn];exact E.size
    have m11_4 : n4 < n11:=by rw [hn];exact blk_lt q4
    replace q4:=keep_alloc hw q4
    replace E:=ext_alloc E hw
    have q11:=new_row hw hn
    clear hw hn
    refine sq_to rfl rfl (R_storeRow rfl (F.at rfl) (F.at rfl) (by kernel_rfl) (by first | (simp [Value.oneCell'];done) | (simp [Value.oneCell',grRow,rdRow,lkRow];done)) q11 rfl) ?_;intro w7 hw
    replace q4:=keep_cells hw q4 (by omega)
    replace q11:=put_row hw q11 rfl
    replace E:=ext_cells E hw (fun h=>by first | exact absurd h (by omega) | simp)
    clear hw
    refine F.as ?_;clear F fa;intro fa F
    refine wpList_nil ?_
    refine hK9 _ _ ?_
    clear hK9
    refine wp_seq_k fun K10 hK10=>?_
    refine wp_block ?_
    refine wp_seq_k fun K11 hK11=>?_
    refine wp_region_lit ?_
    refine F.mv ?_;clear F fa;intro fa F
    refine F.vl (R_neqD rfl (F.at rfl) (ev_c fa _)) ?_;clear F fa;intro fa F
    refine F.as ?_;clear F fa;intro fa F
    refine wpList_nil ?_
    refine hK11 _ _ ?_
    clear hK11
    refine cd_if F rfl (fun hc36=>?_) (fun hc36=>?_)
    ·skip
     refine wp_seq_k fun K12 hK12=>?_
     refine wp_region_lit ?_
     refine F.mv ?_;clear F fa;intro fa F
     refine F.vl (R_assign rfl (ev_c fa _)) ?_;clear F fa;intro fa F
     refine F.as ?_;clear F fa;intro fa F
     refine wpList_nil ?_
     refine hK12 _ _ ?_
     clear hK12
     refine wp_ret ?_
     (try simp only [Exit.inBlock,Exit.then])
     refine rt_v F (rs_2 F rfl rfl rfl) ?_
     refine ⟨?_,E⟩
     unfold widV
     rw [hwr]
     first | (rw [if_neg (by decide)];done) | (rw [if_neg hc36];done) | (rw [if_pos (Decidable.not_not.1 hc36),Decidable.not_not.1 hc36,if_pos hc40];done) | (rw [if_pos (Decidable.not_not.1 hc36),Decidable.not_not.1 hc36,if_neg hc40,if_pos hc44];done) | (rw [if_pos (Decidable.not_not.1 hc36),Decidable.not_not.1 hc36,if_neg hc40,if_neg hc44];done)
    ·skip
     refine wp_seq_k fun K13 hK13=>?_
     refine wp_region_lit ?_
     refine F.vl (R_field rfl (F.at rfl) Try.underlying23 rfl (n:=0) (sz:=1) rfl (by kernel_rfl) (by decide)) ?_;clear F fa;intro fa F
     refine F.vl (R_load rfl (F.at rfl) Try.underlying3 rfl ((cells_of_block q11 0).trans (get0))) ?_;clear F fa;intro fa F
     refine F.vl (R_gtr rfl (F.at rfl) (ev_c fa _)) ?_;clear F fa;intro fa F
     refine F.as ?_;clear F fa;intro fa F
     refine wpList_nil ?_
     refine hK13 _ _ ?_
     clear hK13
     refine cd_if F rfl (fun hc40=>?_) (fun hc40=>?_)
     ·skip
      refine wp_seq_k fun K14 hK14=>?_
      refine wp_region_lit ?_
      refine F.vl (R_assign rfl (ev_c fa _)) ?_;clear F fa;intro fa F
      refine F.vl (R_assign rfl (ev_c fa _)) ?_;clear F fa;intro fa F
      refine wpList_nil ?_
      refine hK14 _ _ ?_
      clear hK14
      refine wp_ret ?_
      (try simp only [Exit.inBlock,Exit.then])
      refine rt_v F (rs_2 F rfl rfl rfl) ?_
      refine ⟨?_,E⟩
      unfold widV
      rw [hwr]
      first | (rw [if_neg (by decide)];done) | (rw [if_neg hc36];done) | (rw [if_pos (Decidable.not_not.1 hc36),Decidable.not_not.1 hc36,if_pos hc40];done) | (rw [if_pos (Decidable.not_not.1 hc36),Decidable.not_not.1 hc36,if_neg hc40,if_pos hc44];done) | (rw [if_pos (Decidable.not_not.1 hc36),Decidable.not_not.1 hc36,if_neg hc40,if_neg hc44];done)
     ·skip
      refine wp_seq_k fun K15 hK15=>?_
      refine wp_region_lit ?_
      refine F.vl (R_field rfl (F.at rfl) Try.underlying23 rfl (n:=1) (sz:=1) rfl (by kernel_rfl) (by decide)) ?_;clear F fa;intro fa F
      refine F.vl (R_load rfl (F.at rfl) Try.underlying3 rfl ((cells_of_block q11 1).trans (getS (get0)))) ?_;clear F fa;intro fa F
      refine F.vl (R_leq rfl (F.at rfl) (ev_c fa _)) ?_;clear F fa;intro fa F
      refine F.as ?_;clear F fa;intro fa F
      refine wpList_nil ?_
      refine hK15 _ _ ?_
      clear hK15
      refine cd_if F rfl (fun hc44=>?_) (fun hc44=>?_)
      ·skip
       refine wp_seq_k fun K16 hK16=>?_
       refine wp_region_lit ?_
       refine F.vl (R_assign rfl (ev_c fa _)) ?_;clear F fa;intro fa F
       refine F.vl (R_assign rfl (ev_c fa _)) ?_;clear F fa;intro fa F
       refine wpList_nil ?_
       refine hK16 _ _ ?_
       clear hK16
       refine wp_ret ?_
       (try simp only [Exit.inBlock,Exit.then])
       refine rt_v F (rs_2 F rfl rfl rfl) ?_
       refine ⟨?_,E⟩
       unfold widV
       rw [hwr]
       first | (rw [if_neg (by decide)];done) | (rw [if_neg hc36];done) | (rw [if_pos (Decidable.not_not.1 hc36),Decidable.not_not.1 hc36,if_pos hc40];done) | (rw [if_pos (Decidable.not_not.1 hc36),Decidable.not_not.1 hc36,if_neg hc40,if_pos hc44];done) | (rw [if_pos (Decidable.not_not.1 hc36),Decidable.not_not.1 hc36,if_neg hc40,if_neg hc44];done)
      ·skip
       refine wp_skip ?_
       refine hK10 _ _ ?_
       clear hK10
       refine wp_seq_k fun K17 hK17=>?_
       refine wp_region_lit ?_
       refine F.vl (R_assign rfl (ev_c fa _)) ?_;clear F fa;intro fa F
       refine F.vl (R_assign rfl (ev_c fa _)) ?_;clear F fa;intro fa F
       refine wpList_nil ?_
       refine hK17 _ _ ?_
       clear hK17
       refine wp_ret ?_
       (try simp only [Exit.inBlock,Exit.then])
       refine rt_v F (rs_2 F rfl rfl rfl) ?_
       refine ⟨?_,E⟩
       unfold widV
       rw [hwr]
       first | (rw [if_neg (by decide)];done) | (rw [if_neg hc36];done) | (rw [if_pos (Decidable.not_not.1 hc36),Decidable.not_not.1 hc36,if_pos hc40];done) | (rw [if_pos (Decidable.not_not.1 hc36),Decidable.not_not.1 hc36,if_neg hc40,if_pos hc44];done) | (rw [if_pos (Decidable.not_not.1 hc36),Decidable.not_not.1 hc36,if_neg hc40,if_neg hc44];done)
   ·skip
    rw [if_neg hc16,if_neg hm] at hwr
    refine wp_region_lit ?_
    refine F.vl (R_loadBlk rfl (F.at rfl) Try.underlying28 rfl (by kernel_rfl) q4) ?_;clear F fa;intro fa F
    refine F.mv ?_;clear F fa;intro fa F
    refine F.mv ?_;clear F fa;intro fa F
    refine sq_call F rfl (by decide) rfl (R_callV rfl rfl Try.call94 (mpS (F.at rfl) (mpS (F.at rfl) (mpS (F.at rfl) mp0)))) (refIs_any t _ _ _ s a _) fun e w8 hR=>?_
    obtain ⟨rfl,e9⟩:=hR
    refine ⟨_,rfl,?_⟩;clear F fa;intro fa F
    replace q4:=(e9).keep0 q4
    replace E:=ext_same E (e9)
    clear e9
    rw [show isMB t s a = false by simpa using hm1] at F
    refine F.mv ?_;clear F fa;intro fa F
    refine sq_no F rfl (by decide) (wantF F rfl rfl (by decide) rfl (by decide)) ?_;clear F fa;intro fa F
    refine sq_no F rfl (by decide) (wantF F rfl rfl (by decide) rfl (by decide)) ?_;clear F fa;intro fa F
    refine sq_no F rfl (by decide) (wantF F rfl rfl (by decide) rfl (by decide)) ?_;clear F fa;intro fa F
    refine F.vl (R_pickF rfl (F.at rfl) (ev_c fa _)) ?_;clear F fa;intro fa F
    refine wpList_nil ?_
    refine hK7 _ _ ?_
    clear hK7
    refine cd_F F rfl ?_
    refine wp_skip ?_
    refine hK6 _ _ ?_
    clear hK6
    refine wp_seq_k fun K18 hK18=>?_
    refine wp_region_lit ?_
    refine F.vl (R_loadBlk rfl (F.at rfl) Try.underlying28 rfl (by kernel_rfl) q4) ?_;clear F fa;intro fa F
    refine F.mv ?_;clear F fa;intro fa F
    refine F.mv ?_;clear F fa;intro fa F
    refine F.mv ?_;clear F fa;intro fa F
    refine F.mv ?_;clear F fa;intro fa F
    refine sq_call F rfl (by decide) rfl (R_callV rfl rfl Try.call62 (mpS (F.at rfl) (mpS (F.at rfl) (mpS (F.at rfl) (mpS (F.at rfl) (mpS (F.at rfl) mp0)))))) (HA.out _ E) fun e w9 hR=>?_
    obtain ⟨rfl,e9⟩:=hR
    refine ⟨_,rfl,?_⟩;clear F fa;intro fa F
    replace q4:=(e9).keep0 q4
    replace E:=ext_same E (e9)
    clear e9
    refine F.mv ?_;clear F fa;intro fa F
    refine F.vl (R_extract rfl (F.at rfl) (get0)) ?_;clear F fa;intro fa F
    refine F.vl (R_extract rfl (F.at rfl) (getS (get0))) ?_;clear F fa;intro fa F
    refine sq_new F rfl (by decide) rfl (R_alloc rfl Try.zeroValue23) ?_;clear F fa;intro fa w10 F hw
    obtain ⟨n11,hn⟩ : ∃ n,n = w9.heap.size:=⟨_,rfl⟩
    rw [← hn] at F
    have s11 : w9.heap.size ≤ n11:=Nat.le_of_eq hn.symm
    have l11_E : w.heap.size ≤ n11:=by rw [hn];exact E.size
    have m11_4 : n4 < n11:=by rw [hn];exact blk_lt q4
    replace q4:=keep_alloc hw q4
    replace E:=ext_alloc E hw
    have q11:=new_row hw hn
    clear hw hn
    refine sq_to rfl rfl (R_storeRow rfl (F.at rfl) (F.at rfl) (by kernel_rfl) (by first | (simp [Value.oneCell'];done) | (simp [Value.oneCell',grRow,rdRow,lkRow];done)) q11 rfl) ?_;intro w11 hw
    replace q4:=keep_cells hw q4 (by omega)
    replace q11:=put_row hw q11 rfl
    replace E:=ext_cells E hw (fun h=>by first | exact absurd h (by omega) | simp)
    clear hw
    refine F.as ?_;clear F fa;intro fa F
    refine wpList_nil ?_
    refine hK18 _ _ ?_
    clear hK18
    refine wp_seq_k fun K19 hK19=>?_
    refine wp_block ?_
    refine wp_seq_k fun K20 hK20=>?_
    refine wp_region_lit ?_
    refine F.mv ?_;clear F fa;intro fa F
    refine F.vl (R_neqD rfl (F.at rfl) (ev_c fa _)) ?_;clear F fa;intro fa F
    refine F.as ?_;clear F fa;intro fa F
    refine wpList_nil ?_
    refine hK20 _ _ ?_
    clear hK20
    refine cd_if F rfl (fun hc36=>?_) (fun hc36=>?_)
    ·skip
     refine wp_seq_k fun K21 hK21=>?_
     refine wp_region_lit ?_
     refine F.mv ?_;clear F fa;intro fa F
     refine F.vl (R_assign rfl (ev_c fa _)) ?_;clear F fa;intro fa F
     refine F.as ?_;clear F fa;intro fa F
     refine wpList_nil ?_
     refine hK21 _ _ ?_
     clear hK21
     refine wp_ret ?_
     (try simp only [Exit.inBlock,Exit.then])
     refine rt_v F (rs_2 F rfl rfl rfl) ?_
     refine ⟨?_,E⟩
     unfold widV
     rw [hwr]
     first | (rw [if_neg (by decide)];done) | (rw [if_neg hc36];done) | (rw [if_pos (Decidable.not_not.1 hc36),Decidable.not_not.1 hc36,if_pos hc40];done) | (rw [if_pos (Decidable.not_not.1 hc36),Decidable.not_not.1 hc36,if_neg hc40,if_pos hc44];done) | (rw [if_pos (Decidable.not_not.1 hc36),Decidable.not_not.1 hc36,if_neg hc40,if_neg hc44];done)
    ·skip
     refine wp_seq_k fun K22 hK22=>?_
     refine wp_region_lit ?_
     refine F.vl (R_field rfl (F.at rfl) Try.underlying23 rfl (n:=0) (sz:=1) rfl (by kernel_rfl) (by decide)) ?_;clear F fa;intro fa F
     refine F.vl (R_load rfl (F.at rfl) Try.underlying3 rfl ((cells_of_block q11 0).trans (get0))) ?_;clear F fa;intro fa F
     refine F.vl (R_gtr rfl (F.at rfl) (ev_c fa _)) ?_;clear F fa;intro fa F
     refine F.as ?_;clear F fa;intro fa F
     refine wpList_nil ?_
     refine hK22 _ _ ?_
     clear hK22
     refine cd_if F rfl (fun hc40=>?_) (fun hc40=>?_)
     ·skip
      refine wp_seq_k fun K23 hK23=>?_
      refine wp_region_lit ?_
      refine F.vl (R_assign rfl (ev_c fa _)) ?_;clear F fa;intro fa F
      refine F.vl (R_assign rfl (ev_c fa _)) ?_;clear F fa;intro fa F
      refine wpList_nil ?_
      refine hK23 _ _ ?_
      clear hK23
      refine wp_ret ?_
      (try simp only [Exit.inBlock,Exit.then])
      refine rt_v F (rs_2 F rfl rfl rfl) ?_
      refine ⟨?_,E⟩
      unfold widV
      rw [hwr]
      first | (rw [if_neg (by decide)];done) | (rw [if_neg hc36];done) | (rw [if_pos (Decidable.not_not.1 hc36),Decidable.not_not.1 hc36,if_pos hc40];done) | (rw [if_pos (Decidable.not_not.1 hc36),Decidable.not_not.1 hc36,if_neg hc40,if_pos hc44];done) | (rw [if_pos (Decidable.not_not.1 hc36),Decidable.not_not.1 hc36,if_neg hc40,if_neg hc44];done)
     ·skip
      refine wp_seq_k fun K24 hK24=>?_
      refine wp_region_lit ?_
      refine F.vl (R_field rfl (F.at rfl) Try.underlying23 rfl (n:=1) (sz:=1) rfl (by kernel_rfl) (by decide)) ?_;clear F fa;intro fa F
      refine F.vl (R_load rfl (F.at rfl) Try.underlying3 rfl ((cells_of_block q11 1).trans (getS (get0)))) ?_;clear F fa;intro fa F
      refine F.vl (R_leq rfl (F.at rfl) (ev_c fa _)) ?_;clear F fa;intro fa F
      refine F.as ?_;clear F fa;intro fa F
      refine wpList_nil ?_
      refine hK24 _ _ ?_
      clear hK24
      refine cd_if F rfl (fun hc44=>?_) (fun hc44=>?_)
      ·skip
       refine wp_seq_k fun K25 hK25=>?_
       refine wp_region_lit ?_
       refine F.vl (R_assign rfl (ev_c fa _)) ?_;clear F fa;intro fa F
       refine F.vl (R_assign rfl (ev_c fa _)) ?_;clear F fa;intro fa F
       refine wpList_nil ?_
       refine hK25 _ _ ?_
       clear hK25
       refine wp_ret ?_
       (try simp only [Exit.inBlock,Exit.then])
       refine rt_v F (rs_2 F rfl rfl rfl) ?_
       refine ⟨?_,E⟩
       unfold widV
       rw [hwr]
       first | (rw [if_neg (by decide)];done) | (rw [if_neg hc36];done) | (rw [if_pos (Decidable.not_not.1 hc36),Decidable.not_not.1 hc36,if_pos hc40];done) | (rw [if_pos (Decidable.not_not.1 hc36),Decidable.not_not.1 hc36,if_neg hc40,if_pos hc44];done) | (rw [if_pos (Decidable.not_not.1 hc36),Decidable.not_not.1 hc36,if_neg hc40,if_neg hc44];done)
      ·skip
       refine wp_skip ?_
       refine hK19 _ _ ?_
       clear hK19
       refine wp_seq_k fun K26 hK26=>?_
       refine wp_region_lit ?_
       refine F.vl (R_assign rfl (ev_c fa _)) ?_;clear F fa;intro fa F
       refine F.vl (R_assign rfl (ev_c fa _)) ?_;clear F fa;intro fa F
       refine wpList_nil ?_
       refine hK26 _ _ ?_
       clear hK26
       refine wp_ret ?_
       (try simp only [Exit.inBlock,Exit.then])
       refine rt_v F (rs_2 F rfl rfl rfl) ?_
       refine ⟨?_,E⟩
       unfold widV
       rw [hwr]
       first | (rw [if_neg (by decide)];done) | (rw [if_neg hc36];done) | (rw [if_pos (Decidable.not_not.1 hc36),Decidable.not_not.1 hc36,if_pos hc40];done) | (rw [if_pos (Decidable.not_not.1 hc36),Decidable.not_not.1 hc36,if_neg hc40,if_pos hc44];done) | (rw [if_pos (Decidable.not_not.1 hc36),Decidable.not_not.1 hc36,if_neg hc40,if_neg hc44];done)
end
theorem row_ext {w W : World} {a : Option Addr} {n c : Nat} {zs : List Int} (h : IsRow .i64 w a n c zs) (e : Ext [] w W) : IsRow .i64 W a n c zs:=by
 rcases h with h | ⟨x,rfl,hl,hm,hz,hc,hw⟩
 ·exact .inl h
 ·refine .inr ⟨x,rfl,hl,hm,hz,fun i hi=>?_,hw⟩
  have:=hc i hi
  have hb : (x.add i).block < w.heap.size:=by
   unfold World.cell? at this
   cases hq : w.heap[(x.add i).block]? with
   | none=>simp [hq] at this
   | some o=>exact (Array.getElem?_eq_some_iff.1 hq).1
  rw [e.cell hb (by simp)]
  exact this
theorem node_n (t : Tp) : ∃ n : Nat,t.Ok → (n : Int) = 1 + t.S * t.A + t.T:=⟨(1 + t.S * t.A + t.T).toNat,fun ok=>by have:=ok_prod ok;have:=ok.T1;omega⟩
end Go.Proofs.Ytholfdgebdlgjaa
