/- Parts of a proof: Dkr, Dks, Dkv, Dwi, Dsv. No conditions. -/
import Derived.Test.YtdjeecgddbjbeaaKs7
import Derived.Test.YtdjeecgddbjbeaaKs10
set_option linter.unusedVariables false
set_option linter.unusedSimpArgs false
namespace Go.Proofs.Ytdjeecgddbjbeaa
open Go.RowKit
theorem sum_set : ∀ (xs : List Int) (i : Nat) (v : Int),i < xs.length → (xs.set i v).sum = xs.sum - xs.getD i 0 + v
 | [],i,v,h=>by simp at h
 | x :: xs,0,v,h=>by simp;omega
 | x :: xs,i + 1,v,h=>by
  have:=sum_set xs i v (by simpa using h)
  simp only [List.set_cons_succ,List.sum_cons,this,List.getD_cons_succ]
  omega
theorem le_sum {xs : List Int} (h : ∀ n ∈ xs,0 ≤ n) : ∀ n ∈ xs,n ≤ xs.sum:=by
 induction xs with
 | nil=>intro n hn;simp at hn
 | cons x xs ih =>
  intro n hn
  have h0 : 0 ≤ xs.sum:=by
   clear ih hn
   induction xs with
   | nil=>simp
   | cons y ys ih2 =>
    have:=h y (by simp)
    have:=ih2 fun m hm=>h m (by simp only [List.mem_cons] at hm ⊢;rcases hm with rfl | hm <;> simp [*])
    simp only [List.sum_cons];omega
  have hx:=h x (by simp)
  rw [List.sum_cons]
  rcases List.mem_cons.1 hn with rfl | hn
  ·omega
  ·have:=ih (fun m hm=>h m (by simp [hm])) n hn;omega
def RcpPost (x : Vm) (w0 : World) (b k : Nat) (nv : Value) (w : World) (e : Ending) (w' : World) : Prop:=∃ (a : Option Addr) (xs : List Int),e = .returned (.slice a x.D.length x.D.length) ∧ RcpOk x xs ∧ w'.ownsRow w.heap.size 3 1 (.slice a x.D.length x.D.length) x.D.length (ivs xs) ∧ LotsOk w0 w' b (k + 10) nv ∧ Ext [b] w w'
set_option maxRecDepth 100000 in
set_option maxHeartbeats 1000000 in
theorem recipeOf_any (x : Vm) (hv : VOk x) (w0 w : World) (b k : Nat) (nv : Value) (h : LotsOk w0 w b k nv) (hk : k ≤ 900000) :
  Calls Try.prog 15 #[.pointer (some ⟨b,0,none⟩),.agg #[.int .i64 x.B,.slice x.da x.D.length x.dc,.slice x.la x.L.length x.lc,.int .i64 x.tol]] w (RcpPost x w0 b k nv w):=by
 have HL:=h
 have hbw:=lots_lt HL
 have hws : w0.heap.size ≤ w.heap.size:=HL.2.2.1.size
 have E : Ext [b] w w:=Ext.refl _ _
 have hd1:=hv.d1
 have hd4:=hv.d4
 clear h hv
 refine calls_has 31 Try.func15 rfl Try.ntmps15 (Nat.le_of_ble_eq_true rfl) ?_
 intro fa F
 refine wp_seq_k fun K1 hK1=>?_
 refine wp_region_lit ?_
 refine sq_new F rfl (by decide) rfl (R_box rfl (F.at rfl)) ?_;clear F fa;intro fa w1 F hw
 obtain ⟨n3,hn⟩ : ∃ n,n = w.heap.size:=⟨_,rfl⟩
 rw [← hn] at F
 have s3 : w.heap.size ≤ n3:=Nat.le_of_eq hn.symm
 have l3_E : w.heap.size ≤ n3:=by rw [hn];exact E.size
 have b3_HL:=Nat.lt_of_lt_of_eq (lots_lt HL) hn.symm
 replace E:=ext_alloc E hw
 replace HL:=lots_alloc hw HL
 have q3:=new_row hw hn
 clear hw hn
 refine F.vl (R_assign rfl (ev_c fa _)) ?_;clear F fa;intro fa F
 refine wpList_nil ?_
 refine hK1 _ _ ?_
 clear hK1
 refine wp_seq_k fun K2 hK2=>?_
 refine wp_region_lit ?_
 refine F.vl (R_field rfl (F.at rfl) Try.underlying24 rfl (n:=1) (sz:=1) rfl (by kernel_rfl) (by decide)) ?_;clear F fa;intro fa F
 refine F.vl (R_load rfl (F.at rfl) Try.underlying22 rfl ((cells_of_block q3 1).trans (getS (get0)))) ?_;clear F fa;intro fa F
 refine F.vl (R_len rfl rfl (F.at rfl) Try.underlying22) ?_;clear F fa;intro fa F
 have hEs:=E.size
 refine sq_some F rfl (by decide) rfl (make_run rfl (w.heap.size) (e:=3) (bytes:=8) (z:=.int .i64 0) Try.underlying25 (by kernel_rfl) rfl (F.at rfl) (F.at rfl) (n:=x.D.length) (by omega) (by decide) (by omega)) ?_;clear F fa;rintro fa v' w2 F ⟨oo,hg,rfl⟩
 obtain ⟨n10,hn⟩ : ∃ n,n = w1.heap.size:=⟨_,rfl⟩
 rw [← hn] at F oo
 have s10 : w1.heap.size ≤ n10:=Nat.le_of_eq hn.symm
 replace q3:=keep_none hg q3
 replace E:=ext_none E hg
 replace HL:=lots_ext (ext_none (Ext.refl [] _) hg) HL
 clear hg hn
 rw [show List.replicate x.D.length (Value.int .i64 0) = ivs (List.replicate x.D.length 0) by simp [ivs]] at oo
 refine F.as ?_;clear F fa;intro fa F
 refine wpList_nil ?_
 refine hK2 _ _ ?_
 clear hK2
 refine wp_seq_k fun K3 hK3=>?_
 refine wp_seq_k fun K4 hK4=>?_
 refine wp_region_lit ?_
 refine F.mv ?_;clear F fa;intro fa F
 refine F.mv ?_;clear F fa;intro fa F
 refine sq_new F rfl (by decide) rfl (R_buildSliceV rfl (prS (ev_c fa _) (prS (ev_c fa _) (prS (ev_c fa _) (prS (ev_c fa _) pr0)))) Try.underlying25 (size:=1) (by kernel_rfl) (by decide) (by decide) Try.zeroValue3 (cells:=#[.int .i64 1,.int .i64 2,.int .i64 3,.int .i64 6]) (by kernel_rfl)) ?_;clear F fa;intro fa w3 F hw
 obtain ⟨n13,hn⟩ : ∃ n,n = w2.heap.size:=⟨_,rfl⟩
 rw [← hn] at F
 have s13 : w2.heap.size ≤ n13:=Nat.le_of_eq hn.symm
 have l13_E : w.heap.size ≤ n13:=by rw [hn];exact E.size
 have b13_HL:=Nat.lt_of_lt_of_eq (lots_lt HL) hn.symm
 have m13_3 : n3 < n13:=by rw [hn];exact blk_lt q3
 have o13_oo:=Lib.hid (own_ne_new oo hn)
 replace oo:=owns_alloc hw oo
 replace q3:=keep_alloc hw q3
 replace E:=ext_alloc E hw
 replace HL:=lots_alloc hw HL
 have q13:=new_block hw hn
 clear hw hn
 refine sq_call F rfl (by decide) rfl (R_callV rfl rfl Try.call50 (mpS (F.at rfl) (mpS (F.at rfl) mp0))) (of_any w0 _ b _ nv n13 _ [1,2,3,6] HL (by omega) q13 (by omega) (by decide) (by decide)) fun e w4 hR=>?_
 obtain ⟨v,rfl,hvm,HL,e9⟩:=hR
 refine ⟨_,rfl,?_⟩;clear F fa;intro fa F
 replace oo:=owns_ext oo (e9) (by simp;omega)
 replace q3:=(e9).keep q3 (by simp;omega)
 replace q13:=(e9).keep q13 (by simp;omega)
 replace E:=E.trans' e9 (fun i hi hl=>by simp only [List.mem_cons,List.not_mem_nil,or_false] at hi ⊢;omega)
 have hv6 : 1 ≤ v ∧ v ≤ 6:=by simp only [List.mem_cons,List.not_mem_nil,or_false] at hvm;omega
 refine sq_call F rfl (by decide) rfl (R_callV rfl rfl Try.call49 (mpS (F.at rfl) (mpS (ev_c fa _) (mpS (F.at rfl) mp0)))) (in_any w0 _ b _ nv 1 v HL (by omega) (by omega) (by omega) (by omega) (by omega)) fun e w5 hR=>?_
 obtain ⟨n,rfl,hn1,hn2,HL,e9⟩:=hR
 refine ⟨_,rfl,?_⟩;clear F fa;intro fa F
 replace oo:=owns_ext oo (e9) (by simp;omega)
 replace q3:=(e9).keep q3 (by simp;omega)
 replace q13:=(e9).keep q13 (by simp;omega)
 replace E:=E.trans' e9 (fun i hi hl=>by simp only [List.mem_cons,List.not_mem_nil,or_false] at hi ⊢;omega)
 refine F.as ?_;clear F fa;intro fa F
 refine wpList_nil ?_
 rw [show n = n - ((0 : Nat) : Int) by omega] at F
 refine hK4 _ _ ?_
 clear hK4
 refine wp_block ?_
 have F0:=F.sub (.c 0 rfl (.c 5 rfl .n))
 replace HL : LotsOk w0 w5 b (k + 2 + 0) nv:=lots_mono HL (by omega)
 refine lp_for F0 (6) (fun i Lv W=>∃ xs : List Int,Lv = [(6,.int .i64 (n - ((i : Nat) : Int)))] ∧ Ext [b] w W ∧ W.heap[n3]? = some (.cells #[.int .i64 x.B,.slice x.da x.D.length x.dc,.slice x.la x.L.length x.lc,.int .i64 x.tol] 24 (0,0)) ∧ LotsOk w0 W b (k + 2 + i) nv ∧ W.ownsRow w.heap.size 3 1 (.slice (some ⟨n10,0,none⟩) x.D.length x.D.length) x.D.length (ivs xs) ∧ xs.length = x.D.length ∧ (∀ m ∈ xs,0 ≤ m) ∧ xs.sum = i ∧ (i : Int) ≤ n) ⟨_,⟨_,rfl,E,q3,HL,oo,(by simp),(by simp),(by simp),(by omega)⟩,F.sub (.c 6 rfl (.c 0 rfl (.c 5 rfl .n)))⟩ ?_
 clear F F0
 clear E q3 HL
 clear oo
 rintro i _ fa w6 hi1 ⟨xs,rfl,E,q3,HL,oo,hxl,hx0,hxs,hin⟩ F
 refine wp_seq_k fun K5 hK5=>?_
 refine wp_seq_k fun K6 hK6=>?_
 refine wp_region_lit ?_
 refine F.mv ?_;clear F fa;intro fa F
 refine F.vl (R_gtr rfl (F.at rfl) (ev_c fa _)) ?_;clear F fa;intro fa F
 refine wpList_nil ?_
 refine hK6 _ _ ?_
 clear hK6
 refine cd_if F rfl (fun hc17=>?_) (fun hc17=>?_)
 ·skip
  refine wp_skip ?_
  refine hK5 _ _ ?_
  clear hK5
  refine wp_seq_k fun K7 hK7=>?_
  refine wp_block ?_
  refine wp_region_lit ?_
  refine F.mv ?_;clear F fa;intro fa F
  refine F.mv ?_;clear F fa;intro fa F
  refine F.mv ?_;clear F fa;intro fa F
  refine F.vl (R_len rfl rfl (F.at rfl) Try.underlying25) ?_;clear F fa;intro fa F
  refine F.vl (R_sub rfl (F.at rfl) (ev_c fa _) (by omega) (by omega)) ?_;clear F fa;intro fa F
  refine sq_call F rfl (by decide) rfl (R_callV rfl rfl Try.call26 (mpS (F.at rfl) (mpS (F.at rfl) mp0))) (upto_any w0 _ b _ nv (((x.D.length : Nat) : Int) - 1) HL (by omega) (by omega) (by omega)) fun e w7 hR=>?_
  obtain ⟨u,rfl,hu0,hu1,HL,e9⟩:=hR
  refine ⟨_,rfl,?_⟩;clear F fa;intro fa F
  replace oo:=owns_ext oo (e9) (by simp;omega)
  replace q3:=(e9).keep q3 (by simp;omega)
  replace E:=E.trans' e9 (fun i hi hl=>by simp only [List.mem_cons,List.not_mem_nil,or_false] at hi ⊢;omega)
  obtain ⟨u,rfl⟩:=Int.eq_ofNat_of_zero_le hu0
  have hux : u < xs.length:=by rw [hxl];omega
  have EX : Ext [] w7 w7:=Ext.refl _ _
  have HS:=Lib.hid (slAt_of_ivs oo hxl.symm [] (by simp))
  have hil:=ivs_lenZ xs
  have hm0:=hx0 _ (getD_mem 0 hux)
  have hmS:=le_sum hx0 _ (getD_mem 0 hux)
  obtain ⟨xb8,xo8,xa8,xr8⟩:=HS.out u (by omega)
  refine F.vl (R_ixSlice (sz:=1) rfl ((F.at rfl).trans (xa8 _ _)) (F.at rfl) Try.underlying25 (by kernel_rfl) (by omega) (by omega)) ?_;clear F fa;intro fa F
  refine F.vl (R_load rfl (F.at rfl) Try.underlying3 rfl (xr8 _ EX 0 _ rfl)) ?_;clear F fa;intro fa F
  refine F.vl (R_add rfl (F.at rfl) (ev_c fa _) (by omega) (by omega)) ?_;clear F fa;intro fa F
  obtain ⟨xb9,xo9,xa9,xr9⟩:=HS.out u (by omega)
  refine F.vl (R_ixSlice (sz:=1) rfl ((F.at rfl).trans (xa9 _ _)) (F.at rfl) Try.underlying25 (by kernel_rfl) (by omega) (by omega)) ?_;clear F fa;intro fa F
  obtain ⟨⟨u0,hcu⟩,hfu,hst⟩:=owns_at oo xa9 (j:=u) (p:=xo9 + ((u : Nat) : Int).toNat * 1) (by first | omega | (simp;omega)) (by omega)
  refine sq_to rfl rfl (R_store rfl (F.at rfl) (F.at rfl) rfl (by kernel_rfl) hcu hfu) ?_;intro w8 hw
  obtain ⟨hown',hg⟩:=hst _ _ hw
  clear hst hcu hfu hw
  replace q3:=keep_type oo hg q3 (by decide)
  replace HL:=lots_append HL oo hg (by omega) (by decide)
  replace E:=ext_appendX E oo hg (by omega)
  replace oo:=hown'
  clear hg
  rw [ivs_setZ] at oo
  have hst:=sum_set xs u (xs.getD u 0 + 1) hux
  have hx2 : ∀ m ∈ xs.set u (xs.getD u 0 + 1),0 ≤ m:=by intro m hm;rcases List.mem_or_eq_of_mem_set hm with hm | rfl;(· exact hx0 m hm);(· omega)
  refine wpList_nil ?_
  refine hK7 _ _ ?_
  clear hK7
  refine wp_region_lit ?_
  refine F.mv ?_;clear F fa;intro fa F
  refine F.vl (R_sub rfl (F.at rfl) (ev_c fa _) (by omega) (by omega)) ?_;clear F fa;intro fa F
  rw [show n - ((i : Nat) : Int) - 1 = n - ((i + 1 : Nat) : Int) by omega] at F
  refine F.as ?_;clear F fa;intro fa F
  refine wpList_nil ?_
  replace HL : LotsOk w0 w8 b (k + 2 + (i + 1)) nv:=lots_mono HL (by omega)
  show _ ∧ _
  exact ⟨by omega,_,⟨_,rfl,E,q3,HL,oo,(by rw [List.length_set];exact hxl),hx2,(by omega),(by omega)⟩,F.sub (.c 6 rfl (.c 0 rfl (.c 5 rfl .n)))⟩
 ·skip
  refine wp_exit ?_
  refine hK3 _ _ ?_
  clear hK3
  refine wp_seq_k fun K10 hK10=>?_
  refine wp_region_lit ?_
  refine F.mv ?_;clear F fa;intro fa F
  refine F.as ?_;clear F fa;intro fa F
  refine wpList_nil ?_
  refine hK10 _ _ ?_
  clear hK10
  refine wp_ret ?_
  (try simp only [Exit.inBlock,Exit.then,reduceIte])
  refine rt_v F (rs_1 F rfl rfl) ?_
  refine ⟨_,xs,rfl,⟨hxl,fun m hm=>⟨hx0 m hm,?_⟩,by omega,by omega⟩,oo,lots_mono HL (by omega),E⟩
  have:=le_sum hx0 m hm;omega
theorem asc_snoc {xs : List Int} {n : Int} (h : ∀ i,0 < i → i < xs.length → xs.getD (i - 1) 0 < xs.getD i 0) (hb : ∀ m ∈ xs,m < n) : ∀ i,0 < i → i < (xs ++ [n]).length → (xs ++ [n]).getD (i - 1) 0 < (xs ++ [n]).getD i 0:=by
 intro i h0 h1
 simp only [List.length_append,List.length_cons,List.length_nil] at h1
 by_cases hi : i < xs.length
 ·have:=h i h0 hi
  simpa [List.getD_eq_getElem?_getD,List.getElem?_append_left,hi,show i - 1 < xs.length by omega] using this
 ·obtain rfl : i = xs.length:=by omega
  have:=hb _ (getD_mem 0 (show xs.length - 1 < xs.length by omega))
  simpa [List.getD_eq_getElem?_getD,List.getElem?_append_left,show xs.length - 1 < xs.length by omega] using this
def LmpPost (x : Vm) (w0 : World) (b k : Nat) (nv : Value) (w : World) (e : Ending) (w' : World) : Prop:=∃ (a : Option Addr) (c : Nat) (xs : List Int),e = .returned (.slice a xs.length c) ∧ LmpsOk x xs ∧ xs.length ≤ 3 ∧ w'.ownsRow w.heap.size 3 1 (.slice a xs.length c) xs.length (ivs xs) ∧ LotsOk w0 w' b (k + 10) nv ∧ Ext [b] w w'
set_option maxRecDepth 100000 in
set_option maxHeartbeats 1000000 in
theorem lampsOf_any (x : Vm) (hv : VOk x) (w0 w : World) (b k : Nat) (nv : Value) (h : LotsOk w0 w b k nv) (hk : k ≤ 900000) :
  Calls Try.prog 17 #[.pointer (some ⟨b,0,none⟩),.agg #[.int .i64 x.B,.slice x.da x.D.length x.dc,.slice x.la x.L.length x.lc,.int .i64 x.tol]] w (LmpPost x w0 b k nv w):=by
 have HL:=h
 have hbw:=lots_lt HL
 have hws : w0.heap.size ≤ w.heap.size:=HL.2.2.1.size
 have E : Ext [b] w w:=Ext.refl _ _
 have hl1:=hv.l1
 have hl3:=hv.l3
 have oo : w.ownsRow w.heap.size 3 1 (.slice none 0 0) 0 (ivs []):=World.ownsRow_nil _ _ _ _
 clear h hv
 refine calls_has 31 Try.func17 rfl Try.ntmps17 (Nat.le_of_ble_eq_true rfl) ?_
 intro fa F
 refine wp_seq_k fun K1 hK1=>?_
 refine wp_region_lit ?_
 refine sq_new F rfl (by decide) rfl (R_box rfl (F.at rfl)) ?_;clear F fa;intro fa w1 F hw
 obtain ⟨n3,hn⟩ : ∃ n,n = w.heap.size:=⟨_,rfl⟩
 rw [← hn] at F
 have s3 : w.heap.size ≤ n3:=Nat.le_of_eq hn.symm
 have l3_E : w.heap.size ≤ n3:=by rw [hn];exact E.size
 have b3_HL:=Nat.lt_of_lt_of_eq (lots_lt HL) hn.symm
 have o3_oo:=Lib.hid (own_ne_new oo hn)
 replace oo:=owns_alloc hw oo
 replace E:=ext_alloc E hw
 replace HL:=lots_alloc hw HL
 have q3:=new_row hw hn
 clear hw hn
 refine F.vl (R_assign rfl (ev_c fa _)) ?_;clear F fa;intro fa F
 refine wpList_nil ?_
 refine hK1 _ _ ?_
 clear hK1
 refine wp_seq_k fun K2 hK2=>?_
 refine wp_region_lit ?_
 refine F.vl (R_assign rfl (ev_c fa _)) ?_;clear F fa;intro fa F
 refine wpList_nil ?_
 refine hK2 _ _ ?_
 clear hK2
 refine wp_seq_k fun K3 hK3=>?_
 refine wp_seq_k fun K4 hK4=>?_
 refine wp_region_lit ?_
 refine F.vl (R_assign rfl (ev_c fa _)) ?_;clear F fa;intro fa F
 refine wpList_nil ?_
 refine hK4 _ _ ?_
 clear hK4
 refine wp_block ?_
 have F0:=F.sub (.c 0 rfl (.c 3 rfl .n))
 replace HL : LotsOk w0 w1 b (k + 0) nv:=lots_mono HL (by omega)
 refine lp_for F0 (x.L.length) (fun i Lv W=>∃ va : Option Addr,∃ vc : Nat,∃ xs : List Int,Lv = [(5,.slice va xs.length vc),(6,.int .i64 ((i : Nat) : Int))] ∧ Ext [b] w W ∧ W.heap[n3]? = some (.cells #[.int .i64 x.B,.slice x.da x.D.length x.dc,.slice x.la x.L.length x.lc,.int .i64 x.tol] 24 (0,0)) ∧ LotsOk w0 W b (k + i) nv ∧ W.ownsRow w.heap.size 3 1 (.slice va xs.length vc) xs.length (ivs xs) ∧ (∀ m ∈ xs,0 ≤ m ∧ m < i) ∧ (∀ j,0 < j → j < xs.length → xs.getD (j - 1) 0 < xs.getD j 0) ∧ xs.length ≤ i) ⟨_,⟨none,0,[],rfl,E,q3,HL,oo,(by simp),(by simp),(by simp)⟩,F.sub (.c 5 rfl (.c 6 rfl (.c 0 rfl (.c 3 rfl .n))))⟩ ?_
 clear F F0
 clear E q3 HL
 clear oo
 rintro i _ fa w2 hi1 ⟨va,vc,xs,rfl,E,q3,HL,oo,hxb,hxa,hxl⟩ F
 refine wp_seq_k fun K5 hK5=>?_
 refine wp_seq_k fun K6 hK6=>?_
 refine wp_region_lit ?_
 refine F.mv ?_;clear F fa;intro fa F
 refine F.vl (R_field rfl (F.at rfl) Try.underlying24 rfl (n:=2) (sz:=1) rfl (by kernel_rfl) (by decide)) ?_;clear F fa;intro fa F
 refine F.vl (R_load rfl (F.at rfl) Try.underlying22 rfl ((cells_of_block q3 2).trans (getS (getS (get0))))) ?_;clear F fa;intro fa F
 refine F.vl (R_len rfl rfl (F.at rfl) Try.underlying22) ?_;clear F fa;intro fa F
 refine F.vl (R_lss rfl (F.at rfl) (F.at rfl)) ?_;clear F fa;intro fa F
 refine wpList_nil ?_
 refine hK6 _ _ ?_
 clear hK6
 refine cd_if F rfl (fun hc11=>?_) (fun hc11=>?_)
 ·skip
  refine wp_skip ?_
  refine hK5 _ _ ?_
  clear hK5
  refine wp_seq_k fun K7 hK7=>?_
  refine wp_block ?_
  refine wp_seq_k fun K8 hK8=>?_
  refine wp_region_lit ?_
  refine F.mv ?_;clear F fa;intro fa F
  refine sq_call F rfl (by decide) rfl (R_callV rfl rfl Try.call52 (mpS (F.at rfl) (mpS (ev_c fa _) mp0))) (rare_any w0 _ b _ nv 2 HL (by omega) (by omega) (by omega)) fun e w3 hR=>?_
  obtain ⟨r,rfl,HL,e9⟩:=hR
  refine ⟨_,rfl,?_⟩;clear F fa;intro fa F
  replace oo:=owns_ext oo (e9) (by simp;omega)
  replace q3:=(e9).keep q3 (by simp;omega)
  replace E:=E.trans' e9 (fun i hi hl=>by simp only [List.mem_cons,List.not_mem_nil,or_false] at hi ⊢;omega)
  refine wpList_nil ?_
  refine hK8 _ _ ?_
  clear hK8
  refine cd_b F rfl (fun hc15=>?_) (fun hc15=>?_)
  ·skip
   refine wp_region_lit ?_
   refine F.mv ?_;clear F fa;intro fa F
   refine F.mv ?_;clear F fa;intro fa F
   refine sq_new F rfl (by decide) rfl (R_buildSliceV rfl (prS (F.at rfl) pr0) Try.underlying25 (size:=1) (by kernel_rfl) (by decide) (by decide) Try.zeroValue3 (cells:=#[.int .i64 ((i : Nat) : Int)]) (by kernel_rfl)) ?_;clear F fa;intro fa w4 F hw
   obtain ⟨n18,hn⟩ : ∃ n,n = w3.heap.size:=⟨_,rfl⟩
   rw [← hn] at F
   have s18 : w3.heap.size ≤ n18:=Nat.le_of_eq hn.symm
   have l18_E : w.heap.size ≤ n18:=by rw [hn];exact E.size
   have b18_HL:=Nat.lt_of_lt_of_eq (lots_lt HL) hn.symm
   have m18_3 : n3 < n18:=by rw [hn];exact blk_lt q3
   have o18_oo:=Lib.hid (own_ne_new oo hn)
   replace oo:=owns_alloc hw oo
   replace q3:=keep_alloc hw q3
   replace E:=ext_alloc E hw
   replace HL:=lots_alloc hw HL
   have q18:=new_block hw hn
   clear hw hn
   have hzE:=E.size
   refine sq_some F rfl (by decide) rfl (append_run rfl (w.heap.size) (e:=3) (size:=1) (bytes:=8) Try.underlying25 (by kernel_rfl) (by decide) (F.at rfl) oo (F.at rfl) q18 rfl (by simp [Value.oneCell']) (by omega) (by omega) (by omega)) ?_;clear F fa;rintro fa v' w5 F ⟨hown',hg⟩
   obtain ⟨va19,vc19,rfl⟩:=owns_slice hown'
   replace q3:=keep_type oo hg q3 (by decide)
   replace HL:=lots_append HL oo hg (by omega) (by decide)
   replace E:=ext_appendX E oo hg (by omega)
   replace oo:=hown'
   clear hg
   rw [ivs_snoc1] at oo
   replace hxa:=asc_snoc hxa (fun m hm=>(hxb m hm).2)
   replace hxb : ∀ m ∈ xs ++ [((i : Nat) : Int)],0 ≤ m ∧ m < ((i + 1 : Nat) : Int):=by intro m hm;rcases List.mem_append.1 hm with hm | hm;(· have:=hxb m hm;omega);(· simp at hm;omega)
   obtain ⟨ys,hys⟩ : ∃ ys,ys = xs ++ [((i : Nat) : Int)]:=⟨_,rfl⟩
   have hyl : xs.length + 1 = ys.length:=by rw [hys,List.length_append];rfl
   rw [hyl] at F oo
   rw [← hys] at oo hxa hxb
   replace hxl : ys.length ≤ i + 1:=by omega
   refine F.as ?_;clear F fa;intro fa F
   refine wpList_nil ?_
   refine hK7 _ _ ?_
   clear hK7
   refine wp_region_lit ?_
   refine F.mv ?_;clear F fa;intro fa F
   refine F.vl (R_add rfl (F.at rfl) (ev_c fa _) (by omega) (by omega)) ?_;clear F fa;intro fa F
   refine F.as ?_;clear F fa;intro fa F
   refine wpList_nil ?_
   replace hxb : ∀ m ∈ _,0 ≤ m ∧ m < ((i + 1 : Nat) : Int):=fun m hm=>(by have:=hxb m hm;omega)
   replace hxl:=Nat.le_trans hxl (Nat.le_refl _)
   replace HL : LotsOk w0 w5 b (k + (i + 1)) nv:=lots_mono HL (by omega)
   show _ ∧ _
   exact ⟨by omega,_,⟨_,_,_,rfl,E,q3,HL,oo,hxb,hxa,hxl⟩,F.sub (.c 5 rfl (.c 6 rfl (.c 0 rfl (.c 3 rfl .n))))⟩
  ·skip
   replace hxl : xs.length ≤ i + 1:=by omega
   refine wp_skip ?_
   refine hK7 _ _ ?_
   clear hK7
   refine wp_region_lit ?_
   refine F.mv ?_;clear F fa;intro fa F
   refine F.vl (R_add rfl (F.at rfl) (ev_c fa _) (by omega) (by omega)) ?_;clear F fa;intro fa F
   refine F.as ?_;clear F fa;intro fa F
   refine wpList_nil ?_
   replace hxb : ∀ m ∈ _,0 ≤ m ∧ m < ((i + 1 : Nat) : Int):=fun m hm=>(by have:=hxb m hm;omega)
   replace hxl:=Nat.le_trans hxl (Nat.le_refl _)
   replace HL : LotsOk w0 w3 b (k + (i + 1)) nv:=lots_mono HL (by omega)
   show _ ∧ _
   exact ⟨by omega,_,⟨_,_,_,rfl,E,q3,HL,oo,hxb,hxa,hxl⟩,F.sub (.c 5 rfl (.c 6 rfl (.c 0 rfl (.c 3 rfl .n))))⟩
 ·skip
  refine wp_exit ?_
  refine hK3 _ _ ?_
  clear hK3
  refine wp_seq_k fun K9 hK9=>?_
  refine wp_seq_k fun K10 hK10=>?_
  refine wp_region_lit ?_
  refine F.mv ?_;clear F fa;intro fa F
  refine F.vl (R_len rfl rfl (F.at rfl) Try.underlying25) ?_;clear F fa;intro fa F
  refine F.vl (R_eqlD rfl (F.at rfl) (ev_c fa _)) ?_;clear F fa;intro fa F
  refine wpList_nil ?_
  refine hK10 _ _ ?_
  clear hK10
  refine cd_if F rfl (fun hc22=>?_) (fun hc22=>?_)
  ·skip
   have hx0 : xs.length = 0:=by omega
   refine wp_region_lit ?_
   refine F.mv ?_;clear F fa;intro fa F
   refine F.vl (R_field rfl (F.at rfl) Try.underlying24 rfl (n:=2) (sz:=1) rfl (by kernel_rfl) (by decide)) ?_;clear F fa;intro fa F
   refine F.vl (R_load rfl (F.at rfl) Try.underlying22 rfl ((cells_of_block q3 2).trans (getS (getS (get0))))) ?_;clear F fa;intro fa F
   refine F.vl (R_len rfl rfl (F.at rfl) Try.underlying22) ?_;clear F fa;intro fa F
   refine F.vl (R_sub rfl (F.at rfl) (ev_c fa _) (by omega) (by omega)) ?_;clear F fa;intro fa F
   refine sq_call F rfl (by decide) rfl (R_callV rfl rfl Try.call26 (mpS (F.at rfl) (mpS (F.at rfl) mp0))) (upto_any w0 _ b _ nv (((x.L.length : Nat) : Int) - 1) HL (by omega) (by omega) (by omega)) fun e w6 hR=>?_
   obtain ⟨u,rfl,hu0,hu1,HL,e9⟩:=hR
   refine ⟨_,rfl,?_⟩;clear F fa;intro fa F
   replace oo:=owns_ext oo (e9) (by simp;omega)
   replace q3:=(e9).keep q3 (by simp;omega)
   replace E:=E.trans' e9 (fun i hi hl=>by simp only [List.mem_cons,List.not_mem_nil,or_false] at hi ⊢;omega)
   refine sq_new F rfl (by decide) rfl (R_buildSliceV rfl (prS (F.at rfl) pr0) Try.underlying25 (size:=1) (by kernel_rfl) (by decide) (by decide) Try.zeroValue3 (cells:=#[.int .i64 u]) (by kernel_rfl)) ?_;clear F fa;intro fa w7 F hw
   obtain ⟨n29,hn⟩ : ∃ n,n = w6.heap.size:=⟨_,rfl⟩
   rw [← hn] at F
   have s29 : w6.heap.size ≤ n29:=Nat.le_of_eq hn.symm
   have l29_E : w.heap.size ≤ n29:=by rw [hn];exact E.size
   have b29_HL:=Nat.lt_of_lt_of_eq (lots_lt HL) hn.symm
   have m29_3 : n3 < n29:=by rw [hn];exact blk_lt q3
   have o29_oo:=Lib.hid (own_ne_new oo hn)
   replace oo:=owns_alloc hw oo
   replace q3:=keep_alloc hw q3
   replace E:=ext_alloc E hw
   replace HL:=lots_alloc hw HL
   have q29:=new_block hw hn
   clear hw hn
   have o2:=owns_lit1 (base:=w.heap.size) q29 (by omega)
   refine F.as ?_;clear F fa;intro fa F
   refine wpList_nil ?_
   refine hK9 _ _ ?_
   clear hK9
   refine wp_seq_k fun K11 hK11=>?_
   refine wp_region_lit ?_
   refine F.mv ?_;clear F fa;intro fa F
   refine F.as ?_;clear F fa;intro fa F
   refine wpList_nil ?_
   refine hK11 _ _ ?_
   clear hK11
   refine wp_ret ?_
   (try simp only [Exit.inBlock,Exit.then,reduceIte])
   refine rt_v F (rs_1 F rfl rfl) ?_
   exact ⟨some ⟨n29,0,none⟩,1,[u],rfl,⟨by simp,fun m hm=>(by simp only [List.mem_cons,List.not_mem_nil,or_false] at hm;omega),fun j h0 h1=>(by simp at h1;omega)⟩,by simp,o2,lots_mono HL (by omega),E⟩
  ·skip
   refine wp_skip ?_
   refine hK9 _ _ ?_
   clear hK9
   refine wp_seq_k fun K12 hK12=>?_
   refine wp_region_lit ?_
   refine F.mv ?_;clear F fa;intro fa F
   refine F.as ?_;clear F fa;intro fa F
   refine wpList_nil ?_
   refine hK12 _ _ ?_
   clear hK12
   refine wp_ret ?_
   (try simp only [Exit.inBlock,Exit.then,reduceIte])
   refine rt_v F (rs_1 F rfl rfl) ?_
   exact ⟨va,vc,xs,rfl,⟨by omega,fun m hm=>(by have:=hxb m hm;omega),hxa⟩,by omega,oo,lots_mono HL (by omega),E⟩
def AtB (b : Nat) (x : Vm) (w : World) : Prop:=∀ W,Ext [b] w W → x.At W
theorem AtB.ext {b : Nat} {x : Vm} {w W : World} (h : AtB b x w) (e : Ext [b] w W) : AtB b x W:=fun V k=>h V (e.trans k)
theorem AtB.at {b : Nat} {x : Vm} {w : World} (h : AtB b x w) : x.At w:=h w (Ext.refl _ _)
theorem dyeE_zero {B : Int} : ∀ (ds met : List (List Int)),(∀ d ∈ ds,numE d B 9 = 0) → (met ++ ds).Nodup → dyeE B met ds = 0
 | [],_,_,_=>rfl
 | d :: ds,met,h,hn=>by
  rw [dyeE,if_neg (by simp [h d (by simp)])]
  have h1 : d ∉ met:=fun hm=>by
   rw [List.nodup_append] at hn
   exact hn.2.2 d hm d (by simp) rfl
  rw [if_neg h1]
  exact dyeE_zero ds (met ++ [d]) (fun e he=>h e (by simp [he])) (by simpa using hn)
theorem lampE_zero {B : Int} : ∀ (ls : List (List Int)),(∀ l ∈ ls,numE l B 3 = 0 ∧ l.sum ≠ 0) → lampE B ls = 0
 | [],_=>rfl
 | l :: ls,h=>by
  obtain ⟨h1,h2⟩:=h l (by simp)
  rw [lampE,if_neg (by simp [h1]),if_neg h2]
  exact lampE_zero ls fun m hm=>h m (by simp [hm])
theorem vok_of {x : Vm} (b1 : 1 ≤ x.B) (b3 : x.B ≤ 3) (d1 : 1 ≤ x.D.length) (d4 : x.D.length ≤ 4) (dl : ∀ p ∈ x.D,(p.2.length : Int) = x.B ∧ ∀ n ∈ p.2,0 ≤ n ∧ n ≤ 9) (nd : (x.D.map (·.2)).Nodup) (l1 : 1 ≤ x.L.length) (l3 : x.L.length ≤ 3) (ll : ∀ p ∈ x.L,(p.2.length : Int) = x.B ∧ ∀ n ∈ p.2,0 ≤ n ∧ n ≤ 3) (ls : ∀ p ∈ x.L,p.2.sum ≠ 0) (t0 : 0 ≤ x.tol) (t12 : x.tol ≤ 12) : VOk x:=by
 refine ⟨?_,b1,b3,d1,d4,dl,l1,l3,ll,t0,t12⟩
 have h2 : sizE ((x.D.map (·.2)).length : Nat) 4 = 0:=sizE_ok (by simp;omega) (by simp;omega)
 have h4 : sizE ((x.L.map (·.2)).length : Nat) 3 = 0:=sizE_ok (by simp;omega) (by simp;omega)
 have h3 : dyeE x.B [] (x.D.map (·.2)) = 0:=dyeE_zero _ _ (fun d hd=>by obtain ⟨p,hp,rfl⟩:=List.mem_map.1 hd;exact numE_ok (dl p hp).1 (dl p hp).2) (by simpa using nd)
 have h5 : lampE x.B (x.L.map (·.2)) = 0:=lampE_zero _ (fun d hd=>by obtain ⟨p,hp,rfl⟩:=List.mem_map.1 hd;exact ⟨numE_ok (ll p hp).1 (ll p hp).2,ls p hp⟩)
 rw [chk6 (outB_no.2 ⟨b1,b3⟩) h2 h3 h4 h5,outB_no.2 ⟨t0,t12⟩]
 rfl
theorem own_capN {w : World} {base n size m c : Nat} {a : Option Addr} {cs : List Value} {e : TypeId} (h : w.ownsRow base e size (.slice a m c) n cs) : n ≤ c:=by
 rcases h.2 with ⟨hv,hn⟩ | ⟨g,cap,cur,hv,-,-,hn,-⟩
 ·injection hv with h1 h2 h3;omega
 ·injection hv with h1 h2 h3;omega
theorem lol_ext {w W : World} {b base b2 : Nat} {a : Option Addr} {c : Nat} {M : List (Value × List Int)} (oo : w.ownsRow base 25 1 (.slice a M.length c) M.length (M.map (·.1))) (fam : FamT w b2 M) (e : Ext [b] w W) (h1 : b < base) (h2 : b < b2) : LolAt W a M:=
 lol_of_own (owns_ext oo e (by simpa using h1)) (fam_lift fam fun v n xs h=>owns_ext h e (by simpa using h2))
def VatPost (dm : Nat) (w0 : World) (b k : Nat) (nv : Value) (w : World) (e : Ending) (w' : World) : Prop:=∃ x : Vm,e = .returned (.agg #[.int .i64 x.B,.slice x.da x.D.length x.dc,.slice x.la x.L.length x.lc,.int .i64 x.tol]) ∧ VOk x ∧ (x.D.length ≤ dm ∧ x.D.length ≤ x.dc) ∧ AtB b x w' ∧ LotsOk w0 w' b (k + 100) nv ∧ Ext [b] w w'
set_option maxRecDepth 100000 in
set_option maxHeartbeats 4000000 in
theorem vatOf_any (dm : Nat) (hdm1 : 1 ≤ dm) (hdm : dm ≤ 4) (w0 w : World) (b k : Nat) (nv : Value) (h : LotsOk w0 w b k nv) (hk : k ≤ 800000) :
  Calls Try.prog 33 #[.pointer (some ⟨b,0,none⟩),.int .i64 ((dm : Nat) : Int)] w (VatPost dm w0 b k nv w):=by
 have HL:=h
 have hbw:=lots_lt HL
 have hb0:=HL.1
 have hws : w0.heap.size ≤ w.heap.size:=HL.2.2.1.size
 have E : Ext [b] w w:=Ext.refl _ _
 clear h
 refine calls_has 66 Try.func33 rfl Try.ntmps33 (Nat.le_of_ble_eq_true rfl) ?_
 intro fa F
 refine wp_seq_k fun K1 hK1=>?_
 refine wp_region_lit ?_
 refine sq_new F rfl (by decide) rfl (R_alloc rfl Try.zeroValue24) ?_;clear F fa;intro fa w1 F hw
 obtain ⟨n4,hn⟩ : ∃ n,n = w.heap.size:=⟨_,rfl⟩
 rw [← hn] at F
 have s4 : w.heap.size ≤ n4:=Nat.le_of_eq hn.symm
 have l4_E : w.heap.size ≤ n4:=by rw [hn];exact E.size
 have b4_HL:=Nat.lt_of_lt_of_eq (lots_lt HL) hn.symm
 replace E:=ext_alloc E hw
 replace HL:=lots_alloc hw HL
 have q4:=new_row hw hn
 clear hw hn
 refine wpList_nil ?_
 refine hK1 _ _ ?_
 clear hK1
 refine wp_seq_k fun K2 hK2=>?_
 refine wp_region_lit ?_
 refine F.mv ?_;clear F fa;intro fa F
 refine sq_call F rfl (by decide) rfl (R_callV rfl rfl Try.call49 (mpS (F.at rfl) (mpS (ev_c fa _) (mpS (ev_c fa _) mp0)))) (in_any w0 _ b _ nv 1 3 HL (by omega) (by omega) (by omega) (by omega) (by omega)) fun e w2 hR=>?_
 obtain ⟨bz,rfl,hbz1,hbz2,HL,e9⟩:=hR
 refine ⟨_,rfl,?_⟩;clear F fa;intro fa F
 replace q4:=(e9).keep q4 (by simp;omega)
 replace E:=E.trans' e9 (fun i hi hl=>by simp only [List.mem_cons,List.not_mem_nil,or_false] at hi ⊢;omega)
 obtain ⟨bn,rfl⟩:=Int.eq_ofNat_of_zero_le (show 0 ≤ bz by omega)
 refine F.mv ?_;clear F fa;intro fa F
 refine F.mv ?_;clear F fa;intro fa F
 refine sq_call F rfl (by decide) rfl (R_callV rfl rfl Try.call26 (mpS (F.at rfl) (mpS (ev_c fa _) mp0))) (upto_any w0 _ b _ nv 6 HL (by omega) (by omega) (by omega)) fun e w3 hR=>?_
 obtain ⟨u,rfl,hu0,hu1,HL,e9⟩:=hR
 refine ⟨_,rfl,?_⟩;clear F fa;intro fa F
 replace q4:=(e9).keep q4 (by simp;omega)
 replace E:=E.trans' e9 (fun i hi hl=>by simp only [List.mem_cons,List.not_mem_nil,or_false] at hi ⊢;omega)
 refine sq_new F rfl (by decide) rfl (R_buildSliceV rfl (prS (ev_c fa _) (prS (ev_c fa _) (prS (ev_c fa _) (prS (ev_c fa _) (prS (F.at rfl) pr0))))) Try.underlying25 (size:=1) (by kernel_rfl) (by decide) (by decide) Try.zeroValue3 (cells:=#[.int .i64 0,.int .i64 1,.int .i64 1,.int .i64 2,.int .i64 u]) (by kernel_rfl)) ?_;clear F fa;intro fa w4 F hw
 obtain ⟨n15,hn⟩ : ∃ n,n = w3.heap.size:=⟨_,rfl⟩
 rw [← hn] at F
 have s15 : w3.heap.size ≤ n15:=Nat.le_of_eq hn.symm
 have l15_E : w.heap.size ≤ n15:=by rw [hn];exact E.size
 have b15_HL:=Nat.lt_of_lt_of_eq (lots_lt HL) hn.symm
 have m15_4 : n4 < n15:=by rw [hn];exact blk_lt q4
 replace q4:=keep_alloc hw q4
 replace E:=ext_alloc E hw
 replace HL:=lots_alloc hw HL
 have q15:=new_block hw hn
 clear hw hn
 refine sq_call F rfl (by decide) rfl (R_callV rfl rfl Try.call50 (mpS (F.at rfl) (mpS (F.at rfl) mp0))) (of_any w0 _ b _ nv n15 _ [0,1,1,2,u] HL (by omega) q15 (by omega) (by simp) (by simp)) fun e w5 hR=>?_
 obtain ⟨tl,rfl,htm,HL,e9⟩:=hR
 refine ⟨_,rfl,?_⟩;clear F fa;intro fa F
 replace q4:=(e9).keep q4 (by simp;omega)
 replace q15:=(e9).keep q15 (by simp;omega)
 replace E:=E.trans' e9 (fun i hi hl=>by simp only [List.mem_cons,List.not_mem_nil,or_false] at hi ⊢;omega)
 have htl : 0 ≤ tl ∧ tl ≤ 6:=by simp only [List.mem_cons,List.not_mem_nil,or_false] at htm;omega
 refine F.vl (R_buildV rfl (prS (F.at rfl) (prS (F.at rfl) pr0)) (cells:=#[.int .i64 ((bn : Nat) : Int),.slice none 0 0,.slice none 0 0,.int .i64 tl]) (by kernel_rfl)) ?_;clear F fa;intro fa F
 refine sq_new F rfl (by decide) rfl (R_alloc rfl Try.zeroValue24) ?_;clear F fa;intro fa w6 F hw
 obtain ⟨n5,hn⟩ : ∃ n,n = w5.heap.size:=⟨_,rfl⟩
 rw [← hn] at F
 have s5 : w5.heap.size ≤ n5:=Nat.le_of_eq hn.symm
 have l5_E : w.heap.size ≤ n5:=by rw [hn];exact E.size
 have b5_HL:=Nat.lt_of_lt_of_eq (lots_lt HL) hn.symm
 have m5_4 : n4 < n5:=by rw [hn];exact blk_lt q4
 replace q4:=keep_alloc hw q4
 replace E:=ext_alloc E hw
 replace HL:=lots_alloc hw HL
 have q5:=new_row hw hn
 clear hw hn
 refine sq_to rfl rfl (R_storeRow rfl (F.at rfl) (F.at rfl) (by kernel_rfl) (by first | (simp [Value.oneCell'];done) | (simp [Value.oneCell',id];done)) q5 rfl) ?_;intro w7 hw
 replace q4:=keep_cells hw q4 (by omega)
 replace q5:=put_row hw q5 rfl
 replace E:=ext_cells E hw (fun h=>by first | exact absurd h (by omega) | simp)
 replace HL:=lots_cells hw HL (by omega) (by omega)
 clear hw
 refine wpList_nil ?_
 refine hK2 _ _ ?_
 clear hK2
 refine wp_seq_k fun K3 hK3=>?_
 refine wp_seq_k fun K4 hK4=>?_
 refine wp_region_lit ?_
 refine F.mv ?_;clear F fa;intro fa F
 refine F.mv ?_;clear F fa;intro fa F
 refine sq_call F rfl (by decide) rfl (R_callV rfl rfl Try.call49 (mpS (F.at rfl) (mpS (ev_c fa _) (mpS (F.at rfl) mp0)))) (in_any w0 _ b _ nv 1 ((dm : Nat) : Int) HL (by omega) (by omega) (by omega) (by omega) (by omega)) fun e w8 hR=>?_
 obtain ⟨n,rfl,hn1,hn2,HL,e9⟩:=hR
 refine ⟨_,rfl,?_⟩;clear F fa;intro fa F
 replace q4:=(e9).keep q4 (by simp;omega)
 replace q5:=(e9).keep q5 (by simp;omega)
 replace E:=E.trans' e9 (fun i hi hl=>by simp only [List.mem_cons,List.not_mem_nil,or_false] at hi ⊢;omega)
 refine F.as ?_;clear F fa;intro fa F
 refine wpList_nil ?_
 rw [show n = n - ((0 : Nat) : Int) by omega] at F
 obtain ⟨wR,hwR⟩ : ∃ wR,wR = w8:=⟨_,rfl⟩
 have ER : Ext [b,n5] wR w8:=by rw [hwR];exact Ext.refl _ _
 have hb4:=blk_lt q4
 have hb5:=blk_lt q5
 have hbb:=lots_lt HL
 rw [← hwR] at hb4 hb5 hbb
 have hwR0 : w.heap.size ≤ wR.heap.size:=by rw [hwR];exact E.size
 have oo : w8.ownsRow wR.heap.size 25 1 (.slice none 0 0) 0 (([] : List (Value × List Int)).map (·.1)):=World.ownsRow_nil _ _ _ _
 have fam : FamT w8 wR.heap.size []:=fam_nil _ _
 refine hK4 _ _ ?_
 clear hK4
 refine wp_block ?_
 have F0:=F.sub (.c 0 rfl (.c 4 rfl (.c 5 rfl .n)))
 replace HL : LotsOk w0 w8 b (k + 4 + 10 * 0) nv:=lots_mono HL (by omega)
 refine lp_for F0 (dm) (fun i Lv W=>∃ da : Option Addr,∃ dc : Nat,∃ O : List (Value × List Int),Lv = [(6,.int .i64 (n - ((i : Nat) : Int)))] ∧ Ext [b] w W ∧ Ext [b,n5] wR W ∧ W.heap[n4]? = some (.cells #[.int .i64 0,.slice none 0 0,.slice none 0 0,.int .i64 0] 24 (0,0)) ∧ W.heap[n5]? = some (.cells #[.int .i64 ((bn : Nat) : Int),.slice da O.length dc,.slice none 0 0,.int .i64 tl] 24 (0,0)) ∧ LotsOk w0 W b (k + 4 + 10 * i) nv ∧ W.ownsRow wR.heap.size 25 1 (.slice da O.length dc) O.length (O.map (·.1)) ∧ FamT W wR.heap.size O ∧ (∀ p ∈ O,(p.2.length : Int) = bn ∧ ∀ m ∈ p.2,0 ≤ m ∧ m ≤ 9) ∧ (O.map (·.2)).Nodup ∧ O.length ≤ i ∧ (0 < i → 0 < O.length) ∧ (i : Int) ≤ n) ⟨_,⟨none,0,[],rfl,E,ER,q4,q5,HL,oo,fam,(by simp),(by simp),(by simp),(by simp),(by omega)⟩,F.sub (.c 6 rfl (.c 0 rfl (.c 4 rfl (.c 5 rfl .n))))⟩ ?_
 clear F F0
 clear E ER q4 q5 HL
 clear oo
 clear fam
 rintro i _ fa w9 hi1 ⟨da,dc,O,rfl,E,ER,q4,q5,HL,oo,fam,hOB,hnd,hOl,hO1,hin⟩ F
 refine wp_seq_k fun K5 hK5=>?_
 refine wp_seq_k fun K6 hK6=>?_
 refine wp_region_lit ?_
 refine F.mv ?_;clear F fa;intro fa F
 refine F.vl (R_gtr rfl (F.at rfl) (ev_c fa _)) ?_;clear F fa;intro fa F
 refine wpList_nil ?_
 refine hK6 _ _ ?_
 clear hK6
 refine cd_if F rfl (fun hc22=>?_) (fun hc22=>?_)
 ·skip
  refine wp_skip ?_
  refine hK5 _ _ ?_
  clear hK5
  refine wp_seq_k fun K7 hK7=>?_
  refine wp_block ?_
  refine wp_seq_k fun K8 hK8=>?_
  refine wp_region_lit ?_
  refine F.mv ?_;clear F fa;intro fa F
  refine F.vl (R_field rfl (F.at rfl) Try.underlying24 rfl (n:=0) (sz:=1) rfl (by kernel_rfl) (by decide)) ?_;clear F fa;intro fa F
  refine F.vl (R_load rfl (F.at rfl) Try.underlying3 rfl ((cells_of_block q5 0).trans (get0))) ?_;clear F fa;intro fa F
  have hflt:=Lib.hid (fam_lt fam)
  obtain ⟨B1,hB1⟩ : ∃ B1,B1 = w9.heap.size:=⟨_,rfl⟩
  rw [← hB1] at hflt
  have hB1w : wR.heap.size ≤ B1:=by rw [hB1];exact ER.size
  refine sq_call F rfl (by decide) rfl (R_callV rfl rfl Try.call90 (mpS (F.at rfl) (mpS (F.at rfl) (mpS (ev_c fa _) mp0)))) (tonesOf_any w0 _ b _ nv bn 9 HL (by omega) (by omega) (by omega) (by omega)) fun e w10 hR=>?_
  obtain ⟨ra,rc,xs,rfl,hxl,hxb,ro,HL,e9⟩:=hR
  refine ⟨_,rfl,?_⟩;clear F fa;intro fa F
  replace oo:=owns_ext oo (e9) (by simp;omega)
  replace fam:=fam_lift fam fun _ _ _ h=>owns_ext h (e9) (by simp;omega)
  replace q4:=(e9).keep q4 (by simp;omega)
  replace q5:=(e9).keep q5 (by simp;omega)
  replace E:=E.trans' e9 (fun i hi hl=>by simp only [List.mem_cons,List.not_mem_nil,or_false] at hi ⊢;omega)
  replace ER:=ER.trans' e9 (fun i hi hl=>by simp only [List.mem_cons,List.not_mem_nil,or_false] at hi ⊢;omega)
  rw [← hB1] at ro
  refine F.as ?_;clear F fa;intro fa F
  refine wpList_nil ?_
  refine hK8 _ _ ?_
  clear hK8
  refine wp_seq_k fun K9 hK9=>?_
  refine wp_region_lit ?_
  refine F.vl (R_field rfl (F.at rfl) Try.underlying24 rfl (n:=1) (sz:=1) rfl (by kernel_rfl) (by decide)) ?_;clear F fa;intro fa F
  refine F.vl (R_load rfl (F.at rfl) Try.underlying22 rfl ((cells_of_block q5 1).trans (getS (get0)))) ?_;clear F fa;intro fa F
  refine F.mv ?_;clear F fa;intro fa F
  have hin2:=isIn_any O xs da ra dc rc w10 (lol_of_own oo fam) (by rw [hxl];exact rows_of_ivs ro hxl.symm) (by omega) (fun p hp=>by have:=(hOB p hp).1;omega) (by omega)
  rw [hxl] at hin2
  refine sq_call F rfl (by decide) rfl (R_callV rfl rfl Try.call91 (mpS (F.at rfl) (mpS (F.at rfl) mp0))) (hin2) fun e w11 hR=>?_
  obtain ⟨rfl,e9⟩:=hR
  refine ⟨_,rfl,?_⟩;clear F fa;intro fa F
  replace oo:=owns_ext oo (e9) (by simp)
  replace fam:=fam_lift fam fun _ _ _ h=>owns_ext h (e9) (by simp)
  replace ro:=owns_ext ro (e9) (by simp)
  replace q4:=(e9).keep0 q4
  replace q5:=(e9).keep0 q5
  replace E:=ext_same E (e9)
  replace ER:=ext_same ER (e9)
  replace HL:=lots_ext (e9) HL
  clear e9
  clear hin2
  refine F.vl (R_notD rfl (F.at rfl)) ?_;clear F fa;intro fa F
  refine wpList_nil ?_
  refine hK9 _ _ ?_
  clear hK9
  refine cd_if F rfl (fun hc33=>?_) (fun hc33=>?_)
  ·skip
   have fam2:=fam_perm (fam_join (b1:=B1) (L:=[(Value.slice ra bn rc,xs)]) ⟨fun p hp=>(by obtain rfl : p = (Value.slice ra bn rc,xs):=(by simpa using hp);rw [show ((Value.slice ra bn rc,xs) : Value × List Int).2.length = bn from hxl];exact ro),List.pairwise_singleton _ _⟩ fam hflt.out hB1w) (M:=O ++ [(Value.slice ra bn rc,xs)]) List.perm_append_comm
   clear fam ro
   have fam:=fam2
   clear fam2
   obtain ⟨P,hP⟩ : ∃ P,P = O ++ [(Value.slice ra bn rc,xs)]:=⟨_,rfl⟩
   have hPl : O.length + 1 = P.length:=by rw [hP,List.length_append];rfl
   rw [← hP] at fam
   have hPB : ∀ p ∈ P,(p.2.length : Int) = bn ∧ ∀ m ∈ p.2,0 ≤ m ∧ m ≤ 9:=by intro p hp;rw [hP] at hp;rcases List.mem_append.1 hp with hp | hp;(· exact hOB p hp);(· simp only [List.mem_cons,List.not_mem_nil,or_false] at hp;subst hp;exact ⟨by show ((xs.length : Nat) : Int) = _;omega,hxb⟩)
   have hPn : (P.map (·.2)).Nodup:=by rw [hP,List.map_append,List.nodup_append];exact ⟨hnd,by simp,fun y hy z hz=>by simp only [List.map_cons,List.map_nil,List.mem_cons,List.not_mem_nil,or_false] at hz;subst hz;intro e;subst e;exact hc33 hy⟩
   refine wp_region_lit ?_
   refine F.vl (R_field rfl (F.at rfl) Try.underlying24 rfl (n:=1) (sz:=1) rfl (by kernel_rfl) (by decide)) ?_;clear F fa;intro fa F
   refine F.vl (R_load rfl (F.at rfl) Try.underlying22 rfl ((cells_of_block q5 1).trans (getS (get0)))) ?_;clear F fa;intro fa F
   refine F.mv ?_;clear F fa;intro fa F
   refine sq_new F rfl (by decide) rfl (R_buildSliceV rfl (prS (F.at rfl) pr0) Try.underlying22 (size:=1) (by kernel_rfl) (by decide) (by decide) Try.zeroValue25 (cells:=#[.slice ra bn rc]) (by kernel_rfl)) ?_;clear F fa;intro fa w12 F hw
   obtain ⟨n37,hn⟩ : ∃ n,n = w11.heap.size:=⟨_,rfl⟩
   rw [← hn] at F
   have s37 : w11.heap.size ≤ n37:=Nat.le_of_eq hn.symm
   have l37_E : w.heap.size ≤ n37:=by rw [hn];exact E.size
   have l37_ER : wR.heap.size ≤ n37:=by rw [hn];exact ER.size
   have b37_HL:=Nat.lt_of_lt_of_eq (lots_lt HL) hn.symm
   have m37_4 : n4 < n37:=by rw [hn];exact blk_lt q4
   have m37_5 : n5 < n37:=by rw [hn];exact blk_lt q5
   have o37_oo:=Lib.hid (own_ne_new oo hn)
   replace oo:=owns_alloc hw oo
   replace fam:=fam_lift fam fun _ _ _ h=>owns_alloc hw h
   replace q4:=keep_alloc hw q4
   replace q5:=keep_alloc hw q5
   replace E:=ext_alloc E hw
   replace ER:=ext_alloc ER hw
   replace HL:=lots_alloc hw HL
   have q37:=new_block hw hn
   clear hw hn
   have hEs:=ER.size
   refine sq_some F rfl (by decide) rfl (append_run rfl (wR.heap.size) (e:=25) (size:=1) (bytes:=24) Try.underlying22 (by kernel_rfl) (by decide) (F.at rfl) oo (F.at rfl) q37 rfl (by simp [Value.oneCell']) (by omega) (by omega) (by omega)) ?_;clear F fa;rintro fa v' w13 F ⟨hown',hg⟩
   obtain ⟨va38,vc38,rfl⟩:=owns_slice hown'
   replace q4:=keep_type oo hg q4 (by decide)
   replace q5:=keep_type oo hg q5 (by decide)
   replace HL:=lots_append HL oo hg (by omega) (by decide)
   replace fam:=fam_lift fam fun _ _ _ h=>owns_other h oo hg (by decide)
   replace E:=ext_appendX E oo hg (by omega)
   replace ER:=ext_appendX ER oo hg (by omega)
   replace oo:=hown'
   clear hg
   rw [show O.map (·.1) ++ [Value.slice ra bn rc] = P.map (·.1) by rw [hP,List.map_append];rfl,hPl] at oo
   rw [hPl] at F
   replace hOB:=hPB
   replace hnd:=hPn
   replace hOl : P.length ≤ i + 1:=by omega
   replace hO1 : 0 < i + 1 → 0 < P.length:=fun _=>by omega
   refine F.vl (R_field rfl (F.at rfl) Try.underlying24 rfl (n:=1) (sz:=1) rfl (by kernel_rfl) (by decide)) ?_;clear F fa;intro fa F
   refine sq_to rfl rfl (R_store rfl (F.at rfl) (F.at rfl) rfl (by kernel_rfl) ((cells_of_block q5 1).trans (getS (get0))) (free_of_block q5 1)) ?_;intro w14 hw
   replace oo:=owns_cellX hw oo (own_ne_type oo q5 (by decide))
   replace fam:=fam_lift fam fun _ _ _ h=>owns_cellX hw h (own_ne_type h q5 (by decide))
   replace q4:=keep_cell hw q4 (by omega)
   replace q5:=put_cell hw q5 (by simp only [List.setIfInBounds_toArray,lsQ,lzQ];exact rfl)
   replace E:=ext_cell E hw (fun h=>by first | exact absurd h (by omega) | simp)
   replace ER:=ext_cell ER hw (fun h=>by first | exact absurd h (by omega) | simp)
   replace HL:=lots_cell hw HL (by omega) (by omega)
   clear hw
   refine wpList_nil ?_
   refine hK7 _ _ ?_
   clear hK7
   refine wp_region_lit ?_
   refine F.mv ?_;clear F fa;intro fa F
   refine F.vl (R_sub rfl (F.at rfl) (ev_c fa _) (by omega) (by omega)) ?_;clear F fa;intro fa F
   rw [show n - ((i : Nat) : Int) - 1 = n - ((i + 1 : Nat) : Int) by omega] at F
   refine F.as ?_;clear F fa;intro fa F
   refine wpList_nil ?_
   replace HL : LotsOk w0 w14 b (k + 4 + 10 * (i + 1)) nv:=lots_mono HL (by omega)
   show _ ∧ _
   exact ⟨by omega,_,⟨_,_,_,rfl,E,ER,q4,q5,HL,oo,fam,hOB,hnd,hOl,hO1,(by omega)⟩,F.sub (.c 6 rfl (.c 0 rfl (.c 4 rfl (.c 5 rfl .n))))⟩
  ·skip
   have hOne : 0 < O.length:=by have:=Classical.not_not.1 hc33;rcases O with _ | ⟨p,O⟩;(· simp at this);(· simp)
   replace hOl : O.length ≤ i + 1:=by omega
   replace hO1 : 0 < i + 1 → 0 < O.length:=fun _=>hOne
   refine wp_skip ?_
   refine hK7 _ _ ?_
   clear hK7
   refine wp_region_lit ?_
   refine F.mv ?_;clear F fa;intro fa F
   refine F.vl (R_sub rfl (F.at rfl) (ev_c fa _) (by omega) (by omega)) ?_;clear F fa;intro fa F
   rw [show n - ((i : Nat) : Int) - 1 = n - ((i + 1 : Nat) : Int) by omega] at F
   refine F.as ?_;clear F fa;intro fa F
   refine wpList_nil ?_
   replace HL : LotsOk w0 w11 b (k + 4 + 10 * (i + 1)) nv:=lots_mono HL (by omega)
   show _ ∧ _
   exact ⟨by omega,_,⟨_,_,_,rfl,E,ER,q4,q5,HL,oo,fam,hOB,hnd,hOl,hO1,(by omega)⟩,F.sub (.c 6 rfl (.c 0 rfl (.c 4 rfl (.c 5 rfl .n))))⟩
 ·skip
  refine wp_exit ?_
  refine hK3 _ _ ?_
  clear hK3
  refine wp_seq_k fun K10 hK10=>?_
  refine wp_seq_k fun K11 hK11=>?_
  have hdcap:=own_capN oo
  have hDl : ∀ W,Ext [b,n4,n5] w9 W → LolAt W da O:=fun W e=>lol_of_own (owns_ext oo e (by simp;omega)) (fam_lift fam fun v n xs h=>owns_ext h e (by simp;omega))
  obtain ⟨wL,hwL⟩ : ∃ wL,wL = w9:=⟨_,rfl⟩
  have EL : Ext [b,n4,n5] wL w9:=by rw [hwL];exact Ext.refl _ _
  rw [← hwL] at hDl
  have HDl:=Lib.hid hDl
  clear hDl oo fam
  have hwL0 : w.heap.size ≤ wL.heap.size:=by rw [hwL];exact E.size
  refine wp_region_lit ?_
  refine F.mv ?_;clear F fa;intro fa F
  refine sq_call F rfl (by decide) rfl (R_callV rfl rfl Try.call49 (mpS (F.at rfl) (mpS (ev_c fa _) (mpS (ev_c fa _) mp0)))) (in_any w0 _ b _ nv 1 3 HL (by omega) (by omega) (by omega) (by omega) (by omega)) fun e w15 hR=>?_
  obtain ⟨m,rfl,hm1,hm2,HL,e9⟩:=hR
  refine ⟨_,rfl,?_⟩;clear F fa;intro fa F
  replace q4:=(e9).keep q4 (by simp;omega)
  replace q5:=(e9).keep q5 (by simp;omega)
  replace E:=E.trans' e9 (fun i hi hl=>by simp only [List.mem_cons,List.not_mem_nil,or_false] at hi ⊢;omega)
  replace EL:=EL.trans' e9 (fun i hi hl=>by simp only [List.mem_cons,List.not_mem_nil,or_false] at hi ⊢;omega)
  refine F.as ?_;clear F fa;intro fa F
  refine wpList_nil ?_
  rw [show m = m - ((0 : Nat) : Int) by omega] at F
  have oo : w15.ownsRow wL.heap.size 25 1 (.slice none 0 0) 0 (([] : List (Value × List Int)).map (·.1)):=World.ownsRow_nil _ _ _ _
  have fam : FamT w15 wL.heap.size []:=fam_nil _ _
  have hOd : O.length ≤ dm:=by omega
  replace hO1 : 0 < O.length:=hO1 (by omega)
  refine hK11 _ _ ?_
  clear hK11
  refine wp_block ?_
  have F0:=F.sub (.c 0 rfl (.c 4 rfl (.c 5 rfl .n)))
  replace HL : LotsOk w0 w15 b (k + 5 + 10 * dm + 10 * 0) nv:=lots_mono HL (by omega)
  refine lp_for F0 (3) (fun j Lv W=>∃ la : Option Addr,∃ lc : Nat,∃ Q : List (Value × List Int),Lv = [(8,.int .i64 (m - ((j : Nat) : Int)))] ∧ Ext [b] w W ∧ Ext [b,n4,n5] wL W ∧ W.heap[n4]? = some (.cells #[.int .i64 0,.slice none 0 0,.slice none 0 0,.int .i64 0] 24 (0,0)) ∧ W.heap[n5]? = some (.cells #[.int .i64 ((bn : Nat) : Int),.slice da O.length dc,.slice la Q.length lc,.int .i64 tl] 24 (0,0)) ∧ LotsOk w0 W b (k + 5 + 10 * dm + 10 * j) nv ∧ W.ownsRow wL.heap.size 25 1 (.slice la Q.length lc) Q.length (Q.map (·.1)) ∧ FamT W wL.heap.size Q ∧ (∀ p ∈ Q,(p.2.length : Int) = bn ∧ ∀ m ∈ p.2,0 ≤ m ∧ m ≤ 3) ∧ (∀ p ∈ Q,p.2.sum ≠ 0) ∧ Q.length = j ∧ (j : Int) ≤ m) ⟨_,⟨none,0,[],rfl,E,EL,q4,q5,HL,oo,fam,(by simp),(by simp),rfl,(by omega)⟩,F.sub (.c 8 rfl (.c 0 rfl (.c 4 rfl (.c 5 rfl .n))))⟩ ?_
  clear F F0
  clear E EL q4 q5 HL
  clear oo
  clear fam
  rintro j _ fa w16 hi2 ⟨la,lc,Q,rfl,E,EL,q4,q5,HL,oo,fam,hQB,hQs,hQl,hjm⟩ F
  refine wp_seq_k fun K12 hK12=>?_
  refine wp_seq_k fun K13 hK13=>?_
  refine wp_region_lit ?_
  refine F.mv ?_;clear F fa;intro fa F
  refine F.vl (R_gtr rfl (F.at rfl) (ev_c fa _)) ?_;clear F fa;intro fa F
  refine wpList_nil ?_
  refine hK13 _ _ ?_
  clear hK13
  refine cd_if F rfl (fun hc43=>?_) (fun hc43=>?_)
  ·skip
   refine wp_skip ?_
   refine hK12 _ _ ?_
   clear hK12
   refine wp_seq_k fun K14 hK14=>?_
   refine wp_block ?_
   refine wp_seq_k fun K15 hK15=>?_
   refine wp_region_lit ?_
   refine F.mv ?_;clear F fa;intro fa F
   refine F.vl (R_field rfl (F.at rfl) Try.underlying24 rfl (n:=0) (sz:=1) rfl (by kernel_rfl) (by decide)) ?_;clear F fa;intro fa F
   refine F.vl (R_load rfl (F.at rfl) Try.underlying3 rfl ((cells_of_block q5 0).trans (get0))) ?_;clear F fa;intro fa F
   have hflt:=Lib.hid (fam_lt fam)
   obtain ⟨B1,hB1⟩ : ∃ B1,B1 = w16.heap.size:=⟨_,rfl⟩
   rw [← hB1] at hflt
   have hB1w : wL.heap.size ≤ B1:=by rw [hB1];exact EL.size
   refine sq_call F rfl (by decide) rfl (R_callV rfl rfl Try.call90 (mpS (F.at rfl) (mpS (F.at rfl) (mpS (ev_c fa _) mp0)))) (tonesOf_any w0 _ b _ nv bn 3 HL (by omega) (by omega) (by omega) (by omega)) fun e w17 hR=>?_
   obtain ⟨ra,rc,xs,rfl,hxl,hxb,ro,HL,e9⟩:=hR
   refine ⟨_,rfl,?_⟩;clear F fa;intro fa F
   replace oo:=owns_ext oo (e9) (by simp;omega)
   replace fam:=fam_lift fam fun _ _ _ h=>owns_ext h (e9) (by simp;omega)
   replace q4:=(e9).keep q4 (by simp;omega)
   replace q5:=(e9).keep q5 (by simp;omega)
   replace E:=E.trans' e9 (fun i hi hl=>by simp only [List.mem_cons,List.not_mem_nil,or_false] at hi ⊢;omega)
   replace EL:=EL.trans' e9 (fun i hi hl=>by simp only [List.mem_cons,List.not_mem_nil,or_false] at hi ⊢;omega)
   rw [← hB1] at ro
   refine F.as ?_;clear F fa;intro fa F
   refine wpList_nil ?_
   refine hK15 _ _ ?_
   clear hK15
   refine wp_seq_k fun K16 hK16=>?_
   refine wp_region_lit ?_
   refine F.mv ?_;clear F fa;intro fa F
   refine F.mv ?_;clear F fa;intro fa F
   refine F.vl (R_field rfl (F.at rfl) Try.underlying24 rfl (n:=0) (sz:=1) rfl (by kernel_rfl) (by decide)) ?_;clear F fa;intro fa F
   refine F.vl (R_load rfl (F.at rfl) Try.underlying3 rfl ((cells_of_block q5 0).trans (get0))) ?_;clear F fa;intro fa F
   refine F.vl (R_sub rfl (F.at rfl) (ev_c fa _) (by omega) (by omega)) ?_;clear F fa;intro fa F
   refine sq_call F rfl (by decide) rfl (R_callV rfl rfl Try.call26 (mpS (F.at rfl) (mpS (F.at rfl) mp0))) (upto_any w0 _ b _ nv (((bn : Nat) : Int) - 1) HL (by omega) (by omega) (by omega)) fun e w18 hR=>?_
   obtain ⟨v,rfl,hv0,hv1,HL,e9⟩:=hR
   refine ⟨_,rfl,?_⟩;clear F fa;intro fa F
   replace oo:=owns_ext oo (e9) (by simp;omega)
   replace fam:=fam_lift fam fun _ _ _ h=>owns_ext h (e9) (by simp;omega)
   replace ro:=owns_ext ro (e9) (by simp;omega)
   replace q4:=(e9).keep q4 (by simp;omega)
   replace q5:=(e9).keep q5 (by simp;omega)
   replace E:=E.trans' e9 (fun i hi hl=>by simp only [List.mem_cons,List.not_mem_nil,or_false] at hi ⊢;omega)
   replace EL:=EL.trans' e9 (fun i hi hl=>by simp only [List.mem_cons,List.not_mem_nil,or_false] at hi ⊢;omega)
   obtain ⟨v,rfl⟩:=Int.eq_ofNat_of_zero_le hv0
   refine F.mv ?_;clear F fa;intro fa F
   refine sq_call F rfl (by decide) rfl (R_callV rfl rfl Try.call49 (mpS (F.at rfl) (mpS (ev_c fa _) (mpS (ev_c fa _) mp0)))) (in_any w0 _ b _ nv 1 3 HL (by omega) (by omega) (by omega) (by omega) (by omega)) fun e w19 hR=>?_
   obtain ⟨z,rfl,hz1,hz2,HL,e9⟩:=hR
   refine ⟨_,rfl,?_⟩;clear F fa;intro fa F
   replace oo:=owns_ext oo (e9) (by simp;omega)
   replace fam:=fam_lift fam fun _ _ _ h=>owns_ext h (e9) (by simp;omega)
   replace ro:=owns_ext ro (e9) (by simp;omega)
   replace q4:=(e9).keep q4 (by simp;omega)
   replace q5:=(e9).keep q5 (by simp;omega)
   replace E:=E.trans' e9 (fun i hi hl=>by simp only [List.mem_cons,List.not_mem_nil,or_false] at hi ⊢;omega)
   replace EL:=EL.trans' e9 (fun i hi hl=>by simp only [List.mem_cons,List.not_mem_nil,or_false] at hi ⊢;omega)
   have EX : Ext [] w19 w19:=Ext.refl _ _
   have HS:=Lib.hid (slAt_of_ivs ro hxl.symm [] (by simp))
   have hil:=ivs_lenZ xs
   obtain ⟨xb17,xo17,xa17,xr17⟩:=HS.out v (by omega)
   refine F.vl (R_ixSlice (sz:=1) rfl ((F.at rfl).trans (xa17 _ _)) (F.at rfl) Try.underlying25 (by kernel_rfl) (by omega) (by omega)) ?_;clear F fa;intro fa F
   obtain ⟨⟨u0,hcu⟩,hfu,hst⟩:=owns_at ro xa17 (j:=v) (p:=xo17 + ((v : Nat) : Int).toNat * 1) (by first | omega | (simp;omega)) (by omega)
   refine sq_to rfl rfl (R_store rfl (F.at rfl) (F.at rfl) rfl (by kernel_rfl) hcu hfu) ?_;intro w20 hw
   obtain ⟨hown',hg⟩:=hst _ _ hw
   clear hst hcu hfu hw
   replace q4:=keep_type ro hg q4 (by decide)
   replace q5:=keep_type ro hg q5 (by decide)
   replace HL:=lots_append HL ro hg (by omega) (by decide)
   replace oo:=owns_other oo ro hg (by decide)
   replace fam:=fam_below fam hflt.out ro hg
   replace E:=ext_appendX E ro hg (by omega)
   replace EL:=ext_appendX EL ro hg (by omega)
   replace ro:=hown'
   clear hg
   rw [ivs_setZ] at ro
   refine wpList_nil ?_
   obtain ⟨ys,hys⟩ : ∃ ys,ys = xs.set v z:=⟨_,rfl⟩
   have hyl : ys.length = bn:=by rw [hys,List.length_set];exact hxl
   have hyb : ∀ q ∈ ys,0 ≤ q ∧ q ≤ 3:=by intro q hq;rw [hys] at hq;rcases List.mem_or_eq_of_mem_set hq with hq | rfl;(· exact hxb q hq);(· omega)
   have hysum : ys.sum ≠ 0:=by have h1:=le_sum (xs:=ys) (fun q hq=>(hyb q hq).1) z (by rw [hys];exact List.mem_set (by omega) z);omega
   rw [← hys] at ro
   refine hK16 _ _ ?_
   clear hK16
   have fam2:=fam_perm (fam_join (b1:=B1) (L:=[(Value.slice ra bn rc,ys)]) ⟨fun p hp=>(by obtain rfl : p = (Value.slice ra bn rc,ys):=(by simpa using hp);rw [show ((Value.slice ra bn rc,ys) : Value × List Int).2.length = bn from hyl];exact ro),List.pairwise_singleton _ _⟩ fam hflt.out hB1w) (M:=Q ++ [(Value.slice ra bn rc,ys)]) List.perm_append_comm
   clear fam ro
   have fam:=fam2
   clear fam2
   obtain ⟨P,hP⟩ : ∃ P,P = Q ++ [(Value.slice ra bn rc,ys)]:=⟨_,rfl⟩
   have hPl : Q.length + 1 = P.length:=by rw [hP,List.length_append];rfl
   rw [← hP] at fam
   have hPB : ∀ p ∈ P,(p.2.length : Int) = bn ∧ ∀ m ∈ p.2,0 ≤ m ∧ m ≤ 3:=by intro p hp;rw [hP] at hp;rcases List.mem_append.1 hp with hp | hp;(· exact hQB p hp);(· simp only [List.mem_cons,List.not_mem_nil,or_false] at hp;subst hp;exact ⟨by show ((ys.length : Nat) : Int) = _;omega,hyb⟩)
   have hPs : ∀ p ∈ P,p.2.sum ≠ 0:=by intro p hp;rw [hP] at hp;rcases List.mem_append.1 hp with hp | hp;(· exact hQs p hp);(· simp only [List.mem_cons,List.not_mem_nil,or_false] at hp;subst hp;exact hysum)
   refine wp_region_lit ?_
   refine F.vl (R_field rfl (F.at rfl) Try.underlying24 rfl (n:=2) (sz:=1) rfl (by kernel_rfl) (by decide)) ?_;clear F fa;intro fa F
   refine F.vl (R_load rfl (F.at rfl) Try.underlying22 rfl ((cells_of_block q5 2).trans (getS (getS (get0))))) ?_;clear F fa;intro fa F
   refine F.mv ?_;clear F fa;intro fa F
   refine sq_new F rfl (by decide) rfl (R_buildSliceV rfl (prS (F.at rfl) pr0) Try.underlying22 (size:=1) (by kernel_rfl) (by decide) (by decide) Try.zeroValue25 (cells:=#[.slice ra bn rc]) (by kernel_rfl)) ?_;clear F fa;intro fa w21 F hw
   obtain ⟨n62,hn⟩ : ∃ n,n = w20.heap.size:=⟨_,rfl⟩
   rw [← hn] at F
   have s62 : w20.heap.size ≤ n62:=Nat.le_of_eq hn.symm
   have l62_E : w.heap.size ≤ n62:=by rw [hn];exact E.size
   have l62_EL : wL.heap.size ≤ n62:=by rw [hn];exact EL.size
   have b62_HL:=Nat.lt_of_lt_of_eq (lots_lt HL) hn.symm
   have m62_4 : n4 < n62:=by rw [hn];exact blk_lt q4
   have m62_5 : n5 < n62:=by rw [hn];exact blk_lt q5
   have o62_oo:=Lib.hid (own_ne_new oo hn)
   replace oo:=owns_alloc hw oo
   replace fam:=fam_lift fam fun _ _ _ h=>owns_alloc hw h
   replace q4:=keep_alloc hw q4
   replace q5:=keep_alloc hw q5
   replace E:=ext_alloc E hw
   replace EL:=ext_alloc EL hw
   replace HL:=lots_alloc hw HL
   have q62:=new_block hw hn
   clear hw hn
   have hEs:=EL.size
   refine sq_some F rfl (by decide) rfl (append_run rfl (wL.heap.size) (e:=25) (size:=1) (bytes:=24) Try.underlying22 (by kernel_rfl) (by decide) (F.at rfl) oo (F.at rfl) q62 rfl (by simp [Value.oneCell']) (by omega) (by omega) (by omega)) ?_;clear F fa;rintro fa v' w22 F ⟨hown',hg⟩
   obtain ⟨va63,vc63,rfl⟩:=owns_slice hown'
   replace q4:=keep_type oo hg q4 (by decide)
   replace q5:=keep_type oo hg q5 (by decide)
   replace HL:=lots_append HL oo hg (by omega) (by decide)
   replace fam:=fam_lift fam fun _ _ _ h=>owns_other h oo hg (by decide)
   replace E:=ext_appendX E oo hg (by omega)
   replace EL:=ext_appendX EL oo hg (by omega)
   replace oo:=hown'
   clear hg
   rw [show Q.map (·.1) ++ [Value.slice ra bn rc] = P.map (·.1) by rw [hP,List.map_append];rfl,hPl] at oo
   rw [hPl] at F
   replace hQB:=hPB
   replace hQs:=hPs
   replace hQl : P.length = j + 1:=by omega
   refine F.vl (R_field rfl (F.at rfl) Try.underlying24 rfl (n:=2) (sz:=1) rfl (by kernel_rfl) (by decide)) ?_;clear F fa;intro fa F
   refine sq_to rfl rfl (R_store rfl (F.at rfl) (F.at rfl) rfl (by kernel_rfl) ((cells_of_block q5 2).trans (getS (getS (get0)))) (free_of_block q5 2)) ?_;intro w23 hw
   replace oo:=owns_cellX hw oo (own_ne_type oo q5 (by decide))
   replace fam:=fam_lift fam fun _ _ _ h=>owns_cellX hw h (own_ne_type h q5 (by decide))
   replace q4:=keep_cell hw q4 (by omega)
   replace q5:=put_cell hw q5 (by simp only [List.setIfInBounds_toArray,lsQ,lzQ];exact rfl)
   replace E:=ext_cell E hw (fun h=>by first | exact absurd h (by omega) | simp)
   replace EL:=ext_cell EL hw (fun h=>by first | exact absurd h (by omega) | simp)
   replace HL:=lots_cell hw HL (by omega) (by omega)
   clear hw
   refine wpList_nil ?_
   refine hK14 _ _ ?_
   clear hK14
   refine wp_region_lit ?_
   refine F.mv ?_;clear F fa;intro fa F
   refine F.vl (R_sub rfl (F.at rfl) (ev_c fa _) (by omega) (by omega)) ?_;clear F fa;intro fa F
   rw [show m - ((j : Nat) : Int) - 1 = m - ((j + 1 : Nat) : Int) by omega] at F
   refine F.as ?_;clear F fa;intro fa F
   refine wpList_nil ?_
   replace HL : LotsOk w0 w23 b (k + 5 + 10 * dm + 10 * (j + 1)) nv:=lots_mono HL (by omega)
   show _ ∧ _
   exact ⟨by omega,_,⟨_,_,_,rfl,E,EL,q4,q5,HL,oo,fam,hQB,hQs,hQl,(by omega)⟩,F.sub (.c 8 rfl (.c 0 rfl (.c 4 rfl (.c 5 rfl .n))))⟩
  ·skip
   refine wp_exit ?_
   refine hK10 _ _ ?_
   clear hK10
   refine wp_seq_k fun K18 hK18=>?_
   refine wp_region_lit ?_
   refine F.vl (R_loadBlk rfl (F.at rfl) Try.underlying24 rfl (by kernel_rfl) q5) ?_;clear F fa;intro fa F
   refine sq_to rfl rfl (R_storeRow rfl (F.at rfl) (F.at rfl) (by kernel_rfl) (by first | (simp [Value.oneCell'];done) | (simp [Value.oneCell',id];done)) q4 rfl) ?_;intro w24 hw
   replace oo:=owns_cellsX hw oo (own_ne_type oo q4 (by decide))
   replace fam:=fam_lift fam fun _ _ _ h=>owns_cellsX hw h (own_ne_type h q4 (by decide))
   replace q4:=put_row hw q4 rfl
   replace q5:=keep_cells hw q5 (by omega)
   replace E:=ext_cells E hw (fun h=>by first | exact absurd h (by omega) | simp)
   replace EL:=ext_cells EL hw (fun h=>by first | exact absurd h (by omega) | simp)
   replace HL:=lots_cells hw HL (by omega) (by omega)
   clear hw
   refine wpList_nil ?_
   refine hK18 _ _ ?_
   clear hK18
   refine wp_ret ?_
   (try simp only [Exit.inBlock,Exit.then,reduceIte])
   refine rt_v F (rs_c F rfl rfl Try.underlying24 rfl (by kernel_rfl) q4) ?_
   have hbL : b < wL.heap.size:=by omega
   refine ⟨{ B:=((bn : Nat) : Int),D:=O,da:=da,dc:=dc,L:=Q,la:=la,lc:=lc,tol:=tl },rfl,vok_of (by simp only;omega) (by simp only;omega) (by simp only;omega) (by simp only;omega) hOB hnd (by simp only;omega) (by simp only;omega) hQB hQs (by simp only;omega) (by simp only;omega),⟨hOd,hdcap⟩,fun W e=>⟨HDl.out W (EL.trans (e.mono (by simp))),lol_ext oo fam e hbL hbL⟩,lots_mono HL (by omega),E⟩
section
variable {P : Program}
def subA (a : Option Addr) (l cap size : Nat) : Option Addr:=if cap = l then a else a.map (·.add (l * size))
theorem R_sliceL {ρ : Operand → Value} {o : Oper} {w : World} {x z : Operand} {t e : TypeId} {a : Option Addr} {len cap m size : Nat} {k' : IntKind} (ho : o.op = .slice t x (some z) none none) (hx : ρ x = .slice a len cap) (hz : ρ z = .int k' (m : Nat)) (hu : P.underlying t = some (.slice e)) (hs : (P.info? e).map (·.size) = some size) (h2 : m ≤ len) :
  (execOp ρ o).run P w = .ok (.value (.slice (subA a m cap size) (len - m) (cap - m))) w:=by
 cases hq : P.info? e with
 | none=>simp [hq] at hs
 | some j =>
  have hj : j.size = size:=by simpa [hq] using hs
  unfold execOp
  simp [ho,hx,hz,Instr.sliceAt,Instr.slice,run_underlying hu,Instr.sliceBounds,Instr.sliceBound,asIntOf,sizeOf,typeInfo,hq,h2,hj,go_sem,subA]
end
theorem rows_takeN {w : World} {a : Option Addr} {n cap sz k : Nat} {xs : List (List Value)} (h : IsRows w (.slice a n cap) sz xs) (hk : k ≤ xs.length) : IsRows w (.slice a k cap) sz (xs.take k):=by
 obtain ⟨a2,c2,he,hl,hc⟩:=h
 obtain ⟨rfl,rfl,rfl⟩ : a = a2 ∧ n = xs.length ∧ cap = c2:=by injection he with h1 h2 h3;exact ⟨h1,h2,h3⟩
 refine ⟨a,cap,by rw [List.length_take,Nat.min_eq_left hk],fun x hx=>hl x (List.mem_of_mem_take hx),fun hne=>?_⟩
 obtain ⟨b,off,ha,hb,hcell⟩:=hc (fun e=>hne (by rw [e];simp))
 refine ⟨b,off,ha,hb,fun i j x hi hj=>hcell i j x ?_ hj⟩
 rw [List.getElem?_take] at hi
 split at hi
 ·exact hi
 ·cases hi
theorem rows_dropN {w : World} {a : Option Addr} {n cap sz l : Nat} {xs : List (List Value)} (h : IsRows w (.slice a n cap) sz xs) (hl : l ≤ xs.length) (hcap : xs.length ≤ cap) : IsRows w (.slice (subA a l cap sz) (n - l) (cap - l)) sz (xs.drop l):=by
 obtain ⟨a2,c2,he,hl2,hc⟩:=h
 obtain ⟨rfl,rfl,rfl⟩ : a = a2 ∧ n = xs.length ∧ cap = c2:=by injection he with h1 h2 h3;exact ⟨h1,h2,h3⟩
 refine ⟨subA a l cap sz,cap - l,by rw [List.length_drop],fun x hx=>hl2 x (List.mem_of_mem_drop hx),fun hne=>?_⟩
 have hlt : l < xs.length:=by
  apply Classical.byContradiction
  intro h
  exact hne (List.drop_of_length_le (by omega))
 obtain ⟨b,off,ha,hb,hcell⟩:=hc (fun e=>hne (by rw [e];simp))
 refine ⟨b,off + l * sz,by rw [subA,if_neg (by omega),ha];show some (Addr.add _ _) = _;rw [Addr.add_lit],hb,fun i j x hi hj=>?_⟩
 rw [List.getElem?_drop] at hi
 have:=hcell (l + i) j x hi hj
 rwa [Nat.add_mul,show off + (l * sz + i * sz) + j = off + l * sz + i * sz + j by omega] at this
theorem own_of_block {w : World} {g n size : Nat} {e : TypeId} {cs : Array Value} (h : w.heap[g]? = some (.cells cs e (0,0))) (hs : cs.size = n * size) (hn : n ≤ maxLen) : w.ownsRow g e size (.slice (some ⟨g,0,none⟩) n n) n cs.toList:=
 ⟨by simpa using hs,.inr ⟨g,n,cs,rfl,Nat.le_refl _,h,Nat.le_refl _,hn,hs,by rw [← hs];exact List.take_of_length_le (by simp)⟩⟩
theorem lol_ownB {q : Nat} {w : World} {b b2 : Nat} {a : Option Addr} {c : Nat} {M : List (Value × List Int)} (oo : w.ownsRow b 25 1 (.slice a M.length c) M.length (M.map (·.1))) (fam : FamT w b2 M) (h1 : q < b) (h2 : q < b2) : ∀ W,Ext [q] w W → LolAt W a M:=fun W e =>
 lol_of_own (owns_ext oo e (by simpa using h1)) (fam_lift fam fun _ _ _ h=>owns_ext h e (by simpa using h2))
theorem lamps_lt {ls : List Int} (h : ∀ i,0 < i → i < ls.length → ls.getD (i - 1) 0 < ls.getD i 0) {i : Nat} : ∀ d,i + d + 1 < ls.length → ls.getD i 0 < ls.getD (i + d + 1) 0
 | 0,hj=>by have:=h (i + 1) (by omega) hj;simpa using this
 | d + 1,hj=>Int.lt_trans (lamps_lt h d (by omega)) (by have:=h (i + (d + 1) + 1) (by omega) hj;rwa [show i + (d + 1) + 1 - 1 = i + d + 1 by omega] at this)
def dropN (ls : List Int) (k : Nat) : List Int:=ls.take k ++ ls.drop (k + 1)
theorem drop_len {ls : List Int} {k : Nat} (hk : k < ls.length) : (dropN ls k).length = ls.length - 1:=by simp [dropN];omega
theorem drop_get {ls : List Int} {k i : Nat} (hk : k < ls.length) : (dropN ls k).getD i 0 = if i < k then ls.getD i 0 else ls.getD (i + 1) 0:=by
 simp only [dropN,List.getD_eq_getElem?_getD,List.getElem?_append,List.length_take,Nat.min_eq_left (Nat.le_of_lt hk),List.getElem?_take,List.getElem?_drop]
 by_cases h : i < k
 ·simp [h]
 ·rw [if_neg h,if_neg h,show k + 1 + (i - k) = i + 1 by omega]
theorem drop_mem {ls : List Int} {k : Nat} {l : Int} (h : l ∈ dropN ls k) : l ∈ ls:=by
 rcases List.mem_append.1 h with h | h
 ·exact List.mem_of_mem_take h
 ·exact List.mem_of_mem_drop h
theorem LmpsOk.drop {x : Vm} {ls : List Int} (h : LmpsOk x ls) {k : Nat} (hk : k < ls.length) (h1 : 1 < ls.length) : LmpsOk x (dropN ls k):=by
 refine ⟨by rw [drop_len hk];omega,fun n hn=>h.2.1 n (drop_mem hn),fun i h0 hi=>?_⟩
 rw [drop_len hk] at hi
 rw [drop_get hk,drop_get hk]
 by_cases a : i < k
 ·rw [if_pos a,if_pos (by omega)];exact h.2.2 i h0 (by omega)
 ·rw [if_neg a]
  by_cases c : i - 1 < k
  ·rw [if_pos c]
   have:=lamps_lt h.2.2 (i:=i - 1) 1 (by omega)
   rwa [show i - 1 + 1 + 1 = i + 1 by omega] at this
  ·rw [if_neg c]
   have:=h.2.2 (i + 1) (by omega) (by omega)
   rwa [show i + 1 - 1 = i - 1 + 1 by omega] at this
def aftV (p : Option Addr × Nat × List (Value × List Int)) : Value:=.slice p.1 p.2.2.length p.2.1
structure AftOk (T : List (List Int)) (w : World) (a : Option Addr) (A : List (Option Addr × Nat × List (Value × List Int))) : Prop where
 out : SlAt [] w a 1 A.length (fun i=>[aftV (A.getD i (none,0,[]))])
 row : ∀ p ∈ A,LolAt w p.1 p.2.2 ∧ p.2.2.length ≤ 300 ∧ (∀ q ∈ p.2.2,q.2.length ≤ 4) ∧ ∀ t ∈ T,t ∈ p.2.2.map (·.2)
theorem AftOk.ext {T : List (List Int)} {w W : World} {a : Option Addr} {A : List (Option Addr × Nat × List (Value × List Int))} (h : AftOk T w a A) (e : Ext [] w W) : AftOk T W a A:=⟨slAt_ext h.out e,fun p hp=>⟨(h.row p hp).1.ext e,(h.row p hp).2⟩⟩
def wideB (L : List (List Int)) : Bool:=(L.take 21).any (fun l=>decide (20 < l.length)) || decide (20 < L.length)
theorem wide_no {L : List (List Int)} (h : wideB L = false) : L.length ≤ 20 ∧ ∀ l ∈ L,l.length ≤ 20:=by
 simp only [wideB,Bool.or_eq_false_iff,decide_eq_false_iff_not] at h
 refine ⟨by omega,fun l hl=>?_⟩
 have:=List.any_eq_false.1 h.1 l (by rw [List.take_of_length_le (by omega)];exact hl)
 simpa using this
theorem wide_some {L : List (List Int)} {i : Nat} (h : i < L.length) (hi : i < 21) (hc : 20 < (L.getD i []).length) : wideB L = true:=by
 rw [wideB,List.any_eq_true.2 ⟨L.getD i [],?_,decide_eq_true hc⟩,Bool.true_or]
 rw [List.getD_eq_getElem?_getD,List.getElem?_eq_getElem h]
 exact List.mem_take_iff_getElem.2 ⟨i,by omega,rfl⟩
theorem wide_end {L : List (List Int)} {i : Nat} (h : ∀ j,j < i → (L.getD j []).length ≤ 20) (hi : L.length ≤ i ∨ 21 ≤ i) : wideB L = decide (20 < L.length):=by
 rw [wideB,List.any_eq_false.2,Bool.false_or]
 intro l hl
 obtain ⟨j,hj,rfl⟩:=List.mem_take_iff_getElem.1 hl
 have:=h j (by omega)
 rw [List.getD_eq_getElem?_getD,List.getElem?_eq_getElem (by omega)] at this
 simpa using this
set_option maxRecDepth 100000 in
theorem wide_any (L : List (Value × List Int)) (a : Option Addr) (c : Nat) (w : World) (h : LolAt w a L) : Calls Try.prog 24 #[.slice a L.length c] w fun e w'=>e = .returned (.bool (wideB (L.map (·.2)))) ∧ Ext [] w w':=by
 have E : Ext [] w w:=Ext.refl _ _
 have HA:=Lib.hid h
 have HS:=Lib.hid h.1
 clear h
 refine calls_has 23 Try.func24 rfl Try.ntmps24 (Nat.le_of_ble_eq_true rfl) ?_
 intro fa F
 refine wp_seq_k fun K1 hK1=>?_
 refine wp_region_lit ?_
 refine F.vl (R_assign rfl (ev_c fa _)) ?_;clear F fa;intro fa F
 refine wpList_nil ?_
 refine hK1 _ _ ?_
 clear hK1
 refine wp_seq_k fun K2 hK2=>?_
 refine wp_seq_k fun K3 hK3=>?_
 refine wp_region_lit ?_
 refine F.vl (R_assign rfl (ev_c fa _)) ?_;clear F fa;intro fa F
 refine wpList_nil ?_
 refine hK3 _ _ ?_
 clear hK3
 refine wp_block ?_
 have F0:=F.sub (.c 0 rfl .n)
 refine lp_for F0 (L.length) (fun i Lv W=>Lv = [(3,.int .i64 ((i : Nat) : Int))] ∧ Ext [] w W ∧ ∀ j,j < i → ((L.map (·.2)).getD j []).length ≤ 20) ⟨_,⟨rfl,E,(fun j h=>by omega)⟩,F.sub (.c 3 rfl (.c 0 rfl .n))⟩ ?_
 clear F F0
 clear E
 rintro i _ fa w1 hi1 ⟨rfl,E,hs⟩ F
 refine wp_seq_k fun K4 hK4=>?_
 refine wp_seq_k fun K5 hK5=>?_
 refine wp_region_lit ?_
 refine F.mv ?_;clear F fa;intro fa F
 refine F.mv ?_;clear F fa;intro fa F
 refine F.vl (R_len rfl rfl (F.at rfl) Try.underlying22) ?_;clear F fa;intro fa F
 refine F.vl (R_lss rfl (F.at rfl) (F.at rfl)) ?_;clear F fa;intro fa F
 refine F.mv ?_;clear F fa;intro fa F
 by_cases hg1 : (((i : Nat) : Int) < ((L.length : Nat) : Int))
 ·skip
  replace F:=F.re (k:=8) rfl (congrArg Value.bool (decide_eq_true hg1))
  refine F.mv ?_ (hw:=(wantT F rfl rfl (by decide) rfl));clear F fa;intro fa F
  refine F.vl (R_lss rfl (F.at rfl) (ev_c fa _)) ?_ (hw:=(wantT F rfl rfl (by decide) rfl));clear F fa;intro fa F
  refine F.vl (R_pickT rfl (F.at rfl) (F.at rfl)) ?_;clear F fa;intro fa F
  refine wpList_nil ?_
  refine hK5 _ _ ?_
  clear hK5
  refine cd_if F rfl (fun hc11=>?_) (fun hc11=>?_)
  ·skip
   refine wp_skip ?_
   refine hK4 _ _ ?_
   clear hK4
   refine wp_seq_k fun K6 hK6=>?_
   refine wp_block ?_
   refine wp_seq_k fun K7 hK7=>?_
   obtain ⟨la,lca,hla,hlr⟩:=HA.out.2 _ (getD_mem (.bool true,[]) (show i < L.length by omega))
   have hkg:=key_getD L (show i < L.length by omega)
   refine wp_region_lit ?_
   refine F.mv ?_;clear F fa;intro fa F
   refine F.mv ?_;clear F fa;intro fa F
   obtain ⟨xb8,xo8,xa8,xr8⟩:=HS.out i (by omega)
   refine F.vl (R_ixSlice (sz:=1) rfl ((F.at rfl).trans (xa8 _ _)) (F.at rfl) Try.underlying22 (by kernel_rfl) (by omega) (by omega)) ?_;clear F fa;intro fa F
   refine F.vl (R_load rfl (F.at rfl) Try.underlying25 rfl (xr8 _ E 0 _ rfl)) ?_;clear F fa;intro fa F
   rw [hla] at F
   refine F.vl (R_len rfl rfl (F.at rfl) Try.underlying25) ?_;clear F fa;intro fa F
   refine F.vl (R_gtr rfl (F.at rfl) (ev_c fa _)) ?_;clear F fa;intro fa F
   refine wpList_nil ?_
   refine hK7 _ _ ?_
   clear hK7
   refine cd_if F rfl (fun hc19=>?_) (fun hc19=>?_)
   ·skip
    refine wp_seq_k fun K9 hK9=>?_
    refine wp_region_lit ?_
    refine F.vl (R_assign rfl (ev_c fa _)) ?_;clear F fa;intro fa F
    refine wpList_nil ?_
    refine hK9 _ _ ?_
    clear hK9
    refine wp_ret ?_
    (try simp only [Exit.inBlock,Exit.then,reduceIte])
    refine rt_v F (rs_1 F rfl rfl) ?_
    exact ⟨ret_bool (wide_some (i:=i) (by rw [List.length_map];omega) (by omega) (by rw [hkg];omega)).symm,E⟩
   ·skip
    refine wp_skip ?_
    refine hK6 _ _ ?_
    clear hK6
    refine wp_region_lit ?_
    refine F.mv ?_;clear F fa;intro fa F
    refine F.vl (R_add rfl (F.at rfl) (ev_c fa _) (by omega) (by omega)) ?_;clear F fa;intro fa F
    refine F.as ?_;clear F fa;intro fa F
    refine wpList_nil ?_
    show _ ∧ _
    exact ⟨by omega,_,⟨rfl,E,(fun j h=>by rcases Nat.lt_succ_iff_lt_or_eq.1 h with h | rfl;(· exact hs j h);(· rw [key_getD L (by omega)];omega))⟩,F.sub (.c 3 rfl (.c 0 rfl .n))⟩
  ·skip
   refine wp_exit ?_
   refine hK2 _ _ ?_
   clear hK2
   refine wp_seq_k fun K10 hK10=>?_
   refine wp_region_lit ?_
   refine F.mv ?_;clear F fa;intro fa F
   refine F.vl (R_len rfl rfl (F.at rfl) Try.underlying22) ?_;clear F fa;intro fa F
   refine F.vl (R_gtr rfl (F.at rfl) (ev_c fa _)) ?_;clear F fa;intro fa F
   refine F.as ?_;clear F fa;intro fa F
   refine wpList_nil ?_
   refine hK10 _ _ ?_
   clear hK10
   refine wp_ret ?_
   (try simp only [Exit.inBlock,Exit.then,reduceIte])
   refine rt_v F (rs_1 F rfl rfl) ?_
   exact ⟨ret_bool (by rw [wide_end hs (by rw [List.length_map];omega),List.length_map];exact decide_eq_decide.2 (by omega)),E⟩
 ·skip
  replace F:=F.re (k:=8) rfl (congrArg Value.bool (decide_eq_false hg1))
  refine sq_no F rfl (by decide) (wantF F rfl rfl (by decide) rfl (by decide)) ?_;clear F fa;intro fa F
  refine sq_no F rfl (by decide) (wantF F rfl rfl (by decide) rfl (by decide)) ?_;clear F fa;intro fa F
  refine F.vl (R_pickF rfl (F.at rfl) (ev_c fa _)) ?_;clear F fa;intro fa F
  refine wpList_nil ?_
  refine hK5 _ _ ?_
  clear hK5
  refine cd_F F rfl ?_
  refine wp_exit ?_
  refine hK2 _ _ ?_
  clear hK2
  refine wp_seq_k fun K11 hK11=>?_
  refine wp_region_lit ?_
  refine F.mv ?_;clear F fa;intro fa F
  refine F.vl (R_len rfl rfl (F.at rfl) Try.underlying22) ?_;clear F fa;intro fa F
  refine F.vl (R_gtr rfl (F.at rfl) (ev_c fa _)) ?_;clear F fa;intro fa F
  refine F.as ?_;clear F fa;intro fa F
  refine wpList_nil ?_
  refine hK11 _ _ ?_
  clear hK11
  refine wp_ret ?_
  (try simp only [Exit.inBlock,Exit.then,reduceIte])
  refine rt_v F (rs_1 F rfl rfl) ?_
  exact ⟨ret_bool (by rw [wide_end hs (by rw [List.length_map];omega),List.length_map];exact decide_eq_decide.2 (by omega)),E⟩
def longV (x : Vm) : Bool:=wideB (x.D.map (·.2)) || wideB (x.L.map (·.2))
theorem longV_no {x : Vm} (h : longV x = false) : (x.D.length ≤ 20 ∧ ∀ p ∈ x.D,p.2.length ≤ 20) ∧ (x.L.length ≤ 20 ∧ ∀ p ∈ x.L,p.2.length ≤ 20):=by
 simp only [longV,Bool.or_eq_false_iff] at h
 have h1:=wide_no h.1
 have h2:=wide_no h.2
 rw [List.length_map] at h1 h2
 exact ⟨⟨h1.1,fun p hp=>h1.2 _ (List.mem_map.2 ⟨p,hp,rfl⟩)⟩,⟨h2.1,fun p hp=>h2.2 _ (List.mem_map.2 ⟨p,hp,rfl⟩)⟩⟩
set_option maxRecDepth 100000 in
theorem long_any (x : Vm) (w : World) (h : x.At w) : Calls Try.prog 11 #[.agg #[.int .i64 x.B,.slice x.da x.D.length x.dc,.slice x.la x.L.length x.lc,.int .i64 x.tol]] w fun e w'=>e = .returned (.bool (longV x)) ∧ Ext [] w w':=by
 have E : Ext [] w w:=Ext.refl _ _
 have HX:=Lib.hid h
 have hl : longV x = (wideB (x.D.map (·.2)) || wideB (x.L.map (·.2))):=rfl
 clear h
 refine calls_has 11 Try.func11 rfl Try.ntmps11 (Nat.le_of_ble_eq_true rfl) ?_
 intro fa F
 refine wp_seq_k fun K1 hK1=>?_
 refine wp_region_lit ?_
 refine sq_new F rfl (by decide) rfl (R_box rfl (F.at rfl)) ?_;clear F fa;intro fa w1 F hw
 obtain ⟨n1,hn⟩ : ∃ n,n = w.heap.size:=⟨_,rfl⟩
 rw [← hn] at F
 have s1 : w.heap.size ≤ n1:=Nat.le_of_eq hn.symm
 have l1_E : w.heap.size ≤ n1:=by rw [hn];exact E.size
 replace E:=ext_alloc E hw
 have q1:=new_row hw hn
 clear hw hn
 refine F.vl (R_assign rfl (ev_c fa _)) ?_;clear F fa;intro fa F
 refine wpList_nil ?_
 refine hK1 _ _ ?_
 clear hK1
 refine wp_seq_k fun K2 hK2=>?_
 by_cases c1 : wideB (x.D.map (·.2)) = true
 ·skip
  refine wp_region_lit ?_
  refine F.vl (R_field rfl (F.at rfl) Try.underlying24 rfl (n:=1) (sz:=1) rfl (by kernel_rfl) (by decide)) ?_;clear F fa;intro fa F
  refine F.vl (R_load rfl (F.at rfl) Try.underlying22 rfl ((cells_of_block q1 1).trans (getS (get0)))) ?_;clear F fa;intro fa F
  refine sq_call F rfl (by decide) rfl (R_callV rfl rfl Try.call24 (mpS (F.at rfl) mp0)) (wide_any x.D _ _ _ (HX.out.d.ext E)) fun e w2 hR=>?_
  obtain ⟨rfl,e9⟩:=hR
  refine ⟨_,rfl,?_⟩;clear F fa;intro fa F
  replace q1:=(e9).keep0 q1
  replace E:=ext_same E (e9)
  clear e9
  rw [c1] at F
  refine F.mv ?_;clear F fa;intro fa F
  refine sq_no F rfl (by decide) (wantF F rfl rfl (by decide) rfl (by decide)) ?_;clear F fa;intro fa F
  refine sq_no F rfl (by decide) (wantF F rfl rfl (by decide) rfl (by decide)) ?_;clear F fa;intro fa F
  refine sq_no F rfl (by decide) (wantF F rfl rfl (by decide) rfl (by decide)) ?_;clear F fa;intro fa F
  refine F.vl (R_pickT rfl (F.at rfl) (ev_c fa _)) ?_;clear F fa;intro fa F
  refine F.as ?_;clear F fa;intro fa F
  refine wpList_nil ?_
  rw [c1,Bool.true_or] at hl
  refine hK2 _ _ ?_
  clear hK2
  refine wp_ret ?_
  (try simp only [Exit.inBlock,Exit.then,reduceIte])
  refine rt_v F (rs_1 F rfl rfl) ?_
  exact ⟨ret_bool hl.symm,E⟩
 ·skip
  refine wp_region_lit ?_
  refine F.vl (R_field rfl (F.at rfl) Try.underlying24 rfl (n:=1) (sz:=1) rfl (by kernel_rfl) (by decide)) ?_;clear F fa;intro fa F
  refine F.vl (R_load rfl (F.at rfl) Try.underlying22 rfl ((cells_of_block q1 1).trans (getS (get0)))) ?_;clear F fa;intro fa F
  refine sq_call F rfl (by decide) rfl (R_callV rfl rfl Try.call24 (mpS (F.at rfl) mp0)) (wide_any x.D _ _ _ (HX.out.d.ext E)) fun e w3 hR=>?_
  obtain ⟨rfl,e9⟩:=hR
  refine ⟨_,rfl,?_⟩;clear F fa;intro fa F
  replace q1:=(e9).keep0 q1
  replace E:=ext_same E (e9)
  clear e9
  rw [Bool.eq_false_iff.2 c1] at F
  refine F.mv ?_;clear F fa;intro fa F
  refine F.vl (R_field rfl (F.at rfl) Try.underlying24 rfl (n:=2) (sz:=1) rfl (by kernel_rfl) (by decide)) ?_ (hw:=(wantT F rfl rfl (by decide) rfl));clear F fa;intro fa F
  refine F.vl (R_load rfl (F.at rfl) Try.underlying22 rfl ((cells_of_block q1 2).trans (getS (getS (get0))))) ?_ (hw:=(wantT F rfl rfl (by decide) rfl));clear F fa;intro fa F
  refine sq_call F rfl (by decide) (wantT F rfl rfl (by decide) rfl) (R_callV rfl rfl Try.call24 (mpS (F.at rfl) mp0)) (wide_any x.L _ _ _ (HX.out.l.ext E)) fun e w4 hR=>?_
  obtain ⟨rfl,e9⟩:=hR
  refine ⟨_,rfl,?_⟩;clear F fa;intro fa F
  replace q1:=(e9).keep0 q1
  replace E:=ext_same E (e9)
  clear e9
  refine F.vl (R_pickF rfl (F.at rfl) (F.at rfl)) ?_;clear F fa;intro fa F
  refine F.as ?_;clear F fa;intro fa F
  refine wpList_nil ?_
  rw [Bool.eq_false_iff.2 c1,Bool.false_or] at hl
  refine hK2 _ _ ?_
  clear hK2
  refine wp_ret ?_
  (try simp only [Exit.inBlock,Exit.then,reduceIte])
  refine rt_v F (rs_1 F rfl rfl) ?_
  exact ⟨ret_bool hl.symm,E⟩
def CopyOPost (x : Vm) (w : World) (e : Ending) (w' : World) : Prop:=∃ y : Vm,e = .returned (.agg #[.int .i64 y.B,.slice y.da y.D.length y.dc,.slice y.la y.L.length y.lc,.int .i64 y.tol]) ∧ y.B = x.B ∧ y.tol = x.tol ∧ y.D.map (·.2) = x.D.map (·.2) ∧ y.L.map (·.2) = x.L.map (·.2) ∧
 w'.ownsRow w.heap.size 25 1 (.slice y.da y.D.length y.dc) y.D.length (y.D.map (·.1)) ∧ FamT w' w.heap.size y.D ∧ w'.ownsRow w.heap.size 25 1 (.slice y.la y.L.length y.lc) y.L.length (y.L.map (·.1)) ∧ FamT w' w.heap.size y.L ∧ ((Value.slice y.la y.L.length y.lc).ownBlock = none ∨ (Value.slice y.la y.L.length y.lc).ownBlock ≠ (Value.slice y.da y.D.length y.dc).ownBlock) ∧ Ext [] w w'
set_option maxRecDepth 100000 in
set_option maxHeartbeats 1000000 in
theorem copyVat_own (x : Vm) (w : World) (hx : x.At w) (sd : SmallL x.D) (sl : SmallL x.L) :
  Calls Try.prog 18 #[.agg #[.int .i64 x.B,.slice x.da x.D.length x.dc,.slice x.la x.L.length x.lc,.int .i64 x.tol]] w (CopyOPost x w):=by
 have E : Ext [] w w:=Ext.refl _ _
 have HX:=Lib.hid hx
 have SD:=Lib.hid sd
 have SL:=Lib.hid sl
 clear hx sd sl
 refine calls_has 12 Try.func18 rfl Try.ntmps18 (Nat.le_of_ble_eq_true rfl) ?_
 intro fa F
 refine wp_seq_k fun K1 hK1=>?_
 refine wp_region_lit ?_
 refine sq_new F rfl (by decide) rfl (R_box rfl (F.at rfl)) ?_;clear F fa;intro fa w1 F hw
 obtain ⟨n1,hn⟩ : ∃ n,n = w.heap.size:=⟨_,rfl⟩
 rw [← hn] at F
 have s1 : w.heap.size ≤ n1:=Nat.le_of_eq hn.symm
 have l1_E : w.heap.size ≤ n1:=by rw [hn];exact E.size
 replace E:=ext_alloc E hw
 have q1:=new_row hw hn
 clear hw hn
 refine sq_new F rfl (by decide) rfl (R_alloc rfl Try.zeroValue24) ?_;clear F fa;intro fa w2 F hw
 obtain ⟨n2,hn⟩ : ∃ n,n = w1.heap.size:=⟨_,rfl⟩
 rw [← hn] at F
 have s2 : w1.heap.size ≤ n2:=Nat.le_of_eq hn.symm
 have l2_E : w.heap.size ≤ n2:=by rw [hn];exact E.size
 have m2_1 : n1 < n2:=by rw [hn];exact blk_lt q1
 replace q1:=keep_alloc hw q1
 replace E:=ext_alloc E hw
 have q2:=new_row hw hn
 clear hw hn
 refine wpList_nil ?_
 refine hK1 _ _ ?_
 clear hK1
 refine wp_seq_k fun K2 hK2=>?_
 refine region_x (Ext [] w2) (some 7) follows fun w3 hh eh=>?_
 have q1_:=q1
 replace q1:=keep_same hh q1
 have q2_:=q2
 replace q2:=keep_same hh q2
 have E_:=E
 have zEw3:=E.size
 replace E:=ext_same E eh
 have eT:=eh
 clear hh eh
 refine F.x (i:=0) rfl (fun w'=>R_field rfl (F.at rfl) Try.underlying24 rfl (n:=1) (sz:=1) rfl (by kernel_rfl) (by decide)) (fun _=>eT) ?_;clear F fa;intro fa F
 refine F.xr (i:=1) rfl (fun w' hS=>R_load rfl (F.at rfl) Try.underlying22 rfl ((cells_of_block (hS.keep q1_ (by simp)) 1).trans (getS (get0)))) (fun _=>eT) ?_;clear F fa;intro fa F
 refine F.x (i:=3) rfl (fun w'=>R_field rfl (F.at rfl) Try.underlying24 rfl (n:=2) (sz:=1) rfl (by kernel_rfl) (by decide)) (fun _=>eT) ?_;clear F fa;intro fa F
 refine F.xr (i:=4) rfl (fun w' hS=>R_load rfl (F.at rfl) Try.underlying22 rfl ((cells_of_block (hS.keep q1_ (by simp)) 2).trans (getS (getS (get0))))) (fun _=>eT) ?_;clear F fa;intro fa F
 have hle:=E.size
 refine ax_only (i:=2) (by kernel_rfl) (op_call F rfl rfl (by decide) rfl (R_callV rfl rfl Try.call27 (mpS (F.at rfl) mp0)) (copyLists_any x.D SD.out.1 SD.out.2 _ _ _ (HX.out.d.ext E)) fun e w4 hR=>?_)
 obtain ⟨M,ma,mc,rfl,hM,oo1,fam1,eM⟩:=hR
 refine ⟨_,rfl,?_⟩;clear F fa;intro fa F
 replace q1:=(eM).keep0 q1
 replace q2:=(eM).keep0 q2
 replace E:=ext_same E (eM)
 replace eT:=ext_same eT (eM)
 refine ⟨fun _=>eT,?_⟩
 replace oo1:=owns_lower (base':=w.heap.size) oo1 hle
 replace fam1:=fam_lower fam1 hle
 refine F.x (i:=6) rfl (fun w'=>R_field rfl (F.at rfl) Try.underlying24 rfl (n:=1) (sz:=1) rfl (by kernel_rfl) (by decide)) (fun _=>eT) ?_;clear F fa;intro fa F
 have hle2:=E.size
 have hol:=Lib.hid (fun b e=>(oo1.lt b e).2)
 obtain ⟨B0,hB0⟩ : ∃ B0,B0 = w4.heap.size:=⟨_,rfl⟩
 rw [← hB0] at hol
 refine ax_only (i:=5) (by kernel_rfl) (op_call F rfl rfl (by decide) rfl (R_callV rfl rfl Try.call27 (mpS (F.at rfl) mp0)) (copyLists_any x.L SL.out.1 SL.out.2 _ _ _ (HX.out.l.ext E)) fun e w5 hR=>?_)
 obtain ⟨K,ka,kc,rfl,hK,oo2,fam2,eK⟩:=hR
 refine ⟨_,rfl,?_⟩;clear F fa;intro fa F
 replace oo1:=owns_ext oo1 (eK) (by simp)
 replace fam1:=fam_lift fam1 fun _ _ _ h=>owns_ext h (eK) (by simp)
 replace q1:=(eK).keep0 q1
 replace q2:=(eK).keep0 q2
 replace E:=ext_same E (eK)
 replace eT:=ext_same eT (eK)
 refine ⟨fun _=>eT,?_⟩
 rw [← hB0] at oo2
 have hap : RowKit.Hid ((Value.slice ka K.length kc).ownBlock = none ∨ (Value.slice ka K.length kc).ownBlock ≠ (Value.slice ma M.length mc).ownBlock):=Lib.hid (by cases hb : (Value.slice ka K.length kc).ownBlock with | none=>exact .inl rfl | some b=>exact .inr (fun e=>by have h1:=(oo2.lt b hb).1;have h2:=hol.out b e.symm;omega))
 rw [hB0] at oo2
 replace oo2:=owns_lower (base':=w.heap.size) oo2 hle2
 replace fam2:=fam_lower fam2 hle2
 refine ax_only (i:=7) (by kernel_rfl) (op_to rfl rfl rfl (R_store rfl (F.at rfl) (F.at rfl) rfl (by kernel_rfl) ((cells_of_block q1 1).trans (getS (get0))) (free_of_block q1 1)) ?_);intro w6 hw
 replace oo1:=owns_cellX hw oo1 (own_ne_type oo1 q1 (by decide))
 replace fam1:=fam_lift fam1 fun _ _ _ h=>owns_cellX hw h (own_ne_type h q1 (by decide))
 replace oo2:=owns_cellX hw oo2 (own_ne_type oo2 q1 (by decide))
 replace fam2:=fam_lift fam2 fun _ _ _ h=>owns_cellX hw h (own_ne_type h q1 (by decide))
 replace q1:=put_cell hw q1 (by simp only [List.setIfInBounds_toArray,lsQ,lzQ];exact rfl)
 replace q2:=keep_cell hw q2 (by omega)
 replace E:=ext_cell E hw (fun h=>by first | exact absurd h (by omega) | simp)
 clear hw
 refine ⟨gone (by kernel_rfl),?_⟩
 refine F.x (i:=8) rfl (fun w'=>R_field rfl (F.at rfl) Try.underlying24 rfl (n:=2) (sz:=1) rfl (by kernel_rfl) (by decide)) (gone (by kernel_rfl)) ?_;clear F fa;intro fa F
 refine ax_only (i:=9) (by kernel_rfl) (op_to rfl rfl rfl (R_store rfl (F.at rfl) (F.at rfl) rfl (by kernel_rfl) ((cells_of_block q1 2).trans (getS (getS (get0)))) (free_of_block q1 2)) ?_);intro w7 hw
 replace oo1:=owns_cellX hw oo1 (own_ne_type oo1 q1 (by decide))
 replace fam1:=fam_lift fam1 fun _ _ _ h=>owns_cellX hw h (own_ne_type h q1 (by decide))
 replace oo2:=owns_cellX hw oo2 (own_ne_type oo2 q1 (by decide))
 replace fam2:=fam_lift fam2 fun _ _ _ h=>owns_cellX hw h (own_ne_type h q1 (by decide))
 replace q1:=put_cell hw q1 (by simp only [List.setIfInBounds_toArray,lsQ,lzQ];exact rfl)
 replace q2:=keep_cell hw q2 (by omega)
 replace E:=ext_cell E hw (fun h=>by first | exact absurd h (by omega) | simp)
 clear hw
 refine ⟨gone (by kernel_rfl),?_⟩
 refine ax_done (by kernel_rfl) ?_ _
 clear eT q1_ q2_ E_
 refine hK2 _ _ ?_
 clear hK2
 refine wp_seq_k fun K3 hK3=>?_
 refine wp_region_lit ?_
 refine F.vl (R_loadBlk rfl (F.at rfl) Try.underlying24 rfl (by kernel_rfl) q1) ?_;clear F fa;intro fa F
 refine sq_to rfl rfl (R_storeRow rfl (F.at rfl) (F.at rfl) (by kernel_rfl) (by first | (simp [Value.oneCell'];done) | (simp [Value.oneCell',id];done)) q2 rfl) ?_;intro w8 hw
 replace oo1:=owns_cellsX hw oo1 (own_ne_type oo1 q2 (by decide))
 replace fam1:=fam_lift fam1 fun _ _ _ h=>owns_cellsX hw h (own_ne_type h q2 (by decide))
 replace oo2:=owns_cellsX hw oo2 (own_ne_type oo2 q2 (by decide))
 replace fam2:=fam_lift fam2 fun _ _ _ h=>owns_cellsX hw h (own_ne_type h q2 (by decide))
 replace q1:=keep_cells hw q1 (by omega)
 replace q2:=put_row hw q2 rfl
 replace E:=ext_cells E hw (fun h=>by first | exact absurd h (by omega) | simp)
 clear hw
 refine wpList_nil ?_
 refine hK3 _ _ ?_
 clear hK3
 refine wp_ret ?_
 (try simp only [Exit.inBlock,Exit.then,reduceIte])
 refine rt_v F (rs_c F rfl rfl Try.underlying24 rfl (by kernel_rfl) q2) ?_
 exact ⟨⟨x.B,M,ma,mc,K,ka,kc,x.tol⟩,rfl,rfl,rfl,hM,hK,oo1,fam1,oo2,fam2,hap.out,E⟩
end Go.Proofs.Ytdjeecgddbjbeaa
