/- Parts of a proof: Dvc, Dvd, Dve, Dvf, Dvg. No conditions. -/
import Derived.Test.YtdjeecgddbjbeaaGreatKr4
set_option linter.unusedVariables false
set_option linter.unusedSimpArgs false
namespace Go.Proofs.YtdjeecgddbjbeaaGreat
open Go.RowKit
theorem slAt_of_ivs {w : World} {base n c : Nat} {a : Option Addr} {xs : List Int} (h : w.ownsRow base 3 1 (.slice a n c) n (ivs xs)) (hn : n = xs.length) (X : List Nat) (hX : ∀ b ∈ X,b < base) : SlAt X w a 1 xs.length (fun i=>[.int .i64 (xs.getD i 0)]):=by
 rw [ivs_flat] at h
 exact slAt_of_owns h hn (fun _=>rfl) X hX 0
theorem ivs_lenZ (xs : List Int) : (ivs xs).length = xs.length:=by simp [ivs]
theorem ivs_setZ (xs : List Int) (i : Nat) (v : Int) : (ivs xs).set i (.int .i64 v) = ivs (xs.set i v):=by simp [ivs,List.map_set]
def TubS (f : Nat → Int) : Prop:=∀ k,k < 4 → 0 ≤ f k ∧ f k ≤ 6
theorem TubS.ok {f : Nat → Int} (h : TubS f) : TubOk f:=fun k hk=>by have:=h k hk;omega
def tonE (x : Vm) (f : Nat → Int) (j d : Nat) : Int:=sumTo (fun d=>f d * val (x.dye d) j) d
def sumR (x : Vm) (f : Nat → Int) (bn d i : Nat) : List Int:=(List.range bn).map fun j=>tonE x f j (if j < i then d + 1 else d)
def sumL (x : Vm) (f : Nat → Int) (bn : Nat) : List Int:=(List.range bn).map fun j=>tonE x f j x.D.length
theorem sumR_len (x : Vm) (f : Nat → Int) (bn d i : Nat) : (sumR x f bn d i).length = bn:=by simp [sumR]
theorem sumR_zero (x : Vm) (f : Nat → Int) (bn : Nat) : ivs (sumR x f bn 0 0) = List.replicate bn (.int .i64 0):=by
 rw [sumR,ivs,List.map_map,List.eq_replicate_iff]
 refine ⟨by simp,fun b hb=>?_⟩
 obtain ⟨j,-,rfl⟩:=List.mem_map.1 hb
 simp [tonE,sumTo]
theorem sumR_get (x : Vm) (f : Nat → Int) {bn i : Nat} (d : Nat) (h : i < bn) : (sumR x f bn d i).getD i 0 = tonE x f i d:=by simp [sumR,h]
theorem sumR_set (x : Vm) (f : Nat → Int) {bn i : Nat} (d : Nat) (h : i < bn) : (sumR x f bn d i).set i (tonE x f i (d + 1)) = sumR x f bn d (i + 1):=by
 refine List.ext_getElem (by simp [sumR]) fun j h1 h2=>?_
 rw [List.getElem_set]
 by_cases e : i = j
 ·subst e
  simp [sumR]
 ·rw [if_neg e]
  simp only [sumR,List.getElem_map,List.getElem_range]
  congr 1
  by_cases e2 : j < i
  ·rw [if_pos e2,if_pos (by omega)]
  ·rw [if_neg e2,if_neg (by omega)]
theorem sumR_next (x : Vm) (f : Nat → Int) (bn d : Nat) : sumR x f bn d bn = sumR x f bn (d + 1) 0:=by
 refine List.map_congr_left fun j hj=>?_
 rw [if_pos (by simpa using hj),if_neg (by omega)]
theorem sumR_end (x : Vm) (f : Nat → Int) (bn : Nat) : sumR x f bn x.D.length 0 = sumL x f bn:=by
 refine List.map_congr_left fun j hj=>?_
 rw [if_neg (by omega)]
theorem dye_bd {x : Vm} (hv : VOk x) {d : Nat} (hd : d < x.D.length) (j : Nat) : 0 ≤ val (x.dye d) j ∧ val (x.dye d) j ≤ 9:=by
 obtain ⟨-,h⟩:=hv.dl _ (getD_mem (.bool true,[]) hd)
 by_cases hj : j < (x.dye d).length
 ·exact h _ (getD_mem 0 hj)
 ·rw [val,List.getD_eq_getElem?_getD,List.getElem?_eq_none (by omega)];simp
theorem tonE_bd {x : Vm} (hv : VOk x) {f : Nat → Int} (hf : TubS f) (j : Nat) {d : Nat} (hd : d ≤ x.D.length) : 0 ≤ tonE x f j d ∧ tonE x f j d ≤ 60 * d:=by
 have:=sumTo_bd (f:=fun d=>f d * val (x.dye d) j) (a:=0) (b:=60) (n:=d) fun k hk=>?_
 ·rw [tonE];omega
 ·have h4:=hv.d4
  obtain ⟨h1,h2⟩:=hf k (by omega)
  obtain ⟨h3,h5⟩:=dye_bd hv (d:=k) (by omega) j
  refine ⟨Int.mul_nonneg h1 h3,?_⟩
  have : f k * val (x.dye k) j ≤ 6 * val (x.dye k) j:=Int.mul_le_mul_of_nonneg_right h2 h3
  show f k * val (x.dye k) j ≤ 60
  omega
theorem sumL_bd {x : Vm} (hv : VOk x) {f : Nat → Int} (hf : TubS f) (bn : Nat) : ∀ n ∈ sumL x f bn,0 ≤ n ∧ n ≤ 240:=by
 intro n hn
 obtain ⟨j,-,rfl⟩:=List.mem_map.1 hn
 have:=tonE_bd hv hf j (Nat.le_refl x.D.length)
 have:=hv.d4
 omega
set_option maxRecDepth 100000 in
set_option maxHeartbeats 1000000 in
theorem sums_ok (x : Vm) (hv : VOk x) (bn : Nat) (hbn : x.B = bn) (f : Nat → Int) (hf : TubS f) (w : World) (h : x.At w) :
  Calls Tryz.prog 63 #[.agg #[.int .i64 x.B,.slice x.da x.D.length x.dc,.slice x.la x.L.length x.lc,.int .i64 x.tol],.agg (tubC f)] w fun e w'=>∃ a,e = .returned (.slice a bn bn) ∧ w'.ownsRow w.heap.size 3 1 (.slice a bn bn) bn (ivs (sumL x f bn)) ∧ Ext [] w w':=by
 have E : Ext [] w w:=Ext.refl _ _
 have HX:=Lib.hid h
 have HD:=Lib.hid h.d.1
 have HV:=Lib.hid hv
 have HF:=Lib.hid hf
 have hd4:=hv.d4
 have hb1:=hv.b1
 have hb3:=hv.b3
 clear h hv hf
 refine calls_has 44 Tryz.func63 rfl Tryz.ntmps63 (Nat.le_of_ble_eq_true rfl) ?_
 intro fa F
 refine wp_seq_k fun K1 hK1=>?_
 refine wp_region_lit ?_
 refine sq_new F rfl (by decide) rfl (R_box rfl (F.at rfl)) ?_;clear F fa;intro fa w1 F hw
 obtain ⟨n2,hn⟩ : ∃ n,n = w.heap.size:=⟨_,rfl⟩
 rw [← hn] at F
 have s2 : w.heap.size ≤ n2:=Nat.le_of_eq hn.symm
 have l2_E : w.heap.size ≤ n2:=by rw [hn];exact E.size
 replace E:=ext_alloc E hw
 have q2:=new_row hw hn
 clear hw hn
 refine sq_new F rfl (by decide) rfl (R_box rfl (F.at rfl)) ?_;clear F fa;intro fa w2 F hw
 obtain ⟨n3,hn⟩ : ∃ n,n = w1.heap.size:=⟨_,rfl⟩
 rw [← hn] at F
 have s3 : w1.heap.size ≤ n3:=Nat.le_of_eq hn.symm
 have l3_E : w.heap.size ≤ n3:=by rw [hn];exact E.size
 have m3_2 : n2 < n3:=by rw [hn];exact blk_lt q2
 replace q2:=keep_alloc hw q2
 replace E:=ext_alloc E hw
 have q3:=new_row hw hn
 clear hw hn
 refine F.vl (R_assign rfl (ev_c fa _)) ?_;clear F fa;intro fa F
 refine wpList_nil ?_
 refine hK1 _ _ ?_
 clear hK1
 refine wp_seq_k fun K2 hK2=>?_
 refine wp_region_lit ?_
 refine F.vl (R_field rfl (F.at rfl) Tryz.underlying69 rfl (n:=0) (sz:=4) rfl (by kernel_rfl) (by decide)) ?_;clear F fa;intro fa F
 refine F.vl (R_field rfl (F.at rfl) Tryz.underlying24 rfl (n:=0) (sz:=1) rfl (by kernel_rfl) (by decide)) ?_;clear F fa;intro fa F
 refine F.vl (R_load rfl (F.at rfl) Tryz.underlying3 rfl ((cells_of_block q2 0).trans (get0))) ?_;clear F fa;intro fa F
 rw [hbn] at F
 have hEs:=E.size
 refine sq_some F rfl (by decide) rfl (make_run rfl (w.heap.size) (e:=3) (bytes:=8) (z:=.int .i64 0) Tryz.underlying25 (by kernel_rfl) rfl (F.at rfl) (F.at rfl) (n:=bn) (by omega) (by decide) (by omega)) ?_;clear F fa;rintro fa v' w3 F ⟨oo,hg,rfl⟩
 obtain ⟨n13,hn⟩ : ∃ n,n = w2.heap.size:=⟨_,rfl⟩
 rw [← hn] at F oo
 have s13 : w2.heap.size ≤ n13:=Nat.le_of_eq hn.symm
 replace q2:=keep_none hg q2
 replace q3:=keep_none hg q3
 replace E:=ext_none E hg
 clear hg hn
 rw [← sumR_zero x f bn] at oo
 refine F.as ?_;clear F fa;intro fa F
 refine wpList_nil ?_
 refine hK2 _ _ ?_
 clear hK2
 refine wp_seq_k fun K3 hK3=>?_
 refine wp_seq_k fun K4 hK4=>?_
 refine wp_region_lit ?_
 refine F.vl (R_field rfl (F.at rfl) Tryz.underlying69 rfl (n:=0) (sz:=4) rfl (by kernel_rfl) (by decide)) ?_;clear F fa;intro fa F
 refine F.vl (R_field rfl (F.at rfl) Tryz.underlying24 rfl (n:=1) (sz:=1) rfl (by kernel_rfl) (by decide)) ?_;clear F fa;intro fa F
 refine F.vl (R_load rfl (F.at rfl) Tryz.underlying22 rfl ((cells_of_block q2 1).trans (getS (get0)))) ?_;clear F fa;intro fa F
 refine F.vl (R_len rfl rfl (F.at rfl) Tryz.underlying22) ?_;clear F fa;intro fa F
 refine F.vl (R_move rfl (ev_c fa _)) ?_;clear F fa;intro fa F
 refine wpList_nil ?_
 refine hK4 _ _ ?_
 clear hK4
 refine wp_block ?_
 have F0:=F.sub (.c 3 rfl (.c 5 rfl (.c 16 rfl (.c 17 rfl .n))))
 refine lp_for F0 (x.D.length) (fun d Lv W=>Lv = [(18,.int .i64 ((d : Nat) : Int))] ∧ Ext [] w W ∧ W.heap[n2]? = some (.cells #[.int .i64 x.B,.slice x.da x.D.length x.dc,.slice x.la x.L.length x.lc,.int .i64 x.tol] 69 (0,0)) ∧ W.heap[n3]? = some (.cells (tubC f) 75 (0,0)) ∧ W.ownsRow w.heap.size 3 1 (.slice (some ⟨n13,0,none⟩) bn bn) bn (ivs (sumR x f bn d 0))) ⟨_,⟨rfl,E,q2,q3,oo⟩,F.sub (.c 18 rfl (.c 3 rfl (.c 5 rfl (.c 16 rfl (.c 17 rfl .n)))))⟩ ?_
 clear F F0
 clear E q2 q3
 clear oo
 rintro d _ fa w4 hi1 ⟨rfl,E,q2,q3,oo⟩ F
 refine wp_seq_k fun K5 hK5=>?_
 refine wp_region_lit ?_
 refine F.vl (R_lss rfl (F.at rfl) (F.at rfl)) ?_;clear F fa;intro fa F
 refine wpList_nil ?_
 refine hK5 _ _ ?_
 clear hK5
 refine wp_seq_k fun K6 hK6=>?_
 refine cd_if F rfl (fun hc19=>?_) (fun hc19=>?_)
 ·skip
  refine wp_skip ?_
  refine hK6 _ _ ?_
  clear hK6
  refine wp_seq_k fun K7 hK7=>?_
  refine wp_block ?_
  refine wp_seq_k fun K8 hK8=>?_
  obtain ⟨la,lca,hla,hlr⟩:=HX.out.d.2 _ (getD_mem (.bool true,[]) (show d < x.D.length by omega))
  have hlen:=(HV.out.dl _ (getD_mem (.bool true,[]) (show d < x.D.length by omega))).1
  have hlb : (x.D.getD d (.bool true,[])).2.length = bn:=by omega
  have HLR:=Lib.hid (slAt_of_rows hlr 0)
  refine wp_region_lit ?_
  refine F.mv ?_;clear F fa;intro fa F
  obtain ⟨xb9,xo9,xa9,xr9⟩:=HD.out d (by omega)
  refine F.vl (R_ixSlice (sz:=1) rfl ((F.at rfl).trans (xa9 _ _)) (F.at rfl) Tryz.underlying22 (by kernel_rfl) (by omega) (by omega)) ?_;clear F fa;intro fa F
  refine F.vl (R_load rfl (F.at rfl) Tryz.underlying25 rfl (xr9 _ E 0 _ rfl)) ?_;clear F fa;intro fa F
  rw [hla] at F
  refine F.as ?_;clear F fa;intro fa F
  refine F.as ?_;clear F fa;intro fa F
  refine wpList_nil ?_
  refine hK8 _ _ ?_
  clear hK8
  refine wp_seq_k fun K10 hK10=>?_
  refine wp_region_lit ?_
  refine F.mv ?_;clear F fa;intro fa F
  refine F.vl (R_len rfl rfl (F.at rfl) Tryz.underlying25) ?_;clear F fa;intro fa F
  refine F.vl (R_move rfl (ev_c fa _)) ?_;clear F fa;intro fa F
  refine wpList_nil ?_
  refine hK10 _ _ ?_
  clear hK10
  refine wp_block ?_
  have F0:=F.sub (.c 3 rfl (.c 5 rfl (.c 6 rfl (.c 16 rfl (.c 17 rfl (.c 18 rfl (.c 23 rfl (.c 24 rfl .n))))))))
  refine lp_for F0 (bn) (fun i Lv W=>Lv = [(25,.int .i64 ((i : Nat) : Int))] ∧ Ext [] w W ∧ W.heap[n2]? = some (.cells #[.int .i64 x.B,.slice x.da x.D.length x.dc,.slice x.la x.L.length x.lc,.int .i64 x.tol] 69 (0,0)) ∧ W.heap[n3]? = some (.cells (tubC f) 75 (0,0)) ∧ W.ownsRow w.heap.size 3 1 (.slice (some ⟨n13,0,none⟩) bn bn) bn (ivs (sumR x f bn d i))) ⟨_,⟨rfl,E,q2,q3,oo⟩,F.sub (.c 25 rfl (.c 3 rfl (.c 5 rfl (.c 6 rfl (.c 16 rfl (.c 17 rfl (.c 18 rfl (.c 23 rfl (.c 24 rfl .n)))))))))⟩ ?_
  clear F F0
  clear E q2 q3
  clear oo
  rintro i _ fa w5 hi2 ⟨rfl,E,q2,q3,oo⟩ F
  refine wp_seq_k fun K11 hK11=>?_
  refine wp_region_lit ?_
  refine F.vl (R_lss rfl (F.at rfl) (F.at rfl)) ?_;clear F fa;intro fa F
  refine wpList_nil ?_
  refine hK11 _ _ ?_
  clear hK11
  refine wp_seq_k fun K12 hK12=>?_
  refine cd_if F rfl (fun hc26=>?_) (fun hc26=>?_)
  ·skip
   refine wp_skip ?_
   refine hK12 _ _ ?_
   clear hK12
   refine wp_seq_k fun K13 hK13=>?_
   refine wp_block ?_
   refine wp_seq_k fun K14 hK14=>?_
   refine wp_region_lit ?_
   refine F.mv ?_;clear F fa;intro fa F
   obtain ⟨xb15,xo15,xa15,xr15⟩:=HLR.out i (by omega)
   refine F.vl (R_ixSlice (sz:=1) rfl ((F.at rfl).trans (xa15 _ _)) (F.at rfl) Tryz.underlying25 (by kernel_rfl) (by omega) (by omega)) ?_;clear F fa;intro fa F
   refine F.vl (R_load rfl (F.at rfl) Tryz.underlying3 rfl (xr15 _ E 0 _ rfl)) ?_;clear F fa;intro fa F
   refine F.as ?_;clear F fa;intro fa F
   refine F.as ?_;clear F fa;intro fa F
   refine wpList_nil ?_
   refine hK14 _ _ ?_
   clear hK14
   have hml:=sumR_len x f bn d i
   have hmk:=sumR_get x f d (show i < bn by omega)
   have hst:=sumR_set x f d (show i < bn by omega)
   have EX : Ext [] w5 w5:=Ext.refl _ _
   have HS:=Lib.hid (slAt_of_ivs oo hml.symm [] (by simp))
   have hil:=ivs_lenZ (sumR x f bn d i)
   obtain ⟨hf0,hf1⟩:=HF.out d (by omega)
   obtain ⟨hg0,hg1⟩:=dye_bd HV.out (show d < x.D.length by omega) i
   simp only [val,Vm.dye] at hg0 hg1
   obtain ⟨hp0,hp1⟩:=mul_bd hf0 (by omega) hg0 (by omega)
   obtain ⟨ht0,ht1⟩:=tonE_bd HV.out HF.out i (show d ≤ x.D.length by omega)
   refine wp_region_st 11 follows (by kernel_rfl) fun w6 hh eh=>?_
   replace q2:=keep_same hh q2
   replace q3:=keep_same hh q3
   replace E:=ext_same E eh
   replace EX:=ext_same EX eh
   replace oo:=owns_same hh oo
   clear hh eh
   refine F.smv ?_;clear F fa;intro fa F
   refine F.smv ?_;clear F fa;intro fa F
   obtain ⟨xb16,xo16,xa16,xr16⟩:=HS.out i (by omega)
   refine F.sv (R_ixSlice (sz:=1) rfl ((F.at rfl).trans (xa16 _ _)) (F.at rfl) Tryz.underlying25 (by kernel_rfl) (by omega) (by omega)) ?_;clear F fa;intro fa F
   refine F.sv (R_load rfl (F.at rfl) Tryz.underlying3 rfl (xr16 _ EX 0 _ rfl)) ?_;clear F fa;intro fa F
   refine F.smv ?_;clear F fa;intro fa F
   refine F.sv (R_ixArr (n:=4) (sz:=1) rfl (F.at rfl) (F.at rfl) Tryz.underlying75 (by kernel_rfl) (by omega) (by omega)) ?_;clear F fa;intro fa F
   refine F.sv (R_load rfl (F.at rfl) Tryz.underlying3 rfl (tub_at q3 (k:=d) rfl (by omega))) ?_;clear F fa;intro fa F
   refine F.smv ?_;clear F fa;intro fa F
   refine F.sv (R_mul rfl (F.at rfl) (F.at rfl) (by omega) (by omega)) ?_;clear F fa;intro fa F
   refine F.sv (R_add rfl (F.at rfl) (F.at rfl) (by omega) (by omega)) ?_;clear F fa;intro fa F
   obtain ⟨xb17,xo17,xa17,xr17⟩:=HS.out i (by omega)
   refine F.sv (R_ixSlice (sz:=1) rfl ((F.at rfl).trans (xa17 _ _)) (F.at rfl) Tryz.underlying25 (by kernel_rfl) (by omega) (by omega)) ?_;clear F fa;intro fa F
   refine wpStill_nil ?_
   obtain ⟨⟨u0,hcu⟩,hfu,hst⟩:=owns_at oo xa17 (j:=i) (p:=xo17 + ((i : Nat) : Int).toNat * 1) (by first | omega | (simp;omega)) (by omega)
   refine sq_to rfl rfl (R_store rfl (F.at rfl) (F.at rfl) rfl (by kernel_rfl) hcu hfu) ?_;intro w7 hw
   obtain ⟨hown',hg⟩:=hst _ _ hw
   clear hst hcu hfu hw
   replace q2:=keep_type oo hg q2 (by decide)
   replace q3:=keep_type oo hg q3 (by decide)
   replace E:=ext_appendX E oo hg (by omega)
   replace oo:=hown'
   clear hg
   rw [ivs_setZ,hmk,show tonE x f i d + f d * (x.D.getD d (.bool true,[])).2.getD i 0 = tonE x f i (d + 1) from rfl,hst] at oo
   refine wpList_nil ?_
   refine hK13 _ _ ?_
   clear hK13
   refine wp_region_lit ?_
   refine F.vl (R_add rfl (F.at rfl) (ev_c fa _) (by omega) (by omega)) ?_;clear F fa;intro fa F
   refine F.mv ?_;clear F fa;intro fa F
   refine wpList_nil ?_
   show _ ∧ _
   exact ⟨by omega,_,⟨rfl,E,q2,q3,oo⟩,F.sub (.c 25 rfl (.c 3 rfl (.c 5 rfl (.c 6 rfl (.c 16 rfl (.c 17 rfl (.c 18 rfl (.c 23 rfl (.c 24 rfl .n)))))))))⟩
  ·skip
   refine wp_exit ?_
   rw [show i = bn by omega,sumR_next] at oo
   refine hK7 _ _ ?_
   clear hK7
   refine wp_region_lit ?_
   refine F.vl (R_add rfl (F.at rfl) (ev_c fa _) (by omega) (by omega)) ?_;clear F fa;intro fa F
   refine F.mv ?_;clear F fa;intro fa F
   refine wpList_nil ?_
   show _ ∧ _
   exact ⟨by omega,_,⟨rfl,E,q2,q3,oo⟩,F.sub (.c 18 rfl (.c 3 rfl (.c 5 rfl (.c 16 rfl (.c 17 rfl .n)))))⟩
 ·skip
  refine wp_exit ?_
  rw [show d = x.D.length by omega,sumR_end] at oo
  refine hK3 _ _ ?_
  clear hK3
  refine wp_seq_k fun K18 hK18=>?_
  refine wp_region_lit ?_
  refine F.mv ?_;clear F fa;intro fa F
  refine F.as ?_;clear F fa;intro fa F
  refine wpList_nil ?_
  refine hK18 _ _ ?_
  clear hK18
  refine wp_ret ?_
  (try simp only [Exit.inBlock,Exit.then,reduceIte])
  refine rt_v F (rs_1 F rfl rfl) ?_
  exact ⟨_,rfl,oo,E⟩
section
variable {P : Program} {ρ : Operand → Value} {o : Oper} {w : World}
theorem R_callF {x : Operand} {f : FuncId} {l : List Operand} {ts : Array TypeId} {vs : List Value} {us cs zs : Array Value} (ho : o.op = .call { callee:=.value x,args:=l.toArray,argTypes:=ts }) (hf : ρ x = .func (.func f) us cs) (hc : ∀ args w,(callFunc f args).run P w = .ok (.enter f args) w) (ha : l.map ρ = vs) (hx : us ++ vs.toArray ++ cs = zs) : (execOp ρ o).run P w = .ok (.enter f zs) w:=by
 have ha:=mapsN ha
 subst hx
 rw [← ha]
 unfold execOp
 simp [ho,resolve,hf,invoke,hc,go_sem]
end
theorem apart_any (n : Int) (h0 : -1000000000000 ≤ n) (h1 : n ≤ 1000000000000) (w : World) : Calls Tryz.prog 87 #[.int .i64 n] w fun e w'=>e = .returned (.int .i64 (max n (-n))) ∧ Ext [] w w':=by
 have E : Ext [] w w:=Ext.refl _ _
 refine calls_has 7 Tryz.func87 rfl Tryz.ntmps87 (Nat.le_of_ble_eq_true rfl) ?_
 intro fa F
 refine wp_seq_k fun K1 hK1=>?_
 refine wp_region_lit ?_
 refine F.vl (R_assign rfl (ev_c fa _)) ?_;clear F fa;intro fa F
 refine wpList_nil ?_
 refine hK1 _ _ ?_
 clear hK1
 refine wp_seq_k fun K2 hK2=>?_
 refine wp_region_lit ?_
 refine F.mv ?_;clear F fa;intro fa F
 refine F.mv ?_;clear F fa;intro fa F
 refine F.vl (R_neg rfl (F.at rfl) (by omega) (by omega)) ?_;clear F fa;intro fa F
 refine F.vl (R_max rfl rfl (F.at rfl) (F.at rfl)) ?_;clear F fa;intro fa F
 refine F.as ?_;clear F fa;intro fa F
 refine wpList_nil ?_
 refine hK2 _ _ ?_
 clear hK2
 refine wp_ret ?_
 (try simp only [Exit.inBlock,Exit.then,reduceIte])
 refine rt_v F (rs_1 F rfl rfl) ?_
 exact ⟨rfl,E⟩
theorem mul_bd2 {a b A B C : Int} (a0 : 0 ≤ a) (a1 : a ≤ A) (b0 : 0 ≤ b) (b1 : b ≤ B) (h : A * B ≤ C) : 0 ≤ a * b ∧ a * b ≤ C:=by
 refine ⟨Int.mul_nonneg a0 b0,?_⟩
 have h1 : a * b ≤ A * b:=Int.mul_le_mul_of_nonneg_right a1 b0
 have h2 : A * b ≤ A * B:=Int.mul_le_mul_of_nonneg_left b1 (by omega)
 omega
theorem prt_bd {f : Nat → Int} (hf : TubS f) : 0 ≤ prt f ∧ prt f ≤ 24:=by
 have:=sumTo_bd (f:=f) (a:=0) (b:=6) (n:=4) hf
 rw [prt];omega
theorem lamp_bd {x : Vm} (hv : VOk x) {k : Nat} (hk : k < x.L.length) (j : Nat) : 0 ≤ val (x.lamp k) j ∧ val (x.lamp k) j ≤ 3:=by
 obtain ⟨-,h⟩:=hv.ll _ (getD_mem (.bool true,[]) hk)
 by_cases hj : j < (x.lamp k).length
 ·exact h _ (getD_mem 0 hj)
 ·rw [val,List.getD_eq_getElem?_getD,List.getElem?_eq_none (by omega)];simp
theorem dot_bd {x : Vm} (hv : VOk x) {k : Nat} (hk : k < x.L.length) {s : Nat → Int} (hs : ∀ j,0 ≤ s j ∧ s j ≤ 240) {n : Nat} (hn : n ≤ 3) : 0 ≤ dotE (val (x.lamp k)) s n ∧ dotE (val (x.lamp k)) s n ≤ 2160:=by
 have:=sumTo_bd (f:=fun i=>val (x.lamp k) i * s i) (a:=0) (b:=720) (n:=n) fun j hj=>mul_bd2 (lamp_bd hv hk j).1 (lamp_bd hv hk j).2 (hs j).1 (hs j).2 (by omega)
 rw [dotE];omega
def tnE (x : Vm) (f : Nat → Int) (j : Nat) : Int:=tonE x f j x.D.length
theorem tn_bd {x : Vm} (hv : VOk x) {f : Nat → Int} (hf : TubS f) (j : Nat) : 0 ≤ tnE x f j ∧ tnE x f j ≤ 240:=by
 have:=tonE_bd hv hf j (Nat.le_refl x.D.length)
 have:=hv.d4
 rw [tnE];omega
theorem dot_sumL (x : Vm) (f : Nat → Int) (a : Nat → Int) (bn : Nat) : dotE a (val (sumL x f bn)) (sumL x f bn).length = dotE a (tnE x f) bn:=by
 rw [show (sumL x f bn).length = bn by simp [sumL]]
 refine sumTo_congr fun i hi=>?_
 show a i * val (sumL x f bn) i = a i * tnE x f i
 congr 1
 simp [val,sumL,hi,tnE]
def offE (x : Vm) (k : Nat) (f : Nat → Int) (s : Nat → Int) : Int:=dotE (val (x.lamp k)) (tnE x f) x.B.toNat - prt f * dotE (val (x.lamp k)) s x.B.toNat
def SmpOk (x : Vm) (s : List Int) : Prop:=(s.length : Int) = x.B ∧ ∀ n ∈ s,0 ≤ n ∧ n ≤ 9
theorem smp_bd {x : Vm} {s : List Int} (h : SmpOk x s) (j : Nat) : 0 ≤ val s j ∧ val s j ≤ 240:=by
 by_cases hj : j < s.length
 ·have:=h.2 _ (getD_mem 0 hj)
  rw [val];omega
 ·rw [val,List.getD_eq_getElem?_getD,List.getElem?_eq_none (by omega)];simp
theorem off_bd {x : Vm} (hv : VOk x) {k : Nat} (hk : k < x.L.length) {f : Nat → Int} (hf : TubS f) {s : List Int} (hs : SmpOk x s) : -1000000 ≤ offE x k f (val s) ∧ offE x k f (val s) ≤ 1000000:=by
 have hb:=hv.b3
 have h1:=dot_bd hv hk (fun j=>tn_bd hv hf j) (n:=x.B.toNat) (by omega)
 have h2:=dot_bd hv hk (fun j=>smp_bd hs j) (n:=x.B.toNat) (by omega)
 have h3:=prt_bd hf
 have h4:=mul_bd2 h3.1 h3.2 h2.1 h2.2 (C:=51840) (by omega)
 rw [offE];omega
set_option maxRecDepth 100000 in
set_option maxHeartbeats 1000000 in
theorem off_ok (x : Vm) (hv : VOk x) (k : Nat) (hk : k < x.L.length) (f : Nat → Int) (hf : TubS f) (s : List Int) (hs : SmpOk x s) (a : Option Addr) (c : Nat) (w : World) (h : x.At w) (hr : IsRows w (.slice a s.length c) 1 (s.map intRow)) :
  Calls Tryz.prog 53 #[.agg #[.int .i64 x.B,.slice x.da x.D.length x.dc,.slice x.la x.L.length x.lc,.int .i64 x.tol],.int .i64 ((k : Nat) : Int),.agg (tubC f),.slice a s.length c] w fun e w'=>e = .returned (.int .i64 (offE x k f (val s))) ∧ Ext [] w w':=by
 have E : Ext [] w w:=Ext.refl _ _
 have HX:=Lib.hid h
 have HV:=Lib.hid hv
 have HF:=Lib.hid hf
 have HS:=Lib.hid hs
 have HR:=Lib.hid hr
 have hb1:=hv.b1
 have hb3:=hv.b3
 obtain ⟨bn,hbn⟩ : ∃ bn : Nat,x.B = bn:=⟨x.B.toNat,by omega⟩
 have hbn2 : x.B.toNat = bn:=by omega
 have hsl : s.length = bn:=by have:=hs.1;omega
 have hsb : Hid (∀ n ∈ s,0 ≤ n ∧ n ≤ 100000):=fun n hn=>by have:=hs.2 n hn;omega
 have hb:=off_bd hv hk hf hs
 have h1:=dot_bd hv hk (fun j=>tn_bd hv hf j) (n:=bn) (by omega)
 have h2:=dot_bd hv hk (fun j=>smp_bd hs j) (n:=bn) (by omega)
 have h3:=prt_bd hf
 have h4:=mul_bd2 h3.1 h3.2 h2.1 h2.2 (C:=51840) (by omega)
 have hof : offE x k f (val s) = dotE (val (x.lamp k)) (tnE x f) bn - prt f * dotE (val (x.lamp k)) (val s) bn:=by rw [offE,hbn2]
 rw [hof]
 clear h hv hf hs hr hb hof
 refine calls_has 26 Tryz.func53 rfl Tryz.ntmps53 (Nat.le_of_ble_eq_true rfl) ?_
 intro fa F
 refine wp_seq_k fun K1 hK1=>?_
 refine wp_region_lit ?_
 refine sq_new F rfl (by decide) rfl (R_box rfl (F.at rfl)) ?_;clear F fa;intro fa w1 F hw
 obtain ⟨n4,hn⟩ : ∃ n,n = w.heap.size:=⟨_,rfl⟩
 rw [← hn] at F
 have s4 : w.heap.size ≤ n4:=Nat.le_of_eq hn.symm
 have l4_E : w.heap.size ≤ n4:=by rw [hn];exact E.size
 replace E:=ext_alloc E hw
 have q4:=new_row hw hn
 clear hw hn
 refine sq_new F rfl (by decide) rfl (R_box rfl (F.at rfl)) ?_;clear F fa;intro fa w2 F hw
 obtain ⟨n6,hn⟩ : ∃ n,n = w1.heap.size:=⟨_,rfl⟩
 rw [← hn] at F
 have s6 : w1.heap.size ≤ n6:=Nat.le_of_eq hn.symm
 have l6_E : w.heap.size ≤ n6:=by rw [hn];exact E.size
 have m6_4 : n4 < n6:=by rw [hn];exact blk_lt q4
 replace q4:=keep_alloc hw q4
 replace E:=ext_alloc E hw
 have q6:=new_row hw hn
 clear hw hn
 refine F.vl (R_assign rfl (ev_c fa _)) ?_;clear F fa;intro fa F
 refine wpList_nil ?_
 refine hK1 _ _ ?_
 clear hK1
 refine wp_seq_k fun K2 hK2=>?_
 refine wp_region_lit ?_
 refine F.vl (R_loadBlk rfl (F.at rfl) Tryz.underlying69 rfl (by kernel_rfl) q4) ?_;clear F fa;intro fa F
 refine F.vl (R_makeFunc rfl (mapsN (mpS (F.at rfl) mp0)) (mapsN mp0)) ?_;clear F fa;intro fa F
 refine F.as ?_;clear F fa;intro fa F
 refine wpList_nil ?_
 refine hK2 _ _ ?_
 clear hK2
 refine wp_seq_k fun K3 hK3=>?_
 refine region_x (Ext [] w2) none follows fun w3 hh eh=>?_
 have q4_:=q4
 replace q4:=keep_same hh q4
 have q6_:=q6
 replace q6:=keep_same hh q6
 have E_:=E
 have zEw3:=E.size
 replace E:=ext_same E eh
 have eT:=eh
 clear hh eh
 refine F.x (i:=0) rfl (fun w'=>R_move rfl (F.at rfl)) (fun _=>eT) ?_;clear F fa;intro fa F
 refine F.x (i:=1) rfl (fun w'=>R_move rfl (F.at rfl)) (fun _=>eT) ?_;clear F fa;intro fa F
 refine F.xr (i:=2) rfl (fun w' hS=>R_loadBlk rfl (F.at rfl) Tryz.underlying69 rfl (by kernel_rfl) (hS.keep q4_ (by simp))) (fun _=>eT) ?_;clear F fa;intro fa F
 refine F.xr (i:=3) rfl (fun w' hS=>R_loadBlk rfl (F.at rfl) Tryz.underlying75 rfl (by kernel_rfl) (hS.keep q6_ (by simp))) (fun _=>eT) ?_;clear F fa;intro fa F
 refine F.xr (i:=6) rfl (fun w' hS=>R_loadBlk rfl (F.at rfl) Tryz.underlying75 rfl (by kernel_rfl) (hS.keep q6_ (by simp))) (fun _=>eT) ?_;clear F fa;intro fa F
 refine F.x (i:=8) rfl (fun w'=>R_move rfl (F.at rfl)) (fun _=>eT) ?_;clear F fa;intro fa F
 refine F.x (i:=9) rfl (fun w'=>R_move rfl (F.at rfl)) (fun _=>eT) ?_;clear F fa;intro fa F
 refine F.x (i:=10) rfl (fun w'=>R_move rfl (F.at rfl)) (fun _=>eT) ?_;clear F fa;intro fa F
 refine ax_only (i:=4) (by kernel_rfl) (op_call F rfl rfl (by decide) rfl (R_callV rfl rfl Tryz.call63 (mpS (F.at rfl) (mpS (F.at rfl) mp0))) (sums_ok x HV.out bn hbn f HF.out _ (HX.out.ext E)) fun e w4 hR=>?_)
 obtain ⟨a16,rfl,oo,e9⟩:=hR
 refine ⟨_,rfl,?_⟩;clear F fa;intro fa F
 replace q4:=(e9).keep0 q4
 replace q6:=(e9).keep0 q6
 replace E:=ext_same E (e9)
 replace eT:=ext_same eT (e9)
 clear e9
 refine ⟨fun _=>eT,?_⟩
 have hrw:=rows_of_owns (xs:=sumL x f bn) (row:=intRow) (by rw [← ivs_flat,show (sumL x f bn).length = bn by simp [sumL]];exact oo) (fun _=>rfl)
 have hll : (sumL x f bn).length = bn:=by simp [sumL]
 have hwe:=weigh_ok x HV.out k hk (sumL x f bn) (by rw [hll];omega) (fun n hn=>by have:=sumL_bd HV.out HF.out bn n hn;omega) a16 bn w4 (HX.out.ext E) (by rw [hll];exact hrw)
 rw [dot_sumL,hll] at hwe
 refine ax_only (i:=5) (by kernel_rfl) (op_call F rfl rfl (by decide) rfl (R_callF rfl (F.at rfl) Tryz.call62 (mpS (F.at rfl) (mpS (F.at rfl) mp0)) (by simp)) (hwe) fun e w5 hR=>?_)
 obtain ⟨rfl,e9⟩:=hR
 refine ⟨_,rfl,?_⟩;clear F fa;intro fa F
 replace q4:=(e9).keep0 q4
 replace q6:=(e9).keep0 q6
 replace E:=ext_same E (e9)
 replace eT:=ext_same eT (e9)
 clear e9
 refine ⟨fun _=>eT,?_⟩
 clear oo hrw hwe
 refine ax_only (i:=7) (by kernel_rfl) (op_call F rfl rfl (by decide) rfl (R_callV rfl rfl Tryz.call48 (mpS (F.at rfl) mp0)) (parts_any f HF.out.ok _) fun e w6 hR=>?_)
 obtain ⟨rfl,e9⟩:=hR
 refine ⟨_,rfl,?_⟩;clear F fa;intro fa F
 replace q4:=(e9).keep0 q4
 replace q6:=(e9).keep0 q6
 replace E:=ext_same E (e9)
 replace eT:=ext_same eT (e9)
 clear e9
 refine ⟨fun _=>eT,?_⟩
 have hwe:=weigh_ok x HV.out k hk s HS.out.1 hsb.out a c w6 (HX.out.ext E) (HR.out.ext E (by simp))
 refine ax_only (i:=11) (by kernel_rfl) (op_call F rfl rfl (by decide) rfl (R_callF rfl (F.at rfl) Tryz.call62 (mpS (F.at rfl) (mpS (F.at rfl) mp0)) (by simp)) (hwe) fun e w7 hR=>?_)
 obtain ⟨rfl,e9⟩:=hR
 refine ⟨_,rfl,?_⟩;clear F fa;intro fa F
 replace q4:=(e9).keep0 q4
 replace q6:=(e9).keep0 q6
 replace E:=ext_same E (e9)
 replace eT:=ext_same eT (e9)
 clear e9
 refine ⟨fun _=>eT,?_⟩
 rw [hsl] at F
 refine F.x (i:=12) rfl (fun w'=>R_mul rfl (F.at rfl) (F.at rfl) (by omega) (by omega)) (fun _=>eT) ?_;clear F fa;intro fa F
 refine F.x (i:=13) rfl (fun w'=>R_sub rfl (F.at rfl) (F.at rfl) (by omega) (by omega)) (fun _=>eT) ?_;clear F fa;intro fa F
 refine F.x (i:=14) rfl (fun w'=>R_assign rfl (F.at rfl)) (fun _=>eT) ?_;clear F fa;intro fa F
 refine ax_done (by kernel_rfl) ?_ _
 clear eT q4_ q6_ E_
 refine hK3 _ _ ?_
 clear hK3
 refine wp_ret ?_
 (try simp only [Exit.inBlock,Exit.then,reduceIte])
 refine rt_v F (rs_1 F rfl rfl) ?_
 exact ⟨rfl,E⟩
def matE (x : Vm) (f : Nat → Int) (s : Nat → Int) (ls : List Int) : Bool:=ls.all fun l=>decide (max (offE x l.toNat f s) (-offE x l.toNat f s) ≤ x.tol * prt f)
def LmpOk (x : Vm) (ls : List Int) : Prop:=∀ n ∈ ls,0 ≤ n ∧ n < x.L.length
theorem mat_bad {x : Vm} {f s : Nat → Int} {ls : List Int} {i : Nat} (hi : i < ls.length) (h : x.tol * prt f < max (offE x (ls.getD i 0).toNat f s) (-offE x (ls.getD i 0).toNat f s)) : matE x f s ls = false:=by
 rw [matE,List.all_eq_false]
 exact ⟨_,getD_mem 0 hi,by simp only [decide_eq_true_eq];omega⟩
theorem mat_all {x : Vm} {f s : Nat → Int} {ls : List Int} (h : ∀ j,j < ls.length → max (offE x (ls.getD j 0).toNat f s) (-offE x (ls.getD j 0).toNat f s) ≤ x.tol * prt f) : matE x f s ls = true:=by
 rw [matE,List.all_eq_true]
 intro n hn
 obtain ⟨j,hj,rfl⟩:=List.getElem_of_mem hn
 have:=h j hj
 rw [List.getD_eq_getElem?_getD,List.getElem?_eq_getElem hj] at this
 exact decide_eq_true this
set_option maxRecDepth 100000 in
set_option maxHeartbeats 1000000 in
theorem match_ok (x : Vm) (hv : VOk x) (f : Nat → Int) (hf : TubS f) (s : List Int) (hs : SmpOk x s) (ls : List Int) (hl : LmpOk x ls) (hll : ls.length ≤ 1000) (a b : Option Addr) (c d : Nat) (w : World) (h : x.At w) (hr : IsRows w (.slice a s.length c) 1 (s.map intRow)) (hq : IsRows w (.slice b ls.length d) 1 (ls.map intRow)) :
  Calls Tryz.prog 55 #[.agg #[.int .i64 x.B,.slice x.da x.D.length x.dc,.slice x.la x.L.length x.lc,.int .i64 x.tol],.agg (tubC f),.slice a s.length c,.slice b ls.length d] w fun e w'=>e = .returned (.bool (matE x f (val s) ls)) ∧ Ext [] w w':=by
 have E : Ext [] w w:=Ext.refl _ _
 have HX:=Lib.hid h
 have HV:=Lib.hid hv
 have HF:=Lib.hid hf
 have HS:=Lib.hid hs
 have HR:=Lib.hid hr
 have HL:=Lib.hid hl
 have HLS:=Lib.hid (slAt_of_rows hq 0)
 have h3:=prt_bd hf
 have ht0:=hv.t0
 have ht1:=hv.t12
 have h4:=mul_bd2 ht0 ht1 h3.1 h3.2 (C:=288) (by omega)
 clear h hv hf hs hr hl hq
 refine calls_has 31 Tryz.func55 rfl Tryz.ntmps55 (Nat.le_of_ble_eq_true rfl) ?_
 intro fa F
 refine wp_seq_k fun K1 hK1=>?_
 refine wp_region_lit ?_
 refine sq_new F rfl (by decide) rfl (R_box rfl (F.at rfl)) ?_;clear F fa;intro fa w1 F hw
 obtain ⟨n4,hn⟩ : ∃ n,n = w.heap.size:=⟨_,rfl⟩
 rw [← hn] at F
 have s4 : w.heap.size ≤ n4:=Nat.le_of_eq hn.symm
 have l4_E : w.heap.size ≤ n4:=by rw [hn];exact E.size
 replace E:=ext_alloc E hw
 have q4:=new_row hw hn
 clear hw hn
 refine sq_new F rfl (by decide) rfl (R_box rfl (F.at rfl)) ?_;clear F fa;intro fa w2 F hw
 obtain ⟨n5,hn⟩ : ∃ n,n = w1.heap.size:=⟨_,rfl⟩
 rw [← hn] at F
 have s5 : w1.heap.size ≤ n5:=Nat.le_of_eq hn.symm
 have l5_E : w.heap.size ≤ n5:=by rw [hn];exact E.size
 have m5_4 : n4 < n5:=by rw [hn];exact blk_lt q4
 replace q4:=keep_alloc hw q4
 replace E:=ext_alloc E hw
 have q5:=new_row hw hn
 clear hw hn
 refine F.vl (R_assign rfl (ev_c fa _)) ?_;clear F fa;intro fa F
 refine wpList_nil ?_
 refine hK1 _ _ ?_
 clear hK1
 refine wp_seq_k fun K2 hK2=>?_
 refine wp_seq_k fun K3 hK3=>?_
 refine wp_region_lit ?_
 refine F.mv ?_;clear F fa;intro fa F
 refine F.vl (R_len rfl rfl (F.at rfl) Tryz.underlying25) ?_;clear F fa;intro fa F
 refine F.vl (R_move rfl (ev_c fa _)) ?_;clear F fa;intro fa F
 refine wpList_nil ?_
 refine hK3 _ _ ?_
 clear hK3
 refine wp_block ?_
 have F0:=F.sub (.c 2 rfl (.c 4 rfl (.c 5 rfl (.c 11 rfl (.c 12 rfl .n)))))
 refine lp_for F0 (ls.length) (fun i Lv W=>Lv = [(13,.int .i64 ((i : Nat) : Int))] ∧ Ext [] w W ∧ W.heap[n4]? = some (.cells #[.int .i64 x.B,.slice x.da x.D.length x.dc,.slice x.la x.L.length x.lc,.int .i64 x.tol] 69 (0,0)) ∧ W.heap[n5]? = some (.cells (tubC f) 75 (0,0)) ∧ Hid (∀ j,j < i → max (offE x (ls.getD j 0).toNat f (val s)) (-offE x (ls.getD j 0).toNat f (val s)) ≤ x.tol * prt f)) ⟨_,⟨rfl,E,q4,q5,Lib.hid (fun j hj=>absurd hj (by omega))⟩,F.sub (.c 13 rfl (.c 2 rfl (.c 4 rfl (.c 5 rfl (.c 11 rfl (.c 12 rfl .n))))))⟩ ?_
 clear F F0
 clear E q4 q5
 rintro i _ fa w3 hi1 ⟨rfl,E,q4,q5,hno⟩ F
 refine wp_seq_k fun K4 hK4=>?_
 refine wp_region_lit ?_
 refine F.vl (R_lss rfl (F.at rfl) (F.at rfl)) ?_;clear F fa;intro fa F
 refine wpList_nil ?_
 refine hK4 _ _ ?_
 clear hK4
 refine wp_seq_k fun K5 hK5=>?_
 refine cd_if F rfl (fun hc14=>?_) (fun hc14=>?_)
 ·skip
  refine wp_skip ?_
  refine hK5 _ _ ?_
  clear hK5
  refine wp_seq_k fun K6 hK6=>?_
  refine wp_block ?_
  refine wp_seq_k fun K7 hK7=>?_
  obtain ⟨hk0,hk1⟩:=HL.out _ (getD_mem (l:=ls) (i:=i) 0 (by omega))
  obtain ⟨k,hkk⟩ : ∃ k : Nat,ls.getD i 0 = k:=⟨(ls.getD i 0).toNat,by omega⟩
  have hkt : (ls.getD i 0).toNat = k:=by omega
  have hkL : k < x.L.length:=by omega
  obtain ⟨hb0,hb1⟩:=off_bd HV.out hkL HF.out HS.out
  refine wp_region_lit ?_
  obtain ⟨xb8,xo8,xa8,xr8⟩:=HLS.out i (by omega)
  refine F.vl (R_ixSlice (sz:=1) rfl ((F.at rfl).trans (xa8 _ _)) (F.at rfl) Tryz.underlying25 (by kernel_rfl) (by omega) (by omega)) ?_;clear F fa;intro fa F
  refine F.vl (R_load rfl (F.at rfl) Tryz.underlying3 rfl (xr8 _ E 0 _ rfl)) ?_;clear F fa;intro fa F
  rw [hkk] at F
  refine F.as ?_;clear F fa;intro fa F
  refine wpList_nil ?_
  refine hK7 _ _ ?_
  clear hK7
  refine wp_seq_k fun K9 hK9=>?_
  refine region_x (Ext [] w3) none follows fun w4 hh eh=>?_
  have q4_:=q4
  replace q4:=keep_same hh q4
  have q5_:=q5
  replace q5:=keep_same hh q5
  have E_:=E
  have zEw4:=E.size
  replace E:=ext_same E eh
  have eT:=eh
  clear hh eh
  refine F.xr (i:=0) rfl (fun w' hS=>R_loadBlk rfl (F.at rfl) Tryz.underlying69 rfl (by kernel_rfl) (hS.keep q4_ (by simp))) (fun _=>eT) ?_;clear F fa;intro fa F
  refine F.x (i:=1) rfl (fun w'=>R_move rfl (F.at rfl)) (fun _=>eT) ?_;clear F fa;intro fa F
  refine F.xr (i:=2) rfl (fun w' hS=>R_loadBlk rfl (F.at rfl) Tryz.underlying75 rfl (by kernel_rfl) (hS.keep q5_ (by simp))) (fun _=>eT) ?_;clear F fa;intro fa F
  refine F.x (i:=3) rfl (fun w'=>R_move rfl (F.at rfl)) (fun _=>eT) ?_;clear F fa;intro fa F
  refine F.x (i:=6) rfl (fun w'=>R_field rfl (F.at rfl) Tryz.underlying69 rfl (n:=0) (sz:=4) rfl (by kernel_rfl) (by decide)) (fun _=>eT) ?_;clear F fa;intro fa F
  refine F.x (i:=7) rfl (fun w'=>R_field rfl (F.at rfl) Tryz.underlying24 rfl (n:=3) (sz:=1) rfl (by kernel_rfl) (by decide)) (fun _=>eT) ?_;clear F fa;intro fa F
  refine F.xr (i:=8) rfl (fun w' hS=>R_load rfl (F.at rfl) Tryz.underlying3 rfl ((cells_of_block (hS.keep q4_ (by simp)) 3).trans (getS (getS (getS (get0)))))) (fun _=>eT) ?_;clear F fa;intro fa F
  refine F.xr (i:=9) rfl (fun w' hS=>R_loadBlk rfl (F.at rfl) Tryz.underlying75 rfl (by kernel_rfl) (hS.keep q5_ (by simp))) (fun _=>eT) ?_;clear F fa;intro fa F
  refine ax_only (i:=4) (by kernel_rfl) (op_call F rfl rfl (by decide) rfl (R_callV rfl rfl Tryz.call53 (mpS (F.at rfl) (mpS (F.at rfl) (mpS (F.at rfl) (mpS (F.at rfl) mp0))))) (off_ok x HV.out k hkL f HF.out s HS.out a c _ (HX.out.ext E) (HR.out.ext E (by simp))) fun e w5 hR=>?_)
  obtain ⟨rfl,e9⟩:=hR
  refine ⟨_,rfl,?_⟩;clear F fa;intro fa F
  replace q4:=(e9).keep0 q4
  replace q5:=(e9).keep0 q5
  replace E:=ext_same E (e9)
  replace eT:=ext_same eT (e9)
  clear e9
  refine ⟨fun _=>eT,?_⟩
  refine ax_only (i:=5) (by kernel_rfl) (op_call F rfl rfl (by decide) rfl (R_callV rfl rfl Tryz.call87 (mpS (F.at rfl) mp0)) (apart_any (offE x k f (val s)) (by omega) (by omega) _) fun e w6 hR=>?_)
  obtain ⟨rfl,e9⟩:=hR
  refine ⟨_,rfl,?_⟩;clear F fa;intro fa F
  replace q4:=(e9).keep0 q4
  replace q5:=(e9).keep0 q5
  replace E:=ext_same E (e9)
  replace eT:=ext_same eT (e9)
  clear e9
  refine ⟨fun _=>eT,?_⟩
  refine ax_only (i:=10) (by kernel_rfl) (op_call F rfl rfl (by decide) rfl (R_callV rfl rfl Tryz.call48 (mpS (F.at rfl) mp0)) (parts_any f HF.out.ok _) fun e w7 hR=>?_)
  obtain ⟨rfl,e9⟩:=hR
  refine ⟨_,rfl,?_⟩;clear F fa;intro fa F
  replace q4:=(e9).keep0 q4
  replace q5:=(e9).keep0 q5
  replace E:=ext_same E (e9)
  replace eT:=ext_same eT (e9)
  clear e9
  refine ⟨fun _=>eT,?_⟩
  refine F.x (i:=11) rfl (fun w'=>R_mul rfl (F.at rfl) (F.at rfl) (by omega) (by omega)) (fun _=>eT) ?_;clear F fa;intro fa F
  refine F.x (i:=12) rfl (fun w'=>R_gtr rfl (F.at rfl) (F.at rfl)) (fun _=>eT) ?_;clear F fa;intro fa F
  refine ax_done (by kernel_rfl) ?_ _
  clear eT q4_ q5_ E_
  refine hK9 _ _ ?_
  clear hK9
  refine cd_if F rfl (fun hc29=>?_) (fun hc29=>?_)
  ·skip
   rw [← hkt] at hc29
   refine wp_seq_k fun K10 hK10=>?_
   refine wp_region_lit ?_
   refine F.vl (R_assign rfl (ev_c fa _)) ?_;clear F fa;intro fa F
   refine wpList_nil ?_
   refine hK10 _ _ ?_
   clear hK10
   refine wp_ret ?_
   (try simp only [Exit.inBlock,Exit.then,reduceIte])
   refine rt_v F (rs_1 F rfl rfl) ?_
   exact ⟨ret_bool (mat_bad (by omega) hc29).symm,E⟩
  ·skip
   have hle : max (offE x (ls.getD i 0).toNat f (val s)) (-offE x (ls.getD i 0).toNat f (val s)) ≤ x.tol * prt f:=by rw [hkt];omega
   refine wp_skip ?_
   refine hK6 _ _ ?_
   clear hK6
   refine wp_region_lit ?_
   refine F.vl (R_add rfl (F.at rfl) (ev_c fa _) (by omega) (by omega)) ?_;clear F fa;intro fa F
   refine F.mv ?_;clear F fa;intro fa F
   refine wpList_nil ?_
   show _ ∧ _
   exact ⟨by omega,_,⟨rfl,E,q4,q5,Lib.hid (fun j hj=>if e : j = i then e ▸ hle else hno.out j (by omega))⟩,F.sub (.c 13 rfl (.c 2 rfl (.c 4 rfl (.c 5 rfl (.c 11 rfl (.c 12 rfl .n))))))⟩
 ·skip
  refine wp_exit ?_
  refine hK2 _ _ ?_
  clear hK2
  refine wp_seq_k fun K11 hK11=>?_
  refine wp_region_lit ?_
  refine F.vl (R_assign rfl (ev_c fa _)) ?_;clear F fa;intro fa F
  refine wpList_nil ?_
  refine hK11 _ _ ?_
  clear hK11
  refine wp_ret ?_
  (try simp only [Exit.inBlock,Exit.then,reduceIte])
  refine rt_v F (rs_1 F rfl rfl) ?_
  exact ⟨ret_bool (mat_all fun j hj=>hno.out j (by omega)).symm,E⟩
def alkV (x : Vm) (k : Nat) (f g : Nat → Int) : Int:=prt g * dotE (val (x.lamp k)) (tnE x f) x.B.toNat - prt f * dotE (val (x.lamp k)) (tnE x g) x.B.toNat
def alkE (x : Vm) (k : Nat) (f g : Nat → Int) : Bool:=decide (max (alkV x k f g) (-alkV x k f g) ≤ x.tol * prt f * prt g)
set_option maxRecDepth 100000 in
set_option maxHeartbeats 1000000 in
theorem alike_ok (x : Vm) (hv : VOk x) (k : Nat) (hk : k < x.L.length) (f g : Nat → Int) (hf : TubS f) (hg : TubS g) (w : World) (h : x.At w) :
  Calls Tryz.prog 57 #[.agg #[.int .i64 x.B,.slice x.da x.D.length x.dc,.slice x.la x.L.length x.lc,.int .i64 x.tol],.int .i64 ((k : Nat) : Int),.agg (tubC f),.agg (tubC g)] w fun e w'=>e = .returned (.bool (alkE x k f g)) ∧ Ext [] w w':=by
 have E : Ext [] w w:=Ext.refl _ _
 have HX:=Lib.hid h
 have HV:=Lib.hid hv
 have HF:=Lib.hid hf
 have HG:=Lib.hid hg
 have hb1:=hv.b1
 have hb3:=hv.b3
 obtain ⟨bn,hbn⟩ : ∃ bn : Nat,x.B = bn:=⟨x.B.toNat,by omega⟩
 have hbn2 : x.B.toNat = bn:=by omega
 have h1:=dot_bd hv hk (fun j=>tn_bd hv hf j) (n:=bn) (by omega)
 have h2:=dot_bd hv hk (fun j=>tn_bd hv hg j) (n:=bn) (by omega)
 have h3:=prt_bd hf
 have h4:=prt_bd hg
 have h5:=mul_bd2 h4.1 h4.2 h1.1 h1.2 (C:=51840) (by omega)
 have h6:=mul_bd2 h3.1 h3.2 h2.1 h2.2 (C:=51840) (by omega)
 have h7:=mul_bd2 hv.t0 hv.t12 h3.1 h3.2 (C:=288) (by omega)
 have h8:=mul_bd2 h7.1 h7.2 h4.1 h4.2 (C:=6912) (by omega)
 have hal : alkE x k f g = decide (max (prt g * dotE (val (x.lamp k)) (tnE x f) bn - prt f * dotE (val (x.lamp k)) (tnE x g) bn) (-(prt g * dotE (val (x.lamp k)) (tnE x f) bn - prt f * dotE (val (x.lamp k)) (tnE x g) bn)) ≤ x.tol * prt f * prt g):=by rw [alkE,alkV,hbn2]
 rw [hal]
 clear h hv hf hg hal
 refine calls_has 41 Tryz.func57 rfl Tryz.ntmps57 (Nat.le_of_ble_eq_true rfl) ?_
 intro fa F
 refine wp_seq_k fun K1 hK1=>?_
 refine wp_region_lit ?_
 refine sq_new F rfl (by decide) rfl (R_box rfl (F.at rfl)) ?_;clear F fa;intro fa w1 F hw
 obtain ⟨n4,hn⟩ : ∃ n,n = w.heap.size:=⟨_,rfl⟩
 rw [← hn] at F
 have s4 : w.heap.size ≤ n4:=Nat.le_of_eq hn.symm
 have l4_E : w.heap.size ≤ n4:=by rw [hn];exact E.size
 replace E:=ext_alloc E hw
 have q4:=new_row hw hn
 clear hw hn
 refine sq_new F rfl (by decide) rfl (R_box rfl (F.at rfl)) ?_;clear F fa;intro fa w2 F hw
 obtain ⟨n6,hn⟩ : ∃ n,n = w1.heap.size:=⟨_,rfl⟩
 rw [← hn] at F
 have s6 : w1.heap.size ≤ n6:=Nat.le_of_eq hn.symm
 have l6_E : w.heap.size ≤ n6:=by rw [hn];exact E.size
 have m6_4 : n4 < n6:=by rw [hn];exact blk_lt q4
 replace q4:=keep_alloc hw q4
 replace E:=ext_alloc E hw
 have q6:=new_row hw hn
 clear hw hn
 refine sq_new F rfl (by decide) rfl (R_box rfl (F.at rfl)) ?_;clear F fa;intro fa w3 F hw
 obtain ⟨n7,hn⟩ : ∃ n,n = w2.heap.size:=⟨_,rfl⟩
 rw [← hn] at F
 have s7 : w2.heap.size ≤ n7:=Nat.le_of_eq hn.symm
 have l7_E : w.heap.size ≤ n7:=by rw [hn];exact E.size
 have m7_4 : n4 < n7:=by rw [hn];exact blk_lt q4
 have m7_6 : n6 < n7:=by rw [hn];exact blk_lt q6
 replace q4:=keep_alloc hw q4
 replace q6:=keep_alloc hw q6
 replace E:=ext_alloc E hw
 have q7:=new_row hw hn
 clear hw hn
 refine F.vl (R_assign rfl (ev_c fa _)) ?_;clear F fa;intro fa F
 refine wpList_nil ?_
 refine hK1 _ _ ?_
 clear hK1
 refine wp_seq_k fun K2 hK2=>?_
 refine region_x (Ext [] w3) none follows fun w4 hh eh=>?_
 have q4_:=q4
 replace q4:=keep_same hh q4
 have q6_:=q6
 replace q6:=keep_same hh q6
 have q7_:=q7
 replace q7:=keep_same hh q7
 have E_:=E
 have zEw4:=E.size
 replace E:=ext_same E eh
 have eT:=eh
 clear hh eh
 refine F.xr (i:=0) rfl (fun w' hS=>R_loadBlk rfl (F.at rfl) Tryz.underlying75 rfl (by kernel_rfl) (hS.keep q6_ (by simp))) (fun _=>eT) ?_;clear F fa;intro fa F
 refine F.xr (i:=2) rfl (fun w' hS=>R_loadBlk rfl (F.at rfl) Tryz.underlying75 rfl (by kernel_rfl) (hS.keep q7_ (by simp))) (fun _=>eT) ?_;clear F fa;intro fa F
 refine ax_only (i:=1) (by kernel_rfl) (op_call F rfl rfl (by decide) rfl (R_callV rfl rfl Tryz.call48 (mpS (F.at rfl) mp0)) (parts_any f HF.out.ok _) fun e w5 hR=>?_)
 obtain ⟨rfl,e9⟩:=hR
 refine ⟨_,rfl,?_⟩;clear F fa;intro fa F
 replace q4:=(e9).keep0 q4
 replace q6:=(e9).keep0 q6
 replace q7:=(e9).keep0 q7
 replace E:=ext_same E (e9)
 replace eT:=ext_same eT (e9)
 clear e9
 refine ⟨fun _=>eT,?_⟩
 refine ax_only (i:=3) (by kernel_rfl) (op_call F rfl rfl (by decide) rfl (R_callV rfl rfl Tryz.call48 (mpS (F.at rfl) mp0)) (parts_any g HG.out.ok _) fun e w6 hR=>?_)
 obtain ⟨rfl,e9⟩:=hR
 refine ⟨_,rfl,?_⟩;clear F fa;intro fa F
 replace q4:=(e9).keep0 q4
 replace q6:=(e9).keep0 q6
 replace q7:=(e9).keep0 q7
 replace E:=ext_same E (e9)
 replace eT:=ext_same eT (e9)
 clear e9
 refine ⟨fun _=>eT,?_⟩
 refine F.x (i:=4) rfl (fun w'=>R_assign rfl (F.at rfl)) (fun _=>eT) ?_;clear F fa;intro fa F
 refine F.x (i:=5) rfl (fun w'=>R_assign rfl (F.at rfl)) (fun _=>eT) ?_;clear F fa;intro fa F
 refine ax_done (by kernel_rfl) ?_ _
 clear eT q4_ q6_ q7_ E_
 refine hK2 _ _ ?_
 clear hK2
 refine wp_seq_k fun K3 hK3=>?_
 refine region_x (Ext [] w6) none follows fun w7 hh eh=>?_
 have q4_:=q4
 replace q4:=keep_same hh q4
 have q6_:=q6
 replace q6:=keep_same hh q6
 have q7_:=q7
 replace q7:=keep_same hh q7
 have E_:=E
 have zEw7:=E.size
 replace E:=ext_same E eh
 have eT:=eh
 clear hh eh
 refine F.x (i:=0) rfl (fun w'=>R_move rfl (F.at rfl)) (fun _=>eT) ?_;clear F fa;intro fa F
 refine F.xr (i:=1) rfl (fun w' hS=>R_loadBlk rfl (F.at rfl) Tryz.underlying69 rfl (by kernel_rfl) (hS.keep q4_ (by simp))) (fun _=>eT) ?_;clear F fa;intro fa F
 refine F.x (i:=2) rfl (fun w'=>R_move rfl (F.at rfl)) (fun _=>eT) ?_;clear F fa;intro fa F
 refine F.xr (i:=3) rfl (fun w' hS=>R_loadBlk rfl (F.at rfl) Tryz.underlying69 rfl (by kernel_rfl) (hS.keep q4_ (by simp))) (fun _=>eT) ?_;clear F fa;intro fa F
 refine F.xr (i:=4) rfl (fun w' hS=>R_loadBlk rfl (F.at rfl) Tryz.underlying75 rfl (by kernel_rfl) (hS.keep q6_ (by simp))) (fun _=>eT) ?_;clear F fa;intro fa F
 refine F.x (i:=8) rfl (fun w'=>R_move rfl (F.at rfl)) (fun _=>eT) ?_;clear F fa;intro fa F
 refine F.xr (i:=9) rfl (fun w' hS=>R_loadBlk rfl (F.at rfl) Tryz.underlying69 rfl (by kernel_rfl) (hS.keep q4_ (by simp))) (fun _=>eT) ?_;clear F fa;intro fa F
 refine F.x (i:=10) rfl (fun w'=>R_move rfl (F.at rfl)) (fun _=>eT) ?_;clear F fa;intro fa F
 refine F.xr (i:=11) rfl (fun w' hS=>R_loadBlk rfl (F.at rfl) Tryz.underlying69 rfl (by kernel_rfl) (hS.keep q4_ (by simp))) (fun _=>eT) ?_;clear F fa;intro fa F
 refine F.xr (i:=12) rfl (fun w' hS=>R_loadBlk rfl (F.at rfl) Tryz.underlying75 rfl (by kernel_rfl) (hS.keep q7_ (by simp))) (fun _=>eT) ?_;clear F fa;intro fa F
 refine F.x (i:=18) rfl (fun w'=>R_field rfl (F.at rfl) Tryz.underlying69 rfl (n:=0) (sz:=4) rfl (by kernel_rfl) (by decide)) (fun _=>eT) ?_;clear F fa;intro fa F
 refine F.x (i:=19) rfl (fun w'=>R_field rfl (F.at rfl) Tryz.underlying24 rfl (n:=3) (sz:=1) rfl (by kernel_rfl) (by decide)) (fun _=>eT) ?_;clear F fa;intro fa F
 refine F.xr (i:=20) rfl (fun w' hS=>R_load rfl (F.at rfl) Tryz.underlying3 rfl ((cells_of_block (hS.keep q4_ (by simp)) 3).trans (getS (getS (getS (get0)))))) (fun _=>eT) ?_;clear F fa;intro fa F
 refine F.x (i:=21) rfl (fun w'=>R_move rfl (F.at rfl)) (fun _=>eT) ?_;clear F fa;intro fa F
 refine F.x (i:=22) rfl (fun w'=>R_mul rfl (F.at rfl) (F.at rfl) (by omega) (by omega)) (fun _=>eT) ?_;clear F fa;intro fa F
 refine F.x (i:=23) rfl (fun w'=>R_move rfl (F.at rfl)) (fun _=>eT) ?_;clear F fa;intro fa F
 refine F.x (i:=24) rfl (fun w'=>R_mul rfl (F.at rfl) (F.at rfl) (by omega) (by omega)) (fun _=>eT) ?_;clear F fa;intro fa F
 refine ax_only (i:=5) (by kernel_rfl) (op_call F rfl rfl (by decide) rfl (R_callV rfl rfl Tryz.call63 (mpS (F.at rfl) (mpS (F.at rfl) mp0))) (sums_ok x HV.out bn hbn f HF.out _ (HX.out.ext E)) fun e w8 hR=>?_)
 obtain ⟨a20,rfl,oo,e9⟩:=hR
 refine ⟨_,rfl,?_⟩;clear F fa;intro fa F
 replace q4:=(e9).keep0 q4
 replace q6:=(e9).keep0 q6
 replace q7:=(e9).keep0 q7
 replace E:=ext_same E (e9)
 replace eT:=ext_same eT (e9)
 clear e9
 refine ⟨fun _=>eT,?_⟩
 have hrw:=rows_of_owns (xs:=sumL x f bn) (row:=intRow) (by rw [← ivs_flat,show (sumL x f bn).length = bn by simp [sumL]];exact oo) (fun _=>rfl)
 have hll : (sumL x f bn).length = bn:=by simp [sumL]
 have hwe:=weigh_ok x HV.out k hk (sumL x f bn) (by rw [hll];omega) (fun n hn=>by have:=sumL_bd HV.out HF.out bn n hn;omega) a20 bn w8 (HX.out.ext E) (by rw [hll];exact hrw)
 rw [dot_sumL,hll] at hwe
 refine ax_only (i:=6) (by kernel_rfl) (op_call F rfl rfl (by decide) rfl (R_callV rfl rfl Tryz.call62 (mpS (F.at rfl) (mpS (F.at rfl) (mpS (F.at rfl) mp0)))) (hwe) fun e w9 hR=>?_)
 obtain ⟨rfl,e9⟩:=hR
 refine ⟨_,rfl,?_⟩;clear F fa;intro fa F
 replace q4:=(e9).keep0 q4
 replace q6:=(e9).keep0 q6
 replace q7:=(e9).keep0 q7
 replace E:=ext_same E (e9)
 replace eT:=ext_same eT (e9)
 clear e9
 refine ⟨fun _=>eT,?_⟩
 clear oo hrw hwe
 refine F.x (i:=7) rfl (fun w'=>R_mul rfl (F.at rfl) (F.at rfl) (by omega) (by omega)) (fun _=>eT) ?_;clear F fa;intro fa F
 refine ax_only (i:=13) (by kernel_rfl) (op_call F rfl rfl (by decide) rfl (R_callV rfl rfl Tryz.call63 (mpS (F.at rfl) (mpS (F.at rfl) mp0))) (sums_ok x HV.out bn hbn g HG.out _ (HX.out.ext E)) fun e w10 hR=>?_)
 obtain ⟨a28,rfl,oo,e9⟩:=hR
 refine ⟨_,rfl,?_⟩;clear F fa;intro fa F
 replace q4:=(e9).keep0 q4
 replace q6:=(e9).keep0 q6
 replace q7:=(e9).keep0 q7
 replace E:=ext_same E (e9)
 replace eT:=ext_same eT (e9)
 clear e9
 refine ⟨fun _=>eT,?_⟩
 have hrw:=rows_of_owns (xs:=sumL x g bn) (row:=intRow) (by rw [← ivs_flat,show (sumL x g bn).length = bn by simp [sumL]];exact oo) (fun _=>rfl)
 have hll : (sumL x g bn).length = bn:=by simp [sumL]
 have hwe:=weigh_ok x HV.out k hk (sumL x g bn) (by rw [hll];omega) (fun n hn=>by have:=sumL_bd HV.out HG.out bn n hn;omega) a28 bn w10 (HX.out.ext E) (by rw [hll];exact hrw)
 rw [dot_sumL,hll] at hwe
 refine ax_only (i:=14) (by kernel_rfl) (op_call F rfl rfl (by decide) rfl (R_callV rfl rfl Tryz.call62 (mpS (F.at rfl) (mpS (F.at rfl) (mpS (F.at rfl) mp0)))) (hwe) fun e w11 hR=>?_)
 obtain ⟨rfl,e9⟩:=hR
 refine ⟨_,rfl,?_⟩;clear F fa;intro fa F
 replace q4:=(e9).keep0 q4
 replace q6:=(e9).keep0 q6
 replace q7:=(e9).keep0 q7
 replace E:=ext_same E (e9)
 replace eT:=ext_same eT (e9)
 clear e9
 refine ⟨fun _=>eT,?_⟩
 clear oo hrw hwe
 refine F.x (i:=15) rfl (fun w'=>R_mul rfl (F.at rfl) (F.at rfl) (by omega) (by omega)) (fun _=>eT) ?_;clear F fa;intro fa F
 refine F.x (i:=16) rfl (fun w'=>R_sub rfl (F.at rfl) (F.at rfl) (by omega) (by omega)) (fun _=>eT) ?_;clear F fa;intro fa F
 refine ax_only (i:=17) (by kernel_rfl) (op_call F rfl rfl (by decide) rfl (R_callV rfl rfl Tryz.call87 (mpS (F.at rfl) mp0)) (apart_any (prt g * dotE (val (x.lamp k)) (tnE x f) bn - prt f * dotE (val (x.lamp k)) (tnE x g) bn) (by omega) (by omega) _) fun e w12 hR=>?_)
 obtain ⟨rfl,e9⟩:=hR
 refine ⟨_,rfl,?_⟩;clear F fa;intro fa F
 replace q4:=(e9).keep0 q4
 replace q6:=(e9).keep0 q6
 replace q7:=(e9).keep0 q7
 replace E:=ext_same E (e9)
 replace eT:=ext_same eT (e9)
 clear e9
 refine ⟨fun _=>eT,?_⟩
 refine F.x (i:=25) rfl (fun w'=>R_leq rfl (F.at rfl) (F.at rfl)) (fun _=>eT) ?_;clear F fa;intro fa F
 refine F.x (i:=26) rfl (fun w'=>R_assign rfl (F.at rfl)) (fun _=>eT) ?_;clear F fa;intro fa F
 refine ax_done (by kernel_rfl) ?_ _
 clear eT q4_ q6_ q7_ E_
 refine hK3 _ _ ?_
 clear hK3
 refine wp_ret ?_
 (try simp only [Exit.inBlock,Exit.then,reduceIte])
 refine rt_v F (rs_1 F rfl rfl) ?_
 exact ⟨rfl,E⟩
theorem numE_ok {l : List Int} {m hi : Int} (h1 : (l.length : Int) = m) (h2 : ∀ n ∈ l,0 ≤ n ∧ n ≤ hi) : numE l m hi = 0:=by
 rw [numE,if_neg (by omega),if_pos]
 rw [List.all_eq_true]
 intro n hn
 have:=outB_no.2 (h2 n hn)
 rw [this];rfl
set_option maxRecDepth 100000 in
theorem sample_ok (x : Vm) (hv : VOk x) (s : List Int) (hs : SmpOk x s) (a : Option Addr) (c : Nat) (w : World) (hr : IsRows w (.slice a s.length c) 1 (s.map intRow)) :
  Calls Tryz.prog 41 #[.agg #[.int .i64 x.B,.slice x.da x.D.length x.dc,.slice x.la x.L.length x.lc,.int .i64 x.tol],.slice a s.length c] w fun e w'=>e = .returned (.tuple #[]) ∧ Ext [] w w':=by
 have E : Ext [] w w:=Ext.refl _ _
 have hz:=numE_ok hs.1 hs.2
 have hlen:=hs.1
 have hb3:=hv.b3
 have HR:=Lib.hid hr
 clear hr hs
 refine calls_has 30 Tryz.func41 rfl Tryz.ntmps41 (Nat.le_of_ble_eq_true rfl) ?_
 intro fa F
 refine wp_seq_k fun K1 hK1=>?_
 refine wp_region_lit ?_
 refine sq_new F rfl (by decide) rfl (R_box rfl (F.at rfl)) ?_;clear F fa;intro fa w1 F hw
 obtain ⟨n2,hn⟩ : ∃ n,n = w.heap.size:=⟨_,rfl⟩
 rw [← hn] at F
 have s2 : w.heap.size ≤ n2:=Nat.le_of_eq hn.symm
 have l2_E : w.heap.size ≤ n2:=by rw [hn];exact E.size
 replace E:=ext_alloc E hw
 have q2:=new_row hw hn
 clear hw hn
 refine wpList_nil ?_
 refine hK1 _ _ ?_
 clear hK1
 refine wp_seq_k fun K2 hK2=>?_
 refine wp_seq_k fun K3 hK3=>?_
 refine wp_region_lit ?_
 refine F.mv ?_;clear F fa;intro fa F
 refine F.vl (R_len rfl rfl (F.at rfl) Tryz.underlying25) ?_;clear F fa;intro fa F
 refine F.vl (R_field rfl (F.at rfl) Tryz.underlying69 rfl (n:=0) (sz:=4) rfl (by kernel_rfl) (by decide)) ?_;clear F fa;intro fa F
 refine F.vl (R_field rfl (F.at rfl) Tryz.underlying24 rfl (n:=0) (sz:=1) rfl (by kernel_rfl) (by decide)) ?_;clear F fa;intro fa F
 refine F.vl (R_load rfl (F.at rfl) Tryz.underlying3 rfl ((cells_of_block q2 0).trans (get0))) ?_;clear F fa;intro fa F
 refine F.vl (R_lss rfl (F.at rfl) (F.at rfl)) ?_;clear F fa;intro fa F
 refine wpList_nil ?_
 refine hK3 _ _ ?_
 clear hK3
 refine cd_Fb F rfl (decide_eq_false (by omega)) ?_
 refine wp_skip ?_
 refine hK2 _ _ ?_
 clear hK2
 refine wp_seq_k fun K4 hK4=>?_
 refine wp_seq_k fun K5 hK5=>?_
 refine wp_region_lit ?_
 refine F.mv ?_;clear F fa;intro fa F
 refine F.vl (R_len rfl rfl (F.at rfl) Tryz.underlying25) ?_;clear F fa;intro fa F
 refine F.vl (R_field rfl (F.at rfl) Tryz.underlying69 rfl (n:=0) (sz:=4) rfl (by kernel_rfl) (by decide)) ?_;clear F fa;intro fa F
 refine F.vl (R_field rfl (F.at rfl) Tryz.underlying24 rfl (n:=0) (sz:=1) rfl (by kernel_rfl) (by decide)) ?_;clear F fa;intro fa F
 refine F.vl (R_load rfl (F.at rfl) Tryz.underlying3 rfl ((cells_of_block q2 0).trans (get0))) ?_;clear F fa;intro fa F
 refine F.vl (R_gtr rfl (F.at rfl) (F.at rfl)) ?_;clear F fa;intro fa F
 refine wpList_nil ?_
 refine hK5 _ _ ?_
 clear hK5
 refine cd_Fb F rfl (decide_eq_false (by omega)) ?_
 refine wp_skip ?_
 refine hK4 _ _ ?_
 clear hK4
 refine wp_seq_k fun K6 hK6=>?_
 refine wp_region_lit ?_
 refine F.mv ?_;clear F fa;intro fa F
 refine F.vl (R_field rfl (F.at rfl) Tryz.underlying69 rfl (n:=0) (sz:=4) rfl (by kernel_rfl) (by decide)) ?_;clear F fa;intro fa F
 refine F.vl (R_field rfl (F.at rfl) Tryz.underlying24 rfl (n:=0) (sz:=1) rfl (by kernel_rfl) (by decide)) ?_;clear F fa;intro fa F
 refine F.vl (R_load rfl (F.at rfl) Tryz.underlying3 rfl ((cells_of_block q2 0).trans (get0))) ?_;clear F fa;intro fa F
 refine sq_call F rfl (by decide) rfl (R_callV rfl rfl Tryz.call75 (mpS (F.at rfl) (mpS (F.at rfl) (mpS (ev_c fa _) mp0)))) (numbers_any s x.B 9 a c _ (HR.out.ext E (by simp)) (by omega) (by omega)) fun e w2 hR=>?_
 obtain ⟨rfl,e9⟩:=hR
 refine ⟨_,rfl,?_⟩;clear F fa;intro fa F
 replace q2:=(e9).keep0 q2
 replace E:=ext_same E (e9)
 clear e9
 rw [hz] at F
 refine F.mv ?_;clear F fa;intro fa F
 refine F.vl (R_extract rfl (F.at rfl) (get0)) ?_;clear F fa;intro fa F
 refine F.vl (R_extract rfl (F.at rfl) (getS (get0))) ?_;clear F fa;intro fa F
 refine F.as ?_;clear F fa;intro fa F
 refine F.as ?_;clear F fa;intro fa F
 refine wpList_nil ?_
 refine hK6 _ _ ?_
 clear hK6
 refine wp_region_lit ?_
 refine F.mv ?_;clear F fa;intro fa F
 refine sq_call F rfl (by decide) rfl (R_callV rfl rfl Tryz.call73 (mpS (F.at rfl) mp0)) (must_ok _) fun e w3 hR=>?_
 obtain ⟨rfl,e9⟩:=hR
 refine ⟨_,rfl,?_⟩;clear F fa;intro fa F
 replace q2:=(e9).keep0 q2
 replace E:=ext_same E (e9)
 clear e9
 refine wpList_nil ?_
 (try simp only [Exit.inBlock,Exit.then,reduceIte])
 refine rt_vn F (rs_0 rfl) ?_
 exact ⟨rfl,E⟩
def LmpsOk (x : Vm) (ls : List Int) : Prop:=1 ≤ ls.length ∧ LmpOk x ls ∧ ∀ i,0 < i → i < ls.length → ls.getD (i - 1) 0 < ls.getD i 0
set_option maxRecDepth 100000 in
theorem lamps_ok (x : Vm) (hv : VOk x) (ls : List Int) (hs : LmpsOk x ls) (hll : ls.length ≤ 1000) (a : Option Addr) (c : Nat) (w : World) (h : x.At w) (hr : IsRows w (.slice a ls.length c) 1 (ls.map intRow)) :
  Calls Tryz.prog 42 #[.agg #[.int .i64 x.B,.slice x.da x.D.length x.dc,.slice x.la x.L.length x.lc,.int .i64 x.tol],.slice a ls.length c] w fun e w'=>e = .returned (.tuple #[]) ∧ Ext [] w w':=by
 have E : Ext [] w w:=Ext.refl _ _
 obtain ⟨h1,h2,h3⟩:=hs
 have HX:=Lib.hid h
 have HV:=Lib.hid hv
 have H2:=Lib.hid h2
 have H3:=Lib.hid h3
 have HS:=Lib.hid (slAt_of_rows hr 0)
 clear hr h2 h3 h hv
 refine calls_has 33 Tryz.func42 rfl Tryz.ntmps42 (Nat.le_of_ble_eq_true rfl) ?_
 intro fa F
 refine wp_seq_k fun K1 hK1=>?_
 refine wp_region_lit ?_
 refine sq_new F rfl (by decide) rfl (R_box rfl (F.at rfl)) ?_;clear F fa;intro fa w1 F hw
 obtain ⟨n2,hn⟩ : ∃ n,n = w.heap.size:=⟨_,rfl⟩
 rw [← hn] at F
 have s2 : w.heap.size ≤ n2:=Nat.le_of_eq hn.symm
 have l2_E : w.heap.size ≤ n2:=by rw [hn];exact E.size
 replace E:=ext_alloc E hw
 have q2:=new_row hw hn
 clear hw hn
 refine wpList_nil ?_
 refine hK1 _ _ ?_
 clear hK1
 refine wp_seq_k fun K2 hK2=>?_
 refine wp_seq_k fun K3 hK3=>?_
 refine wp_region_lit ?_
 refine F.mv ?_;clear F fa;intro fa F
 refine F.vl (R_len rfl rfl (F.at rfl) Tryz.underlying25) ?_;clear F fa;intro fa F
 refine F.vl (R_eqlD rfl (F.at rfl) (ev_c fa _)) ?_;clear F fa;intro fa F
 refine wpList_nil ?_
 refine hK3 _ _ ?_
 clear hK3
 refine cd_Fb F rfl (decide_eq_false (by omega)) ?_
 refine wp_skip ?_
 refine hK2 _ _ ?_
 clear hK2
 refine wp_seq_k fun K4 hK4=>?_
 refine wp_region_lit ?_
 refine F.mv ?_;clear F fa;intro fa F
 refine F.vl (R_len rfl rfl (F.at rfl) Tryz.underlying25) ?_;clear F fa;intro fa F
 refine F.vl (R_move rfl (ev_c fa _)) ?_;clear F fa;intro fa F
 refine wpList_nil ?_
 refine hK4 _ _ ?_
 clear hK4
 refine wp_block ?_
 have F0:=F.sub (.c 1 rfl (.c 2 rfl (.c 10 rfl (.c 11 rfl .n))))
 refine lp_for F0 (ls.length) (fun i Lv W=>Lv = [(12,.int .i64 ((i : Nat) : Int))] ∧ Ext [] w W ∧ W.heap[n2]? = some (.cells #[.int .i64 x.B,.slice x.da x.D.length x.dc,.slice x.la x.L.length x.lc,.int .i64 x.tol] 69 (0,0))) ⟨_,⟨rfl,E,q2⟩,F.sub (.c 12 rfl (.c 1 rfl (.c 2 rfl (.c 10 rfl (.c 11 rfl .n)))))⟩ ?_
 clear F F0
 clear E q2
 rintro i _ fa w2 hi1 ⟨rfl,E,q2⟩ F
 refine wp_seq_k fun K5 hK5=>?_
 refine wp_region_lit ?_
 refine F.vl (R_lss rfl (F.at rfl) (F.at rfl)) ?_;clear F fa;intro fa F
 refine wpList_nil ?_
 refine hK5 _ _ ?_
 clear hK5
 refine wp_seq_k fun K6 hK6=>?_
 refine cd_if F rfl (fun hc13=>?_) (fun hc13=>?_)
 ·skip
  refine wp_skip ?_
  refine hK6 _ _ ?_
  clear hK6
  refine wp_seq_k fun K7 hK7=>?_
  refine wp_block ?_
  refine wp_seq_k fun K8 hK8=>?_
  refine wp_region_lit ?_
  refine F.mv ?_;clear F fa;intro fa F
  obtain ⟨xb9,xo9,xa9,xr9⟩:=HS.out i (by omega)
  refine F.vl (R_ixSlice (sz:=1) rfl ((F.at rfl).trans (xa9 _ _)) (F.at rfl) Tryz.underlying25 (by kernel_rfl) (by omega) (by omega)) ?_;clear F fa;intro fa F
  refine F.vl (R_load rfl (F.at rfl) Tryz.underlying3 rfl (xr9 _ E 0 _ rfl)) ?_;clear F fa;intro fa F
  refine F.as ?_;clear F fa;intro fa F
  refine F.as ?_;clear F fa;intro fa F
  refine wpList_nil ?_
  refine hK8 _ _ ?_
  clear hK8
  refine wp_seq_k fun K10 hK10=>?_
  obtain ⟨hk0,hk1⟩:=H2.out _ (getD_mem (l:=ls) (i:=i) 0 (by omega))
  refine wp_region_lit ?_
  refine F.vl (R_loadBlk rfl (F.at rfl) Tryz.underlying69 rfl (by kernel_rfl) q2) ?_;clear F fa;intro fa F
  refine F.mv ?_;clear F fa;intro fa F
  refine sq_call F rfl (by decide) rfl (R_callV rfl rfl Tryz.call51 (mpS (F.at rfl) (mpS (F.at rfl) mp0))) (lamp_ok x HV.out (ls.getD i 0) hk0 hk1 _) fun e w3 hR=>?_
  obtain ⟨rfl,e9⟩:=hR
  refine ⟨_,rfl,?_⟩;clear F fa;intro fa F
  replace q2:=(e9).keep0 q2
  replace E:=ext_same E (e9)
  clear e9
  refine wpList_nil ?_
  refine hK10 _ _ ?_
  clear hK10
  refine wp_seq_k fun K11 hK11=>?_
  by_cases ci : 0 < i
  ·skip
   have hlt:=H3.out i ci (by omega)
   refine wp_region_lit ?_
   refine F.mv ?_;clear F fa;intro fa F
   refine F.vl (R_gtrB (b:=true) rfl (F.at rfl) (ev_c fa _) (decide_eq_true ((by omega)))) ?_;clear F fa;intro fa F
   refine F.mv ?_;clear F fa;intro fa F
   refine F.mv ?_ (hw:=(wantT F rfl rfl (by decide) rfl));clear F fa;intro fa F
   refine F.mv ?_ (hw:=(wantT F rfl rfl (by decide) rfl));clear F fa;intro fa F
   refine F.mv ?_ (hw:=(wantT F rfl rfl (by decide) rfl));clear F fa;intro fa F
   refine F.vl (R_sub rfl (F.at rfl) (ev_c fa _) (by omega) (by omega)) ?_ (hw:=(wantT F rfl rfl (by decide) rfl));clear F fa;intro fa F
   rw [show (((i : Nat) : Int) - 1) = ((i - 1 : Nat) : Int) by omega] at F
   obtain ⟨xb12,xo12,xa12,xr12⟩:=HS.out (i - 1) (by omega)
   refine F.vl (R_ixSlice (sz:=1) rfl ((F.at rfl).trans (xa12 _ _)) (F.at rfl) Tryz.underlying25 (by kernel_rfl) (by omega) (by omega)) ?_ (hw:=(wantT F rfl rfl (by decide) rfl));clear F fa;intro fa F
   refine F.vl (R_load rfl (F.at rfl) Tryz.underlying3 rfl (xr12 _ E 0 _ rfl)) ?_ (hw:=(wantT F rfl rfl (by decide) rfl));clear F fa;intro fa F
   refine F.vl (R_leqB (b:=false) rfl (F.at rfl) (F.at rfl) (decide_eq_false ((by omega)))) ?_ (hw:=(wantT F rfl rfl (by decide) rfl));clear F fa;intro fa F
   refine F.vl (R_pickT rfl (F.at rfl) (F.at rfl)) ?_;clear F fa;intro fa F
   refine wpList_nil ?_
   refine hK11 _ _ ?_
   clear hK11
   refine cd_F F rfl ?_
   refine wp_skip ?_
   refine hK7 _ _ ?_
   clear hK7
   refine wp_region_lit ?_
   refine F.vl (R_add rfl (F.at rfl) (ev_c fa _) (by omega) (by omega)) ?_;clear F fa;intro fa F
   refine F.mv ?_;clear F fa;intro fa F
   refine wpList_nil ?_
   show _ ∧ _
   exact ⟨by omega,_,⟨rfl,E,q2⟩,F.sub (.c 12 rfl (.c 1 rfl (.c 2 rfl (.c 10 rfl (.c 11 rfl .n)))))⟩
  ·skip
   refine wp_region_lit ?_
   refine F.mv ?_;clear F fa;intro fa F
   refine F.vl (R_gtrB (b:=false) rfl (F.at rfl) (ev_c fa _) (decide_eq_false ((by omega)))) ?_;clear F fa;intro fa F
   refine F.mv ?_;clear F fa;intro fa F
   refine sq_no F rfl (by decide) (wantF F rfl rfl (by decide) rfl (by decide)) ?_;clear F fa;intro fa F
   refine sq_no F rfl (by decide) (wantF F rfl rfl (by decide) rfl (by decide)) ?_;clear F fa;intro fa F
   refine sq_no F rfl (by decide) (wantF F rfl rfl (by decide) rfl (by decide)) ?_;clear F fa;intro fa F
   refine sq_no F rfl (by decide) (wantF F rfl rfl (by decide) rfl (by decide)) ?_;clear F fa;intro fa F
   refine sq_no F rfl (by decide) (wantF F rfl rfl (by decide) rfl (by decide)) ?_;clear F fa;intro fa F
   refine sq_no F rfl (by decide) (wantF F rfl rfl (by decide) rfl (by decide)) ?_;clear F fa;intro fa F
   refine sq_no F rfl (by decide) (wantF F rfl rfl (by decide) rfl (by decide)) ?_;clear F fa;intro fa F
   refine F.vl (R_pickF rfl (F.at rfl) (ev_c fa _)) ?_;clear F fa;intro fa F
   refine wpList_nil ?_
   refine hK11 _ _ ?_
   clear hK11
   refine cd_F F rfl ?_
   refine wp_skip ?_
   refine hK7 _ _ ?_
   clear hK7
   refine wp_region_lit ?_
   refine F.vl (R_add rfl (F.at rfl) (ev_c fa _) (by omega) (by omega)) ?_;clear F fa;intro fa F
   refine F.mv ?_;clear F fa;intro fa F
   refine wpList_nil ?_
   show _ ∧ _
   exact ⟨by omega,_,⟨rfl,E,q2⟩,F.sub (.c 12 rfl (.c 1 rfl (.c 2 rfl (.c 10 rfl (.c 11 rfl .n)))))⟩
 ·skip
  refine wp_exit ?_
  (try simp only [Exit.inBlock,Exit.then,reduceIte])
  refine rt_vn F (rs_0 rfl) ?_
  exact ⟨rfl,E⟩
structure RcpOk (x : Vm) (l : List Int) : Prop where
 len : l.length = x.D.length
 bd : ∀ n ∈ l,0 ≤ n ∧ n ≤ 6
 s1 : 1 ≤ l.sum
 s6 : l.sum ≤ 6
theorem val_bd {l : List Int} {a b : Int} (h : ∀ n ∈ l,a ≤ n ∧ n ≤ b) (h0 : a ≤ 0) (h1 : 0 ≤ b) (k : Nat) : a ≤ val l k ∧ val l k ≤ b:=by
 by_cases hk : k < l.length
 ·exact h _ (getD_mem 0 hk)
 ·rw [val,List.getD_eq_getElem?_getD,List.getElem?_eq_none (by omega)];exact ⟨h0,h1⟩
theorem RcpOk.tub {x : Vm} {l : List Int} (h : RcpOk x l) : TubS (val l):=fun k _=>val_bd h.bd (by omega) (by omega) k
theorem put_tub4 {w w2 : World} {b : Nat} {l : List Int} {T : TypeId} (e : w2 = w.setCells b 0 (l.map (Value.int .i64))) (H : w.heap[b]? = some (.cells (tubC zf) T (0,0))) (hl : l.length ≤ 4) : w2.heap[b]? = some (.cells (tubC (val l)) T (0,0)):=by
 rw [e]
 match l,hl with
 | [],_=>exact H
 | [p],_=>exact put_cell (w2:=w.setCells b 0 [.int .i64 p]) rfl H rfl
 | [p,q],_=>exact put_mid2 (w2:=w.setCells b 0 [.int .i64 p,.int .i64 q]) rfl H rfl
 | [p,q,r],_=>exact put_cell (w2:=w.setCells b 0 [.int .i64 p,.int .i64 q,.int .i64 r]) (w:=(w.setCells b 0 [.int .i64 p,.int .i64 q])) (o:=2) rfl (put_mid2 (w2:=w.setCells b 0 [.int .i64 p,.int .i64 q]) rfl H rfl) rfl
 | [p,q,r,s],_=>exact put_row (cs:=tubC (val [p,q,r,s])) rfl H rfl
 | p :: q :: r :: s :: t :: l,h=>simp at h
theorem sizE_ok {n m : Int} (h1 : 1 ≤ n) (h2 : n ≤ m) : sizE n m = 0:=by rw [sizE,if_neg (by omega),if_neg (by omega)]
set_option maxRecDepth 100000 in
set_option maxHeartbeats 1000000 in
theorem recipe_ok (x : Vm) (hv : VOk x) (l : List Int) (hl : RcpOk x l) (a : Option Addr) (c : Nat) (w : World) (hr : IsRows w (.slice a l.length c) 1 (l.map intRow)) :
  Calls Tryz.prog 52 #[.agg #[.int .i64 x.B,.slice x.da x.D.length x.dc,.slice x.la x.L.length x.lc,.int .i64 x.tol],.slice a l.length c] w fun e w'=>e = .returned (.agg (tubC (val l))) ∧ Ext [] w w':=by
 have E : Ext [] w w:=Ext.refl _ _
 have HR:=Lib.hid hr
 have HS:=Lib.hid (slAt_of_rows hr 0)
 have HB:=Lib.hid hl.bd
 have HT:=Lib.hid hl.tub.ok
 have hlen:=hl.len
 have hd1:=hv.d1
 have hd4:=hv.d4
 have hpr : prt (val l) = l.sum:=sumTo_list l 4 (by omega)
 have hsz : sizE l.sum 6 = 0:=sizE_ok hl.s1 hl.s6
 clear hr hl hv
 refine calls_has 42 Tryz.func52 rfl Tryz.ntmps52 (Nat.le_of_ble_eq_true rfl) ?_
 intro fa F
 refine wp_seq_k fun K1 hK1=>?_
 refine wp_region_lit ?_
 refine sq_new F rfl (by decide) rfl (R_box rfl (F.at rfl)) ?_;clear F fa;intro fa w1 F hw
 obtain ⟨n2,hn⟩ : ∃ n,n = w.heap.size:=⟨_,rfl⟩
 rw [← hn] at F
 have s2 : w.heap.size ≤ n2:=Nat.le_of_eq hn.symm
 have l2_E : w.heap.size ≤ n2:=by rw [hn];exact E.size
 replace E:=ext_alloc E hw
 have q2:=new_row hw hn
 clear hw hn
 refine sq_new F rfl (by decide) rfl (R_alloc rfl Tryz.zeroValue75) ?_;clear F fa;intro fa w2 F hw
 obtain ⟨n4,hn⟩ : ∃ n,n = w1.heap.size:=⟨_,rfl⟩
 rw [← hn] at F
 have s4 : w1.heap.size ≤ n4:=Nat.le_of_eq hn.symm
 have l4_E : w.heap.size ≤ n4:=by rw [hn];exact E.size
 have m4_2 : n2 < n4:=by rw [hn];exact blk_lt q2
 replace q2:=keep_alloc hw q2
 replace E:=ext_alloc E hw
 have q4:=new_row hw hn
 clear hw hn
 refine wpList_nil ?_
 refine hK1 _ _ ?_
 clear hK1
 refine wp_seq_k fun K2 hK2=>?_
 refine wp_seq_k fun K3 hK3=>?_
 refine wp_region_lit ?_
 refine F.mv ?_;clear F fa;intro fa F
 refine F.vl (R_len rfl rfl (F.at rfl) Tryz.underlying25) ?_;clear F fa;intro fa F
 refine F.vl (R_field rfl (F.at rfl) Tryz.underlying69 rfl (n:=0) (sz:=4) rfl (by kernel_rfl) (by decide)) ?_;clear F fa;intro fa F
 refine F.vl (R_field rfl (F.at rfl) Tryz.underlying24 rfl (n:=1) (sz:=1) rfl (by kernel_rfl) (by decide)) ?_;clear F fa;intro fa F
 refine F.vl (R_load rfl (F.at rfl) Tryz.underlying22 rfl ((cells_of_block q2 1).trans (getS (get0)))) ?_;clear F fa;intro fa F
 refine F.vl (R_len rfl rfl (F.at rfl) Tryz.underlying22) ?_;clear F fa;intro fa F
 refine F.vl (R_lss rfl (F.at rfl) (F.at rfl)) ?_;clear F fa;intro fa F
 refine wpList_nil ?_
 refine hK3 _ _ ?_
 clear hK3
 refine cd_Fb F rfl (decide_eq_false (by omega)) ?_
 refine wp_skip ?_
 refine hK2 _ _ ?_
 clear hK2
 refine wp_seq_k fun K4 hK4=>?_
 refine wp_seq_k fun K5 hK5=>?_
 refine wp_region_lit ?_
 refine F.mv ?_;clear F fa;intro fa F
 refine F.vl (R_len rfl rfl (F.at rfl) Tryz.underlying25) ?_;clear F fa;intro fa F
 refine F.vl (R_field rfl (F.at rfl) Tryz.underlying69 rfl (n:=0) (sz:=4) rfl (by kernel_rfl) (by decide)) ?_;clear F fa;intro fa F
 refine F.vl (R_field rfl (F.at rfl) Tryz.underlying24 rfl (n:=1) (sz:=1) rfl (by kernel_rfl) (by decide)) ?_;clear F fa;intro fa F
 refine F.vl (R_load rfl (F.at rfl) Tryz.underlying22 rfl ((cells_of_block q2 1).trans (getS (get0)))) ?_;clear F fa;intro fa F
 refine F.vl (R_len rfl rfl (F.at rfl) Tryz.underlying22) ?_;clear F fa;intro fa F
 refine F.vl (R_gtr rfl (F.at rfl) (F.at rfl)) ?_;clear F fa;intro fa F
 refine wpList_nil ?_
 refine hK5 _ _ ?_
 clear hK5
 refine cd_Fb F rfl (decide_eq_false (by omega)) ?_
 refine wp_skip ?_
 refine hK4 _ _ ?_
 clear hK4
 refine wp_seq_k fun K6 hK6=>?_
 refine wp_seq_k fun K7 hK7=>?_
 refine wp_region_lit ?_
 refine F.mv ?_;clear F fa;intro fa F
 refine F.vl (R_len rfl rfl (F.at rfl) Tryz.underlying25) ?_;clear F fa;intro fa F
 refine F.vl (R_move rfl (ev_c fa _)) ?_;clear F fa;intro fa F
 refine wpList_nil ?_
 refine hK7 _ _ ?_
 clear hK7
 refine wp_block ?_
 have F0:=F.sub (.c 1 rfl (.c 4 rfl (.c 24 rfl (.c 25 rfl .n))))
 refine lp_for F0 (l.length) (fun i Lv W=>Lv = [(26,.int .i64 ((i : Nat) : Int))] ∧ Ext [] w W ∧ W.heap[n2]? = some (.cells #[.int .i64 x.B,.slice x.da x.D.length x.dc,.slice x.la x.L.length x.lc,.int .i64 x.tol] 69 (0,0)) ∧ W.heap[n4]? = some (.cells #[.int .i64 0,.int .i64 0,.int .i64 0,.int .i64 0] 75 (0,0))) ⟨_,⟨rfl,E,q2,q4⟩,F.sub (.c 26 rfl (.c 1 rfl (.c 4 rfl (.c 24 rfl (.c 25 rfl .n)))))⟩ ?_
 clear F F0
 clear E q2 q4
 rintro i _ fa w3 hi1 ⟨rfl,E,q2,q4⟩ F
 refine wp_seq_k fun K8 hK8=>?_
 refine wp_region_lit ?_
 refine F.vl (R_lss rfl (F.at rfl) (F.at rfl)) ?_;clear F fa;intro fa F
 refine wpList_nil ?_
 refine hK8 _ _ ?_
 clear hK8
 refine wp_seq_k fun K9 hK9=>?_
 refine cd_if F rfl (fun hc27=>?_) (fun hc27=>?_)
 ·skip
  refine wp_skip ?_
  refine hK9 _ _ ?_
  clear hK9
  refine wp_seq_k fun K10 hK10=>?_
  refine wp_block ?_
  refine wp_seq_k fun K11 hK11=>?_
  refine wp_region_lit ?_
  obtain ⟨xb12,xo12,xa12,xr12⟩:=HS.out i (by omega)
  refine F.vl (R_ixSlice (sz:=1) rfl ((F.at rfl).trans (xa12 _ _)) (F.at rfl) Tryz.underlying25 (by kernel_rfl) (by omega) (by omega)) ?_;clear F fa;intro fa F
  refine F.vl (R_load rfl (F.at rfl) Tryz.underlying3 rfl (xr12 _ E 0 _ rfl)) ?_;clear F fa;intro fa F
  refine F.as ?_;clear F fa;intro fa F
  refine wpList_nil ?_
  refine hK11 _ _ ?_
  clear hK11
  refine wp_seq_k fun K13 hK13=>?_
  have hno:=outB_no.2 (HB.out _ (getD_mem (l:=l) (i:=i) 0 (by omega)))
  refine wp_region_lit ?_
  refine F.mv ?_;clear F fa;intro fa F
  refine sq_call F rfl (by decide) rfl (R_callV rfl rfl Tryz.call83 (mpS (F.at rfl) (mpS (ev_c fa _) (mpS (ev_c fa _) mp0)))) (outside_any (l.getD i 0) 0 6 _) fun e w4 hR=>?_
  obtain ⟨rfl,e9⟩:=hR
  refine ⟨_,rfl,?_⟩;clear F fa;intro fa F
  replace q2:=(e9).keep0 q2
  replace q4:=(e9).keep0 q4
  replace E:=ext_same E (e9)
  clear e9
  refine wpList_nil ?_
  refine hK13 _ _ ?_
  clear hK13
  refine cd_Fb F rfl (hno) ?_
  refine wp_skip ?_
  refine hK10 _ _ ?_
  clear hK10
  refine wp_region_lit ?_
  refine F.vl (R_add rfl (F.at rfl) (ev_c fa _) (by omega) (by omega)) ?_;clear F fa;intro fa F
  refine F.mv ?_;clear F fa;intro fa F
  refine wpList_nil ?_
  show _ ∧ _
  exact ⟨by omega,_,⟨rfl,E,q2,q4⟩,F.sub (.c 26 rfl (.c 1 rfl (.c 4 rfl (.c 24 rfl (.c 25 rfl .n)))))⟩
 ·skip
  refine wp_exit ?_
  refine hK6 _ _ ?_
  clear hK6
  refine wp_seq_k fun K14 hK14=>?_
  refine wp_region_lit ?_
  refine sq_new F rfl (by decide) rfl (R_alloc rfl Tryz.zeroValue75) ?_;clear F fa;intro fa w5 F hw
  obtain ⟨n7,hn⟩ : ∃ n,n = w3.heap.size:=⟨_,rfl⟩
  rw [← hn] at F
  have s7 : w3.heap.size ≤ n7:=Nat.le_of_eq hn.symm
  have l7_E : w.heap.size ≤ n7:=by rw [hn];exact E.size
  have m7_2 : n2 < n7:=by rw [hn];exact blk_lt q2
  have m7_4 : n4 < n7:=by rw [hn];exact blk_lt q4
  replace q2:=keep_alloc hw q2
  replace q4:=keep_alloc hw q4
  replace E:=ext_alloc E hw
  have q7:=new_row hw hn
  clear hw hn
  refine wpList_nil ?_
  replace q7 : w5.heap[n7]? = some (.cells (tubC zf) 75 (0,0)):=q7
  refine hK14 _ _ ?_
  clear hK14
  refine wp_seq_k fun K15 hK15=>?_
  refine wp_region_lit ?_
  refine F.vl ((R_sliceAll (n:=4) rfl (F.at rfl) (by kernel_rfl) (by kernel_rfl) (by kernel_rfl))) ?_;clear F fa;intro fa F
  refine F.mv ?_;clear F fa;intro fa F
  have hlr2:=HR.out.ext E (by simp)
  obtain ⟨sb,so,hsa,-,-⟩:=hlr2.range rfl (by intro e;have hq:=congrArg List.length e;rw [List.length_map,List.length_nil] at hq;omega)
  rw [hsa] at hlr2
  have hcd : ∀ j,j < l.length → (w5.cell? ⟨n7,0 + j,none⟩).isSome = true:=fun j hj=>(by have:=tub_at q7 (i:=(j : Int)) (k:=j) rfl (by omega);rw [Nat.mul_one,Int.toNat_natCast] at this;rw [this];rfl)
  refine sq_new F rfl (by decide) rfl (R_copy (l.map (Value.int .i64)) rfl (F.at rfl) ((F.at rfl).trans (congrArg (fun z=>Value.slice z _ _) hsa)) Tryz.underlying25 (by kernel_rfl) (by rw [List.length_map];exact (Nat.min_eq_left (by omega)).symm) (copy_src hlr2) (by rw [List.length_map];exact hcd) (by rw [List.length_map];exact fun j _=>free_of_block q7 _) (ints_one _)) ?_;clear F fa;intro fa w6 F hw
  replace q2:=keep_cells hw q2 (by omega)
  replace q4:=keep_cells hw q4 (by omega)
  replace q7:=put_tub4 hw q7 (by omega)
  replace E:=ext_cells E hw (fun h=>by first | exact absurd h (by omega) | simp)
  clear hw
  refine wpList_nil ?_
  refine hK15 _ _ ?_
  clear hK15
  refine wp_seq_k fun K16 hK16=>?_
  refine wp_region_lit ?_
  refine F.vl (R_loadBlk rfl (F.at rfl) Tryz.underlying75 rfl (by kernel_rfl) q7) ?_;clear F fa;intro fa F
  refine sq_call F rfl (by decide) rfl (R_callV rfl rfl Tryz.call48 (mpS (F.at rfl) mp0)) (parts_any (val l) HT.out _) fun e w7 hR=>?_
  obtain ⟨rfl,e9⟩:=hR
  refine ⟨_,rfl,?_⟩;clear F fa;intro fa F
  replace q2:=(e9).keep0 q2
  replace q4:=(e9).keep0 q4
  replace q7:=(e9).keep0 q7
  replace E:=ext_same E (e9)
  clear e9
  rw [hpr] at F
  refine sq_call F rfl (by decide) rfl (R_callV rfl rfl Tryz.call84 (mpS (F.at rfl) (mpS (ev_c fa _) mp0))) (sized_any l.sum 6 _) fun e w8 hR=>?_
  obtain ⟨rfl,e9⟩:=hR
  refine ⟨_,rfl,?_⟩;clear F fa;intro fa F
  replace q2:=(e9).keep0 q2
  replace q4:=(e9).keep0 q4
  replace q7:=(e9).keep0 q7
  replace E:=ext_same E (e9)
  clear e9
  rw [hsz] at F
  refine sq_call F rfl (by decide) rfl (R_callV rfl rfl Tryz.call73 (mpS (F.at rfl) mp0)) (must_ok _) fun e w9 hR=>?_
  obtain ⟨rfl,e9⟩:=hR
  refine ⟨_,rfl,?_⟩;clear F fa;intro fa F
  replace q2:=(e9).keep0 q2
  replace q4:=(e9).keep0 q4
  replace q7:=(e9).keep0 q7
  replace E:=ext_same E (e9)
  clear e9
  refine wpList_nil ?_
  refine hK16 _ _ ?_
  clear hK16
  refine wp_seq_k fun K17 hK17=>?_
  refine wp_region_lit ?_
  refine F.vl (R_loadBlk rfl (F.at rfl) Tryz.underlying75 rfl (by kernel_rfl) q7) ?_;clear F fa;intro fa F
  refine sq_to rfl rfl (R_storeRow rfl (F.at rfl) (F.at rfl) (by kernel_rfl) (by simp [tubC,Value.oneCell']) q4 rfl) ?_;intro w10 hw
  replace q2:=keep_cells hw q2 (by omega)
  replace q4:=put_row hw q4 rfl
  replace q7:=keep_cells hw q7 (by omega)
  replace E:=ext_cells E hw (fun h=>by first | exact absurd h (by omega) | simp)
  clear hw
  refine wpList_nil ?_
  refine hK17 _ _ ?_
  clear hK17
  refine wp_ret ?_
  (try simp only [Exit.inBlock,Exit.then,reduceIte])
  refine rt_v F (rs_c F rfl rfl Tryz.underlying75 rfl (by kernel_rfl) q4) ?_
  exact ⟨rfl,E⟩
def gcT (f : Nat → Int) : Nat → Nat
 | 0=>0
 | k + 1=>Nat.gcd (gcT f k) (f k).toNat
def gcE (f : Nat → Int) : Nat:=gcT f 4
def lowF (f : Nat → Int) (d : Int) (i : Nat) : Nat → Int:=fun j=>if j < i then f j / d else f j
theorem gcT_le {f : Nat → Int} (hf : TubS f) : ∀ {k : Nat},k ≤ 4 → gcT f k ≤ 6
 | 0,_=>by simp [gcT]
 | k + 1,hk=>by
  rw [gcT]
  obtain ⟨h0,h1⟩:=hf k (by omega)
  by_cases e : (f k).toNat = 0
  ·rw [e,Nat.gcd_zero_right];exact gcT_le hf (by omega)
  ·exact Nat.le_trans (Nat.le_of_dvd (by omega) (Nat.gcd_dvd_right _ _)) (by omega)
theorem gcd_round {u v : Nat} (h : 0 < v) : Nat.gcd v (u % v) = Nat.gcd u v:=by
 rw [Nat.gcd_comm v,← Nat.gcd_rec,Nat.gcd_comm]
set_option maxRecDepth 100000 in
set_option maxHeartbeats 1000000 in
theorem lowest_ok (f : Nat → Int) (hf : TubS f) (hg : 0 < gcE f) (w : World) : Calls Tryz.prog 76 #[.agg (tubC f)] w fun e w'=>e = .returned (.agg (tubC (lowF f (gcE f) 4))) ∧ Ext [] w w':=by
 have E : Ext [] w w:=Ext.refl _ _
 have HF:=Lib.hid hf
 have hg6 : gcE f ≤ 6:=gcT_le hf (by omega)
 clear hf
 refine calls_has 29 Tryz.func76 rfl Tryz.ntmps76 (Nat.le_of_ble_eq_true rfl) ?_
 intro fa F
 refine wp_seq_k fun K1 hK1=>?_
 refine wp_region_lit ?_
 refine sq_new F rfl (by decide) rfl (R_box rfl (F.at rfl)) ?_;clear F fa;intro fa w1 F hw
 obtain ⟨n1,hn⟩ : ∃ n,n = w.heap.size:=⟨_,rfl⟩
 rw [← hn] at F
 have s1 : w.heap.size ≤ n1:=Nat.le_of_eq hn.symm
 have l1_E : w.heap.size ≤ n1:=by rw [hn];exact E.size
 replace E:=ext_alloc E hw
 have q1:=new_row hw hn
 clear hw hn
 refine sq_new F rfl (by decide) rfl (R_alloc rfl Tryz.zeroValue75) ?_;clear F fa;intro fa w2 F hw
 obtain ⟨n2,hn⟩ : ∃ n,n = w1.heap.size:=⟨_,rfl⟩
 rw [← hn] at F
 have s2 : w1.heap.size ≤ n2:=Nat.le_of_eq hn.symm
 have l2_E : w.heap.size ≤ n2:=by rw [hn];exact E.size
 have m2_1 : n1 < n2:=by rw [hn];exact blk_lt q1
 replace q1:=keep_alloc hw q1
 replace E:=ext_alloc E hw
 have q2:=new_row hw hn
 clear hw hn
 refine wpList_nil ?_
 refine hK1 _ _ ?_
 clear hK1
 refine wp_seq_k fun K2 hK2=>?_
 refine wp_region_lit ?_
 refine F.vl (R_assign rfl (ev_c fa _)) ?_;clear F fa;intro fa F
 rw [show (0 : Int) = ((gcT f 0 : Nat) : Int) from rfl] at F
 refine wpList_nil ?_
 refine hK2 _ _ ?_
 clear hK2
 refine wp_seq_k fun K3 hK3=>?_
 refine wp_seq_k fun K4 hK4=>?_
 refine wp_region_lit ?_
 refine F.vl (R_loadBlk rfl (F.at rfl) Tryz.underlying75 rfl (by kernel_rfl) q1) ?_;clear F fa;intro fa F
 refine F.vl (R_move rfl (ev_c fa _)) ?_;clear F fa;intro fa F
 rw [show (0 : Int) = ((0 : Nat) : Int) from rfl] at F
 refine wpList_nil ?_
 refine hK4 _ _ ?_
 clear hK4
 refine wp_block ?_
 have F0:=F.sub (.c 1 rfl (.c 2 rfl (.c 7 rfl .n)))
 refine lp_for F0 (4) (fun i Lv W=>Lv = [(3,.int .i64 ((gcT f i : Nat) : Int)),(8,.int .i64 ((i : Nat) : Int))] ∧ Ext [] w W ∧ W.heap[n1]? = some (.cells (tubC f) 75 (0,0)) ∧ W.heap[n2]? = some (.cells #[.int .i64 0,.int .i64 0,.int .i64 0,.int .i64 0] 75 (0,0))) ⟨_,⟨rfl,E,q1,q2⟩,F.sub (.c 3 rfl (.c 8 rfl (.c 1 rfl (.c 2 rfl (.c 7 rfl .n)))))⟩ ?_
 clear F F0
 clear E q1 q2
 rintro i _ fa w3 hi1 ⟨rfl,E,q1,q2⟩ F
 refine wp_seq_k fun K5 hK5=>?_
 refine wp_region_lit ?_
 refine F.vl (R_lss rfl (F.at rfl) (ev_c fa _)) ?_;clear F fa;intro fa F
 refine wpList_nil ?_
 refine hK5 _ _ ?_
 clear hK5
 refine wp_seq_k fun K6 hK6=>?_
 refine cd_if F rfl (fun hc9=>?_) (fun hc9=>?_)
 ·skip
  refine wp_skip ?_
  refine hK6 _ _ ?_
  clear hK6
  refine wp_seq_k fun K7 hK7=>?_
  refine wp_block ?_
  refine wp_seq_k fun K8 hK8=>?_
  obtain ⟨hf0,hf1⟩:=HF.out i (by omega)
  obtain ⟨p,hp⟩ : ∃ p : Nat,f i = p:=⟨(f i).toNat,by omega⟩
  have hpn : (f i).toNat = p:=by omega
  refine wp_region_lit ?_
  refine F.vl (R_index rfl (F.at rfl) (F.at rfl) Tryz.underlying75 (by kernel_rfl) Tryz.underlying3 rfl (by omega) (by omega) (tub_ix (k:=i) rfl (by omega))) ?_;clear F fa;intro fa F
  refine F.as ?_;clear F fa;intro fa F
  refine wpList_nil ?_
  rw [hp] at F
  refine hK8 _ _ ?_
  clear hK8
  refine wp_block ?_
  have F0:=F.sub (.c 1 rfl (.c 2 rfl (.c 7 rfl (.c 8 rfl .n))))
  refine lp_for F0 (6) (fun j Lv W=>∃ u v : Nat,Lv = [(3,.int .i64 ((u : Nat) : Int)),(5,.int .i64 ((v : Nat) : Int))] ∧ Ext [] w W ∧ W.heap[n1]? = some (.cells (tubC f) 75 (0,0)) ∧ W.heap[n2]? = some (.cells #[.int .i64 0,.int .i64 0,.int .i64 0,.int .i64 0] 75 (0,0)) ∧ Nat.gcd u v = gcT f (i + 1) ∧ v + j ≤ 6 ∧ u ≤ 6) ⟨_,⟨_,_,rfl,E,q1,q2,(by rw [gcT,hpn]),(by omega),(gcT_le HF.out (by omega))⟩,F.sub (.c 3 rfl (.c 5 rfl (.c 1 rfl (.c 2 rfl (.c 7 rfl (.c 8 rfl .n))))))⟩ ?_
  clear F F0
  clear E q1 q2
  rintro j _ fa w4 hi2 ⟨u,v,rfl,E,q1,q2,hgc,hvj,hu6⟩ F
  refine wp_seq_k fun K9 hK9=>?_
  refine wp_seq_k fun K10 hK10=>?_
  refine wp_region_lit ?_
  refine F.mv ?_;clear F fa;intro fa F
  refine F.vl (R_gtr rfl (F.at rfl) (ev_c fa _)) ?_;clear F fa;intro fa F
  refine wpList_nil ?_
  refine hK10 _ _ ?_
  clear hK10
  refine cd_if F rfl (fun hc12=>?_) (fun hc12=>?_)
  ·skip
   refine wp_skip ?_
   refine hK9 _ _ ?_
   clear hK9
   refine wp_block ?_
   refine wp_region_st 5 follows (by kernel_rfl) fun w5 hh eh=>?_
   replace q1:=keep_same hh q1
   replace q2:=keep_same hh q2
   replace E:=ext_same E eh
   clear hh eh
   refine F.smv ?_;clear F fa;intro fa F
   refine F.smv ?_;clear F fa;intro fa F
   refine F.smv ?_;clear F fa;intro fa F
   refine F.sv (R_remP rfl (F.at rfl) (F.at rfl) (by omega) (by omega)) ?_;clear F fa;intro fa F
   refine F.sv (R_assign rfl (F.at rfl)) ?_;clear F fa;intro fa F
   refine wpStill_nil ?_
   refine F.as ?_;clear F fa;intro fa F
   refine wpList_nil ?_
   rw [show (((u : Nat) : Int) % ((v : Nat) : Int)) = ((u % v : Nat) : Int) from rfl] at F
   show _ ∧ _
   exact ⟨by omega,_,⟨_,_,rfl,E,q1,q2,(by rw [← hgc];exact gcd_round (by omega)),(by have:=Nat.mod_lt u (show 0 < v by omega);omega),(by omega)⟩,F.sub (.c 3 rfl (.c 5 rfl (.c 1 rfl (.c 2 rfl (.c 7 rfl (.c 8 rfl .n))))))⟩
  ·skip
   refine wp_exit ?_
   have hv0 : v = 0:=by omega
   rw [show u = gcT f (i + 1) by rw [← hgc,hv0,Nat.gcd_zero_right]] at F
   refine hK7 _ _ ?_
   clear hK7
   refine wp_region_lit ?_
   refine F.vl (R_add rfl (F.at rfl) (ev_c fa _) (by omega) (by omega)) ?_;clear F fa;intro fa F
   refine F.mv ?_;clear F fa;intro fa F
   refine wpList_nil ?_
   show _ ∧ _
   exact ⟨by omega,_,⟨rfl,E,q1,q2⟩,F.sub (.c 3 rfl (.c 8 rfl (.c 1 rfl (.c 2 rfl (.c 7 rfl .n)))))⟩
 ·skip
  refine wp_exit ?_
  have hi4 : gcT f i = gcE f:=by rw [show i = 4 by omega];rfl
  rw [hi4] at F
  refine hK3 _ _ ?_
  clear hK3
  refine wp_seq_k fun K11 hK11=>?_
  refine wp_seq_k fun K12 hK12=>?_
  refine wp_region_lit ?_
  refine F.vl (R_move rfl (ev_c fa _)) ?_;clear F fa;intro fa F
  rw [show (0 : Int) = ((0 : Nat) : Int) from rfl] at F
  refine wpList_nil ?_
  replace q1 : w3.heap[n1]? = some (.cells (tubC (lowF f (gcE f) 0)) 75 (0,0)):=q1
  refine hK12 _ _ ?_
  clear hK12
  refine wp_block ?_
  have F0:=F.sub (.c 1 rfl (.c 2 rfl (.c 3 rfl .n)))
  refine lp_for F0 (4) (fun i Lv W=>Lv = [(18,.int .i64 ((i : Nat) : Int))] ∧ Ext [] w W ∧ W.heap[n1]? = some (.cells (tubC (lowF f (gcE f) i)) 75 (0,0)) ∧ W.heap[n2]? = some (.cells #[.int .i64 0,.int .i64 0,.int .i64 0,.int .i64 0] 75 (0,0))) ⟨_,⟨rfl,E,q1,q2⟩,F.sub (.c 18 rfl (.c 1 rfl (.c 2 rfl (.c 3 rfl .n))))⟩ ?_
  clear F F0
  clear E q1 q2
  rintro i _ fa w6 hi3 ⟨rfl,E,q1,q2⟩ F
  refine wp_seq_k fun K13 hK13=>?_
  refine wp_region_lit ?_
  refine F.vl (R_lss rfl (F.at rfl) (ev_c fa _)) ?_;clear F fa;intro fa F
  refine wpList_nil ?_
  refine hK13 _ _ ?_
  clear hK13
  refine wp_seq_k fun K14 hK14=>?_
  refine cd_if F rfl (fun hc19=>?_) (fun hc19=>?_)
  ·skip
   refine wp_skip ?_
   refine hK14 _ _ ?_
   clear hK14
   refine wp_seq_k fun K15 hK15=>?_
   refine wp_block ?_
   refine wp_seq_k fun K16 hK16=>?_
   refine wp_region_lit ?_
   refine F.mv ?_;clear F fa;intro fa F
   refine F.as ?_;clear F fa;intro fa F
   refine wpList_nil ?_
   refine hK16 _ _ ?_
   clear hK16
   obtain ⟨hf0,hf1⟩:=HF.out i (by omega)
   have hlf : lowF f (gcE f) i i = f i:=if_neg (by omega)
   refine wp_region_lit ?_
   refine F.mv ?_;clear F fa;intro fa F
   refine F.vl (R_ixArr (n:=4) (sz:=1) rfl (F.at rfl) (F.at rfl) Tryz.underlying75 (by kernel_rfl) (by omega) (by omega)) ?_;clear F fa;intro fa F
   refine F.vl (R_load rfl (F.at rfl) Tryz.underlying3 rfl (tub_at q1 (k:=i) rfl (by omega))) ?_;clear F fa;intro fa F
   rw [hlf] at F
   refine F.mv ?_;clear F fa;intro fa F
   refine F.vl (R_quoP rfl (F.at rfl) (F.at rfl) (by omega) (by omega) (by omega)) ?_;clear F fa;intro fa F
   refine F.vl (R_ixArr (n:=4) (sz:=1) rfl (F.at rfl) (F.at rfl) Tryz.underlying75 (by kernel_rfl) (by omega) (by omega)) ?_;clear F fa;intro fa F
   refine sq_to rfl rfl (R_store rfl (F.at rfl) (F.at rfl) rfl (by kernel_rfl) (tub_at q1 (k:=i) rfl (by omega)) (free_of_block q1 _)) ?_;intro w7 hw
   replace q1:=put_tub hw q1 (k:=i) rfl (by omega)
   replace q2:=keep_cell hw q2 (by omega)
   replace E:=ext_cell E hw (fun h=>by first | exact absurd h (by omega) | simp)
   clear hw
   rw [tub_congr (g:=lowF f (gcE f) (i + 1)) (fun k hk=>by simp only [upF,lowF];by_cases e : k = i;(· rw [if_pos e,if_pos (by omega),e]);(by_cases e2 : k < i;(· rw [if_neg e,if_pos e2,if_pos (by omega)]);(· rw [if_neg e,if_neg e2,if_neg (by omega)])))] at q1
   refine wpList_nil ?_
   refine hK15 _ _ ?_
   clear hK15
   refine wp_region_lit ?_
   refine F.vl (R_add rfl (F.at rfl) (ev_c fa _) (by omega) (by omega)) ?_;clear F fa;intro fa F
   refine F.mv ?_;clear F fa;intro fa F
   refine wpList_nil ?_
   show _ ∧ _
   exact ⟨by omega,_,⟨rfl,E,q1,q2⟩,F.sub (.c 18 rfl (.c 1 rfl (.c 2 rfl (.c 3 rfl .n))))⟩
  ·skip
   refine wp_exit ?_
   rw [show i = 4 by omega] at q1
   refine hK11 _ _ ?_
   clear hK11
   refine wp_seq_k fun K17 hK17=>?_
   refine wp_region_lit ?_
   refine F.vl (R_loadBlk rfl (F.at rfl) Tryz.underlying75 rfl (by kernel_rfl) q1) ?_;clear F fa;intro fa F
   refine sq_to rfl rfl (R_storeRow rfl (F.at rfl) (F.at rfl) (by kernel_rfl) (by simp [tubC,Value.oneCell']) q2 rfl) ?_;intro w8 hw
   replace q1:=keep_cells hw q1 (by omega)
   replace q2:=put_row hw q2 rfl
   replace E:=ext_cells E hw (fun h=>by first | exact absurd h (by omega) | simp)
   clear hw
   refine wpList_nil ?_
   refine hK17 _ _ ?_
   clear hK17
   refine wp_ret ?_
   (try simp only [Exit.inBlock,Exit.then,reduceIte])
   refine rt_v F (rs_c F rfl rfl Tryz.underlying75 rfl (by kernel_rfl) q2) ?_
   exact ⟨rfl,E⟩
section
variable {P : Program} {ρ : Operand → Value} {o : Oper} {w : World}
theorem R_sliceArr {x y z : Operand} {t : TypeId} {b n m : Nat} (ho : o.op = .slice t x none (some y) (some z)) (hx : ρ x = .pointer (some ⟨b,0,none⟩)) (hy : ρ y = .int .i64 (n : Int)) (hz : ρ z = .int .i64 (n : Int)) (hu : P.underlying t = some (.array (P.arrayLen t) (P.elem t))) (hs : (P.info? (P.elem t)).map (·.size) = some 1) (hm : P.arrayLen t = m) (hn : n ≤ m) :
  (execOp ρ o).run P w = .ok (.value (.slice (some ⟨b,0,none⟩) n n)) w:=by
 have h0 : (sizeOf (P.elem t)).run P w = .ok 1 w:=by
  generalize P.elem t = e at hs
  cases hq : P.info? e with
  | none=>simp [hq] at hs
  | some j =>
   have hj : j.size = 1:=by simpa [hq] using hs
   simp [sizeOf,typeInfo,hq,hj]
 have hr:=run_sliceAt_array_hm (P:=P) w t ⟨b,0,none⟩ hu .i64 .i64 (n : Int) (n : Int) (by omega) (by omega) (by rw [hm];omega)
 rw [h0] at hr
 simp only [Result.andThen_ok,slicedAt,Nat.zero_mul,Nat.sub_zero,Int.toNat_natCast] at hr
 have ha : (if n = 0 then (⟨b,0,none⟩ : Addr) else Addr.add ⟨b,0,none⟩ 0) = ⟨b,0,none⟩:=by split <;> rfl
 rw [ha] at hr
 clear hu hs hm h0 ha
 unfold execOp
 simp only [ho,hx,hy,hz,Option.map_none,Option.map_some,Sem.run_bind,hr,Result.andThen_ok,Sem.run_pure]
end
def cutL (f : Nat → Int) (n : Nat) : List Int:=(List.range n).map f
theorem cutL_val {l : List Int} {n : Nat} (h : l.length = n) : cutL (val l) n = l:=by
 refine List.ext_getElem (by simp [cutL,h]) fun j h1 h2=>?_
 simp [cutL,val,h2]
theorem srcAt_of_tub {w : World} {b n : Nat} {T : TypeId} {fz : Nat × Nat} {f : Nat → Int} (H : w.heap[b]? = some (.cells (tubC f) T fz)) (hn : n ≤ 4) : SrcAt w 1 (some ⟨b,0,none⟩) n (ivs (cutL f n)):=by
 refine ⟨by simp [ivs,cutL],(fun h=>by cases h),fun a0 ha j v hv=>?_,ints_one _⟩
 cases ha
 rw [ivs,cutL,List.getElem?_map,List.getElem?_map,Option.map_map,Option.map_eq_some_iff] at hv
 obtain ⟨k,hk,rfl⟩:=hv
 obtain ⟨hj,rfl⟩:=List.getElem?_eq_some_iff.1 hk
 simp only [List.length_range] at hj
 have:=tub_at H (i:=(j : Int)) (k:=j) rfl (by omega)
 rw [Int.toNat_natCast,Nat.mul_one] at this
 simp only [List.getElem_range,Function.comp]
 rw [Go.WideShapes.add_plain]
 exact this
set_option maxRecDepth 100000 in
theorem cut_ok (x : Vm) (hv : VOk x) (f : Nat → Int) (w : World) : Calls Tryz.prog 44 #[.agg #[.int .i64 x.B,.slice x.da x.D.length x.dc,.slice x.la x.L.length x.lc,.int .i64 x.tol],.agg (tubC f)] w fun e w'=>∃ a c,e = .returned (.slice a x.D.length c) ∧ w'.ownsRow w.heap.size 3 1 (.slice a x.D.length c) x.D.length (ivs (cutL f x.D.length)) ∧ Ext [] w w':=by
 have E : Ext [] w w:=Ext.refl _ _
 have hd4:=hv.d4
 refine calls_has 14 Tryz.func44 rfl Tryz.ntmps44 (Nat.le_of_ble_eq_true rfl) ?_
 intro fa F
 refine wp_seq_k fun K1 hK1=>?_
 refine wp_region_lit ?_
 refine sq_new F rfl (by decide) rfl (R_box rfl (F.at rfl)) ?_;clear F fa;intro fa w1 F hw
 obtain ⟨n2,hn⟩ : ∃ n,n = w.heap.size:=⟨_,rfl⟩
 rw [← hn] at F
 have s2 : w.heap.size ≤ n2:=Nat.le_of_eq hn.symm
 have l2_E : w.heap.size ≤ n2:=by rw [hn];exact E.size
 replace E:=ext_alloc E hw
 have q2:=new_row hw hn
 clear hw hn
 refine sq_new F rfl (by decide) rfl (R_box rfl (F.at rfl)) ?_;clear F fa;intro fa w2 F hw
 obtain ⟨n3,hn⟩ : ∃ n,n = w1.heap.size:=⟨_,rfl⟩
 rw [← hn] at F
 have s3 : w1.heap.size ≤ n3:=Nat.le_of_eq hn.symm
 have l3_E : w.heap.size ≤ n3:=by rw [hn];exact E.size
 have m3_2 : n2 < n3:=by rw [hn];exact blk_lt q2
 replace q2:=keep_alloc hw q2
 replace E:=ext_alloc E hw
 have q3:=new_row hw hn
 clear hw hn
 refine F.vl (R_assign rfl (ev_c fa _)) ?_;clear F fa;intro fa F
 refine wpList_nil ?_
 refine hK1 _ _ ?_
 clear hK1
 refine wp_seq_k fun K2 hK2=>?_
 refine wp_region_lit ?_
 refine F.vl (R_field rfl (F.at rfl) Tryz.underlying69 rfl (n:=0) (sz:=4) rfl (by kernel_rfl) (by decide)) ?_;clear F fa;intro fa F
 refine F.vl (R_field rfl (F.at rfl) Tryz.underlying24 rfl (n:=1) (sz:=1) rfl (by kernel_rfl) (by decide)) ?_;clear F fa;intro fa F
 refine F.vl (R_load rfl (F.at rfl) Tryz.underlying22 rfl ((cells_of_block q2 1).trans (getS (get0)))) ?_;clear F fa;intro fa F
 refine F.vl (R_len rfl rfl (F.at rfl) Tryz.underlying22) ?_;clear F fa;intro fa F
 refine F.as ?_;clear F fa;intro fa F
 refine wpList_nil ?_
 refine hK2 _ _ ?_
 clear hK2
 refine wp_seq_k fun K3 hK3=>?_
 refine wp_region_lit ?_
 refine F.mv ?_;clear F fa;intro fa F
 refine F.mv ?_;clear F fa;intro fa F
 refine F.vl ((R_sliceArr (n:=x.D.length) (m:=4) rfl (F.at rfl) (F.at rfl) (F.at rfl) (by kernel_rfl) (by kernel_rfl) (by kernel_rfl) hd4)) ?_;clear F fa;intro fa F
 have oo : w2.ownsRow w.heap.size 3 1 (.slice none 0 0) 0 []:=World.ownsRow_nil _ _ _ _
 have hEs:=E.size
 refine sq_some F rfl (by decide) rfl (appends_run rfl (w.heap.size) (e:=3) (size:=1) (bytes:=8) Tryz.underlying25 (by kernel_rfl) (by decide) (ev_c fa _) oo (F.at rfl) (srcAt_of_tub q3 hd4) (by omega) (by omega) (by omega)) ?_;clear F fa;rintro fa v' w3 F ⟨hown',hg⟩
 obtain ⟨va13,vc13,rfl⟩:=owns_slice hown'
 replace q2:=keep_type oo hg q2 (by decide)
 replace q3:=keep_type oo hg q3 (by decide)
 replace E:=ext_appendX E oo hg (by omega)
 replace oo:=hown'
 clear hg
 rw [List.nil_append,Nat.zero_add] at oo
 rw [Nat.zero_add] at F
 refine F.as ?_;clear F fa;intro fa F
 refine wpList_nil ?_
 refine hK3 _ _ ?_
 clear hK3
 refine wp_ret ?_
 (try simp only [Exit.inBlock,Exit.then,reduceIte])
 refine rt_v F (rs_1 F rfl rfl) ?_
 exact ⟨_,_,rfl,oo,E⟩
def tubR (f : Nat → Int) : List Value:=[.int .i64 (f 0),.int .i64 (f 1),.int .i64 (f 2),.int .i64 (f 3)]
def tubsV (T : List (List Int)) : List Value:=(T.map fun t=>tubR (val t)).flatten
set_option maxRecDepth 100000 in
set_option maxHeartbeats 1000000 in
theorem stuffs_ok (x : Vm) (hv : VOk x) (S : List (Value × List Int)) (hs : ∀ p ∈ S,RcpOk x p.2) (h6 : S.length ≤ 6) (a : Option Addr) (c : Nat) (w : World) (h : LolAt w a S) :
  Calls Tryz.prog 56 #[.agg #[.int .i64 x.B,.slice x.da x.D.length x.dc,.slice x.la x.L.length x.lc,.int .i64 x.tol],.slice a S.length c] w fun e w'=>∃ b d,e = .returned (.slice b S.length d) ∧ w'.ownsRow w.heap.size 75 4 (.slice b S.length d) S.length (tubsV (S.map (·.2))) ∧ Ext [] w w':=by
 have E : Ext [] w w:=Ext.refl _ _
 have HA:=Lib.hid h
 have HS:=Lib.hid h.1
 have HV:=Lib.hid hv
 have HO:=Lib.hid hs
 clear h hv hs
 have om : w.ownsRow w.heap.size 75 4 (.slice none 0 0) 0 (tubsV ((S.map (·.2)).take 0)):=World.ownsRow_nil _ _ _ _
 refine calls_has 26 Tryz.func56 rfl Tryz.ntmps56 (Nat.le_of_ble_eq_true rfl) ?_
 intro fa F
 refine wp_seq_k fun K1 hK1=>?_
 refine wp_region_lit ?_
 refine sq_new F rfl (by decide) rfl (R_box rfl (F.at rfl)) ?_;clear F fa;intro fa w1 F hw
 obtain ⟨n2,hn⟩ : ∃ n,n = w.heap.size:=⟨_,rfl⟩
 rw [← hn] at F
 have s2 : w.heap.size ≤ n2:=Nat.le_of_eq hn.symm
 have l2_E : w.heap.size ≤ n2:=by rw [hn];exact E.size
 have o2_om:=Lib.hid (own_ne_new om hn)
 replace om:=owns_alloc hw om
 replace E:=ext_alloc E hw
 have q2:=new_row hw hn
 clear hw hn
 refine F.vl (R_assign rfl (ev_c fa _)) ?_;clear F fa;intro fa F
 refine wpList_nil ?_
 refine hK1 _ _ ?_
 clear hK1
 refine wp_seq_k fun K2 hK2=>?_
 refine wp_seq_k fun K3 hK3=>?_
 refine wp_region_lit ?_
 refine F.mv ?_;clear F fa;intro fa F
 refine F.vl (R_len rfl rfl (F.at rfl) Tryz.underlying22) ?_;clear F fa;intro fa F
 refine F.vl (R_gtr rfl (F.at rfl) (ev_c fa _)) ?_;clear F fa;intro fa F
 refine wpList_nil ?_
 refine hK3 _ _ ?_
 clear hK3
 refine cd_Fb F rfl (decide_eq_false (by omega)) ?_
 refine wp_skip ?_
 refine hK2 _ _ ?_
 clear hK2
 refine wp_seq_k fun K4 hK4=>?_
 refine wp_region_lit ?_
 refine F.vl (R_assign rfl (ev_c fa _)) ?_;clear F fa;intro fa F
 refine wpList_nil ?_
 refine hK4 _ _ ?_
 clear hK4
 refine wp_seq_k fun K5 hK5=>?_
 refine wp_seq_k fun K6 hK6=>?_
 refine wp_region_lit ?_
 refine F.mv ?_;clear F fa;intro fa F
 refine F.vl (R_len rfl rfl (F.at rfl) Tryz.underlying22) ?_;clear F fa;intro fa F
 refine F.vl (R_move rfl (ev_c fa _)) ?_;clear F fa;intro fa F
 refine wpList_nil ?_
 refine hK6 _ _ ?_
 clear hK6
 refine wp_block ?_
 have F0:=F.sub (.c 2 rfl (.c 12 rfl (.c 13 rfl .n)))
 refine lp_for F0 (S.length) (fun i Lv W=>∃ va : Option Addr,∃ vc : Nat,Lv = [(5,.slice va i vc),(14,.int .i64 ((i : Nat) : Int))] ∧ Ext [] w W ∧ W.heap[n2]? = some (.cells #[.int .i64 x.B,.slice x.da x.D.length x.dc,.slice x.la x.L.length x.lc,.int .i64 x.tol] 69 (0,0)) ∧ W.ownsRow w.heap.size 75 4 (.slice va i vc) i (tubsV ((S.map (·.2)).take i))) ⟨_,⟨none,0,rfl,E,q2,om⟩,F.sub (.c 5 rfl (.c 14 rfl (.c 2 rfl (.c 12 rfl (.c 13 rfl .n)))))⟩ ?_
 clear F F0
 clear E q2
 clear om
 rintro i _ fa w2 hi1 ⟨va,vc,rfl,E,q2,om⟩ F
 refine wp_seq_k fun K7 hK7=>?_
 refine wp_region_lit ?_
 refine F.vl (R_lss rfl (F.at rfl) (F.at rfl)) ?_;clear F fa;intro fa F
 refine wpList_nil ?_
 refine hK7 _ _ ?_
 clear hK7
 refine wp_seq_k fun K8 hK8=>?_
 refine cd_if F rfl (fun hc15=>?_) (fun hc15=>?_)
 ·skip
  refine wp_skip ?_
  refine hK8 _ _ ?_
  clear hK8
  refine wp_seq_k fun K9 hK9=>?_
  refine wp_block ?_
  refine wp_seq_k fun K10 hK10=>?_
  obtain ⟨la,lca,hla,hlr⟩:=HA.out.2 _ (getD_mem (.bool true,[]) (show i < S.length by omega))
  have hrc:=HO.out _ (getD_mem (.bool true,[]) (show i < S.length by omega))
  refine wp_region_lit ?_
  obtain ⟨xb11,xo11,xa11,xr11⟩:=HS.out i (by omega)
  refine F.vl (R_ixSlice (sz:=1) rfl ((F.at rfl).trans (xa11 _ _)) (F.at rfl) Tryz.underlying22 (by kernel_rfl) (by omega) (by omega)) ?_;clear F fa;intro fa F
  refine F.vl (R_load rfl (F.at rfl) Tryz.underlying25 rfl (xr11 _ E 0 _ rfl)) ?_;clear F fa;intro fa F
  rw [hla] at F
  refine F.as ?_;clear F fa;intro fa F
  refine wpList_nil ?_
  refine hK10 _ _ ?_
  clear hK10
  refine wp_region_lit ?_
  refine F.mv ?_;clear F fa;intro fa F
  refine F.vl (R_loadBlk rfl (F.at rfl) Tryz.underlying69 rfl (by kernel_rfl) q2) ?_;clear F fa;intro fa F
  refine F.mv ?_;clear F fa;intro fa F
  refine sq_call F rfl (by decide) rfl (R_callV rfl rfl Tryz.call52 (mpS (F.at rfl) (mpS (F.at rfl) mp0))) (recipe_ok x HV.out (S.getD i (.bool true,[])).2 hrc la lca _ (hlr.ext E (by simp))) fun e w3 hR=>?_
  obtain ⟨rfl,e9⟩:=hR
  refine ⟨_,rfl,?_⟩;clear F fa;intro fa F
  replace om:=owns_ext om (e9) (by simp)
  replace q2:=(e9).keep0 q2
  replace E:=ext_same E (e9)
  clear e9
  refine sq_new F rfl (by decide) rfl (R_buildSliceV rfl (prS (F.at rfl) pr0) Tryz.underlying72 (size:=4) (by kernel_rfl) (by decide) (by decide) Tryz.zeroValue75 (cells:=#[.int .i64 (val (S.getD i (.bool true,[])).2 0),.int .i64 (val (S.getD i (.bool true,[])).2 1),.int .i64 (val (S.getD i (.bool true,[])).2 2),.int .i64 (val (S.getD i (.bool true,[])).2 3)]) (by kernel_rfl)) ?_;clear F fa;intro fa w4 F hw
  obtain ⟨n22,hn⟩ : ∃ n,n = w3.heap.size:=⟨_,rfl⟩
  rw [← hn] at F
  have s22 : w3.heap.size ≤ n22:=Nat.le_of_eq hn.symm
  have l22_E : w.heap.size ≤ n22:=by rw [hn];exact E.size
  have m22_2 : n2 < n22:=by rw [hn];exact blk_lt q2
  have o22_om:=Lib.hid (own_ne_new om hn)
  replace om:=owns_alloc hw om
  replace q2:=keep_alloc hw q2
  replace E:=ext_alloc E hw
  have q22:=new_block hw hn
  clear hw hn
  have hEs:=E.size
  refine sq_some F rfl (by decide) rfl (append_run rfl (w.heap.size) (e:=75) (size:=4) (bytes:=32) Tryz.underlying72 (by kernel_rfl) (by decide) (F.at rfl) om (F.at rfl) q22 rfl (by simp [Value.oneCell']) (by omega) (by omega) (by omega)) ?_;clear F fa;rintro fa v' w5 F ⟨hown',hg⟩
  obtain ⟨va23,vc23,rfl⟩:=owns_slice hown'
  replace q2:=keep_type om hg q2 (by decide)
  replace E:=ext_appendX E om hg (by omega)
  replace om:=hown'
  clear hg
  rw [show tubsV ((S.map (·.2)).take i) ++ [.int .i64 (val (S.getD i (.bool true,[])).2 0),.int .i64 (val (S.getD i (.bool true,[])).2 1),.int .i64 (val (S.getD i (.bool true,[])).2 2),.int .i64 (val (S.getD i (.bool true,[])).2 3)] = tubsV ((S.map (·.2)).take (i + 1)) by rw [take_getD (S.map (·.2)) [] (show i < (S.map (·.2)).length by rw [List.length_map];omega),tubsV,tubsV,List.map_append,List.flatten_append,key_getD S (by omega)];simp [tubR]] at om
  refine F.as ?_;clear F fa;intro fa F
  refine wpList_nil ?_
  refine hK9 _ _ ?_
  clear hK9
  refine wp_region_lit ?_
  refine F.vl (R_add rfl (F.at rfl) (ev_c fa _) (by omega) (by omega)) ?_;clear F fa;intro fa F
  refine F.mv ?_;clear F fa;intro fa F
  refine wpList_nil ?_
  show _ ∧ _
  exact ⟨by omega,_,⟨_,_,rfl,E,q2,om⟩,F.sub (.c 5 rfl (.c 14 rfl (.c 2 rfl (.c 12 rfl (.c 13 rfl .n)))))⟩
 ·skip
  refine wp_exit ?_
  rw [List.take_of_length_le (show (S.map (·.2)).length ≤ i by rw [List.length_map];omega),show i = S.length by omega] at om
  rw [show i = S.length by omega] at F
  refine hK5 _ _ ?_
  clear hK5
  refine wp_seq_k fun K12 hK12=>?_
  refine wp_region_lit ?_
  refine F.mv ?_;clear F fa;intro fa F
  refine F.as ?_;clear F fa;intro fa F
  refine wpList_nil ?_
  refine hK12 _ _ ?_
  clear hK12
  refine wp_ret ?_
  (try simp only [Exit.inBlock,Exit.then,reduceIte])
  refine rt_v F (rs_1 F rfl rfl) ?_
  exact ⟨_,_,rfl,om,E⟩
end Go.Proofs.YtdjeecgddbjbeaaGreat
