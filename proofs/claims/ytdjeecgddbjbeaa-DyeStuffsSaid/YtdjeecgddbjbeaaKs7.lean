/- Parts of a proof: Dnr, Dof, Dfw, Dnl, Dtl. No conditions. -/
import Derived.Test.YtdjeecgddbjbeaaKs3
import Derived.Test.YtdjeecgddbjbeaaKs6
set_option linter.unusedVariables false
set_option linter.unusedSimpArgs false
namespace Go.Proofs.Ytdjeecgddbjbeaa
open Go.RowKit
theorem isNaN_no (n : Int) (w : World) : Calls Try.prog 115 #[.int .i64 n] w fun e w'=>e = .returned (.bool false) ∧ Ext [] w w':=by
 have E : Ext [] w w:=Ext.refl _ _
 refine calls_has 6 Try.func115 rfl Try.ntmps115 (Nat.le_of_ble_eq_true rfl) ?_
 intro fa F
 refine wp_seq_k fun K1 hK1=>?_
 refine wp_region_lit ?_
 refine F.vl (R_assign rfl (ev_c fa _)) ?_;clear F fa;intro fa F
 refine wpList_nil ?_
 refine hK1 _ _ ?_
 clear hK1
 refine wp_seq_k fun K2 hK2=>?_
 refine wp_region_lit ?_
 refine F.mv ?_;clear F fa;intro fa F
 refine F.mv ?_;clear F fa;intro fa F
 refine F.vl (R_neqB (b:=false) rfl (F.at rfl) (F.at rfl) (decide_eq_true rfl)) ?_;clear F fa;intro fa F
 refine F.as ?_;clear F fa;intro fa F
 refine wpList_nil ?_
 refine hK2 _ _ ?_
 clear hK2
 refine wp_ret ?_
 (try simp only [Exit.inBlock,Exit.then,reduceIte])
 refine rt_v F (rs_1 F rfl rfl) ?_
 exact ⟨rfl,E⟩
def cmpE (a b : Int) : Int:=if a < b then -1 else if b < a then 1 else 0
theorem cmp_any (a b : Int) (w : World) : Calls Try.prog 85 #[.int .i64 a,.int .i64 b] w fun e w'=>e = .returned (.int .i64 (cmpE a b)) ∧ Ext [] w w':=by
 have E : Ext [] w w:=Ext.refl _ _
 refine calls_has 20 Try.func85 rfl Try.ntmps85 (Nat.le_of_ble_eq_true rfl) ?_
 intro fa F
 refine wp_seq_k fun K1 hK1=>?_
 refine wp_region_lit ?_
 refine F.vl (R_assign rfl (ev_c fa _)) ?_;clear F fa;intro fa F
 refine wpList_nil ?_
 refine hK1 _ _ ?_
 clear hK1
 refine wp_seq_k fun K2 hK2=>?_
 refine wp_region_lit ?_
 refine F.mv ?_;clear F fa;intro fa F
 refine sq_call F rfl (by decide) rfl (R_callV rfl rfl Try.call115 (mpS (F.at rfl) mp0)) (isNaN_no a _) fun e w1 hR=>?_
 obtain ⟨rfl,e9⟩:=hR
 refine ⟨_,rfl,?_⟩;clear F fa;intro fa F
 replace E:=ext_same E (e9)
 clear e9
 refine F.as ?_;clear F fa;intro fa F
 refine wpList_nil ?_
 refine hK2 _ _ ?_
 clear hK2
 refine wp_seq_k fun K3 hK3=>?_
 refine wp_region_lit ?_
 refine F.mv ?_;clear F fa;intro fa F
 refine sq_call F rfl (by decide) rfl (R_callV rfl rfl Try.call115 (mpS (F.at rfl) mp0)) (isNaN_no b _) fun e w2 hR=>?_
 obtain ⟨rfl,e9⟩:=hR
 refine ⟨_,rfl,?_⟩;clear F fa;intro fa F
 replace E:=ext_same E (e9)
 clear e9
 refine F.as ?_;clear F fa;intro fa F
 refine wpList_nil ?_
 refine hK3 _ _ ?_
 clear hK3
 refine wp_seq_k fun K4 hK4=>?_
 refine wp_seq_k fun K5 hK5=>?_
 refine wp_region_lit ?_
 refine F.mv ?_;clear F fa;intro fa F
 refine wpList_nil ?_
 refine hK5 _ _ ?_
 clear hK5
 refine cd_F F rfl ?_
 refine wp_skip ?_
 refine hK4 _ _ ?_
 clear hK4
 refine wp_seq_k fun K6 hK6=>?_
 refine wp_seq_k fun K7 hK7=>?_
 refine wp_region_lit ?_
 refine F.mv ?_;clear F fa;intro fa F
 refine wpList_nil ?_
 refine hK7 _ _ ?_
 clear hK7
 refine cd_F F rfl ?_
 refine wp_skip ?_
 refine hK6 _ _ ?_
 clear hK6
 refine wp_seq_k fun K8 hK8=>?_
 refine wp_seq_k fun K9 hK9=>?_
 refine wp_region_lit ?_
 refine F.mv ?_;clear F fa;intro fa F
 refine F.mv ?_;clear F fa;intro fa F
 refine F.vl (R_lss rfl (F.at rfl) (F.at rfl)) ?_;clear F fa;intro fa F
 refine wpList_nil ?_
 refine hK9 _ _ ?_
 clear hK9
 refine cd_if F rfl (fun hc16=>?_) (fun hc16=>?_)
 ·skip
  refine wp_seq_k fun K10 hK10=>?_
  refine wp_region_lit ?_
  refine F.vl (R_assign rfl (ev_c fa _)) ?_;clear F fa;intro fa F
  refine wpList_nil ?_
  refine hK10 _ _ ?_
  clear hK10
  refine wp_ret ?_
  (try simp only [Exit.inBlock,Exit.then,reduceIte])
  refine rt_v F (rs_1 F rfl rfl) ?_
  first | exact ⟨ret_int (by rw [cmpE,if_pos (by omega)]),E⟩ | exact ⟨ret_int (by rw [cmpE,if_neg (by omega),if_pos (by omega)]),E⟩ | exact ⟨ret_int (by rw [cmpE,if_neg (by omega),if_neg (by omega)]),E⟩
 ·skip
  refine wp_skip ?_
  refine hK8 _ _ ?_
  clear hK8
  refine wp_seq_k fun K11 hK11=>?_
  refine wp_seq_k fun K12 hK12=>?_
  refine wp_region_lit ?_
  refine F.mv ?_;clear F fa;intro fa F
  refine F.mv ?_;clear F fa;intro fa F
  refine F.vl (R_gtr rfl (F.at rfl) (F.at rfl)) ?_;clear F fa;intro fa F
  refine wpList_nil ?_
  refine hK12 _ _ ?_
  clear hK12
  refine cd_if F rfl (fun hc19=>?_) (fun hc19=>?_)
  ·skip
   refine wp_seq_k fun K13 hK13=>?_
   refine wp_region_lit ?_
   refine F.vl (R_assign rfl (ev_c fa _)) ?_;clear F fa;intro fa F
   refine wpList_nil ?_
   refine hK13 _ _ ?_
   clear hK13
   refine wp_ret ?_
   (try simp only [Exit.inBlock,Exit.then,reduceIte])
   refine rt_v F (rs_1 F rfl rfl) ?_
   first | exact ⟨ret_int (by rw [cmpE,if_pos (by omega)]),E⟩ | exact ⟨ret_int (by rw [cmpE,if_neg (by omega),if_pos (by omega)]),E⟩ | exact ⟨ret_int (by rw [cmpE,if_neg (by omega),if_neg (by omega)]),E⟩
  ·skip
   refine wp_skip ?_
   refine hK11 _ _ ?_
   clear hK11
   refine wp_seq_k fun K14 hK14=>?_
   refine wp_region_lit ?_
   refine F.vl (R_assign rfl (ev_c fa _)) ?_;clear F fa;intro fa F
   refine wpList_nil ?_
   refine hK14 _ _ ?_
   clear hK14
   refine wp_ret ?_
   (try simp only [Exit.inBlock,Exit.then,reduceIte])
   refine rt_v F (rs_1 F rfl rfl) ?_
   first | exact ⟨ret_int (by rw [cmpE,if_pos (by omega)]),E⟩ | exact ⟨ret_int (by rw [cmpE,if_neg (by omega),if_pos (by omega)]),E⟩ | exact ⟨ret_int (by rw [cmpE,if_neg (by omega),if_neg (by omega)]),E⟩
def cmpL : List Int → List Int → Int
 | [],[]=>0
 | [],_ :: _=>-1
 | _ :: _,[]=>1
 | x :: xs,y :: ys=>if cmpE x y = 0 then cmpL xs ys else cmpE x y
theorem cmpL_go {xs ys : List Int} {i : Nat} (hx : i < xs.length) (hy : i < ys.length) (h : cmpE (xs.getD i 0) (ys.getD i 0) = 0) : cmpL (xs.drop i) (ys.drop i) = cmpL (xs.drop (i + 1)) (ys.drop (i + 1)):=by
 rw [drop_getD xs 0 hx,drop_getD ys 0 hy,cmpL,if_pos h]
theorem cmpL_end {xs ys : List Int} {i : Nat} (hx : i < xs.length) (hy : i < ys.length) (h : cmpE (xs.getD i 0) (ys.getD i 0) ≠ 0) : cmpL (xs.drop i) (ys.drop i) = cmpE (xs.getD i 0) (ys.getD i 0):=by
 rw [drop_getD xs 0 hx,drop_getD ys 0 hy,cmpL,if_neg h]
theorem cmpL_long {xs ys : List Int} {i : Nat} (hx : i < xs.length) (hy : ys.length ≤ i) : cmpL (xs.drop i) (ys.drop i) = 1:=by
 rw [drop_getD xs 0 hx,List.drop_of_length_le hy];rfl
theorem cmpL_short {xs ys : List Int} {i : Nat} (hx : xs.length ≤ i) (hy : i < ys.length) : cmpL (xs.drop i) (ys.drop i) = -1:=by
 rw [drop_getD ys 0 hy,List.drop_of_length_le hx];rfl
theorem cmpL_same {xs ys : List Int} {i : Nat} (hx : xs.length ≤ i) (hy : ys.length ≤ i) : cmpL (xs.drop i) (ys.drop i) = 0:=by
 rw [List.drop_of_length_le hy,List.drop_of_length_le hx];rfl
set_option maxRecDepth 100000 in
theorem compare_any (xs ys : List Int) (a b : Option Addr) (c d : Nat) (w : World) (hx : IsRows w (.slice a xs.length c) 1 (xs.map intRow)) (hy : IsRows w (.slice b ys.length d) 1 (ys.map intRow)) (h1 : xs.length ≤ 1000) (h2 : ys.length ≤ 1000) :
  Calls Try.prog 77 #[.slice a xs.length c,.slice b ys.length d] w fun e w'=>e = .returned (.int .i64 (cmpL xs ys)) ∧ Ext [] w w':=by
 have HS:=Lib.hid (slAt_of_rows hx 0)
 have HU:=Lib.hid (slAt_of_rows hy 0)
 have E : Ext [] w w:=Ext.refl _ _
 clear hx hy
 refine calls_has 36 Try.func77 rfl Try.ntmps77 (Nat.le_of_ble_eq_true rfl) ?_
 intro fa F
 refine wp_seq_k fun K1 hK1=>?_
 refine wp_region_lit ?_
 refine F.vl (R_assign rfl (ev_c fa _)) ?_;clear F fa;intro fa F
 refine wpList_nil ?_
 refine hK1 _ _ ?_
 clear hK1
 refine wp_seq_k fun K2 hK2=>?_
 refine wp_seq_k fun K3 hK3=>?_
 refine wp_region_lit ?_
 refine F.mv ?_;clear F fa;intro fa F
 refine F.vl (R_len rfl rfl (F.at rfl) Try.underlying25) ?_;clear F fa;intro fa F
 refine F.vl (R_move rfl (ev_c fa _)) ?_;clear F fa;intro fa F
 refine wpList_nil ?_
 refine hK3 _ _ ?_
 clear hK3
 refine wp_block ?_
 have F0:=F.sub (.c 0 rfl (.c 1 rfl (.c 9 rfl (.c 10 rfl .n))))
 refine lp_for F0 (xs.length) (fun i Lv W=>Lv = [(11,.int .i64 ((i : Nat) : Int))] ∧ Ext [] w W ∧ cmpL (xs.drop i) (ys.drop i) = cmpL xs ys ∧ i ≤ ys.length) ⟨_,⟨rfl,E,rfl,(Nat.zero_le _)⟩,F.sub (.c 11 rfl (.c 0 rfl (.c 1 rfl (.c 9 rfl (.c 10 rfl .n)))))⟩ ?_
 clear F F0
 clear E
 rintro i _ fa w1 hi1 ⟨rfl,E,hc,hiy⟩ F
 refine wp_seq_k fun K4 hK4=>?_
 refine wp_region_lit ?_
 refine F.vl (R_lss rfl (F.at rfl) (F.at rfl)) ?_;clear F fa;intro fa F
 refine wpList_nil ?_
 refine hK4 _ _ ?_
 clear hK4
 refine wp_seq_k fun K5 hK5=>?_
 refine cd_if F rfl (fun hc12=>?_) (fun hc12=>?_)
 ·skip
  refine wp_skip ?_
  refine hK5 _ _ ?_
  clear hK5
  refine wp_seq_k fun K6 hK6=>?_
  refine wp_block ?_
  refine wp_seq_k fun K7 hK7=>?_
  refine wp_region_lit ?_
  refine F.mv ?_;clear F fa;intro fa F
  obtain ⟨xb8,xo8,xa8,xr8⟩:=HS.out i (by omega)
  refine F.vl (R_ixSlice (sz:=1) rfl ((F.at rfl).trans (xa8 _ _)) (F.at rfl) Try.underlying25 (by kernel_rfl) (by omega) (by omega)) ?_;clear F fa;intro fa F
  refine F.vl (R_load rfl (F.at rfl) Try.underlying3 rfl (xr8 _ E 0 _ rfl)) ?_;clear F fa;intro fa F
  refine F.as ?_;clear F fa;intro fa F
  refine F.as ?_;clear F fa;intro fa F
  refine wpList_nil ?_
  refine hK7 _ _ ?_
  clear hK7
  refine wp_seq_k fun K9 hK9=>?_
  refine wp_seq_k fun K10 hK10=>?_
  refine wp_region_lit ?_
  refine F.mv ?_;clear F fa;intro fa F
  refine F.mv ?_;clear F fa;intro fa F
  refine F.vl (R_len rfl rfl (F.at rfl) Try.underlying25) ?_;clear F fa;intro fa F
  refine F.vl (R_geq rfl (F.at rfl) (F.at rfl)) ?_;clear F fa;intro fa F
  refine wpList_nil ?_
  refine hK10 _ _ ?_
  clear hK10
  refine cd_if F rfl (fun hc19=>?_) (fun hc19=>?_)
  ·skip
   refine wp_seq_k fun K11 hK11=>?_
   refine wp_region_lit ?_
   refine F.vl (R_assign rfl (ev_c fa _)) ?_;clear F fa;intro fa F
   refine wpList_nil ?_
   refine hK11 _ _ ?_
   clear hK11
   refine wp_ret ?_
   (try simp only [Exit.inBlock,Exit.then,reduceIte])
   refine rt_v F (rs_1 F rfl rfl) ?_
   exact ⟨ret_int (by rw [← hc,cmpL_long (by omega) (by omega)]),E⟩
  ·skip
   refine wp_skip ?_
   refine hK9 _ _ ?_
   clear hK9
   refine wp_seq_k fun K12 hK12=>?_
   refine wp_region_lit ?_
   refine F.mv ?_;clear F fa;intro fa F
   refine F.mv ?_;clear F fa;intro fa F
   obtain ⟨xb13,xo13,xa13,xr13⟩:=HU.out i (by omega)
   refine F.vl (R_ixSlice (sz:=1) rfl ((F.at rfl).trans (xa13 _ _)) (F.at rfl) Try.underlying25 (by kernel_rfl) (by omega) (by omega)) ?_;clear F fa;intro fa F
   refine F.vl (R_load rfl (F.at rfl) Try.underlying3 rfl (xr13 _ E 0 _ rfl)) ?_;clear F fa;intro fa F
   refine F.as ?_;clear F fa;intro fa F
   refine wpList_nil ?_
   refine hK12 _ _ ?_
   clear hK12
   refine wp_seq_k fun K14 hK14=>?_
   refine wp_region_lit ?_
   refine F.mv ?_;clear F fa;intro fa F
   refine F.mv ?_;clear F fa;intro fa F
   refine sq_call F rfl (by decide) rfl (R_callV rfl rfl Try.call85 (mpS (F.at rfl) (mpS (F.at rfl) mp0))) (cmp_any (xs.getD i 0) (ys.getD i 0) _) fun e w2 hR=>?_
   obtain ⟨rfl,e9⟩:=hR
   refine ⟨_,rfl,?_⟩;clear F fa;intro fa F
   replace E:=ext_same E (e9)
   clear e9
   refine F.as ?_;clear F fa;intro fa F
   refine wpList_nil ?_
   refine hK14 _ _ ?_
   clear hK14
   refine wp_seq_k fun K15 hK15=>?_
   refine wp_region_lit ?_
   refine F.mv ?_;clear F fa;intro fa F
   refine F.vl (R_neqD rfl (F.at rfl) (ev_c fa _)) ?_;clear F fa;intro fa F
   refine wpList_nil ?_
   refine hK15 _ _ ?_
   clear hK15
   refine cd_if F rfl (fun hc28=>?_) (fun hc28=>?_)
   ·skip
    refine wp_seq_k fun K16 hK16=>?_
    refine wp_region_lit ?_
    refine F.mv ?_;clear F fa;intro fa F
    refine F.as ?_;clear F fa;intro fa F
    refine wpList_nil ?_
    refine hK16 _ _ ?_
    clear hK16
    refine wp_ret ?_
    (try simp only [Exit.inBlock,Exit.then,reduceIte])
    refine rt_v F (rs_1 F rfl rfl) ?_
    exact ⟨ret_int (by rw [← hc,cmpL_end (by omega) (by omega) hc28]),E⟩
   ·skip
    have hc28 : cmpE (xs.getD i 0) (ys.getD i 0) = 0:=by omega
    refine wp_skip ?_
    refine hK6 _ _ ?_
    clear hK6
    refine wp_region_lit ?_
    refine F.vl (R_add rfl (F.at rfl) (ev_c fa _) (by omega) (by omega)) ?_;clear F fa;intro fa F
    refine F.mv ?_;clear F fa;intro fa F
    refine wpList_nil ?_
    show _ ∧ _
    exact ⟨by omega,_,⟨rfl,E,((cmpL_go (by omega) (by omega) hc28).symm.trans hc),(by omega)⟩,F.sub (.c 11 rfl (.c 0 rfl (.c 1 rfl (.c 9 rfl (.c 10 rfl .n)))))⟩
 ·skip
  refine wp_exit ?_
  refine hK2 _ _ ?_
  clear hK2
  refine wp_seq_k fun K17 hK17=>?_
  refine wp_seq_k fun K18 hK18=>?_
  refine wp_region_lit ?_
  refine F.mv ?_;clear F fa;intro fa F
  refine F.vl (R_len rfl rfl (F.at rfl) Try.underlying25) ?_;clear F fa;intro fa F
  refine F.mv ?_;clear F fa;intro fa F
  refine F.vl (R_len rfl rfl (F.at rfl) Try.underlying25) ?_;clear F fa;intro fa F
  refine F.vl (R_lss rfl (F.at rfl) (F.at rfl)) ?_;clear F fa;intro fa F
  refine wpList_nil ?_
  refine hK18 _ _ ?_
  clear hK18
  refine cd_if F rfl (fun hc35=>?_) (fun hc35=>?_)
  ·skip
   refine wp_seq_k fun K19 hK19=>?_
   refine wp_region_lit ?_
   refine F.vl (R_assign rfl (ev_c fa _)) ?_;clear F fa;intro fa F
   refine wpList_nil ?_
   refine hK19 _ _ ?_
   clear hK19
   refine wp_ret ?_
   (try simp only [Exit.inBlock,Exit.then,reduceIte])
   refine rt_v F (rs_1 F rfl rfl) ?_
   exact ⟨ret_int (by rw [← hc,cmpL_short (by omega) (by omega)]),E⟩
  ·skip
   refine wp_skip ?_
   refine hK17 _ _ ?_
   clear hK17
   refine wp_seq_k fun K20 hK20=>?_
   refine wp_region_lit ?_
   refine F.vl (R_assign rfl (ev_c fa _)) ?_;clear F fa;intro fa F
   refine wpList_nil ?_
   refine hK20 _ _ ?_
   clear hK20
   refine wp_ret ?_
   (try simp only [Exit.inBlock,Exit.then,reduceIte])
   refine rt_v F (rs_1 F rfl rfl) ?_
   exact ⟨ret_int (by rw [← hc,cmpL_same (by omega) (by omega)]),E⟩
def noP (Q : Exit → Act → World → Prop) : Exit → Act → World → Prop:=fun e a w=>match e with
 | .panic _=>False
 | e=>Q e a w
section
variable {P : Program} {Q : Exit → Act → World → Prop} {a : Act} {w : World} {md : Region.Mode} {ops : Array Oper} {T : World → Prop} {stop : Option Nat} {listed : Array Bool}
theorem region_xN {l : List Oper} {id : Nat} (T : World → Prop) (stop : Option Nat) (hm : P.follows .mixedOrders = true)
  (h : ∀ W : World,W.heap = w.heap → Ext [] w W → wpAnyX P .any l.toArray (noP Q) T stop l.toArray.size (Array.replicate l.toArray.size false) a W) : (Code.region id l.toArray true).wp P Q a w:=
 Code.wp_mono (fun e a w h=>by cases e <;> first | exact h | exact h.elim) (region_x T stop hm h)
theorem ax_doneN (hr : Region.ready md ops listed = []) (h : Q .normal a w) (fuel : Nat) : wpAnyX P md ops (noP Q) T stop fuel listed a w:=ax_done (Q:=noP Q) hr h fuel
end
section
variable {P : Program} {ρ : Operand → Value} {o : Oper} {w : World}
theorem R_sliceOff {x : Operand} {t : TypeId} {b f n : Nat} (ho : o.op = .slice t x none none none) (hx : ρ x = .pointer (some ⟨b,f,none⟩)) (hu : P.underlying t = some (.array (P.arrayLen t) (P.elem t))) (hs : (P.info? (P.elem t)).map (·.size) = some 1) (hn : P.arrayLen t = n) :
  (execOp ρ o).run P w = .ok (.value (.slice (some ⟨b,f,none⟩) n n)) w:=by
 have h0 : (sizeOf (P.elem t)).run P w = .ok 1 w:=by
  generalize P.elem t = e at hs
  cases hq : P.info? e with
  | none=>simp [hq] at hs
  | some j =>
   have hj : j.size = 1:=by simpa [hq] using hs
   simp [sizeOf,typeInfo,hq,hj]
 have hr:=run_sliceAt_array_all (P:=P) w t ⟨b,f,none⟩ hu
 rw [h0,hn] at hr
 simp only [Result.andThen_ok,slicedAt,Nat.zero_mul,Nat.sub_zero] at hr
 have ha : (if n = 0 then (⟨b,f,none⟩ : Addr) else Addr.add ⟨b,f,none⟩ 0) = ⟨b,f,none⟩:=by split <;> rfl
 rw [ha] at hr
 clear hu hs hn h0 ha
 unfold execOp
 simp only [ho,hx,Option.map_none,Sem.run_bind,hr,Result.andThen_ok,Sem.run_pure]
end
theorem rows_mid {w : World} {b off : Nat} {C : Array Value} {T : TypeId} {fz : Nat × Nat} (xs : List Int) (cap : Nat) (h : w.heap[b]? = some (.cells C T fz)) (hc : ∀ j,j < xs.length → C[off + j]? = some (.int .i64 (xs.getD j 0))) : IsRows w (.slice (some ⟨b,off,none⟩) xs.length cap) 1 (xs.map intRow):=by
 refine ⟨some ⟨b,off,none⟩,cap,by simp,by simp [intRow],fun _=>⟨b,off,rfl,blk_lt h,fun i j x hi hj=>?_⟩⟩
 obtain rfl : j = 0:=by omega
 rw [cells_of_block h]
 simp only [List.getElem?_map,Option.map_eq_some_iff] at hi
 obtain ⟨y,hy,rfl⟩:=hi
 obtain ⟨h1,h2⟩:=List.getElem?_eq_some_iff.1 hy
 rw [Nat.mul_one,Nat.add_zero,hc i h1]
 simp [intRow,h1,h2]
def setL : List Value → Nat → List Value → List Value
 | xs,_,[]=>xs
 | xs,j,v :: vs=>setL (xs.set j v) (j + 1) vs
theorem put_midL {b : Nat} {T : TypeId} : ∀ {vs : List Value} {w w2 : World} {off : Nat} {C C' : Array Value},w2 = w.setCells b off vs → w.heap[b]? = some (.cells C T (0,0)) → C' = (setL C.toList off vs).toArray → w2.heap[b]? = some (.cells C' T (0,0))
 | [],w,w2,off,C,C',e,H,h=>by rw [e,h];simpa [World.setCells,setL] using H
 | v :: vs,w,w2,off,C,C',e,H,h=>by
  have h1:=put_cell (w2:=w.setCell ⟨b,off,none⟩ v) rfl H rfl
  exact put_midL (w:=w.setCell ⟨b,off,none⟩ v) (off:=off + 1) e h1 (by rw [h,setL,Array.toList_setIfInBounds])
def nearC (f : Nat → Int) (a b : Int) (s : Bool) : Array Value:=#[.int .i64 (f 0),.int .i64 (f 1),.int .i64 (f 2),.int .i64 (f 3),.int .i64 a,.int .i64 b,.bool s]
set_option maxRecDepth 100000 in
theorem offer_new (nb : Nat) (g f : Nat → Int) (c d a b : Int) (w : World) (hq : w.heap[nb]? = some (.cells (nearC g c d false) 88 (0,0))) :
  Calls Try.prog 60 #[.pointer (some ⟨nb,0,none⟩),.agg #[.int .i64 (f 0),.int .i64 (f 1),.int .i64 (f 2),.int .i64 (f 3)],.agg #[.int .i64 a,.int .i64 b]] w fun e w'=>e = .returned (.tuple #[]) ∧ w'.heap[nb]? = some (.cells (nearC f a b true) 88 (0,0)) ∧ Ext [nb] w w':=by
 have E : Ext [nb] w w:=Ext.refl _ _
 have qn : w.heap[nb]? = some (.cells #[.int .i64 (g 0),.int .i64 (g 1),.int .i64 (g 2),.int .i64 (g 3),.int .i64 c,.int .i64 d,.bool false] 88 (0,0)):=hq
 clear hq
 refine calls_has 31 Try.func60 rfl Try.ntmps60 (Nat.le_of_ble_eq_true rfl) ?_
 intro fa F
 refine wp_seq_k fun K1 hK1=>?_
 refine wp_region_lit ?_
 refine sq_new F rfl (by decide) rfl (R_box rfl (F.at rfl)) ?_;clear F fa;intro fa w1 F hw
 obtain ⟨n4,hn⟩ : ∃ n,n = w.heap.size:=⟨_,rfl⟩
 rw [← hn] at F
 have s4 : w.heap.size ≤ n4:=Nat.le_of_eq hn.symm
 have l4_E : w.heap.size ≤ n4:=by rw [hn];exact E.size
 have m4_n : nb < n4:=by rw [hn];exact blk_lt qn
 replace qn:=keep_alloc hw qn
 replace E:=ext_alloc E hw
 have q4:=new_row hw hn
 clear hw hn
 refine sq_new F rfl (by decide) rfl (R_box rfl (F.at rfl)) ?_;clear F fa;intro fa w2 F hw
 obtain ⟨n5,hn⟩ : ∃ n,n = w1.heap.size:=⟨_,rfl⟩
 rw [← hn] at F
 have s5 : w1.heap.size ≤ n5:=Nat.le_of_eq hn.symm
 have l5_E : w.heap.size ≤ n5:=by rw [hn];exact E.size
 have m5_n : nb < n5:=by rw [hn];exact blk_lt qn
 have m5_4 : n4 < n5:=by rw [hn];exact blk_lt q4
 replace qn:=keep_alloc hw qn
 replace q4:=keep_alloc hw q4
 replace E:=ext_alloc E hw
 have q5:=new_row hw hn
 clear hw hn
 refine wpList_nil ?_
 refine hK1 _ _ ?_
 clear hK1
 refine wp_seq_k fun K2 hK2=>?_
 refine wp_region_st 11 follows (by kernel_rfl) fun w3 hh eh=>?_
 replace qn:=keep_same hh qn
 replace q4:=keep_same hh q4
 replace q5:=keep_same hh q5
 replace E:=ext_same E eh
 clear hh eh
 refine F.smv ?_;clear F fa;intro fa F
 refine F.sv (R_nilCheck rfl (F.at rfl)) ?_;clear F fa;intro fa F
 refine F.sv (R_field rfl (F.at rfl) Try.underlying88 rfl (n:=6) (sz:=1) rfl (by kernel_rfl) (by decide)) ?_;clear F fa;intro fa F
 refine F.sv (R_load rfl (F.at rfl) Try.underlying4 rfl ((cells_of_block qn 6).trans (getS (getS (getS (getS (getS (getS (get0))))))))) ?_;clear F fa;intro fa F
 refine F.sv (R_not rfl (F.at rfl)) ?_;clear F fa;intro fa F
 refine F.smv ?_;clear F fa;intro fa F
 refine st_no F rfl (by decide) (wantF F rfl rfl (by decide) rfl (by decide)) ?_;clear F fa;intro fa F
 refine st_no F rfl (by decide) (wantF F rfl rfl (by decide) rfl (by decide)) ?_;clear F fa;intro fa F
 refine st_no F rfl (by decide) (wantF F rfl rfl (by decide) rfl (by decide)) ?_;clear F fa;intro fa F
 refine st_no F rfl (by decide) (wantF F rfl rfl (by decide) rfl (by decide)) ?_;clear F fa;intro fa F
 refine st_no F rfl (by decide) (wantF F rfl rfl (by decide) rfl (by decide)) ?_;clear F fa;intro fa F
 refine wpStill_nil ?_
 refine sq_no F rfl (by decide) (wantF F rfl rfl (by decide) rfl (by decide)) ?_;clear F fa;intro fa F
 refine sq_no F rfl (by decide) (wantF F rfl rfl (by decide) rfl (by decide)) ?_;clear F fa;intro fa F
 refine F.vl (R_pickT rfl (F.at rfl) (ev_c fa _)) ?_;clear F fa;intro fa F
 refine wpList_nil ?_
 refine hK2 _ _ ?_
 clear hK2
 refine cd_T F rfl ?_
 refine wp_region_lit ?_
 refine F.mv ?_;clear F fa;intro fa F
 refine F.mv ?_;clear F fa;intro fa F
 refine F.mv ?_;clear F fa;intro fa F
 refine F.vl (R_loadBlk rfl (F.at rfl) Try.underlying83 rfl (by kernel_rfl) q4) ?_;clear F fa;intro fa F
 refine F.vl (R_loadBlk rfl (F.at rfl) Try.underlying86 rfl (by kernel_rfl) q5) ?_;clear F fa;intro fa F
 refine F.vl (R_nilCheck rfl (F.at rfl)) ?_;clear F fa;intro fa F
 refine F.vl (R_field rfl (F.at rfl) Try.underlying88 rfl (n:=0) (sz:=4) rfl (by kernel_rfl) (by decide)) ?_;clear F fa;intro fa F
 refine sq_to rfl rfl (R_storeMid rfl (F.at rfl) (F.at rfl) (by kernel_rfl) (by simp [Value.oneCell']) qn (by simp)) ?_;intro w4 hw
 replace qn : w4.heap[nb]? = some (.cells #[.int .i64 (f 0),.int .i64 (f 1),.int .i64 (f 2),.int .i64 (f 3),.int .i64 c,.int .i64 d,.bool false] 88 (0,0)):=put_midL hw qn rfl
 replace q4:=keep_cells hw q4 (by omega)
 replace q5:=keep_cells hw q5 (by omega)
 replace E:=ext_cells E hw (fun h=>by first | exact absurd h (by omega) | simp)
 clear hw
 refine F.vl (R_nilCheck rfl (F.at rfl)) ?_;clear F fa;intro fa F
 refine F.vl (R_field rfl (F.at rfl) Try.underlying88 rfl (n:=4) (sz:=2) rfl (by kernel_rfl) (by decide)) ?_;clear F fa;intro fa F
 refine sq_to rfl rfl (R_storeMid rfl (F.at rfl) (F.at rfl) (by kernel_rfl) (by simp [Value.oneCell']) qn (by simp)) ?_;intro w5 hw
 replace qn:=put_mid2 hw qn (by simp only [List.setIfInBounds_toArray,lsQ,lzQ];exact rfl)
 replace q4:=keep_cells hw q4 (by omega)
 replace q5:=keep_cells hw q5 (by omega)
 replace E:=ext_cells E hw (fun h=>by first | exact absurd h (by omega) | simp)
 clear hw
 refine F.vl (R_nilCheck rfl (F.at rfl)) ?_;clear F fa;intro fa F
 refine F.vl (R_field rfl (F.at rfl) Try.underlying88 rfl (n:=6) (sz:=1) rfl (by kernel_rfl) (by decide)) ?_;clear F fa;intro fa F
 refine sq_to rfl rfl (R_store rfl (F.at rfl) (ev_c fa _) rfl (by kernel_rfl) ((cells_of_block qn 6).trans (getS (getS (getS (getS (getS (getS (get0)))))))) (free_of_block qn 6)) ?_;intro w6 hw
 replace qn:=put_cell hw qn (by simp only [List.setIfInBounds_toArray,lsQ,lzQ];exact rfl)
 replace q4:=keep_cell hw q4 (by omega)
 replace q5:=keep_cell hw q5 (by omega)
 replace E:=ext_cell E hw (fun h=>by first | exact absurd h (by omega) | simp)
 clear hw
 refine wpList_nil ?_
 (try simp only [Exit.inBlock,Exit.then,reduceIte])
 refine rt_vn F (rs_0 rfl) ?_
 exact ⟨rfl,qn,E⟩
set_option maxRecDepth 100000 in
theorem offer_old (nb : Nat) (g f : Nat → Int) (c d a b : Int) (w : World) (hq : w.heap[nb]? = some (.cells (nearC g c d true) 88 (0,0))) :
  Calls Try.prog 60 #[.pointer (some ⟨nb,0,none⟩),.agg #[.int .i64 (f 0),.int .i64 (f 1),.int .i64 (f 2),.int .i64 (f 3)],.agg #[.int .i64 a,.int .i64 b]] w fun e w'=>e = .returned (.tuple #[]) ∧ w'.heap[nb]? = some (.cells (if cmpL [a,b] [c,d] < 0 then nearC f a b true else nearC g c d true) 88 (0,0)) ∧ Ext [nb] w w':=by
 have E : Ext [nb] w w:=Ext.refl _ _
 have qn : w.heap[nb]? = some (.cells #[.int .i64 (g 0),.int .i64 (g 1),.int .i64 (g 2),.int .i64 (g 3),.int .i64 c,.int .i64 d,.bool true] 88 (0,0)):=hq
 clear hq
 refine calls_has 31 Try.func60 rfl Try.ntmps60 (Nat.le_of_ble_eq_true rfl) ?_
 intro fa F
 refine wp_seq_k fun K1 hK1=>?_
 refine wp_region_lit ?_
 refine sq_new F rfl (by decide) rfl (R_box rfl (F.at rfl)) ?_;clear F fa;intro fa w1 F hw
 obtain ⟨n4,hn⟩ : ∃ n,n = w.heap.size:=⟨_,rfl⟩
 rw [← hn] at F
 have s4 : w.heap.size ≤ n4:=Nat.le_of_eq hn.symm
 have l4_E : w.heap.size ≤ n4:=by rw [hn];exact E.size
 have m4_n : nb < n4:=by rw [hn];exact blk_lt qn
 replace qn:=keep_alloc hw qn
 replace E:=ext_alloc E hw
 have q4:=new_row hw hn
 clear hw hn
 refine sq_new F rfl (by decide) rfl (R_box rfl (F.at rfl)) ?_;clear F fa;intro fa w2 F hw
 obtain ⟨n5,hn⟩ : ∃ n,n = w1.heap.size:=⟨_,rfl⟩
 rw [← hn] at F
 have s5 : w1.heap.size ≤ n5:=Nat.le_of_eq hn.symm
 have l5_E : w.heap.size ≤ n5:=by rw [hn];exact E.size
 have m5_n : nb < n5:=by rw [hn];exact blk_lt qn
 have m5_4 : n4 < n5:=by rw [hn];exact blk_lt q4
 replace qn:=keep_alloc hw qn
 replace q4:=keep_alloc hw q4
 replace E:=ext_alloc E hw
 have q5:=new_row hw hn
 clear hw hn
 refine wpList_nil ?_
 refine hK1 _ _ ?_
 clear hK1
 refine wp_seq_k fun K2 hK2=>?_
 refine wp_region_st 11 follows (by kernel_rfl) fun w3 hh eh=>?_
 replace qn:=keep_same hh qn
 replace q4:=keep_same hh q4
 replace q5:=keep_same hh q5
 replace E:=ext_same E eh
 clear hh eh
 refine F.smv ?_;clear F fa;intro fa F
 refine F.sv (R_nilCheck rfl (F.at rfl)) ?_;clear F fa;intro fa F
 refine F.sv (R_field rfl (F.at rfl) Try.underlying88 rfl (n:=6) (sz:=1) rfl (by kernel_rfl) (by decide)) ?_;clear F fa;intro fa F
 refine F.sv (R_load rfl (F.at rfl) Try.underlying4 rfl ((cells_of_block qn 6).trans (getS (getS (getS (getS (getS (getS (get0))))))))) ?_;clear F fa;intro fa F
 refine F.sv (R_not rfl (F.at rfl)) ?_;clear F fa;intro fa F
 refine F.smv ?_;clear F fa;intro fa F
 refine F.sv ((R_sliceAll (n:=2) rfl (F.at rfl) (by kernel_rfl) (by kernel_rfl) (by kernel_rfl))) ?_ (hw:=(wantT F rfl rfl (by decide) rfl));clear F fa;intro fa F
 refine F.smv ?_ (hw:=(wantT F rfl rfl (by decide) rfl));clear F fa;intro fa F
 refine F.sv (R_nilCheck rfl (F.at rfl)) ?_ (hw:=(wantT F rfl rfl (by decide) rfl));clear F fa;intro fa F
 refine F.sv (R_field rfl (F.at rfl) Try.underlying88 rfl (n:=4) (sz:=2) rfl (by kernel_rfl) (by decide)) ?_ (hw:=(wantT F rfl rfl (by decide) rfl));clear F fa;intro fa F
 refine F.sv ((R_sliceOff (n:=2) rfl (F.at rfl) (by kernel_rfl) (by kernel_rfl) (by kernel_rfl))) ?_ (hw:=(wantT F rfl rfl (by decide) rfl));clear F fa;intro fa F
 refine wpStill_nil ?_
 refine sq_call F rfl (by decide) (wantT F rfl rfl (by decide) rfl) (R_callV rfl rfl Try.call77 (mpS (F.at rfl) (mpS (F.at rfl) mp0))) (compare_any [a,b] [c,d] (some ⟨n5,0,none⟩) (some ⟨nb,4,none⟩) 2 2 _ (rows_lit [a,b] 2 q5) (rows_mid [c,d] 2 qn (fun j hj=>by rcases j with _ | _ | j;(· rfl);(· rfl);(· simp at hj;omega))) (by simp) (by simp)) fun e w4 hR=>?_
 obtain ⟨rfl,e9⟩:=hR
 refine ⟨_,rfl,?_⟩;clear F fa;intro fa F
 replace qn:=(e9).keep0 qn
 replace q4:=(e9).keep0 q4
 replace q5:=(e9).keep0 q5
 replace E:=ext_same E (e9)
 clear e9
 refine F.vl (R_lss rfl (F.at rfl) (ev_c fa _)) ?_ (hw:=(wantT F rfl rfl (by decide) rfl));clear F fa;intro fa F
 refine F.vl (R_pickF rfl (F.at rfl) (F.at rfl)) ?_;clear F fa;intro fa F
 refine wpList_nil ?_
 refine hK2 _ _ ?_
 clear hK2
 refine cd_if F rfl (fun hc19=>?_) (fun hc19=>?_)
 ·skip
  refine wp_region_lit ?_
  refine F.mv ?_;clear F fa;intro fa F
  refine F.mv ?_;clear F fa;intro fa F
  refine F.mv ?_;clear F fa;intro fa F
  refine F.vl (R_loadBlk rfl (F.at rfl) Try.underlying83 rfl (by kernel_rfl) q4) ?_;clear F fa;intro fa F
  refine F.vl (R_loadBlk rfl (F.at rfl) Try.underlying86 rfl (by kernel_rfl) q5) ?_;clear F fa;intro fa F
  refine F.vl (R_nilCheck rfl (F.at rfl)) ?_;clear F fa;intro fa F
  refine F.vl (R_field rfl (F.at rfl) Try.underlying88 rfl (n:=0) (sz:=4) rfl (by kernel_rfl) (by decide)) ?_;clear F fa;intro fa F
  refine sq_to rfl rfl (R_storeMid rfl (F.at rfl) (F.at rfl) (by kernel_rfl) (by simp [Value.oneCell']) qn (by simp)) ?_;intro w5 hw
  replace qn : w5.heap[nb]? = some (.cells #[.int .i64 (f 0),.int .i64 (f 1),.int .i64 (f 2),.int .i64 (f 3),.int .i64 c,.int .i64 d,.bool true] 88 (0,0)):=put_midL hw qn rfl
  replace q4:=keep_cells hw q4 (by omega)
  replace q5:=keep_cells hw q5 (by omega)
  replace E:=ext_cells E hw (fun h=>by first | exact absurd h (by omega) | simp)
  clear hw
  refine F.vl (R_nilCheck rfl (F.at rfl)) ?_;clear F fa;intro fa F
  refine F.vl (R_field rfl (F.at rfl) Try.underlying88 rfl (n:=4) (sz:=2) rfl (by kernel_rfl) (by decide)) ?_;clear F fa;intro fa F
  refine sq_to rfl rfl (R_storeMid rfl (F.at rfl) (F.at rfl) (by kernel_rfl) (by simp [Value.oneCell']) qn (by simp)) ?_;intro w6 hw
  replace qn:=put_mid2 hw qn (by simp only [List.setIfInBounds_toArray,lsQ,lzQ];exact rfl)
  replace q4:=keep_cells hw q4 (by omega)
  replace q5:=keep_cells hw q5 (by omega)
  replace E:=ext_cells E hw (fun h=>by first | exact absurd h (by omega) | simp)
  clear hw
  refine F.vl (R_nilCheck rfl (F.at rfl)) ?_;clear F fa;intro fa F
  refine F.vl (R_field rfl (F.at rfl) Try.underlying88 rfl (n:=6) (sz:=1) rfl (by kernel_rfl) (by decide)) ?_;clear F fa;intro fa F
  refine sq_to rfl rfl (R_store rfl (F.at rfl) (ev_c fa _) rfl (by kernel_rfl) ((cells_of_block qn 6).trans (getS (getS (getS (getS (getS (getS (get0)))))))) (free_of_block qn 6)) ?_;intro w7 hw
  replace qn:=put_cell hw qn (by simp only [List.setIfInBounds_toArray,lsQ,lzQ];exact rfl)
  replace q4:=keep_cell hw q4 (by omega)
  replace q5:=keep_cell hw q5 (by omega)
  replace E:=ext_cell E hw (fun h=>by first | exact absurd h (by omega) | simp)
  clear hw
  refine wpList_nil ?_
  (try simp only [Exit.inBlock,Exit.then,reduceIte])
  refine rt_vn F (rs_0 rfl) ?_
  exact ⟨rfl,(by rw [if_pos hc19];exact qn),E⟩
 ·skip
  refine wp_skip ?_
  (try simp only [Exit.inBlock,Exit.then,reduceIte])
  refine rt_vn F (rs_0 rfl) ?_
  exact ⟨rfl,(by rw [if_neg hc19];exact qn),E⟩
section
variable {α : Type} (g : α → Nat → Int) (c : α → Int × Int)
def offO : Option α → α → Option α
 | none,t=>some t
 | some u,t=>if cmpL [(c t).1,(c t).2] [(c u).1,(c u).2] < 0 then some t else some u
def pickO (l : List α) : Option α:=l.foldl (offO c) none
def nearO : Option α → Array Value
 | none=>nearC zf 0 0 false
 | some t=>nearC (g t) (c t).1 (c t).2 true
theorem pick_snoc (l : List α) (t : α) : pickO c (l ++ [t]) = offO c (pickO c l) t:=by simp [pickO]
end
theorem offer_any {α : Type} (g : α → Nat → Int) (c : α → Int × Int) (nb : Nat) (o : Option α) (t : α) (w : World) (hq : w.heap[nb]? = some (.cells (nearO g c o) 88 (0,0))) :
  Calls Try.prog 60 #[.pointer (some ⟨nb,0,none⟩),.agg #[.int .i64 (g t 0),.int .i64 (g t 1),.int .i64 (g t 2),.int .i64 (g t 3)],.agg #[.int .i64 (c t).1,.int .i64 (c t).2]] w fun e w'=>e = .returned (.tuple #[]) ∧ w'.heap[nb]? = some (.cells (nearO g c (offO c o t)) 88 (0,0)) ∧ Ext [nb] w w':=by
 cases o with
 | none=>exact offer_new nb zf (g t) 0 0 (c t).1 (c t).2 w hq
 | some u =>
  refine Calls.mono (offer_old nb (g u) (g t) (c u).1 (c u).2 (c t).1 (c t).2 w hq) ?_
  rintro e w' ⟨h1,h2,h3⟩
  refine ⟨h1,?_,h3⟩
  rw [h2,offO]
  split <;> rfl
def dyeN (f : Nat → Int) (n : Nat) : Int:=sumTo (fun k=>min (f k) 1) n
def cF (t : List Int) : Int × Int:=(dyeN (val t) 4,prt (val t))
def fewR (x : Vm) (s : Nat → Int) (ls : List Int) : List Int × Int:=match pickO cF (matL x s ls) with
 | none=>([],11)
 | some t=>(cutL (val t) x.D.length,0)
def IntsPost (r : List Int × Int) (w : World) (e : Ending) (w' : World) : Prop:=∃ a c,e = .returned (.tuple #[.slice a r.1.length c,.int .i64 r.2]) ∧ w'.ownsRow w.heap.size 3 1 (.slice a r.1.length c) r.1.length (ivs r.1) ∧ Ext [] w w'
theorem pick_mem {α : Type} {c : α → Int × Int} {l : List α} {t : α} (h : pickO c l = some t) : t ∈ l:=by
 have key : ∀ (l : List α) (o : Option α),l.foldl (offO c) o = some t → t ∈ l ∨ o = some t:=by
  intro l
  induction l with
  | nil=>intro o h;exact .inr h
  | cons x l ih =>
   intro o h
   rcases ih _ h with h | h
   ·exact .inl (List.mem_cons_of_mem _ h)
   ·cases o with
    | none=>cases h;exact .inl (List.mem_cons_self ..)
    | some u =>
     rw [offO] at h
     split at h
     ·cases h;exact .inl (List.mem_cons_self ..)
     ·exact .inr h
 rcases key l none h with h | h
 ·exact h
 ·cases h
theorem cutL_len (f : Nat → Int) (n : Nat) : (cutL f n).length = n:=by simp [cutL]
theorem mat_mem {x : Vm} (hv : VOk x) {s : Nat → Int} {ls : List Int} {t : List Int} (h : t ∈ matL x s ls) : t.length = x.D.length ∧ TubS (val t):=by
 have hm:=(List.mem_filter.1 h).1
 have h2:=(recL_all x.D.length (by have:=hv.d4;omega)).2 t hm
 exact ⟨h2.1,h2.2.1⟩
theorem mat_len {x : Vm} (hv : VOk x) {s : Nat → Int} {ls : List Int} : (matL x s ls).length ≤ 500:=Nat.le_trans (List.length_filter_le _ _) (recL_len x.D.length (by have:=hv.d4;omega))
theorem getD_memL {α : Type} (d : α) {l : List α} {i : Nat} (h : i < l.length) : l.getD i d ∈ l:=by rw [List.getD_eq_getElem?_getD,List.getElem?_eq_getElem h];exact List.getElem_mem h
theorem slAt_of_tubs {w : World} {base n c : Nat} {a : Option Addr} {T : List (List Int)} (h : w.ownsRow base 83 4 (.slice a n c) n (tubsV T)) (hn : n = T.length) (X : List Nat) (hX : ∀ b ∈ X,b < base) : SlAt X w a 4 T.length (fun i=>tubR (val (T.getD i []))):=slAt_of_owns (row:=fun t : List Int=>tubR (val t)) h hn (fun _=>rfl) X hX []
set_option maxRecDepth 100000 in
set_option maxHeartbeats 1000000 in
theorem xFewest_ok (x : Vm) (hv : VOk x) (s : List Int) (hs : SmpOk x s) (ls : List Int) (hl : LmpsOk x ls) (hll : ls.length ≤ 1000) (a b : Option Addr) (c d : Nat) (w : World) (h : x.At w) (hr : IsRows w (.slice a s.length c) 1 (s.map intRow)) (hq : IsRows w (.slice b ls.length d) 1 (ls.map intRow)) :
  Calls Try.prog 39 #[.agg #[.int .i64 x.B,.slice x.da x.D.length x.dc,.slice x.la x.L.length x.lc,.int .i64 x.tol],.slice a s.length c,.slice b ls.length d] w (IntsPost (fewR x (val s) ls) w):=by
 have E : Ext [] w w:=Ext.refl _ _
 have HX:=Lib.hid h
 have HV:=Lib.hid hv
 have HR:=Lib.hid hr
 have HQ:=Lib.hid hq
 have HL:=Lib.hid hl
 have HS:=Lib.hid hs
 have hd4:=hv.d4
 obtain ⟨T,hT⟩ : ∃ T,T = matL x (val s) ls:=⟨_,rfl⟩
 have HM : RowKit.Hid (∀ t ∈ T,t.length = x.D.length ∧ TubS (val t)):=Lib.hid (fun t ht=>mat_mem hv (by rw [← hT];exact ht))
 have htl : T.length ≤ 500:=by rw [hT];exact mat_len hv
 clear h hv hr hq hl hs
 refine calls_hasM 55 Try.func39 rfl Try.ntmps39 (Nat.le_of_ble_eq_true rfl) ?_
 intro fa F
 refine wp_seq_k fun K1 hK1=>?_
 refine wp_region_lit ?_
 refine sq_new F rfl (by decide) rfl (R_box rfl (F.at rfl)) ?_;clear F fa;intro fa w1 F hw
 obtain ⟨n3,hn⟩ : ∃ n,n = w.heap.size:=⟨_,rfl⟩
 rw [← hn] at F
 have s3 : w.heap.size ≤ n3:=Nat.le_of_eq hn.symm
 have l3_E : w.heap.size ≤ n3:=by rw [hn];exact E.size
 replace E:=ext_alloc E hw
 have q3:=new_row hw hn
 clear hw hn
 refine F.vl (R_assign rfl (ev_c fa _)) ?_;clear F fa;intro fa F
 refine sq_new F rfl (by decide) rfl (R_alloc rfl Try.zeroValue35) ?_;clear F fa;intro fa w2 F hw
 obtain ⟨n7,hn⟩ : ∃ n,n = w1.heap.size:=⟨_,rfl⟩
 rw [← hn] at F
 have s7 : w1.heap.size ≤ n7:=Nat.le_of_eq hn.symm
 have l7_E : w.heap.size ≤ n7:=by rw [hn];exact E.size
 have m7_3 : n3 < n7:=by rw [hn];exact blk_lt q3
 replace q3:=keep_alloc hw q3
 replace E:=ext_alloc E hw
 have q7:=new_one hw rfl hn
 clear hw hn
 refine wpList_nil ?_
 refine hK1 _ _ ?_
 clear hK1
 refine wp_seq_k fun K2 hK2=>?_
 refine wp_region_lit ?_
 refine sq_defer F rfl rfl (R_defer rfl rfl (mpS (F.at rfl) mp0)) ?_;clear F fa;intro fa F
 refine wpList_nil ?_
 refine hK2 _ _ ?_
 clear hK2
 refine wp_seq_k fun K3 hK3=>?_
 refine wp_region_lit ?_
 refine F.vl (R_loadBlk rfl (F.at rfl) Try.underlying24 rfl (by kernel_rfl) q3) ?_;clear F fa;intro fa F
 refine sq_call F rfl (by decide) rfl (R_callV rfl rfl Try.call54 (mpS (F.at rfl) mp0)) (begin_ok x HV.out _ (HX.out.ext E)) fun e w3 hR=>?_
 obtain ⟨rfl,e9⟩:=hR
 refine ⟨_,rfl,?_⟩;clear F fa;intro fa F
 replace q3:=(e9).keep0 q3
 replace q7:=(e9).keep0 q7
 replace E:=ext_same E (e9)
 clear e9
 refine sq_new F rfl (by decide) rfl (R_alloc rfl Try.zeroValue80) ?_;clear F fa;intro fa w4 F hw
 obtain ⟨n8,hn⟩ : ∃ n,n = w3.heap.size:=⟨_,rfl⟩
 rw [← hn] at F
 have s8 : w3.heap.size ≤ n8:=Nat.le_of_eq hn.symm
 have l8_E : w.heap.size ≤ n8:=by rw [hn];exact E.size
 have m8_3 : n3 < n8:=by rw [hn];exact blk_lt q3
 have m8_7 : n7 < n8:=by rw [hn];exact blk_lt q7
 replace q3:=keep_alloc hw q3
 replace q7:=keep_alloc hw q7
 replace E:=ext_alloc E hw
 have q8:=new_row hw hn
 clear hw hn
 refine sq_to rfl rfl (R_storeRow rfl (F.at rfl) (F.at rfl) (by kernel_rfl) (by first | (simp [Value.oneCell'];done) | (simp [Value.oneCell',tubR];done)) q8 rfl) ?_;intro w5 hw
 replace q3:=keep_cells hw q3 (by omega)
 replace q7:=keep_cells hw q7 (by omega)
 replace q8:=put_row hw q8 rfl
 replace E:=ext_cells E hw (fun h=>by first | exact absurd h (by omega) | simp)
 clear hw
 refine wpList_nil ?_
 refine hK3 _ _ ?_
 clear hK3
 refine wp_seq_k fun K4 hK4=>?_
 refine wp_region_lit ?_
 refine F.vl (R_loadBlk rfl (F.at rfl) Try.underlying80 rfl (by kernel_rfl) q8) ?_;clear F fa;intro fa F
 refine F.mv ?_;clear F fa;intro fa F
 refine sq_call F rfl (by decide) rfl (R_callV rfl rfl Try.call56 (mpS (F.at rfl) (mpS (F.at rfl) mp0))) (sample_ok x HV.out s HS.out a c _ (HR.out.ext E (by simp))) fun e w6 hR=>?_
 obtain ⟨rfl,e9⟩:=hR
 refine ⟨_,rfl,?_⟩;clear F fa;intro fa F
 replace q3:=(e9).keep0 q3
 replace q7:=(e9).keep0 q7
 replace q8:=(e9).keep0 q8
 replace E:=ext_same E (e9)
 clear e9
 refine wpList_nil ?_
 refine hK4 _ _ ?_
 clear hK4
 refine wp_seq_k fun K5 hK5=>?_
 refine wp_region_lit ?_
 refine F.vl (R_loadBlk rfl (F.at rfl) Try.underlying80 rfl (by kernel_rfl) q8) ?_;clear F fa;intro fa F
 refine F.mv ?_;clear F fa;intro fa F
 refine sq_call F rfl (by decide) rfl (R_callV rfl rfl Try.call57 (mpS (F.at rfl) (mpS (F.at rfl) mp0))) (lamps_ok x HV.out ls HL.out hll b d _ (HX.out.ext E) (HQ.out.ext E (by simp))) fun e w7 hR=>?_
 obtain ⟨rfl,e9⟩:=hR
 refine ⟨_,rfl,?_⟩;clear F fa;intro fa F
 replace q3:=(e9).keep0 q3
 replace q7:=(e9).keep0 q7
 replace q8:=(e9).keep0 q8
 replace E:=ext_same E (e9)
 clear e9
 refine wpList_nil ?_
 refine hK5 _ _ ?_
 clear hK5
 refine wp_seq_k fun K6 hK6=>?_
 refine wp_region_lit ?_
 refine sq_new F rfl (by decide) rfl (R_alloc rfl Try.zeroValue88) ?_;clear F fa;intro fa w8 F hw
 obtain ⟨n9,hn⟩ : ∃ n,n = w7.heap.size:=⟨_,rfl⟩
 rw [← hn] at F
 have s9 : w7.heap.size ≤ n9:=Nat.le_of_eq hn.symm
 have l9_E : w.heap.size ≤ n9:=by rw [hn];exact E.size
 have m9_3 : n3 < n9:=by rw [hn];exact blk_lt q3
 have m9_7 : n7 < n9:=by rw [hn];exact blk_lt q7
 have m9_8 : n8 < n9:=by rw [hn];exact blk_lt q8
 replace q3:=keep_alloc hw q3
 replace q7:=keep_alloc hw q7
 replace q8:=keep_alloc hw q8
 replace E:=ext_alloc E hw
 have q9:=new_row hw hn
 clear hw hn
 refine wpList_nil ?_
 replace q9 : w8.heap[n9]? = some (.cells (nearO val cF (pickO cF (T.take 0))) 88 (0,0)):=q9
 refine hK6 _ _ ?_
 clear hK6
 refine wp_seq_k fun K7 hK7=>?_
 refine wp_seq_k fun K8 hK8=>?_
 refine wp_region_lit ?_
 refine F.vl (R_loadBlk rfl (F.at rfl) Try.underlying80 rfl (by kernel_rfl) q8) ?_;clear F fa;intro fa F
 refine F.mv ?_;clear F fa;intro fa F
 refine F.mv ?_;clear F fa;intro fa F
 have b9:=blk_lt q9
 refine sq_call F rfl (by decide) rfl (R_callV rfl rfl Try.call94 (mpS (F.at rfl) (mpS (F.at rfl) (mpS (F.at rfl) mp0)))) (matching_ok x HV.out s HS.out ls HL.out.2.1 hll a b c d _ (HX.out.ext E) (HR.out.ext E (by simp)) (HQ.out.ext E (by simp))) fun e w9 hR=>?_
 obtain ⟨ma,mc,rfl,om,e9⟩:=hR
 refine ⟨_,rfl,?_⟩;clear F fa;intro fa F
 replace q3:=(e9).keep0 q3
 replace q7:=(e9).keep0 q7
 replace q8:=(e9).keep0 q8
 replace q9:=(e9).keep0 q9
 replace E:=ext_same E (e9)
 clear e9
 rw [← hT] at F om
 have HT:=Lib.hid (slAt_of_tubs om rfl [n9] (by simpa using b9))
 clear om
 have E9 : Ext [n9] w9 w9:=Ext.refl _ _
 refine F.vl (R_len rfl rfl (F.at rfl) Try.underlying102) ?_;clear F fa;intro fa F
 refine F.vl (R_move rfl (ev_c fa _)) ?_;clear F fa;intro fa F
 refine wpList_nil ?_
 refine hK8 _ _ ?_
 clear hK8
 refine wp_block ?_
 have F0:=F.sub (.c 7 rfl (.c 8 rfl (.c 9 rfl (.c 26 rfl (.c 27 rfl .n)))))
 refine lp_for F0 (T.length) (fun i Lv W=>Lv = [(28,.int .i64 ((i : Nat) : Int))] ∧ Ext [] w W ∧ Ext [n9] w9 W ∧ W.heap[n3]? = some (.cells #[.int .i64 x.B,.slice x.da x.D.length x.dc,.slice x.la x.L.length x.lc,.int .i64 x.tol] 24 (0,0)) ∧ W.heap[n7]? = some (.cells #[.int .i64 0] 35 (0,0)) ∧ W.heap[n8]? = some (.cells #[.int .i64 x.B,.slice x.da x.D.length x.dc,.slice x.la x.L.length x.lc,.int .i64 x.tol] 80 (0,0)) ∧ W.heap[n9]? = some (.cells (nearO val cF (pickO cF (T.take i))) 88 (0,0))) ⟨_,⟨rfl,E,E9,q3,q7,q8,q9⟩,F.sub (.c 28 rfl (.c 7 rfl (.c 8 rfl (.c 9 rfl (.c 26 rfl (.c 27 rfl .n))))))⟩ ?_
 clear F F0
 clear E E9 q3 q7 q8 q9
 rintro i _ fa w10 hi1 ⟨rfl,E,E9,q3,q7,q8,q9⟩ F
 refine wp_seq_k fun K9 hK9=>?_
 refine wp_region_lit ?_
 refine F.vl (R_lss rfl (F.at rfl) (F.at rfl)) ?_;clear F fa;intro fa F
 refine wpList_nil ?_
 refine hK9 _ _ ?_
 clear hK9
 refine wp_seq_k fun K10 hK10=>?_
 refine cd_if F rfl (fun hc29=>?_) (fun hc29=>?_)
 ·skip
  refine wp_skip ?_
  refine hK10 _ _ ?_
  clear hK10
  refine wp_seq_k fun K11 hK11=>?_
  refine wp_block ?_
  refine wp_seq_k fun K12 hK12=>?_
  refine wp_region_lit ?_
  obtain ⟨xb13,xo13,xa13,xr13⟩:=HT.out i (by omega)
  refine F.vl (R_ixSlice (sz:=4) rfl ((F.at rfl).trans (xa13 _ _)) (F.at rfl) Try.underlying102 (by kernel_rfl) (by omega) (by omega)) ?_;clear F fa;intro fa F
  refine F.vl (R_loadRow rfl (F.at rfl) Try.underlying83 rfl (by kernel_rfl) (xr13 _ E9)) ?_;clear F fa;intro fa F
  refine sq_new F rfl (by decide) rfl (R_alloc rfl Try.zeroValue83) ?_;clear F fa;intro fa w11 F hw
  obtain ⟨n11,hn⟩ : ∃ n,n = w10.heap.size:=⟨_,rfl⟩
  rw [← hn] at F
  have s11 : w10.heap.size ≤ n11:=Nat.le_of_eq hn.symm
  have l11_E : w.heap.size ≤ n11:=by rw [hn];exact E.size
  have l11_E9 : w9.heap.size ≤ n11:=by rw [hn];exact E9.size
  have m11_3 : n3 < n11:=by rw [hn];exact blk_lt q3
  have m11_7 : n7 < n11:=by rw [hn];exact blk_lt q7
  have m11_8 : n8 < n11:=by rw [hn];exact blk_lt q8
  have m11_9 : n9 < n11:=by rw [hn];exact blk_lt q9
  replace q3:=keep_alloc hw q3
  replace q7:=keep_alloc hw q7
  replace q8:=keep_alloc hw q8
  replace q9:=keep_alloc hw q9
  replace E:=ext_alloc E hw
  replace E9:=ext_alloc E9 hw
  have q11:=new_row hw hn
  clear hw hn
  refine sq_to rfl rfl (R_storeRow rfl (F.at rfl) (F.at rfl) (by kernel_rfl) (by first | (simp [Value.oneCell'];done) | (simp [Value.oneCell',tubR];done)) q11 rfl) ?_;intro w12 hw
  replace q3:=keep_cells hw q3 (by omega)
  replace q7:=keep_cells hw q7 (by omega)
  replace q8:=keep_cells hw q8 (by omega)
  replace q9:=keep_cells hw q9 (by omega)
  replace q11:=put_row hw q11 rfl
  replace E:=ext_cells E hw (fun h=>by first | exact absurd h (by omega) | simp)
  replace E9:=ext_cells E9 hw (fun h=>by first | exact absurd h (by omega) | simp)
  clear hw
  refine wpList_nil ?_
  have hts:=(HM.out (T.getD i []) (getD_memL [] (by omega))).2
  replace q11 : w12.heap[n11]? = some (.cells (tubC (val (T.getD i []))) 83 (0,0)):=q11
  refine hK12 _ _ ?_
  clear hK12
  refine wp_seq_k fun K14 hK14=>?_
  refine wp_region_lit ?_
  refine F.vl (R_assign rfl (ev_c fa _)) ?_;clear F fa;intro fa F
  rw [show (0 : Int) = dyeN (val (T.getD i [])) 0 from rfl] at F
  refine wpList_nil ?_
  refine hK14 _ _ ?_
  clear hK14
  refine wp_seq_k fun K15 hK15=>?_
  refine wp_seq_k fun K16 hK16=>?_
  refine wp_region_lit ?_
  refine F.vl (R_loadBlk rfl (F.at rfl) Try.underlying83 rfl (by kernel_rfl) q11) ?_;clear F fa;intro fa F
  refine F.vl (R_move rfl (ev_c fa _)) ?_;clear F fa;intro fa F
  refine wpList_nil ?_
  refine hK16 _ _ ?_
  clear hK16
  refine wp_block ?_
  have F0:=F.sub (.c 7 rfl (.c 8 rfl (.c 9 rfl (.c 11 rfl (.c 26 rfl (.c 27 rfl (.c 28 rfl (.c 32 rfl .n))))))))
  refine lp_for F0 (4) (fun k Lv W=>Lv = [(12,.int .i64 (dyeN (val (T.getD i [])) k)),(33,.int .i64 ((k : Nat) : Int))] ∧ Ext [] w W ∧ Ext [n9] w9 W ∧ W.heap[n3]? = some (.cells #[.int .i64 x.B,.slice x.da x.D.length x.dc,.slice x.la x.L.length x.lc,.int .i64 x.tol] 24 (0,0)) ∧ W.heap[n7]? = some (.cells #[.int .i64 0] 35 (0,0)) ∧ W.heap[n8]? = some (.cells #[.int .i64 x.B,.slice x.da x.D.length x.dc,.slice x.la x.L.length x.lc,.int .i64 x.tol] 80 (0,0)) ∧ W.heap[n9]? = some (.cells (nearO val cF (pickO cF (T.take i))) 88 (0,0)) ∧ W.heap[n11]? = some (.cells (tubC (val (T.getD i []))) 83 (0,0)) ∧ 0 ≤ dyeN (val (T.getD i [])) k ∧ dyeN (val (T.getD i [])) k ≤ k) ⟨_,⟨rfl,E,E9,q3,q7,q8,q9,q11,(by simp [dyeN,sumTo])⟩,F.sub (.c 12 rfl (.c 33 rfl (.c 7 rfl (.c 8 rfl (.c 9 rfl (.c 11 rfl (.c 26 rfl (.c 27 rfl (.c 28 rfl (.c 32 rfl .n))))))))))⟩ ?_
  clear F F0
  clear E E9 q3 q7 q8 q9 q11
  rintro k _ fa w13 hi2 ⟨rfl,E,E9,q3,q7,q8,q9,q11,hdn⟩ F
  refine wp_seq_k fun K17 hK17=>?_
  refine wp_region_lit ?_
  refine F.vl (R_lss rfl (F.at rfl) (ev_c fa _)) ?_;clear F fa;intro fa F
  refine wpList_nil ?_
  refine hK17 _ _ ?_
  clear hK17
  refine wp_seq_k fun K18 hK18=>?_
  refine cd_if F rfl (fun hc34=>?_) (fun hc34=>?_)
  ·skip
   refine wp_skip ?_
   refine hK18 _ _ ?_
   clear hK18
   refine wp_seq_k fun K19 hK19=>?_
   refine wp_block ?_
   refine wp_seq_k fun K20 hK20=>?_
   refine wp_region_lit ?_
   refine F.vl (R_index rfl (F.at rfl) (F.at rfl) Try.underlying83 (by kernel_rfl) Try.underlying3 rfl (by omega) (by omega) (tub_ix (k:=k) rfl (by omega))) ?_;clear F fa;intro fa F
   refine F.as ?_;clear F fa;intro fa F
   refine wpList_nil ?_
   refine hK20 _ _ ?_
   clear hK20
   have hbk:=hts k (by omega)
   refine wp_region_lit ?_
   refine F.mv ?_;clear F fa;intro fa F
   refine F.mv ?_;clear F fa;intro fa F
   refine F.vl (R_min rfl rfl (F.at rfl) (ev_c fa _)) ?_;clear F fa;intro fa F
   refine F.vl (R_add rfl (F.at rfl) (F.at rfl) (by omega) (by omega)) ?_;clear F fa;intro fa F
   refine F.as ?_;clear F fa;intro fa F
   rw [show dyeN (val (T.getD i [])) k + min (val (T.getD i []) k) 1 = dyeN (val (T.getD i [])) (k + 1) from rfl] at F
   refine wpList_nil ?_
   refine hK19 _ _ ?_
   clear hK19
   refine wp_region_lit ?_
   refine F.vl (R_add rfl (F.at rfl) (ev_c fa _) (by omega) (by omega)) ?_;clear F fa;intro fa F
   refine F.mv ?_;clear F fa;intro fa F
   refine wpList_nil ?_
   show _ ∧ _
   exact ⟨by omega,_,⟨rfl,E,E9,q3,q7,q8,q9,q11,(by have:=hts k (by omega);have h2 : dyeN (val (T.getD i [])) (k + 1) = dyeN (val (T.getD i [])) k + min (val (T.getD i []) k) 1:=rfl;constructor <;> omega)⟩,F.sub (.c 12 rfl (.c 33 rfl (.c 7 rfl (.c 8 rfl (.c 9 rfl (.c 11 rfl (.c 26 rfl (.c 27 rfl (.c 28 rfl (.c 32 rfl .n))))))))))⟩
  ·skip
   refine wp_exit ?_
   rw [show k = 4 by omega] at F
   refine hK15 _ _ ?_
   clear hK15
   refine region_xN (Ext [n9] w13) none follows fun w14 hh eh=>?_
   have q3_:=q3
   replace q3:=keep_same hh q3
   have q7_:=q7
   replace q7:=keep_same hh q7
   have q8_:=q8
   replace q8:=keep_same hh q8
   have q9_:=q9
   replace q9:=keep_same hh q9
   have q11_:=q11
   replace q11:=keep_same hh q11
   have E_:=E
   have zEw14:=E.size
   replace E:=ext_same E eh
   have E9_:=E9
   have zE9w14:=E9.size
   replace E9:=ext_same E9 eh
   have eT:=eh.mono (Y:=[n9]) (by simp)
   clear hh eh
   refine F.xr (i:=0) rfl (fun w' hS=>R_loadBlk rfl (F.at rfl) Try.underlying83 rfl (by kernel_rfl) (hS.keep q11_ (by simp;omega))) (fun _=>eT) ?_;clear F fa;intro fa F
   refine F.x (i:=1) rfl (fun w'=>R_move rfl (F.at rfl)) (fun _=>eT) ?_;clear F fa;intro fa F
   refine F.xr (i:=2) rfl (fun w' hS=>R_loadBlk rfl (F.at rfl) Try.underlying83 rfl (by kernel_rfl) (hS.keep q11_ (by simp;omega))) (fun _=>eT) ?_;clear F fa;intro fa F
   refine ax_only (i:=3) (by kernel_rfl) (op_call F rfl rfl (by decide) rfl (R_callV rfl rfl Try.call61 (mpS (F.at rfl) mp0)) (parts_any (val (T.getD i [])) hts.ok _) fun e w15 hR=>?_)
   obtain ⟨rfl,e9⟩:=hR
   refine ⟨_,rfl,?_⟩;clear F fa;intro fa F
   replace q3:=(e9).keep0 q3
   replace q7:=(e9).keep0 q7
   replace q8:=(e9).keep0 q8
   replace q9:=(e9).keep0 q9
   replace q11:=(e9).keep0 q11
   replace E:=ext_same E (e9)
   replace E9:=ext_same E9 (e9)
   replace eT:=ext_same eT (e9)
   clear e9
   refine ⟨fun _=>eT,?_⟩
   refine F.x (i:=4) rfl (fun w'=>R_buildV rfl (prS (F.at rfl) (prS (F.at rfl) pr0)) (cells:=#[.int .i64 (dyeN (val (T.getD i [])) 4),.int .i64 (prt (val (T.getD i [])))]) (by kernel_rfl)) (fun _=>eT) ?_;clear F fa;intro fa F
   refine ax_only (i:=5) (by kernel_rfl) (op_call F rfl rfl (by decide) rfl (R_callV rfl rfl Try.call60 (mpS (F.at rfl) (mpS (F.at rfl) (mpS (F.at rfl) mp0)))) (offer_any val cF n9 (pickO cF (T.take i)) (T.getD i []) _ q9) fun e w16 hR=>?_)
   obtain ⟨rfl,q9',e9⟩:=hR
   refine ⟨_,rfl,?_⟩;clear F fa;intro fa F
   replace q3:=(e9).keep q3 (by simp;omega)
   replace q7:=(e9).keep q7 (by simp;omega)
   replace q8:=(e9).keep q8 (by simp;omega)
   replace q11:=(e9).keep q11 (by simp;omega)
   replace E:=E.trans' e9 (fun i hi hl=>by simp only [List.mem_cons,List.not_mem_nil,or_false] at hi ⊢;omega)
   replace E9:=E9.trans' e9 (fun i hi hl=>by simp only [List.mem_cons,List.not_mem_nil,or_false] at hi ⊢;omega)
   replace eT:=eT.trans' e9 (fun i hi hl=>by simp only [List.mem_cons,List.not_mem_nil,or_false] at hi ⊢;omega)
   refine ⟨fun _=>eT,?_⟩
   rw [← pick_snoc,← take_getD T [] (by omega)] at q9'
   replace q9:=q9'
   clear q9'
   refine ax_doneN (by kernel_rfl) ?_ _
   clear eT q3_ q7_ q8_ q9_ q11_ E_ E9_
   refine hK11 _ _ ?_
   clear hK11
   refine wp_region_lit ?_
   refine F.vl (R_add rfl (F.at rfl) (ev_c fa _) (by omega) (by omega)) ?_;clear F fa;intro fa F
   refine F.mv ?_;clear F fa;intro fa F
   refine wpList_nil ?_
   show _ ∧ _
   exact ⟨by omega,_,⟨rfl,E,E9,q3,q7,q8,q9⟩,F.sub (.c 28 rfl (.c 7 rfl (.c 8 rfl (.c 9 rfl (.c 26 rfl (.c 27 rfl .n))))))⟩
 ·skip
  refine wp_exit ?_
  rw [List.take_of_length_le (show T.length ≤ i by omega)] at q9
  refine hK7 _ _ ?_
  clear hK7
  refine wp_seq_k fun K21 hK21=>?_
  refine wp_seq_k fun K22 hK22=>?_
  by_cases hN : pickO cF T = none
  ·skip
   replace q9 : w10.heap[n9]? = some (.cells #[.int .i64 (zf 0),.int .i64 (zf 1),.int .i64 (zf 2),.int .i64 (zf 3),.int .i64 0,.int .i64 0,.bool false] 88 (0,0)):=by rw [hN] at q9;exact q9
   refine wp_region_lit ?_
   refine F.vl (R_field rfl (F.at rfl) Try.underlying88 rfl (n:=6) (sz:=1) rfl (by kernel_rfl) (by decide)) ?_;clear F fa;intro fa F
   refine F.vl (R_load rfl (F.at rfl) Try.underlying4 rfl ((cells_of_block q9 6).trans (getS (getS (getS (getS (getS (getS (get0))))))))) ?_;clear F fa;intro fa F
   refine F.vl (R_not rfl (F.at rfl)) ?_;clear F fa;intro fa F
   refine wpList_nil ?_
   refine hK22 _ _ ?_
   clear hK22
   refine cd_T F rfl ?_
   refine wp_seq_k fun K23 hK23=>?_
   refine wp_region_lit ?_
   refine F.vl (R_assign rfl (ev_c fa _)) ?_;clear F fa;intro fa F
   refine sq_to rfl rfl (R_store rfl (F.at rfl) (ev_c fa _) rfl (by kernel_rfl) ((cells_of_block q7 0).trans (get0)) (free_of_block q7 0)) ?_;intro w17 hw
   replace q3:=keep_cell hw q3 (by omega)
   replace q7:=put_cell hw q7 (by simp only [List.setIfInBounds_toArray,lsQ,lzQ];exact rfl)
   replace q8:=keep_cell hw q8 (by omega)
   replace q9:=keep_cell hw q9 (by omega)
   replace E:=ext_cell E hw (fun h=>by first | exact absurd h (by omega) | simp)
   clear hw
   refine wpList_nil ?_
   refine hK23 _ _ ?_
   clear hK23
   refine wp_ret ?_
   (try simp only [Exit.inBlock,Exit.then,reduceIte])
   refine rtM_v F ?_
   refine lv_caught ?_
   refine lv_nil (rs_tc F rfl rfl rfl Try.underlying35 rfl q7) ?_
   rw [fewR,← hT,hN]
   exact ⟨none,0,rfl,World.ownsRow_nil _ _ _ _,E⟩
  ·skip
   obtain ⟨t,ht⟩:=Option.ne_none_iff_exists'.1 hN
   have htm:=HM.out t (pick_mem ht)
   replace q9 : w10.heap[n9]? = some (.cells #[.int .i64 (val t 0),.int .i64 (val t 1),.int .i64 (val t 2),.int .i64 (val t 3),.int .i64 (cF t).1,.int .i64 (cF t).2,.bool true] 88 (0,0)):=by rw [ht] at q9;exact q9
   refine wp_region_lit ?_
   refine F.vl (R_field rfl (F.at rfl) Try.underlying88 rfl (n:=6) (sz:=1) rfl (by kernel_rfl) (by decide)) ?_;clear F fa;intro fa F
   refine F.vl (R_load rfl (F.at rfl) Try.underlying4 rfl ((cells_of_block q9 6).trans (getS (getS (getS (getS (getS (getS (get0))))))))) ?_;clear F fa;intro fa F
   refine F.vl (R_not rfl (F.at rfl)) ?_;clear F fa;intro fa F
   refine wpList_nil ?_
   refine hK22 _ _ ?_
   clear hK22
   refine cd_F F rfl ?_
   refine wp_skip ?_
   refine hK21 _ _ ?_
   clear hK21
   refine wp_seq_k fun K24 hK24=>?_
   refine wp_region_lit ?_
   refine F.vl (R_loadBlk rfl (F.at rfl) Try.underlying80 rfl (by kernel_rfl) q8) ?_;clear F fa;intro fa F
   refine F.vl (R_field rfl (F.at rfl) Try.underlying88 rfl (n:=0) (sz:=4) rfl (by kernel_rfl) (by decide)) ?_;clear F fa;intro fa F
   refine F.vl (R_loadRow rfl (F.at rfl) Try.underlying83 rfl (by kernel_rfl) (range_mid' (n:=4) q9 rfl (midS (get0) (midS (getS (get0)) (midS (getS (getS (get0))) (midS (getS (getS (getS (get0)))) mid0)))))) ?_;clear F fa;intro fa F
   have hEs:=E.size
   refine sq_call F rfl (by decide) rfl (R_callV rfl rfl Try.call62 (mpS (F.at rfl) (mpS (F.at rfl) mp0))) (cut_ok x HV.out (val t) _) fun e w18 hR=>?_
   obtain ⟨ca,cc,rfl,oo,e9⟩:=hR
   refine ⟨_,rfl,?_⟩;clear F fa;intro fa F
   replace q3:=(e9).keep0 q3
   replace q7:=(e9).keep0 q7
   replace q8:=(e9).keep0 q8
   replace q9:=(e9).keep0 q9
   replace E:=ext_same E (e9)
   clear e9
   replace oo:=owns_lower oo hEs
   refine F.as ?_;clear F fa;intro fa F
   refine sq_to rfl rfl (R_store rfl (F.at rfl) (ev_c fa _) rfl (by kernel_rfl) ((cells_of_block q7 0).trans (get0)) (free_of_block q7 0)) ?_;intro w19 hw
   replace oo:=owns_cellX hw oo (own_ne_type oo q7 (by decide))
   replace q3:=keep_cell hw q3 (by omega)
   replace q7:=put_cell hw q7 (by simp only [List.setIfInBounds_toArray,lsQ,lzQ];exact rfl)
   replace q8:=keep_cell hw q8 (by omega)
   replace q9:=keep_cell hw q9 (by omega)
   replace E:=ext_cell E hw (fun h=>by first | exact absurd h (by omega) | simp)
   clear hw
   refine wpList_nil ?_
   refine hK24 _ _ ?_
   clear hK24
   refine wp_ret ?_
   (try simp only [Exit.inBlock,Exit.then,reduceIte])
   refine rtM_v F ?_
   refine lv_caught ?_
   refine lv_nil (rs_tc F rfl rfl rfl Try.underlying35 rfl q7) ?_
   rw [fewR,← hT,ht]
   refine ⟨ca,cc,?_,?_,E⟩
   ·simp only [cutL_len]
   ·simp only [cutL_len];exact oo
theorem snd_getD {α β : Type} (d : α × β) : ∀ (l : List (α × β)) (k : Nat),(l.getD k d).2 = (l.map (·.2)).getD k d.2
 | [],_=>rfl
 | _ :: _,0=>rfl
 | _ :: l,k + 1=>snd_getD d l k
structure SameV (y x : Vm) : Prop where
 B : y.B = x.B
 tol : y.tol = x.tol
 D : y.D.map (·.2) = x.D.map (·.2)
 L : y.L.map (·.2) = x.L.map (·.2)
theorem SameV.dl {y x : Vm} (h : SameV y x) : y.D.length = x.D.length:=by have:=congrArg List.length h.D;simpa using this
theorem SameV.ll {y x : Vm} (h : SameV y x) : y.L.length = x.L.length:=by have:=congrArg List.length h.L;simpa using this
theorem SameV.lamp {y x : Vm} (h : SameV y x) (k : Nat) : y.lamp k = x.lamp k:=by rw [Vm.lamp,Vm.lamp,snd_getD,snd_getD,h.L]
theorem SameV.dye {y x : Vm} (h : SameV y x) (k : Nat) : y.dye k = x.dye k:=by rw [Vm.dye,Vm.dye,snd_getD,snd_getD,h.D]
theorem SameV.ok {y x : Vm} (h : SameV y x) (hv : VOk x) : VOk y where
 chk:=by rw [h.B,h.tol,h.D,h.L];exact hv.chk
 b1:=by rw [h.B];exact hv.b1
 b3:=by rw [h.B];exact hv.b3
 d1:=by rw [h.dl];exact hv.d1
 d4:=by rw [h.dl];exact hv.d4
 dl:=fun p hp=>by
  have hm : p.2 ∈ y.D.map (·.2):=List.mem_map.2 ⟨p,hp,rfl⟩
  rw [h.D] at hm
  obtain ⟨q,hq,he⟩:=List.mem_map.1 hm
  rw [← he,h.B];exact hv.dl q hq
 l1:=by rw [h.ll];exact hv.l1
 l3:=by rw [h.ll];exact hv.l3
 ll:=fun p hp=>by
  have hm : p.2 ∈ y.L.map (·.2):=List.mem_map.2 ⟨p,hp,rfl⟩
  rw [h.L] at hm
  obtain ⟨q,hq,he⟩:=List.mem_map.1 hm
  rw [← he,h.B];exact hv.ll q hq
 t0:=by rw [h.tol];exact hv.t0
 t12:=by rw [h.tol];exact hv.t12
theorem SameV.ton {y x : Vm} (h : SameV y x) (f : Nat → Int) (j : Nat) : ∀ n,tonE y f j n = tonE x f j n
 | 0=>rfl
 | n + 1=>by
  show tonE y f j n + f n * val (y.dye n) j = tonE x f j n + f n * val (x.dye n) j
  rw [h.ton f j n,h.dye]
theorem SameV.off {y x : Vm} (h : SameV y x) (k : Nat) (f s : Nat → Int) : offE y k f s = offE x k f s:=by
 have ht : tnE y f = tnE x f:=funext fun j=>by rw [tnE,tnE,h.dl,h.ton]
 rw [offE,offE,h.lamp,h.B,ht]
theorem SameV.mat {y x : Vm} (h : SameV y x) (s : Nat → Int) (ls : List Int) : matL y s ls = matL x s ls:=by
 rw [matL,matL,h.dl]
 congr 1
 funext t
 rw [cndE,cndE,matE,matE]
 congr 2
 funext l
 rw [h.off,h.tol]
theorem SameV.smp {y x : Vm} (h : SameV y x) {s : List Int} (hs : SmpOk x s) : SmpOk y s:=⟨by rw [h.B];exact hs.1,hs.2⟩
def nearIC (v a b : Int) (s : Bool) : Array Value:=#[.int .i64 v,.int .i64 a,.int .i64 b,.bool s]
set_option maxRecDepth 100000 in
theorem offerI_new (nb : Nat) (v c d u a b : Int) (w : World) (hq : w.heap[nb]? = some (.cells (nearIC v c d false) 124 (0,0))) :
  Calls Try.prog 96 #[.pointer (some ⟨nb,0,none⟩),.int .i64 u,.agg #[.int .i64 a,.int .i64 b]] w fun e w'=>e = .returned (.tuple #[]) ∧ w'.heap[nb]? = some (.cells (nearIC u a b true) 124 (0,0)) ∧ Ext [nb] w w':=by
 have E : Ext [nb] w w:=Ext.refl _ _
 have qn : w.heap[nb]? = some (.cells #[.int .i64 v,.int .i64 c,.int .i64 d,.bool false] 124 (0,0)):=hq
 clear hq
 refine calls_has 31 Try.func96 rfl Try.ntmps96 (Nat.le_of_ble_eq_true rfl) ?_
 intro fa F
 refine wp_seq_k fun K1 hK1=>?_
 refine wp_region_lit ?_
 refine sq_new F rfl (by decide) rfl (R_box rfl (F.at rfl)) ?_;clear F fa;intro fa w1 F hw
 obtain ⟨n5,hn⟩ : ∃ n,n = w.heap.size:=⟨_,rfl⟩
 rw [← hn] at F
 have s5 : w.heap.size ≤ n5:=Nat.le_of_eq hn.symm
 have l5_E : w.heap.size ≤ n5:=by rw [hn];exact E.size
 have m5_n : nb < n5:=by rw [hn];exact blk_lt qn
 replace qn:=keep_alloc hw qn
 replace E:=ext_alloc E hw
 have q5:=new_row hw hn
 clear hw hn
 refine wpList_nil ?_
 refine hK1 _ _ ?_
 clear hK1
 refine wp_seq_k fun K2 hK2=>?_
 refine wp_region_st 11 follows (by kernel_rfl) fun w2 hh eh=>?_
 replace qn:=keep_same hh qn
 replace q5:=keep_same hh q5
 replace E:=ext_same E eh
 clear hh eh
 refine F.smv ?_;clear F fa;intro fa F
 refine F.sv (R_nilCheck rfl (F.at rfl)) ?_;clear F fa;intro fa F
 refine F.sv (R_field rfl (F.at rfl) Try.underlying124 rfl (n:=3) (sz:=1) rfl (by kernel_rfl) (by decide)) ?_;clear F fa;intro fa F
 refine F.sv (R_load rfl (F.at rfl) Try.underlying4 rfl ((cells_of_block qn 3).trans (getS (getS (getS (get0)))))) ?_;clear F fa;intro fa F
 refine F.sv (R_not rfl (F.at rfl)) ?_;clear F fa;intro fa F
 refine F.smv ?_;clear F fa;intro fa F
 refine st_no F rfl (by decide) (wantF F rfl rfl (by decide) rfl (by decide)) ?_;clear F fa;intro fa F
 refine st_no F rfl (by decide) (wantF F rfl rfl (by decide) rfl (by decide)) ?_;clear F fa;intro fa F
 refine st_no F rfl (by decide) (wantF F rfl rfl (by decide) rfl (by decide)) ?_;clear F fa;intro fa F
 refine st_no F rfl (by decide) (wantF F rfl rfl (by decide) rfl (by decide)) ?_;clear F fa;intro fa F
 refine st_no F rfl (by decide) (wantF F rfl rfl (by decide) rfl (by decide)) ?_;clear F fa;intro fa F
 refine wpStill_nil ?_
 refine sq_no F rfl (by decide) (wantF F rfl rfl (by decide) rfl (by decide)) ?_;clear F fa;intro fa F
 refine sq_no F rfl (by decide) (wantF F rfl rfl (by decide) rfl (by decide)) ?_;clear F fa;intro fa F
 refine F.vl (R_pickT rfl (F.at rfl) (ev_c fa _)) ?_;clear F fa;intro fa F
 refine wpList_nil ?_
 refine hK2 _ _ ?_
 clear hK2
 refine cd_T F rfl ?_
 refine wp_region_lit ?_
 refine F.mv ?_;clear F fa;intro fa F
 refine F.mv ?_;clear F fa;intro fa F
 refine F.mv ?_;clear F fa;intro fa F
 refine F.mv ?_;clear F fa;intro fa F
 refine F.vl (R_loadBlk rfl (F.at rfl) Try.underlying86 rfl (by kernel_rfl) q5) ?_;clear F fa;intro fa F
 refine F.vl (R_nilCheck rfl (F.at rfl)) ?_;clear F fa;intro fa F
 refine F.vl (R_field rfl (F.at rfl) Try.underlying124 rfl (n:=0) (sz:=1) rfl (by kernel_rfl) (by decide)) ?_;clear F fa;intro fa F
 refine sq_to rfl rfl (R_store rfl (F.at rfl) (F.at rfl) rfl (by kernel_rfl) ((cells_of_block qn 0).trans (get0)) (free_of_block qn 0)) ?_;intro w3 hw
 replace qn:=put_cell hw qn (by simp only [List.setIfInBounds_toArray,lsQ,lzQ];exact rfl)
 replace q5:=keep_cell hw q5 (by omega)
 replace E:=ext_cell E hw (fun h=>by first | exact absurd h (by omega) | simp)
 clear hw
 refine F.vl (R_nilCheck rfl (F.at rfl)) ?_;clear F fa;intro fa F
 refine F.vl (R_field rfl (F.at rfl) Try.underlying124 rfl (n:=1) (sz:=2) rfl (by kernel_rfl) (by decide)) ?_;clear F fa;intro fa F
 refine sq_to rfl rfl (R_storeMid rfl (F.at rfl) (F.at rfl) (by kernel_rfl) (by simp [Value.oneCell']) qn (by simp)) ?_;intro w4 hw
 replace qn:=put_mid2 hw qn (by simp only [List.setIfInBounds_toArray,lsQ,lzQ];exact rfl)
 replace q5:=keep_cells hw q5 (by omega)
 replace E:=ext_cells E hw (fun h=>by first | exact absurd h (by omega) | simp)
 clear hw
 refine F.vl (R_nilCheck rfl (F.at rfl)) ?_;clear F fa;intro fa F
 refine F.vl (R_field rfl (F.at rfl) Try.underlying124 rfl (n:=3) (sz:=1) rfl (by kernel_rfl) (by decide)) ?_;clear F fa;intro fa F
 refine sq_to rfl rfl (R_store rfl (F.at rfl) (ev_c fa _) rfl (by kernel_rfl) ((cells_of_block qn 3).trans (getS (getS (getS (get0))))) (free_of_block qn 3)) ?_;intro w5 hw
 replace qn:=put_cell hw qn (by simp only [List.setIfInBounds_toArray,lsQ,lzQ];exact rfl)
 replace q5:=keep_cell hw q5 (by omega)
 replace E:=ext_cell E hw (fun h=>by first | exact absurd h (by omega) | simp)
 clear hw
 refine wpList_nil ?_
 (try simp only [Exit.inBlock,Exit.then,reduceIte])
 refine rt_vn F (rs_0 rfl) ?_
 exact ⟨rfl,qn,E⟩
set_option maxRecDepth 100000 in
theorem offerI_old (nb : Nat) (v c d u a b : Int) (w : World) (hq : w.heap[nb]? = some (.cells (nearIC v c d true) 124 (0,0))) :
  Calls Try.prog 96 #[.pointer (some ⟨nb,0,none⟩),.int .i64 u,.agg #[.int .i64 a,.int .i64 b]] w fun e w'=>e = .returned (.tuple #[]) ∧ w'.heap[nb]? = some (.cells (if cmpL [a,b] [c,d] < 0 then nearIC u a b true else nearIC v c d true) 124 (0,0)) ∧ Ext [nb] w w':=by
 have E : Ext [nb] w w:=Ext.refl _ _
 have qn : w.heap[nb]? = some (.cells #[.int .i64 v,.int .i64 c,.int .i64 d,.bool true] 124 (0,0)):=hq
 clear hq
 refine calls_has 31 Try.func96 rfl Try.ntmps96 (Nat.le_of_ble_eq_true rfl) ?_
 intro fa F
 refine wp_seq_k fun K1 hK1=>?_
 refine wp_region_lit ?_
 refine sq_new F rfl (by decide) rfl (R_box rfl (F.at rfl)) ?_;clear F fa;intro fa w1 F hw
 obtain ⟨n5,hn⟩ : ∃ n,n = w.heap.size:=⟨_,rfl⟩
 rw [← hn] at F
 have s5 : w.heap.size ≤ n5:=Nat.le_of_eq hn.symm
 have l5_E : w.heap.size ≤ n5:=by rw [hn];exact E.size
 have m5_n : nb < n5:=by rw [hn];exact blk_lt qn
 replace qn:=keep_alloc hw qn
 replace E:=ext_alloc E hw
 have q5:=new_row hw hn
 clear hw hn
 refine wpList_nil ?_
 refine hK1 _ _ ?_
 clear hK1
 refine wp_seq_k fun K2 hK2=>?_
 refine wp_region_st 11 follows (by kernel_rfl) fun w2 hh eh=>?_
 replace qn:=keep_same hh qn
 replace q5:=keep_same hh q5
 replace E:=ext_same E eh
 clear hh eh
 refine F.smv ?_;clear F fa;intro fa F
 refine F.sv (R_nilCheck rfl (F.at rfl)) ?_;clear F fa;intro fa F
 refine F.sv (R_field rfl (F.at rfl) Try.underlying124 rfl (n:=3) (sz:=1) rfl (by kernel_rfl) (by decide)) ?_;clear F fa;intro fa F
 refine F.sv (R_load rfl (F.at rfl) Try.underlying4 rfl ((cells_of_block qn 3).trans (getS (getS (getS (get0)))))) ?_;clear F fa;intro fa F
 refine F.sv (R_not rfl (F.at rfl)) ?_;clear F fa;intro fa F
 refine F.smv ?_;clear F fa;intro fa F
 refine F.sv ((R_sliceAll (n:=2) rfl (F.at rfl) (by kernel_rfl) (by kernel_rfl) (by kernel_rfl))) ?_ (hw:=(wantT F rfl rfl (by decide) rfl));clear F fa;intro fa F
 refine F.smv ?_ (hw:=(wantT F rfl rfl (by decide) rfl));clear F fa;intro fa F
 refine F.sv (R_nilCheck rfl (F.at rfl)) ?_ (hw:=(wantT F rfl rfl (by decide) rfl));clear F fa;intro fa F
 refine F.sv (R_field rfl (F.at rfl) Try.underlying124 rfl (n:=1) (sz:=2) rfl (by kernel_rfl) (by decide)) ?_ (hw:=(wantT F rfl rfl (by decide) rfl));clear F fa;intro fa F
 refine F.sv ((R_sliceOff (n:=2) rfl (F.at rfl) (by kernel_rfl) (by kernel_rfl) (by kernel_rfl))) ?_ (hw:=(wantT F rfl rfl (by decide) rfl));clear F fa;intro fa F
 refine wpStill_nil ?_
 refine sq_call F rfl (by decide) (wantT F rfl rfl (by decide) rfl) (R_callV rfl rfl Try.call77 (mpS (F.at rfl) (mpS (F.at rfl) mp0))) (compare_any [a,b] [c,d] (some ⟨n5,0,none⟩) (some ⟨nb,1,none⟩) 2 2 _ (rows_lit [a,b] 2 q5) (rows_mid [c,d] 2 qn (fun j hj=>by rcases j with _ | _ | j;(· rfl);(· rfl);(· simp at hj;omega))) (by simp) (by simp)) fun e w3 hR=>?_
 obtain ⟨rfl,e9⟩:=hR
 refine ⟨_,rfl,?_⟩;clear F fa;intro fa F
 replace qn:=(e9).keep0 qn
 replace q5:=(e9).keep0 q5
 replace E:=ext_same E (e9)
 clear e9
 refine F.vl (R_lss rfl (F.at rfl) (ev_c fa _)) ?_ (hw:=(wantT F rfl rfl (by decide) rfl));clear F fa;intro fa F
 refine F.vl (R_pickF rfl (F.at rfl) (F.at rfl)) ?_;clear F fa;intro fa F
 refine wpList_nil ?_
 refine hK2 _ _ ?_
 clear hK2
 refine cd_if F rfl (fun hc19=>?_) (fun hc19=>?_)
 ·skip
  refine wp_region_lit ?_
  refine F.mv ?_;clear F fa;intro fa F
  refine F.mv ?_;clear F fa;intro fa F
  refine F.mv ?_;clear F fa;intro fa F
  refine F.mv ?_;clear F fa;intro fa F
  refine F.vl (R_loadBlk rfl (F.at rfl) Try.underlying86 rfl (by kernel_rfl) q5) ?_;clear F fa;intro fa F
  refine F.vl (R_nilCheck rfl (F.at rfl)) ?_;clear F fa;intro fa F
  refine F.vl (R_field rfl (F.at rfl) Try.underlying124 rfl (n:=0) (sz:=1) rfl (by kernel_rfl) (by decide)) ?_;clear F fa;intro fa F
  refine sq_to rfl rfl (R_store rfl (F.at rfl) (F.at rfl) rfl (by kernel_rfl) ((cells_of_block qn 0).trans (get0)) (free_of_block qn 0)) ?_;intro w4 hw
  replace qn:=put_cell hw qn (by simp only [List.setIfInBounds_toArray,lsQ,lzQ];exact rfl)
  replace q5:=keep_cell hw q5 (by omega)
  replace E:=ext_cell E hw (fun h=>by first | exact absurd h (by omega) | simp)
  clear hw
  refine F.vl (R_nilCheck rfl (F.at rfl)) ?_;clear F fa;intro fa F
  refine F.vl (R_field rfl (F.at rfl) Try.underlying124 rfl (n:=1) (sz:=2) rfl (by kernel_rfl) (by decide)) ?_;clear F fa;intro fa F
  refine sq_to rfl rfl (R_storeMid rfl (F.at rfl) (F.at rfl) (by kernel_rfl) (by simp [Value.oneCell']) qn (by simp)) ?_;intro w5 hw
  replace qn:=put_mid2 hw qn (by simp only [List.setIfInBounds_toArray,lsQ,lzQ];exact rfl)
  replace q5:=keep_cells hw q5 (by omega)
  replace E:=ext_cells E hw (fun h=>by first | exact absurd h (by omega) | simp)
  clear hw
  refine F.vl (R_nilCheck rfl (F.at rfl)) ?_;clear F fa;intro fa F
  refine F.vl (R_field rfl (F.at rfl) Try.underlying124 rfl (n:=3) (sz:=1) rfl (by kernel_rfl) (by decide)) ?_;clear F fa;intro fa F
  refine sq_to rfl rfl (R_store rfl (F.at rfl) (ev_c fa _) rfl (by kernel_rfl) ((cells_of_block qn 3).trans (getS (getS (getS (get0))))) (free_of_block qn 3)) ?_;intro w6 hw
  replace qn:=put_cell hw qn (by simp only [List.setIfInBounds_toArray,lsQ,lzQ];exact rfl)
  replace q5:=keep_cell hw q5 (by omega)
  replace E:=ext_cell E hw (fun h=>by first | exact absurd h (by omega) | simp)
  clear hw
  refine wpList_nil ?_
  (try simp only [Exit.inBlock,Exit.then,reduceIte])
  refine rt_vn F (rs_0 rfl) ?_
  exact ⟨rfl,(by rw [if_pos hc19];exact qn),E⟩
 ·skip
  refine wp_skip ?_
  (try simp only [Exit.inBlock,Exit.then,reduceIte])
  refine rt_vn F (rs_0 rfl) ?_
  exact ⟨rfl,(by rw [if_neg hc19];exact qn),E⟩
def nearOI (c : Nat → Int × Int) : Option Nat → Array Value
 | none=>nearIC 0 0 0 false
 | some n=>nearIC ((n : Nat) : Int) (c n).1 (c n).2 true
theorem offerI_any (c : Nat → Int × Int) (nb : Nat) (o : Option Nat) (n : Nat) (w : World) (hq : w.heap[nb]? = some (.cells (nearOI c o) 124 (0,0))) :
  Calls Try.prog 96 #[.pointer (some ⟨nb,0,none⟩),.int .i64 ((n : Nat) : Int),.agg #[.int .i64 (c n).1,.int .i64 (c n).2]] w fun e w'=>e = .returned (.tuple #[]) ∧ w'.heap[nb]? = some (.cells (nearOI c (offO c o n)) 124 (0,0)) ∧ Ext [nb] w w':=by
 cases o with
 | none=>exact offerI_new nb 0 0 0 ((n : Nat) : Int) (c n).1 (c n).2 w hq
 | some u =>
  refine Calls.mono (offerI_old nb ((u : Nat) : Int) (c u).1 (c u).2 ((n : Nat) : Int) (c n).1 (c n).2 w hq) ?_
  rintro e w' ⟨h1,h2,h3⟩
  refine ⟨h1,?_,h3⟩
  rw [h2,offO]
  split <;> rfl
theorem take_range {n i : Nat} (h : i < n) : (List.range n).take (i + 1) = (List.range n).take i ++ [i]:=by
 rw [take_getD (List.range n) 0 (by rw [List.length_range];exact h)];simp [h]
def bI (b : Bool) : Int:=if b = true then 1 else 0
def rowU (p : Nat → Bool) : Nat → Int
 | 0=>0
 | k + 1=>rowU p k + bI (p k)
def triU (p : Nat → Nat → Bool) : Nat → Int
 | 0=>0
 | j + 1=>triU p j + rowU (p j) j
theorem bI_bd (b : Bool) : 0 ≤ bI b ∧ bI b ≤ 1:=by cases b <;> simp [bI]
theorem rowU_bd (p : Nat → Bool) : ∀ k,0 ≤ rowU p k ∧ rowU p k ≤ k
 | 0=>by simp [rowU]
 | k + 1=>by have:=rowU_bd p k;have:=bI_bd (p k);rw [rowU];omega
theorem triU_bd (p : Nat → Nat → Bool) : ∀ j,j ≤ 6 → 0 ≤ triU p j ∧ triU p j ≤ 6 * j
 | 0,_=>by simp [triU]
 | j + 1,h=>by have:=triU_bd p j (by omega);have:=rowU_bd (p j) j;rw [triU];omega
def unP (x : Vm) (n : Nat) (T : List (List Int)) (j k : Nat) : Bool:=!alkE x n (val (T.getD j [])) (val (T.getD k []))
def unN (x : Vm) (T : List (List Int)) (n : Nat) : Int:=triU (unP x n T) T.length
def cT (x : Vm) (T : List (List Int)) (n : Nat) : Int × Int:=(-unN x T n,0)
def telR (x : Vm) (T : List (List Int)) : Int × Int × Int:=match pickO (cT x T) (List.range x.L.length) with
 | none=>(0,0,11)
 | some n=>if unN x T n = 0 then (0,0,11) else ((n : Nat),unN x T n,0)
set_option maxRecDepth 100000 in
set_option maxHeartbeats 2000000 in
theorem xTelling_ok (x : Vm) (hv : VOk x) (S : List (Value × List Int)) (hs : ∀ p ∈ S,RcpOk x p.2) (h6 : S.length ≤ 6) (a : Option Addr) (c : Nat) (w : World) (h : x.At w) (hl : LolAt w a S) :
  Calls Try.prog 47 #[.agg #[.int .i64 x.B,.slice x.da x.D.length x.dc,.slice x.la x.L.length x.lc,.int .i64 x.tol],.slice a S.length c] w fun e w'=>e = .returned (.tuple #[.int .i64 (telR x (S.map (·.2))).1,.int .i64 (telR x (S.map (·.2))).2.1,.int .i64 (telR x (S.map (·.2))).2.2]) ∧ Ext [] w w':=by
 have E : Ext [] w w:=Ext.refl _ _
 have HX:=Lib.hid h
 have HV:=Lib.hid hv
 have HL:=Lib.hid hl
 have HS:=Lib.hid hs
 have hl3:=hv.l3
 obtain ⟨T,hT⟩ : ∃ T,T = S.map (·.2):=⟨_,rfl⟩
 have hTl : T.length = S.length:=by rw [hT,List.length_map]
 have HM : RowKit.Hid (∀ t ∈ T,TubS (val t)):=Lib.hid (fun t ht=>by
  rw [hT] at ht
  obtain ⟨p,hp,rfl⟩:=List.mem_map.1 ht
  exact (hs p hp).tub)
 clear h hv hl hs
 refine calls_hasM 67 Try.func47 rfl Try.ntmps47 (Nat.le_of_ble_eq_true rfl) ?_
 intro fa F
 refine wp_seq_k fun K1 hK1=>?_
 refine wp_region_lit ?_
 refine sq_new F rfl (by decide) rfl (R_box rfl (F.at rfl)) ?_;clear F fa;intro fa w1 F hw
 obtain ⟨n2,hn⟩ : ∃ n,n = w.heap.size:=⟨_,rfl⟩
 rw [← hn] at F
 have s2 : w.heap.size ≤ n2:=Nat.le_of_eq hn.symm
 have l2_E : w.heap.size ≤ n2:=by rw [hn];exact E.size
 replace E:=ext_alloc E hw
 have q2:=new_row hw hn
 clear hw hn
 refine F.vl (R_assign rfl (ev_c fa _)) ?_;clear F fa;intro fa F
 refine F.vl (R_assign rfl (ev_c fa _)) ?_;clear F fa;intro fa F
 refine sq_new F rfl (by decide) rfl (R_alloc rfl Try.zeroValue35) ?_;clear F fa;intro fa w2 F hw
 obtain ⟨n6,hn⟩ : ∃ n,n = w1.heap.size:=⟨_,rfl⟩
 rw [← hn] at F
 have s6 : w1.heap.size ≤ n6:=Nat.le_of_eq hn.symm
 have l6_E : w.heap.size ≤ n6:=by rw [hn];exact E.size
 have m6_2 : n2 < n6:=by rw [hn];exact blk_lt q2
 replace q2:=keep_alloc hw q2
 replace E:=ext_alloc E hw
 have q6:=new_one hw rfl hn
 clear hw hn
 refine wpList_nil ?_
 refine hK1 _ _ ?_
 clear hK1
 refine wp_seq_k fun K2 hK2=>?_
 refine wp_region_lit ?_
 refine sq_defer F rfl rfl (R_defer rfl rfl (mpS (F.at rfl) mp0)) ?_;clear F fa;intro fa F
 refine wpList_nil ?_
 refine hK2 _ _ ?_
 clear hK2
 refine wp_seq_k fun K3 hK3=>?_
 refine wp_region_lit ?_
 refine F.vl (R_loadBlk rfl (F.at rfl) Try.underlying24 rfl (by kernel_rfl) q2) ?_;clear F fa;intro fa F
 refine sq_call F rfl (by decide) rfl (R_callV rfl rfl Try.call54 (mpS (F.at rfl) mp0)) (begin_ok x HV.out _ (HX.out.ext E)) fun e w3 hR=>?_
 obtain ⟨rfl,e9⟩:=hR
 refine ⟨_,rfl,?_⟩;clear F fa;intro fa F
 replace q2:=(e9).keep0 q2
 replace q6:=(e9).keep0 q6
 replace E:=ext_same E (e9)
 clear e9
 refine sq_new F rfl (by decide) rfl (R_alloc rfl Try.zeroValue80) ?_;clear F fa;intro fa w4 F hw
 obtain ⟨n7,hn⟩ : ∃ n,n = w3.heap.size:=⟨_,rfl⟩
 rw [← hn] at F
 have s7 : w3.heap.size ≤ n7:=Nat.le_of_eq hn.symm
 have l7_E : w.heap.size ≤ n7:=by rw [hn];exact E.size
 have m7_2 : n2 < n7:=by rw [hn];exact blk_lt q2
 have m7_6 : n6 < n7:=by rw [hn];exact blk_lt q6
 replace q2:=keep_alloc hw q2
 replace q6:=keep_alloc hw q6
 replace E:=ext_alloc E hw
 have q7:=new_row hw hn
 clear hw hn
 refine sq_to rfl rfl (R_storeRow rfl (F.at rfl) (F.at rfl) (by kernel_rfl) (by first | (simp [Value.oneCell'];done) | (simp [Value.oneCell',id];done)) q7 rfl) ?_;intro w5 hw
 replace q2:=keep_cells hw q2 (by omega)
 replace q6:=keep_cells hw q6 (by omega)
 replace q7:=put_row hw q7 rfl
 replace E:=ext_cells E hw (fun h=>by first | exact absurd h (by omega) | simp)
 clear hw
 refine wpList_nil ?_
 refine hK3 _ _ ?_
 clear hK3
 refine wp_seq_k fun K4 hK4=>?_
 refine wp_region_lit ?_
 refine F.vl (R_loadBlk rfl (F.at rfl) Try.underlying80 rfl (by kernel_rfl) q7) ?_;clear F fa;intro fa F
 refine F.mv ?_;clear F fa;intro fa F
 refine sq_call F rfl (by decide) rfl (R_callV rfl rfl Try.call71 (mpS (F.at rfl) (mpS (F.at rfl) mp0))) (stuffs_ok x HV.out S HS.out h6 a c _ (HL.out.ext E)) fun e w6 hR=>?_
 obtain ⟨ma,mc,rfl,om,e9⟩:=hR
 refine ⟨_,rfl,?_⟩;clear F fa;intro fa F
 replace q2:=(e9).keep0 q2
 replace q6:=(e9).keep0 q6
 replace q7:=(e9).keep0 q7
 replace E:=ext_same E (e9)
 clear e9
 rw [← hT,← hTl] at om
 rw [← hTl] at F
 have hrm:=Lib.hid (rows_of_owns (row:=fun t : List Int=>tubR (val t)) om (fun _=>rfl))
 clear om
 obtain ⟨wM,hwM⟩ : ∃ wM,wM = w6:=⟨_,rfl⟩
 have EM : Ext [] wM w6:=by rw [hwM];exact Ext.refl _ _
 rw [← hwM] at hrm
 refine F.as ?_;clear F fa;intro fa F
 refine wpList_nil ?_
 refine hK4 _ _ ?_
 clear hK4
 refine wp_seq_k fun K5 hK5=>?_
 refine wp_region_lit ?_
 refine sq_new F rfl (by decide) rfl (R_alloc rfl Try.zeroValue124) ?_;clear F fa;intro fa w7 F hw
 obtain ⟨n9,hn⟩ : ∃ n,n = w6.heap.size:=⟨_,rfl⟩
 rw [← hn] at F
 have s9 : w6.heap.size ≤ n9:=Nat.le_of_eq hn.symm
 have l9_E : w.heap.size ≤ n9:=by rw [hn];exact E.size
 have l9_EM : wM.heap.size ≤ n9:=by rw [hn];exact EM.size
 have m9_2 : n2 < n9:=by rw [hn];exact blk_lt q2
 have m9_6 : n6 < n9:=by rw [hn];exact blk_lt q6
 have m9_7 : n7 < n9:=by rw [hn];exact blk_lt q7
 replace q2:=keep_alloc hw q2
 replace q6:=keep_alloc hw q6
 replace q7:=keep_alloc hw q7
 replace E:=ext_alloc E hw
 replace EM:=ext_alloc EM hw
 have q9:=new_row hw hn
 clear hw hn
 refine wpList_nil ?_
 have HTs:=Lib.hid (slAt_of_rowsX (X:=[n9]) hrm.out (fun W e=>hrm.out.ext e (by simpa using l9_EM)) [])
 have E9:=EM.mono (Y:=[n9]) (by simp)
 replace q9 : w7.heap[n9]? = some (.cells (nearOI (cT x T) (pickO (cT x T) ((List.range x.L.length).take 0))) 124 (0,0)):=q9
 refine hK5 _ _ ?_
 clear hK5
 refine wp_seq_k fun K6 hK6=>?_
 refine wp_seq_k fun K7 hK7=>?_
 refine wp_region_lit ?_
 refine F.vl (R_field rfl (F.at rfl) Try.underlying80 rfl (n:=0) (sz:=4) rfl (by kernel_rfl) (by decide)) ?_;clear F fa;intro fa F
 refine F.vl (R_field rfl (F.at rfl) Try.underlying24 rfl (n:=2) (sz:=1) rfl (by kernel_rfl) (by decide)) ?_;clear F fa;intro fa F
 refine F.vl (R_load rfl (F.at rfl) Try.underlying22 rfl ((cells_of_block q7 2).trans (getS (getS (get0))))) ?_;clear F fa;intro fa F
 refine F.vl (R_len rfl rfl (F.at rfl) Try.underlying22) ?_;clear F fa;intro fa F
 refine F.vl (R_move rfl (ev_c fa _)) ?_;clear F fa;intro fa F
 refine wpList_nil ?_
 refine hK7 _ _ ?_
 clear hK7
 refine wp_block ?_
 have F0:=F.sub (.c 6 rfl (.c 7 rfl (.c 8 rfl (.c 9 rfl (.c 22 rfl .n)))))
 refine lp_for F0 (x.L.length) (fun i Lv W=>Lv = [(23,.int .i64 ((i : Nat) : Int))] ∧ Ext [] w W ∧ Ext [n9] wM W ∧ W.heap[n2]? = some (.cells #[.int .i64 x.B,.slice x.da x.D.length x.dc,.slice x.la x.L.length x.lc,.int .i64 x.tol] 24 (0,0)) ∧ W.heap[n6]? = some (.cells #[.int .i64 0] 35 (0,0)) ∧ W.heap[n7]? = some (.cells #[.int .i64 x.B,.slice x.da x.D.length x.dc,.slice x.la x.L.length x.lc,.int .i64 x.tol] 80 (0,0)) ∧ W.heap[n9]? = some (.cells (nearOI (cT x T) (pickO (cT x T) ((List.range x.L.length).take i))) 124 (0,0))) ⟨_,⟨rfl,E,E9,q2,q6,q7,q9⟩,F.sub (.c 23 rfl (.c 6 rfl (.c 7 rfl (.c 8 rfl (.c 9 rfl (.c 22 rfl .n))))))⟩ ?_
 clear F F0
 clear E E9 q2 q6 q7 q9
 rintro i _ fa w8 hi1 ⟨rfl,E,E9,q2,q6,q7,q9⟩ F
 refine wp_seq_k fun K8 hK8=>?_
 refine wp_region_lit ?_
 refine F.vl (R_lss rfl (F.at rfl) (F.at rfl)) ?_;clear F fa;intro fa F
 refine wpList_nil ?_
 refine hK8 _ _ ?_
 clear hK8
 refine wp_seq_k fun K9 hK9=>?_
 refine cd_if F rfl (fun hc24=>?_) (fun hc24=>?_)
 ·skip
  refine wp_skip ?_
  refine hK9 _ _ ?_
  clear hK9
  refine wp_seq_k fun K10 hK10=>?_
  refine wp_block ?_
  refine wp_seq_k fun K11 hK11=>?_
  refine wp_region_lit ?_
  refine F.mv ?_;clear F fa;intro fa F
  refine F.as ?_;clear F fa;intro fa F
  refine wpList_nil ?_
  refine hK11 _ _ ?_
  clear hK11
  refine wp_seq_k fun K12 hK12=>?_
  refine wp_region_lit ?_
  refine F.vl (R_assign rfl (ev_c fa _)) ?_;clear F fa;intro fa F
  rw [show (0 : Int) = triU (unP x i T) 0 from rfl] at F
  refine wpList_nil ?_
  refine hK12 _ _ ?_
  clear hK12
  refine wp_seq_k fun K13 hK13=>?_
  refine wp_seq_k fun K14 hK14=>?_
  refine wp_region_lit ?_
  refine F.mv ?_;clear F fa;intro fa F
  refine F.vl (R_len rfl rfl (F.at rfl) Try.underlying102) ?_;clear F fa;intro fa F
  refine F.vl (R_move rfl (ev_c fa _)) ?_;clear F fa;intro fa F
  refine wpList_nil ?_
  refine hK14 _ _ ?_
  clear hK14
  refine wp_block ?_
  have F0:=F.sub (.c 6 rfl (.c 7 rfl (.c 8 rfl (.c 9 rfl (.c 10 rfl (.c 22 rfl (.c 23 rfl (.c 27 rfl .n))))))))
  refine lp_for F0 (T.length) (fun j Lv W=>Lv = [(11,.int .i64 (triU (unP x i T) j)),(28,.int .i64 ((j : Nat) : Int))] ∧ Ext [] w W ∧ Ext [n9] wM W ∧ W.heap[n2]? = some (.cells #[.int .i64 x.B,.slice x.da x.D.length x.dc,.slice x.la x.L.length x.lc,.int .i64 x.tol] 24 (0,0)) ∧ W.heap[n6]? = some (.cells #[.int .i64 0] 35 (0,0)) ∧ W.heap[n7]? = some (.cells #[.int .i64 x.B,.slice x.da x.D.length x.dc,.slice x.la x.L.length x.lc,.int .i64 x.tol] 80 (0,0)) ∧ W.heap[n9]? = some (.cells (nearOI (cT x T) (pickO (cT x T) ((List.range x.L.length).take i))) 124 (0,0))) ⟨_,⟨rfl,E,E9,q2,q6,q7,q9⟩,F.sub (.c 11 rfl (.c 28 rfl (.c 6 rfl (.c 7 rfl (.c 8 rfl (.c 9 rfl (.c 10 rfl (.c 22 rfl (.c 23 rfl (.c 27 rfl .n))))))))))⟩ ?_
  clear F F0
  clear E E9 q2 q6 q7 q9
  rintro j _ fa w9 hi2 ⟨rfl,E,E9,q2,q6,q7,q9⟩ F
  refine wp_seq_k fun K15 hK15=>?_
  refine wp_region_lit ?_
  refine F.vl (R_lss rfl (F.at rfl) (F.at rfl)) ?_;clear F fa;intro fa F
  refine wpList_nil ?_
  refine hK15 _ _ ?_
  clear hK15
  refine wp_seq_k fun K16 hK16=>?_
  refine cd_if F rfl (fun hc29=>?_) (fun hc29=>?_)
  ·skip
   refine wp_skip ?_
   refine hK16 _ _ ?_
   clear hK16
   refine wp_seq_k fun K17 hK17=>?_
   refine wp_block ?_
   refine wp_seq_k fun K18 hK18=>?_
   refine wp_region_lit ?_
   refine F.mv ?_;clear F fa;intro fa F
   refine F.as ?_;clear F fa;intro fa F
   refine wpList_nil ?_
   refine hK18 _ _ ?_
   clear hK18
   refine wp_seq_k fun K19 hK19=>?_
   refine wp_region_lit ?_
   refine F.mv ?_;clear F fa;intro fa F
   refine F.vl (R_move rfl (ev_c fa _)) ?_;clear F fa;intro fa F
   refine wpList_nil ?_
   rw [show triU (unP x i T) j = triU (unP x i T) j + rowU (unP x i T j) 0 by rw [rowU,Int.add_zero]] at F
   refine hK19 _ _ ?_
   clear hK19
   refine wp_block ?_
   have F0:=F.sub (.c 6 rfl (.c 7 rfl (.c 8 rfl (.c 9 rfl (.c 10 rfl (.c 12 rfl (.c 22 rfl (.c 23 rfl (.c 27 rfl (.c 28 rfl (.c 31 rfl .n)))))))))))
   refine lp_for F0 (j) (fun k Lv W=>Lv = [(11,.int .i64 (triU (unP x i T) j + rowU (unP x i T j) k)),(32,.int .i64 ((k : Nat) : Int))] ∧ Ext [] w W ∧ Ext [n9] wM W ∧ W.heap[n2]? = some (.cells #[.int .i64 x.B,.slice x.da x.D.length x.dc,.slice x.la x.L.length x.lc,.int .i64 x.tol] 24 (0,0)) ∧ W.heap[n6]? = some (.cells #[.int .i64 0] 35 (0,0)) ∧ W.heap[n7]? = some (.cells #[.int .i64 x.B,.slice x.da x.D.length x.dc,.slice x.la x.L.length x.lc,.int .i64 x.tol] 80 (0,0)) ∧ W.heap[n9]? = some (.cells (nearOI (cT x T) (pickO (cT x T) ((List.range x.L.length).take i))) 124 (0,0))) ⟨_,⟨rfl,E,E9,q2,q6,q7,q9⟩,F.sub (.c 11 rfl (.c 32 rfl (.c 6 rfl (.c 7 rfl (.c 8 rfl (.c 9 rfl (.c 10 rfl (.c 12 rfl (.c 22 rfl (.c 23 rfl (.c 27 rfl (.c 28 rfl (.c 31 rfl .n)))))))))))))⟩ ?_
   clear F F0
   clear E E9 q2 q6 q7 q9
   rintro k _ fa w10 hi3 ⟨rfl,E,E9,q2,q6,q7,q9⟩ F
   refine wp_seq_k fun K20 hK20=>?_
   refine wp_region_lit ?_
   refine F.vl (R_lss rfl (F.at rfl) (F.at rfl)) ?_;clear F fa;intro fa F
   refine wpList_nil ?_
   refine hK20 _ _ ?_
   clear hK20
   refine wp_seq_k fun K21 hK21=>?_
   refine cd_if F rfl (fun hc33=>?_) (fun hc33=>?_)
   ·skip
    refine wp_skip ?_
    refine hK21 _ _ ?_
    clear hK21
    refine wp_seq_k fun K22 hK22=>?_
    refine wp_block ?_
    refine wp_seq_k fun K23 hK23=>?_
    refine wp_region_lit ?_
    refine F.mv ?_;clear F fa;intro fa F
    refine F.as ?_;clear F fa;intro fa F
    refine wpList_nil ?_
    refine hK23 _ _ ?_
    clear hK23
    refine wp_seq_k fun K24 hK24=>?_
    refine wp_region_st 10 follows (by kernel_rfl) fun w11 hh eh=>?_
    replace q2:=keep_same hh q2
    replace q6:=keep_same hh q6
    replace q7:=keep_same hh q7
    replace q9:=keep_same hh q9
    replace E:=ext_same E eh
    replace E9:=ext_same E9 eh
    clear hh eh
    refine F.sv (R_loadBlk rfl (F.at rfl) Try.underlying80 rfl (by kernel_rfl) q7) ?_;clear F fa;intro fa F
    refine F.smv ?_;clear F fa;intro fa F
    refine F.smv ?_;clear F fa;intro fa F
    refine F.smv ?_;clear F fa;intro fa F
    obtain ⟨xb25,xo25,xa25,xr25⟩:=HTs.out j (by omega)
    refine F.sv (R_ixSlice (sz:=4) rfl ((F.at rfl).trans (xa25 _ _)) (F.at rfl) Try.underlying102 (by kernel_rfl) (by omega) (by omega)) ?_;clear F fa;intro fa F
    refine F.sv (R_loadRow rfl (F.at rfl) Try.underlying83 rfl (by kernel_rfl) (xr25 _ E9)) ?_;clear F fa;intro fa F
    refine F.smv ?_;clear F fa;intro fa F
    refine F.smv ?_;clear F fa;intro fa F
    obtain ⟨xb26,xo26,xa26,xr26⟩:=HTs.out k (by omega)
    refine F.sv (R_ixSlice (sz:=4) rfl ((F.at rfl).trans (xa26 _ _)) (F.at rfl) Try.underlying102 (by kernel_rfl) (by omega) (by omega)) ?_;clear F fa;intro fa F
    refine F.sv (R_loadRow rfl (F.at rfl) Try.underlying83 rfl (by kernel_rfl) (xr26 _ E9)) ?_;clear F fa;intro fa F
    refine wpStill_nil ?_
    refine sq_call F rfl (by decide) rfl (R_callV rfl rfl Try.call74 (mpS (F.at rfl) (mpS (F.at rfl) (mpS (F.at rfl) (mpS (F.at rfl) mp0))))) (alike_ok x HV.out i (by omega) (val (T.getD j [])) (val (T.getD k [])) (HM.out _ (getD_memL [] (by omega))) (HM.out _ (getD_memL [] (by omega))) _ (HX.out.ext E)) fun e w12 hR=>?_
    obtain ⟨rfl,e9⟩:=hR
    refine ⟨_,rfl,?_⟩;clear F fa;intro fa F
    replace q2:=(e9).keep0 q2
    replace q6:=(e9).keep0 q6
    replace q7:=(e9).keep0 q7
    replace q9:=(e9).keep0 q9
    replace E:=ext_same E (e9)
    replace E9:=ext_same E9 (e9)
    clear e9
    refine F.vl (R_not rfl (F.at rfl)) ?_;clear F fa;intro fa F
    refine wpList_nil ?_
    have hb1:=triU_bd (unP x i T) j (by omega)
    have hb2:=rowU_bd (unP x i T j) k
    refine hK24 _ _ ?_
    clear hK24
    refine cd_b F rfl (fun hc46=>?_) (fun hc46=>?_)
    ·skip
     refine wp_region_lit ?_
     refine F.mv ?_;clear F fa;intro fa F
     refine F.vl (R_add rfl (F.at rfl) (ev_c fa _) (by omega) (by omega)) ?_;clear F fa;intro fa F
     refine F.as ?_;clear F fa;intro fa F
     rw [show triU (unP x i T) j + rowU (unP x i T j) k + 1 = triU (unP x i T) j + rowU (unP x i T j) (k + 1) by rw [rowU,show unP x i T j k = true from hc46];simp [bI];omega] at F
     refine wpList_nil ?_
     refine hK22 _ _ ?_
     clear hK22
     refine wp_region_lit ?_
     refine F.vl (R_add rfl (F.at rfl) (ev_c fa _) (by omega) (by omega)) ?_;clear F fa;intro fa F
     refine F.mv ?_;clear F fa;intro fa F
     refine wpList_nil ?_
     show _ ∧ _
     exact ⟨by omega,_,⟨rfl,E,E9,q2,q6,q7,q9⟩,F.sub (.c 11 rfl (.c 32 rfl (.c 6 rfl (.c 7 rfl (.c 8 rfl (.c 9 rfl (.c 10 rfl (.c 12 rfl (.c 22 rfl (.c 23 rfl (.c 27 rfl (.c 28 rfl (.c 31 rfl .n)))))))))))))⟩
    ·skip
     rw [show triU (unP x i T) j + rowU (unP x i T j) k = triU (unP x i T) j + rowU (unP x i T j) (k + 1) by rw [rowU,show unP x i T j k = false from hc46];simp [bI]] at F
     refine wp_skip ?_
     refine hK22 _ _ ?_
     clear hK22
     refine wp_region_lit ?_
     refine F.vl (R_add rfl (F.at rfl) (ev_c fa _) (by omega) (by omega)) ?_;clear F fa;intro fa F
     refine F.mv ?_;clear F fa;intro fa F
     refine wpList_nil ?_
     show _ ∧ _
     exact ⟨by omega,_,⟨rfl,E,E9,q2,q6,q7,q9⟩,F.sub (.c 11 rfl (.c 32 rfl (.c 6 rfl (.c 7 rfl (.c 8 rfl (.c 9 rfl (.c 10 rfl (.c 12 rfl (.c 22 rfl (.c 23 rfl (.c 27 rfl (.c 28 rfl (.c 31 rfl .n)))))))))))))⟩
   ·skip
    refine wp_exit ?_
    rw [show triU (unP x i T) j + rowU (unP x i T j) k = triU (unP x i T) (j + 1) by rw [triU,show k = j by omega]] at F
    refine hK17 _ _ ?_
    clear hK17
    refine wp_region_lit ?_
    refine F.vl (R_add rfl (F.at rfl) (ev_c fa _) (by omega) (by omega)) ?_;clear F fa;intro fa F
    refine F.mv ?_;clear F fa;intro fa F
    refine wpList_nil ?_
    show _ ∧ _
    exact ⟨by omega,_,⟨rfl,E,E9,q2,q6,q7,q9⟩,F.sub (.c 11 rfl (.c 28 rfl (.c 6 rfl (.c 7 rfl (.c 8 rfl (.c 9 rfl (.c 10 rfl (.c 22 rfl (.c 23 rfl (.c 27 rfl .n))))))))))⟩
  ·skip
   refine wp_exit ?_
   rw [show triU (unP x i T) j = unN x T i by rw [unN,show T.length = j by omega]] at F
   refine hK13 _ _ ?_
   clear hK13
   have hub:=triU_bd (unP x i T) T.length (by omega)
   replace hub : 0 ≤ unN x T i ∧ unN x T i ≤ 6 * T.length:=hub
   refine wp_region_lit ?_
   refine F.mv ?_;clear F fa;intro fa F
   refine F.mv ?_;clear F fa;intro fa F
   refine F.vl (R_neg rfl (F.at rfl) (by omega) (by omega)) ?_;clear F fa;intro fa F
   refine F.vl (R_buildV rfl (prS (F.at rfl) pr0) (cells:=#[.int .i64 (-(unN x T i)),.int .i64 0]) (by kernel_rfl)) ?_;clear F fa;intro fa F
   refine sq_call F rfl (by decide) rfl (R_callV rfl rfl Try.call96 (mpS (F.at rfl) (mpS (F.at rfl) (mpS (F.at rfl) mp0)))) (offerI_any (cT x T) n9 (pickO (cT x T) ((List.range x.L.length).take i)) i _ q9) fun e w13 hR=>?_
   obtain ⟨rfl,q9',e9⟩:=hR
   refine ⟨_,rfl,?_⟩;clear F fa;intro fa F
   replace q2:=(e9).keep q2 (by simp;omega)
   replace q6:=(e9).keep q6 (by simp;omega)
   replace q7:=(e9).keep q7 (by simp;omega)
   replace E:=E.trans' e9 (fun i hi hl=>by simp only [List.mem_cons,List.not_mem_nil,or_false] at hi ⊢;omega)
   replace E9:=E9.trans' e9 (fun i hi hl=>by simp only [List.mem_cons,List.not_mem_nil,or_false] at hi ⊢;omega)
   rw [← pick_snoc,← take_range (by omega)] at q9'
   replace q9:=q9'
   clear q9'
   refine wpList_nil ?_
   refine hK10 _ _ ?_
   clear hK10
   refine wp_region_lit ?_
   refine F.vl (R_add rfl (F.at rfl) (ev_c fa _) (by omega) (by omega)) ?_;clear F fa;intro fa F
   refine F.mv ?_;clear F fa;intro fa F
   refine wpList_nil ?_
   show _ ∧ _
   exact ⟨by omega,_,⟨rfl,E,E9,q2,q6,q7,q9⟩,F.sub (.c 23 rfl (.c 6 rfl (.c 7 rfl (.c 8 rfl (.c 9 rfl (.c 22 rfl .n))))))⟩
 ·skip
  refine wp_exit ?_
  rw [List.take_of_length_le (show (List.range x.L.length).length ≤ i by rw [List.length_range];omega)] at q9
  refine hK6 _ _ ?_
  clear hK6
  refine wp_seq_k fun K27 hK27=>?_
  refine wp_seq_k fun K28 hK28=>?_
  by_cases hN : pickO (cT x T) (List.range x.L.length) = none
  ·skip
   replace q9 : w8.heap[n9]? = some (.cells #[.int .i64 0,.int .i64 0,.int .i64 0,.bool false] 124 (0,0)):=by rw [hN] at q9;exact q9
   refine wp_region_lit ?_
   refine F.vl (R_field rfl (F.at rfl) Try.underlying124 rfl (n:=1) (sz:=2) rfl (by kernel_rfl) (by decide)) ?_;clear F fa;intro fa F
   refine F.vl ((R_ixArr (n:=2) (sz:=1) rfl (F.at rfl) rfl Try.underlying86 (by kernel_rfl) (by omega) (by omega))) ?_;clear F fa;intro fa F
   refine F.vl (R_load rfl (F.at rfl) Try.underlying3 rfl ((cells_of_block q9 1).trans (getS (get0)))) ?_;clear F fa;intro fa F
   refine F.vl (R_eqlB (b:=true) rfl (F.at rfl) (ev_c fa _) (by decide)) ?_;clear F fa;intro fa F
   refine wpList_nil ?_
   refine hK28 _ _ ?_
   clear hK28
   refine cd_T F rfl ?_
   refine wp_seq_k fun K29 hK29=>?_
   refine wp_region_lit ?_
   refine F.vl (R_assign rfl (ev_c fa _)) ?_;clear F fa;intro fa F
   refine F.vl (R_assign rfl (ev_c fa _)) ?_;clear F fa;intro fa F
   refine sq_to rfl rfl (R_store rfl (F.at rfl) (ev_c fa _) rfl (by kernel_rfl) ((cells_of_block q6 0).trans (get0)) (free_of_block q6 0)) ?_;intro w14 hw
   replace q2:=keep_cell hw q2 (by omega)
   replace q6:=put_cell hw q6 (by simp only [List.setIfInBounds_toArray,lsQ,lzQ];exact rfl)
   replace q7:=keep_cell hw q7 (by omega)
   replace q9:=keep_cell hw q9 (by omega)
   replace E:=ext_cell E hw (fun h=>by first | exact absurd h (by omega) | simp)
   clear hw
   refine wpList_nil ?_
   refine hK29 _ _ ?_
   clear hK29
   refine wp_ret ?_
   (try simp only [Exit.inBlock,Exit.then,reduceIte])
   refine rtM_v F ?_
   refine lv_caught ?_
   refine lv_nil (rs_ttc F rfl rfl rfl rfl Try.underlying35 rfl q6) ?_
   rw [← hT,telR,hN]
   exact ⟨rfl,E⟩
  ·skip
   obtain ⟨n,hn⟩:=Option.ne_none_iff_exists'.1 hN
   have hub:=triU_bd (unP x n T) T.length (by omega)
   replace hub : 0 ≤ unN x T n ∧ unN x T n ≤ 6 * T.length:=hub
   replace q9 : w8.heap[n9]? = some (.cells #[.int .i64 ((n : Nat) : Int),.int .i64 (-unN x T n),.int .i64 0,.bool true] 124 (0,0)):=by rw [hn] at q9;exact q9
   refine wp_region_lit ?_
   refine F.vl (R_field rfl (F.at rfl) Try.underlying124 rfl (n:=1) (sz:=2) rfl (by kernel_rfl) (by decide)) ?_;clear F fa;intro fa F
   refine F.vl ((R_ixArr (n:=2) (sz:=1) rfl (F.at rfl) rfl Try.underlying86 (by kernel_rfl) (by omega) (by omega))) ?_;clear F fa;intro fa F
   refine F.vl (R_load rfl (F.at rfl) Try.underlying3 rfl ((cells_of_block q9 1).trans (getS (get0)))) ?_;clear F fa;intro fa F
   refine F.vl (R_eqlD rfl (F.at rfl) (ev_c fa _)) ?_;clear F fa;intro fa F
   refine wpList_nil ?_
   refine hK28 _ _ ?_
   clear hK28
   refine cd_if F rfl (fun hc60=>?_) (fun hc60=>?_)
   ·skip
    refine wp_seq_k fun K30 hK30=>?_
    refine wp_region_lit ?_
    refine F.vl (R_assign rfl (ev_c fa _)) ?_;clear F fa;intro fa F
    refine F.vl (R_assign rfl (ev_c fa _)) ?_;clear F fa;intro fa F
    refine sq_to rfl rfl (R_store rfl (F.at rfl) (ev_c fa _) rfl (by kernel_rfl) ((cells_of_block q6 0).trans (get0)) (free_of_block q6 0)) ?_;intro w15 hw
    replace q2:=keep_cell hw q2 (by omega)
    replace q6:=put_cell hw q6 (by simp only [List.setIfInBounds_toArray,lsQ,lzQ];exact rfl)
    replace q7:=keep_cell hw q7 (by omega)
    replace q9:=keep_cell hw q9 (by omega)
    replace E:=ext_cell E hw (fun h=>by first | exact absurd h (by omega) | simp)
    clear hw
    refine wpList_nil ?_
    refine hK30 _ _ ?_
    clear hK30
    refine wp_ret ?_
    (try simp only [Exit.inBlock,Exit.then,reduceIte])
    refine rtM_v F ?_
    refine lv_caught ?_
    refine lv_nil (rs_ttc F rfl rfl rfl rfl Try.underlying35 rfl q6) ?_
    rw [← hT,telR,hn]
    simp only [show unN x T n = 0 by omega,if_true]
    exact ⟨trivial,E⟩
   ·skip
    refine wp_skip ?_
    refine hK27 _ _ ?_
    clear hK27
    refine wp_seq_k fun K31 hK31=>?_
    refine wp_region_st 8 follows (by kernel_rfl) fun w16 hh eh=>?_
    replace q2:=keep_same hh q2
    replace q6:=keep_same hh q6
    replace q7:=keep_same hh q7
    replace q9:=keep_same hh q9
    replace E:=ext_same E eh
    clear hh eh
    refine F.sv (R_field rfl (F.at rfl) Try.underlying124 rfl (n:=0) (sz:=1) rfl (by kernel_rfl) (by decide)) ?_;clear F fa;intro fa F
    refine F.sv (R_load rfl (F.at rfl) Try.underlying3 rfl ((cells_of_block q9 0).trans (get0))) ?_;clear F fa;intro fa F
    refine F.sv (R_field rfl (F.at rfl) Try.underlying124 rfl (n:=1) (sz:=2) rfl (by kernel_rfl) (by decide)) ?_;clear F fa;intro fa F
    refine F.sv ((R_ixArr (n:=2) (sz:=1) rfl (F.at rfl) rfl Try.underlying86 (by kernel_rfl) (by omega) (by omega))) ?_;clear F fa;intro fa F
    refine F.sv (R_load rfl (F.at rfl) Try.underlying3 rfl ((cells_of_block q9 1).trans (getS (get0)))) ?_;clear F fa;intro fa F
    refine F.sv (R_neg rfl (F.at rfl) (by omega) (by omega)) ?_;clear F fa;intro fa F
    refine F.sv (R_assign rfl (F.at rfl)) ?_;clear F fa;intro fa F
    refine F.sv (R_assign rfl (F.at rfl)) ?_;clear F fa;intro fa F
    refine wpStill_nil ?_
    refine sq_to rfl rfl (R_store rfl (F.at rfl) (ev_c fa _) rfl (by kernel_rfl) ((cells_of_block q6 0).trans (get0)) (free_of_block q6 0)) ?_;intro w17 hw
    replace q2:=keep_cell hw q2 (by omega)
    replace q6:=put_cell hw q6 (by simp only [List.setIfInBounds_toArray,lsQ,lzQ];exact rfl)
    replace q7:=keep_cell hw q7 (by omega)
    replace q9:=keep_cell hw q9 (by omega)
    replace E:=ext_cell E hw (fun h=>by first | exact absurd h (by omega) | simp)
    clear hw
    refine wpList_nil ?_
    refine hK31 _ _ ?_
    clear hK31
    refine wp_ret ?_
    (try simp only [Exit.inBlock,Exit.then,reduceIte])
    refine rtM_v F ?_
    refine lv_caught ?_
    refine lv_nil (rs_ttc F rfl rfl rfl rfl Try.underlying35 rfl q6) ?_
    rw [← hT,telR,hn]
    simp only [show ¬ unN x T n = 0 by omega,if_false]
    refine ⟨?_,E⟩
    rw [Int.neg_neg]
end Go.Proofs.Ytdjeecgddbjbeaa
