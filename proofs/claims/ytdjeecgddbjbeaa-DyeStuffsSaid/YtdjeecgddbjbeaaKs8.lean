/- Parts of a proof: Dse, Dmo, Dmt. No conditions. -/
import Derived.Test.YtdjeecgddbjbeaaKs7
set_option linter.unusedVariables false
set_option linter.unusedSimpArgs false
namespace Go.Proofs.Ytdjeecgddbjbeaa
open Go.RowKit
section
variable {P : Program} {ρ : Operand → Value} {o : Oper} {w : World}
theorem R_and {x y : Operand} {t t' : TypeId} {k : IntKind} {n m : Int} (ho : o.op = .binOp .and t x y t') (hx : ρ x = .int k n) (hy : ρ y = .int k m) : (execOp ρ o).run P w = .ok (.value (.int k (bits .and k n m))) w:=by
 unfold execOp
 simp [ho,hx,hy,binOp,Op.intBits,eqGuard,go_sem]
 rfl
theorem R_or {x y : Operand} {t t' : TypeId} {k : IntKind} {n m : Int} (ho : o.op = .binOp .or t x y t') (hx : ρ x = .int k n) (hy : ρ y = .int k m) : (execOp ρ o).run P w = .ok (.value (.int k (bits .or k n m))) w:=by
 unfold execOp
 simp [ho,hx,hy,binOp,Op.intBits,eqGuard,go_sem]
 rfl
theorem R_shl {x y : Operand} {t t' : TypeId} {k k' : IntKind} {n : Int} {m : Nat} (ho : o.op = .binOp .shl t x y t') (hx : ρ x = .int k n) (hy : ρ y = .int k' m) : (execOp ρ o).run P w = .ok (.value (.int k (k.wrap (n * 2 ^ min m k.bits)))) w:=by
 unfold execOp
 have hm : ¬ ((m : Int) < 0):=by omega
 simp [ho,hx,hy,binOp,Op.shift,eqGuard,hm,go_sem]
theorem R_indexStr {y : Operand} {t : TypeId} {s : ByteArray} {i : Int} {b : UInt8} {k : IntKind} (ho : o.op = .index t (.const (.string s)) y) (hx : ρ (.const (.string s)) = .string s) (hy : ρ y = .int k i) (hu : P.underlying t = some .string) (h0 : 0 ≤ i) (hb : s[i.toNat]? = some b) : (execOp ρ o).run P w = .ok (.value (.int .u8 b.toNat)) w:=by
 unfold execOp
 simp [ho,hx,hy,Instr.index,asIntOf,run_underlying hu,h0,hb,go_sem]
end
theorem has8 : ∀ s,s < 64 → ∀ n,n < 8 → bits .and .u8 (((s : Nat) : Int).fdiv (2 ^ min n IntKind.u8.bits)) 1 = if s.testBit n then 1 else 0:=by decide +kernel
theorem shl8 : ∀ n,n < 7 → IntKind.u8.wrap (1 * 2 ^ min n IntKind.u8.bits) = ((2 ^ n : Nat) : Int):=by decide +kernel
theorem or8 : ∀ s,s < 64 → ∀ n,n < 6 → bits .or .u8 ((s : Nat) : Int) ((2 ^ n : Nat) : Int) = ((s ||| 2 ^ n : Nat) : Int):=by decide +kernel
def subB (s f : Nat) : Bool:=(List.range 6).all fun n=>!s.testBit n || f.testBit n
theorem not8 : ∀ s,s < 64 → ∀ f,f < 64 → decide (bits .andNot .u8 ((s : Nat) : Int) ((f : Nat) : Int) = 0) = subB s f:=by decide +kernel
theorem or_lt : ∀ s,s < 64 → ∀ n,n < 6 → s ||| 2 ^ n < 64:=by decide +kernel
theorem add8 : ∀ s,s < 64 → IntKind.u8.wrap (((s : Nat) : Int) + 1) = ((s + 1 : Nat) : Int):=by decide +kernel
def setList (s : Nat) : List Int:=((List.range 6).filter s.testBit).map fun n=>((n : Nat) : Int)
def setLen (s : Nat) : Nat:=((List.range 6).filter s.testBit).length
theorem has_ok (s n : Nat) (hs : s < 64) (hn : n < 8) (w : World) : Calls Try.prog 111 #[.int .u8 ((s : Nat) : Int),.int .i64 ((n : Nat) : Int)] w fun e w'=>e = .returned (.bool (s.testBit n)) ∧ Ext [] w w':=by
 have E : Ext [] w w:=Ext.refl _ _
 refine calls_has 10 Try.func111 rfl Try.ntmps111 (Nat.le_of_ble_eq_true rfl) ?_
 intro fa F
 refine wp_seq_k fun K1 hK1=>?_
 refine wp_region_lit ?_
 refine F.vl (R_assign rfl (ev_c fa _)) ?_;clear F fa;intro fa F
 refine wpList_nil ?_
 refine hK1 _ _ ?_
 clear hK1
 refine wp_seq_k fun K2 hK2=>?_
 refine wp_region_lit ?_
 refine F.mv ?_;clear F fa;intro fa F
 refine F.mv ?_;clear F fa;intro fa F
 refine F.vl ((R_shr rfl (F.at rfl) (F.at rfl))) ?_;clear F fa;intro fa F
 refine F.vl ((R_and rfl (F.at rfl) (ev_c fa _))) ?_;clear F fa;intro fa F
 refine F.vl (R_eqlD rfl (F.at rfl) (ev_c fa _)) ?_;clear F fa;intro fa F
 refine F.as ?_;clear F fa;intro fa F
 refine wpList_nil ?_
 refine hK2 _ _ ?_
 clear hK2
 refine wp_ret ?_
 (try simp only [Exit.inBlock,Exit.then,reduceIte])
 refine rt_v F (rs_1 F rfl rfl) ?_
 exact ⟨ret_bool (by rw [has8 s hs n hn];cases s.testBit n <;> rfl),E⟩
theorem take_filter {s k : Nat} (h : k < 6) : (((List.range 6).take (k + 1)).filter s.testBit) = ((List.range 6).take k).filter s.testBit ++ if s.testBit k then [k] else []:=by
 rw [take_range h,List.filter_append]
 by_cases hb : s.testBit k = true <;> simp [hb]
set_option maxRecDepth 100000 in
theorem list_ok (s : Nat) (hs : s < 64) (w : World) : Calls Try.prog 75 #[.int .u8 ((s : Nat) : Int)] w fun e w'=>∃ a c,e = .returned (.slice a (setList s).length c) ∧ w'.ownsRow w.heap.size 3 1 (.slice a (setList s).length c) (setList s).length (ivs (setList s)) ∧ Ext [] w w':=by
 have E : Ext [] w w:=Ext.refl _ _
 have oo : w.ownsRow w.heap.size 3 1 (.slice none 0 0) 0 (ivs ((((List.range 6).take 0).filter s.testBit).map fun n=>((n : Nat) : Int))):=World.ownsRow_nil _ _ _ _
 refine calls_has 17 Try.func75 rfl Try.ntmps75 (Nat.le_of_ble_eq_true rfl) ?_
 intro fa F
 refine wp_seq_k fun K1 hK1=>?_
 refine wp_region_lit ?_
 refine F.vl (R_assign rfl (ev_c fa _)) ?_;clear F fa;intro fa F
 refine wpList_nil ?_
 refine hK1 _ _ ?_
 clear hK1
 refine wp_seq_k fun K2 hK2=>?_
 refine wp_region_lit ?_
 refine F.vl (R_assign rfl (ev_c fa _)) ?_;clear F fa;intro fa F
 refine wpList_nil ?_
 refine hK2 _ _ ?_
 clear hK2
 refine wp_seq_k fun K3 hK3=>?_
 refine wp_seq_k fun K4 hK4=>?_
 refine wp_region_lit ?_
 refine F.vl (R_move rfl (ev_c fa _)) ?_;clear F fa;intro fa F
 refine wpList_nil ?_
 refine hK4 _ _ ?_
 clear hK4
 refine wp_block ?_
 have F0:=F.sub (.c 0 rfl .n)
 refine lp_for F0 (6) (fun i Lv W=>∃ va : Option Addr,∃ k : Nat,∃ vc : Nat,Lv = [(3,.slice va k vc),(5,.int .i64 ((i : Nat) : Int))] ∧ Ext [] w W ∧ W.ownsRow w.heap.size 3 1 (.slice va k vc) k (ivs ((((List.range 6).take i).filter s.testBit).map fun n=>((n : Nat) : Int))) ∧ k = ((((List.range 6).take i).filter s.testBit).map fun n=>((n : Nat) : Int)).length ∧ k ≤ i) ⟨_,⟨none,0,0,rfl,E,oo,rfl,(Nat.le_refl _)⟩,F.sub (.c 3 rfl (.c 5 rfl (.c 0 rfl .n)))⟩ ?_
 clear F F0
 clear E
 clear oo
 rintro i _ fa w1 hi1 ⟨va,k,vc,rfl,E,oo,hkl,hk6⟩ F
 refine wp_seq_k fun K5 hK5=>?_
 refine wp_region_lit ?_
 refine F.vl (R_lss rfl (F.at rfl) (ev_c fa _)) ?_;clear F fa;intro fa F
 refine wpList_nil ?_
 refine hK5 _ _ ?_
 clear hK5
 refine wp_seq_k fun K6 hK6=>?_
 refine cd_if F rfl (fun hc6=>?_) (fun hc6=>?_)
 ·skip
  refine wp_skip ?_
  refine hK6 _ _ ?_
  clear hK6
  refine wp_seq_k fun K7 hK7=>?_
  refine wp_block ?_
  refine wp_seq_k fun K8 hK8=>?_
  refine wp_region_lit ?_
  refine F.mv ?_;clear F fa;intro fa F
  refine F.as ?_;clear F fa;intro fa F
  refine wpList_nil ?_
  refine hK8 _ _ ?_
  clear hK8
  refine wp_seq_k fun K9 hK9=>?_
  refine wp_region_lit ?_
  refine F.mv ?_;clear F fa;intro fa F
  refine F.mv ?_;clear F fa;intro fa F
  refine sq_call F rfl (by decide) rfl (R_callV rfl rfl Try.call111 (mpS (F.at rfl) (mpS (F.at rfl) mp0))) (has_ok s i hs (by omega) _) fun e w2 hR=>?_
  obtain ⟨rfl,e9⟩:=hR
  refine ⟨_,rfl,?_⟩;clear F fa;intro fa F
  replace oo:=owns_ext oo (e9) (by simp)
  replace E:=ext_same E (e9)
  clear e9
  refine wpList_nil ?_
  refine hK9 _ _ ?_
  clear hK9
  refine cd_b F rfl (fun hc10=>?_) (fun hc10=>?_)
  ·skip
   have hst:=take_filter (s:=s) (show i < 6 by omega)
   rw [if_pos hc10] at hst
   refine wp_region_lit ?_
   refine F.mv ?_;clear F fa;intro fa F
   refine F.mv ?_;clear F fa;intro fa F
   refine sq_new F rfl (by decide) rfl (R_buildSliceV rfl (prS (F.at rfl) pr0) Try.underlying25 (size:=1) (by kernel_rfl) (by decide) (by decide) Try.zeroValue3 (cells:=#[.int .i64 ((i : Nat) : Int)]) (by kernel_rfl)) ?_;clear F fa;intro fa w3 F hw
   obtain ⟨n13,hn⟩ : ∃ n,n = w2.heap.size:=⟨_,rfl⟩
   rw [← hn] at F
   have s13 : w2.heap.size ≤ n13:=Nat.le_of_eq hn.symm
   have l13_E : w.heap.size ≤ n13:=by rw [hn];exact E.size
   have o13_oo:=Lib.hid (own_ne_new oo hn)
   replace oo:=owns_alloc hw oo
   replace E:=ext_alloc E hw
   have q13:=new_block hw hn
   clear hw hn
   have hEs:=E.size
   refine sq_some F rfl (by decide) rfl (append_run rfl (w.heap.size) (e:=3) (size:=1) (bytes:=8) Try.underlying25 (by kernel_rfl) (by decide) (F.at rfl) oo (F.at rfl) q13 rfl (by simp [Value.oneCell']) (by omega) (by omega) (by omega)) ?_;clear F fa;rintro fa v' w4 F ⟨hown',hg⟩
   obtain ⟨va14,vc14,rfl⟩:=owns_slice hown'
   replace E:=ext_appendX E oo hg (by omega)
   replace oo:=hown'
   clear hg
   rw [ivs_snoc1,show ((((List.range 6).take i).filter s.testBit).map fun n=>((n : Nat) : Int)) ++ [((i : Nat) : Int)] = (((List.range 6).take (i + 1)).filter s.testBit).map fun n=>((n : Nat) : Int) by rw [hst,List.map_append];rfl] at oo
   replace hkl : k + 1 = ((((List.range 6).take (i + 1)).filter s.testBit).map fun n=>((n : Nat) : Int)).length:=by rw [hst,List.map_append,List.length_append,← hkl];rfl
   refine F.as ?_;clear F fa;intro fa F
   refine wpList_nil ?_
   refine hK7 _ _ ?_
   clear hK7
   refine wp_region_lit ?_
   refine F.vl (R_add rfl (F.at rfl) (ev_c fa _) (by omega) (by omega)) ?_;clear F fa;intro fa F
   refine F.mv ?_;clear F fa;intro fa F
   refine wpList_nil ?_
   show _ ∧ _
   exact ⟨by omega,_,⟨_,_,_,rfl,E,oo,hkl,(by omega)⟩,F.sub (.c 3 rfl (.c 5 rfl (.c 0 rfl .n)))⟩
  ·skip
   have hst:=take_filter (s:=s) (show i < 6 by omega)
   rw [if_neg (by rw [hc10];decide),List.append_nil] at hst
   rw [← hst] at oo hkl
   refine wp_skip ?_
   refine hK7 _ _ ?_
   clear hK7
   refine wp_region_lit ?_
   refine F.vl (R_add rfl (F.at rfl) (ev_c fa _) (by omega) (by omega)) ?_;clear F fa;intro fa F
   refine F.mv ?_;clear F fa;intro fa F
   refine wpList_nil ?_
   show _ ∧ _
   exact ⟨by omega,_,⟨_,_,_,rfl,E,oo,hkl,(by omega)⟩,F.sub (.c 3 rfl (.c 5 rfl (.c 0 rfl .n)))⟩
 ·skip
  refine wp_exit ?_
  rw [List.take_of_length_le (show (List.range 6).length ≤ i by rw [List.length_range];omega)] at oo hkl
  replace hkl : k = (setList s).length:=hkl
  replace oo : w1.ownsRow w.heap.size 3 1 (.slice va k vc) k (ivs (setList s)):=oo
  refine hK3 _ _ ?_
  clear hK3
  refine wp_seq_k fun K10 hK10=>?_
  refine wp_region_lit ?_
  refine F.mv ?_;clear F fa;intro fa F
  refine F.as ?_;clear F fa;intro fa F
  refine wpList_nil ?_
  refine hK10 _ _ ?_
  clear hK10
  refine wp_ret ?_
  (try simp only [Exit.inBlock,Exit.then,reduceIte])
  refine rt_v F (rs_1 F rfl rfl) ?_
  rw [← hkl]
  exact ⟨va,vc,rfl,oo,E⟩
def onesT : ByteArray:={ data:=(([0,1,1,2,1,2,2,3,1,2,2,3,2,3,3,4,1,2,2,3,2,3,3,4,2,3,3,4,3,4,4,5,1,2,2,3,2,3,3,4,2,3,3,4,3,4,4,5,2,3,3,4,3,4,4,5,3,4,4,5,4,5,5,6].append [1,2,2,3,2,3,3,4,2,3,3,4,3,4,4,5,2,3,3,4,3,4,4,5,3,4,4,5,4,5,5,6,2,3,3,4,3,4,4,5,3,4,4,5,4,5,5,6,3,4,4,5,4,5,5,6,4,5,5,6,5,6,6,7]).append ([1,2,2,3,2,3,3,4,2,3,3,4,3,4,4,5,2,3,3,4,3,4,4,5,3,4,4,5,4,5,5,6,2,3,3,4,3,4,4,5,3,4,4,5,4,5,5,6,3,4,4,5,4,5,5,6,4,5,5,6,5,6,6,7].append [2,3,3,4,3,4,4,5,3,4,4,5,4,5,5,6,3,4,4,5,4,5,5,6,4,5,5,6,5,6,6,7,3,4,4,5,4,5,5,6,4,5,5,6,5,6,6,7,4,5,5,6,5,6,6,7,5,6,6,7,6,7,7,8])).toArray }
theorem ones_hb : ∀ s,s < 64 → onesT[(((s : Nat) : Int)).toNat]? = some (UInt8.ofNat (setLen s)):=by decide +kernel
theorem ones_val : ∀ s,s < 64 → IntKind.i64.wrap (((UInt8.ofNat (setLen s)).toNat : Nat) : Int) = ((setLen s : Nat) : Int):=by decide +kernel
set_option maxRecDepth 100000 in
theorem ones_any (s : Nat) (hs : s < 64) (w : World) : Calls Try.prog 112 #[.int .u8 ((s : Nat) : Int)] w fun e w'=>e = .returned (.int .i64 ((setLen s : Nat) : Int)) ∧ Ext [] w w':=by
 have E : Ext [] w w:=Ext.refl _ _
 refine calls_has 6 Try.func112 rfl Try.ntmps112 (Nat.le_of_ble_eq_true rfl) ?_
 intro fa F
 refine wp_seq_k fun K1 hK1=>?_
 refine wp_region_lit ?_
 refine F.vl (R_assign rfl (ev_c fa _)) ?_;clear F fa;intro fa F
 refine wpList_nil ?_
 refine hK1 _ _ ?_
 clear hK1
 refine wp_seq_k fun K2 hK2=>?_
 refine wp_region_lit ?_
 refine F.mv ?_;clear F fa;intro fa F
 refine F.vl ((R_indexStr (s:=onesT) rfl (ev_c fa _) (F.at rfl) Try.underlying9 (by omega) (ones_hb s hs))) ?_;clear F fa;intro fa F
 refine F.vl ((R_convert rfl (F.at rfl) Try.underlying5 Try.underlying3)) ?_;clear F fa;intro fa F
 refine F.as ?_;clear F fa;intro fa F
 refine wpList_nil ?_
 refine hK2 _ _ ?_
 clear hK2
 refine wp_ret ?_
 (try simp only [Exit.inBlock,Exit.then,reduceIte])
 refine rt_v F (rs_1 F rfl rfl) ?_
 exact ⟨ret_int (ones_val s hs),E⟩
theorem count_ok (s : Nat) (hs : s < 64) (w : World) : Calls Try.prog 76 #[.int .u8 ((s : Nat) : Int)] w fun e w'=>e = .returned (.int .i64 ((setLen s : Nat) : Int)) ∧ Ext [] w w':=by
 have E : Ext [] w w:=Ext.refl _ _
 refine calls_has 5 Try.func76 rfl Try.ntmps76 (Nat.le_of_ble_eq_true rfl) ?_
 intro fa F
 refine wp_seq_k fun K1 hK1=>?_
 refine wp_region_lit ?_
 refine F.vl (R_assign rfl (ev_c fa _)) ?_;clear F fa;intro fa F
 refine wpList_nil ?_
 refine hK1 _ _ ?_
 clear hK1
 refine wp_seq_k fun K2 hK2=>?_
 refine wp_region_lit ?_
 refine F.mv ?_;clear F fa;intro fa F
 refine sq_call F rfl (by decide) rfl (R_callV rfl rfl Try.call112 (mpS (F.at rfl) mp0)) (ones_any s hs _) fun e w1 hR=>?_
 obtain ⟨rfl,e9⟩:=hR
 refine ⟨_,rfl,?_⟩;clear F fa;intro fa F
 replace E:=ext_same E (e9)
 clear e9
 refine F.as ?_;clear F fa;intro fa F
 refine wpList_nil ?_
 refine hK2 _ _ ?_
 clear hK2
 refine wp_ret ?_
 (try simp only [Exit.inBlock,Exit.then,reduceIte])
 refine rt_v F (rs_1 F rfl rfl) ?_
 exact ⟨rfl,E⟩
set_option maxRecDepth 100000 in
theorem indexF_any (xs : List Int) (f : FuncId) (cs : Array Value) (p : Int → Bool) (a : Option Addr) (c : Nat) (w : World) (hx : IsRows w (.slice a xs.length c) 1 (xs.map intRow)) (hl : xs.length ≤ 1000)
  (hf : ∀ args w,(callFunc f args).run Try.prog w = .ok (.enter f args) w) (hc : ∀ W,Ext [] w W → ∀ n ∈ xs,Calls Try.prog f (#[] ++ [Value.int .i64 n].toArray ++ cs) W fun e W'=>e = .returned (.bool (p n)) ∧ Ext [] W W') :
  Calls Try.prog 110 #[.slice a xs.length c,.func (.func f) #[] cs] w fun e w'=>∃ r,e = .returned (.int .i64 r) ∧ decide (0 ≤ r) = xs.any p ∧ Ext [] w w':=by
 have E : Ext [] w w:=Ext.refl _ _
 have HS:=Lib.hid (slAt_of_rows hx 0)
 have HC:=Lib.hid hc
 have HF:=Lib.hid hf
 clear hx hc hf
 refine calls_has 19 Try.func110 rfl Try.ntmps110 (Nat.le_of_ble_eq_true rfl) ?_
 intro fa F
 refine wp_seq_k fun K1 hK1=>?_
 refine wp_region_lit ?_
 refine F.vl (R_assign rfl (ev_c fa _)) ?_;clear F fa;intro fa F
 refine wpList_nil ?_
 refine hK1 _ _ ?_
 clear hK1
 refine wp_seq_k fun K2 hK2=>?_
 refine wp_seq_k fun K3 hK3=>?_
 refine wp_region_lit ?_
 refine F.mv ?_;clear F fa;intro fa F
 refine F.vl (R_len rfl rfl (F.at rfl) Try.underlying25) ?_;clear F fa;intro fa F
 refine F.vl (R_move rfl (ev_c fa _)) ?_;clear F fa;intro fa F
 refine wpList_nil ?_
 refine hK3 _ _ ?_
 clear hK3
 refine wp_block ?_
 have F0:=F.sub (.c 0 rfl (.c 1 rfl (.c 7 rfl .n)))
 refine lp_for F0 (xs.length) (fun i Lv W=>Lv = [(8,.int .i64 ((i : Nat) : Int))] ∧ Ext [] w W ∧ ∀ j,j < i → p (xs.getD j 0) = false) ⟨_,⟨rfl,E,(fun j h=>by omega)⟩,F.sub (.c 8 rfl (.c 0 rfl (.c 1 rfl (.c 7 rfl .n))))⟩ ?_
 clear F F0
 clear E
 rintro i _ fa w1 hi1 ⟨rfl,E,hb⟩ F
 refine wp_seq_k fun K4 hK4=>?_
 refine wp_region_lit ?_
 refine F.vl (R_lss rfl (F.at rfl) (F.at rfl)) ?_;clear F fa;intro fa F
 refine wpList_nil ?_
 refine hK4 _ _ ?_
 clear hK4
 refine wp_seq_k fun K5 hK5=>?_
 refine cd_if F rfl (fun hc9=>?_) (fun hc9=>?_)
 ·skip
  refine wp_skip ?_
  refine hK5 _ _ ?_
  clear hK5
  refine wp_seq_k fun K6 hK6=>?_
  refine wp_block ?_
  refine wp_seq_k fun K7 hK7=>?_
  refine wp_region_lit ?_
  refine F.mv ?_;clear F fa;intro fa F
  refine F.as ?_;clear F fa;intro fa F
  refine wpList_nil ?_
  refine hK7 _ _ ?_
  clear hK7
  refine wp_seq_k fun K8 hK8=>?_
  refine wp_region_lit ?_
  refine F.mv ?_;clear F fa;intro fa F
  refine F.mv ?_;clear F fa;intro fa F
  refine F.mv ?_;clear F fa;intro fa F
  obtain ⟨xb9,xo9,xa9,xr9⟩:=HS.out i (by omega)
  refine F.vl (R_ixSlice (sz:=1) rfl ((F.at rfl).trans (xa9 _ _)) (F.at rfl) Try.underlying25 (by kernel_rfl) (by omega) (by omega)) ?_;clear F fa;intro fa F
  refine F.vl (R_load rfl (F.at rfl) Try.underlying3 rfl (xr9 _ E 0 _ rfl)) ?_;clear F fa;intro fa F
  refine sq_call F rfl (by decide) rfl (R_callF rfl (F.at rfl) HF.out (mpS (F.at rfl) mp0) rfl) (HC.out _ E _ (getD_mem 0 (by omega))) fun e w2 hR=>?_
  obtain ⟨rfl,e9⟩:=hR
  refine ⟨_,rfl,?_⟩;clear F fa;intro fa F
  replace E:=ext_same E (e9)
  clear e9
  refine wpList_nil ?_
  refine hK8 _ _ ?_
  clear hK8
  refine cd_b F rfl (fun hc16=>?_) (fun hc16=>?_)
  ·skip
   refine wp_seq_k fun K10 hK10=>?_
   refine wp_region_lit ?_
   refine F.mv ?_;clear F fa;intro fa F
   refine F.as ?_;clear F fa;intro fa F
   refine wpList_nil ?_
   refine hK10 _ _ ?_
   clear hK10
   refine wp_ret ?_
   (try simp only [Exit.inBlock,Exit.then,reduceIte])
   refine rt_v F (rs_1 F rfl rfl) ?_
   exact ⟨_,rfl,(by rw [decide_eq_true (by omega),List.any_eq_true.2 ⟨_,getD_mem 0 (by omega),hc16⟩]),E⟩
  ·skip
   refine wp_skip ?_
   refine hK6 _ _ ?_
   clear hK6
   refine wp_region_lit ?_
   refine F.vl (R_add rfl (F.at rfl) (ev_c fa _) (by omega) (by omega)) ?_;clear F fa;intro fa F
   refine F.mv ?_;clear F fa;intro fa F
   refine wpList_nil ?_
   show _ ∧ _
   exact ⟨by omega,_,⟨rfl,E,(fun j h=>by rcases Nat.lt_succ_iff_lt_or_eq.1 h with h | rfl;(· exact hb j h);(· exact hc16))⟩,F.sub (.c 8 rfl (.c 0 rfl (.c 1 rfl (.c 7 rfl .n))))⟩
 ·skip
  refine wp_exit ?_
  refine hK2 _ _ ?_
  clear hK2
  refine wp_seq_k fun K11 hK11=>?_
  refine wp_region_lit ?_
  refine F.vl (R_assign rfl (ev_c fa _)) ?_;clear F fa;intro fa F
  refine wpList_nil ?_
  refine hK11 _ _ ?_
  clear hK11
  refine wp_ret ?_
  (try simp only [Exit.inBlock,Exit.then,reduceIte])
  refine rt_v F (rs_1 F rfl rfl) ?_
  exact ⟨_,rfl,(by rw [decide_eq_false (by omega)];symm;rw [List.any_eq_false];intro n hn;obtain ⟨j,hj,rfl⟩:=List.getElem_of_mem hn;have:=hb j (by omega);simpa [hj] using this),E⟩
theorem containsF_any (xs : List Int) (f : FuncId) (cs : Array Value) (p : Int → Bool) (a : Option Addr) (c : Nat) (w : World) (hx : IsRows w (.slice a xs.length c) 1 (xs.map intRow)) (hl : xs.length ≤ 1000)
  (hf : ∀ args w,(callFunc f args).run Try.prog w = .ok (.enter f args) w) (hc : ∀ W,Ext [] w W → ∀ n ∈ xs,Calls Try.prog f (#[] ++ [Value.int .i64 n].toArray ++ cs) W fun e W'=>e = .returned (.bool (p n)) ∧ Ext [] W W') :
  Calls Try.prog 72 #[.slice a xs.length c,.func (.func f) #[] cs] w fun e w'=>e = .returned (.bool (xs.any p)) ∧ Ext [] w w':=by
 have E : Ext [] w w:=Ext.refl _ _
 have HX:=Lib.hid hx
 have HC:=Lib.hid hc
 have HF:=Lib.hid hf
 clear hx hc hf
 refine calls_has 9 Try.func72 rfl Try.ntmps72 (Nat.le_of_ble_eq_true rfl) ?_
 intro fa F
 refine wp_seq_k fun K1 hK1=>?_
 refine wp_region_lit ?_
 refine F.vl (R_assign rfl (ev_c fa _)) ?_;clear F fa;intro fa F
 refine wpList_nil ?_
 refine hK1 _ _ ?_
 clear hK1
 refine wp_seq_k fun K2 hK2=>?_
 refine wp_region_lit ?_
 refine F.mv ?_;clear F fa;intro fa F
 refine F.mv ?_;clear F fa;intro fa F
 refine sq_call F rfl (by decide) rfl (R_callV rfl rfl Try.call110 (mpS (F.at rfl) (mpS (F.at rfl) mp0))) (indexF_any xs f cs p a c _ (HX.out.ext E (by simp)) hl HF.out (fun W e=>HC.out W (E.trans e))) fun e w1 hR=>?_
 obtain ⟨r,rfl,hr,e9⟩:=hR
 refine ⟨_,rfl,?_⟩;clear F fa;intro fa F
 replace E:=ext_same E (e9)
 clear e9
 refine F.vl (R_geq rfl (F.at rfl) (ev_c fa _)) ?_;clear F fa;intro fa F
 refine F.as ?_;clear F fa;intro fa F
 refine wpList_nil ?_
 refine hK2 _ _ ?_
 clear hK2
 refine wp_ret ?_
 (try simp only [Exit.inBlock,Exit.then,reduceIte])
 refine rt_v F (rs_1 F rfl rfl) ?_
 exact ⟨ret_bool hr,E⟩
set_option maxRecDepth 100000 in
theorem most1_ok (x : Vm) (hv : VOk x) (T : List (List Int)) (hT : ∀ t ∈ T,TubS (val t)) (ma : Option Addr) (mc n8 n9 n11 n12 j k l : Nat) (hj : j < T.length) (hk : k < T.length) (hl : l < x.L.length) (w : World) (h : x.At w)
  (q8 : w.heap[n8]? = some (.cells #[.int .i64 x.B,.slice x.da x.D.length x.dc,.slice x.la x.L.length x.lc,.int .i64 x.tol] 80 (0,0))) (q9 : w.heap[n9]? = some (.cells #[.slice ma T.length mc] 102 (0,0))) (q11 : w.heap[n11]? = some (.cells #[.int .i64 ((j : Nat) : Int)] 3 (0,0))) (q12 : w.heap[n12]? = some (.cells #[.int .i64 ((k : Nat) : Int)] 3 (0,0)))
  (hs : SlAt [] w ma 4 T.length (fun i=>tubR (val (T.getD i [])))) (h6 : T.length ≤ 6) :
  Calls Try.prog 73 #[.int .i64 ((l : Nat) : Int),.pointer (some ⟨n8,0,none⟩),.pointer (some ⟨n9,0,none⟩),.pointer (some ⟨n11,0,none⟩),.pointer (some ⟨n12,0,none⟩)] w fun e w'=>e = .returned (.bool (!alkE x l (val (T.getD j [])) (val (T.getD k [])))) ∧ Ext [] w w':=by
 have E : Ext [] w w:=Ext.refl _ _
 have HX:=Lib.hid h
 have HV:=Lib.hid hv
 have HT:=Lib.hid hT
 have HS:=Lib.hid hs
 clear h hv hT hs
 refine calls_has 19 Try.func73 rfl Try.ntmps73 (Nat.le_of_ble_eq_true rfl) ?_
 intro fa F
 refine wp_seq_k fun K1 hK1=>?_
 refine wp_region_lit ?_
 refine F.vl (R_assign rfl (ev_c fa _)) ?_;clear F fa;intro fa F
 refine wpList_nil ?_
 refine hK1 _ _ ?_
 clear hK1
 refine wp_seq_k fun K2 hK2=>?_
 refine wp_region_st 10 follows (by kernel_rfl) fun w1 hh eh=>?_
 replace q8:=keep_same hh q8
 replace q9:=keep_same hh q9
 replace q11:=keep_same hh q11
 replace q12:=keep_same hh q12
 replace E:=ext_same E eh
 clear hh eh
 refine F.sv (R_loadBlk rfl (F.at rfl) Try.underlying80 rfl (by kernel_rfl) q8) ?_;clear F fa;intro fa F
 refine F.smv ?_;clear F fa;intro fa F
 refine F.sv (R_load rfl (F.at rfl) Try.underlying102 rfl ((cells_of_block q9 0).trans (get0))) ?_;clear F fa;intro fa F
 refine F.sv (R_load rfl (F.at rfl) Try.underlying3 rfl ((cells_of_block q11 0).trans (get0))) ?_;clear F fa;intro fa F
 obtain ⟨xb3,xo3,xa3,xr3⟩:=HS.out j (by omega)
 refine F.sv (R_ixSlice (sz:=4) rfl ((F.at rfl).trans (xa3 _ _)) (F.at rfl) Try.underlying102 (by kernel_rfl) (by omega) (by omega)) ?_;clear F fa;intro fa F
 refine F.sv (R_loadRow rfl (F.at rfl) Try.underlying83 rfl (by kernel_rfl) (xr3 _ E)) ?_;clear F fa;intro fa F
 refine F.sv (R_load rfl (F.at rfl) Try.underlying102 rfl ((cells_of_block q9 0).trans (get0))) ?_;clear F fa;intro fa F
 refine F.sv (R_load rfl (F.at rfl) Try.underlying3 rfl ((cells_of_block q12 0).trans (get0))) ?_;clear F fa;intro fa F
 obtain ⟨xb4,xo4,xa4,xr4⟩:=HS.out k (by omega)
 refine F.sv (R_ixSlice (sz:=4) rfl ((F.at rfl).trans (xa4 _ _)) (F.at rfl) Try.underlying102 (by kernel_rfl) (by omega) (by omega)) ?_;clear F fa;intro fa F
 refine F.sv (R_loadRow rfl (F.at rfl) Try.underlying83 rfl (by kernel_rfl) (xr4 _ E)) ?_;clear F fa;intro fa F
 refine wpStill_nil ?_
 refine sq_call F rfl (by decide) rfl (R_callV rfl rfl Try.call74 (mpS (F.at rfl) (mpS (F.at rfl) (mpS (F.at rfl) (mpS (F.at rfl) mp0))))) (alike_ok x HV.out l hl (val (T.getD j [])) (val (T.getD k [])) (HT.out _ (getD_memL [] (by omega))) (HT.out _ (getD_memL [] (by omega))) _ (HX.out.ext E)) fun e w2 hR=>?_
 obtain ⟨rfl,e9⟩:=hR
 refine ⟨_,rfl,?_⟩;clear F fa;intro fa F
 replace q8:=(e9).keep0 q8
 replace q9:=(e9).keep0 q9
 replace q11:=(e9).keep0 q11
 replace q12:=(e9).keep0 q12
 replace E:=ext_same E (e9)
 clear e9
 refine F.vl (R_not rfl (F.at rfl)) ?_;clear F fa;intro fa F
 refine F.as ?_;clear F fa;intro fa F
 refine wpList_nil ?_
 refine hK2 _ _ ?_
 clear hK2
 refine wp_ret ?_
 (try simp only [Exit.inBlock,Exit.then,reduceIte])
 refine rt_v F (rs_1 F rfl rfl) ?_
 exact ⟨rfl,E⟩
def sixC (f : Nat → Int) : Array Value:=#[.int .u8 (f 0),.int .u8 (f 1),.int .u8 (f 2),.int .u8 (f 3),.int .u8 (f 4),.int .u8 (f 5)]
theorem six_ix {f : Nat → Int} {i : Int} {k : Nat} (h : i.toNat = k) (hk : k < 6) : (sixC f)[i.toNat]? = some (.int .u8 (f k)):=by
 subst h
 rcases hi : i.toNat with _ | _ | _ | _ | _ | _ | n
 ·rfl
 ·rfl
 ·rfl
 ·rfl
 ·rfl
 ·rfl
 ·omega
theorem six_at {w : World} {b : Nat} {T : TypeId} {fz : Nat × Nat} {f : Nat → Int} (H : w.heap[b]? = some (.cells (sixC f) T fz)) {i : Int} {k : Nat} (h : i.toNat = k) (hk : k < 6) : w.cell? ⟨b,0 + i.toNat * 1,none⟩ = some (.int .u8 (f k)):=by
 rw [cells_of_block H,Nat.zero_add,Nat.mul_one]
 exact six_ix h hk
theorem put_six {w w2 : World} {b : Nat} {T : TypeId} {f : Nat → Int} {i v : Int} (e : w2 = w.setCell ⟨b,0 + i.toNat * 1,none⟩ (.int .u8 v)) (H : w.heap[b]? = some (.cells (sixC f) T (0,0))) {k : Nat} (h : i.toNat = k) (hk : k < 6) : w2.heap[b]? = some (.cells (sixC (upF f k v)) T (0,0)):=by
 refine put_cell e H ?_
 rw [Nat.zero_add,Nat.mul_one,h]
 clear e H h
 match k,hk with
 | 0,_=>rfl
 | 1,_=>rfl
 | 2,_=>rfl
 | 3,_=>rfl
 | 4,_=>rfl
 | 5,_=>rfl
def nrB (x : Vm) (ls : List Int) (T : List (List Int)) (j k : Nat) : Bool:=!(ls.any fun l=>!alkE x l.toNat (val (T.getD j [])) (val (T.getD k [])))
section
variable (p : Nat → Nat → Bool)
def fnK (j : Nat) : Nat → Nat
 | 0=>0
 | k + 1=>if p j k = true then fnK j k ||| 2 ^ k else fnK j k
theorem fnK_lt (j : Nat) : ∀ k,k ≤ 6 → fnK p j k < 64
 | 0,_=>by simp [fnK]
 | k + 1,h=>by
  rw [fnK]
  split
  ·exact or_lt _ (fnK_lt j k (by omega)) k (by omega)
  ·exact fnK_lt j k (by omega)
def finF (n j k : Nat) : Nat → Int:=fun i=>if i < j then ((fnK p i n : Nat) : Int) else if i = j then ((fnK p j k : Nat) : Int) else 0
theorem finF_yes {n j k : Nat} (h : p j k = true) : upF (finF p n j k) j (((fnK p j k ||| 2 ^ k : Nat)) : Int) = finF p n j (k + 1):=by
 funext i
 rw [upF,finF,finF]
 by_cases h1 : i = j
 ·subst h1;simp [fnK,h]
 ·simp [h1]
theorem finF_no {n j k : Nat} (h : p j k = false) : finF p n j k = finF p n j (k + 1):=by
 funext i
 rw [finF,finF,fnK,h];simp
theorem finF_next {n j : Nat} : finF p n j n = finF p n (j + 1) 0:=by
 funext i
 rw [finF,finF]
 by_cases h1 : i = j
 ·subst h1;simp
 ·by_cases h2 : i < j
  ·simp [h2,show i < j + 1 by omega]
  ·simp [h1,h2,show ¬ i < j + 1 by omega,fnK]
theorem finF_zero {n : Nat} : finF p n 0 0 = zf:=by
 funext i
 rw [finF,zf]
 by_cases h : i = 0
 ·simp [h,fnK]
 ·simp [h]
def finS (n i : Nat) : Nat:=if i < n then fnK p i n else 0
theorem finS_lt {n : Nat} (h : n ≤ 6) (i : Nat) : finS p n i < 64:=by
 rw [finS]
 split
 ·exact fnK_lt p i n h
 ·omega
theorem finF_end {n : Nat} (i : Nat) : finF p n n 0 i = ((finS p n i : Nat) : Int):=by
 rw [finF,finS]
 by_cases h : i < n
 ·simp [h]
 ·simp [h,fnK]
def okS (n s : Nat) : Bool:=(setList s).all fun i=>subB s (finS p n i.toNat)
def betS (s b : Nat) : Bool:=decide (setLen b < setLen s) || (decide (setLen s = setLen b) && decide (cmpL (setList s) (setList b) < 0))
def bestK (n : Nat) : Nat → Nat
 | 0=>0
 | s + 1=>if okS p n s && betS s (bestK n s) then s else bestK n s
theorem bestK_lt (n : Nat) : ∀ s,s ≤ 64 → bestK p n s < 64
 | 0,_=>by simp [bestK]
 | s + 1,h=>by
  rw [bestK]
  split
  ·omega
  ·exact bestK_lt n s (by omega)
theorem bestK_bad {n s : Nat} (h : okS p n s = false) : bestK p n s = bestK p n (s + 1):=by rw [bestK,h];simp
theorem bestK_yes {n s : Nat} (h : okS p n s = true) (hb : setLen (bestK p n s) < setLen s ∨ (setLen s = setLen (bestK p n s) ∧ cmpL (setList s) (setList (bestK p n s)) < 0)) : s = bestK p n (s + 1):=by
 rw [bestK,h,betS]
 rcases hb with h1 | ⟨h1,h2⟩ <;> simp [*]
theorem bestK_no {n s : Nat} (hb : ¬ setLen (bestK p n s) < setLen s) (h2 : setLen s = setLen (bestK p n s) → ¬ cmpL (setList s) (setList (bestK p n s)) < 0) : bestK p n s = bestK p n (s + 1):=by
 rw [bestK,betS,if_neg]
 simp only [Bool.and_eq_true,Bool.or_eq_true,decide_eq_true_eq,not_and,not_or]
 exact fun _=>⟨hb,fun h=>h2 h⟩
theorem okS_all {n s : Nat} (h : ∀ i,i < (setList s).length → subB s (finS p n ((setList s).getD i 0).toNat) = true) : okS p n s = true:=by
 rw [okS,List.all_eq_true]
 intro n hn
 obtain ⟨i,hi,rfl⟩:=List.getElem_of_mem hn
 simpa [hi] using h i hi
theorem okS_bad {n s i : Nat} (hi : i < (setList s).length) (h : subB s (finS p n ((setList s).getD i 0).toNat) = false) : okS p n s = false:=by
 rw [okS,List.all_eq_false]
 exact ⟨_,getD_mem 0 hi,by rw [h];decide⟩
end
theorem setList_bd : ∀ s,s < 64 → ∀ n ∈ setList s,0 ≤ n ∧ n < 6:=by decide +kernel
theorem setList_le : ∀ s,s < 64 → (setList s).length ≤ 6:=by decide +kernel
def mosR (x : Vm) (ls : List Int) (T : List (List Int)) : List Int:=setList (bestK (nrB x ls T) T.length (2 ^ T.length))
theorem rows_of_ivs {w : World} {base n c : Nat} {a : Option Addr} {xs : List Int} (h : w.ownsRow base 3 1 (.slice a n c) n (ivs xs)) (hn : n = xs.length) : IsRows w (.slice a n c) 1 (xs.map intRow):=by
 subst hn
 exact rows_of_owns (row:=intRow) (by rw [← ivs_flat];exact h) (fun _=>rfl)
theorem pow_lt7 : ∀ n,n ≤ 6 → 2 ^ n ≤ 64:=by decide
set_option maxRecDepth 100000 in
set_option maxHeartbeats 4000000 in
theorem xMost_ok (x : Vm) (hv : VOk x) (S : List (Value × List Int)) (hs : ∀ p ∈ S,RcpOk x p.2) (h6 : S.length ≤ 6) (ls : List Int) (hll : LmpsOk x ls) (hl4 : ls.length ≤ 1000) (a b : Option Addr) (c d : Nat) (w : World) (h : x.At w) (hl : LolAt w a S) (hq : IsRows w (.slice b ls.length d) 1 (ls.map intRow)) :
  Calls Try.prog 28 #[.agg #[.int .i64 x.B,.slice x.da x.D.length x.dc,.slice x.la x.L.length x.lc,.int .i64 x.tol],.slice a S.length c,.slice b ls.length d] w (IntsPost (mosR x ls (S.map (·.2)),0) w):=by
 have E : Ext [] w w:=Ext.refl _ _
 have HX:=Lib.hid h
 have HV:=Lib.hid hv
 have HL:=Lib.hid hl
 have HS:=Lib.hid hs
 have HQ:=Lib.hid hq
 have HM:=Lib.hid hll
 obtain ⟨T,hT⟩ : ∃ T,T = S.map (·.2):=⟨_,rfl⟩
 have hTl : T.length = S.length:=by rw [hT,List.length_map]
 have HT : RowKit.Hid (∀ t ∈ T,TubS (val t)):=Lib.hid (fun t ht=>by
  rw [hT] at ht
  obtain ⟨p,hp,rfl⟩:=List.mem_map.1 ht
  exact (hs p hp).tub)
 obtain ⟨p,hp⟩ : ∃ p,p = nrB x ls T:=⟨_,rfl⟩
 have HP:=Lib.hid hp
 clear h hv hl hs hq hll hp
 refine calls_hasM 92 Try.func28 rfl Try.ntmps28 (Nat.le_of_ble_eq_true rfl) ?_
 intro fa F
 refine wp_seq_k fun K1 hK1=>?_
 refine wp_region_lit ?_
 refine sq_new F rfl (by decide) rfl (R_box rfl (F.at rfl)) ?_;clear F fa;intro fa w1 F hw
 obtain ⟨n3,hn⟩ : ∃ n,n = w.heap.size:=⟨_,rfl⟩
 rw [← hn] at F
 have s3 : w.heap.size ≤ n3:=Nat.le_of_eq hn.symm
 have l3_E : w.heap.size ≤ n3:=by rw [hn];exact E.size
 replace E:=ext_alloc E hw
 have q3:=new_row hw hn
 clear hw hn
 refine F.vl (R_assign rfl (ev_c fa _)) ?_;clear F fa;intro fa F
 refine sq_new F rfl (by decide) rfl (R_alloc rfl Try.zeroValue35) ?_;clear F fa;intro fa w2 F hw
 obtain ⟨n7,hn⟩ : ∃ n,n = w1.heap.size:=⟨_,rfl⟩
 rw [← hn] at F
 have s7 : w1.heap.size ≤ n7:=Nat.le_of_eq hn.symm
 have l7_E : w.heap.size ≤ n7:=by rw [hn];exact E.size
 have m7_3 : n3 < n7:=by rw [hn];exact blk_lt q3
 replace q3:=keep_alloc hw q3
 replace E:=ext_alloc E hw
 have q7:=new_one hw rfl hn
 clear hw hn
 refine wpList_nil ?_
 refine hK1 _ _ ?_
 clear hK1
 refine wp_scope_straight ?_
 refine wp_seq_k fun K2 hK2=>?_
 refine wp_region_lit ?_
 refine sq_defer F rfl rfl (R_defer rfl rfl (mpS (F.at rfl) mp0)) ?_;clear F fa;intro fa F
 refine wpList_nil ?_
 refine hK2 _ _ ?_
 clear hK2
 refine wp_seq_k fun K3 hK3=>?_
 refine wp_region_lit ?_
 refine F.vl (R_loadBlk rfl (F.at rfl) Try.underlying24 rfl (by kernel_rfl) q3) ?_;clear F fa;intro fa F
 refine sq_call F rfl (by decide) rfl (R_callV rfl rfl Try.call54 (mpS (F.at rfl) mp0)) (begin_ok x HV.out _ (HX.out.ext E)) fun e w3 hR=>?_
 obtain ⟨rfl,e9⟩:=hR
 refine ⟨_,rfl,?_⟩;clear F fa;intro fa F
 replace q3:=(e9).keep0 q3
 replace q7:=(e9).keep0 q7
 replace E:=ext_same E (e9)
 clear e9
 refine sq_new F rfl (by decide) rfl (R_alloc rfl Try.zeroValue80) ?_;clear F fa;intro fa w4 F hw
 obtain ⟨n8,hn⟩ : ∃ n,n = w3.heap.size:=⟨_,rfl⟩
 rw [← hn] at F
 have s8 : w3.heap.size ≤ n8:=Nat.le_of_eq hn.symm
 have l8_E : w.heap.size ≤ n8:=by rw [hn];exact E.size
 have m8_3 : n3 < n8:=by rw [hn];exact blk_lt q3
 have m8_7 : n7 < n8:=by rw [hn];exact blk_lt q7
 replace q3:=keep_alloc hw q3
 replace q7:=keep_alloc hw q7
 replace E:=ext_alloc E hw
 have q8:=new_row hw hn
 clear hw hn
 refine sq_to rfl rfl (R_storeRow rfl (F.at rfl) (F.at rfl) (by kernel_rfl) (by first | (simp [Value.oneCell'];done) | (simp [Value.oneCell',id];done)) q8 rfl) ?_;intro w5 hw
 replace q3:=keep_cells hw q3 (by omega)
 replace q7:=keep_cells hw q7 (by omega)
 replace q8:=put_row hw q8 rfl
 replace E:=ext_cells E hw (fun h=>by first | exact absurd h (by omega) | simp)
 clear hw
 refine wpList_nil ?_
 refine hK3 _ _ ?_
 clear hK3
 refine wp_seq_k fun K4 hK4=>?_
 refine wp_region_lit ?_
 refine F.vl (R_loadBlk rfl (F.at rfl) Try.underlying80 rfl (by kernel_rfl) q8) ?_;clear F fa;intro fa F
 refine F.mv ?_;clear F fa;intro fa F
 refine sq_call F rfl (by decide) rfl (R_callV rfl rfl Try.call71 (mpS (F.at rfl) (mpS (F.at rfl) mp0))) (stuffs_ok x HV.out S HS.out h6 a c _ (HL.out.ext E)) fun e w6 hR=>?_
 obtain ⟨ma,mc,rfl,om,e9⟩:=hR
 refine ⟨_,rfl,?_⟩;clear F fa;intro fa F
 replace q3:=(e9).keep0 q3
 replace q7:=(e9).keep0 q7
 replace q8:=(e9).keep0 q8
 replace E:=ext_same E (e9)
 clear e9
 rw [← hT,← hTl] at om
 rw [← hTl] at F
 have hrm:=Lib.hid (rows_of_owns (row:=fun t : List Int=>tubR (val t)) om (fun _=>rfl))
 clear om
 obtain ⟨wM,hwM⟩ : ∃ wM,wM = w6:=⟨_,rfl⟩
 have EM : Ext [] wM w6:=by rw [hwM];exact Ext.refl _ _
 rw [← hwM] at hrm
 refine sq_new F rfl (by decide) rfl (R_alloc rfl Try.zeroValue102) ?_;clear F fa;intro fa w7 F hw
 obtain ⟨n9,hn⟩ : ∃ n,n = w6.heap.size:=⟨_,rfl⟩
 rw [← hn] at F
 have s9 : w6.heap.size ≤ n9:=Nat.le_of_eq hn.symm
 have l9_E : w.heap.size ≤ n9:=by rw [hn];exact E.size
 have l9_EM : wM.heap.size ≤ n9:=by rw [hn];exact EM.size
 have m9_3 : n3 < n9:=by rw [hn];exact blk_lt q3
 have m9_7 : n7 < n9:=by rw [hn];exact blk_lt q7
 have m9_8 : n8 < n9:=by rw [hn];exact blk_lt q8
 replace q3:=keep_alloc hw q3
 replace q7:=keep_alloc hw q7
 replace q8:=keep_alloc hw q8
 replace E:=ext_alloc E hw
 replace EM:=ext_alloc EM hw
 have q9:=new_one hw rfl hn
 clear hw hn
 refine sq_to rfl rfl (R_store rfl (F.at rfl) (F.at rfl) rfl (by kernel_rfl) ((cells_of_block q9 0).trans (get0)) (free_of_block q9 0)) ?_;intro w8 hw
 replace q3:=keep_cell hw q3 (by omega)
 replace q7:=keep_cell hw q7 (by omega)
 replace q8:=keep_cell hw q8 (by omega)
 replace q9:=put_cell hw q9 (by simp only [List.setIfInBounds_toArray,lsQ,lzQ];exact rfl)
 replace E:=ext_cell E hw (fun h=>by first | exact absurd h (by omega) | simp)
 replace EM:=ext_cell EM hw (fun h=>by first | exact absurd h (by omega) | simp)
 clear hw
 refine wpList_nil ?_
 refine hK4 _ _ ?_
 clear hK4
 refine wp_seq_k fun K5 hK5=>?_
 refine wp_region_lit ?_
 refine F.vl (R_loadBlk rfl (F.at rfl) Try.underlying80 rfl (by kernel_rfl) q8) ?_;clear F fa;intro fa F
 refine F.mv ?_;clear F fa;intro fa F
 refine sq_call F rfl (by decide) rfl (R_callV rfl rfl Try.call57 (mpS (F.at rfl) (mpS (F.at rfl) mp0))) (lamps_ok x HV.out ls HM.out hl4 b d _ (HX.out.ext E) (HQ.out.ext E (by simp))) fun e w9 hR=>?_
 obtain ⟨rfl,e9⟩:=hR
 refine ⟨_,rfl,?_⟩;clear F fa;intro fa F
 replace q3:=(e9).keep0 q3
 replace q7:=(e9).keep0 q7
 replace q8:=(e9).keep0 q8
 replace q9:=(e9).keep0 q9
 replace E:=ext_same E (e9)
 replace EM:=ext_same EM (e9)
 clear e9
 refine wpList_nil ?_
 refine hK5 _ _ ?_
 clear hK5
 refine wp_seq_k fun K6 hK6=>?_
 refine wp_region_lit ?_
 refine sq_new F rfl (by decide) rfl (R_alloc rfl Try.zeroValue105) ?_;clear F fa;intro fa w10 F hw
 obtain ⟨n10,hn⟩ : ∃ n,n = w9.heap.size:=⟨_,rfl⟩
 rw [← hn] at F
 have s10 : w9.heap.size ≤ n10:=Nat.le_of_eq hn.symm
 have l10_E : w.heap.size ≤ n10:=by rw [hn];exact E.size
 have l10_EM : wM.heap.size ≤ n10:=by rw [hn];exact EM.size
 have m10_3 : n3 < n10:=by rw [hn];exact blk_lt q3
 have m10_7 : n7 < n10:=by rw [hn];exact blk_lt q7
 have m10_8 : n8 < n10:=by rw [hn];exact blk_lt q8
 have m10_9 : n9 < n10:=by rw [hn];exact blk_lt q9
 replace q3:=keep_alloc hw q3
 replace q7:=keep_alloc hw q7
 replace q8:=keep_alloc hw q8
 replace q9:=keep_alloc hw q9
 replace E:=ext_alloc E hw
 replace EM:=ext_alloc EM hw
 have q10:=new_row hw hn
 clear hw hn
 refine wpList_nil ?_
 have HTs:=Lib.hid (slAt_of_rowsX (X:=[n10]) hrm.out (fun W e=>hrm.out.ext e (by simpa using l10_EM)) [])
 have E9:=EM.mono (Y:=[n10]) (by simp)
 replace q10 : w10.heap[n10]? = some (.cells (sixC (finF p T.length 0 0)) 105 (0,0)):=by rw [finF_zero];exact q10
 refine hK6 _ _ ?_
 clear hK6
 refine wp_seq_k fun K7 hK7=>?_
 refine wp_seq_k fun K8 hK8=>?_
 refine wp_region_lit ?_
 refine F.vl (R_load rfl (F.at rfl) Try.underlying102 rfl ((cells_of_block q9 0).trans (get0))) ?_;clear F fa;intro fa F
 refine F.vl (R_len rfl rfl (F.at rfl) Try.underlying102) ?_;clear F fa;intro fa F
 refine F.vl (R_move rfl (ev_c fa _)) ?_;clear F fa;intro fa F
 refine wpList_nil ?_
 refine hK8 _ _ ?_
 clear hK8
 refine wp_block ?_
 have F0:=F.sub (.c 2 rfl (.c 7 rfl (.c 8 rfl (.c 9 rfl (.c 10 rfl (.c 26 rfl .n))))))
 refine lp_for F0 (T.length) (fun j Lv W=>Lv = [(27,.int .i64 ((j : Nat) : Int))] ∧ Ext [] w W ∧ Ext [n10] wM W ∧ W.heap[n3]? = some (.cells #[.int .i64 x.B,.slice x.da x.D.length x.dc,.slice x.la x.L.length x.lc,.int .i64 x.tol] 24 (0,0)) ∧ W.heap[n7]? = some (.cells #[.int .i64 0] 35 (0,0)) ∧ W.heap[n8]? = some (.cells #[.int .i64 x.B,.slice x.da x.D.length x.dc,.slice x.la x.L.length x.lc,.int .i64 x.tol] 80 (0,0)) ∧ W.heap[n9]? = some (.cells #[.slice ma T.length mc] 102 (0,0)) ∧ W.heap[n10]? = some (.cells (sixC (finF p T.length j 0)) 105 (0,0))) ⟨_,⟨rfl,E,E9,q3,q7,q8,q9,q10⟩,F.sub (.c 27 rfl (.c 2 rfl (.c 7 rfl (.c 8 rfl (.c 9 rfl (.c 10 rfl (.c 26 rfl .n)))))))⟩ ?_
 clear F F0
 clear E E9 q3 q7 q8 q9 q10
 rintro j _ fa w11 hi1 ⟨rfl,E,E9,q3,q7,q8,q9,q10⟩ F
 refine wp_seq_k fun K9 hK9=>?_
 refine wp_region_lit ?_
 refine F.vl (R_lss rfl (F.at rfl) (F.at rfl)) ?_;clear F fa;intro fa F
 refine wpList_nil ?_
 refine hK9 _ _ ?_
 clear hK9
 refine wp_seq_k fun K10 hK10=>?_
 refine cd_if F rfl (fun hc28=>?_) (fun hc28=>?_)
 ·skip
  refine wp_skip ?_
  refine hK10 _ _ ?_
  clear hK10
  refine wp_seq_k fun K11 hK11=>?_
  refine wp_block ?_
  refine wp_seq_k fun K12 hK12=>?_
  refine wp_region_lit ?_
  refine F.mv ?_;clear F fa;intro fa F
  refine sq_new F rfl (by decide) rfl (R_alloc rfl Try.zeroValue3) ?_;clear F fa;intro fa w12 F hw
  obtain ⟨n11,hn⟩ : ∃ n,n = w11.heap.size:=⟨_,rfl⟩
  rw [← hn] at F
  have s11 : w11.heap.size ≤ n11:=Nat.le_of_eq hn.symm
  have l11_E : w.heap.size ≤ n11:=by rw [hn];exact E.size
  have l11_E9 : wM.heap.size ≤ n11:=by rw [hn];exact E9.size
  have m11_3 : n3 < n11:=by rw [hn];exact blk_lt q3
  have m11_7 : n7 < n11:=by rw [hn];exact blk_lt q7
  have m11_8 : n8 < n11:=by rw [hn];exact blk_lt q8
  have m11_9 : n9 < n11:=by rw [hn];exact blk_lt q9
  have m11_10 : n10 < n11:=by rw [hn];exact blk_lt q10
  replace q3:=keep_alloc hw q3
  replace q7:=keep_alloc hw q7
  replace q8:=keep_alloc hw q8
  replace q9:=keep_alloc hw q9
  replace q10:=keep_alloc hw q10
  replace E:=ext_alloc E hw
  replace E9:=ext_alloc E9 hw
  have q11:=new_one hw rfl hn
  clear hw hn
  refine sq_to rfl rfl (R_store rfl (F.at rfl) (F.at rfl) rfl (by kernel_rfl) ((cells_of_block q11 0).trans (get0)) (free_of_block q11 0)) ?_;intro w13 hw
  replace q3:=keep_cell hw q3 (by omega)
  replace q7:=keep_cell hw q7 (by omega)
  replace q8:=keep_cell hw q8 (by omega)
  replace q9:=keep_cell hw q9 (by omega)
  replace q10:=keep_cell hw q10 (by omega)
  replace q11:=put_cell hw q11 (by simp only [List.setIfInBounds_toArray,lsQ,lzQ];exact rfl)
  replace E:=ext_cell E hw (fun h=>by first | exact absurd h (by omega) | simp)
  replace E9:=ext_cell E9 hw (fun h=>by first | exact absurd h (by omega) | simp)
  clear hw
  refine wpList_nil ?_
  refine hK12 _ _ ?_
  clear hK12
  refine wp_seq_k fun K13 hK13=>?_
  refine wp_region_lit ?_
  refine F.vl (R_load rfl (F.at rfl) Try.underlying102 rfl ((cells_of_block q9 0).trans (get0))) ?_;clear F fa;intro fa F
  refine F.vl (R_len rfl rfl (F.at rfl) Try.underlying102) ?_;clear F fa;intro fa F
  refine F.vl (R_move rfl (ev_c fa _)) ?_;clear F fa;intro fa F
  refine wpList_nil ?_
  refine hK13 _ _ ?_
  clear hK13
  refine wp_block ?_
  have F0:=F.sub (.c 2 rfl (.c 7 rfl (.c 8 rfl (.c 9 rfl (.c 10 rfl (.c 11 rfl (.c 26 rfl (.c 27 rfl (.c 31 rfl .n)))))))))
  refine lp_for F0 (T.length) (fun k Lv W=>Lv = [(32,.int .i64 ((k : Nat) : Int))] ∧ Ext [] w W ∧ Ext [n10] wM W ∧ W.heap[n3]? = some (.cells #[.int .i64 x.B,.slice x.da x.D.length x.dc,.slice x.la x.L.length x.lc,.int .i64 x.tol] 24 (0,0)) ∧ W.heap[n7]? = some (.cells #[.int .i64 0] 35 (0,0)) ∧ W.heap[n8]? = some (.cells #[.int .i64 x.B,.slice x.da x.D.length x.dc,.slice x.la x.L.length x.lc,.int .i64 x.tol] 80 (0,0)) ∧ W.heap[n9]? = some (.cells #[.slice ma T.length mc] 102 (0,0)) ∧ W.heap[n10]? = some (.cells (sixC (finF p T.length j k)) 105 (0,0)) ∧ W.heap[n11]? = some (.cells #[.int .i64 ((j : Nat) : Int)] 3 (0,0))) ⟨_,⟨rfl,E,E9,q3,q7,q8,q9,q10,q11⟩,F.sub (.c 32 rfl (.c 2 rfl (.c 7 rfl (.c 8 rfl (.c 9 rfl (.c 10 rfl (.c 11 rfl (.c 26 rfl (.c 27 rfl (.c 31 rfl .n))))))))))⟩ ?_
  clear F F0
  clear E E9 q3 q7 q8 q9 q10 q11
  rintro k _ fa w14 hi2 ⟨rfl,E,E9,q3,q7,q8,q9,q10,q11⟩ F
  refine wp_seq_k fun K14 hK14=>?_
  refine wp_region_lit ?_
  refine F.vl (R_lss rfl (F.at rfl) (F.at rfl)) ?_;clear F fa;intro fa F
  refine wpList_nil ?_
  refine hK14 _ _ ?_
  clear hK14
  refine wp_seq_k fun K15 hK15=>?_
  refine cd_if F rfl (fun hc33=>?_) (fun hc33=>?_)
  ·skip
   refine wp_skip ?_
   refine hK15 _ _ ?_
   clear hK15
   refine wp_seq_k fun K16 hK16=>?_
   refine wp_block ?_
   refine wp_seq_k fun K17 hK17=>?_
   refine wp_region_lit ?_
   refine F.mv ?_;clear F fa;intro fa F
   refine sq_new F rfl (by decide) rfl (R_alloc rfl Try.zeroValue3) ?_;clear F fa;intro fa w15 F hw
   obtain ⟨n12,hn⟩ : ∃ n,n = w14.heap.size:=⟨_,rfl⟩
   rw [← hn] at F
   have s12 : w14.heap.size ≤ n12:=Nat.le_of_eq hn.symm
   have l12_E : w.heap.size ≤ n12:=by rw [hn];exact E.size
   have l12_E9 : wM.heap.size ≤ n12:=by rw [hn];exact E9.size
   have m12_3 : n3 < n12:=by rw [hn];exact blk_lt q3
   have m12_7 : n7 < n12:=by rw [hn];exact blk_lt q7
   have m12_8 : n8 < n12:=by rw [hn];exact blk_lt q8
   have m12_9 : n9 < n12:=by rw [hn];exact blk_lt q9
   have m12_10 : n10 < n12:=by rw [hn];exact blk_lt q10
   have m12_11 : n11 < n12:=by rw [hn];exact blk_lt q11
   replace q3:=keep_alloc hw q3
   replace q7:=keep_alloc hw q7
   replace q8:=keep_alloc hw q8
   replace q9:=keep_alloc hw q9
   replace q10:=keep_alloc hw q10
   replace q11:=keep_alloc hw q11
   replace E:=ext_alloc E hw
   replace E9:=ext_alloc E9 hw
   have q12:=new_one hw rfl hn
   clear hw hn
   refine sq_to rfl rfl (R_store rfl (F.at rfl) (F.at rfl) rfl (by kernel_rfl) ((cells_of_block q12 0).trans (get0)) (free_of_block q12 0)) ?_;intro w16 hw
   replace q3:=keep_cell hw q3 (by omega)
   replace q7:=keep_cell hw q7 (by omega)
   replace q8:=keep_cell hw q8 (by omega)
   replace q9:=keep_cell hw q9 (by omega)
   replace q10:=keep_cell hw q10 (by omega)
   replace q11:=keep_cell hw q11 (by omega)
   replace q12:=put_cell hw q12 (by simp only [List.setIfInBounds_toArray,lsQ,lzQ];exact rfl)
   replace E:=ext_cell E hw (fun h=>by first | exact absurd h (by omega) | simp)
   replace E9:=ext_cell E9 hw (fun h=>by first | exact absurd h (by omega) | simp)
   clear hw
   refine wpList_nil ?_
   refine hK17 _ _ ?_
   clear hK17
   refine wp_seq_k fun K18 hK18=>?_
   refine wp_region_lit ?_
   refine F.mv ?_;clear F fa;intro fa F
   refine F.vl (R_makeFunc rfl (mapsN mp0) (mapsN (mpS (F.at rfl) (mpS (F.at rfl) (mpS (F.at rfl) (mpS (F.at rfl) mp0)))))) ?_;clear F fa;intro fa F
   have hsl : SlAt [] w16 ma 4 T.length (fun i=>tubR (val (T.getD i []))):=slAt_of_rows (row:=fun t : List Int=>tubR (val t)) (hrm.out.ext E9 (by simpa using l10_EM)) []
   refine sq_call F rfl (by decide) rfl (R_callV rfl rfl Try.call72 (mpS (F.at rfl) (mpS (F.at rfl) mp0))) (containsF_any ls 73 #[.pointer (some ⟨n8,0,none⟩),.pointer (some ⟨n9,0,none⟩),.pointer (some ⟨n11,0,none⟩),.pointer (some ⟨n12,0,none⟩)] (fun l=>!alkE x l.toNat (val (T.getD j [])) (val (T.getD k []))) b d _ (HQ.out.ext E (by simp)) hl4 Try.call73 (fun W e n hn=>(by obtain ⟨h0,h1⟩:=HM.out.2.1 n hn;have hm:=most1_ok x HV.out T HT.out ma mc n8 n9 n11 n12 j k n.toNat (by omega) (by omega) (by omega) W ((HX.out.ext E).ext e) (e.keep0 q8) (e.keep0 q9) (e.keep0 q11) (e.keep0 q12) (slAt_ext hsl e) (by omega);rw [show ((n.toNat : Nat) : Int) = n by omega] at hm;exact hm))) fun e w17 hR=>?_
   obtain ⟨rfl,e9⟩:=hR
   refine ⟨_,rfl,?_⟩;clear F fa;intro fa F
   replace q3:=(e9).keep0 q3
   replace q7:=(e9).keep0 q7
   replace q8:=(e9).keep0 q8
   replace q9:=(e9).keep0 q9
   replace q10:=(e9).keep0 q10
   replace q11:=(e9).keep0 q11
   replace q12:=(e9).keep0 q12
   replace E:=ext_same E (e9)
   replace E9:=ext_same E9 (e9)
   clear e9
   refine F.vl (R_not rfl (F.at rfl)) ?_;clear F fa;intro fa F
   refine wpList_nil ?_
   have hpe : (!(ls.any fun l=>!alkE x l.toNat (val (T.getD j [])) (val (T.getD k [])))) = p j k:=by rw [HP.out];rfl
   rw [hpe] at F
   have hfl:=fnK_lt p j k (by omega)
   refine hK18 _ _ ?_
   clear hK18
   refine cd_b F rfl (fun hc38=>?_) (fun hc38=>?_)
   ·skip
    refine wp_region_st 7 follows (by kernel_rfl) fun w18 hh eh=>?_
    replace q3:=keep_same hh q3
    replace q7:=keep_same hh q7
    replace q8:=keep_same hh q8
    replace q9:=keep_same hh q9
    replace q10:=keep_same hh q10
    replace q11:=keep_same hh q11
    replace q12:=keep_same hh q12
    replace E:=ext_same E eh
    replace E9:=ext_same E9 eh
    clear hh eh
    refine F.sv (R_load rfl (F.at rfl) Try.underlying3 rfl ((cells_of_block q11 0).trans (get0))) ?_;clear F fa;intro fa F
    refine F.sv (R_ixArr (n:=6) (sz:=1) rfl (F.at rfl) (F.at rfl) Try.underlying105 (by kernel_rfl) (by omega) (by omega)) ?_;clear F fa;intro fa F
    refine F.sv (R_load rfl (F.at rfl) Try.underlying104 rfl (six_at q10 (k:=j) rfl (by omega))) ?_;clear F fa;intro fa F
    rw [show finF p T.length j k j = ((fnK p j k : Nat) : Int) by simp [finF]] at F
    refine F.sv (R_load rfl (F.at rfl) Try.underlying3 rfl ((cells_of_block q12 0).trans (get0))) ?_;clear F fa;intro fa F
    refine F.sv ((R_shl rfl (ev_c fa _) (F.at rfl))) ?_;clear F fa;intro fa F
    rw [shl8 k (by omega)] at F
    refine F.sv ((R_or rfl (F.at rfl) (F.at rfl))) ?_;clear F fa;intro fa F
    rw [or8 _ hfl k (by omega)] at F
    refine F.sv (R_ixArr (n:=6) (sz:=1) rfl (F.at rfl) (F.at rfl) Try.underlying105 (by kernel_rfl) (by omega) (by omega)) ?_;clear F fa;intro fa F
    refine wpStill_nil ?_
    refine sq_to rfl rfl (R_store rfl (F.at rfl) (F.at rfl) rfl (by kernel_rfl) (six_at q10 (k:=j) rfl (by omega)) (free_of_block q10 _)) ?_;intro w19 hw
    replace q3:=keep_cell hw q3 (by omega)
    replace q7:=keep_cell hw q7 (by omega)
    replace q8:=keep_cell hw q8 (by omega)
    replace q9:=keep_cell hw q9 (by omega)
    replace q10:=put_six hw q10 (k:=j) rfl (by omega)
    replace q11:=keep_cell hw q11 (by omega)
    replace q12:=keep_cell hw q12 (by omega)
    replace E:=ext_cell E hw (fun h=>by first | exact absurd h (by omega) | simp)
    replace E9:=ext_cell E9 hw (fun h=>by first | exact absurd h (by omega) | simp)
    clear hw
    rw [finF_yes p hc38] at q10
    refine wpList_nil ?_
    refine hK16 _ _ ?_
    clear hK16
    refine wp_region_lit ?_
    refine F.vl (R_add rfl (F.at rfl) (ev_c fa _) (by omega) (by omega)) ?_;clear F fa;intro fa F
    refine F.mv ?_;clear F fa;intro fa F
    refine wpList_nil ?_
    show _ ∧ _
    exact ⟨by omega,_,⟨rfl,E,E9,q3,q7,q8,q9,q10,q11⟩,F.sub (.c 32 rfl (.c 2 rfl (.c 7 rfl (.c 8 rfl (.c 9 rfl (.c 10 rfl (.c 11 rfl (.c 26 rfl (.c 27 rfl (.c 31 rfl .n))))))))))⟩
   ·skip
    rw [finF_no p hc38] at q10
    refine wp_skip ?_
    refine hK16 _ _ ?_
    clear hK16
    refine wp_region_lit ?_
    refine F.vl (R_add rfl (F.at rfl) (ev_c fa _) (by omega) (by omega)) ?_;clear F fa;intro fa F
    refine F.mv ?_;clear F fa;intro fa F
    refine wpList_nil ?_
    show _ ∧ _
    exact ⟨by omega,_,⟨rfl,E,E9,q3,q7,q8,q9,q10,q11⟩,F.sub (.c 32 rfl (.c 2 rfl (.c 7 rfl (.c 8 rfl (.c 9 rfl (.c 10 rfl (.c 11 rfl (.c 26 rfl (.c 27 rfl (.c 31 rfl .n))))))))))⟩
  ·skip
   refine wp_exit ?_
   rw [show k = T.length by omega,finF_next] at q10
   refine hK11 _ _ ?_
   clear hK11
   refine wp_region_lit ?_
   refine F.vl (R_add rfl (F.at rfl) (ev_c fa _) (by omega) (by omega)) ?_;clear F fa;intro fa F
   refine F.mv ?_;clear F fa;intro fa F
   refine wpList_nil ?_
   show _ ∧ _
   exact ⟨by omega,_,⟨rfl,E,E9,q3,q7,q8,q9,q10⟩,F.sub (.c 27 rfl (.c 2 rfl (.c 7 rfl (.c 8 rfl (.c 9 rfl (.c 10 rfl (.c 26 rfl .n)))))))⟩
 ·skip
  refine wp_exit ?_
  rw [show j = T.length by omega] at q10
  refine hK7 _ _ ?_
  clear hK7
  refine wp_seq_k fun K19 hK19=>?_
  refine wp_region_lit ?_
  refine F.vl (R_assign rfl (ev_c fa _)) ?_;clear F fa;intro fa F
  refine wpList_nil ?_
  clear E9
  obtain ⟨M2,hM2⟩ : ∃ M2,M2 = 2 ^ T.length:=⟨_,rfl⟩
  have hM64 : M2 ≤ 64:=by rw [hM2];exact pow_lt7 _ (by omega)
  rw [show (0 : Int) = ((bestK p T.length 0 : Nat) : Int) from rfl] at F
  refine hK19 _ _ ?_
  clear hK19
  refine wp_seq_k fun K20 hK20=>?_
  refine wp_label ?_
  refine hK20 _ _ ?_
  clear hK20
  refine wp_seq_k fun K21 hK21=>?_
  refine wp_seq_k fun K22 hK22=>?_
  refine wp_region_lit ?_
  refine F.vl (R_load rfl (F.at rfl) Try.underlying102 rfl ((cells_of_block q9 0).trans (get0))) ?_;clear F fa;intro fa F
  refine F.vl (R_len rfl rfl (F.at rfl) Try.underlying102) ?_;clear F fa;intro fa F
  refine F.vl ((R_shl rfl (ev_c fa _) (F.at rfl))) ?_;clear F fa;intro fa F
  rw [shl8 T.length (by omega),← hM2] at F
  refine F.vl (R_move rfl (ev_c fa _)) ?_;clear F fa;intro fa F
  rw [show (0 : Int) = ((0 : Nat) : Int) from rfl] at F
  refine wpList_nil ?_
  refine hK22 _ _ ?_
  clear hK22
  refine wp_block ?_
  have F0:=F.sub (.c 7 rfl (.c 10 rfl (.c 50 rfl .n)))
  refine lp_for F0 (M2) (fun s Lv W=>Lv = [(13,.int .u8 ((bestK p T.length s : Nat) : Int)),(51,.int .u8 ((s : Nat) : Int))] ∧ Ext [] w W ∧ W.heap[n3]? = some (.cells #[.int .i64 x.B,.slice x.da x.D.length x.dc,.slice x.la x.L.length x.lc,.int .i64 x.tol] 24 (0,0)) ∧ W.heap[n7]? = some (.cells #[.int .i64 0] 35 (0,0)) ∧ W.heap[n8]? = some (.cells #[.int .i64 x.B,.slice x.da x.D.length x.dc,.slice x.la x.L.length x.lc,.int .i64 x.tol] 80 (0,0)) ∧ W.heap[n9]? = some (.cells #[.slice ma T.length mc] 102 (0,0)) ∧ W.heap[n10]? = some (.cells (sixC (finF p T.length T.length 0)) 105 (0,0))) ⟨_,⟨rfl,E,q3,q7,q8,q9,q10⟩,F.sub (.c 13 rfl (.c 51 rfl (.c 7 rfl (.c 10 rfl (.c 50 rfl .n)))))⟩ ?_
  clear F F0
  clear E q3 q7 q8 q9 q10
  rintro s _ fa w20 hi3 ⟨rfl,E,q3,q7,q8,q9,q10⟩ F
  refine wp_seq_k fun K23 hK23=>?_
  have hbl:=bestK_lt p T.length s (by omega)
  refine wp_region_lit ?_
  refine F.vl (R_lss rfl (F.at rfl) (F.at rfl)) ?_;clear F fa;intro fa F
  refine wpList_nil ?_
  refine hK23 _ _ ?_
  clear hK23
  refine wp_seq_k fun K24 hK24=>?_
  refine cd_if F rfl (fun hc52=>?_) (fun hc52=>?_)
  ·skip
   refine wp_skip ?_
   refine hK24 _ _ ?_
   clear hK24
   refine wp_seq_k fun K25 hK25=>?_
   refine wp_block ?_
   refine wp_seq_k fun K26 hK26=>?_
   refine wp_region_lit ?_
   refine F.mv ?_;clear F fa;intro fa F
   refine F.as ?_;clear F fa;intro fa F
   refine wpList_nil ?_
   refine hK26 _ _ ?_
   clear hK26
   refine wp_seq_k fun K27 hK27=>?_
   refine wp_seq_k fun K28 hK28=>?_
   refine wp_region_lit ?_
   refine F.mv ?_;clear F fa;intro fa F
   refine sq_call F rfl (by decide) rfl (R_callV rfl rfl Try.call75 (mpS (F.at rfl) mp0)) (list_ok s (by omega) _) fun e w21 hR=>?_
   obtain ⟨sa,sc,rfl,os,e9⟩:=hR
   refine ⟨_,rfl,?_⟩;clear F fa;intro fa F
   replace q3:=(e9).keep0 q3
   replace q7:=(e9).keep0 q7
   replace q8:=(e9).keep0 q8
   replace q9:=(e9).keep0 q9
   replace q10:=(e9).keep0 q10
   replace E:=ext_same E (e9)
   clear e9
   obtain ⟨wA,hwA⟩ : ∃ wA,wA = w21:=⟨_,rfl⟩
   have EA : Ext [] wA w21:=by rw [hwA];exact Ext.refl _ _
   have HSs:=Lib.hid (slAt_of_ivs os rfl [] (by simp))
   rw [← hwA] at HSs
   have RA:=Lib.hid (rows_of_ivs os rfl)
   rw [← hwA] at RA
   clear os
   have hsb:=Lib.hid (setList_bd s (by omega))
   have hsl6:=setList_le s (by omega)
   refine F.vl (R_len rfl rfl (F.at rfl) Try.underlying25) ?_;clear F fa;intro fa F
   refine F.vl (R_move rfl (ev_c fa _)) ?_;clear F fa;intro fa F
   refine wpList_nil ?_
   refine hK28 _ _ ?_
   clear hK28
   refine wp_block ?_
   have F0:=F.sub (.c 7 rfl (.c 10 rfl (.c 13 rfl (.c 14 rfl (.c 50 rfl (.c 51 rfl (.c 55 rfl (.c 56 rfl .n))))))))
   refine lp_for F0 ((setList s).length) (fun i Lv W=>Lv = [(57,.int .i64 ((i : Nat) : Int))] ∧ Ext [] w W ∧ Ext [] wA W ∧ W.heap[n3]? = some (.cells #[.int .i64 x.B,.slice x.da x.D.length x.dc,.slice x.la x.L.length x.lc,.int .i64 x.tol] 24 (0,0)) ∧ W.heap[n7]? = some (.cells #[.int .i64 0] 35 (0,0)) ∧ W.heap[n8]? = some (.cells #[.int .i64 x.B,.slice x.da x.D.length x.dc,.slice x.la x.L.length x.lc,.int .i64 x.tol] 80 (0,0)) ∧ W.heap[n9]? = some (.cells #[.slice ma T.length mc] 102 (0,0)) ∧ W.heap[n10]? = some (.cells (sixC (finF p T.length T.length 0)) 105 (0,0)) ∧ ∀ j,j < i → subB s (finS p T.length ((setList s).getD j 0).toNat) = true) ⟨_,⟨rfl,E,EA,q3,q7,q8,q9,q10,(fun j h=>by omega)⟩,F.sub (.c 57 rfl (.c 7 rfl (.c 10 rfl (.c 13 rfl (.c 14 rfl (.c 50 rfl (.c 51 rfl (.c 55 rfl (.c 56 rfl .n)))))))))⟩ ?_
   clear F F0
   clear E EA q3 q7 q8 q9 q10
   rintro i _ fa w22 hi4 ⟨rfl,E,EA,q3,q7,q8,q9,q10,hoks⟩ F
   refine wp_seq_k fun K29 hK29=>?_
   refine wp_region_lit ?_
   refine F.vl (R_lss rfl (F.at rfl) (F.at rfl)) ?_;clear F fa;intro fa F
   refine wpList_nil ?_
   refine hK29 _ _ ?_
   clear hK29
   refine wp_seq_k fun K30 hK30=>?_
   refine cd_if F rfl (fun hc58=>?_) (fun hc58=>?_)
   ·skip
    refine wp_skip ?_
    refine hK30 _ _ ?_
    clear hK30
    refine wp_seq_k fun K31 hK31=>?_
    refine wp_block ?_
    refine wp_seq_k fun K32 hK32=>?_
    refine wp_region_lit ?_
    obtain ⟨xb33,xo33,xa33,xr33⟩:=HSs.out i (by omega)
    refine F.vl (R_ixSlice (sz:=1) rfl ((F.at rfl).trans (xa33 _ _)) (F.at rfl) Try.underlying25 (by kernel_rfl) (by omega) (by omega)) ?_;clear F fa;intro fa F
    refine F.vl (R_load rfl (F.at rfl) Try.underlying3 rfl (xr33 _ EA 0 _ rfl)) ?_;clear F fa;intro fa F
    refine F.as ?_;clear F fa;intro fa F
    refine wpList_nil ?_
    refine hK32 _ _ ?_
    clear hK32
    refine wp_seq_k fun K34 hK34=>?_
    obtain ⟨hn0,hn6⟩:=hsb.out _ (getD_mem (l:=setList s) (i:=i) 0 (by omega))
    refine wp_region_lit ?_
    refine F.mv ?_;clear F fa;intro fa F
    refine F.mv ?_;clear F fa;intro fa F
    refine F.vl (R_ixArr (n:=6) (sz:=1) rfl (F.at rfl) (F.at rfl) Try.underlying105 (by kernel_rfl) (by omega) (by omega)) ?_;clear F fa;intro fa F
    refine F.vl (R_load rfl (F.at rfl) Try.underlying104 rfl (six_at q10 (k:=((setList s).getD i 0).toNat) rfl (by omega))) ?_;clear F fa;intro fa F
    rw [finF_end] at F
    refine F.vl ((R_andNot rfl (F.at rfl) (F.at rfl))) ?_;clear F fa;intro fa F
    refine F.vl (R_neqD rfl (F.at rfl) (ev_c fa _)) ?_;clear F fa;intro fa F
    refine wpList_nil ?_
    have hnt:=not8 s (by omega) _ (finS_lt p (n:=T.length) (by omega) ((setList s).getD i 0).toNat)
    refine hK34 _ _ ?_
    clear hK34
    refine cd_if F rfl (fun hc66=>?_) (fun hc66=>?_)
    ·skip
     have hsub : subB s (finS p T.length ((setList s).getD i 0).toNat) = false:=by rw [← hnt];exact decide_eq_false hc66
     rw [bestK_bad p (okS_bad p (show i < (setList s).length by omega) hsub)] at F
     refine wp_exit ?_
     refine hK25 _ _ ?_
     clear hK25
     refine wp_region_lit ?_
     refine F.vl ((R_wadd rfl (F.at rfl) (ev_c fa _))) ?_;clear F fa;intro fa F
     rw [add8 s (by omega)] at F
     refine F.mv ?_;clear F fa;intro fa F
     refine wpList_nil ?_
     show _ ∧ _
     exact ⟨by omega,_,⟨rfl,E,q3,q7,q8,q9,q10⟩,F.sub (.c 13 rfl (.c 51 rfl (.c 7 rfl (.c 10 rfl (.c 50 rfl .n)))))⟩
    ·skip
     have hsub : subB s (finS p T.length ((setList s).getD i 0).toNat) = true:=by rw [← hnt];exact decide_eq_true (Classical.not_not.1 hc66)
     refine wp_skip ?_
     refine hK31 _ _ ?_
     clear hK31
     refine wp_region_lit ?_
     refine F.vl (R_add rfl (F.at rfl) (ev_c fa _) (by omega) (by omega)) ?_;clear F fa;intro fa F
     refine F.mv ?_;clear F fa;intro fa F
     refine wpList_nil ?_
     show _ ∧ _
     exact ⟨by omega,_,⟨rfl,E,EA,q3,q7,q8,q9,q10,(fun j h=>by rcases Nat.lt_succ_iff_lt_or_eq.1 h with h | rfl;(· exact hoks j h);(· exact hsub))⟩,F.sub (.c 57 rfl (.c 7 rfl (.c 10 rfl (.c 13 rfl (.c 14 rfl (.c 50 rfl (.c 51 rfl (.c 55 rfl (.c 56 rfl .n)))))))))⟩
   ·skip
    refine wp_exit ?_
    refine hK27 _ _ ?_
    clear hK27
    refine wp_seq_k fun K35 hK35=>?_
    have hok:=okS_all p (n:=T.length) (s:=s) (fun j hj=>hoks j (by omega))
    refine wp_region_lit ?_
    refine F.mv ?_;clear F fa;intro fa F
    refine sq_call F rfl (by decide) rfl (R_callV rfl rfl Try.call76 (mpS (F.at rfl) mp0)) (count_ok s (by omega) _) fun e w23 hR=>?_
    obtain ⟨rfl,e9⟩:=hR
    refine ⟨_,rfl,?_⟩;clear F fa;intro fa F
    replace q3:=(e9).keep0 q3
    replace q7:=(e9).keep0 q7
    replace q8:=(e9).keep0 q8
    replace q9:=(e9).keep0 q9
    replace q10:=(e9).keep0 q10
    replace E:=ext_same E (e9)
    replace EA:=ext_same EA (e9)
    clear e9
    refine F.mv ?_;clear F fa;intro fa F
    refine sq_call F rfl (by decide) rfl (R_callV rfl rfl Try.call76 (mpS (F.at rfl) mp0)) (count_ok (bestK p T.length s) hbl _) fun e w24 hR=>?_
    obtain ⟨rfl,e9⟩:=hR
    refine ⟨_,rfl,?_⟩;clear F fa;intro fa F
    replace q3:=(e9).keep0 q3
    replace q7:=(e9).keep0 q7
    replace q8:=(e9).keep0 q8
    replace q9:=(e9).keep0 q9
    replace q10:=(e9).keep0 q10
    replace E:=ext_same E (e9)
    replace EA:=ext_same EA (e9)
    clear e9
    refine F.vl (R_gtr rfl (F.at rfl) (F.at rfl)) ?_;clear F fa;intro fa F
    refine F.mv ?_;clear F fa;intro fa F
    by_cases hg1 : (((setLen (bestK p T.length s) : Nat) : Int) < ((setLen s : Nat) : Int))
    ·skip
     replace F:=F.re (k:=73) rfl (congrArg Value.bool (decide_eq_true hg1))
     refine sq_no F rfl (by decide) (wantF F rfl rfl (by decide) rfl (by decide)) ?_;clear F fa;intro fa F
     refine sq_no F rfl (by decide) (wantF F rfl rfl (by decide) rfl (by decide)) ?_;clear F fa;intro fa F
     refine sq_no F rfl (by decide) (wantF F rfl rfl (by decide) rfl (by decide)) ?_;clear F fa;intro fa F
     refine sq_no F rfl (by decide) (wantF F rfl rfl (by decide) rfl (by decide)) ?_;clear F fa;intro fa F
     refine sq_no F rfl (by decide) (wantF F rfl rfl (by decide) rfl (by decide)) ?_;clear F fa;intro fa F
     refine sq_no F rfl (by decide) (wantF F rfl rfl (by decide) rfl (by decide)) ?_;clear F fa;intro fa F
     refine sq_no F rfl (by decide) (wantU F rfl rfl (by decide) rfl) ?_;clear F fa;intro fa F
     refine sq_no F rfl (by decide) (wantU F rfl rfl (by decide) rfl) ?_;clear F fa;intro fa F
     refine sq_no F rfl (by decide) (wantU F rfl rfl (by decide) rfl) ?_;clear F fa;intro fa F
     refine sq_no F rfl (by decide) (wantU F rfl rfl (by decide) rfl) ?_;clear F fa;intro fa F
     refine sq_no F rfl (by decide) (wantU F rfl rfl (by decide) rfl) ?_;clear F fa;intro fa F
     refine sq_no F rfl (by decide) (wantU F rfl rfl (by decide) rfl) ?_;clear F fa;intro fa F
     refine sq_no F rfl (by decide) (wantF F rfl rfl (by decide) rfl (by decide)) ?_;clear F fa;intro fa F
     refine F.vl (R_pickT rfl (F.at rfl) (ev_c fa _)) ?_;clear F fa;intro fa F
     refine wpList_nil ?_
     refine hK35 _ _ ?_
     clear hK35
     try rw [bestK_no p (by omega) (fun h=>absurd h (by omega))] at F
     refine cd_T F rfl ?_
     refine wp_region_lit ?_
     refine F.mv ?_;clear F fa;intro fa F
     refine F.as ?_;clear F fa;intro fa F
     replace F:=F.re (k:=13) rfl (congrArg (fun z : Nat=>Value.int .u8 ((z : Nat) : Int)) (bestK_yes p hok (by first | exact .inl (by omega) | exact .inr ⟨by omega,hc87⟩)))
     refine wpList_nil ?_
     refine hK25 _ _ ?_
     clear hK25
     refine wp_region_lit ?_
     refine F.vl ((R_wadd rfl (F.at rfl) (ev_c fa _))) ?_;clear F fa;intro fa F
     rw [add8 s (by omega)] at F
     refine F.mv ?_;clear F fa;intro fa F
     refine wpList_nil ?_
     show _ ∧ _
     exact ⟨by omega,_,⟨rfl,E,q3,q7,q8,q9,q10⟩,F.sub (.c 13 rfl (.c 51 rfl (.c 7 rfl (.c 10 rfl (.c 50 rfl .n)))))⟩
    ·skip
     replace F:=F.re (k:=73) rfl (congrArg Value.bool (decide_eq_false hg1))
     refine F.mv ?_ (hw:=(wantT F rfl rfl (by decide) rfl));clear F fa;intro fa F
     refine sq_call F rfl (by decide) (wantT F rfl rfl (by decide) rfl) (R_callV rfl rfl Try.call76 (mpS (F.at rfl) mp0)) (count_ok s (by omega) _) fun e w25 hR=>?_
     obtain ⟨rfl,e9⟩:=hR
     refine ⟨_,rfl,?_⟩;clear F fa;intro fa F
     replace q3:=(e9).keep0 q3
     replace q7:=(e9).keep0 q7
     replace q8:=(e9).keep0 q8
     replace q9:=(e9).keep0 q9
     replace q10:=(e9).keep0 q10
     replace E:=ext_same E (e9)
     replace EA:=ext_same EA (e9)
     clear e9
     refine F.mv ?_ (hw:=(wantT F rfl rfl (by decide) rfl));clear F fa;intro fa F
     refine sq_call F rfl (by decide) (wantT F rfl rfl (by decide) rfl) (R_callV rfl rfl Try.call76 (mpS (F.at rfl) mp0)) (count_ok (bestK p T.length s) hbl _) fun e w26 hR=>?_
     obtain ⟨rfl,e9⟩:=hR
     refine ⟨_,rfl,?_⟩;clear F fa;intro fa F
     replace q3:=(e9).keep0 q3
     replace q7:=(e9).keep0 q7
     replace q8:=(e9).keep0 q8
     replace q9:=(e9).keep0 q9
     replace q10:=(e9).keep0 q10
     replace E:=ext_same E (e9)
     replace EA:=ext_same EA (e9)
     clear e9
     refine F.vl (R_eqlD rfl (F.at rfl) (F.at rfl)) ?_ (hw:=(wantT F rfl rfl (by decide) rfl));clear F fa;intro fa F
     refine F.mv ?_ (hw:=(wantT F rfl rfl (by decide) rfl));clear F fa;intro fa F
     by_cases hg2 : (((setLen s : Nat) : Int) = ((setLen (bestK p T.length s) : Nat) : Int))
     ·skip
      replace F:=F.re (k:=79) rfl (congrArg Value.bool (decide_eq_true hg2))
      refine F.mv ?_ (hw:=(wantT F rfl rfl (by decide) rfl));clear F fa;intro fa F
      refine sq_call F rfl (by decide) (wantT F rfl rfl (by decide) rfl) (R_callV rfl rfl Try.call75 (mpS (F.at rfl) mp0)) (list_ok s (by omega) _) fun e w27 hR=>?_
      obtain ⟨la,lc,rfl,ol,e9⟩:=hR
      refine ⟨_,rfl,?_⟩;clear F fa;intro fa F
      replace q3:=(e9).keep0 q3
      replace q7:=(e9).keep0 q7
      replace q8:=(e9).keep0 q8
      replace q9:=(e9).keep0 q9
      replace q10:=(e9).keep0 q10
      replace E:=ext_same E (e9)
      replace EA:=ext_same EA (e9)
      clear e9
      have RL:=Lib.hid (rows_of_ivs ol rfl)
      clear ol
      obtain ⟨wB,hwB⟩ : ∃ wB,wB = w27:=⟨_,rfl⟩
      have EB : Ext [] wB w27:=by rw [hwB];exact Ext.refl _ _
      rw [← hwB] at RL
      refine F.mv ?_ (hw:=(wantT F rfl rfl (by decide) rfl));clear F fa;intro fa F
      refine sq_call F rfl (by decide) (wantT F rfl rfl (by decide) rfl) (R_callV rfl rfl Try.call75 (mpS (F.at rfl) mp0)) (list_ok (bestK p T.length s) hbl _) fun e w28 hR=>?_
      obtain ⟨ka,kc,rfl,ok,e9⟩:=hR
      refine ⟨_,rfl,?_⟩;clear F fa;intro fa F
      replace q3:=(e9).keep0 q3
      replace q7:=(e9).keep0 q7
      replace q8:=(e9).keep0 q8
      replace q9:=(e9).keep0 q9
      replace q10:=(e9).keep0 q10
      replace E:=ext_same E (e9)
      replace EA:=ext_same EA (e9)
      replace EB:=ext_same EB (e9)
      clear e9
      have hk6:=setList_le _ hbl
      refine sq_call F rfl (by decide) (wantT F rfl rfl (by decide) rfl) (R_callV rfl rfl Try.call77 (mpS (F.at rfl) (mpS (F.at rfl) mp0))) (compare_any (setList s) (setList (bestK p T.length s)) la ka lc kc _ (RL.out.ext EB (by simp)) (rows_of_ivs ok rfl) (by omega) (by omega)) fun e w29 hR=>?_
      obtain ⟨rfl,e9⟩:=hR
      refine ⟨_,rfl,?_⟩;clear F fa;intro fa F
      replace q3:=(e9).keep0 q3
      replace q7:=(e9).keep0 q7
      replace q8:=(e9).keep0 q8
      replace q9:=(e9).keep0 q9
      replace q10:=(e9).keep0 q10
      replace E:=ext_same E (e9)
      replace EA:=ext_same EA (e9)
      replace EB:=ext_same EB (e9)
      clear e9
      refine F.vl (R_lss rfl (F.at rfl) (ev_c fa _)) ?_ (hw:=(wantT F rfl rfl (by decide) rfl));clear F fa;intro fa F
      refine F.vl (R_pickT rfl (F.at rfl) (F.at rfl)) ?_ (hw:=(wantT F rfl rfl (by decide) rfl));clear F fa;intro fa F
      refine F.vl (R_pickF rfl (F.at rfl) (F.at rfl)) ?_;clear F fa;intro fa F
      refine wpList_nil ?_
      refine hK35 _ _ ?_
      clear hK35
      try rw [bestK_no p (by omega) (fun h=>absurd h (by omega))] at F
      refine cd_if F rfl (fun hc87=>?_) (fun hc87=>?_)
      ·skip
       refine wp_region_lit ?_
       refine F.mv ?_;clear F fa;intro fa F
       refine F.as ?_;clear F fa;intro fa F
       replace F:=F.re (k:=13) rfl (congrArg (fun z : Nat=>Value.int .u8 ((z : Nat) : Int)) (bestK_yes p hok (by first | exact .inl (by omega) | exact .inr ⟨by omega,hc87⟩)))
       refine wpList_nil ?_
       refine hK25 _ _ ?_
       clear hK25
       refine wp_region_lit ?_
       refine F.vl ((R_wadd rfl (F.at rfl) (ev_c fa _))) ?_;clear F fa;intro fa F
       rw [add8 s (by omega)] at F
       refine F.mv ?_;clear F fa;intro fa F
       refine wpList_nil ?_
       show _ ∧ _
       exact ⟨by omega,_,⟨rfl,E,q3,q7,q8,q9,q10⟩,F.sub (.c 13 rfl (.c 51 rfl (.c 7 rfl (.c 10 rfl (.c 50 rfl .n)))))⟩
      ·skip
       rw [bestK_no p (by omega) (fun h=>by first | exact hc87 | exact absurd h (by omega))] at F
       refine wp_skip ?_
       refine hK25 _ _ ?_
       clear hK25
       refine wp_region_lit ?_
       refine F.vl ((R_wadd rfl (F.at rfl) (ev_c fa _))) ?_;clear F fa;intro fa F
       rw [add8 s (by omega)] at F
       refine F.mv ?_;clear F fa;intro fa F
       refine wpList_nil ?_
       show _ ∧ _
       exact ⟨by omega,_,⟨rfl,E,q3,q7,q8,q9,q10⟩,F.sub (.c 13 rfl (.c 51 rfl (.c 7 rfl (.c 10 rfl (.c 50 rfl .n)))))⟩
     ·skip
      replace F:=F.re (k:=79) rfl (congrArg Value.bool (decide_eq_false hg2))
      refine sq_no F rfl (by decide) (wantF F rfl rfl (by decide) rfl (by decide)) ?_;clear F fa;intro fa F
      refine sq_no F rfl (by decide) (wantF F rfl rfl (by decide) rfl (by decide)) ?_;clear F fa;intro fa F
      refine sq_no F rfl (by decide) (wantF F rfl rfl (by decide) rfl (by decide)) ?_;clear F fa;intro fa F
      refine sq_no F rfl (by decide) (wantF F rfl rfl (by decide) rfl (by decide)) ?_;clear F fa;intro fa F
      refine sq_no F rfl (by decide) (wantF F rfl rfl (by decide) rfl (by decide)) ?_;clear F fa;intro fa F
      refine sq_no F rfl (by decide) (wantF F rfl rfl (by decide) rfl (by decide)) ?_;clear F fa;intro fa F
      refine F.vl (R_pickF rfl (F.at rfl) (ev_c fa _)) ?_ (hw:=(wantT F rfl rfl (by decide) rfl));clear F fa;intro fa F
      refine F.vl (R_pickF rfl (F.at rfl) (F.at rfl)) ?_;clear F fa;intro fa F
      refine wpList_nil ?_
      refine hK35 _ _ ?_
      clear hK35
      try rw [bestK_no p (by omega) (fun h=>absurd h (by omega))] at F
      refine cd_F F rfl ?_
      refine wp_skip ?_
      refine hK25 _ _ ?_
      clear hK25
      refine wp_region_lit ?_
      refine F.vl ((R_wadd rfl (F.at rfl) (ev_c fa _))) ?_;clear F fa;intro fa F
      rw [add8 s (by omega)] at F
      refine F.mv ?_;clear F fa;intro fa F
      refine wpList_nil ?_
      show _ ∧ _
      exact ⟨by omega,_,⟨rfl,E,q3,q7,q8,q9,q10⟩,F.sub (.c 13 rfl (.c 51 rfl (.c 7 rfl (.c 10 rfl (.c 50 rfl .n)))))⟩
  ·skip
   refine wp_exit ?_
   rw [show s = M2 by omega] at F
   refine hK21 _ _ ?_
   clear hK21
   refine wp_seq_k fun K36 hK36=>?_
   refine wp_region_lit ?_
   refine F.mv ?_;clear F fa;intro fa F
   have hEs:=E.size
   refine sq_call F rfl (by decide) rfl (R_callV rfl rfl Try.call75 (mpS (F.at rfl) mp0)) (list_ok (bestK p T.length M2) (bestK_lt p _ _ hM64) _) fun e w30 hR=>?_
   obtain ⟨ra,rc,rfl,oo,e9⟩:=hR
   refine ⟨_,rfl,?_⟩;clear F fa;intro fa F
   replace q3:=(e9).keep0 q3
   replace q7:=(e9).keep0 q7
   replace q8:=(e9).keep0 q8
   replace q9:=(e9).keep0 q9
   replace q10:=(e9).keep0 q10
   replace E:=ext_same E (e9)
   clear e9
   replace oo:=owns_lower oo hEs
   refine F.as ?_;clear F fa;intro fa F
   refine sq_to rfl rfl (R_store rfl (F.at rfl) (ev_c fa _) rfl (by kernel_rfl) ((cells_of_block q7 0).trans (get0)) (free_of_block q7 0)) ?_;intro w31 hw
   replace oo:=owns_cellX hw oo (own_ne_type oo q7 (by decide))
   replace q3:=keep_cell hw q3 (by omega)
   replace q7:=put_cell hw q7 (by simp only [List.setIfInBounds_toArray,lsQ,lzQ];exact rfl)
   replace q8:=keep_cell hw q8 (by omega)
   replace q9:=keep_cell hw q9 (by omega)
   replace q10:=keep_cell hw q10 (by omega)
   replace E:=ext_cell E hw (fun h=>by first | exact absurd h (by omega) | simp)
   clear hw
   refine wpList_nil ?_
   refine hK36 _ _ ?_
   clear hK36
   refine wp_ret ?_
   (try simp only [Exit.inBlock,Exit.then,reduceIte])
   refine rtM_v F ?_
   refine lv_caught ?_
   refine lv_nil (rs_tc F rfl rfl rfl Try.underlying35 rfl q7) ?_
   rw [← hT,show mosR x ls T = setList (bestK p T.length M2) by rw [mosR,← HP.out,hM2]]
   exact ⟨ra,rc,rfl,oo,E⟩
end Go.Proofs.Ytdjeecgddbjbeaa
