/- Parts of a proof: Dmt, Dco. No conditions. -/
import Derived.Test.YtdjeecgddbjbeaaGreatKr8
set_option linter.unusedVariables false
set_option linter.unusedSimpArgs false
namespace Go.Proofs.YtdjeecgddbjbeaaGreat
open Go.RowKit
def sixC (f : Nat → Int) : Array Value:=#[.int .u8 (f 0),.int .u8 (f 1),.int .u8 (f 2),.int .u8 (f 3),.int .u8 (f 4),.int .u8 (f 5)]
theorem six_ix {f : Nat → Int} {i : Int} {k : Nat} (h : i.toNat = k) (hk : k < 6) : (sixC f)[i.toNat]? = some (.int .u8 (f k)):=by
 subst h
 rcases hi : i.toNat with _ | _ | _ | _ | _ | _ | n
 ·rfl
 ·rfl
 ·rfl
 ·rfl
 ·rfl
 ·rfl
 ·omega
theorem six_at {w : World} {b : Nat} {T : TypeId} {fz : Nat × Nat} {f : Nat → Int} (H : w.heap[b]? = some (.cells (sixC f) T fz)) {i : Int} {k : Nat} (h : i.toNat = k) (hk : k < 6) : w.cell? ⟨b,0 + i.toNat * 1,none⟩ = some (.int .u8 (f k)):=by
 rw [cells_of_block H,Nat.zero_add,Nat.mul_one]
 exact six_ix h hk
theorem put_six {w w2 : World} {b : Nat} {T : TypeId} {f : Nat → Int} {i v : Int} (e : w2 = w.setCell ⟨b,0 + i.toNat * 1,none⟩ (.int .u8 v)) (H : w.heap[b]? = some (.cells (sixC f) T (0,0))) {k : Nat} (h : i.toNat = k) (hk : k < 6) : w2.heap[b]? = some (.cells (sixC (upF f k v)) T (0,0)):=by
 refine put_cell e H ?_
 rw [Nat.zero_add,Nat.mul_one,h]
 clear e H h
 match k,hk with
 | 0,_=>rfl
 | 1,_=>rfl
 | 2,_=>rfl
 | 3,_=>rfl
 | 4,_=>rfl
 | 5,_=>rfl
def nrB (x : Vm) (ls : List Int) (T : List (List Int)) (j k : Nat) : Bool:=!(ls.any fun l=>!alkE x l.toNat (val (T.getD j [])) (val (T.getD k [])))
section
variable (p : Nat → Nat → Bool)
def fnK (j : Nat) : Nat → Nat
 | 0=>0
 | k + 1=>if p j k = true then fnK j k ||| 2 ^ k else fnK j k
theorem fnK_lt (j : Nat) : ∀ k,k ≤ 6 → fnK p j k < 64
 | 0,_=>by simp [fnK]
 | k + 1,h=>by
  rw [fnK]
  split
  ·exact or_lt _ (fnK_lt j k (by omega)) k (by omega)
  ·exact fnK_lt j k (by omega)
def finF (n j k : Nat) : Nat → Int:=fun i=>if i < j then ((fnK p i n : Nat) : Int) else if i = j then ((fnK p j k : Nat) : Int) else 0
theorem finF_yes {n j k : Nat} (h : p j k = true) : upF (finF p n j k) j (((fnK p j k ||| 2 ^ k : Nat)) : Int) = finF p n j (k + 1):=by
 funext i
 rw [upF,finF,finF]
 by_cases h1 : i = j
 ·subst h1;simp [fnK,h]
 ·simp [h1]
theorem finF_no {n j k : Nat} (h : p j k = false) : finF p n j k = finF p n j (k + 1):=by
 funext i
 rw [finF,finF,fnK,h];simp
theorem finF_next {n j : Nat} : finF p n j n = finF p n (j + 1) 0:=by
 funext i
 rw [finF,finF]
 by_cases h1 : i = j
 ·subst h1;simp
 ·by_cases h2 : i < j
  ·simp [h2,show i < j + 1 by omega]
  ·simp [h1,h2,show ¬ i < j + 1 by omega,fnK]
theorem finF_zero {n : Nat} : finF p n 0 0 = zf:=by
 funext i
 rw [finF,zf]
 by_cases h : i = 0
 ·simp [h,fnK]
 ·simp [h]
def finS (n i : Nat) : Nat:=if i < n then fnK p i n else 0
theorem finS_lt {n : Nat} (h : n ≤ 6) (i : Nat) : finS p n i < 64:=by
 rw [finS]
 split
 ·exact fnK_lt p i n h
 ·omega
theorem finF_end {n : Nat} (i : Nat) : finF p n n 0 i = ((finS p n i : Nat) : Int):=by
 rw [finF,finS]
 by_cases h : i < n
 ·simp [h]
 ·simp [h,fnK]
def okS (n s : Nat) : Bool:=(setList s).all fun i=>subB s (finS p n i.toNat)
def betS (s b : Nat) : Bool:=decide (setLen b < setLen s) || (decide (setLen s = setLen b) && decide (cmpL (setList s) (setList b) < 0))
def bestK (n : Nat) : Nat → Nat
 | 0=>0
 | s + 1=>if okS p n s && betS s (bestK n s) then s else bestK n s
theorem bestK_lt (n : Nat) : ∀ s,s ≤ 64 → bestK p n s < 64
 | 0,_=>by simp [bestK]
 | s + 1,h=>by
  rw [bestK]
  split
  ·omega
  ·exact bestK_lt n s (by omega)
theorem bestK_bad {n s : Nat} (h : okS p n s = false) : bestK p n s = bestK p n (s + 1):=by rw [bestK,h];simp
theorem bestK_yes {n s : Nat} (h : okS p n s = true) (hb : setLen (bestK p n s) < setLen s ∨ (setLen s = setLen (bestK p n s) ∧ cmpL (setList s) (setList (bestK p n s)) < 0)) : s = bestK p n (s + 1):=by
 rw [bestK,h,betS]
 rcases hb with h1 | ⟨h1,h2⟩ <;> simp [*]
theorem bestK_no {n s : Nat} (hb : ¬ setLen (bestK p n s) < setLen s) (h2 : setLen s = setLen (bestK p n s) → ¬ cmpL (setList s) (setList (bestK p n s)) < 0) : bestK p n s = bestK p n (s + 1):=by
 rw [bestK,betS,if_neg]
 simp only [Bool.and_eq_true,Bool.or_eq_true,decide_eq_true_eq,not_and,not_or]
 exact fun _=>⟨hb,fun h=>h2 h⟩
theorem okS_all {n s : Nat} (h : ∀ i,i < (setList s).length → subB s (finS p n ((setList s).getD i 0).toNat) = true) : okS p n s = true:=by
 rw [okS,List.all_eq_true]
 intro n hn
 obtain ⟨i,hi,rfl⟩:=List.getElem_of_mem hn
 simpa [hi] using h i hi
theorem okS_bad {n s i : Nat} (hi : i < (setList s).length) (h : subB s (finS p n ((setList s).getD i 0).toNat) = false) : okS p n s = false:=by
 rw [okS,List.all_eq_false]
 exact ⟨_,getD_mem 0 hi,by rw [h];decide⟩
end
theorem setList_bd : ∀ s,s < 64 → ∀ n ∈ setList s,0 ≤ n ∧ n < 6:=by decide +kernel
theorem setList_le : ∀ s,s < 64 → (setList s).length ≤ 6:=by decide +kernel
def mosR (x : Vm) (ls : List Int) (T : List (List Int)) : List Int:=setList (bestK (nrB x ls T) T.length (2 ^ T.length))
theorem rows_of_ivs {w : World} {base n c : Nat} {a : Option Addr} {xs : List Int} (h : w.ownsRow base 3 1 (.slice a n c) n (ivs xs)) (hn : n = xs.length) : IsRows w (.slice a n c) 1 (xs.map intRow):=by
 subst hn
 exact rows_of_owns (row:=intRow) (by rw [← ivs_flat];exact h) (fun _=>rfl)
theorem pow_lt7 : ∀ n,n ≤ 6 → 2 ^ n ≤ 64:=by decide
set_option maxRecDepth 100000 in
set_option maxHeartbeats 4000000 in
theorem xMost_ok (x : Vm) (hv : VOk x) (S : List (Value × List Int)) (hs : ∀ p ∈ S,RcpOk x p.2) (h6 : S.length ≤ 6) (ls : List Int) (hll : LmpsOk x ls) (hl4 : ls.length ≤ 1000) (a b : Option Addr) (c d : Nat) (w : World) (h : x.At w) (hl : LolAt w a S) (hq : IsRows w (.slice b ls.length d) 1 (ls.map intRow)) :
  Calls Tryz.prog 31 #[.agg #[.int .i64 x.B,.slice x.da x.D.length x.dc,.slice x.la x.L.length x.lc,.int .i64 x.tol],.slice a S.length c,.slice b ls.length d] w (IntsPost (mosR x ls (S.map (·.2)),0) w):=by
 have E : Ext [] w w:=Ext.refl _ _
 have HX:=Lib.hid h
 have HV:=Lib.hid hv
 have HL:=Lib.hid hl
 have HS:=Lib.hid hs
 have HQ:=Lib.hid hq
 have HM:=Lib.hid hll
 obtain ⟨T,hT⟩ : ∃ T,T = S.map (·.2):=⟨_,rfl⟩
 have hTl : T.length = S.length:=by rw [hT,List.length_map]
 have HT : RowKit.Hid (∀ t ∈ T,TubS (val t)):=Lib.hid (fun t ht=>by
  rw [hT] at ht
  obtain ⟨p,hp,rfl⟩:=List.mem_map.1 ht
  exact (hs p hp).tub)
 obtain ⟨p,hp⟩ : ∃ p,p = nrB x ls T:=⟨_,rfl⟩
 have HP:=Lib.hid hp
 clear h hv hl hs hq hll hp
 refine calls_hasM 92 Tryz.func31 rfl Tryz.ntmps31 (Nat.le_of_ble_eq_true rfl) ?_
 intro fa F
 refine wp_seq_k fun K1 hK1=>?_
 refine wp_region_lit ?_
 refine sq_new F rfl (by decide) rfl (R_box rfl (F.at rfl)) ?_;clear F fa;intro fa w1 F hw
 obtain ⟨n3,hn⟩ : ∃ n,n = w.heap.size:=⟨_,rfl⟩
 rw [← hn] at F
 have s3 : w.heap.size ≤ n3:=Nat.le_of_eq hn.symm
 have l3_E : w.heap.size ≤ n3:=by rw [hn];exact E.size
 replace E:=ext_alloc E hw
 have q3:=new_row hw hn
 clear hw hn
 refine F.vl (R_assign rfl (ev_c fa _)) ?_;clear F fa;intro fa F
 refine sq_new F rfl (by decide) rfl (R_alloc rfl Tryz.zeroValue35) ?_;clear F fa;intro fa w2 F hw
 obtain ⟨n7,hn⟩ : ∃ n,n = w1.heap.size:=⟨_,rfl⟩
 rw [← hn] at F
 have s7 : w1.heap.size ≤ n7:=Nat.le_of_eq hn.symm
 have l7_E : w.heap.size ≤ n7:=by rw [hn];exact E.size
 have m7_3 : n3 < n7:=by rw [hn];exact blk_lt q3
 replace q3:=keep_alloc hw q3
 replace E:=ext_alloc E hw
 have q7:=new_one hw rfl hn
 clear hw hn
 refine wpList_nil ?_
 refine hK1 _ _ ?_
 clear hK1
 refine wp_scope_straight ?_
 refine wp_seq_k fun K2 hK2=>?_
 refine wp_region_lit ?_
 refine sq_defer F rfl rfl (R_defer rfl rfl (mpS (F.at rfl) mp0)) ?_;clear F fa;intro fa F
 refine wpList_nil ?_
 refine hK2 _ _ ?_
 clear hK2
 refine wp_seq_k fun K3 hK3=>?_
 refine wp_region_lit ?_
 refine F.vl (R_loadBlk rfl (F.at rfl) Tryz.underlying24 rfl (by kernel_rfl) q3) ?_;clear F fa;intro fa F
 refine sq_call F rfl (by decide) rfl (R_callV rfl rfl Tryz.call40 (mpS (F.at rfl) mp0)) (begin_ok x HV.out _ (HX.out.ext E)) fun e w3 hR=>?_
 obtain ⟨rfl,e9⟩:=hR
 refine ⟨_,rfl,?_⟩;clear F fa;intro fa F
 replace q3:=(e9).keep0 q3
 replace q7:=(e9).keep0 q7
 replace E:=ext_same E (e9)
 clear e9
 refine sq_new F rfl (by decide) rfl (R_alloc rfl Tryz.zeroValue69) ?_;clear F fa;intro fa w4 F hw
 obtain ⟨n8,hn⟩ : ∃ n,n = w3.heap.size:=⟨_,rfl⟩
 rw [← hn] at F
 have s8 : w3.heap.size ≤ n8:=Nat.le_of_eq hn.symm
 have l8_E : w.heap.size ≤ n8:=by rw [hn];exact E.size
 have m8_3 : n3 < n8:=by rw [hn];exact blk_lt q3
 have m8_7 : n7 < n8:=by rw [hn];exact blk_lt q7
 replace q3:=keep_alloc hw q3
 replace q7:=keep_alloc hw q7
 replace E:=ext_alloc E hw
 have q8:=new_row hw hn
 clear hw hn
 refine sq_to rfl rfl (R_storeRow rfl (F.at rfl) (F.at rfl) (by kernel_rfl) (by first | (simp [Value.oneCell'];done) | (simp [Value.oneCell',id];done)) q8 rfl) ?_;intro w5 hw
 replace q3:=keep_cells hw q3 (by omega)
 replace q7:=keep_cells hw q7 (by omega)
 replace q8:=put_row hw q8 rfl
 replace E:=ext_cells E hw (fun h=>by first | exact absurd h (by omega) | simp)
 clear hw
 refine wpList_nil ?_
 refine hK3 _ _ ?_
 clear hK3
 refine wp_seq_k fun K4 hK4=>?_
 refine wp_region_lit ?_
 refine F.vl (R_loadBlk rfl (F.at rfl) Tryz.underlying69 rfl (by kernel_rfl) q8) ?_;clear F fa;intro fa F
 refine F.mv ?_;clear F fa;intro fa F
 refine sq_call F rfl (by decide) rfl (R_callV rfl rfl Tryz.call56 (mpS (F.at rfl) (mpS (F.at rfl) mp0))) (stuffs_ok x HV.out S HS.out h6 a c _ (HL.out.ext E)) fun e w6 hR=>?_
 obtain ⟨ma,mc,rfl,om,e9⟩:=hR
 refine ⟨_,rfl,?_⟩;clear F fa;intro fa F
 replace q3:=(e9).keep0 q3
 replace q7:=(e9).keep0 q7
 replace q8:=(e9).keep0 q8
 replace E:=ext_same E (e9)
 clear e9
 rw [← hT,← hTl] at om
 rw [← hTl] at F
 have hrm:=Lib.hid (rows_of_owns (row:=fun t : List Int=>tubR (val t)) om (fun _=>rfl))
 clear om
 obtain ⟨wM,hwM⟩ : ∃ wM,wM = w6:=⟨_,rfl⟩
 have EM : Ext [] wM w6:=by rw [hwM];exact Ext.refl _ _
 rw [← hwM] at hrm
 refine sq_new F rfl (by decide) rfl (R_alloc rfl Tryz.zeroValue72) ?_;clear F fa;intro fa w7 F hw
 obtain ⟨n9,hn⟩ : ∃ n,n = w6.heap.size:=⟨_,rfl⟩
 rw [← hn] at F
 have s9 : w6.heap.size ≤ n9:=Nat.le_of_eq hn.symm
 have l9_E : w.heap.size ≤ n9:=by rw [hn];exact E.size
 have l9_EM : wM.heap.size ≤ n9:=by rw [hn];exact EM.size
 have m9_3 : n3 < n9:=by rw [hn];exact blk_lt q3
 have m9_7 : n7 < n9:=by rw [hn];exact blk_lt q7
 have m9_8 : n8 < n9:=by rw [hn];exact blk_lt q8
 replace q3:=keep_alloc hw q3
 replace q7:=keep_alloc hw q7
 replace q8:=keep_alloc hw q8
 replace E:=ext_alloc E hw
 replace EM:=ext_alloc EM hw
 have q9:=new_one hw rfl hn
 clear hw hn
 refine sq_to rfl rfl (R_store rfl (F.at rfl) (F.at rfl) rfl (by kernel_rfl) ((cells_of_block q9 0).trans (get0)) (free_of_block q9 0)) ?_;intro w8 hw
 replace q3:=keep_cell hw q3 (by omega)
 replace q7:=keep_cell hw q7 (by omega)
 replace q8:=keep_cell hw q8 (by omega)
 replace q9:=put_cell hw q9 (by simp only [List.setIfInBounds_toArray,lsQ,lzQ];exact rfl)
 replace E:=ext_cell E hw (fun h=>by first | exact absurd h (by omega) | simp)
 replace EM:=ext_cell EM hw (fun h=>by first | exact absurd h (by omega) | simp)
 clear hw
 refine wpList_nil ?_
 refine hK4 _ _ ?_
 clear hK4
 refine wp_seq_k fun K5 hK5=>?_
 refine wp_region_lit ?_
 refine F.vl (R_loadBlk rfl (F.at rfl) Tryz.underlying69 rfl (by kernel_rfl) q8) ?_;clear F fa;intro fa F
 refine F.mv ?_;clear F fa;intro fa F
 refine sq_call F rfl (by decide) rfl (R_callV rfl rfl Tryz.call42 (mpS (F.at rfl) (mpS (F.at rfl) mp0))) (lamps_ok x HV.out ls HM.out hl4 b d _ (HX.out.ext E) (HQ.out.ext E (by simp))) fun e w9 hR=>?_
 obtain ⟨rfl,e9⟩:=hR
 refine ⟨_,rfl,?_⟩;clear F fa;intro fa F
 replace q3:=(e9).keep0 q3
 replace q7:=(e9).keep0 q7
 replace q8:=(e9).keep0 q8
 replace q9:=(e9).keep0 q9
 replace E:=ext_same E (e9)
 replace EM:=ext_same EM (e9)
 clear e9
 refine wpList_nil ?_
 refine hK5 _ _ ?_
 clear hK5
 refine wp_seq_k fun K6 hK6=>?_
 refine wp_region_lit ?_
 refine sq_new F rfl (by decide) rfl (R_alloc rfl Tryz.zeroValue102) ?_;clear F fa;intro fa w10 F hw
 obtain ⟨n10,hn⟩ : ∃ n,n = w9.heap.size:=⟨_,rfl⟩
 rw [← hn] at F
 have s10 : w9.heap.size ≤ n10:=Nat.le_of_eq hn.symm
 have l10_E : w.heap.size ≤ n10:=by rw [hn];exact E.size
 have l10_EM : wM.heap.size ≤ n10:=by rw [hn];exact EM.size
 have m10_3 : n3 < n10:=by rw [hn];exact blk_lt q3
 have m10_7 : n7 < n10:=by rw [hn];exact blk_lt q7
 have m10_8 : n8 < n10:=by rw [hn];exact blk_lt q8
 have m10_9 : n9 < n10:=by rw [hn];exact blk_lt q9
 replace q3:=keep_alloc hw q3
 replace q7:=keep_alloc hw q7
 replace q8:=keep_alloc hw q8
 replace q9:=keep_alloc hw q9
 replace E:=ext_alloc E hw
 replace EM:=ext_alloc EM hw
 have q10:=new_row hw hn
 clear hw hn
 refine wpList_nil ?_
 have HTs:=Lib.hid (slAt_of_rowsX (X:=[n10]) hrm.out (fun W e=>hrm.out.ext e (by simpa using l10_EM)) [])
 have E9:=EM.mono (Y:=[n10]) (by simp)
 replace q10 : w10.heap[n10]? = some (.cells (sixC (finF p T.length 0 0)) 102 (0,0)):=by rw [finF_zero];exact q10
 refine hK6 _ _ ?_
 clear hK6
 refine wp_seq_k fun K7 hK7=>?_
 refine wp_seq_k fun K8 hK8=>?_
 refine wp_region_lit ?_
 refine F.vl (R_load rfl (F.at rfl) Tryz.underlying72 rfl ((cells_of_block q9 0).trans (get0))) ?_;clear F fa;intro fa F
 refine F.vl (R_len rfl rfl (F.at rfl) Tryz.underlying72) ?_;clear F fa;intro fa F
 refine F.vl (R_move rfl (ev_c fa _)) ?_;clear F fa;intro fa F
 refine wpList_nil ?_
 refine hK8 _ _ ?_
 clear hK8
 refine wp_block ?_
 have F0:=F.sub (.c 2 rfl (.c 7 rfl (.c 8 rfl (.c 9 rfl (.c 10 rfl (.c 26 rfl .n))))))
 refine lp_for F0 (T.length) (fun j Lv W=>Lv = [(27,.int .i64 ((j : Nat) : Int))] ∧ Ext [] w W ∧ Ext [n10] wM W ∧ W.heap[n3]? = some (.cells #[.int .i64 x.B,.slice x.da x.D.length x.dc,.slice x.la x.L.length x.lc,.int .i64 x.tol] 24 (0,0)) ∧ W.heap[n7]? = some (.cells #[.int .i64 0] 35 (0,0)) ∧ W.heap[n8]? = some (.cells #[.int .i64 x.B,.slice x.da x.D.length x.dc,.slice x.la x.L.length x.lc,.int .i64 x.tol] 69 (0,0)) ∧ W.heap[n9]? = some (.cells #[.slice ma T.length mc] 72 (0,0)) ∧ W.heap[n10]? = some (.cells (sixC (finF p T.length j 0)) 102 (0,0))) ⟨_,⟨rfl,E,E9,q3,q7,q8,q9,q10⟩,F.sub (.c 27 rfl (.c 2 rfl (.c 7 rfl (.c 8 rfl (.c 9 rfl (.c 10 rfl (.c 26 rfl .n)))))))⟩ ?_
 clear F F0
 clear E E9 q3 q7 q8 q9 q10
 rintro j _ fa w11 hi1 ⟨rfl,E,E9,q3,q7,q8,q9,q10⟩ F
 refine wp_seq_k fun K9 hK9=>?_
 refine wp_region_lit ?_
 refine F.vl (R_lss rfl (F.at rfl) (F.at rfl)) ?_;clear F fa;intro fa F
 refine wpList_nil ?_
 refine hK9 _ _ ?_
 clear hK9
 refine wp_seq_k fun K10 hK10=>?_
 refine cd_if F rfl (fun hc28=>?_) (fun hc28=>?_)
 ·skip
  refine wp_skip ?_
  refine hK10 _ _ ?_
  clear hK10
  refine wp_seq_k fun K11 hK11=>?_
  refine wp_block ?_
  refine wp_seq_k fun K12 hK12=>?_
  refine wp_region_lit ?_
  refine F.mv ?_;clear F fa;intro fa F
  refine sq_new F rfl (by decide) rfl (R_alloc rfl Tryz.zeroValue3) ?_;clear F fa;intro fa w12 F hw
  obtain ⟨n11,hn⟩ : ∃ n,n = w11.heap.size:=⟨_,rfl⟩
  rw [← hn] at F
  have s11 : w11.heap.size ≤ n11:=Nat.le_of_eq hn.symm
  have l11_E : w.heap.size ≤ n11:=by rw [hn];exact E.size
  have l11_E9 : wM.heap.size ≤ n11:=by rw [hn];exact E9.size
  have m11_3 : n3 < n11:=by rw [hn];exact blk_lt q3
  have m11_7 : n7 < n11:=by rw [hn];exact blk_lt q7
  have m11_8 : n8 < n11:=by rw [hn];exact blk_lt q8
  have m11_9 : n9 < n11:=by rw [hn];exact blk_lt q9
  have m11_10 : n10 < n11:=by rw [hn];exact blk_lt q10
  replace q3:=keep_alloc hw q3
  replace q7:=keep_alloc hw q7
  replace q8:=keep_alloc hw q8
  replace q9:=keep_alloc hw q9
  replace q10:=keep_alloc hw q10
  replace E:=ext_alloc E hw
  replace E9:=ext_alloc E9 hw
  have q11:=new_one hw rfl hn
  clear hw hn
  refine sq_to rfl rfl (R_store rfl (F.at rfl) (F.at rfl) rfl (by kernel_rfl) ((cells_of_block q11 0).trans (get0)) (free_of_block q11 0)) ?_;intro w13 hw
  replace q3:=keep_cell hw q3 (by omega)
  replace q7:=keep_cell hw q7 (by omega)
  replace q8:=keep_cell hw q8 (by omega)
  replace q9:=keep_cell hw q9 (by omega)
  replace q10:=keep_cell hw q10 (by omega)
  replace q11:=put_cell hw q11 (by simp only [List.setIfInBounds_toArray,lsQ,lzQ];exact rfl)
  replace E:=ext_cell E hw (fun h=>by first | exact absurd h (by omega) | simp)
  replace E9:=ext_cell E9 hw (fun h=>by first | exact absurd h (by omega) | simp)
  clear hw
  refine wpList_nil ?_
  refine hK12 _ _ ?_
  clear hK12
  refine wp_seq_k fun K13 hK13=>?_
  refine wp_region_lit ?_
  refine F.vl (R_load rfl (F.at rfl) Tryz.underlying72 rfl ((cells_of_block q9 0).trans (get0))) ?_;clear F fa;intro fa F
  refine F.vl (R_len rfl rfl (F.at rfl) Tryz.underlying72) ?_;clear F fa;intro fa F
  refine F.vl (R_move rfl (ev_c fa _)) ?_;clear F fa;intro fa F
  refine wpList_nil ?_
  refine hK13 _ _ ?_
  clear hK13
  refine wp_block ?_
  have F0:=F.sub (.c 2 rfl (.c 7 rfl (.c 8 rfl (.c 9 rfl (.c 10 rfl (.c 11 rfl (.c 26 rfl (.c 27 rfl (.c 31 rfl .n)))))))))
  refine lp_for F0 (T.length) (fun k Lv W=>Lv = [(32,.int .i64 ((k : Nat) : Int))] ∧ Ext [] w W ∧ Ext [n10] wM W ∧ W.heap[n3]? = some (.cells #[.int .i64 x.B,.slice x.da x.D.length x.dc,.slice x.la x.L.length x.lc,.int .i64 x.tol] 24 (0,0)) ∧ W.heap[n7]? = some (.cells #[.int .i64 0] 35 (0,0)) ∧ W.heap[n8]? = some (.cells #[.int .i64 x.B,.slice x.da x.D.length x.dc,.slice x.la x.L.length x.lc,.int .i64 x.tol] 69 (0,0)) ∧ W.heap[n9]? = some (.cells #[.slice ma T.length mc] 72 (0,0)) ∧ W.heap[n10]? = some (.cells (sixC (finF p T.length j k)) 102 (0,0)) ∧ W.heap[n11]? = some (.cells #[.int .i64 ((j : Nat) : Int)] 3 (0,0))) ⟨_,⟨rfl,E,E9,q3,q7,q8,q9,q10,q11⟩,F.sub (.c 32 rfl (.c 2 rfl (.c 7 rfl (.c 8 rfl (.c 9 rfl (.c 10 rfl (.c 11 rfl (.c 26 rfl (.c 27 rfl (.c 31 rfl .n))))))))))⟩ ?_
  clear F F0
  clear E E9 q3 q7 q8 q9 q10 q11
  rintro k _ fa w14 hi2 ⟨rfl,E,E9,q3,q7,q8,q9,q10,q11⟩ F
  refine wp_seq_k fun K14 hK14=>?_
  refine wp_region_lit ?_
  refine F.vl (R_lss rfl (F.at rfl) (F.at rfl)) ?_;clear F fa;intro fa F
  refine wpList_nil ?_
  refine hK14 _ _ ?_
  clear hK14
  refine wp_seq_k fun K15 hK15=>?_
  refine cd_if F rfl (fun hc33=>?_) (fun hc33=>?_)
  ·skip
   refine wp_skip ?_
   refine hK15 _ _ ?_
   clear hK15
   refine wp_seq_k fun K16 hK16=>?_
   refine wp_block ?_
   refine wp_seq_k fun K17 hK17=>?_
   refine wp_region_lit ?_
   refine F.mv ?_;clear F fa;intro fa F
   refine sq_new F rfl (by decide) rfl (R_alloc rfl Tryz.zeroValue3) ?_;clear F fa;intro fa w15 F hw
   obtain ⟨n12,hn⟩ : ∃ n,n = w14.heap.size:=⟨_,rfl⟩
   rw [← hn] at F
   have s12 : w14.heap.size ≤ n12:=Nat.le_of_eq hn.symm
   have l12_E : w.heap.size ≤ n12:=by rw [hn];exact E.size
   have l12_E9 : wM.heap.size ≤ n12:=by rw [hn];exact E9.size
   have m12_3 : n3 < n12:=by rw [hn];exact blk_lt q3
   have m12_7 : n7 < n12:=by rw [hn];exact blk_lt q7
   have m12_8 : n8 < n12:=by rw [hn];exact blk_lt q8
   have m12_9 : n9 < n12:=by rw [hn];exact blk_lt q9
   have m12_10 : n10 < n12:=by rw [hn];exact blk_lt q10
   have m12_11 : n11 < n12:=by rw [hn];exact blk_lt q11
   replace q3:=keep_alloc hw q3
   replace q7:=keep_alloc hw q7
   replace q8:=keep_alloc hw q8
   replace q9:=keep_alloc hw q9
   replace q10:=keep_alloc hw q10
   replace q11:=keep_alloc hw q11
   replace E:=ext_alloc E hw
   replace E9:=ext_alloc E9 hw
   have q12:=new_one hw rfl hn
   clear hw hn
   refine sq_to rfl rfl (R_store rfl (F.at rfl) (F.at rfl) rfl (by kernel_rfl) ((cells_of_block q12 0).trans (get0)) (free_of_block q12 0)) ?_;intro w16 hw
   replace q3:=keep_cell hw q3 (by omega)
   replace q7:=keep_cell hw q7 (by omega)
   replace q8:=keep_cell hw q8 (by omega)
   replace q9:=keep_cell hw q9 (by omega)
   replace q10:=keep_cell hw q10 (by omega)
   replace q11:=keep_cell hw q11 (by omega)
   replace q12:=put_cell hw q12 (by simp only [List.setIfInBounds_toArray,lsQ,lzQ];exact rfl)
   replace E:=ext_cell E hw (fun h=>by first | exact absurd h (by omega) | simp)
   replace E9:=ext_cell E9 hw (fun h=>by first | exact absurd h (by omega) | simp)
   clear hw
   refine wpList_nil ?_
   refine hK17 _ _ ?_
   clear hK17
   refine wp_seq_k fun K18 hK18=>?_
   refine wp_region_lit ?_
   refine F.mv ?_;clear F fa;intro fa F
   refine F.vl (R_makeFunc rfl (mapsN mp0) (mapsN (mpS (F.at rfl) (mpS (F.at rfl) (mpS (F.at rfl) (mpS (F.at rfl) mp0)))))) ?_;clear F fa;intro fa F
   have hsl : SlAt [] w16 ma 4 T.length (fun i=>tubR (val (T.getD i []))):=slAt_of_rows (row:=fun t : List Int=>tubR (val t)) (hrm.out.ext E9 (by simpa using l10_EM)) []
   refine sq_call F rfl (by decide) rfl (R_callV rfl rfl Tryz.call64 (mpS (F.at rfl) (mpS (F.at rfl) mp0))) (containsF_any ls 65 #[.pointer (some ⟨n8,0,none⟩),.pointer (some ⟨n9,0,none⟩),.pointer (some ⟨n11,0,none⟩),.pointer (some ⟨n12,0,none⟩)] (fun l=>!alkE x l.toNat (val (T.getD j [])) (val (T.getD k []))) b d _ (HQ.out.ext E (by simp)) hl4 Tryz.call65 (fun W e n hn=>(by obtain ⟨h0,h1⟩:=HM.out.2.1 n hn;have hm:=most1_ok x HV.out T HT.out ma mc n8 n9 n11 n12 j k n.toNat (by omega) (by omega) (by omega) W ((HX.out.ext E).ext e) (e.keep0 q8) (e.keep0 q9) (e.keep0 q11) (e.keep0 q12) (slAt_ext hsl e) (by omega);rw [show ((n.toNat : Nat) : Int) = n by omega] at hm;exact hm))) fun e w17 hR=>?_
   obtain ⟨rfl,e9⟩:=hR
   refine ⟨_,rfl,?_⟩;clear F fa;intro fa F
   replace q3:=(e9).keep0 q3
   replace q7:=(e9).keep0 q7
   replace q8:=(e9).keep0 q8
   replace q9:=(e9).keep0 q9
   replace q10:=(e9).keep0 q10
   replace q11:=(e9).keep0 q11
   replace q12:=(e9).keep0 q12
   replace E:=ext_same E (e9)
   replace E9:=ext_same E9 (e9)
   clear e9
   refine F.vl (R_not rfl (F.at rfl)) ?_;clear F fa;intro fa F
   refine wpList_nil ?_
   have hpe : (!(ls.any fun l=>!alkE x l.toNat (val (T.getD j [])) (val (T.getD k [])))) = p j k:=by rw [HP.out];rfl
   rw [hpe] at F
   have hfl:=fnK_lt p j k (by omega)
   refine hK18 _ _ ?_
   clear hK18
   refine cd_b F rfl (fun hc38=>?_) (fun hc38=>?_)
   ·skip
    refine wp_region_st 7 follows (by kernel_rfl) fun w18 hh eh=>?_
    replace q3:=keep_same hh q3
    replace q7:=keep_same hh q7
    replace q8:=keep_same hh q8
    replace q9:=keep_same hh q9
    replace q10:=keep_same hh q10
    replace q11:=keep_same hh q11
    replace q12:=keep_same hh q12
    replace E:=ext_same E eh
    replace E9:=ext_same E9 eh
    clear hh eh
    refine F.sv (R_load rfl (F.at rfl) Tryz.underlying3 rfl ((cells_of_block q11 0).trans (get0))) ?_;clear F fa;intro fa F
    refine F.sv (R_ixArr (n:=6) (sz:=1) rfl (F.at rfl) (F.at rfl) Tryz.underlying102 (by kernel_rfl) (by omega) (by omega)) ?_;clear F fa;intro fa F
    refine F.sv (R_load rfl (F.at rfl) Tryz.underlying101 rfl (six_at q10 (k:=j) rfl (by omega))) ?_;clear F fa;intro fa F
    rw [show finF p T.length j k j = ((fnK p j k : Nat) : Int) by simp [finF]] at F
    refine F.sv (R_load rfl (F.at rfl) Tryz.underlying3 rfl ((cells_of_block q12 0).trans (get0))) ?_;clear F fa;intro fa F
    refine F.sv ((R_shl rfl (ev_c fa _) (F.at rfl))) ?_;clear F fa;intro fa F
    rw [shl8 k (by omega)] at F
    refine F.sv ((R_or rfl (F.at rfl) (F.at rfl))) ?_;clear F fa;intro fa F
    rw [or8 _ hfl k (by omega)] at F
    refine F.sv (R_ixArr (n:=6) (sz:=1) rfl (F.at rfl) (F.at rfl) Tryz.underlying102 (by kernel_rfl) (by omega) (by omega)) ?_;clear F fa;intro fa F
    refine wpStill_nil ?_
    refine sq_to rfl rfl (R_store rfl (F.at rfl) (F.at rfl) rfl (by kernel_rfl) (six_at q10 (k:=j) rfl (by omega)) (free_of_block q10 _)) ?_;intro w19 hw
    replace q3:=keep_cell hw q3 (by omega)
    replace q7:=keep_cell hw q7 (by omega)
    replace q8:=keep_cell hw q8 (by omega)
    replace q9:=keep_cell hw q9 (by omega)
    replace q10:=put_six hw q10 (k:=j) rfl (by omega)
    replace q11:=keep_cell hw q11 (by omega)
    replace q12:=keep_cell hw q12 (by omega)
    replace E:=ext_cell E hw (fun h=>by first | exact absurd h (by omega) | simp)
    replace E9:=ext_cell E9 hw (fun h=>by first | exact absurd h (by omega) | simp)
    clear hw
    rw [finF_yes p hc38] at q10
    refine wpList_nil ?_
    refine hK16 _ _ ?_
    clear hK16
    refine wp_region_lit ?_
    refine F.vl (R_add rfl (F.at rfl) (ev_c fa _) (by omega) (by omega)) ?_;clear F fa;intro fa F
    refine F.mv ?_;clear F fa;intro fa F
    refine wpList_nil ?_
    show _ ∧ _
    exact ⟨by omega,_,⟨rfl,E,E9,q3,q7,q8,q9,q10,q11⟩,F.sub (.c 32 rfl (.c 2 rfl (.c 7 rfl (.c 8 rfl (.c 9 rfl (.c 10 rfl (.c 11 rfl (.c 26 rfl (.c 27 rfl (.c 31 rfl .n))))))))))⟩
   ·skip
    rw [finF_no p hc38] at q10
    refine wp_skip ?_
    refine hK16 _ _ ?_
    clear hK16
    refine wp_region_lit ?_
    refine F.vl (R_add rfl (F.at rfl) (ev_c fa _) (by omega) (by omega)) ?_;clear F fa;intro fa F
    refine F.mv ?_;clear F fa;intro fa F
    refine wpList_nil ?_
    show _ ∧ _
    exact ⟨by omega,_,⟨rfl,E,E9,q3,q7,q8,q9,q10,q11⟩,F.sub (.c 32 rfl (.c 2 rfl (.c 7 rfl (.c 8 rfl (.c 9 rfl (.c 10 rfl (.c 11 rfl (.c 26 rfl (.c 27 rfl (.c 31 rfl .n))))))))))⟩
  ·skip
   refine wp_exit ?_
   rw [show k = T.length by omega,finF_next] at q10
   refine hK11 _ _ ?_
   clear hK11
   refine wp_region_lit ?_
   refine F.vl (R_add rfl (F.at rfl) (ev_c fa _) (by omega) (by omega)) ?_;clear F fa;intro fa F
   refine F.mv ?_;clear F fa;intro fa F
   refine wpList_nil ?_
   show _ ∧ _
   exact ⟨by omega,_,⟨rfl,E,E9,q3,q7,q8,q9,q10⟩,F.sub (.c 27 rfl (.c 2 rfl (.c 7 rfl (.c 8 rfl (.c 9 rfl (.c 10 rfl (.c 26 rfl .n)))))))⟩
 ·skip
  refine wp_exit ?_
  rw [show j = T.length by omega] at q10
  refine hK7 _ _ ?_
  clear hK7
  refine wp_seq_k fun K19 hK19=>?_
  refine wp_region_lit ?_
  refine F.vl (R_assign rfl (ev_c fa _)) ?_;clear F fa;intro fa F
  refine wpList_nil ?_
  clear E9
  obtain ⟨M2,hM2⟩ : ∃ M2,M2 = 2 ^ T.length:=⟨_,rfl⟩
  have hM64 : M2 ≤ 64:=by rw [hM2];exact pow_lt7 _ (by omega)
  rw [show (0 : Int) = ((bestK p T.length 0 : Nat) : Int) from rfl] at F
  refine hK19 _ _ ?_
  clear hK19
  refine wp_seq_k fun K20 hK20=>?_
  refine wp_label ?_
  refine hK20 _ _ ?_
  clear hK20
  refine wp_seq_k fun K21 hK21=>?_
  refine wp_seq_k fun K22 hK22=>?_
  refine wp_region_lit ?_
  refine F.vl (R_load rfl (F.at rfl) Tryz.underlying72 rfl ((cells_of_block q9 0).trans (get0))) ?_;clear F fa;intro fa F
  refine F.vl (R_len rfl rfl (F.at rfl) Tryz.underlying72) ?_;clear F fa;intro fa F
  refine F.vl ((R_shl rfl (ev_c fa _) (F.at rfl))) ?_;clear F fa;intro fa F
  rw [shl8 T.length (by omega),← hM2] at F
  refine F.vl (R_move rfl (ev_c fa _)) ?_;clear F fa;intro fa F
  rw [show (0 : Int) = ((0 : Nat) : Int) from rfl] at F
  refine wpList_nil ?_
  refine hK22 _ _ ?_
  clear hK22
  refine wp_block ?_
  have F0:=F.sub (.c 7 rfl (.c 10 rfl (.c 50 rfl .n)))
  refine lp_for F0 (M2) (fun s Lv W=>Lv = [(13,.int .u8 ((bestK p T.length s : Nat) : Int)),(51,.int .u8 ((s : Nat) : Int))] ∧ Ext [] w W ∧ W.heap[n3]? = some (.cells #[.int .i64 x.B,.slice x.da x.D.length x.dc,.slice x.la x.L.length x.lc,.int .i64 x.tol] 24 (0,0)) ∧ W.heap[n7]? = some (.cells #[.int .i64 0] 35 (0,0)) ∧ W.heap[n8]? = some (.cells #[.int .i64 x.B,.slice x.da x.D.length x.dc,.slice x.la x.L.length x.lc,.int .i64 x.tol] 69 (0,0)) ∧ W.heap[n9]? = some (.cells #[.slice ma T.length mc] 72 (0,0)) ∧ W.heap[n10]? = some (.cells (sixC (finF p T.length T.length 0)) 102 (0,0))) ⟨_,⟨rfl,E,q3,q7,q8,q9,q10⟩,F.sub (.c 13 rfl (.c 51 rfl (.c 7 rfl (.c 10 rfl (.c 50 rfl .n)))))⟩ ?_
  clear F F0
  clear E q3 q7 q8 q9 q10
  rintro s _ fa w20 hi3 ⟨rfl,E,q3,q7,q8,q9,q10⟩ F
  refine wp_seq_k fun K23 hK23=>?_
  have hbl:=bestK_lt p T.length s (by omega)
  refine wp_region_lit ?_
  refine F.vl (R_lss rfl (F.at rfl) (F.at rfl)) ?_;clear F fa;intro fa F
  refine wpList_nil ?_
  refine hK23 _ _ ?_
  clear hK23
  refine wp_seq_k fun K24 hK24=>?_
  refine cd_if F rfl (fun hc52=>?_) (fun hc52=>?_)
  ·skip
   refine wp_skip ?_
   refine hK24 _ _ ?_
   clear hK24
   refine wp_seq_k fun K25 hK25=>?_
   refine wp_block ?_
   refine wp_seq_k fun K26 hK26=>?_
   refine wp_region_lit ?_
   refine F.mv ?_;clear F fa;intro fa F
   refine F.as ?_;clear F fa;intro fa F
   refine wpList_nil ?_
   refine hK26 _ _ ?_
   clear hK26
   refine wp_seq_k fun K27 hK27=>?_
   refine wp_seq_k fun K28 hK28=>?_
   refine wp_region_lit ?_
   refine F.mv ?_;clear F fa;intro fa F
   refine sq_call F rfl (by decide) rfl (R_callV rfl rfl Tryz.call66 (mpS (F.at rfl) mp0)) (list_ok s (by omega) _) fun e w21 hR=>?_
   obtain ⟨sa,sc,rfl,os,e9⟩:=hR
   refine ⟨_,rfl,?_⟩;clear F fa;intro fa F
   replace q3:=(e9).keep0 q3
   replace q7:=(e9).keep0 q7
   replace q8:=(e9).keep0 q8
   replace q9:=(e9).keep0 q9
   replace q10:=(e9).keep0 q10
   replace E:=ext_same E (e9)
   clear e9
   obtain ⟨wA,hwA⟩ : ∃ wA,wA = w21:=⟨_,rfl⟩
   have EA : Ext [] wA w21:=by rw [hwA];exact Ext.refl _ _
   have HSs:=Lib.hid (slAt_of_ivs os rfl [] (by simp))
   rw [← hwA] at HSs
   have RA:=Lib.hid (rows_of_ivs os rfl)
   rw [← hwA] at RA
   clear os
   have hsb:=Lib.hid (setList_bd s (by omega))
   have hsl6:=setList_le s (by omega)
   refine F.vl (R_len rfl rfl (F.at rfl) Tryz.underlying25) ?_;clear F fa;intro fa F
   refine F.vl (R_move rfl (ev_c fa _)) ?_;clear F fa;intro fa F
   refine wpList_nil ?_
   refine hK28 _ _ ?_
   clear hK28
   refine wp_block ?_
   have F0:=F.sub (.c 7 rfl (.c 10 rfl (.c 13 rfl (.c 14 rfl (.c 50 rfl (.c 51 rfl (.c 55 rfl (.c 56 rfl .n))))))))
   refine lp_for F0 ((setList s).length) (fun i Lv W=>Lv = [(57,.int .i64 ((i : Nat) : Int))] ∧ Ext [] w W ∧ Ext [] wA W ∧ W.heap[n3]? = some (.cells #[.int .i64 x.B,.slice x.da x.D.length x.dc,.slice x.la x.L.length x.lc,.int .i64 x.tol] 24 (0,0)) ∧ W.heap[n7]? = some (.cells #[.int .i64 0] 35 (0,0)) ∧ W.heap[n8]? = some (.cells #[.int .i64 x.B,.slice x.da x.D.length x.dc,.slice x.la x.L.length x.lc,.int .i64 x.tol] 69 (0,0)) ∧ W.heap[n9]? = some (.cells #[.slice ma T.length mc] 72 (0,0)) ∧ W.heap[n10]? = some (.cells (sixC (finF p T.length T.length 0)) 102 (0,0)) ∧ ∀ j,j < i → subB s (finS p T.length ((setList s).getD j 0).toNat) = true) ⟨_,⟨rfl,E,EA,q3,q7,q8,q9,q10,(fun j h=>by omega)⟩,F.sub (.c 57 rfl (.c 7 rfl (.c 10 rfl (.c 13 rfl (.c 14 rfl (.c 50 rfl (.c 51 rfl (.c 55 rfl (.c 56 rfl .n)))))))))⟩ ?_
   clear F F0
   clear E EA q3 q7 q8 q9 q10
   rintro i _ fa w22 hi4 ⟨rfl,E,EA,q3,q7,q8,q9,q10,hoks⟩ F
   refine wp_seq_k fun K29 hK29=>?_
   refine wp_region_lit ?_
   refine F.vl (R_lss rfl (F.at rfl) (F.at rfl)) ?_;clear F fa;intro fa F
   refine wpList_nil ?_
   refine hK29 _ _ ?_
   clear hK29
   refine wp_seq_k fun K30 hK30=>?_
   refine cd_if F rfl (fun hc58=>?_) (fun hc58=>?_)
   ·skip
    refine wp_skip ?_
    refine hK30 _ _ ?_
    clear hK30
    refine wp_seq_k fun K31 hK31=>?_
    refine wp_block ?_
    refine wp_seq_k fun K32 hK32=>?_
    refine wp_region_lit ?_
    obtain ⟨xb33,xo33,xa33,xr33⟩:=HSs.out i (by omega)
    refine F.vl (R_ixSlice (sz:=1) rfl ((F.at rfl).trans (xa33 _ _)) (F.at rfl) Tryz.underlying25 (by kernel_rfl) (by omega) (by omega)) ?_;clear F fa;intro fa F
    refine F.vl (R_load rfl (F.at rfl) Tryz.underlying3 rfl (xr33 _ EA 0 _ rfl)) ?_;clear F fa;intro fa F
    refine F.as ?_;clear F fa;intro fa F
    refine wpList_nil ?_
    refine hK32 _ _ ?_
    clear hK32
    refine wp_seq_k fun K34 hK34=>?_
    obtain ⟨hn0,hn6⟩:=hsb.out _ (getD_mem (l:=setList s) (i:=i) 0 (by omega))
    refine wp_region_lit ?_
    refine F.mv ?_;clear F fa;intro fa F
    refine F.mv ?_;clear F fa;intro fa F
    refine F.vl (R_ixArr (n:=6) (sz:=1) rfl (F.at rfl) (F.at rfl) Tryz.underlying102 (by kernel_rfl) (by omega) (by omega)) ?_;clear F fa;intro fa F
    refine F.vl (R_load rfl (F.at rfl) Tryz.underlying101 rfl (six_at q10 (k:=((setList s).getD i 0).toNat) rfl (by omega))) ?_;clear F fa;intro fa F
    rw [finF_end] at F
    refine F.vl ((R_andNot rfl (F.at rfl) (F.at rfl))) ?_;clear F fa;intro fa F
    refine F.vl (R_neqD rfl (F.at rfl) (ev_c fa _)) ?_;clear F fa;intro fa F
    refine wpList_nil ?_
    have hnt:=not8 s (by omega) _ (finS_lt p (n:=T.length) (by omega) ((setList s).getD i 0).toNat)
    refine hK34 _ _ ?_
    clear hK34
    refine cd_if F rfl (fun hc66=>?_) (fun hc66=>?_)
    ·skip
     have hsub : subB s (finS p T.length ((setList s).getD i 0).toNat) = false:=by rw [← hnt];exact decide_eq_false hc66
     rw [bestK_bad p (okS_bad p (show i < (setList s).length by omega) hsub)] at F
     refine wp_exit ?_
     refine hK25 _ _ ?_
     clear hK25
     refine wp_region_lit ?_
     refine F.vl ((R_wadd rfl (F.at rfl) (ev_c fa _))) ?_;clear F fa;intro fa F
     rw [add8 s (by omega)] at F
     refine F.mv ?_;clear F fa;intro fa F
     refine wpList_nil ?_
     show _ ∧ _
     exact ⟨by omega,_,⟨rfl,E,q3,q7,q8,q9,q10⟩,F.sub (.c 13 rfl (.c 51 rfl (.c 7 rfl (.c 10 rfl (.c 50 rfl .n)))))⟩
    ·skip
     have hsub : subB s (finS p T.length ((setList s).getD i 0).toNat) = true:=by rw [← hnt];exact decide_eq_true (Classical.not_not.1 hc66)
     refine wp_skip ?_
     refine hK31 _ _ ?_
     clear hK31
     refine wp_region_lit ?_
     refine F.vl (R_add rfl (F.at rfl) (ev_c fa _) (by omega) (by omega)) ?_;clear F fa;intro fa F
     refine F.mv ?_;clear F fa;intro fa F
     refine wpList_nil ?_
     show _ ∧ _
     exact ⟨by omega,_,⟨rfl,E,EA,q3,q7,q8,q9,q10,(fun j h=>by rcases Nat.lt_succ_iff_lt_or_eq.1 h with h | rfl;(· exact hoks j h);(· exact hsub))⟩,F.sub (.c 57 rfl (.c 7 rfl (.c 10 rfl (.c 13 rfl (.c 14 rfl (.c 50 rfl (.c 51 rfl (.c 55 rfl (.c 56 rfl .n)))))))))⟩
   ·skip
    refine wp_exit ?_
    refine hK27 _ _ ?_
    clear hK27
    refine wp_seq_k fun K35 hK35=>?_
    have hok:=okS_all p (n:=T.length) (s:=s) (fun j hj=>hoks j (by omega))
    refine wp_region_lit ?_
    refine F.mv ?_;clear F fa;intro fa F
    refine sq_call F rfl (by decide) rfl (R_callV rfl rfl Tryz.call67 (mpS (F.at rfl) mp0)) (count_ok s (by omega) _) fun e w23 hR=>?_
    obtain ⟨rfl,e9⟩:=hR
    refine ⟨_,rfl,?_⟩;clear F fa;intro fa F
    replace q3:=(e9).keep0 q3
    replace q7:=(e9).keep0 q7
    replace q8:=(e9).keep0 q8
    replace q9:=(e9).keep0 q9
    replace q10:=(e9).keep0 q10
    replace E:=ext_same E (e9)
    replace EA:=ext_same EA (e9)
    clear e9
    refine F.mv ?_;clear F fa;intro fa F
    refine sq_call F rfl (by decide) rfl (R_callV rfl rfl Tryz.call67 (mpS (F.at rfl) mp0)) (count_ok (bestK p T.length s) hbl _) fun e w24 hR=>?_
    obtain ⟨rfl,e9⟩:=hR
    refine ⟨_,rfl,?_⟩;clear F fa;intro fa F
    replace q3:=(e9).keep0 q3
    replace q7:=(e9).keep0 q7
    replace q8:=(e9).keep0 q8
    replace q9:=(e9).keep0 q9
    replace q10:=(e9).keep0 q10
    replace E:=ext_same E (e9)
    replace EA:=ext_same EA (e9)
    clear e9
    refine F.vl (R_gtr rfl (F.at rfl) (F.at rfl)) ?_;clear F fa;intro fa F
    refine F.mv ?_;clear F fa;intro fa F
    by_cases hg1 : (((setLen (bestK p T.length s) : Nat) : Int) < ((setLen s : Nat) : Int))
    ·skip
     replace F:=F.re (k:=73) rfl (congrArg Value.bool (decide_eq_true hg1))
     refine sq_no F rfl (by decide) (wantF F rfl rfl (by decide) rfl (by decide)) ?_;clear F fa;intro fa F
     refine sq_no F rfl (by decide) (wantF F rfl rfl (by decide) rfl (by decide)) ?_;clear F fa;intro fa F
     refine sq_no F rfl (by decide) (wantF F rfl rfl (by decide) rfl (by decide)) ?_;clear F fa;intro fa F
     refine sq_no F rfl (by decide) (wantF F rfl rfl (by decide) rfl (by decide)) ?_;clear F fa;intro fa F
     refine sq_no F rfl (by decide) (wantF F rfl rfl (by decide) rfl (by decide)) ?_;clear F fa;intro fa F
     refine sq_no F rfl (by decide) (wantF F rfl rfl (by decide) rfl (by decide)) ?_;clear F fa;intro fa F
     refine sq_no F rfl (by decide) (wantU F rfl rfl (by decide) rfl) ?_;clear F fa;intro fa F
     refine sq_no F rfl (by decide) (wantU F rfl rfl (by decide) rfl) ?_;clear F fa;intro fa F
     refine sq_no F rfl (by decide) (wantU F rfl rfl (by decide) rfl) ?_;clear F fa;intro fa F
     refine sq_no F rfl (by decide) (wantU F rfl rfl (by decide) rfl) ?_;clear F fa;intro fa F
     refine sq_no F rfl (by decide) (wantU F rfl rfl (by decide) rfl) ?_;clear F fa;intro fa F
     refine sq_no F rfl (by decide) (wantU F rfl rfl (by decide) rfl) ?_;clear F fa;intro fa F
     refine sq_no F rfl (by decide) (wantF F rfl rfl (by decide) rfl (by decide)) ?_;clear F fa;intro fa F
     refine F.vl (R_pickT rfl (F.at rfl) (ev_c fa _)) ?_;clear F fa;intro fa F
     refine wpList_nil ?_
     refine hK35 _ _ ?_
     clear hK35
     try rw [bestK_no p (by omega) (fun h=>absurd h (by omega))] at F
     refine cd_T F rfl ?_
     refine wp_region_lit ?_
     refine F.mv ?_;clear F fa;intro fa F
     refine F.as ?_;clear F fa;intro fa F
     replace F:=F.re (k:=13) rfl (congrArg (fun z : Nat=>Value.int .u8 ((z : Nat) : Int)) (bestK_yes p hok (by first | exact .inl (by omega) | exact .inr ⟨by omega,hc87⟩)))
     refine wpList_nil ?_
     refine hK25 _ _ ?_
     clear hK25
     refine wp_region_lit ?_
     refine F.vl ((R_wadd rfl (F.at rfl) (ev_c fa _))) ?_;clear F fa;intro fa F
     rw [add8 s (by omega)] at F
     refine F.mv ?_;clear F fa;intro fa F
     refine wpList_nil ?_
     show _ ∧ _
     exact ⟨by omega,_,⟨rfl,E,q3,q7,q8,q9,q10⟩,F.sub (.c 13 rfl (.c 51 rfl (.c 7 rfl (.c 10 rfl (.c 50 rfl .n)))))⟩
    ·skip
     replace F:=F.re (k:=73) rfl (congrArg Value.bool (decide_eq_false hg1))
     refine F.mv ?_ (hw:=(wantT F rfl rfl (by decide) rfl));clear F fa;intro fa F
     refine sq_call F rfl (by decide) (wantT F rfl rfl (by decide) rfl) (R_callV rfl rfl Tryz.call67 (mpS (F.at rfl) mp0)) (count_ok s (by omega) _) fun e w25 hR=>?_
     obtain ⟨rfl,e9⟩:=hR
     refine ⟨_,rfl,?_⟩;clear F fa;intro fa F
     replace q3:=(e9).keep0 q3
     replace q7:=(e9).keep0 q7
     replace q8:=(e9).keep0 q8
     replace q9:=(e9).keep0 q9
     replace q10:=(e9).keep0 q10
     replace E:=ext_same E (e9)
     replace EA:=ext_same EA (e9)
     clear e9
     refine F.mv ?_ (hw:=(wantT F rfl rfl (by decide) rfl));clear F fa;intro fa F
     refine sq_call F rfl (by decide) (wantT F rfl rfl (by decide) rfl) (R_callV rfl rfl Tryz.call67 (mpS (F.at rfl) mp0)) (count_ok (bestK p T.length s) hbl _) fun e w26 hR=>?_
     obtain ⟨rfl,e9⟩:=hR
     refine ⟨_,rfl,?_⟩;clear F fa;intro fa F
     replace q3:=(e9).keep0 q3
     replace q7:=(e9).keep0 q7
     replace q8:=(e9).keep0 q8
     replace q9:=(e9).keep0 q9
     replace q10:=(e9).keep0 q10
     replace E:=ext_same E (e9)
     replace EA:=ext_same EA (e9)
     clear e9
     refine F.vl (R_eqlD rfl (F.at rfl) (F.at rfl)) ?_ (hw:=(wantT F rfl rfl (by decide) rfl));clear F fa;intro fa F
     refine F.mv ?_ (hw:=(wantT F rfl rfl (by decide) rfl));clear F fa;intro fa F
     by_cases hg2 : (((setLen s : Nat) : Int) = ((setLen (bestK p T.length s) : Nat) : Int))
     ·skip
      replace F:=F.re (k:=79) rfl (congrArg Value.bool (decide_eq_true hg2))
      refine F.mv ?_ (hw:=(wantT F rfl rfl (by decide) rfl));clear F fa;intro fa F
      refine sq_call F rfl (by decide) (wantT F rfl rfl (by decide) rfl) (R_callV rfl rfl Tryz.call66 (mpS (F.at rfl) mp0)) (list_ok s (by omega) _) fun e w27 hR=>?_
      obtain ⟨la,lc,rfl,ol,e9⟩:=hR
      refine ⟨_,rfl,?_⟩;clear F fa;intro fa F
      replace q3:=(e9).keep0 q3
      replace q7:=(e9).keep0 q7
      replace q8:=(e9).keep0 q8
      replace q9:=(e9).keep0 q9
      replace q10:=(e9).keep0 q10
      replace E:=ext_same E (e9)
      replace EA:=ext_same EA (e9)
      clear e9
      have RL:=Lib.hid (rows_of_ivs ol rfl)
      clear ol
      obtain ⟨wB,hwB⟩ : ∃ wB,wB = w27:=⟨_,rfl⟩
      have EB : Ext [] wB w27:=by rw [hwB];exact Ext.refl _ _
      rw [← hwB] at RL
      refine F.mv ?_ (hw:=(wantT F rfl rfl (by decide) rfl));clear F fa;intro fa F
      refine sq_call F rfl (by decide) (wantT F rfl rfl (by decide) rfl) (R_callV rfl rfl Tryz.call66 (mpS (F.at rfl) mp0)) (list_ok (bestK p T.length s) hbl _) fun e w28 hR=>?_
      obtain ⟨ka,kc,rfl,ok,e9⟩:=hR
      refine ⟨_,rfl,?_⟩;clear F fa;intro fa F
      replace q3:=(e9).keep0 q3
      replace q7:=(e9).keep0 q7
      replace q8:=(e9).keep0 q8
      replace q9:=(e9).keep0 q9
      replace q10:=(e9).keep0 q10
      replace E:=ext_same E (e9)
      replace EA:=ext_same EA (e9)
      replace EB:=ext_same EB (e9)
      clear e9
      have hk6:=setList_le _ hbl
      refine sq_call F rfl (by decide) (wantT F rfl rfl (by decide) rfl) (R_callV rfl rfl Tryz.call68 (mpS (F.at rfl) (mpS (F.at rfl) mp0))) (compare_any (setList s) (setList (bestK p T.length s)) la ka lc kc _ (RL.out.ext EB (by simp)) (rows_of_ivs ok rfl) (by omega) (by omega)) fun e w29 hR=>?_
      obtain ⟨rfl,e9⟩:=hR
      refine ⟨_,rfl,?_⟩;clear F fa;intro fa F
      replace q3:=(e9).keep0 q3
      replace q7:=(e9).keep0 q7
      replace q8:=(e9).keep0 q8
      replace q9:=(e9).keep0 q9
      replace q10:=(e9).keep0 q10
      replace E:=ext_same E (e9)
      replace EA:=ext_same EA (e9)
      replace EB:=ext_same EB (e9)
      clear e9
      refine F.vl (R_lss rfl (F.at rfl) (ev_c fa _)) ?_ (hw:=(wantT F rfl rfl (by decide) rfl));clear F fa;intro fa F
      refine F.vl (R_pickT rfl (F.at rfl) (F.at rfl)) ?_ (hw:=(wantT F rfl rfl (by decide) rfl));clear F fa;intro fa F
      refine F.vl (R_pickF rfl (F.at rfl) (F.at rfl)) ?_;clear F fa;intro fa F
      refine wpList_nil ?_
      refine hK35 _ _ ?_
      clear hK35
      try rw [bestK_no p (by omega) (fun h=>absurd h (by omega))] at F
      refine cd_if F rfl (fun hc87=>?_) (fun hc87=>?_)
      ·skip
       refine wp_region_lit ?_
       refine F.mv ?_;clear F fa;intro fa F
       refine F.as ?_;clear F fa;intro fa F
       replace F:=F.re (k:=13) rfl (congrArg (fun z : Nat=>Value.int .u8 ((z : Nat) : Int)) (bestK_yes p hok (by first | exact .inl (by omega) | exact .inr ⟨by omega,hc87⟩)))
       refine wpList_nil ?_
       refine hK25 _ _ ?_
       clear hK25
       refine wp_region_lit ?_
       refine F.vl ((R_wadd rfl (F.at rfl) (ev_c fa _))) ?_;clear F fa;intro fa F
       rw [add8 s (by omega)] at F
       refine F.mv ?_;clear F fa;intro fa F
       refine wpList_nil ?_
       show _ ∧ _
       exact ⟨by omega,_,⟨rfl,E,q3,q7,q8,q9,q10⟩,F.sub (.c 13 rfl (.c 51 rfl (.c 7 rfl (.c 10 rfl (.c 50 rfl .n)))))⟩
      ·skip
       rw [bestK_no p (by omega) (fun h=>by first | exact hc87 | exact absurd h (by omega))] at F
       refine wp_skip ?_
       refine hK25 _ _ ?_
       clear hK25
       refine wp_region_lit ?_
       refine F.vl ((R_wadd rfl (F.at rfl) (ev_c fa _))) ?_;clear F fa;intro fa F
       rw [add8 s (by omega)] at F
       refine F.mv ?_;clear F fa;intro fa F
       refine wpList_nil ?_
       show _ ∧ _
       exact ⟨by omega,_,⟨rfl,E,q3,q7,q8,q9,q10⟩,F.sub (.c 13 rfl (.c 51 rfl (.c 7 rfl (.c 10 rfl (.c 50 rfl .n)))))⟩
     ·skip
      replace F:=F.re (k:=79) rfl (congrArg Value.bool (decide_eq_false hg2))
      refine sq_no F rfl (by decide) (wantF F rfl rfl (by decide) rfl (by decide)) ?_;clear F fa;intro fa F
      refine sq_no F rfl (by decide) (wantF F rfl rfl (by decide) rfl (by decide)) ?_;clear F fa;intro fa F
      refine sq_no F rfl (by decide) (wantF F rfl rfl (by decide) rfl (by decide)) ?_;clear F fa;intro fa F
      refine sq_no F rfl (by decide) (wantF F rfl rfl (by decide) rfl (by decide)) ?_;clear F fa;intro fa F
      refine sq_no F rfl (by decide) (wantF F rfl rfl (by decide) rfl (by decide)) ?_;clear F fa;intro fa F
      refine sq_no F rfl (by decide) (wantF F rfl rfl (by decide) rfl (by decide)) ?_;clear F fa;intro fa F
      refine F.vl (R_pickF rfl (F.at rfl) (ev_c fa _)) ?_ (hw:=(wantT F rfl rfl (by decide) rfl));clear F fa;intro fa F
      refine F.vl (R_pickF rfl (F.at rfl) (F.at rfl)) ?_;clear F fa;intro fa F
      refine wpList_nil ?_
      refine hK35 _ _ ?_
      clear hK35
      try rw [bestK_no p (by omega) (fun h=>absurd h (by omega))] at F
      refine cd_F F rfl ?_
      refine wp_skip ?_
      refine hK25 _ _ ?_
      clear hK25
      refine wp_region_lit ?_
      refine F.vl ((R_wadd rfl (F.at rfl) (ev_c fa _))) ?_;clear F fa;intro fa F
      rw [add8 s (by omega)] at F
      refine F.mv ?_;clear F fa;intro fa F
      refine wpList_nil ?_
      show _ ∧ _
      exact ⟨by omega,_,⟨rfl,E,q3,q7,q8,q9,q10⟩,F.sub (.c 13 rfl (.c 51 rfl (.c 7 rfl (.c 10 rfl (.c 50 rfl .n)))))⟩
  ·skip
   refine wp_exit ?_
   rw [show s = M2 by omega] at F
   refine hK21 _ _ ?_
   clear hK21
   refine wp_seq_k fun K36 hK36=>?_
   refine wp_region_lit ?_
   refine F.mv ?_;clear F fa;intro fa F
   have hEs:=E.size
   refine sq_call F rfl (by decide) rfl (R_callV rfl rfl Tryz.call66 (mpS (F.at rfl) mp0)) (list_ok (bestK p T.length M2) (bestK_lt p _ _ hM64) _) fun e w30 hR=>?_
   obtain ⟨ra,rc,rfl,oo,e9⟩:=hR
   refine ⟨_,rfl,?_⟩;clear F fa;intro fa F
   replace q3:=(e9).keep0 q3
   replace q7:=(e9).keep0 q7
   replace q8:=(e9).keep0 q8
   replace q9:=(e9).keep0 q9
   replace q10:=(e9).keep0 q10
   replace E:=ext_same E (e9)
   clear e9
   replace oo:=owns_lower oo hEs
   refine F.as ?_;clear F fa;intro fa F
   refine sq_to rfl rfl (R_store rfl (F.at rfl) (ev_c fa _) rfl (by kernel_rfl) ((cells_of_block q7 0).trans (get0)) (free_of_block q7 0)) ?_;intro w31 hw
   replace oo:=owns_cellX hw oo (own_ne_type oo q7 (by decide))
   replace q3:=keep_cell hw q3 (by omega)
   replace q7:=put_cell hw q7 (by simp only [List.setIfInBounds_toArray,lsQ,lzQ];exact rfl)
   replace q8:=keep_cell hw q8 (by omega)
   replace q9:=keep_cell hw q9 (by omega)
   replace q10:=keep_cell hw q10 (by omega)
   replace E:=ext_cell E hw (fun h=>by first | exact absurd h (by omega) | simp)
   clear hw
   refine wpList_nil ?_
   refine hK36 _ _ ?_
   clear hK36
   refine wp_ret ?_
   (try simp only [Exit.inBlock,Exit.then,reduceIte])
   refine rtM_v F ?_
   refine lv_caught ?_
   refine lv_nil (rs_tc F rfl rfl rfl Tryz.underlying35 rfl q7) ?_
   rw [← hT,show mosR x ls T = setList (bestK p T.length M2) by rw [mosR,← HP.out,hM2]]
   exact ⟨ra,rc,rfl,oo,E⟩
end Go.Proofs.YtdjeecgddbjbeaaGreat
namespace Go.Proofs.YtdjeecgddbjbeaaGreat
open Go.RowKit Go.Maps
def mrG (t q : List Int) : Nat → Int:=fun k=>val q k - val t k
def mrF (t q : List Int) (i : Nat) : Nat → Int:=fun k=>if k < i then mrG t q k else 0
def mrC (t q : List Int) : Int × Int:=(prt (mrG t q),0)
def corB (x : Vm) (t : List Int) (s : Nat → Int) (ls : List Int) (q : List Int) : Bool:=((List.range 4).all fun k=>decide (0 ≤ mrG t q k)) && matE x (val q) s ls
def corO (x : Vm) (t : List Int) (s : Nat → Int) (ls : List Int) (pre : List (List Int)) : Option (List Int):=pickO (mrC t) (pre.filter (corB x t s ls))
def corR (x : Vm) (t : List Int) (s : Nat → Int) (ls : List Int) : List Int × Int:=match corO x t s ls (recL x.D.length) with
 | none=>([],11)
 | some q=>(cutL (mrG t q) x.D.length,0)
theorem cor_neg {x : Vm} {t q ls : List Int} {s : Nat → Int} {k : Nat} (hk : k < 4) (h : mrG t q k < 0) : corB x t s ls q = false:=by
 rw [corB,show ((List.range 4).all fun k=>decide (0 ≤ mrG t q k)) = false from List.all_eq_false.2 ⟨k,by simpa using hk,by simp;omega⟩,Bool.false_and]
theorem cor_ok {x : Vm} {t q ls : List Int} {s : Nat → Int} (h : ∀ k,k < 4 → 0 ≤ mrG t q k) : corB x t s ls q = matE x (val q) s ls:=by
 rw [corB,show ((List.range 4).all fun k=>decide (0 ≤ mrG t q k)) = true from List.all_eq_true.2 fun k hk=>decide_eq_true (h k (by simpa using hk)),Bool.true_and]
theorem corO_skip {x : Vm} {t q ls : List Int} {s : Nat → Int} {pre : List (List Int)} (h : corB x t s ls q = false) : corO x t s ls (pre ++ [q]) = corO x t s ls pre:=by
 rw [corO,corO,filter_snoc,h];rfl
theorem corO_take {x : Vm} {t q ls : List Int} {s : Nat → Int} {pre : List (List Int)} (h : corB x t s ls q = true) : corO x t s ls (pre ++ [q]) = offO (mrC t) (corO x t s ls pre) q:=by
 rw [corO,corO,filter_snoc,h,if_pos rfl,pick_snoc]
theorem mrF_zero (t q : List Int) : mrF t q 0 = zf:=by funext k;simp [mrF,zf]
theorem mrF_up (t q : List Int) (i : Nat) : upF (mrF t q i) i (mrG t q i) = mrF t q (i + 1):=by
 funext k
 rw [upF,mrF,mrF]
 by_cases h : k = i
 ·subst h;simp
 ·by_cases h2 : k < i
  ·simp [h,h2,show k < i + 1 by omega]
  ·simp [h,h2,show ¬ k < i + 1 by omega]
theorem mrF_end (t q : List Int) : tubC (mrF t q 4) = tubC (mrG t q):=tub_congr fun k hk=>if_pos hk
theorem rowOf_near {α : Type} {g : α → Nat → Int} {c : α → Int × Int} {o : Option α} {ob : Nat} {W : World} {T : TypeId} {fz : Nat × Nat} (h : W.heap[ob]? = some (.cells (nearO g c o) T fz)) : rowOf ob W = none:=by
 rw [rowOf,h]
 cases o <;> rfl
structure CorI (x : Vm) (t : List Int) (sv lv : Value) (w : World) (B n6 n7 n9 n10 n11 n12 : Nat) (o : Option (List Int)) (W : World) : Prop where
 q6 : W.heap[n6]? = some (.cells #[sv] 25 (0,0))
 q7 : W.heap[n7]? = some (.cells #[lv] 25 (0,0))
 q9 : W.heap[n9]? = some (.cells #[.int .i64 0] 35 (0,0))
 q10 : W.heap[n10]? = some (.cells #[.int .i64 x.B,.slice x.da x.D.length x.dc,.slice x.la x.L.length x.lc,.int .i64 x.tol] 69 (0,0))
 q11 : W.heap[n11]? = some (.cells (tubC (val t)) 75 (0,0))
 q12 : W.heap[n12]? = some (.cells (nearO (mrG t) (mrC t) o) 81 (0,0))
 E : Ext [] w W
 sz : B ≤ W.heap.size
theorem CorI.kept {x : Vm} {t : List Int} {sv lv : Value} {w : World} {B n6 n7 n9 n10 n11 n12 : Nat} {o : Option (List Int)} {W V : World} {row : Option Nat} (h : CorI x t sv lv w B n6 n7 n9 n10 n11 n12 o W) (hg : W.grownBy V row) (h1 : ∀ r,row = some r → B ≤ r) (hB : n6 < B ∧ n7 < B ∧ n9 < B ∧ n10 < B ∧ n11 < B ∧ n12 < B ∧ w.heap.size ≤ B) : CorI x t sv lv w B n6 n7 n9 n10 n11 n12 o V:=by
 obtain ⟨b6,b7,b9,b10,b11,b12,bw⟩:=hB
 have hk : ∀ {k : Nat} {cs : Array Value} {T : TypeId} {fz : Nat × Nat},W.heap[k]? = some (.cells cs T fz) → k < B → V.heap[k]? = some (.cells cs T fz):=
  fun {k cs T fz} hq hb=>(hg.block k (blk_lt hq) (fun e=>by have:=h1 k e.symm;omega)).trans hq
 exact ⟨hk h.q6 b6,hk h.q7 b7,hk h.q9 b9,hk h.q10 b10,hk h.q11 b11,hk h.q12 b12,ext_grownX h.E hg fun b e hl=>(by have:=h1 b e;omega),Nat.le_trans h.sz hg.size⟩
set_option maxRecDepth 100000 in
set_option maxHeartbeats 4000000 in
theorem xCorrect_ok (x : Vm) (hv : VOk x) (t : List Int) (ht : RcpOk x t) (s : List Int) (hs : SmpOk x s) (ls : List Int) (hl : LmpsOk x ls) (hll : ls.length ≤ 1000) (ta sa la : Option Addr) (tc sc lc : Nat) (w : World) (h : x.At w) (hp : IsRows w (.slice ta t.length tc) 1 (t.map intRow)) (hr : IsRows w (.slice sa s.length sc) 1 (s.map intRow)) (hq : IsRows w (.slice la ls.length lc) 1 (ls.map intRow)) :
  Calls Tryz.prog 27 #[.agg #[.int .i64 x.B,.slice x.da x.D.length x.dc,.slice x.la x.L.length x.lc,.int .i64 x.tol],.slice ta t.length tc,.slice sa s.length sc,.slice la ls.length lc] w (IntsPost (corR x t (val s) ls) w):=by
 have E : Ext [] w w:=Ext.refl _ _
 have HX:=Lib.hid h
 have HV:=Lib.hid hv
 have HS:=Lib.hid hs
 have HR:=Lib.hid hr
 have HQ:=Lib.hid hq
 have HP:=Lib.hid hp
 have HL:=Lib.hid hl
 have HT:=Lib.hid ht
 have HTS:=Lib.hid ht.tub
 have hd4:=hv.d4
 obtain ⟨hnd,hrl⟩:=recL_all x.D.length (by omega)
 have HRL:=Lib.hid hrl
 clear h hv hs hr hq hl hnd hrl ht hp
 refine calls_hasM 64 Tryz.func27 rfl Tryz.ntmps27 (Nat.le_of_ble_eq_true rfl) ?_
 intro fa F
 refine wp_seq_k fun K1 hK1=>?_
 refine wp_region_lit ?_
 refine sq_new F rfl (by decide) rfl (R_box rfl (F.at rfl)) ?_;clear F fa;intro fa w1 F hw
 obtain ⟨n4,hn⟩ : ∃ n,n = w.heap.size:=⟨_,rfl⟩
 rw [← hn] at F
 have s4 : w.heap.size ≤ n4:=Nat.le_of_eq hn.symm
 have l4_E : w.heap.size ≤ n4:=by rw [hn];exact E.size
 replace E:=ext_alloc E hw
 have q4:=new_row hw hn
 clear hw hn
 refine sq_new F rfl (by decide) rfl (R_box rfl (F.at rfl)) ?_;clear F fa;intro fa w2 F hw
 obtain ⟨n6,hn⟩ : ∃ n,n = w1.heap.size:=⟨_,rfl⟩
 rw [← hn] at F
 have s6 : w1.heap.size ≤ n6:=Nat.le_of_eq hn.symm
 have l6_E : w.heap.size ≤ n6:=by rw [hn];exact E.size
 have m6_4 : n4 < n6:=by rw [hn];exact blk_lt q4
 replace q4:=keep_alloc hw q4
 replace E:=ext_alloc E hw
 have q6:=new_one hw rfl hn
 clear hw hn
 refine sq_new F rfl (by decide) rfl (R_box rfl (F.at rfl)) ?_;clear F fa;intro fa w3 F hw
 obtain ⟨n7,hn⟩ : ∃ n,n = w2.heap.size:=⟨_,rfl⟩
 rw [← hn] at F
 have s7 : w2.heap.size ≤ n7:=Nat.le_of_eq hn.symm
 have l7_E : w.heap.size ≤ n7:=by rw [hn];exact E.size
 have m7_4 : n4 < n7:=by rw [hn];exact blk_lt q4
 have m7_6 : n6 < n7:=by rw [hn];exact blk_lt q6
 replace q4:=keep_alloc hw q4
 replace q6:=keep_alloc hw q6
 replace E:=ext_alloc E hw
 have q7:=new_one hw rfl hn
 clear hw hn
 refine F.vl (R_assign rfl (ev_c fa _)) ?_;clear F fa;intro fa F
 refine sq_new F rfl (by decide) rfl (R_alloc rfl Tryz.zeroValue35) ?_;clear F fa;intro fa w4 F hw
 obtain ⟨n9,hn⟩ : ∃ n,n = w3.heap.size:=⟨_,rfl⟩
 rw [← hn] at F
 have s9 : w3.heap.size ≤ n9:=Nat.le_of_eq hn.symm
 have l9_E : w.heap.size ≤ n9:=by rw [hn];exact E.size
 have m9_4 : n4 < n9:=by rw [hn];exact blk_lt q4
 have m9_6 : n6 < n9:=by rw [hn];exact blk_lt q6
 have m9_7 : n7 < n9:=by rw [hn];exact blk_lt q7
 replace q4:=keep_alloc hw q4
 replace q6:=keep_alloc hw q6
 replace q7:=keep_alloc hw q7
 replace E:=ext_alloc E hw
 have q9:=new_one hw rfl hn
 clear hw hn
 refine wpList_nil ?_
 refine hK1 _ _ ?_
 clear hK1
 refine wp_scope_straight ?_
 refine wp_seq_k fun K2 hK2=>?_
 refine wp_region_lit ?_
 refine sq_defer F rfl rfl (R_defer rfl rfl (mpS (F.at rfl) mp0)) ?_;clear F fa;intro fa F
 refine wpList_nil ?_
 refine hK2 _ _ ?_
 clear hK2
 refine wp_seq_k fun K3 hK3=>?_
 refine wp_region_lit ?_
 refine F.vl (R_loadBlk rfl (F.at rfl) Tryz.underlying24 rfl (by kernel_rfl) q4) ?_;clear F fa;intro fa F
 refine sq_call F rfl (by decide) rfl (R_callV rfl rfl Tryz.call40 (mpS (F.at rfl) mp0)) (begin_ok x HV.out _ (HX.out.ext E)) fun e w5 hR=>?_
 obtain ⟨rfl,e9⟩:=hR
 refine ⟨_,rfl,?_⟩;clear F fa;intro fa F
 replace q4:=(e9).keep0 q4
 replace q6:=(e9).keep0 q6
 replace q7:=(e9).keep0 q7
 replace q9:=(e9).keep0 q9
 replace E:=ext_same E (e9)
 clear e9
 refine sq_new F rfl (by decide) rfl (R_alloc rfl Tryz.zeroValue69) ?_;clear F fa;intro fa w6 F hw
 obtain ⟨n10,hn⟩ : ∃ n,n = w5.heap.size:=⟨_,rfl⟩
 rw [← hn] at F
 have s10 : w5.heap.size ≤ n10:=Nat.le_of_eq hn.symm
 have l10_E : w.heap.size ≤ n10:=by rw [hn];exact E.size
 have m10_4 : n4 < n10:=by rw [hn];exact blk_lt q4
 have m10_6 : n6 < n10:=by rw [hn];exact blk_lt q6
 have m10_7 : n7 < n10:=by rw [hn];exact blk_lt q7
 have m10_9 : n9 < n10:=by rw [hn];exact blk_lt q9
 replace q4:=keep_alloc hw q4
 replace q6:=keep_alloc hw q6
 replace q7:=keep_alloc hw q7
 replace q9:=keep_alloc hw q9
 replace E:=ext_alloc E hw
 have q10:=new_row hw hn
 clear hw hn
 refine sq_to rfl rfl (R_storeRow rfl (F.at rfl) (F.at rfl) (by kernel_rfl) (by first | (simp [Value.oneCell'];done) | (simp [Value.oneCell',id];done)) q10 rfl) ?_;intro w7 hw
 replace q4:=keep_cells hw q4 (by omega)
 replace q6:=keep_cells hw q6 (by omega)
 replace q7:=keep_cells hw q7 (by omega)
 replace q9:=keep_cells hw q9 (by omega)
 replace q10:=put_row hw q10 rfl
 replace E:=ext_cells E hw (fun h=>by first | exact absurd h (by omega) | simp)
 clear hw
 refine wpList_nil ?_
 refine hK3 _ _ ?_
 clear hK3
 refine wp_seq_k fun K4 hK4=>?_
 refine wp_region_lit ?_
 refine F.vl (R_loadBlk rfl (F.at rfl) Tryz.underlying69 rfl (by kernel_rfl) q10) ?_;clear F fa;intro fa F
 refine F.mv ?_;clear F fa;intro fa F
 refine sq_call F rfl (by decide) rfl (R_callV rfl rfl Tryz.call52 (mpS (F.at rfl) (mpS (F.at rfl) mp0))) (recipe_ok x HV.out t HT.out ta tc _ (HP.out.ext E (by simp))) fun e w8 hR=>?_
 obtain ⟨rfl,e9⟩:=hR
 refine ⟨_,rfl,?_⟩;clear F fa;intro fa F
 replace q4:=(e9).keep0 q4
 replace q6:=(e9).keep0 q6
 replace q7:=(e9).keep0 q7
 replace q9:=(e9).keep0 q9
 replace q10:=(e9).keep0 q10
 replace E:=ext_same E (e9)
 clear e9
 refine sq_new F rfl (by decide) rfl (R_alloc rfl Tryz.zeroValue75) ?_;clear F fa;intro fa w9 F hw
 obtain ⟨n11,hn⟩ : ∃ n,n = w8.heap.size:=⟨_,rfl⟩
 rw [← hn] at F
 have s11 : w8.heap.size ≤ n11:=Nat.le_of_eq hn.symm
 have l11_E : w.heap.size ≤ n11:=by rw [hn];exact E.size
 have m11_4 : n4 < n11:=by rw [hn];exact blk_lt q4
 have m11_6 : n6 < n11:=by rw [hn];exact blk_lt q6
 have m11_7 : n7 < n11:=by rw [hn];exact blk_lt q7
 have m11_9 : n9 < n11:=by rw [hn];exact blk_lt q9
 have m11_10 : n10 < n11:=by rw [hn];exact blk_lt q10
 replace q4:=keep_alloc hw q4
 replace q6:=keep_alloc hw q6
 replace q7:=keep_alloc hw q7
 replace q9:=keep_alloc hw q9
 replace q10:=keep_alloc hw q10
 replace E:=ext_alloc E hw
 have q11:=new_row hw hn
 clear hw hn
 refine sq_to rfl rfl (R_storeRow rfl (F.at rfl) (F.at rfl) (by kernel_rfl) (by simp [tubC,Value.oneCell']) q11 rfl) ?_;intro w10 hw
 replace q4:=keep_cells hw q4 (by omega)
 replace q6:=keep_cells hw q6 (by omega)
 replace q7:=keep_cells hw q7 (by omega)
 replace q9:=keep_cells hw q9 (by omega)
 replace q10:=keep_cells hw q10 (by omega)
 replace q11:=put_row hw q11 rfl
 replace E:=ext_cells E hw (fun h=>by first | exact absurd h (by omega) | simp)
 clear hw
 refine wpList_nil ?_
 refine hK4 _ _ ?_
 clear hK4
 refine wp_seq_k fun K5 hK5=>?_
 refine wp_region_lit ?_
 refine F.vl (R_loadBlk rfl (F.at rfl) Tryz.underlying69 rfl (by kernel_rfl) q10) ?_;clear F fa;intro fa F
 refine F.vl (R_load rfl (F.at rfl) Tryz.underlying25 rfl ((cells_of_block q6 0).trans (get0))) ?_;clear F fa;intro fa F
 refine sq_call F rfl (by decide) rfl (R_callV rfl rfl Tryz.call41 (mpS (F.at rfl) (mpS (F.at rfl) mp0))) (sample_ok x HV.out s HS.out sa sc _ (HR.out.ext E (by simp))) fun e w11 hR=>?_
 obtain ⟨rfl,e9⟩:=hR
 refine ⟨_,rfl,?_⟩;clear F fa;intro fa F
 replace q4:=(e9).keep0 q4
 replace q6:=(e9).keep0 q6
 replace q7:=(e9).keep0 q7
 replace q9:=(e9).keep0 q9
 replace q10:=(e9).keep0 q10
 replace q11:=(e9).keep0 q11
 replace E:=ext_same E (e9)
 clear e9
 refine wpList_nil ?_
 refine hK5 _ _ ?_
 clear hK5
 refine wp_seq_k fun K6 hK6=>?_
 refine wp_region_lit ?_
 refine F.vl (R_loadBlk rfl (F.at rfl) Tryz.underlying69 rfl (by kernel_rfl) q10) ?_;clear F fa;intro fa F
 refine F.vl (R_load rfl (F.at rfl) Tryz.underlying25 rfl ((cells_of_block q7 0).trans (get0))) ?_;clear F fa;intro fa F
 refine sq_call F rfl (by decide) rfl (R_callV rfl rfl Tryz.call42 (mpS (F.at rfl) (mpS (F.at rfl) mp0))) (lamps_ok x HV.out ls HL.out hll la lc _ (HX.out.ext E) (HQ.out.ext E (by simp))) fun e w12 hR=>?_
 obtain ⟨rfl,e9⟩:=hR
 refine ⟨_,rfl,?_⟩;clear F fa;intro fa F
 replace q4:=(e9).keep0 q4
 replace q6:=(e9).keep0 q6
 replace q7:=(e9).keep0 q7
 replace q9:=(e9).keep0 q9
 replace q10:=(e9).keep0 q10
 replace q11:=(e9).keep0 q11
 replace E:=ext_same E (e9)
 clear e9
 refine wpList_nil ?_
 refine hK6 _ _ ?_
 clear hK6
 refine wp_seq_k fun K7 hK7=>?_
 refine wp_region_lit ?_
 refine sq_new F rfl (by decide) rfl (R_alloc rfl Tryz.zeroValue81) ?_;clear F fa;intro fa w13 F hw
 obtain ⟨n12,hn⟩ : ∃ n,n = w12.heap.size:=⟨_,rfl⟩
 rw [← hn] at F
 have s12 : w12.heap.size ≤ n12:=Nat.le_of_eq hn.symm
 have l12_E : w.heap.size ≤ n12:=by rw [hn];exact E.size
 have m12_4 : n4 < n12:=by rw [hn];exact blk_lt q4
 have m12_6 : n6 < n12:=by rw [hn];exact blk_lt q6
 have m12_7 : n7 < n12:=by rw [hn];exact blk_lt q7
 have m12_9 : n9 < n12:=by rw [hn];exact blk_lt q9
 have m12_10 : n10 < n12:=by rw [hn];exact blk_lt q10
 have m12_11 : n11 < n12:=by rw [hn];exact blk_lt q11
 replace q4:=keep_alloc hw q4
 replace q6:=keep_alloc hw q6
 replace q7:=keep_alloc hw q7
 replace q9:=keep_alloc hw q9
 replace q10:=keep_alloc hw q10
 replace q11:=keep_alloc hw q11
 replace E:=ext_alloc E hw
 have q12:=new_row hw hn
 clear hw hn
 refine wpList_nil ?_
 replace q12 : w13.heap[n12]? = some (.cells (nearO (mrG t) (mrC t) (corO x t (val s) ls [])) 81 (0,0)):=q12
 refine hK7 _ _ ?_
 clear hK7
 refine wp_seq_k fun K8 hK8=>?_
 refine wp_label ?_
 refine hK8 _ _ ?_
 clear hK8
 refine wp_seq_k fun K9 hK9=>?_
 refine wp_seq_k fun K10 hK10=>?_
 refine wp_region_lit ?_
 refine F.vl (R_loadBlk rfl (F.at rfl) Tryz.underlying69 rfl (by kernel_rfl) q10) ?_;clear F fa;intro fa F
 have b12':=blk_lt q12
 refine sq_call F rfl (by decide) rfl (R_callV rfl rfl Tryz.call54 (mpS (F.at rfl) mp0)) (recipes_any x _) fun e w14 hR=>?_
 obtain ⟨nb,rfl,hnb,qb,e9⟩:=hR
 refine ⟨_,rfl,?_⟩;clear F fa;intro fa F
 replace q4:=(e9).keep0 q4
 replace q6:=(e9).keep0 q6
 replace q7:=(e9).keep0 q7
 replace q9:=(e9).keep0 q9
 replace q10:=(e9).keep0 q10
 replace q11:=(e9).keep0 q11
 replace q12:=(e9).keep0 q12
 replace E:=ext_same E (e9)
 clear e9
 refine wpList_nil ?_
 refine hK10 _ _ ?_
 clear hK10
 refine wp_block ?_
 clear q4
 obtain ⟨w3,hw3⟩ : ∃ w3,w3 = w14:=⟨_,rfl⟩
 have b6:=blk_lt q6
 have b7:=blk_lt q7
 have b9:=blk_lt q9
 have b10:=blk_lt q10
 have b11:=blk_lt q11
 have b12:=blk_lt q12
 have bb:=blk_lt qb
 have bw:=E.size
 have hr0 : rowOf n12 w14 = none:=rowOf_near q12
 have hseq:=recipes1_seq x hd4 [] n12 nb w14 b12 (by simp) (fun r e=>by rw [hr0] at e;cases e) ⟨by simp,by omega,by rw [hr0];simp⟩ qb
 have hI0 : CorI x t (.slice sa s.length sc) (.slice la ls.length lc) w w14.heap.size n6 n7 n9 n10 n11 n12 (corO x t (val s) ls []) w14:=⟨q6,q7,q9,q10,q11,q12,E,Nat.le_refl _⟩
 replace F:=F.sub (.c 6 rfl (.c 7 rfl (.c 9 rfl (.c 10 rfl (.c 11 rfl (.c 12 rfl (.c 28 rfl .n)))))))
 refine range_R (F.at rfl) Tryz.call85 hseq (fun _=>rfl) b12 (fun pre W=>CorI x t (.slice sa s.length sc) (.slice la ls.length lc) w w14.heap.size n6 n7 n9 n10 n11 n12 (corO x t (val s) ls pre) W) ?h1 ?ho ?hc hI0 (fun pre q a' W=>∃ nt,Has 64 [] a' [(6,.pointer (some ⟨n6,0,none⟩)),(7,.pointer (some ⟨n7,0,none⟩)),(9,.pointer (some ⟨n9,0,none⟩)),(10,.pointer (some ⟨n10,0,none⟩)),(11,.pointer (some ⟨n11,0,none⟩)),(12,.pointer (some ⟨n12,0,none⟩)),(13,.pointer (some ⟨nt,0,none⟩))] ∧ CorI x t (.slice sa s.length sc) (.slice la ls.length lc) w w14.heap.size n6 n7 n9 n10 n11 n12 (corO x t (val s) ls pre) W ∧ W.heap[nt]? = some (.cells (tubC (val q)) 75 (0,0)) ∧ w14.heap.size ≤ nt) ?hax ?assign ?body ?done
 case h1=>rintro pre U V hI hg;exact hI.kept hg (fun r e=>by cases e) ⟨b6,b7,b9,b10,b11,b12,bw⟩
 case ho=>rintro pre U V r hI hr ⟨o,ho,hc⟩ hg;exact hI.kept hg (fun r' e=>by cases e;exact hr) ⟨b6,b7,b9,b10,b11,b12,bw⟩
 case hc=>rintro pre U V r hI hr hsf - hg;exact hI.kept hg (fun r' e=>by cases e;exact hr) ⟨b6,b7,b9,b10,b11,b12,bw⟩
 case hax=>rintro pre q a' U V r ⟨nt,hF,hI,hnt,hn⟩ hr ⟨o,ho,hc⟩ hg;refine ⟨nt,hF,hI.kept hg (fun r' e=>by cases e;exact hr) ⟨b6,b7,b9,b10,b11,b12,bw⟩,(hg.block nt (blk_lt hnt) (fun e=>?_)).trans hnt,hn⟩;cases e;rw [ho] at hnt;cases hnt;cases hc
 case assign =>
  clear q6 q7 q9 q10 q11 q12 qb E hI0
  rintro l pre q W K ⟨q6,q7,q9,q10,q11,q12,E,hsz⟩ hK
  have hbo:=blk_lt q12
  refine wpIn_act (F.param (p:=29) (by decide) (.agg (tubC (val q)))) ?_
  clear F fa
  intro fa F
  have ER : Ext [] W W:=Ext.refl _ _
  refine wpI_region_lit rfl (fun h=>by obtain ⟨_,_,h⟩:=h;exact h) ?_
  refine sq_new F rfl (by decide) rfl (R_alloc rfl Tryz.zeroValue75) ?_;clear F fa;intro fa w15 F hw
  obtain ⟨n13,hn⟩ : ∃ n,n = W.heap.size:=⟨_,rfl⟩
  rw [← hn] at F
  have s13 : W.heap.size ≤ n13:=Nat.le_of_eq hn.symm
  have l13_E : w.heap.size ≤ n13:=by rw [hn];exact E.size
  have l13_ER : W.heap.size ≤ n13:=by rw [hn];exact ER.size
  have m13_6 : n6 < n13:=by rw [hn];exact blk_lt q6
  have m13_7 : n7 < n13:=by rw [hn];exact blk_lt q7
  have m13_9 : n9 < n13:=by rw [hn];exact blk_lt q9
  have m13_10 : n10 < n13:=by rw [hn];exact blk_lt q10
  have m13_11 : n11 < n13:=by rw [hn];exact blk_lt q11
  have m13_12 : n12 < n13:=by rw [hn];exact blk_lt q12
  replace q6:=keep_alloc hw q6
  replace q7:=keep_alloc hw q7
  replace q9:=keep_alloc hw q9
  replace q10:=keep_alloc hw q10
  replace q11:=keep_alloc hw q11
  replace q12:=keep_alloc hw q12
  replace E:=ext_alloc E hw
  replace ER:=ext_alloc ER hw
  have q13:=new_row hw hn
  clear hw hn
  refine sq_to rfl rfl (R_storeRow rfl (F.at rfl) (F.at rfl) (by kernel_rfl) (by simp [tubC,Value.oneCell']) q13 rfl) ?_;intro w16 hw
  replace q6:=keep_cells hw q6 (by omega)
  replace q7:=keep_cells hw q7 (by omega)
  replace q9:=keep_cells hw q9 (by omega)
  replace q10:=keep_cells hw q10 (by omega)
  replace q11:=keep_cells hw q11 (by omega)
  replace q12:=keep_cells hw q12 (by omega)
  replace q13:=put_row hw q13 rfl
  replace E:=ext_cells E hw (fun h=>by first | exact absurd h (by omega) | simp)
  replace ER:=ext_cells ER hw (fun h=>by first | exact absurd h (by omega) | simp)
  clear hw
  refine wpList_nil ?_
  exact hK _ _ (keeps_ext ER (by simp)) (keepR_ext0 ER hbo) ⟨n13,F.sub (.c 6 rfl (.c 7 rfl (.c 9 rfl (.c 10 rfl (.c 11 rfl (.c 12 rfl (.c 13 rfl .n))))))),⟨q6,q7,q9,q10,q11,q12,E,Nat.le_trans hsz ER.size⟩,q13,by omega⟩
 case body =>
  clear q6 q7 q9 q10 q11 q12 qb E hI0 F fa
  rintro l pre q fa W0 ⟨nt,F,⟨q6,q7,q9,q10,q11,q12,E,hsz⟩,q13,hnt⟩ hpx
  have hqm : q ∈ recL x.D.length:=hpx.subset (by simp)
  obtain ⟨hql,hqs,hqg,hq1,hq6,hqb⟩:=HRL.out q hqm
  have hro : rowOf n12 W0 = none:=rowOf_near q12
  have ER : Ext [n12] W0 W0:=Ext.refl _ _
  have hsz0:=hsz
  refine wpIn_block ?_
  refine wpIn_seq_k fun K11 hK11=>?_
  refine wpI_region_lit rfl (fun h=>by obtain ⟨_,_,h⟩:=h;exact h) ?_
  refine sq_new F rfl (by decide) rfl (R_alloc rfl Tryz.zeroValue75) ?_;clear F fa;intro fa w17 F hw
  obtain ⟨n14,hn⟩ : ∃ n,n = W0.heap.size:=⟨_,rfl⟩
  rw [← hn] at F
  have s14 : W0.heap.size ≤ n14:=Nat.le_of_eq hn.symm
  have l14_E : w.heap.size ≤ n14:=by rw [hn];exact E.size
  have l14_ER : W0.heap.size ≤ n14:=by rw [hn];exact ER.size
  have m14_6 : n6 < n14:=by rw [hn];exact blk_lt q6
  have m14_7 : n7 < n14:=by rw [hn];exact blk_lt q7
  have m14_9 : n9 < n14:=by rw [hn];exact blk_lt q9
  have m14_10 : n10 < n14:=by rw [hn];exact blk_lt q10
  have m14_11 : n11 < n14:=by rw [hn];exact blk_lt q11
  have m14_12 : n12 < n14:=by rw [hn];exact blk_lt q12
  have m14_13 : nt < n14:=by rw [hn];exact blk_lt q13
  replace q6:=keep_alloc hw q6
  replace q7:=keep_alloc hw q7
  replace q9:=keep_alloc hw q9
  replace q10:=keep_alloc hw q10
  replace q11:=keep_alloc hw q11
  replace q12:=keep_alloc hw q12
  replace q13:=keep_alloc hw q13
  replace E:=ext_alloc E hw
  replace ER:=ext_alloc ER hw
  have q14:=new_row hw hn
  clear hw hn
  refine wpList_nil ?_
  replace q14 : w17.heap[n14]? = some (.cells (tubC (mrF t q 0)) 75 (0,0)):=by rw [mrF_zero];exact q14
  refine hK11 _ _ ?_
  clear hK11
  refine wpIn_seq_k fun K12 hK12=>?_
  refine wpIn_seq_k fun K13 hK13=>?_
  refine wpI_region_lit rfl (fun h=>by obtain ⟨_,_,h⟩:=h;exact h) ?_
  refine F.vl (R_move rfl (ev_c fa _)) ?_;clear F fa;intro fa F
  refine wpList_nil ?_
  refine hK13 _ _ ?_
  clear hK13
  refine wpIn_block ?_
  have F0:=F.sub (.c 6 rfl (.c 7 rfl (.c 10 rfl (.c 11 rfl (.c 12 rfl (.c 13 rfl (.c 14 rfl .n)))))))
  refine lpI_for F0 (4) (fun i Lv W=>Lv = [(30,.int .i64 ((i : Nat) : Int))] ∧ Ext [] w W ∧ Ext [n12] W0 W ∧ W.heap[n6]? = some (.cells #[.slice sa s.length sc] 25 (0,0)) ∧ W.heap[n7]? = some (.cells #[.slice la ls.length lc] 25 (0,0)) ∧ W.heap[n9]? = some (.cells #[.int .i64 0] 35 (0,0)) ∧ W.heap[n10]? = some (.cells #[.int .i64 x.B,.slice x.da x.D.length x.dc,.slice x.la x.L.length x.lc,.int .i64 x.tol] 69 (0,0)) ∧ W.heap[n11]? = some (.cells (tubC (val t)) 75 (0,0)) ∧ W.heap[n12]? = some (.cells (nearO (mrG t) (mrC t) (corO x t (val s) ls pre)) 81 (0,0)) ∧ W.heap[nt]? = some (.cells (tubC (val q)) 75 (0,0)) ∧ W.heap[n14]? = some (.cells (tubC (mrF t q i)) 75 (0,0)) ∧ ∀ j,j < i → 0 ≤ mrG t q j) ⟨_,⟨rfl,E,ER,q6,q7,q9,q10,q11,q12,q13,q14,(fun j h=>by omega)⟩,F.sub (.c 30 rfl (.c 6 rfl (.c 7 rfl (.c 10 rfl (.c 11 rfl (.c 12 rfl (.c 13 rfl (.c 14 rfl .n))))))))⟩ ?_
  clear F F0
  clear E ER q6 q7 q9 q10 q11 q12 q13 q14
  rintro i _ fa w18 hi1 ⟨rfl,E,ER,q6,q7,q9,q10,q11,q12,q13,q14,hge⟩ F
  refine wpIn_seq_k fun K14 hK14=>?_
  refine wpI_region_lit rfl (fun h=>by obtain ⟨_,_,h⟩:=h;exact h) ?_
  refine F.vl (R_lss rfl (F.at rfl) (ev_c fa _)) ?_;clear F fa;intro fa F
  refine wpList_nil ?_
  refine hK14 _ _ ?_
  clear hK14
  refine wpIn_seq_k fun K15 hK15=>?_
  refine cdI_if F rfl (fun hc31=>?_) (fun hc31=>?_)
  ·skip
   refine wpIn_skip ?_
   refine hK15 _ _ ?_
   clear hK15
   refine wpIn_seq_k fun K16 hK16=>?_
   refine wpIn_block ?_
   refine wpIn_seq_k fun K17 hK17=>?_
   refine wpI_region_lit rfl (fun h=>by obtain ⟨_,_,h⟩:=h;exact h) ?_
   refine F.mv ?_;clear F fa;intro fa F
   refine F.as ?_;clear F fa;intro fa F
   refine wpList_nil ?_
   refine hK17 _ _ ?_
   clear hK17
   refine wpIn_seq_k fun K18 hK18=>?_
   have hqi:=hqs i (by omega)
   have hti:=HTS.out i (by omega)
   have hmg : val q i - val t i = mrG t q i:=rfl
   refine region_xI (Ext [] w18) (some 9) follows rfl (fun h=>by obtain ⟨_,_,h⟩:=h;exact h) fun w19 hh eh=>?_
   have q6_:=q6
   replace q6:=keep_same hh q6
   have q7_:=q7
   replace q7:=keep_same hh q7
   have q9_:=q9
   replace q9:=keep_same hh q9
   have q10_:=q10
   replace q10:=keep_same hh q10
   have q11_:=q11
   replace q11:=keep_same hh q11
   have q12_:=q12
   replace q12:=keep_same hh q12
   have q13_:=q13
   replace q13:=keep_same hh q13
   have q14_:=q14
   replace q14:=keep_same hh q14
   have E_:=E
   have zEw19:=E.size
   replace E:=ext_same E eh
   have ER_:=ER
   have zERw19:=ER.size
   replace ER:=ext_same ER eh
   have eT:=eh
   clear hh eh
   refine F.x (i:=0) rfl (fun w'=>R_move rfl (F.at rfl)) (fun _=>eT) ?_;clear F fa;intro fa F
   refine F.x (i:=1) rfl (fun w'=>R_move rfl (F.at rfl)) (fun _=>eT) ?_;clear F fa;intro fa F
   refine F.x (i:=2) rfl (fun w'=>R_ixArr (n:=4) (sz:=1) rfl (F.at rfl) (F.at rfl) Tryz.underlying75 (by kernel_rfl) (by omega) (by omega)) (fun _=>eT) ?_;clear F fa;intro fa F
   refine F.xr (i:=3) rfl (fun w' hS=>R_load rfl (F.at rfl) Tryz.underlying3 rfl (tub_at (hS.keep q13_ (by simp)) (k:=i) rfl (by omega))) (fun _=>eT) ?_;clear F fa;intro fa F
   refine F.x (i:=4) rfl (fun w'=>R_move rfl (F.at rfl)) (fun _=>eT) ?_;clear F fa;intro fa F
   refine F.x (i:=5) rfl (fun w'=>R_ixArr (n:=4) (sz:=1) rfl (F.at rfl) (F.at rfl) Tryz.underlying75 (by kernel_rfl) (by omega) (by omega)) (fun _=>eT) ?_;clear F fa;intro fa F
   refine F.xr (i:=6) rfl (fun w' hS=>R_load rfl (F.at rfl) Tryz.underlying3 rfl (tub_at (hS.keep q11_ (by simp)) (k:=i) rfl (by omega))) (fun _=>eT) ?_;clear F fa;intro fa F
   refine F.x (i:=7) rfl (fun w'=>R_sub rfl (F.at rfl) (F.at rfl) (by omega) (by omega)) (fun _=>eT) ?_;clear F fa;intro fa F
   refine F.x (i:=8) rfl (fun w'=>R_ixArr (n:=4) (sz:=1) rfl (F.at rfl) (F.at rfl) Tryz.underlying75 (by kernel_rfl) (by omega) (by omega)) (fun _=>eT) ?_;clear F fa;intro fa F
   refine ax_only (i:=9) (by kernel_rfl) (op_to rfl rfl rfl (R_store rfl (F.at rfl) (F.at rfl) rfl (by kernel_rfl) (tub_at q14 (k:=i) rfl (by omega)) (free_of_block q14 _)) ?_);intro w20 hw
   replace q6:=keep_cell hw q6 (by omega)
   replace q7:=keep_cell hw q7 (by omega)
   replace q9:=keep_cell hw q9 (by omega)
   replace q10:=keep_cell hw q10 (by omega)
   replace q11:=keep_cell hw q11 (by omega)
   replace q12:=keep_cell hw q12 (by omega)
   replace q13:=keep_cell hw q13 (by omega)
   replace q14:=put_tub hw q14 (k:=i) rfl (by omega)
   replace E:=ext_cell E hw (fun h=>by first | exact absurd h (by omega) | simp)
   replace ER:=ext_cell ER hw (fun h=>by first | exact absurd h (by omega) | simp)
   clear hw
   refine ⟨gone (by kernel_rfl),?_⟩
   rw [hmg,mrF_up] at q14
   refine ax_done (by kernel_rfl) ?_ _
   clear eT q6_ q7_ q9_ q10_ q11_ q12_ q13_ q14_ E_ ER_
   refine hK18 _ _ ?_
   clear hK18
   refine wpIn_seq_k fun K19 hK19=>?_
   refine wpI_region_lit rfl (fun h=>by obtain ⟨_,_,h⟩:=h;exact h) ?_
   refine F.mv ?_;clear F fa;intro fa F
   refine F.vl (R_ixArr (n:=4) (sz:=1) rfl (F.at rfl) (F.at rfl) Tryz.underlying75 (by kernel_rfl) (by omega) (by omega)) ?_;clear F fa;intro fa F
   refine F.vl (R_load rfl (F.at rfl) Tryz.underlying3 rfl (tub_at q14 (k:=i) rfl (by omega))) ?_;clear F fa;intro fa F
   rw [show mrF t q (i + 1) i = mrG t q i by simp [mrF]] at F
   refine F.vl (R_lss rfl (F.at rfl) (ev_c fa _)) ?_;clear F fa;intro fa F
   refine wpList_nil ?_
   refine hK19 _ _ ?_
   clear hK19
   refine cdI_if F rfl (fun hc45=>?_) (fun hc45=>?_)
   ·skip
    have hcb : corB x t (val s) ls q = false:=cor_neg (k:=i) (by omega) hc45
    refine wpIn_exit ?_
    try (rw [show i = 4 by omega,mrF_end] at q14;have hge4 : ∀ j,j < 4 → 0 ≤ mrG t q j:=fun j hj=>hge j (by omega))
    (try simp only [Exit.inBlock,reduceIte])
    show KeepsFrom _ _ _ ∧ KeepR _ _ _ _ ∧ _
    rw [← hw3]
    refine ⟨keeps_ext ER (by intro b hb;simp only [List.mem_cons,List.not_mem_nil,or_false] at hb;subst hb;exact .inl (by rw [hw3];exact b12)),keepR_ext ER (by intro k cs T fz hk hsf hm;simp only [List.mem_cons,List.not_mem_nil,or_false] at hm;exact hsf.2.1 hm) (.inl ((rowOf_near q12).trans hro.symm)),?_⟩
    have hsw : w3.heap.size ≤ w20.heap.size:=(by rw [hw3];exact Nat.le_trans hsz0 ER.size)
    show CorI _ _ _ _ _ _ _ _ _ _ _ _ (corO x t (val s) ls (pre ++ [q])) _
    first | exact ⟨q6,q7,q9,q10,q11,q12,E,hsw⟩ | (rw [corO_skip hcb];exact ⟨q6,q7,q9,q10,q11,q12,E,hsw⟩) | (rw [corO_skip (hco.trans hc51)];exact ⟨q6,q7,q9,q10,q11,q12,E,hsw⟩)
   ·skip
    refine wpIn_skip ?_
    refine hK16 _ _ ?_
    clear hK16
    refine wpI_region_lit rfl (fun h=>by obtain ⟨_,_,h⟩:=h;exact h) ?_
    refine F.vl (R_add rfl (F.at rfl) (ev_c fa _) (by omega) (by omega)) ?_;clear F fa;intro fa F
    refine F.mv ?_;clear F fa;intro fa F
    refine wpList_nil ?_
    show _ ∧ _
    exact ⟨by omega,_,⟨rfl,E,ER,q6,q7,q9,q10,q11,q12,q13,q14,(fun j h=>by rcases Nat.lt_succ_iff_lt_or_eq.1 h with h | rfl;(· exact hge j h);(· omega))⟩,F.sub (.c 30 rfl (.c 6 rfl (.c 7 rfl (.c 10 rfl (.c 11 rfl (.c 12 rfl (.c 13 rfl (.c 14 rfl .n))))))))⟩
  ·skip
   refine wpIn_exit ?_
   try (rw [show i = 4 by omega,mrF_end] at q14;have hge4 : ∀ j,j < 4 → 0 ≤ mrG t q j:=fun j hj=>hge j (by omega))
   refine hK12 _ _ ?_
   clear hK12
   refine wpIn_seq_k fun K20 hK20=>?_
   refine wpI_region_lit rfl (fun h=>by obtain ⟨_,_,h⟩:=h;exact h) ?_
   refine F.vl (R_loadBlk rfl (F.at rfl) Tryz.underlying69 rfl (by kernel_rfl) q10) ?_;clear F fa;intro fa F
   refine F.vl (R_loadBlk rfl (F.at rfl) Tryz.underlying75 rfl (by kernel_rfl) q13) ?_;clear F fa;intro fa F
   refine F.vl (R_load rfl (F.at rfl) Tryz.underlying25 rfl ((cells_of_block q6 0).trans (get0))) ?_;clear F fa;intro fa F
   refine F.vl (R_load rfl (F.at rfl) Tryz.underlying25 rfl ((cells_of_block q7 0).trans (get0))) ?_;clear F fa;intro fa F
   refine sq_call F rfl (by decide) rfl (R_callV rfl rfl Tryz.call55 (mpS (F.at rfl) (mpS (F.at rfl) (mpS (F.at rfl) (mpS (F.at rfl) mp0))))) (match_ok x HV.out (val q) hqs s HS.out ls HL.out.2.1 hll sa la sc lc _ (HX.out.ext E) (HR.out.ext E (by simp)) (HQ.out.ext E (by simp))) fun e w21 hR=>?_
   obtain ⟨rfl,e9⟩:=hR
   refine ⟨_,rfl,?_⟩;clear F fa;intro fa F
   replace q6:=(e9).keep0 q6
   replace q7:=(e9).keep0 q7
   replace q9:=(e9).keep0 q9
   replace q10:=(e9).keep0 q10
   replace q11:=(e9).keep0 q11
   replace q12:=(e9).keep0 q12
   replace q13:=(e9).keep0 q13
   replace q14:=(e9).keep0 q14
   replace E:=ext_same E (e9)
   replace ER:=ext_same ER (e9)
   clear e9
   refine wpList_nil ?_
   have hco:=cor_ok (x:=x) (s:=val s) (ls:=ls) hge4
   refine hK20 _ _ ?_
   clear hK20
   refine cdI_b F rfl (fun hc51=>?_) (fun hc51=>?_)
   ·skip
    refine region_xI (Ext [n12] w21) none follows rfl (fun h=>by obtain ⟨_,_,h⟩:=h;exact h) fun w22 hh eh=>?_
    have q6_:=q6
    replace q6:=keep_same hh q6
    have q7_:=q7
    replace q7:=keep_same hh q7
    have q9_:=q9
    replace q9:=keep_same hh q9
    have q10_:=q10
    replace q10:=keep_same hh q10
    have q11_:=q11
    replace q11:=keep_same hh q11
    have q12_:=q12
    replace q12:=keep_same hh q12
    have q13_:=q13
    replace q13:=keep_same hh q13
    have q14_:=q14
    replace q14:=keep_same hh q14
    have E_:=E
    have zEw22:=E.size
    replace E:=ext_same E eh
    have ER_:=ER
    have zERw22:=ER.size
    replace ER:=ext_same ER eh
    have eT:=eh.mono (Y:=[n12]) (by simp)
    clear hh eh
    refine F.xr (i:=0) rfl (fun w' hS=>R_loadBlk rfl (F.at rfl) Tryz.underlying75 rfl (by kernel_rfl) (hS.keep q14_ (by simp;omega))) (fun _=>eT) ?_;clear F fa;intro fa F
    refine F.xr (i:=1) rfl (fun w' hS=>R_loadBlk rfl (F.at rfl) Tryz.underlying75 rfl (by kernel_rfl) (hS.keep q14_ (by simp;omega))) (fun _=>eT) ?_;clear F fa;intro fa F
    have hmb : ∀ k,k < 4 → 0 ≤ mrG t q k ∧ mrG t q k ≤ 1000:=fun k hk=>⟨hge4 k hk,by have:=hqs k hk;have:=HTS.out k hk;rw [mrG];omega⟩
    refine ax_only (i:=2) (by kernel_rfl) (op_call F rfl rfl (by decide) rfl (R_callV rfl rfl Tryz.call48 (mpS (F.at rfl) mp0)) (parts_any (mrG t q) hmb _) fun e w23 hR=>?_)
    obtain ⟨rfl,e9⟩:=hR
    refine ⟨_,rfl,?_⟩;clear F fa;intro fa F
    replace q6:=(e9).keep0 q6
    replace q7:=(e9).keep0 q7
    replace q9:=(e9).keep0 q9
    replace q10:=(e9).keep0 q10
    replace q11:=(e9).keep0 q11
    replace q12:=(e9).keep0 q12
    replace q13:=(e9).keep0 q13
    replace q14:=(e9).keep0 q14
    replace E:=ext_same E (e9)
    replace ER:=ext_same ER (e9)
    replace eT:=ext_same eT (e9)
    clear e9
    refine ⟨fun _=>eT,?_⟩
    refine F.x (i:=3) rfl (fun w'=>R_buildV rfl (prS (F.at rfl) pr0) (cells:=#[.int .i64 (prt (mrG t q)),.int .i64 0]) (by kernel_rfl)) (fun _=>eT) ?_;clear F fa;intro fa F
    refine ax_only (i:=4) (by kernel_rfl) (op_call F rfl rfl (by decide) rfl (R_callV rfl rfl Tryz.call47 (mpS (F.at rfl) (mpS (F.at rfl) (mpS (F.at rfl) mp0)))) (offer_any (mrG t) (mrC t) n12 (corO x t (val s) ls pre) q _ q12) fun e w24 hR=>?_)
    obtain ⟨rfl,q12',e9⟩:=hR
    refine ⟨_,rfl,?_⟩;clear F fa;intro fa F
    replace q6:=(e9).keep q6 (by simp;omega)
    replace q7:=(e9).keep q7 (by simp;omega)
    replace q9:=(e9).keep q9 (by simp;omega)
    replace q10:=(e9).keep q10 (by simp;omega)
    replace q11:=(e9).keep q11 (by simp;omega)
    replace q13:=(e9).keep q13 (by simp;omega)
    replace q14:=(e9).keep q14 (by simp;omega)
    replace E:=E.trans' e9 (fun i hi hl=>by simp only [List.mem_cons,List.not_mem_nil,or_false] at hi ⊢;omega)
    replace ER:=ER.trans' e9 (fun i hi hl=>by simp only [List.mem_cons,List.not_mem_nil,or_false] at hi ⊢;omega)
    replace eT:=eT.trans' e9 (fun i hi hl=>by simp only [List.mem_cons,List.not_mem_nil,or_false] at hi ⊢;omega)
    refine ⟨fun _=>eT,?_⟩
    rw [← corO_take (hco.trans hc51)] at q12'
    replace q12:=q12'
    clear q12'
    refine ax_done (by kernel_rfl) ?_ _
    clear eT q6_ q7_ q9_ q10_ q11_ q12_ q13_ q14_ E_ ER_
    (try simp only [Exit.inBlock,reduceIte])
    show KeepsFrom _ _ _ ∧ KeepR _ _ _ _ ∧ _
    rw [← hw3]
    refine ⟨keeps_ext ER (by intro b hb;simp only [List.mem_cons,List.not_mem_nil,or_false] at hb;subst hb;exact .inl (by rw [hw3];exact b12)),keepR_ext ER (by intro k cs T fz hk hsf hm;simp only [List.mem_cons,List.not_mem_nil,or_false] at hm;exact hsf.2.1 hm) (.inl ((rowOf_near q12).trans hro.symm)),?_⟩
    have hsw : w3.heap.size ≤ w24.heap.size:=(by rw [hw3];exact Nat.le_trans hsz0 ER.size)
    show CorI _ _ _ _ _ _ _ _ _ _ _ _ (corO x t (val s) ls (pre ++ [q])) _
    first | exact ⟨q6,q7,q9,q10,q11,q12,E,hsw⟩ | (rw [corO_skip hcb];exact ⟨q6,q7,q9,q10,q11,q12,E,hsw⟩) | (rw [corO_skip (hco.trans hc51)];exact ⟨q6,q7,q9,q10,q11,q12,E,hsw⟩)
   ·skip
    refine wpIn_skip ?_
    (try simp only [Exit.inBlock,reduceIte])
    show KeepsFrom _ _ _ ∧ KeepR _ _ _ _ ∧ _
    rw [← hw3]
    refine ⟨keeps_ext ER (by intro b hb;simp only [List.mem_cons,List.not_mem_nil,or_false] at hb;subst hb;exact .inl (by rw [hw3];exact b12)),keepR_ext ER (by intro k cs T fz hk hsf hm;simp only [List.mem_cons,List.not_mem_nil,or_false] at hm;exact hsf.2.1 hm) (.inl ((rowOf_near q12).trans hro.symm)),?_⟩
    have hsw : w3.heap.size ≤ w21.heap.size:=(by rw [hw3];exact Nat.le_trans hsz0 ER.size)
    show CorI _ _ _ _ _ _ _ _ _ _ _ _ (corO x t (val s) ls (pre ++ [q])) _
    first | exact ⟨q6,q7,q9,q10,q11,q12,E,hsw⟩ | (rw [corO_skip hcb];exact ⟨q6,q7,q9,q10,q11,q12,E,hsw⟩) | (rw [corO_skip (hco.trans hc51)];exact ⟨q6,q7,q9,q10,q11,q12,E,hsw⟩)
 case done =>
  clear q6 q7 q9 q10 q11 q12 qb E hI0
  rintro D W hD ⟨q6,q7,q9,q10,q11,q12,E,hsz⟩ qD
  replace F:=F.mark (d:={ target:=.collected D,args:=#[] })
  refine hK9 _ _ ?_
  clear hK9
  refine wp_seq_k fun K21 hK21=>?_
  refine wp_seq_k fun K22 hK22=>?_
  by_cases hN : corO x t (val s) ls (recL x.D.length) = none
  ·skip
   replace q12 : W.heap[n12]? = some (.cells #[.int .i64 (zf 0),.int .i64 (zf 1),.int .i64 (zf 2),.int .i64 (zf 3),.int .i64 0,.int .i64 0,.bool false] 81 (0,0)):=by rw [hN] at q12;exact q12
   refine wp_region_lit ?_
   refine F.vl (R_field rfl (F.at rfl) Tryz.underlying81 rfl (n:=6) (sz:=1) rfl (by kernel_rfl) (by decide)) ?_;clear F fa;intro fa F
   refine F.vl (R_load rfl (F.at rfl) Tryz.underlying4 rfl ((cells_of_block q12 6).trans (getS (getS (getS (getS (getS (getS (get0))))))))) ?_;clear F fa;intro fa F
   refine F.vl (R_not rfl (F.at rfl)) ?_;clear F fa;intro fa F
   refine wpList_nil ?_
   refine hK22 _ _ ?_
   clear hK22
   refine cd_T F rfl ?_
   refine wp_seq_k fun K23 hK23=>?_
   refine wp_region_lit ?_
   refine F.vl (R_assign rfl (ev_c fa _)) ?_;clear F fa;intro fa F
   refine sq_to rfl rfl (R_store rfl (F.at rfl) (ev_c fa _) rfl (by kernel_rfl) ((cells_of_block q9 0).trans (get0)) (free_of_block q9 0)) ?_;intro w25 hw
   replace q6:=keep_cell hw q6 (by omega)
   replace q7:=keep_cell hw q7 (by omega)
   replace q9:=put_cell hw q9 (by simp only [List.setIfInBounds_toArray,lsQ,lzQ];exact rfl)
   replace q10:=keep_cell hw q10 (by omega)
   replace q11:=keep_cell hw q11 (by omega)
   replace q12:=keep_cell hw q12 (by omega)
   replace qD:=keep_cell hw qD (by omega)
   replace E:=ext_cell E hw (fun h=>by first | exact absurd h (by omega) | simp)
   clear hw
   refine wpList_nil ?_
   refine hK23 _ _ ?_
   clear hK23
   refine wp_ret ?_
   (try simp only [Exit.inBlock,Exit.then,reduceIte])
   refine rtM_v F ?_
   refine lv_mark qD fun w26 hw=>?_
   replace q6:=keep_putW hw qD rfl q6
   replace q7:=keep_putW hw qD rfl q7
   replace q9:=keep_putW hw qD rfl q9
   replace q10:=keep_putW hw qD rfl q10
   replace q11:=keep_putW hw qD rfl q11
   replace q12:=keep_putW hw qD rfl q12
   replace E:=ext_putW E hw (by omega)
   clear hw qD
   refine lv_caught ?_
   refine lv_nil (rs_tc F rfl rfl rfl Tryz.underlying35 rfl q9) ?_
   rw [corR,hN]
   exact ⟨none,0,rfl,World.ownsRow_nil _ _ _ _,E⟩
  ·skip
   obtain ⟨q,hq⟩:=Option.ne_none_iff_exists'.1 hN
   replace q12 : W.heap[n12]? = some (.cells #[.int .i64 (mrG t q 0),.int .i64 (mrG t q 1),.int .i64 (mrG t q 2),.int .i64 (mrG t q 3),.int .i64 (mrC t q).1,.int .i64 (mrC t q).2,.bool true] 81 (0,0)):=by rw [hq] at q12;exact q12
   refine wp_region_lit ?_
   refine F.vl (R_field rfl (F.at rfl) Tryz.underlying81 rfl (n:=6) (sz:=1) rfl (by kernel_rfl) (by decide)) ?_;clear F fa;intro fa F
   refine F.vl (R_load rfl (F.at rfl) Tryz.underlying4 rfl ((cells_of_block q12 6).trans (getS (getS (getS (getS (getS (getS (get0))))))))) ?_;clear F fa;intro fa F
   refine F.vl (R_not rfl (F.at rfl)) ?_;clear F fa;intro fa F
   refine wpList_nil ?_
   refine hK22 _ _ ?_
   clear hK22
   refine cd_F F rfl ?_
   refine wp_skip ?_
   refine hK21 _ _ ?_
   clear hK21
   refine wp_seq_k fun K24 hK24=>?_
   refine wp_region_lit ?_
   refine F.vl (R_loadBlk rfl (F.at rfl) Tryz.underlying69 rfl (by kernel_rfl) q10) ?_;clear F fa;intro fa F
   refine F.vl (R_field rfl (F.at rfl) Tryz.underlying81 rfl (n:=0) (sz:=4) rfl (by kernel_rfl) (by decide)) ?_;clear F fa;intro fa F
   refine F.vl (R_loadRow rfl (F.at rfl) Tryz.underlying75 rfl (by kernel_rfl) (range_mid' (n:=4) q12 rfl (midS (get0) (midS (getS (get0)) (midS (getS (getS (get0))) (midS (getS (getS (getS (get0)))) mid0)))))) ?_;clear F fa;intro fa F
   have hEs:=E.size
   refine sq_call F rfl (by decide) rfl (R_callV rfl rfl Tryz.call44 (mpS (F.at rfl) (mpS (F.at rfl) mp0))) (cut_ok x HV.out (mrG t q) _) fun e w27 hR=>?_
   obtain ⟨ca,cc,rfl,oo,e9⟩:=hR
   refine ⟨_,rfl,?_⟩;clear F fa;intro fa F
   replace q6:=(e9).keep0 q6
   replace q7:=(e9).keep0 q7
   replace q9:=(e9).keep0 q9
   replace q10:=(e9).keep0 q10
   replace q11:=(e9).keep0 q11
   replace q12:=(e9).keep0 q12
   replace qD:=(e9).keep0 qD
   replace E:=ext_same E (e9)
   clear e9
   replace oo:=owns_lower oo hEs
   refine F.as ?_;clear F fa;intro fa F
   refine sq_to rfl rfl (R_store rfl (F.at rfl) (ev_c fa _) rfl (by kernel_rfl) ((cells_of_block q9 0).trans (get0)) (free_of_block q9 0)) ?_;intro w28 hw
   replace oo:=owns_cellX hw oo (own_ne_type oo q9 (by decide))
   replace q6:=keep_cell hw q6 (by omega)
   replace q7:=keep_cell hw q7 (by omega)
   replace q9:=put_cell hw q9 (by simp only [List.setIfInBounds_toArray,lsQ,lzQ];exact rfl)
   replace q10:=keep_cell hw q10 (by omega)
   replace q11:=keep_cell hw q11 (by omega)
   replace q12:=keep_cell hw q12 (by omega)
   replace qD:=keep_cell hw qD (by omega)
   replace E:=ext_cell E hw (fun h=>by first | exact absurd h (by omega) | simp)
   clear hw
   refine wpList_nil ?_
   refine hK24 _ _ ?_
   clear hK24
   refine wp_ret ?_
   (try simp only [Exit.inBlock,Exit.then,reduceIte])
   refine rtM_v F ?_
   refine lv_mark qD fun w29 hw=>?_
   replace oo:=owns_put hw qD rfl oo
   replace q6:=keep_putW hw qD rfl q6
   replace q7:=keep_putW hw qD rfl q7
   replace q9:=keep_putW hw qD rfl q9
   replace q10:=keep_putW hw qD rfl q10
   replace q11:=keep_putW hw qD rfl q11
   replace q12:=keep_putW hw qD rfl q12
   replace E:=ext_putW E hw (by omega)
   clear hw qD
   refine lv_caught ?_
   refine lv_nil (rs_tc F rfl rfl rfl Tryz.underlying35 rfl q9) ?_
   rw [corR,hq]
   refine ⟨ca,cc,?_,?_,E⟩
   ·simp only [cutL_len]
   ·simp only [cutL_len];exact oo
end Go.Proofs.YtdjeecgddbjbeaaGreat
