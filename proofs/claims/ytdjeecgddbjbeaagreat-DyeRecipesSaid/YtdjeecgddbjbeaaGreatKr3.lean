/- Parts of a proof: Dju, Dlt, Dki, Dch, Dcp, Dck. No conditions. -/
import Derived.Laws.IdiomCopy
import Derived.Laws.Slices
import Derived.ScopeJumps
import Derived.WideShapes
import Derived.Test.YtdjeecgddbjbeaaGreatKr2
set_option linter.unusedVariables false
set_option linter.unusedSimpArgs false
namespace Go.Proofs.YtdjeecgddbjbeaaGreat
open Go.RowKit
theorem least_nat {p : Nat → Prop} (h : ∃ n,p n) : ∃ n,p n ∧ ∀ m,p m → n ≤ m:=by
 obtain ⟨n,hn⟩:=h
 induction n using Nat.strongRecOn with
 | _ n ih =>
  by_cases hm : ∃ m,m < n ∧ p m
  ·obtain ⟨m,h1,h2⟩:=hm
   exact ih m h1 h2
  ·exact ⟨n,hn,fun m h2=>by
    apply Classical.byContradiction
    intro h3
    exact hm ⟨m,by omega,h2⟩⟩
section
variable {P : Program} {c rest : Code} {a : Act} {w : World} {Q : Exit → Act → World → Prop}
open Classical in
theorem wp_scope_late (l : Nat) (hf : findLabel c l = some (.seq .skip rest))
  (h : ∀ JJ : Act → World → Prop,(∀ J : Nat → Act → World → Prop,(∀ n a w,J n a w → rest.wp P (Exit.jump l (fun a' w'=>∃ m,m < n ∧ J m a' w') Q) a w) → ∀ n a w,J n a w → rest.wp P (Exit.jump l JJ Q) a w) → c.wp P (Exit.jump l JJ Q) a w) : (Code.scope c).wp P Q a w:=by
 let good:=fun (J : Nat → Act → World → Prop)=>∀ n a w,J n a w → rest.wp P (Exit.jump l (fun a' w'=>∃ m,m < n ∧ J m a' w') Q) a w
 let JJ:=fun a w=>∃ n : Nat,∃ J,good J ∧ J n a w
 let mu:=fun (a : Act) (w : World)=>if e : ∃ n : Nat,∃ J,good J ∧ J n a w then Classical.choose (least_nat e) else 0
 have hmu : ∀ a w,JJ a w → (∃ J,good J ∧ J (mu a w) a w) ∧ ∀ m,(∃ J,good J ∧ J m a w) → mu a w ≤ m:=by
  intro a w e
  have:=Classical.choose_spec (least_nat (p:=fun n=>∃ J,good J ∧ J n a w) e)
  simp only [mu,dif_pos (show ∃ n : Nat,∃ J,good J ∧ J n a w from e)]
  exact this
 refine wp_scope_jumps l JJ mu hf (h JJ ?_) ?_
 ·intro J hp n a w hJ
  refine Go.wp_mono (hp n a w hJ) fun e a' w' hq=>?_
  cases e with
  | goto l'=>obtain ⟨h1,m,h2,h3⟩:=hq;exact ⟨h1,m,J,hp,h3⟩
  | _=>exact hq
 ·intro a w e
  obtain ⟨⟨J,hp,hJ⟩,hle⟩:=hmu a w e
  refine wp_seq_k fun K hK=>wp_skip ?_
  refine hK _ _ (Go.wp_mono (hp _ a w hJ) fun e a' w' hq=>?_)
  cases e with
  | goto l' =>
   obtain ⟨h1,m,h2,h3⟩:=hq
   have hj : JJ a' w':=⟨m,J,hp,h3⟩
   exact ⟨h1,hj,Nat.lt_of_le_of_lt ((hmu a' w' hj).2 m ⟨J,hp,h3⟩) h2⟩
  | _=>exact hq
end
set_option maxRecDepth 100000 in
set_option maxHeartbeats 1000000 in
theorem lnext_any (w0 w : World) (b k : Nat) (nv : Value) (h : LotsOk w0 w b k nv) (hk : k ≤ 1000000) :
  Calls Tryz.prog 72 #[.pointer (some ⟨b,0,none⟩)] w fun e w'=>∃ v : Int,e = .returned (.int .u64 v) ∧ 0 ≤ v ∧ v < 72057594037927936 ∧ LotsOk w0 w' b (k + 1) nv ∧ Ext [b] w w':=by
 obtain ⟨hb,⟨na,nc,xs,rfl,hn⟩,E0,d,st,q,hd0,hdk,hs0,hs1⟩:=h
 obtain ⟨d,rfl⟩:=Int.eq_ofNat_of_zero_le hd0
 have E : Ext [b] w w:=Ext.refl _ _
 have HS:=Lib.hid (slAt_of_rowsX (X:=[b]) hn (fun W e=>hn.ext e (by simp;omega)) 0)
 refine calls_has 67 Tryz.func72 rfl Tryz.ntmps72 (Nat.le_of_ble_eq_true rfl) ?_
 intro fa F
 refine wp_seq_k fun K1 hK1=>?_
 refine wp_region_lit ?_
 refine F.vl (R_assign rfl (ev_c fa _)) ?_;clear F fa;intro fa F
 refine wpList_nil ?_
 refine hK1 _ _ ?_
 clear hK1
 refine wp_seq_k fun K2 hK2=>?_
 refine wp_region_lit ?_
 refine F.mv ?_;clear F fa;intro fa F
 refine F.mv ?_;clear F fa;intro fa F
 refine F.vl (R_nilCheck rfl (F.at rfl)) ?_;clear F fa;intro fa F
 refine F.vl (R_field rfl (F.at rfl) Tryz.underlying58 rfl (n:=2) (sz:=1) rfl (by kernel_rfl) (by decide)) ?_;clear F fa;intro fa F
 refine F.vl (R_load rfl (F.at rfl) Tryz.underlying56 rfl ((cells_of_block q 2).trans (getS (getS (get0))))) ?_;clear F fa;intro fa F
 refine F.vl ((R_wmul rfl (F.at rfl) (ev_c fa _))) ?_;clear F fa;intro fa F
 refine F.vl ((R_wadd rfl (F.at rfl) (ev_c fa _))) ?_;clear F fa;intro fa F
 obtain ⟨s1,hs1'⟩ : ∃ s1,s1 = IntKind.u64.wrap (IntKind.u64.wrap (st * 6364136223846793005) + 1442695040888963407):=⟨_,rfl⟩
 have hw1:=wrap_u64 (IntKind.u64.wrap (st * 6364136223846793005) + 1442695040888963407)
 rw [← hs1'] at F hw1
 refine F.vl (R_nilCheck rfl (F.at rfl)) ?_;clear F fa;intro fa F
 refine F.vl (R_field rfl (F.at rfl) Tryz.underlying58 rfl (n:=2) (sz:=1) rfl (by kernel_rfl) (by decide)) ?_;clear F fa;intro fa F
 refine sq_to rfl rfl (R_store rfl (F.at rfl) (F.at rfl) rfl (by kernel_rfl) ((cells_of_block q 2).trans (getS (getS (get0)))) (free_of_block q 2)) ?_;intro w1 hw
 replace q:=put_cell hw q (by simp only [List.setIfInBounds_toArray,lsQ,lzQ];exact rfl)
 replace E:=ext_cell E hw (fun h=>by first | exact absurd h (by omega) | simp)
 replace E0:=ext_cell E0 hw (fun h=>by first | exact absurd h (by omega) | simp)
 clear hw
 refine wpList_nil ?_
 refine hK2 _ _ ?_
 clear hK2
 refine wp_seq_k fun K3 hK3=>?_
 refine wp_seq_k fun K4 hK4=>?_
 refine wp_region_st 9 follows (by kernel_rfl) fun w2 hh eh=>?_
 replace q:=keep_same hh q
 replace E:=ext_same E eh
 replace E0:=ext_same E0 eh
 clear hh eh
 refine F.smv ?_;clear F fa;intro fa F
 refine F.sv (R_nilCheck rfl (F.at rfl)) ?_;clear F fa;intro fa F
 refine F.sv (R_field rfl (F.at rfl) Tryz.underlying58 rfl (n:=1) (sz:=1) rfl (by kernel_rfl) (by decide)) ?_;clear F fa;intro fa F
 refine F.sv (R_load rfl (F.at rfl) Tryz.underlying3 rfl ((cells_of_block q 1).trans (getS (get0)))) ?_;clear F fa;intro fa F
 refine F.smv ?_;clear F fa;intro fa F
 refine F.sv (R_nilCheck rfl (F.at rfl)) ?_;clear F fa;intro fa F
 refine F.sv (R_field rfl (F.at rfl) Tryz.underlying58 rfl (n:=0) (sz:=1) rfl (by kernel_rfl) (by decide)) ?_;clear F fa;intro fa F
 refine F.sv (R_load rfl (F.at rfl) Tryz.underlying25 rfl ((cells_of_block q 0).trans (get0))) ?_;clear F fa;intro fa F
 refine F.sv (R_len rfl rfl (F.at rfl) Tryz.underlying25) ?_;clear F fa;intro fa F
 refine wpStill_nil ?_
 refine F.vl (R_lss rfl (F.at rfl) (F.at rfl)) ?_;clear F fa;intro fa F
 refine wpList_nil ?_
 refine hK4 _ _ ?_
 clear hK4
 refine cd_if F rfl (fun hc22=>?_) (fun hc22=>?_)
 ·skip
  have hdx : d < xs.length:=by omega
  refine wp_region_st 20 follows (by kernel_rfl) fun w3 hh eh=>?_
  replace q:=keep_same hh q
  replace E:=ext_same E eh
  replace E0:=ext_same E0 eh
  clear hh eh
  refine F.smv ?_;clear F fa;intro fa F
  refine F.smv ?_;clear F fa;intro fa F
  refine F.sv (R_nilCheck rfl (F.at rfl)) ?_;clear F fa;intro fa F
  refine F.sv (R_field rfl (F.at rfl) Tryz.underlying58 rfl (n:=2) (sz:=1) rfl (by kernel_rfl) (by decide)) ?_;clear F fa;intro fa F
  refine F.sv (R_load rfl (F.at rfl) Tryz.underlying56 rfl ((cells_of_block q 2).trans (getS (getS (get0))))) ?_;clear F fa;intro fa F
  refine F.smv ?_;clear F fa;intro fa F
  refine F.sv (R_nilCheck rfl (F.at rfl)) ?_;clear F fa;intro fa F
  refine F.sv (R_field rfl (F.at rfl) Tryz.underlying58 rfl (n:=0) (sz:=1) rfl (by kernel_rfl) (by decide)) ?_;clear F fa;intro fa F
  refine F.sv (R_load rfl (F.at rfl) Tryz.underlying25 rfl ((cells_of_block q 0).trans (get0))) ?_;clear F fa;intro fa F
  refine F.smv ?_;clear F fa;intro fa F
  refine F.sv (R_nilCheck rfl (F.at rfl)) ?_;clear F fa;intro fa F
  refine F.sv (R_field rfl (F.at rfl) Tryz.underlying58 rfl (n:=1) (sz:=1) rfl (by kernel_rfl) (by decide)) ?_;clear F fa;intro fa F
  refine F.sv (R_load rfl (F.at rfl) Tryz.underlying3 rfl ((cells_of_block q 1).trans (getS (get0)))) ?_;clear F fa;intro fa F
  obtain ⟨xb5,xo5,xa5,xr5⟩:=HS.out d (by omega)
  refine F.sv (R_ixSlice (sz:=1) rfl ((F.at rfl).trans (xa5 _ _)) (F.at rfl) Tryz.underlying25 (by kernel_rfl) (by omega) (by omega)) ?_;clear F fa;intro fa F
  refine F.sv (R_load rfl (F.at rfl) Tryz.underlying3 rfl (xr5 _ E0 0 _ rfl)) ?_;clear F fa;intro fa F
  refine F.sv ((R_convert rfl (F.at rfl) Tryz.underlying3 Tryz.underlying56)) ?_;clear F fa;intro fa F
  refine F.sv ((R_wmul rfl (F.at rfl) (ev_c fa _))) ?_;clear F fa;intro fa F
  refine F.sv ((R_wadd rfl (F.at rfl) (F.at rfl))) ?_;clear F fa;intro fa F
  refine F.sv (R_nilCheck rfl (F.at rfl)) ?_;clear F fa;intro fa F
  refine F.sv (R_field rfl (F.at rfl) Tryz.underlying58 rfl (n:=2) (sz:=1) rfl (by kernel_rfl) (by decide)) ?_;clear F fa;intro fa F
  refine wpStill_nil ?_
  refine sq_to rfl rfl (R_store rfl (F.at rfl) (F.at rfl) rfl (by kernel_rfl) ((cells_of_block q 2).trans (getS (getS (get0)))) (free_of_block q 2)) ?_;intro w4 hw
  replace q:=put_cell hw q (by simp only [List.setIfInBounds_toArray,lsQ,lzQ];exact rfl)
  replace E:=ext_cell E hw (fun h=>by first | exact absurd h (by omega) | simp)
  replace E0:=ext_cell E0 hw (fun h=>by first | exact absurd h (by omega) | simp)
  clear hw
  refine wpList_nil ?_
  obtain ⟨s2,hs2'⟩ : ∃ s2,s2 = IntKind.u64.wrap (s1 + IntKind.u64.wrap (IntKind.u64.wrap (xs.getD d 0) * 2862933555777941757)):=⟨_,rfl⟩
  replace hw1:=wrap_u64 (s1 + IntKind.u64.wrap (IntKind.u64.wrap (xs.getD d 0) * 2862933555777941757))
  rw [← hs2'] at q hw1
  refine hK3 _ _ ?_
  clear hK3
  refine wp_seq_k fun K6 hK6=>?_
  refine wp_region_lit ?_
  refine F.mv ?_;clear F fa;intro fa F
  refine F.vl (R_nilCheck rfl (F.at rfl)) ?_;clear F fa;intro fa F
  refine F.vl (R_field rfl (F.at rfl) Tryz.underlying58 rfl (n:=1) (sz:=1) rfl (by kernel_rfl) (by decide)) ?_;clear F fa;intro fa F
  refine F.vl (R_load rfl (F.at rfl) Tryz.underlying3 rfl ((cells_of_block q 1).trans (getS (get0)))) ?_;clear F fa;intro fa F
  refine F.vl (R_add rfl (F.at rfl) (ev_c fa _) (by omega) (by omega)) ?_;clear F fa;intro fa F
  refine F.vl (R_nilCheck rfl (F.at rfl)) ?_;clear F fa;intro fa F
  refine F.vl (R_field rfl (F.at rfl) Tryz.underlying58 rfl (n:=1) (sz:=1) rfl (by kernel_rfl) (by decide)) ?_;clear F fa;intro fa F
  refine sq_to rfl rfl (R_store rfl (F.at rfl) (F.at rfl) rfl (by kernel_rfl) ((cells_of_block q 1).trans (getS (get0))) (free_of_block q 1)) ?_;intro w5 hw
  replace q:=put_cell hw q (by simp only [List.setIfInBounds_toArray,lsQ,lzQ];exact rfl)
  replace E:=ext_cell E hw (fun h=>by first | exact absurd h (by omega) | simp)
  replace E0:=ext_cell E0 hw (fun h=>by first | exact absurd h (by omega) | simp)
  clear hw
  refine wpList_nil ?_
  refine hK6 _ _ ?_
  clear hK6
  refine wp_seq_k fun K7 hK7=>?_
  refine wp_region_st 10 follows (by kernel_rfl) fun w6 hh eh=>?_
  replace q:=keep_same hh q
  replace E:=ext_same E eh
  replace E0:=ext_same E0 eh
  clear hh eh
  refine F.smv ?_;clear F fa;intro fa F
  refine F.sv (R_nilCheck rfl (F.at rfl)) ?_;clear F fa;intro fa F
  refine F.sv (R_field rfl (F.at rfl) Tryz.underlying58 rfl (n:=2) (sz:=1) rfl (by kernel_rfl) (by decide)) ?_;clear F fa;intro fa F
  refine F.sv (R_load rfl (F.at rfl) Tryz.underlying56 rfl ((cells_of_block q 2).trans (getS (getS (get0))))) ?_;clear F fa;intro fa F
  refine F.smv ?_;clear F fa;intro fa F
  refine F.sv (R_nilCheck rfl (F.at rfl)) ?_;clear F fa;intro fa F
  refine F.sv (R_field rfl (F.at rfl) Tryz.underlying58 rfl (n:=2) (sz:=1) rfl (by kernel_rfl) (by decide)) ?_;clear F fa;intro fa F
  refine F.sv (R_load rfl (F.at rfl) Tryz.underlying56 rfl ((cells_of_block q 2).trans (getS (getS (get0))))) ?_;clear F fa;intro fa F
  refine F.sv ((R_shr (m:=29) rfl (F.at rfl) (ev_c fa _))) ?_;clear F fa;intro fa F
  refine F.sv ((R_xor rfl (F.at rfl) (F.at rfl))) ?_;clear F fa;intro fa F
  refine wpStill_nil ?_
  refine F.as ?_;clear F fa;intro fa F
  refine wpList_nil ?_
  refine hK7 _ _ ?_
  clear hK7
  refine wp_seq_k fun K8 hK8=>?_
  replace F:=F.sub (.c 3 rfl .n)
  refine wp_region_lit ?_
  refine F.mv ?_;clear F fa;intro fa F
  refine F.vl ((R_wmul rfl (F.at rfl) (ev_c fa _))) ?_;clear F fa;intro fa F
  obtain ⟨s3,hs3'⟩ : ∃ s3,s3 = IntKind.u64.wrap (bits .xor .u64 s2 (s2.fdiv (2 ^ min 29 IntKind.u64.bits)) * 2685821657736338717):=⟨_,rfl⟩
  have hw3:=wrap_u64 (bits .xor .u64 s2 (s2.fdiv (2 ^ min 29 IntKind.u64.bits)) * 2685821657736338717)
  rw [← hs3'] at F hw3
  refine F.as ?_;clear F fa;intro fa F
  refine wpList_nil ?_
  refine hK8 _ _ ?_
  clear hK8
  refine wp_seq_k fun K9 hK9=>?_
  refine wp_region_lit ?_
  refine F.mv ?_;clear F fa;intro fa F
  refine F.mv ?_;clear F fa;intro fa F
  refine F.vl ((R_shr (m:=32) rfl (F.at rfl) (ev_c fa _))) ?_;clear F fa;intro fa F
  refine F.vl ((R_xor rfl (F.at rfl) (F.at rfl))) ?_;clear F fa;intro fa F
  refine F.vl ((R_shr (m:=8) rfl (F.at rfl) (ev_c fa _))) ?_;clear F fa;intro fa F
  refine F.as ?_;clear F fa;intro fa F
  refine wpList_nil ?_
  refine hK9 _ _ ?_
  clear hK9
  refine wp_ret ?_
  (try simp only [Exit.inBlock,Exit.then,reduceIte])
  refine rt_v F (rs_1 F rfl rfl) ?_
  have hf:=fdiv_pow s3 (min 32 IntKind.u64.bits) hw3.1
  have hx:=xor_u64 s3 (s3.fdiv (2 ^ min 32 IntKind.u64.bits)) hw3 ⟨hf.1,by omega⟩
  exact ⟨_,rfl,(shr8 hx).1,(shr8 hx).2,⟨hb,⟨na,nc,xs,rfl,hn⟩,E0,_,s2,q,by omega,by omega,hw1.1,hw1.2⟩,E⟩
 ·skip
  obtain ⟨s2,hs2'⟩ : ∃ s2,s2 = s1:=⟨_,rfl⟩
  rw [← hs2'] at q hw1
  refine wp_skip ?_
  refine hK3 _ _ ?_
  clear hK3
  refine wp_seq_k fun K10 hK10=>?_
  refine wp_region_lit ?_
  refine F.mv ?_;clear F fa;intro fa F
  refine F.vl (R_nilCheck rfl (F.at rfl)) ?_;clear F fa;intro fa F
  refine F.vl (R_field rfl (F.at rfl) Tryz.underlying58 rfl (n:=1) (sz:=1) rfl (by kernel_rfl) (by decide)) ?_;clear F fa;intro fa F
  refine F.vl (R_load rfl (F.at rfl) Tryz.underlying3 rfl ((cells_of_block q 1).trans (getS (get0)))) ?_;clear F fa;intro fa F
  refine F.vl (R_add rfl (F.at rfl) (ev_c fa _) (by omega) (by omega)) ?_;clear F fa;intro fa F
  refine F.vl (R_nilCheck rfl (F.at rfl)) ?_;clear F fa;intro fa F
  refine F.vl (R_field rfl (F.at rfl) Tryz.underlying58 rfl (n:=1) (sz:=1) rfl (by kernel_rfl) (by decide)) ?_;clear F fa;intro fa F
  refine sq_to rfl rfl (R_store rfl (F.at rfl) (F.at rfl) rfl (by kernel_rfl) ((cells_of_block q 1).trans (getS (get0))) (free_of_block q 1)) ?_;intro w7 hw
  replace q:=put_cell hw q (by simp only [List.setIfInBounds_toArray,lsQ,lzQ];exact rfl)
  replace E:=ext_cell E hw (fun h=>by first | exact absurd h (by omega) | simp)
  replace E0:=ext_cell E0 hw (fun h=>by first | exact absurd h (by omega) | simp)
  clear hw
  refine wpList_nil ?_
  refine hK10 _ _ ?_
  clear hK10
  refine wp_seq_k fun K11 hK11=>?_
  refine wp_region_st 10 follows (by kernel_rfl) fun w8 hh eh=>?_
  replace q:=keep_same hh q
  replace E:=ext_same E eh
  replace E0:=ext_same E0 eh
  clear hh eh
  refine F.smv ?_;clear F fa;intro fa F
  refine F.sv (R_nilCheck rfl (F.at rfl)) ?_;clear F fa;intro fa F
  refine F.sv (R_field rfl (F.at rfl) Tryz.underlying58 rfl (n:=2) (sz:=1) rfl (by kernel_rfl) (by decide)) ?_;clear F fa;intro fa F
  refine F.sv (R_load rfl (F.at rfl) Tryz.underlying56 rfl ((cells_of_block q 2).trans (getS (getS (get0))))) ?_;clear F fa;intro fa F
  refine F.smv ?_;clear F fa;intro fa F
  refine F.sv (R_nilCheck rfl (F.at rfl)) ?_;clear F fa;intro fa F
  refine F.sv (R_field rfl (F.at rfl) Tryz.underlying58 rfl (n:=2) (sz:=1) rfl (by kernel_rfl) (by decide)) ?_;clear F fa;intro fa F
  refine F.sv (R_load rfl (F.at rfl) Tryz.underlying56 rfl ((cells_of_block q 2).trans (getS (getS (get0))))) ?_;clear F fa;intro fa F
  refine F.sv ((R_shr (m:=29) rfl (F.at rfl) (ev_c fa _))) ?_;clear F fa;intro fa F
  refine F.sv ((R_xor rfl (F.at rfl) (F.at rfl))) ?_;clear F fa;intro fa F
  refine wpStill_nil ?_
  refine F.as ?_;clear F fa;intro fa F
  refine wpList_nil ?_
  refine hK11 _ _ ?_
  clear hK11
  refine wp_seq_k fun K12 hK12=>?_
  refine wp_region_lit ?_
  refine F.mv ?_;clear F fa;intro fa F
  refine F.vl ((R_wmul rfl (F.at rfl) (ev_c fa _))) ?_;clear F fa;intro fa F
  obtain ⟨s3,hs3'⟩ : ∃ s3,s3 = IntKind.u64.wrap (bits .xor .u64 s2 (s2.fdiv (2 ^ min 29 IntKind.u64.bits)) * 2685821657736338717):=⟨_,rfl⟩
  have hw3:=wrap_u64 (bits .xor .u64 s2 (s2.fdiv (2 ^ min 29 IntKind.u64.bits)) * 2685821657736338717)
  rw [← hs3'] at F hw3
  refine F.as ?_;clear F fa;intro fa F
  refine wpList_nil ?_
  refine hK12 _ _ ?_
  clear hK12
  refine wp_seq_k fun K13 hK13=>?_
  refine wp_region_lit ?_
  refine F.mv ?_;clear F fa;intro fa F
  refine F.mv ?_;clear F fa;intro fa F
  refine F.vl ((R_shr (m:=32) rfl (F.at rfl) (ev_c fa _))) ?_;clear F fa;intro fa F
  refine F.vl ((R_xor rfl (F.at rfl) (F.at rfl))) ?_;clear F fa;intro fa F
  refine F.vl ((R_shr (m:=8) rfl (F.at rfl) (ev_c fa _))) ?_;clear F fa;intro fa F
  refine F.as ?_;clear F fa;intro fa F
  refine wpList_nil ?_
  refine hK13 _ _ ?_
  clear hK13
  refine wp_ret ?_
  (try simp only [Exit.inBlock,Exit.then,reduceIte])
  refine rt_v F (rs_1 F rfl rfl) ?_
  have hf:=fdiv_pow s3 (min 32 IntKind.u64.bits) hw3.1
  have hx:=xor_u64 s3 (s3.fdiv (2 ^ min 32 IntKind.u64.bits)) hw3 ⟨hf.1,by omega⟩
  exact ⟨_,rfl,(shr8 hx).1,(shr8 hx).2,⟨hb,⟨na,nc,xs,rfl,hn⟩,E0,_,s2,q,by omega,by omega,hw1.1,hw1.2⟩,E⟩
set_option maxRecDepth 100000 in
theorem upto_any (w0 w : World) (b k : Nat) (nv : Value) (n : Int) (h : LotsOk w0 w b k nv) (hk : k ≤ 1000000) (h0 : -1000000 ≤ n) (hn : n ≤ 1000000) :
  Calls Tryz.prog 33 #[.pointer (some ⟨b,0,none⟩),.int .i64 n] w fun e w'=>∃ v : Int,e = .returned (.int .i64 v) ∧ 0 ≤ v ∧ v ≤ max n 0 ∧ LotsOk w0 w' b (k + 1) nv ∧ Ext [b] w w':=by
 have E : Ext [b] w w:=Ext.refl _ _
 have HL:=h
 clear h
 refine calls_has 14 Tryz.func33 rfl Tryz.ntmps33 (Nat.le_of_ble_eq_true rfl) ?_
 intro fa F
 refine wp_seq_k fun K1 hK1=>?_
 refine wp_region_lit ?_
 refine F.vl (R_assign rfl (ev_c fa _)) ?_;clear F fa;intro fa F
 refine wpList_nil ?_
 refine hK1 _ _ ?_
 clear hK1
 refine wp_seq_k fun K2 hK2=>?_
 refine wp_seq_k fun K3 hK3=>?_
 refine wp_region_lit ?_
 refine F.mv ?_;clear F fa;intro fa F
 refine F.vl (R_lss rfl (F.at rfl) (ev_c fa _)) ?_;clear F fa;intro fa F
 refine wpList_nil ?_
 refine hK3 _ _ ?_
 clear hK3
 refine cd_if F rfl (fun hc6=>?_) (fun hc6=>?_)
 ·skip
  refine wp_seq_k fun K4 hK4=>?_
  refine wp_region_lit ?_
  refine F.vl (R_assign rfl (ev_c fa _)) ?_;clear F fa;intro fa F
  refine wpList_nil ?_
  refine hK4 _ _ ?_
  clear hK4
  refine wp_ret ?_
  (try simp only [Exit.inBlock,Exit.then,reduceIte])
  refine rt_v F (rs_1 F rfl rfl) ?_
  exact ⟨0,rfl,by omega,by omega,lots_mono HL (by omega),E⟩
 ·skip
  refine wp_skip ?_
  refine hK2 _ _ ?_
  clear hK2
  refine wp_seq_k fun K5 hK5=>?_
  refine wp_region_lit ?_
  refine F.mv ?_;clear F fa;intro fa F
  refine sq_call F rfl (by decide) rfl (R_callV rfl rfl Tryz.call72 (mpS (F.at rfl) mp0)) (lnext_any w0 _ b k nv HL hk) fun e w1 hR=>?_
  obtain ⟨v,rfl,hv1,hv2,HL,e1⟩:=hR
  refine ⟨_,rfl,?_⟩;clear F fa;intro fa F
  replace E:=E.trans' e1 (fun i hi hl=>by simp only [List.mem_cons,List.not_mem_nil,or_false] at hi ⊢;omega)
  have hu:=upto_val (n:=n) ⟨hv1,hv2⟩ ⟨by omega,hn⟩
  refine F.mv ?_;clear F fa;intro fa F
  refine F.vl (R_add rfl (F.at rfl) (ev_c fa _) (by omega) (by omega)) ?_;clear F fa;intro fa F
  refine F.vl ((R_convert rfl (F.at rfl) Tryz.underlying3 Tryz.underlying56)) ?_;clear F fa;intro fa F
  rw [hu.1] at F
  refine F.vl ((R_rem rfl (F.at rfl) (F.at rfl) (by omega))) ?_;clear F fa;intro fa F
  refine F.vl ((R_convert rfl (F.at rfl) Tryz.underlying56 Tryz.underlying3)) ?_;clear F fa;intro fa F
  rw [hu.2.1] at F
  refine F.as ?_;clear F fa;intro fa F
  refine wpList_nil ?_
  refine hK5 _ _ ?_
  clear hK5
  refine wp_ret ?_
  (try simp only [Exit.inBlock,Exit.then,reduceIte])
  refine rt_v F (rs_1 F rfl rfl) ?_
  exact ⟨_,rfl,hu.2.2.1,by omega,HL,E⟩
theorem in_any (w0 w : World) (b k : Nat) (nv : Value) (lo hi : Int) (h : LotsOk w0 w b k nv) (hk : k ≤ 1000000) (h1 : -1000 ≤ lo) (h2 : lo ≤ 1000) (h3 : -1000 ≤ hi) (h4 : hi ≤ 1000) :
  Calls Tryz.prog 69 #[.pointer (some ⟨b,0,none⟩),.int .i64 lo,.int .i64 hi] w fun e w'=>∃ v : Int,e = .returned (.int .i64 v) ∧ lo ≤ v ∧ v ≤ max lo hi ∧ LotsOk w0 w' b (k + 1) nv ∧ Ext [b] w w':=by
 have E : Ext [b] w w:=Ext.refl _ _
 have HL:=h
 clear h
 refine calls_has 14 Tryz.func69 rfl Tryz.ntmps69 (Nat.le_of_ble_eq_true rfl) ?_
 intro fa F
 refine wp_seq_k fun K1 hK1=>?_
 refine wp_region_lit ?_
 refine F.vl (R_assign rfl (ev_c fa _)) ?_;clear F fa;intro fa F
 refine wpList_nil ?_
 refine hK1 _ _ ?_
 clear hK1
 refine wp_seq_k fun K2 hK2=>?_
 refine wp_region_lit ?_
 refine F.mv ?_;clear F fa;intro fa F
 refine F.mv ?_;clear F fa;intro fa F
 refine F.mv ?_;clear F fa;intro fa F
 refine F.mv ?_;clear F fa;intro fa F
 refine F.vl (R_sub rfl (F.at rfl) (F.at rfl) (by omega) (by omega)) ?_;clear F fa;intro fa F
 refine sq_call F rfl (by decide) rfl (R_callV rfl rfl Tryz.call33 (mpS (F.at rfl) (mpS (F.at rfl) mp0))) (upto_any w0 _ b k nv (hi - lo) HL hk (by omega) (by omega)) fun e w1 hR=>?_
 obtain ⟨v,rfl,hv1,hv2,HL,e1⟩:=hR
 refine ⟨_,rfl,?_⟩;clear F fa;intro fa F
 replace E:=E.trans' e1 (fun i hi hl=>by simp only [List.mem_cons,List.not_mem_nil,or_false] at hi ⊢;omega)
 refine F.vl (R_add rfl (F.at rfl) (F.at rfl) (by omega) (by omega)) ?_;clear F fa;intro fa F
 refine F.as ?_;clear F fa;intro fa F
 refine wpList_nil ?_
 refine hK2 _ _ ?_
 clear hK2
 refine wp_ret ?_
 (try simp only [Exit.inBlock,Exit.then,reduceIte])
 refine rt_v F (rs_1 F rfl rfl) ?_
 exact ⟨_,rfl,by omega,by omega,HL,E⟩
set_option maxRecDepth 100000 in
theorem of_any (w0 w : World) (b k : Nat) (nv : Value) (g : Nat) (T : TypeId) (xs : List Int) (h : LotsOk w0 w b k nv) (hk : k ≤ 1000000) (hg : w.heap[g]? = some (.cells (xs.map (Value.int .i64)).toArray T (0,0))) (hgb : g ≠ b) (hx : 0 < xs.length) (hx2 : xs.length ≤ 1000) :
  Calls Tryz.prog 36 #[.pointer (some ⟨b,0,none⟩),.slice (some ⟨g,0,none⟩) xs.length xs.length] w fun e w'=>∃ v : Int,e = .returned (.int .i64 v) ∧ v ∈ xs ∧ LotsOk w0 w' b (k + 1) nv ∧ Ext [b] w w':=by
 have E : Ext [b] w w:=Ext.refl _ _
 have HL:=h
 clear h
 have HG : Hid (∀ W,Ext [b] w W → IsRows W (.slice (some ⟨g,0,none⟩) xs.length xs.length) 1 (xs.map intRow)):=fun W e=>rows_lit xs xs.length (e.keep hg (by simp [hgb]))
 have HS:=Lib.hid (slAt_of_rowsX (X:=[b]) (HG.out _ E) (fun W e=>HG.out _ e) 0)
 clear hg
 refine calls_has 13 Tryz.func36 rfl Tryz.ntmps36 (Nat.le_of_ble_eq_true rfl) ?_
 intro fa F
 refine wp_seq_k fun K1 hK1=>?_
 refine wp_region_lit ?_
 refine F.vl (R_assign rfl (ev_c fa _)) ?_;clear F fa;intro fa F
 refine wpList_nil ?_
 refine hK1 _ _ ?_
 clear hK1
 refine wp_seq_k fun K2 hK2=>?_
 refine wp_region_lit ?_
 refine F.mv ?_;clear F fa;intro fa F
 refine F.mv ?_;clear F fa;intro fa F
 refine F.mv ?_;clear F fa;intro fa F
 refine F.vl (R_len rfl rfl (F.at rfl) Tryz.underlying25) ?_;clear F fa;intro fa F
 refine F.vl (R_sub rfl (F.at rfl) (ev_c fa _) (by omega) (by omega)) ?_;clear F fa;intro fa F
 refine sq_call F rfl (by decide) rfl (R_callV rfl rfl Tryz.call33 (mpS (F.at rfl) (mpS (F.at rfl) mp0))) (upto_any w0 _ b k nv ((xs.length : Int) - 1) HL hk (by omega) (by omega)) fun e w1 hR=>?_
 obtain ⟨v,rfl,hv1,hv2,HL,e1⟩:=hR
 refine ⟨_,rfl,?_⟩;clear F fa;intro fa F
 replace E:=E.trans' e1 (fun i hi hl=>by simp only [List.mem_cons,List.not_mem_nil,or_false] at hi ⊢;omega)
 obtain ⟨i,rfl⟩:=Int.eq_ofNat_of_zero_le hv1
 have hil : i < xs.length:=by omega
 obtain ⟨xb3,xo3,xa3,xr3⟩:=HS.out i (by omega)
 refine F.vl (R_ixSlice (sz:=1) rfl ((F.at rfl).trans (xa3 _ _)) (F.at rfl) Tryz.underlying25 (by kernel_rfl) (by omega) (by omega)) ?_;clear F fa;intro fa F
 refine F.vl (R_load rfl (F.at rfl) Tryz.underlying3 rfl (xr3 _ E 0 _ rfl)) ?_;clear F fa;intro fa F
 refine F.as ?_;clear F fa;intro fa F
 refine wpList_nil ?_
 refine hK2 _ _ ?_
 clear hK2
 refine wp_ret ?_
 (try simp only [Exit.inBlock,Exit.then,reduceIte])
 refine rt_v F (rs_1 F rfl rfl) ?_
 exact ⟨_,rfl,getD_mem 0 hil,HL,E⟩
theorem rare_any (w0 w : World) (b k : Nat) (nv : Value) (n : Int) (h : LotsOk w0 w b k nv) (hk : k ≤ 1000000) (h0 : 1 ≤ n) (hn : n ≤ 1000000) :
  Calls Tryz.prog 37 #[.pointer (some ⟨b,0,none⟩),.int .i64 n] w fun e w'=>∃ r,e = .returned (.bool r) ∧ LotsOk w0 w' b (k + 1) nv ∧ Ext [b] w w':=by
 have E : Ext [b] w w:=Ext.refl _ _
 refine calls_has 10 Tryz.func37 rfl Tryz.ntmps37 (Nat.le_of_ble_eq_true rfl) ?_
 intro fa F
 refine wp_seq_k fun K1 hK1=>?_
 refine wp_region_lit ?_
 refine F.vl (R_assign rfl (ev_c fa _)) ?_;clear F fa;intro fa F
 refine wpList_nil ?_
 refine hK1 _ _ ?_
 clear hK1
 refine wp_seq_k fun K2 hK2=>?_
 refine wp_region_lit ?_
 refine F.mv ?_;clear F fa;intro fa F
 refine F.mv ?_;clear F fa;intro fa F
 refine F.vl (R_sub rfl (F.at rfl) (ev_c fa _) (by omega) (by omega)) ?_;clear F fa;intro fa F
 refine sq_call F rfl (by decide) rfl (R_callV rfl rfl Tryz.call33 (mpS (F.at rfl) (mpS (F.at rfl) mp0))) (upto_any w0 _ b k nv (n - 1) h hk (by omega) (by omega)) fun e w1 hR=>?_
 obtain ⟨v,rfl,hv0,hv1,HL,e1⟩:=hR
 refine ⟨_,rfl,?_⟩;clear F fa;intro fa F
 replace E:=E.trans' e1 (fun i hi hl=>by simp only [List.mem_cons,List.not_mem_nil,or_false] at hi ⊢;omega)
 refine F.vl (R_eqlD rfl (F.at rfl) (ev_c fa _)) ?_;clear F fa;intro fa F
 refine F.as ?_;clear F fa;intro fa F
 refine wpList_nil ?_
 refine hK2 _ _ ?_
 clear hK2
 refine wp_ret ?_
 (try simp only [Exit.inBlock,Exit.then,reduceIte])
 refine rt_v F (rs_1 F rfl rfl) ?_
 exact ⟨_,rfl,HL,E⟩
theorem newLots_any (w : World) (a : Option Addr) (n c : Nat) (zs : List Int) (h : IsRow .i64 w a n c zs) :
  Calls Tryz.prog 6 #[.slice a n c] w fun e w'=>∃ b,e = .returned (.pointer (some ⟨b,0,none⟩)) ∧ w.heap.size ≤ b ∧ b < w'.heap.size ∧ LotsOk w w' b 0 (.slice a n c) ∧ Ext [] w w':=by
 obtain ⟨xs,hxl,hr⟩:=rows_of_isRow h
 subst hxl
 have E : Ext [] w w:=Ext.refl _ _
 refine calls_has 6 Tryz.func6 rfl Tryz.ntmps6 (Nat.le_of_ble_eq_true rfl) ?_
 intro fa F
 refine wp_seq_k fun K1 hK1=>?_
 refine wp_region_lit ?_
 refine F.vl (R_assign rfl (ev_c fa _)) ?_;clear F fa;intro fa F
 refine wpList_nil ?_
 refine hK1 _ _ ?_
 clear hK1
 refine wp_seq_k fun K2 hK2=>?_
 refine wp_region_lit ?_
 refine F.mv ?_;clear F fa;intro fa F
 refine F.vl (R_buildV rfl (prS (F.at rfl) (prS (ev_c fa _) pr0)) (cells:=#[.slice a xs.length c,.int .i64 0,.int .u64 1]) (by kernel_rfl)) ?_;clear F fa;intro fa F
 refine sq_new F rfl (by decide) rfl (R_box rfl (F.at rfl)) ?_;clear F fa;intro fa w1 F hw
 obtain ⟨n5,hn⟩ : ∃ n,n = w.heap.size:=⟨_,rfl⟩
 rw [← hn] at F
 have s5 : w.heap.size ≤ n5:=Nat.le_of_eq hn.symm
 have l5_E : w.heap.size ≤ n5:=by rw [hn];exact E.size
 replace E:=ext_alloc E hw
 have q5:=new_row hw hn
 clear hw hn
 refine F.as ?_;clear F fa;intro fa F
 refine wpList_nil ?_
 refine hK2 _ _ ?_
 clear hK2
 refine wp_ret ?_
 (try simp only [Exit.inBlock,Exit.then,reduceIte])
 refine rt_v F (rs_1 F rfl rfl) ?_
 exact ⟨n5,rfl,l5_E,blk_lt q5,⟨l5_E,⟨a,c,xs,rfl,hr⟩,E.mono (fun _ h=>absurd h (by simp)),0,1,q5,by omega,by omega,by omega,by omega⟩,E⟩
theorem intRow_one (x : Int) : ∀ u ∈ intRow x,u.oneCell' = true:=by simp [intRow,Value.oneCell']
set_option maxRecDepth 100000 in
theorem copyInts_any {xs : List Int} {v : Value} {w : World} (h : RowOf w v xs) (hl : xs.length ≤ 1000) :
  Calls Tryz.prog 11 #[v] w fun e w'=>∃ a c,e = .returned (.slice a xs.length c) ∧ w'.ownsRow w.heap.size 3 1 (.slice a xs.length c) xs.length (ivs xs) ∧ Ext [] w w':=by
 obtain ⟨xa,xc,rfl,hx⟩:=h
 have E : Ext [] w w:=Ext.refl _ _
 have HX:=Lib.hid hx
 clear hx
 refine calls_has 6 Tryz.func11 rfl Tryz.ntmps11 (Nat.le_of_ble_eq_true rfl) ?_
 intro fa F
 refine wp_seq_k fun K1 hK1=>?_
 refine wp_region_lit ?_
 refine F.vl (R_assign rfl (ev_c fa _)) ?_;clear F fa;intro fa F
 refine wpList_nil ?_
 refine hK1 _ _ ?_
 clear hK1
 refine wp_seq_k fun K2 hK2=>?_
 refine wp_region_lit ?_
 refine sq_new F rfl (by decide) rfl (R_buildSlice0 rfl Tryz.underlying25 (size:=1) (by kernel_rfl)) ?_;clear F fa;intro fa w1 F hw
 obtain ⟨n3,hn⟩ : ∃ n,n = w.heap.size:=⟨_,rfl⟩
 rw [← hn] at F
 have s3 : w.heap.size ≤ n3:=Nat.le_of_eq hn.symm
 have l3_E : w.heap.size ≤ n3:=by rw [hn];exact E.size
 replace E:=ext_alloc E hw
 have q3:=new_block hw hn
 clear hw hn
 refine F.mv ?_;clear F fa;intro fa F
 have ho:=owns_empty (base:=w.heap.size) (size:=1) q3 (by omega)
 have hbl:=blk_lt q3
 clear q3
 refine sq_some F rfl (by decide) rfl (appends_run rfl (w.heap.size) (e:=3) (size:=1) (bytes:=8) Tryz.underlying25 (by kernel_rfl) (by decide) (F.at rfl) ho (F.at rfl) (srcAt_of_rows (HX.out.ext E (by simp)) (by decide) (fun _=>rfl) intRow_one) (by omega) (by omega) (by omega)) ?_;clear F fa;rintro fa v' w2 F ⟨hown',hg⟩
 rw [Nat.zero_add,List.nil_append] at hown'
 clear hbl
 obtain ⟨va5,vc5,rfl⟩:=owns_slice hown'
 replace E:=ext_appendX E ho hg (by omega)
 replace ho:=hown'
 clear hg
 rw [← ivs_flat] at ho
 refine F.as ?_;clear F fa;intro fa F
 refine wpList_nil ?_
 refine hK2 _ _ ?_
 clear hK2
 refine wp_ret ?_
 (try simp only [Exit.inBlock,Exit.then,reduceIte])
 refine rt_v F (rs_1 F rfl rfl) ?_
 exact ⟨va5,vc5,rfl,ho,E⟩
theorem slAt_ext {w w' : World} {a : Option Addr} {sz n : Nat} {row : Nat → List Value} (h : SlAt [] w a sz n row) (e : Ext [] w w') : SlAt [] w' a sz n row:=fun i hi=>by
 obtain ⟨xb,xo,h1,h2⟩:=h i hi
 exact ⟨xb,xo,h1,fun W hW=>h2 W (e.nil hW)⟩
def LolAt (w : World) (a : Option Addr) (L : List (Value × List Int)) : Prop:=SlAt [] w a 1 L.length (fun i=>[(L.getD i (.bool true,[])).1]) ∧ ∀ p ∈ L,RowOf w p.1 p.2
theorem LolAt.ext {w W : World} {a : Option Addr} {L : List (Value × List Int)} (h : LolAt w a L) (e : Ext [] w W) : LolAt W a L:=⟨slAt_ext h.1 e,fun p hp=>(h.2 p hp).ext e⟩
set_option maxRecDepth 100000 in
theorem sameInts_any (xs ys : List Int) (a b : Option Addr) (ca cb : Nat) (w : World) (hx : IsRows w (.slice a xs.length ca) 1 (xs.map intRow)) (hy : IsRows w (.slice b ys.length cb) 1 (ys.map intRow)) (h1 : xs.length ≤ 1000000) (h2 : ys.length ≤ 1000000) :
  Calls Tryz.prog 17 #[.slice a xs.length ca,.slice b ys.length cb] w fun e w'=>e = .returned (.bool (decide (xs = ys))) ∧ Ext [] w w':=by
 have HS:=Lib.hid (slAt_of_rows hx 0)
 have HU:=Lib.hid (slAt_of_rows hy 0)
 have E : Ext [] w w:=Ext.refl _ _
 clear hx hy
 refine calls_has 26 Tryz.func17 rfl Tryz.ntmps17 (Nat.le_of_ble_eq_true rfl) ?_
 intro fa F
 refine wp_seq_k fun K1 hK1=>?_
 refine wp_region_lit ?_
 refine F.vl (R_assign rfl (ev_c fa _)) ?_;clear F fa;intro fa F
 refine wpList_nil ?_
 refine hK1 _ _ ?_
 clear hK1
 refine wp_seq_k fun K2 hK2=>?_
 refine wp_seq_k fun K3 hK3=>?_
 refine wp_region_lit ?_
 refine F.mv ?_;clear F fa;intro fa F
 refine F.vl (R_len rfl rfl (F.at rfl) Tryz.underlying25) ?_;clear F fa;intro fa F
 refine F.mv ?_;clear F fa;intro fa F
 refine F.vl (R_len rfl rfl (F.at rfl) Tryz.underlying25) ?_;clear F fa;intro fa F
 refine F.vl (R_neqD rfl (F.at rfl) (F.at rfl)) ?_;clear F fa;intro fa F
 refine wpList_nil ?_
 refine hK3 _ _ ?_
 clear hK3
 refine cd_if F rfl (fun hc10=>?_) (fun hc10=>?_)
 ·skip
  refine wp_seq_k fun K4 hK4=>?_
  refine wp_region_lit ?_
  refine F.vl (R_assign rfl (ev_c fa _)) ?_;clear F fa;intro fa F
  refine wpList_nil ?_
  refine hK4 _ _ ?_
  clear hK4
  refine wp_ret ?_
  (try simp only [Exit.inBlock,Exit.then,reduceIte])
  refine rt_v F (rs_1 F rfl rfl) ?_
  exact ⟨ret_bool (decide_eq_false fun h=>by rw [h] at hc10;omega).symm,E⟩
 ·skip
  refine wp_skip ?_
  refine hK2 _ _ ?_
  clear hK2
  refine wp_seq_k fun K5 hK5=>?_
  refine wp_seq_k fun K6 hK6=>?_
  refine wp_region_lit ?_
  refine F.vl (R_assign rfl (ev_c fa _)) ?_;clear F fa;intro fa F
  refine wpList_nil ?_
  refine hK6 _ _ ?_
  clear hK6
  refine wp_block ?_
  have F0:=F.sub (.c 0 rfl (.c 1 rfl .n))
  refine lp_for F0 (xs.length) (fun i Lv W=>Lv = [(5,.int .i64 ((i : Nat) : Int))] ∧ Ext [] w W ∧ ∀ j,j < i → xs.getD j 0 = ys.getD j 0) ⟨_,⟨rfl,Ext.refl _ _,fun j hj=>absurd hj (by omega)⟩,F.sub (.c 5 rfl (.c 0 rfl (.c 1 rfl .n)))⟩ ?_
  clear F F0
  rintro i _ fa w1 hi1 ⟨rfl,EL1,hb⟩ F
  have E:=E.nil EL1
  refine wp_seq_k fun K7 hK7=>?_
  refine wp_seq_k fun K8 hK8=>?_
  refine wp_region_lit ?_
  refine F.mv ?_;clear F fa;intro fa F
  refine F.mv ?_;clear F fa;intro fa F
  refine F.vl (R_len rfl rfl (F.at rfl) Tryz.underlying25) ?_;clear F fa;intro fa F
  refine F.vl (R_lss rfl (F.at rfl) (F.at rfl)) ?_;clear F fa;intro fa F
  refine wpList_nil ?_
  refine hK8 _ _ ?_
  clear hK8
  refine cd_if F rfl (fun hc14=>?_) (fun hc14=>?_)
  ·skip
   refine wp_skip ?_
   refine hK7 _ _ ?_
   clear hK7
   refine wp_seq_k fun K9 hK9=>?_
   refine wp_block ?_
   refine wp_seq_k fun K10 hK10=>?_
   refine wp_region_st 8 follows (by kernel_rfl) fun w2 hh eh=>?_
   replace E:=ext_same E eh
   replace EL1:=ext_same EL1 eh
   clear hh eh
   refine F.smv ?_;clear F fa;intro fa F
   refine F.smv ?_;clear F fa;intro fa F
   obtain ⟨xb11,xo11,xa11,xr11⟩:=HS.out i (by omega)
   refine F.sv (R_ixSlice (sz:=1) rfl ((F.at rfl).trans (xa11 _ _)) (F.at rfl) Tryz.underlying25 (by kernel_rfl) (by omega) (by omega)) ?_;clear F fa;intro fa F
   refine F.sv (R_load rfl (F.at rfl) Tryz.underlying3 rfl (xr11 _ E 0 _ rfl)) ?_;clear F fa;intro fa F
   refine F.smv ?_;clear F fa;intro fa F
   refine F.smv ?_;clear F fa;intro fa F
   obtain ⟨xb12,xo12,xa12,xr12⟩:=HU.out i (by omega)
   refine F.sv (R_ixSlice (sz:=1) rfl ((F.at rfl).trans (xa12 _ _)) (F.at rfl) Tryz.underlying25 (by kernel_rfl) (by omega) (by omega)) ?_;clear F fa;intro fa F
   refine F.sv (R_load rfl (F.at rfl) Tryz.underlying3 rfl (xr12 _ E 0 _ rfl)) ?_;clear F fa;intro fa F
   refine wpStill_nil ?_
   refine F.vl (R_neqD rfl (F.at rfl) (F.at rfl)) ?_;clear F fa;intro fa F
   refine wpList_nil ?_
   refine hK10 _ _ ?_
   clear hK10
   refine cd_if F rfl (fun hc25=>?_) (fun hc25=>?_)
   ·skip
    refine wp_seq_k fun K13 hK13=>?_
    refine wp_region_lit ?_
    refine F.vl (R_assign rfl (ev_c fa _)) ?_;clear F fa;intro fa F
    refine wpList_nil ?_
    refine hK13 _ _ ?_
    clear hK13
    refine wp_ret ?_
    (try simp only [Exit.inBlock,Exit.then,reduceIte])
    refine rt_v F (rs_1 F rfl rfl) ?_
    exact ⟨ret_bool (decide_eq_false fun h=>hc25 (by rw [h])).symm,E⟩
   ·skip
    refine wp_skip ?_
    refine hK9 _ _ ?_
    clear hK9
    refine wp_region_lit ?_
    refine F.mv ?_;clear F fa;intro fa F
    refine F.vl (R_add rfl (F.at rfl) (ev_c fa _) (by omega) (by omega)) ?_;clear F fa;intro fa F
    refine F.as ?_;clear F fa;intro fa F
    refine wpList_nil ?_
    show _ ∧ _
    exact ⟨by omega,_,⟨rfl,EL1,fun j hj=>if e : j = i then e ▸ (by simpa using hc25) else hb j (by omega)⟩,F.sub (.c 5 rfl (.c 0 rfl (.c 1 rfl .n)))⟩
  ·skip
   refine wp_exit ?_
   refine hK5 _ _ ?_
   clear hK5
   refine wp_seq_k fun K14 hK14=>?_
   refine wp_region_lit ?_
   refine F.vl (R_assign rfl (ev_c fa _)) ?_;clear F fa;intro fa F
   refine wpList_nil ?_
   refine hK14 _ _ ?_
   clear hK14
   refine wp_ret ?_
   (try simp only [Exit.inBlock,Exit.then,reduceIte])
   refine rt_v F (rs_1 F rfl rfl) ?_
   exact ⟨ret_bool (decide_eq_true (List.ext_getElem (by omega) fun j h1 h2=>by have:=hb j (by omega);simpa [h1,h2] using this)).symm,E⟩
set_option maxRecDepth 100000 in
theorem sameLists_yes (L M : List (Value × List Int)) (he : L.map (·.2) = M.map (·.2)) (hs : ∀ p ∈ M,p.2.length ≤ 1000) (hm : M.length ≤ 1000) (a b : Option Addr) (ca cb : Nat) (w : World) (h : LolAt w a L) (k : LolAt w b M) :
  Calls Tryz.prog 16 #[.slice a L.length ca,.slice b M.length cb] w fun e w'=>e = .returned (.bool true) ∧ Ext [] w w':=by
 have E : Ext [] w w:=Ext.refl _ _
 have hl : L.length = M.length:=by have:=congrArg List.length he;simpa using this
 have HL:=Lib.hid h
 have HM:=Lib.hid k
 have HS:=Lib.hid h.1
 have HU:=Lib.hid k.1
 have HE:=Lib.hid he
 clear h k he
 refine calls_has 27 Tryz.func16 rfl Tryz.ntmps16 (Nat.le_of_ble_eq_true rfl) ?_
 intro fa F
 refine wp_seq_k fun K1 hK1=>?_
 refine wp_region_lit ?_
 refine F.vl (R_assign rfl (ev_c fa _)) ?_;clear F fa;intro fa F
 refine wpList_nil ?_
 refine hK1 _ _ ?_
 clear hK1
 refine wp_seq_k fun K2 hK2=>?_
 refine wp_seq_k fun K3 hK3=>?_
 refine wp_region_lit ?_
 refine F.mv ?_;clear F fa;intro fa F
 refine F.vl (R_len rfl rfl (F.at rfl) Tryz.underlying22) ?_;clear F fa;intro fa F
 refine F.mv ?_;clear F fa;intro fa F
 refine F.vl (R_len rfl rfl (F.at rfl) Tryz.underlying22) ?_;clear F fa;intro fa F
 refine F.vl (R_neqB (b:=false) rfl (F.at rfl) (F.at rfl) (decide_eq_true ((by omega)))) ?_;clear F fa;intro fa F
 refine wpList_nil ?_
 refine hK3 _ _ ?_
 clear hK3
 refine cd_F F rfl ?_
 refine wp_skip ?_
 refine hK2 _ _ ?_
 clear hK2
 refine wp_seq_k fun K4 hK4=>?_
 refine wp_seq_k fun K5 hK5=>?_
 refine wp_region_lit ?_
 refine F.vl (R_assign rfl (ev_c fa _)) ?_;clear F fa;intro fa F
 refine wpList_nil ?_
 refine hK5 _ _ ?_
 clear hK5
 refine wp_block ?_
 have F0:=F.sub (.c 0 rfl (.c 1 rfl .n))
 refine lp_for F0 (L.length) (fun i Lv W=>Lv = [(5,.int .i64 ((i : Nat) : Int))] ∧ Ext [] w W) ⟨_,⟨rfl,Ext.refl _ _⟩,F.sub (.c 5 rfl (.c 0 rfl (.c 1 rfl .n)))⟩ ?_
 clear F F0
 rintro i _ fa w1 hi1 ⟨rfl,EL1⟩ F
 have E:=E.nil EL1
 refine wp_seq_k fun K6 hK6=>?_
 refine wp_seq_k fun K7 hK7=>?_
 refine wp_region_lit ?_
 refine F.mv ?_;clear F fa;intro fa F
 refine F.mv ?_;clear F fa;intro fa F
 refine F.vl (R_len rfl rfl (F.at rfl) Tryz.underlying22) ?_;clear F fa;intro fa F
 refine F.vl (R_lss rfl (F.at rfl) (F.at rfl)) ?_;clear F fa;intro fa F
 refine wpList_nil ?_
 refine hK7 _ _ ?_
 clear hK7
 refine cd_if F rfl (fun hc14=>?_) (fun hc14=>?_)
 ·skip
  refine wp_skip ?_
  refine hK6 _ _ ?_
  clear hK6
  refine wp_seq_k fun K8 hK8=>?_
  refine wp_block ?_
  refine wp_seq_k fun K9 hK9=>?_
  obtain ⟨la,lca,hla,hlr⟩:=HL.out.2 _ (getD_mem (.bool true,[]) (show i < L.length by omega))
  obtain ⟨ma,mca,hma,hmr⟩:=HM.out.2 _ (getD_mem (.bool true,[]) (show i < M.length by omega))
  have hsame : (L.getD i (.bool true,[])).2 = (M.getD i (.bool true,[])).2:=by rw [← getD_key (fun p : Value × List Int=>p.2) (.bool true,[]) L (show i < L.length by omega),← getD_key (fun p : Value × List Int=>p.2) (.bool true,[]) M (show i < M.length by omega),HE.out]
  have hsz:=hs _ (getD_mem (.bool true,[]) (show i < M.length by omega))
  refine wp_region_st 8 follows (by kernel_rfl) fun w2 hh eh=>?_
  replace E:=ext_same E eh
  replace EL1:=ext_same EL1 eh
  clear hh eh
  refine F.smv ?_;clear F fa;intro fa F
  refine F.smv ?_;clear F fa;intro fa F
  obtain ⟨xb10,xo10,xa10,xr10⟩:=HS.out i (by omega)
  refine F.sv (R_ixSlice (sz:=1) rfl ((F.at rfl).trans (xa10 _ _)) (F.at rfl) Tryz.underlying22 (by kernel_rfl) (by omega) (by omega)) ?_;clear F fa;intro fa F
  refine F.sv (R_load rfl (F.at rfl) Tryz.underlying25 rfl (xr10 _ E 0 _ rfl)) ?_;clear F fa;intro fa F
  rw [hla] at F
  refine F.smv ?_;clear F fa;intro fa F
  refine F.smv ?_;clear F fa;intro fa F
  obtain ⟨xb11,xo11,xa11,xr11⟩:=HU.out i (by omega)
  refine F.sv (R_ixSlice (sz:=1) rfl ((F.at rfl).trans (xa11 _ _)) (F.at rfl) Tryz.underlying22 (by kernel_rfl) (by omega) (by omega)) ?_;clear F fa;intro fa F
  refine F.sv (R_load rfl (F.at rfl) Tryz.underlying25 rfl (xr11 _ E 0 _ rfl)) ?_;clear F fa;intro fa F
  rw [hma] at F
  refine wpStill_nil ?_
  refine sq_call F rfl (by decide) rfl (R_callV rfl rfl Tryz.call17 (mpS (F.at rfl) (mpS (F.at rfl) mp0))) (sameInts_any _ _ _ _ _ _ _ (hlr.ext E (by simp)) (hmr.ext E (by simp)) (by rw [hsame];omega) (by omega)) fun e w3 hR=>?_
  obtain ⟨rfl,e9⟩:=hR
  refine ⟨_,rfl,?_⟩;clear F fa;intro fa F
  replace E:=ext_same E (e9)
  replace EL1:=ext_same EL1 (e9)
  clear e9
  rw [decide_eq_true hsame] at F
  refine F.vl (R_not rfl (F.at rfl)) ?_;clear F fa;intro fa F
  refine wpList_nil ?_
  refine hK9 _ _ ?_
  clear hK9
  refine cd_F F rfl ?_
  refine wp_skip ?_
  refine hK8 _ _ ?_
  clear hK8
  refine wp_region_lit ?_
  refine F.mv ?_;clear F fa;intro fa F
  refine F.vl (R_add rfl (F.at rfl) (ev_c fa _) (by omega) (by omega)) ?_;clear F fa;intro fa F
  refine F.as ?_;clear F fa;intro fa F
  refine wpList_nil ?_
  show _ ∧ _
  exact ⟨by omega,_,⟨rfl,EL1⟩,F.sub (.c 5 rfl (.c 0 rfl (.c 1 rfl .n)))⟩
 ·skip
  refine wp_exit ?_
  refine hK4 _ _ ?_
  clear hK4
  refine wp_seq_k fun K12 hK12=>?_
  refine wp_region_lit ?_
  refine F.vl (R_assign rfl (ev_c fa _)) ?_;clear F fa;intro fa F
  refine wpList_nil ?_
  refine hK12 _ _ ?_
  clear hK12
  refine wp_ret ?_
  (try simp only [Exit.inBlock,Exit.then,reduceIte])
  refine rt_v F (rs_1 F rfl rfl) ?_
  exact ⟨rfl,E⟩
def LisPost (LL : List (List Int)) (w : World) (e : Ending) (w' : World) : Prop:=∃ (M : List (Value × List Int)) (b : Option Addr) (d : Nat),e = .returned (.slice b M.length d) ∧ M.map (·.2) = LL ∧ w'.ownsRow w.heap.size 25 1 (.slice b M.length d) M.length (M.map (·.1)) ∧ FamT w' w.heap.size M ∧ Ext [] w w'
set_option maxRecDepth 100000 in
set_option maxHeartbeats 1000000 in
theorem copyLists_any (L : List (Value × List Int)) (hl : L.length ≤ 1000) (hs : ∀ p ∈ L,p.2.length ≤ 1000) (a : Option Addr) (c : Nat) (w : World) (h : LolAt w a L) :
  Calls Tryz.prog 38 #[.slice a L.length c] w (LisPost (L.map (·.2)) w):=by
 have E : Ext [] w w:=Ext.refl _ _
 have HL:=Lib.hid h
 have HS:=Lib.hid h.1
 have Hs:=Lib.hid hs
 clear h hs
 have oo : w.ownsRow w.heap.size 25 1 (.slice none 0 0) 0 (([] : List (Value × List Int)).map (·.1)):=World.ownsRow_nil _ _ _ _
 have fam : FamT w w.heap.size []:=fam_nil _ _
 refine calls_has 20 Tryz.func38 rfl Tryz.ntmps38 (Nat.le_of_ble_eq_true rfl) ?_
 intro fa F
 refine wp_seq_k fun K1 hK1=>?_
 refine wp_region_lit ?_
 refine F.vl (R_assign rfl (ev_c fa _)) ?_;clear F fa;intro fa F
 refine wpList_nil ?_
 refine hK1 _ _ ?_
 clear hK1
 refine wp_seq_k fun K2 hK2=>?_
 refine wp_region_lit ?_
 refine F.vl (R_assign rfl (ev_c fa _)) ?_;clear F fa;intro fa F
 refine wpList_nil ?_
 refine hK2 _ _ ?_
 clear hK2
 refine wp_seq_k fun K3 hK3=>?_
 refine wp_seq_k fun K4 hK4=>?_
 refine wp_region_lit ?_
 refine F.vl (R_assign rfl (ev_c fa _)) ?_;clear F fa;intro fa F
 refine wpList_nil ?_
 refine hK4 _ _ ?_
 clear hK4
 refine wp_block ?_
 have F0:=F.sub (.c 0 rfl .n)
 refine lp_for F0 (L.length) (fun i Lv W=>∃ va : Option Addr,∃ vc : Nat,∃ O : List (Value × List Int),Lv = [(3,.slice va O.length vc),(4,.int .i64 ((i : Nat) : Int))] ∧ Ext [] w W ∧ W.ownsRow w.heap.size 25 1 (.slice va O.length vc) O.length (O.map (·.1)) ∧ FamT W w.heap.size O ∧ O.map (·.2) = (L.map (·.2)).take i) ⟨_,⟨none,0,[],rfl,E,oo,fam,rfl⟩,F.sub (.c 3 rfl (.c 4 rfl (.c 0 rfl .n)))⟩ ?_
 clear F F0
 clear E
 clear oo
 clear fam
 rintro i _ fa w1 hi1 ⟨va,vc,O,rfl,E,oo,fam,hO⟩ F
 have hOl : O.length = i:=by have:=congrArg List.length hO;simp only [List.length_map,List.length_take] at this;omega
 refine wp_seq_k fun K5 hK5=>?_
 refine wp_seq_k fun K6 hK6=>?_
 refine wp_region_lit ?_
 refine F.mv ?_;clear F fa;intro fa F
 refine F.mv ?_;clear F fa;intro fa F
 refine F.vl (R_len rfl rfl (F.at rfl) Tryz.underlying22) ?_;clear F fa;intro fa F
 refine F.vl (R_lss rfl (F.at rfl) (F.at rfl)) ?_;clear F fa;intro fa F
 refine wpList_nil ?_
 refine hK6 _ _ ?_
 clear hK6
 refine cd_if F rfl (fun hc8=>?_) (fun hc8=>?_)
 ·skip
  refine wp_skip ?_
  refine hK5 _ _ ?_
  clear hK5
  refine wp_seq_k fun K7 hK7=>?_
  refine wp_block ?_
  obtain ⟨la,lca,hla,hlr⟩:=HL.out.2 _ (getD_mem (.bool true,[]) (show i < L.length by omega))
  have hsz:=Hs.out _ (getD_mem (.bool true,[]) (show i < L.length by omega))
  refine wp_region_lit ?_
  refine F.mv ?_;clear F fa;intro fa F
  refine F.mv ?_;clear F fa;intro fa F
  refine F.mv ?_;clear F fa;intro fa F
  obtain ⟨xb8,xo8,xa8,xr8⟩:=HS.out i (by omega)
  refine F.vl (R_ixSlice (sz:=1) rfl ((F.at rfl).trans (xa8 _ _)) (F.at rfl) Tryz.underlying22 (by kernel_rfl) (by omega) (by omega)) ?_;clear F fa;intro fa F
  refine F.vl (R_load rfl (F.at rfl) Tryz.underlying25 rfl (xr8 _ E 0 _ rfl)) ?_;clear F fa;intro fa F
  rw [hla] at F
  have hflt:=Lib.hid (fam_lt fam)
  obtain ⟨B1,hB1⟩ : ∃ B1,B1 = w1.heap.size:=⟨_,rfl⟩
  rw [← hB1] at hflt
  have hB1w : w.heap.size ≤ B1:=by rw [hB1];exact E.size
  refine sq_call F rfl (by decide) rfl (R_callV rfl rfl Tryz.call11 (mpS (F.at rfl) mp0)) (copyInts_any (xs:=(L.getD i (.bool true,[])).2) ⟨la,lca,rfl,hlr.ext E (by simp)⟩ hsz) fun e w2 hR=>?_
  obtain ⟨ra,rc,rfl,ro,eX⟩:=hR
  refine ⟨_,rfl,?_⟩;clear F fa;intro fa F
  replace oo:=owns_ext oo (eX) (by simp)
  replace fam:=fam_lift fam fun _ _ _ h=>owns_ext h (eX) (by simp)
  replace E:=ext_same E (eX)
  rw [← hB1] at ro
  have fam2:=fam_perm (fam_join (b1:=B1) (L:=[(Value.slice ra (L.getD i (.bool true,[])).2.length rc,(L.getD i (.bool true,[])).2)]) ⟨fun p hp=>(by obtain rfl : p = (Value.slice ra (L.getD i (.bool true,[])).2.length rc,(L.getD i (.bool true,[])).2):=(by simpa using hp);exact ro),List.pairwise_singleton _ _⟩ fam hflt.out hB1w) (M:=O ++ [(Value.slice ra (L.getD i (.bool true,[])).2.length rc,(L.getD i (.bool true,[])).2)]) List.perm_append_comm
  clear fam ro
  have fam:=fam2
  clear fam2
  refine sq_new F rfl (by decide) rfl (R_buildSliceV rfl (prS (F.at rfl) pr0) Tryz.underlying22 (size:=1) (by kernel_rfl) (by decide) (by decide) Tryz.zeroValue25 (cells:=#[.slice ra ((L.getD i (.bool true,[])).2.length) rc]) (by kernel_rfl)) ?_;clear F fa;intro fa w3 F hw
  obtain ⟨n17,hn⟩ : ∃ n,n = w2.heap.size:=⟨_,rfl⟩
  rw [← hn] at F
  have s17 : w2.heap.size ≤ n17:=Nat.le_of_eq hn.symm
  have l17_E : w.heap.size ≤ n17:=by rw [hn];exact E.size
  have o17_oo:=Lib.hid (own_ne_new oo hn)
  replace oo:=owns_alloc hw oo
  replace fam:=fam_lift fam fun _ _ _ h=>owns_alloc hw h
  replace E:=ext_alloc E hw
  have q17:=new_block hw hn
  clear hw hn
  have hEs:=E.size
  refine sq_some F rfl (by decide) rfl (append_run rfl (w.heap.size) (e:=25) (size:=1) (bytes:=24) Tryz.underlying22 (by kernel_rfl) (by decide) (F.at rfl) oo (F.at rfl) q17 rfl (by simp [Value.oneCell']) (by omega) (by omega) (by omega)) ?_;clear F fa;rintro fa v' w4 F ⟨hown',hg⟩
  obtain ⟨va18,vc18,rfl⟩:=owns_slice hown'
  replace fam:=fam_lift fam fun _ _ _ h=>owns_other h oo hg (by decide)
  replace E:=ext_appendX E oo hg (by omega)
  replace oo:=hown'
  clear hg
  obtain ⟨P2,hP2e⟩ : ∃ P2,P2 = O ++ [(Value.slice ra (L.getD i (.bool true,[])).2.length rc,(L.getD i (.bool true,[])).2)]:=⟨_,rfl⟩
  have hPl3 : O.length + 1 = P2.length:=by rw [hP2e,List.length_append];rfl
  have hO3 : P2.map (·.2) = (L.map (·.2)).take (i + 1):=by rw [hP2e,List.map_append,hO,List.take_add_one,List.getElem?_map,List.getElem?_eq_getElem (show i < L.length by omega)];simp [List.getD_eq_getElem?_getD,List.getElem?_eq_getElem (show i < L.length by omega)]
  rw [show O.map (·.1) ++ [Value.slice ra (L.getD i (.bool true,[])).2.length rc] = P2.map (·.1) by rw [hP2e,List.map_append];rfl,hPl3] at oo
  rw [hPl3] at F
  rw [← hP2e] at fam
  refine F.as ?_;clear F fa;intro fa F
  refine wpList_nil ?_
  refine hK7 _ _ ?_
  clear hK7
  refine wp_region_lit ?_
  refine F.mv ?_;clear F fa;intro fa F
  refine F.vl (R_add rfl (F.at rfl) (ev_c fa _) (by omega) (by omega)) ?_;clear F fa;intro fa F
  refine F.as ?_;clear F fa;intro fa F
  refine wpList_nil ?_
  show _ ∧ _
  exact ⟨by omega,_,⟨_,_,_,rfl,E,oo,fam,hO3⟩,F.sub (.c 3 rfl (.c 4 rfl (.c 0 rfl .n)))⟩
 ·skip
  refine wp_exit ?_
  obtain rfl : i = L.length:=by omega
  refine hK3 _ _ ?_
  clear hK3
  refine wp_seq_k fun K9 hK9=>?_
  refine wp_region_lit ?_
  refine F.mv ?_;clear F fa;intro fa F
  refine F.as ?_;clear F fa;intro fa F
  refine wpList_nil ?_
  refine hK9 _ _ ?_
  clear hK9
  refine wp_ret ?_
  (try simp only [Exit.inBlock,Exit.then,reduceIte])
  refine rt_v F (rs_1 F rfl rfl) ?_
  exact ⟨O,va,vc,rfl,by rw [hO,List.take_of_length_le (by simp)],oo,fam,E⟩
structure Vm where
 B : Int
 D : List (Value × List Int)
 da : Option Addr
 dc : Nat
 L : List (Value × List Int)
 la : Option Addr
 lc : Nat
 tol : Int
structure Vm.At (x : Vm) (w : World) : Prop where
 d : LolAt w x.da x.D
 l : LolAt w x.la x.L
theorem Vm.At.ext {x : Vm} {w W : World} (h : x.At w) (e : Ext [] w W) : x.At W:=⟨h.d.ext e,h.l.ext e⟩
def SmallL (L : List (Value × List Int)) : Prop:=L.length ≤ 1000 ∧ ∀ p ∈ L,p.2.length ≤ 1000
def outB (n lo hi : Int) : Bool:=decide (n < lo) || decide (hi < n)
theorem outB_no {n lo hi : Int} : outB n lo hi = false ↔ lo ≤ n ∧ n ≤ hi:=by
 simp only [outB,Bool.or_eq_false_iff,decide_eq_false_iff_not]
 omega
def sizE (n most : Int) : Int:=if n = 0 then 7 else if most < n then 6 else 0
def numE (l : List Int) (many hi : Int) : Int:=if (l.length : Int) ≠ many then 9 else if l.all (fun n=>!outB n 0 hi) then 0 else 1
def numS (l : List Int) (many hi : Int) : Int:=if numE l many hi = 0 then l.sum else 0
set_option maxRecDepth 100000 in
theorem outside_any (n lo hi : Int) (w : World) : Calls Tryz.prog 83 #[.int .i64 n,.int .i64 lo,.int .i64 hi] w fun e w'=>e = .returned (.bool (outB n lo hi)) ∧ Ext [] w w':=by
 have E : Ext [] w w:=Ext.refl _ _
 have hl : outB n lo hi = (decide (n < lo) || decide (hi < n)):=rfl
 refine calls_has 15 Tryz.func83 rfl Tryz.ntmps83 (Nat.le_of_ble_eq_true rfl) ?_
 intro fa F
 refine wp_seq_k fun K1 hK1=>?_
 refine wp_region_lit ?_
 refine F.vl (R_assign rfl (ev_c fa _)) ?_;clear F fa;intro fa F
 refine wpList_nil ?_
 refine hK1 _ _ ?_
 clear hK1
 refine wp_seq_k fun K2 hK2=>?_
 by_cases c1 : n < lo
 ·skip
  refine wp_region_lit ?_
  refine F.mv ?_;clear F fa;intro fa F
  refine F.mv ?_;clear F fa;intro fa F
  refine F.vl (R_lssB (b:=true) rfl (F.at rfl) (F.at rfl) (decide_eq_true ((by omega)))) ?_;clear F fa;intro fa F
  refine F.mv ?_;clear F fa;intro fa F
  refine sq_no F rfl (by decide) (wantF F rfl rfl (by decide) rfl (by decide)) ?_;clear F fa;intro fa F
  refine sq_no F rfl (by decide) (wantF F rfl rfl (by decide) rfl (by decide)) ?_;clear F fa;intro fa F
  refine sq_no F rfl (by decide) (wantF F rfl rfl (by decide) rfl (by decide)) ?_;clear F fa;intro fa F
  refine F.vl (R_pickT rfl (F.at rfl) (ev_c fa _)) ?_;clear F fa;intro fa F
  refine F.as ?_;clear F fa;intro fa F
  refine wpList_nil ?_
  rw [decide_eq_true c1,Bool.true_or] at hl
  refine hK2 _ _ ?_
  clear hK2
  refine wp_ret ?_
  (try simp only [Exit.inBlock,Exit.then,reduceIte])
  refine rt_v F (rs_1 F rfl rfl) ?_
  exact ⟨congrArg (fun x=>Ending.returned (Value.bool x)) hl.symm,E⟩
 ·skip
  by_cases c2 : hi < n
  ·skip
   refine wp_region_lit ?_
   refine F.mv ?_;clear F fa;intro fa F
   refine F.mv ?_;clear F fa;intro fa F
   refine F.vl (R_lssB (b:=false) rfl (F.at rfl) (F.at rfl) (decide_eq_false ((by omega)))) ?_;clear F fa;intro fa F
   refine F.mv ?_;clear F fa;intro fa F
   refine F.mv ?_ (hw:=(wantT F rfl rfl (by decide) rfl));clear F fa;intro fa F
   refine F.mv ?_ (hw:=(wantT F rfl rfl (by decide) rfl));clear F fa;intro fa F
   refine F.vl (R_gtrB (b:=true) rfl (F.at rfl) (F.at rfl) (decide_eq_true ((by omega)))) ?_ (hw:=(wantT F rfl rfl (by decide) rfl));clear F fa;intro fa F
   refine F.vl (R_pickF rfl (F.at rfl) (F.at rfl)) ?_;clear F fa;intro fa F
   refine F.as ?_;clear F fa;intro fa F
   refine wpList_nil ?_
   rw [decide_eq_true c2,Bool.or_true] at hl
   refine hK2 _ _ ?_
   clear hK2
   refine wp_ret ?_
   (try simp only [Exit.inBlock,Exit.then,reduceIte])
   refine rt_v F (rs_1 F rfl rfl) ?_
   exact ⟨congrArg (fun x=>Ending.returned (Value.bool x)) hl.symm,E⟩
  ·skip
   refine wp_region_lit ?_
   refine F.mv ?_;clear F fa;intro fa F
   refine F.mv ?_;clear F fa;intro fa F
   refine F.vl (R_lssB (b:=false) rfl (F.at rfl) (F.at rfl) (decide_eq_false ((by omega)))) ?_;clear F fa;intro fa F
   refine F.mv ?_;clear F fa;intro fa F
   refine F.mv ?_ (hw:=(wantT F rfl rfl (by decide) rfl));clear F fa;intro fa F
   refine F.mv ?_ (hw:=(wantT F rfl rfl (by decide) rfl));clear F fa;intro fa F
   refine F.vl (R_gtrB (b:=false) rfl (F.at rfl) (F.at rfl) (decide_eq_false ((by omega)))) ?_ (hw:=(wantT F rfl rfl (by decide) rfl));clear F fa;intro fa F
   refine F.vl (R_pickF rfl (F.at rfl) (F.at rfl)) ?_;clear F fa;intro fa F
   refine F.as ?_;clear F fa;intro fa F
   refine wpList_nil ?_
   rw [decide_eq_false c1,decide_eq_false c2] at hl
   refine hK2 _ _ ?_
   clear hK2
   refine wp_ret ?_
   (try simp only [Exit.inBlock,Exit.then,reduceIte])
   refine rt_v F (rs_1 F rfl rfl) ?_
   exact ⟨congrArg (fun x=>Ending.returned (Value.bool x)) hl.symm,E⟩
theorem sized_any (n m : Int) (w : World) : Calls Tryz.prog 84 #[.int .i64 n,.int .i64 m] w fun e w'=>e = .returned (.int .i64 (sizE n m)) ∧ Ext [] w w':=by
 have E : Ext [] w w:=Ext.refl _ _
 refine calls_has 12 Tryz.func84 rfl Tryz.ntmps84 (Nat.le_of_ble_eq_true rfl) ?_
 intro fa F
 refine wp_seq_k fun K1 hK1=>?_
 refine wp_region_lit ?_
 refine F.vl (R_assign rfl (ev_c fa _)) ?_;clear F fa;intro fa F
 refine wpList_nil ?_
 refine hK1 _ _ ?_
 clear hK1
 refine wp_seq_k fun K2 hK2=>?_
 refine wp_block ?_
 refine wp_seq_k fun K3 hK3=>?_
 refine wp_region_lit ?_
 refine F.mv ?_;clear F fa;intro fa F
 refine F.vl (R_eqlD rfl (F.at rfl) (ev_c fa _)) ?_;clear F fa;intro fa F
 refine F.as ?_;clear F fa;intro fa F
 refine wpList_nil ?_
 refine hK3 _ _ ?_
 clear hK3
 refine cd_if F rfl (fun hc5=>?_) (fun hc5=>?_)
 ·skip
  refine wp_seq_k fun K4 hK4=>?_
  refine wp_region_lit ?_
  refine F.vl (R_assign rfl (ev_c fa _)) ?_;clear F fa;intro fa F
  refine wpList_nil ?_
  refine hK4 _ _ ?_
  clear hK4
  refine wp_ret ?_
  (try simp only [Exit.inBlock,Exit.then,reduceIte])
  refine rt_v F (rs_1 F rfl rfl) ?_
  first | exact ⟨ret_int (by rw [sizE,if_pos (by omega)]),E⟩ | exact ⟨ret_int (by rw [sizE,if_neg (by omega),if_pos (by omega)]),E⟩ | exact ⟨ret_int (by rw [sizE,if_neg (by omega),if_neg (by omega)]),E⟩
 ·skip
  refine wp_seq_k fun K5 hK5=>?_
  refine wp_region_lit ?_
  refine F.mv ?_;clear F fa;intro fa F
  refine F.mv ?_;clear F fa;intro fa F
  refine F.vl (R_gtr rfl (F.at rfl) (F.at rfl)) ?_;clear F fa;intro fa F
  refine F.as ?_;clear F fa;intro fa F
  refine wpList_nil ?_
  refine hK5 _ _ ?_
  clear hK5
  refine cd_if F rfl (fun hc8=>?_) (fun hc8=>?_)
  ·skip
   refine wp_seq_k fun K6 hK6=>?_
   refine wp_region_lit ?_
   refine F.vl (R_assign rfl (ev_c fa _)) ?_;clear F fa;intro fa F
   refine wpList_nil ?_
   refine hK6 _ _ ?_
   clear hK6
   refine wp_ret ?_
   (try simp only [Exit.inBlock,Exit.then,reduceIte])
   refine rt_v F (rs_1 F rfl rfl) ?_
   first | exact ⟨ret_int (by rw [sizE,if_pos (by omega)]),E⟩ | exact ⟨ret_int (by rw [sizE,if_neg (by omega),if_pos (by omega)]),E⟩ | exact ⟨ret_int (by rw [sizE,if_neg (by omega),if_neg (by omega)]),E⟩
  ·skip
   refine wp_skip ?_
   refine hK2 _ _ ?_
   clear hK2
   refine wp_seq_k fun K7 hK7=>?_
   refine wp_region_lit ?_
   refine F.vl (R_assign rfl (ev_c fa _)) ?_;clear F fa;intro fa F
   refine wpList_nil ?_
   refine hK7 _ _ ?_
   clear hK7
   refine wp_ret ?_
   (try simp only [Exit.inBlock,Exit.then,reduceIte])
   refine rt_v F (rs_1 F rfl rfl) ?_
   first | exact ⟨ret_int (by rw [sizE,if_pos (by omega)]),E⟩ | exact ⟨ret_int (by rw [sizE,if_neg (by omega),if_pos (by omega)]),E⟩ | exact ⟨ret_int (by rw [sizE,if_neg (by omega),if_neg (by omega)]),E⟩
theorem all_take {l : List Int} {hi : Int} {i : Nat} (h : ∀ j,j < i → outB (l.getD j 0) 0 hi = false) (hi' : i = l.length) : l.all (fun n=>!outB n 0 hi) = true:=by
 rw [List.all_eq_true]
 intro n hn
 obtain ⟨j,hj,rfl⟩:=List.getElem_of_mem hn
 have:=h j (by omega)
 rw [List.getD_eq_getElem?_getD,List.getElem?_eq_getElem hj] at this
 simp only [Option.getD_some] at this
 rw [this];rfl
theorem all_bad {l : List Int} {hi : Int} {i : Nat} (hil : i < l.length) (h : outB (l.getD i 0) 0 hi = true) : l.all (fun n=>!outB n 0 hi) = false:=by
 rw [List.all_eq_false]
 refine ⟨l.getD i 0,getD_mem 0 hil,by rw [h];simp⟩
theorem sum_take (l : List Int) {i : Nat} (h : i < l.length) : (l.take (i + 1)).sum = (l.take i).sum + l.getD i 0:=by
 rw [List.take_add_one,List.getElem?_eq_getElem h,List.sum_append]
 simp [List.getD_eq_getElem?_getD,List.getElem?_eq_getElem h]
set_option maxRecDepth 100000 in
theorem numbers_any (l : List Int) (many hi : Int) (a : Option Addr) (c : Nat) (w : World) (h : IsRows w (.slice a l.length c) 1 (l.map intRow)) (hl : l.length ≤ 1000) (hh : hi ≤ 1000) :
  Calls Tryz.prog 75 #[.slice a l.length c,.int .i64 many,.int .i64 hi] w fun e w'=>e = .returned (.tuple #[.int .i64 (numS l many hi),.int .i64 (numE l many hi)]) ∧ Ext [] w w':=by
 have HS:=Lib.hid (slAt_of_rows h 0)
 have E : Ext [] w w:=Ext.refl _ _
 clear h
 refine calls_has 29 Tryz.func75 rfl Tryz.ntmps75 (Nat.le_of_ble_eq_true rfl) ?_
 intro fa F
 refine wp_seq_k fun K1 hK1=>?_
 refine wp_region_lit ?_
 refine F.vl (R_assign rfl (ev_c fa _)) ?_;clear F fa;intro fa F
 refine F.vl (R_assign rfl (ev_c fa _)) ?_;clear F fa;intro fa F
 refine wpList_nil ?_
 refine hK1 _ _ ?_
 clear hK1
 refine wp_seq_k fun K2 hK2=>?_
 refine wp_seq_k fun K3 hK3=>?_
 refine wp_region_lit ?_
 refine F.mv ?_;clear F fa;intro fa F
 refine F.vl (R_len rfl rfl (F.at rfl) Tryz.underlying25) ?_;clear F fa;intro fa F
 refine F.mv ?_;clear F fa;intro fa F
 refine F.vl (R_neqD rfl (F.at rfl) (F.at rfl)) ?_;clear F fa;intro fa F
 refine wpList_nil ?_
 refine hK3 _ _ ?_
 clear hK3
 refine cd_if F rfl (fun hc14=>?_) (fun hc14=>?_)
 ·skip
  refine wp_seq_k fun K4 hK4=>?_
  refine wp_region_lit ?_
  refine F.vl (R_assign rfl (ev_c fa _)) ?_;clear F fa;intro fa F
  refine F.vl (R_assign rfl (ev_c fa _)) ?_;clear F fa;intro fa F
  refine wpList_nil ?_
  refine hK4 _ _ ?_
  clear hK4
  refine wp_ret ?_
  (try simp only [Exit.inBlock,Exit.then,reduceIte])
  refine rt_v F (rs_2 F rfl rfl rfl) ?_
  have e : numE l many hi = 9:=(by rw [numE,if_pos (by omega)])
  exact ⟨by rw [numS,e];rfl,E⟩
 ·skip
  refine wp_skip ?_
  refine hK2 _ _ ?_
  clear hK2
  refine wp_seq_k fun K5 hK5=>?_
  refine wp_region_lit ?_
  refine F.vl (R_assign rfl (ev_c fa _)) ?_;clear F fa;intro fa F
  rw [show (0 : Int) = (l.take 0).sum from rfl] at F
  refine wpList_nil ?_
  refine hK5 _ _ ?_
  clear hK5
  refine wp_seq_k fun K6 hK6=>?_
  refine wp_seq_k fun K7 hK7=>?_
  refine wp_region_lit ?_
  refine F.mv ?_;clear F fa;intro fa F
  refine F.vl (R_len rfl rfl (F.at rfl) Tryz.underlying25) ?_;clear F fa;intro fa F
  refine F.vl (R_move rfl (ev_c fa _)) ?_;clear F fa;intro fa F
  refine wpList_nil ?_
  refine hK7 _ _ ?_
  clear hK7
  refine wp_block ?_
  have F0:=F.sub (.c 2 rfl (.c 15 rfl (.c 16 rfl .n)))
  refine lp_for F0 (l.length) (fun i Lv W=>Lv = [(8,.int .i64 ((l.take i).sum)),(17,.int .i64 ((i : Nat) : Int))] ∧ Ext [] w W ∧ (∀ j,j < i → outB (l.getD j 0) 0 hi = false) ∧ 0 ≤ (l.take i).sum ∧ (l.take i).sum ≤ 1000 * (i : Int)) ⟨_,⟨rfl,Ext.refl _ _,(fun j hj=>absurd hj (by omega)),(by simp),(by simp)⟩,F.sub (.c 8 rfl (.c 17 rfl (.c 2 rfl (.c 15 rfl (.c 16 rfl .n)))))⟩ ?_
  clear F F0
  rintro i _ fa w1 hi1 ⟨rfl,EL1,hb,hs0,hs1⟩ F
  have E:=E.nil EL1
  refine wp_seq_k fun K8 hK8=>?_
  refine wp_region_lit ?_
  refine F.vl (R_lss rfl (F.at rfl) (F.at rfl)) ?_;clear F fa;intro fa F
  refine wpList_nil ?_
  refine hK8 _ _ ?_
  clear hK8
  refine wp_seq_k fun K9 hK9=>?_
  refine cd_if F rfl (fun hc18=>?_) (fun hc18=>?_)
  ·skip
   refine wp_skip ?_
   refine hK9 _ _ ?_
   clear hK9
   refine wp_seq_k fun K10 hK10=>?_
   refine wp_block ?_
   refine wp_seq_k fun K11 hK11=>?_
   refine wp_region_lit ?_
   obtain ⟨xb12,xo12,xa12,xr12⟩:=HS.out i (by omega)
   refine F.vl (R_ixSlice (sz:=1) rfl ((F.at rfl).trans (xa12 _ _)) (F.at rfl) Tryz.underlying25 (by kernel_rfl) (by omega) (by omega)) ?_;clear F fa;intro fa F
   refine F.vl (R_load rfl (F.at rfl) Tryz.underlying3 rfl (xr12 _ E 0 _ rfl)) ?_;clear F fa;intro fa F
   refine F.as ?_;clear F fa;intro fa F
   refine wpList_nil ?_
   refine hK11 _ _ ?_
   clear hK11
   refine wp_seq_k fun K13 hK13=>?_
   refine wp_seq_k fun K14 hK14=>?_
   refine wp_region_lit ?_
   refine F.mv ?_;clear F fa;intro fa F
   refine F.mv ?_;clear F fa;intro fa F
   refine sq_call F rfl (by decide) rfl (R_callV rfl rfl Tryz.call83 (mpS (F.at rfl) (mpS (ev_c fa _) (mpS (F.at rfl) mp0)))) (outside_any (l.getD i 0) 0 hi _) fun e w2 hR=>?_
   obtain ⟨rfl,e9⟩:=hR
   refine ⟨_,rfl,?_⟩;clear F fa;intro fa F
   replace E:=ext_same E (e9)
   replace EL1:=ext_same EL1 (e9)
   clear e9
   refine wpList_nil ?_
   refine hK14 _ _ ?_
   clear hK14
   refine cd_b F rfl (fun hc23=>?_) (fun hc23=>?_)
   ·skip
    have hyes : outB (l.getD i 0) 0 hi = true:=by simpa using hc23
    refine wp_seq_k fun K15 hK15=>?_
    refine wp_region_lit ?_
    refine F.vl (R_assign rfl (ev_c fa _)) ?_;clear F fa;intro fa F
    refine F.vl (R_assign rfl (ev_c fa _)) ?_;clear F fa;intro fa F
    refine wpList_nil ?_
    refine hK15 _ _ ?_
    clear hK15
    refine wp_ret ?_
    (try simp only [Exit.inBlock,Exit.then,reduceIte])
    refine rt_v F (rs_2 F rfl rfl rfl) ?_
    have e : numE l many hi = 1:=(by rw [numE,if_neg (by omega),all_bad (by omega) hyes];rfl)
    exact ⟨by rw [numS,e];rfl,E⟩
   ·skip
    have hno : outB (l.getD i 0) 0 hi = false:=by simpa using hc23
    obtain ⟨hn1,hn2⟩:=outB_no.1 hno
    refine wp_skip ?_
    refine hK13 _ _ ?_
    clear hK13
    refine wp_region_lit ?_
    refine F.mv ?_;clear F fa;intro fa F
    refine F.mv ?_;clear F fa;intro fa F
    refine F.vl (R_add rfl (F.at rfl) (F.at rfl) (by omega) (by omega)) ?_;clear F fa;intro fa F
    rw [← sum_take l (show i < l.length by omega)] at F
    refine F.as ?_;clear F fa;intro fa F
    refine wpList_nil ?_
    refine hK10 _ _ ?_
    clear hK10
    refine wp_region_lit ?_
    refine F.vl (R_add rfl (F.at rfl) (ev_c fa _) (by omega) (by omega)) ?_;clear F fa;intro fa F
    refine F.mv ?_;clear F fa;intro fa F
    refine wpList_nil ?_
    show _ ∧ _
    exact ⟨by omega,_,⟨rfl,EL1,(fun j hj=>if e : j = i then e ▸ hno else hb j (by omega)),(by rw [sum_take l (by omega)];omega),(by rw [sum_take l (by omega)];omega)⟩,F.sub (.c 8 rfl (.c 17 rfl (.c 2 rfl (.c 15 rfl (.c 16 rfl .n)))))⟩
  ·skip
   refine wp_exit ?_
   refine hK6 _ _ ?_
   clear hK6
   refine wp_seq_k fun K16 hK16=>?_
   refine wp_region_lit ?_
   refine F.mv ?_;clear F fa;intro fa F
   refine F.as ?_;clear F fa;intro fa F
   refine F.vl (R_assign rfl (ev_c fa _)) ?_;clear F fa;intro fa F
   refine wpList_nil ?_
   refine hK16 _ _ ?_
   clear hK16
   refine wp_ret ?_
   (try simp only [Exit.inBlock,Exit.then,reduceIte])
   refine rt_v F (rs_2 F rfl rfl rfl) ?_
   have e : numE l many hi = 0:=(by rw [numE,if_neg (by omega),all_take hb (by omega)];rfl)
   exact ⟨by rw [numS,e,if_pos rfl,List.take_of_length_le (by omega)],E⟩
section
variable {P : Program} {ρ : Operand → Value} {o : Oper} {w : World}
theorem R_copy {x y : Operand} {dT sT elem : TypeId} {b off dLen dCap sLen sCap : Nat} {a : Addr} (cs : List Value) (ho : o.op = .call { callee:=.builtin .copy,args:=#[x,y],argTypes:=#[dT,sT] }) (hx : ρ x = .slice (some ⟨b,off,none⟩) dLen dCap) (hy : ρ y = .slice (some a) sLen sCap)
  (hu : P.underlying dT = some (.slice elem)) (hs : (P.info? elem).map (·.size) = some 1) (hn : cs.length = Nat.min sLen dLen)
  (hsrc : ∀ j v,cs[j]? = some v → w.cell? (a.add j) = some v) (hc : ∀ j,j < cs.length → (w.cell? ⟨b,off + j,none⟩).isSome = true) (hf : ∀ j,j < cs.length → w.frozen? ⟨b,off + j,none⟩ = false) (h1 : ∀ v ∈ cs,v.oneCell' = true) :
  (execOp ρ o).run P w = .ok (.value (.int .i64 cs.length)) (w.setCells b off cs):=by
 unfold execOp
 simp [ho,hx,hy,resolve,invoke,builtin,run_copy_cells w dT sT o.type elem b off dLen dCap a sLen sCap cs hu hs hn hsrc hc hf h1,goInt,go_sem]
theorem R_sliceAll {x : Operand} {t : TypeId} {b n : Nat} (ho : o.op = .slice t x none none none) (hx : ρ x = .pointer (some ⟨b,0,none⟩)) (hu : P.underlying t = some (.array (P.arrayLen t) (P.elem t))) (hs : (P.info? (P.elem t)).map (·.size) = some 1) (hn : P.arrayLen t = n) :
  (execOp ρ o).run P w = .ok (.value (.slice (some ⟨b,0,none⟩) n n)) w:=by
 have h0 : (sizeOf (P.elem t)).run P w = .ok 1 w:=by
  generalize P.elem t = e at hs
  cases hq : P.info? e with
  | none=>simp [hq] at hs
  | some j =>
   have hj : j.size = 1:=by simpa [hq] using hs
   simp [sizeOf,typeInfo,hq,hj]
 have hr:=run_sliceAt_array_all (P:=P) w t ⟨b,0,none⟩ hu
 rw [h0,hn] at hr
 simp only [Result.andThen_ok,slicedAt,Nat.zero_mul,Nat.sub_zero] at hr
 have ha : (if n = 0 then (⟨b,0,none⟩ : Addr) else Addr.add ⟨b,0,none⟩ 0) = ⟨b,0,none⟩:=by split <;> rfl
 rw [ha] at hr
 clear hu hs hn h0 ha
 unfold execOp
 simp only [ho,hx,Option.map_none,Sem.run_bind,hr,Result.andThen_ok,Sem.run_pure]
end
def tonesC (l : List Int) : Array Value:=#[.int .i64 (l.getD 0 0),.int .i64 (l.getD 1 0),.int .i64 (l.getD 2 0)]
theorem put_tones {w w2 : World} {b : Nat} {l : List Int} {T : TypeId} (e : w2 = w.setCells b 0 (l.map (Value.int .i64))) (H : w.heap[b]? = some (.cells #[.int .i64 0,.int .i64 0,.int .i64 0] T (0,0))) (hl : l.length ≤ 3) : w2.heap[b]? = some (.cells (tonesC l) T (0,0)):=by
 match l,hl with
 | [],_=>rw [e];exact H
 | [x],_=>exact put_cell (w2:=w2) (by rw [e];rfl) H rfl
 | [x,y],_=>exact put_mid2 (w2:=w2) (by rw [e];rfl) H rfl
 | [x,y,z],_=>exact put_row (cs:=tonesC [x,y,z]) (by rw [e];rfl) H rfl
 | x :: y :: z :: u :: l,h=>simp at h
def eqT (l m : List Int) : Bool:=(List.range 3).all fun i=>decide (l.getD i 0 = m.getD i 0)
theorem eqT_iff {l m : List Int} (hl : l.length = m.length) (h3 : l.length ≤ 3) : eqT l m = true ↔ l = m:=by
 simp only [eqT,List.all_eq_true,List.mem_range,decide_eq_true_eq]
 constructor
 ·intro h
  refine List.ext_getElem hl fun j a b=>?_
  simpa [a,b] using h j (by omega)
 ·rintro rfl;exact fun _ _=>rfl
section
variable {ρ : Operand → Value} {o : Oper} {w : World}
theorem eql_tones (l m : List Int) : (Op.equalIn 10000 131 (.agg (tonesC l)) (.agg (tonesC m))).run Tryz.prog w = .ok (eqT l m) w:=by
 refine run_equalIn_array (n:=1) Tryz.underlying131 (by kernel_rfl) _ fun i hi=>?_
 refine ⟨.int .i64 (l.getD i 0),.int .i64 (m.getD i 0),?_,?_,?_⟩
 ·rcases i with _ | _ | _ | i
  ·exact part_int rfl
  ·exact part_int rfl
  ·exact part_int rfl
  ·omega
 ·rcases i with _ | _ | _ | i
  ·exact part_int rfl
  ·exact part_int rfl
  ·exact part_int rfl
  ·omega
 ·exact run_equalIn_int w _ _ .i64 .i64 _ _ Tryz.underlying3
theorem R_eqlT {x y : Operand} {t' : TypeId} {l m : List Int} (ho : o.op = .binOp .eql 131 x y t') (hx : ρ x = .agg (tonesC l)) (hy : ρ y = .agg (tonesC m)) :
  (execOp ρ o).run Tryz.prog w = .ok (.value (.bool (eqT l m))) w:=by
 have hg : Tryz.prog.eqGuardType Tryz.prog.depth 131 = false:=by kernel_rfl
 unfold execOp
 simp only [ho,hx,hy,Sem.run_bind,run_eqGuard_agg w .eql 131 x y (tonesC l) (tonesC m) hg,Result.andThen_ok,run_eql_struct,eql_tones,Sem.run_pure]
end
theorem copy_src {w : World} {n c sb so : Nat} {l : List Int} (h : IsRows w (.slice (some ⟨sb,so,none⟩) n c) 1 (l.map intRow)) : ∀ (j : Nat) (v : Value),(l.map (Value.int .i64))[j]? = some v → w.cell? ((⟨sb,so,none⟩ : Addr).add j) = some v:=by
 intro j v hv
 rw [List.getElem?_map,Option.map_eq_some_iff] at hv
 obtain ⟨k,hk,rfl⟩:=hv
 have hne : l.map intRow ≠ []:=by
  intro e
  have hl : l = []:=by simpa using e
  rw [hl] at hk;simp at hk
 obtain ⟨b,off,hb,-,hr⟩:=h.range rfl hne
 cases hb
 have:=hr j (intRow k) (by rw [List.getElem?_map,hk];rfl) 0 (.int .i64 k) rfl
 rw [Nat.mul_one,Nat.add_zero] at this
 rw [Go.WideShapes.add_plain]
 exact this
theorem copy_dst {w : World} {b : Nat} {x y z : Value} {T : TypeId} (H : w.heap[b]? = some (.cells #[x,y,z] T (0,0))) {n : Nat} (hn : n ≤ 3) : (∀ j,j < n → (w.cell? ⟨b,0 + j,none⟩).isSome = true) ∧ ∀ j,j < n → w.frozen? ⟨b,0 + j,none⟩ = false:=by
 refine ⟨fun j hj=>?_,fun j hj=>free_of_block H _⟩
 rw [cells_of_block H]
 rcases j with _ | _ | _ | j
 ·rfl
 ·rfl
 ·rfl
 ·omega
theorem ints_one (l : List Int) : ∀ v ∈ l.map (Value.int .i64),v.oneCell' = true:=by
 intro v hv
 obtain ⟨k,-,rfl⟩:=List.mem_map.1 hv
 rfl
def dyeE (B : Int) : List (List Int) → List (List Int) → Int
 | _,[]=>0
 | met,d :: ds=>if numE d B 9 ≠ 0 then numE d B 9 else if d ∈ met then 4 else dyeE B (met ++ [d]) ds
def lampE (B : Int) : List (List Int) → Int
 | []=>0
 | l :: ls=>if numE l B 3 ≠ 0 then numE l B 3 else if l.sum = 0 then 7 else lampE B ls
def chkE (B : Int) (ds ls : List (List Int)) (tol : Int) : Int:=
 if outB B 1 3 = true then 1 else if sizE ds.length 4 ≠ 0 then sizE ds.length 4 else if dyeE B [] ds ≠ 0 then dyeE B [] ds
 else if sizE ls.length 3 ≠ 0 then sizE ls.length 3 else if lampE B ls ≠ 0 then lampE B ls else if outB tol 0 12 = true then 1 else 0
theorem drop_getD {α : Type} (l : List α) (d : α) {i : Nat} (h : i < l.length) : l.drop i = l.getD i d :: l.drop (i + 1):=by
 rw [List.drop_eq_getElem_cons h];simp [List.getD_eq_getElem?_getD,List.getElem?_eq_getElem h]
theorem take_getD {α : Type} (l : List α) (d : α) {i : Nat} (h : i < l.length) : l.take (i + 1) = l.take i ++ [l.getD i d]:=by
 rw [List.take_add_one,List.getElem?_eq_getElem h];simp [List.getD_eq_getElem?_getD,List.getElem?_eq_getElem h]
theorem numE_zero {l : List Int} {m h : Int} (e : numE l m h = 0) : (l.length : Int) = m ∧ ∀ n ∈ l,0 ≤ n ∧ n ≤ h:=by
 unfold numE at e
 split at e
 ·cases e
 ·rename_i hlen
  split at e
  ·rename_i ha
   refine ⟨by omega,fun n hn=>?_⟩
   have:=List.all_eq_true.1 ha n hn
   exact outB_no.1 (by simpa using this)
  ·cases e
theorem dye_bad {B : Int} {ds : List (List Int)} {i : Nat} (hi : i < ds.length) (h : numE (ds.getD i []) B 9 ≠ 0) : dyeE B (ds.take i) (ds.drop i) = numE (ds.getD i []) B 9:=by
 rw [drop_getD ds [] hi,dyeE,if_pos h]
theorem dye_twice {B : Int} {ds : List (List Int)} {i j : Nat} (hi : i < ds.length) (h : numE (ds.getD i []) B 9 = 0) (hj : j < i) (e : ds.getD j [] = ds.getD i []) : dyeE B (ds.take i) (ds.drop i) = 4:=by
 rw [drop_getD ds [] hi,dyeE,if_neg (by rw [h];simp),if_pos]
 rw [← e,List.getD_eq_getElem?_getD,List.getElem?_eq_getElem (show j < ds.length by omega)]
 exact List.mem_take_iff_getElem.2 ⟨j,by omega,rfl⟩
theorem dye_go {B : Int} {ds : List (List Int)} {i : Nat} (hi : i < ds.length) (h : numE (ds.getD i []) B 9 = 0) (hn : ∀ j,j < i → ds.getD j [] ≠ ds.getD i []) : dyeE B (ds.take i) (ds.drop i) = dyeE B (ds.take (i + 1)) (ds.drop (i + 1)):=by
 rw [drop_getD ds [] hi,dyeE,if_neg (by rw [h];simp),if_neg,← take_getD ds [] hi]
 intro hm
 obtain ⟨j,hj,e⟩:=List.mem_take_iff_getElem.1 hm
 have hj' : j < i:=by omega
 refine hn j hj' ?_
 rw [List.getD_eq_getElem?_getD,List.getElem?_eq_getElem (show j < ds.length by omega)]
 exact e
theorem lamp_bad {B : Int} {ls : List (List Int)} {i : Nat} (hi : i < ls.length) (h : numE (ls.getD i []) B 3 ≠ 0) : lampE B (ls.drop i) = numE (ls.getD i []) B 3:=by
 rw [drop_getD ls [] hi,lampE,if_pos h]
theorem lamp_dark {B : Int} {ls : List (List Int)} {i : Nat} (hi : i < ls.length) (h : numE (ls.getD i []) B 3 = 0) (h0 : (ls.getD i []).sum = 0) : lampE B (ls.drop i) = 7:=by
 rw [drop_getD ls [] hi,lampE,if_neg (by rw [h];simp),if_pos h0]
theorem lamp_go {B : Int} {ls : List (List Int)} {i : Nat} (hi : i < ls.length) (h : numE (ls.getD i []) B 3 = 0) (h0 : (ls.getD i []).sum ≠ 0) : lampE B (ls.drop i) = lampE B (ls.drop (i + 1)):=by
 rw [drop_getD ls [] hi,lampE,if_neg (by rw [h];simp),if_neg h0]
def toneR (l : List Int) : List Value:=[.int .i64 (l.getD 0 0),.int .i64 (l.getD 1 0),.int .i64 (l.getD 2 0)]
end Go.Proofs.YtdjeecgddbjbeaaGreat
