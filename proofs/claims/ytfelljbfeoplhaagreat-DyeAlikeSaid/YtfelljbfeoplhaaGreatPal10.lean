/- Parts of a proof: Ut, Zb, Ya, Zd, Dfl, Ze, Dmo, Dmt. No conditions. -/
import Derived.Test.YtfelljbfeoplhaaGreatPal8
import Derived.Test.YtfelljbfeoplhaaGreatPal9
set_option linter.unusedVariables false
set_option linter.unusedSimpArgs false
set_option linter.unusedSectionVars false
set_option maxRecDepth 100000
set_option maxHeartbeats 4000000
variable {β:Nat → Bool} {base c j k n s:Nat} {w:Go.World} {l:List Int} {v y:Go.Value} {ρ:Go.Operand → Go.Value} {x:Go.Operand} {t:Go.TypeId}
namespace Go.Proofs.YtfelljbfeoplhaaGreat
open Go.RowKit Go.Proofs.YtfelljbfeoplhaaGreat.Ev
variable {μ:Nat}
def Zu (n:Nat) (β:Nat → Bool):List Int:=((List.range n).filter β).map fun k=>((k:Nat):Int)
theorem Z1v (h:k < n): (((List.range n).take (k + 1)).filter β) = ((List.range n).take k).filter β ++ if β k then [k] else []:=by
 rw [List.take_range,List.take_range,Nat.min_eq_left (by omega),Nat.min_eq_left (by omega),List.range_succ,List.filter_append]
 cases h:β k <;> simp [h]
def UnR (w:World) (l:List Int) (e:Ending) (w':World):Prop:=∃ v,e = .returned v ∧ IntR w.heap.size w' l v ∧ Ext [] w w'
theorem Zgt (n:Nat) (hn:n ≤ 3) (β:Nat → Bool) (n7 n16:Nat) (T:TypeId) (fz fz':Nat × Nat) (w:World) (fa:Act) (F:Has 42 [] fa [(7,pt n7),(9,.slice none 0 0)]) (q7:w.heap[n7]? = some (.cells #[.slice (some ⟨n16,0,none⟩) n n] T fz)) (q16:∀ k,k < n → w.cell? ⟨n16,k,none⟩ = some (.bool (β k))) (h16:n16 < w.heap.size) :
  Code.wp (Qy.prog 2) (sqR (sqR Z6G)) (bodyPost (Qy.prog 2) Tryz.f66 fun e w'=>UnR w (Zu n β) e w') fa w:=by
 have E:Ext [] w w:=Ext.refl _ _;have HS:Hid (SlAt [] w (some ⟨n16,0,none⟩) 1 n (fun i=>[.bool (β i)])):=by
  refine Lib.hid ((@ZW Lift.jkN _ _ _ _).2 fun i hi=>⟨_,_,rfl,?_⟩);have:=q16 i hi;simpa using this
 have oo:w.ownsRow w.heap.size 3 1 (.slice none 0 0) 0 (ivs ((((List.range n).take 0).filter β).map fun n=>((n:Nat):Int))):=World.ownsRow_nil _ _ _ _;have zz:Zs w (.slice none 0 0) 0:=ZfM w;refine wS fun K1 hK1=>wS fun K2 hK2=>wG <|F.vl (ZD rfl (F.at rfl) Qy.underlying151 rfl ((Z0 q7 0).trans (get0))) fun fa F=>?_
 refine F.vl (Z77 rfl rfl (F.at rfl) Qy.underlying151) fun fa F=>?_;refine F.vl (Z1w rfl (ev_c fa _)) fun fa F=>?_;refine wN <|hK2 _ _ <|wp_block ?_
 have F0:=F.sub (.c 28 rfl (.c 29 rfl .n));refine Z7A F0 (n) (fun i Lv W=>∃ va:Option Addr,∃ k:Nat,∃ vc:Nat,Lv = [(9,.slice va k vc),(30,.int .i64 ((i:Nat):Int))] ∧ Ext [] w W ∧ W.ownsRow w.heap.size 3 1 (.slice va k vc) k (ivs ((((List.range n).take i).filter β).map fun n=>((n:Nat):Int))) ∧ k = ((((List.range n).take i).filter β).map fun n=>((n:Nat):Int)).length ∧ k ≤ i ∧ Zs W (.slice va k vc) k ∧ (k = 0 → va = none)) ⟨_,⟨none,0,0,rfl,E,oo,rfl,(Nat.le_refl _),zz,(fun _=>rfl)⟩,F.sub (.c 9 rfl (.c 30 rfl (.c 28 rfl (.c 29 rfl .n))))⟩ ?_;clear F F0;clear E;clear oo;rintro i _ fa w1 hi1 ⟨va,k,vc,rfl,E,oo,hkl,hk6,zz,hz0⟩ F;refine wS fun K3 hK3=>wG <|F.vl (Z7R rfl (F.at rfl) (F.at rfl)) fun fa F=>?_
 refine wN <|hK3 _ _ <|wS fun K4 hK4=>?_
 refine ZcM F rfl (fun hc31=>?_) (fun hc31=>?_)
 ·skip
  refine wp_skip <|hK4 _ _ <|wS fun K5 hK5=>wp_block <|wS fun K6 hK6=>wG <|F.mv fun fa F=>?_
  obtain ⟨xb7,xo7,xa7,xr7⟩:=HS.out i (by omega);refine F.vl (Z7J (sz:=1) rfl ((F.at rfl).trans (xa7 _ _)) (F.at rfl) Qy.underlying151 (by kernel_rfl) (by omega) (by omega)) fun fa F=>?_;refine F.vl (ZD rfl (F.at rfl) Qy.underlying4 rfl (xr7 _ E 0 _ rfl)) fun fa F=>?_;refine F.as fun fa F=>?_;refine F.as fun fa F=>?_;refine wN <|hK6 _ _ <|wS fun K8 hK8=>wG <|F.mv fun fa F=>?_
  refine wN <|hK8 _ _ ?_
  refine cd_b F rfl (fun hc35=>?_) (fun hc35=>?_)
  ·skip
   have hst:=Z1v (β:=β) (show i < n by omega);rw [if_pos hc35] at hst;refine wG <|F.mv fun fa F=>?_
   refine F.mv fun fa F=>?_;refine sqN F (ZY rfl (prS (F.at rfl) pr0) Qy.underlying22 (size:=1) (by kernel_rfl) (by decide) (by decide) Qy.zeroValue3 (cells:=#[.int .i64 ((i:Nat):Int)]) (by kernel_rfl)) fun fa w2 F hw=>?_;obtain ⟨n38,hn⟩:=eQ w1.heap.size;rw [← hn] at F;have s38:=sQ hn;have l38_E:=lQ hn E.size;have o38_oo:=Lib.hid (Z0f oo hn);replace oo:=Z00 hw oo;replace zz:=Za4 zz (Z6 (Ext.refl [] _) hw);replace E:=Z6 E hw;have q38:=Z05 hw hn;clear hw hn;have hEs:=E.size;refine ZI F rfl (by decide) rfl (Z4v rfl (w.heap.size) (e:=3) Qy.underlying22 (by kernel_rfl) (F.at rfl) oo zz (F.at rfl) q38 rfl (by omega) (by omega)) ?_;clear F fa;rintro fa v' w3 F ⟨hown',hg,hzz⟩;obtain ⟨va39,vc39,rfl⟩:=Zt hown';replace E:=Z0t E oo hg (by omega);replace oo:=hown';replace zz:=hzz;clear hg;rw [Z1s,show ((((List.range n).take i).filter β).map fun n=>((n:Nat):Int)) ++ [((i:Nat):Int)] = (((List.range n).take (i + 1)).filter β).map fun n=>((n:Nat):Int) by rw [hst,List.map_append];rfl] at oo;replace hkl:k + 1 = ((((List.range n).take (i + 1)).filter β).map fun n=>((n:Nat):Int)).length:=by rw [hst,List.map_append,List.length_append,← hkl];rfl
   refine F.as fun fa F=>?_;refine wN <|hK5 _ _ <|wG <|F.vl (Z6Y rfl (F.at rfl) (ev_c fa _) (by omega) (by omega)) fun fa F=>?_
   refine F.mv fun fa F=>?_;refine wpList_nil ?_;show _ ∧ _;exact ⟨by omega,_,⟨_,_,_,rfl,E,oo,hkl,(by omega),zz,(fun h=>by first | exact absurd h (by omega) | exact hz0 h)⟩,F.sub (.c 9 rfl (.c 30 rfl (.c 28 rfl (.c 29 rfl .n))))⟩
  ·skip
   have hst:=Z1v (β:=β) (show i < n by omega);rw [if_neg (by rw [hc35];decide),List.append_nil] at hst;rw [← hst] at oo hkl;refine wp_skip <|hK5 _ _ <|wG <|F.vl (Z6Y rfl (F.at rfl) (ev_c fa _) (by omega) (by omega)) fun fa F=>?_
   refine F.mv fun fa F=>?_;refine wpList_nil ?_;show _ ∧ _;exact ⟨by omega,_,⟨_,_,_,rfl,E,oo,hkl,(by omega),zz,(fun h=>by first | exact absurd h (by omega) | exact hz0 h)⟩,F.sub (.c 9 rfl (.c 30 rfl (.c 28 rfl (.c 29 rfl .n))))⟩
 ·skip
  refine wp_exit ?_;rw [List.take_of_length_le (show (List.range n).length ≤ i by rw [List.length_range];omega)] at oo hkl;replace zz:Zs w1 (.slice va k vc) k:=zz;replace hkl:k = (Zu n β).length:=hkl;replace oo:w1.ownsRow w.heap.size 3 1 (.slice va k vc) k (ivs (Zu n β)):=oo;refine hK1 _ _ <|wS fun K9 hK9=>wG <|F.mv fun fa F=>?_
  refine F.as fun fa F=>?_;refine wN <|hK9 _ _ ?_
  refine wp_ret ?_
  (try simp only [Exit.inBlock,Exit.then,reduceIte])
  refine rt_v F (rs_1 F rfl rfl) ?_;exact ⟨_,rfl,ZfZ oo zz hkl hz0,E⟩
variable {μ:Nat}
theorem Qy.ntmps187:Qy.f187.ntmps = 14:=rfl
theorem Zfe (x:Vm) (hx:x.L.length ≤ 3) (cf:FuncId) (us:Array Value) (β:Nat → Bool) (hcf:∀ args w,(callFunc cf args).run (Qy.prog 0) w = .ok (.enter cf args) w) (w:World)
  (hask:∀ k,k < x.L.length → ∀ W,Ext [] w W → Calls (Qy.prog 0) cf (#[] ++ [.int .i64 ((k:Nat):Int)].toArray ++ us) W fun e w'=>e = .returned (.bool (β k)) ∧ Ext [] W w') :
  Calls (Qy.prog 0) 66 #[x.val,.func (.func cf) #[] us] w fun e w'=>UnR w (Zu x.L.length β) e w':=by
 have E:Ext [] w w:=Ext.refl _ _;have HA:=Lib.hid hask;have HF:=Lib.hid hcf;clear hask hcf;unfold Vm.val;have oo:w.ownsRow w.heap.size 3 1 (.slice none 0 0) 0 (ivs ((((List.range x.L.length).take 0).filter β).map fun n=>((n:Nat):Int))):=World.ownsRow_nil _ _ _ _;have zz:Zs w (.slice none 0 0) 0:=ZfM w;refine Z0q 14 Qy.func66 rfl Qy.ntmps187 (Nat.le_of_ble_eq_true rfl) ?_;intro fa F;refine wS fun K1 hK1=>wG ?_;refine sqN F (Z3e rfl (F.at rfl)) fun fa w1 F hw=>?_;obtain ⟨n2,hn⟩:=eQ w.heap.size;rw [← hn] at F;have s2:=sQ hn;have l2_E:=lQ hn E.size;have o2_oo:=Lib.hid (Z0f oo hn);replace oo:=Z00 hw oo;replace zz:=Za4 zz (Z6 (Ext.refl [] _) hw);replace E:=Z6 E hw;have q2:=Z01 hw hn;clear hw hn;refine F.vl (ZO rfl (F.at rfl) Qy.underlying85 rfl (n:=0) (sz:=4) rfl (by kernel_rfl) (by decide)) fun fa F=>?_;refine F.vl (ZO rfl (F.at rfl) Qy.underlying27 rfl (n:=2) (sz:=1) rfl (by kernel_rfl) (by decide)) fun fa F=>?_;refine F.vl (ZD rfl (F.at rfl) Qy.underlying25 rfl ((Z0 q2 2).trans (getS (getS (get0))))) fun fa F=>?_;refine F.vl (Z77 rfl rfl (F.at rfl) Qy.underlying25) fun fa F=>?_;refine F.vl (Z1w rfl (ev_c fa _)) fun fa F=>?_;refine F.vl (ZH rfl (ev_c fa _)) fun fa F=>?_;refine wN <|hK1 _ _ <|wS fun K2 hK2=>wp_block ?_
 have F0:=F.sub (.c 1 rfl (.c 6 rfl .n));refine Z7A F0 (x.L.length) (fun i Lv W=>∃ va:Option Addr,∃ k:Nat,∃ vc:Nat,Lv = [(7,.int .i64 ((i:Nat):Int)),(8,.slice va k vc)] ∧ Ext [] w W ∧ W.heap[n2]? = some (.cells #[.int .i64 x.B,.slice x.da x.D.length x.dc,.slice x.la x.L.length x.lc,.int .i64 x.tol] 85 (0,0)) ∧ W.ownsRow w.heap.size 3 1 (.slice va k vc) k (ivs ((((List.range x.L.length).take i).filter β).map fun n=>((n:Nat):Int))) ∧ k = ((((List.range x.L.length).take i).filter β).map fun n=>((n:Nat):Int)).length ∧ k ≤ i ∧ Zs W (.slice va k vc) k ∧ (k = 0 → va = none)) ⟨_,⟨none,0,0,rfl,E,q2,oo,rfl,(Nat.le_refl _),zz,(fun _=>rfl)⟩,F.sub (.c 7 rfl (.c 8 rfl (.c 1 rfl (.c 6 rfl .n))))⟩ ?_;clear F F0;clear E q2;clear oo;rintro i _ fa w2 hi1 ⟨va,k,vc,rfl,E,q2,oo,hkl,hk6,zz,hz0⟩ F;refine wS fun K3 hK3=>wG <|F.vl (Z7R rfl (F.at rfl) (F.at rfl)) fun fa F=>?_
 refine wN <|hK3 _ _ <|wS fun K4 hK4=>?_
 refine ZcM F rfl (fun hc9=>?_) (fun hc9=>?_)
 ·skip
  refine wp_skip <|hK4 _ _ <|wS fun K5 hK5=>wG ?_
  refine sqC F (Z2W rfl (F.at rfl) HF.out (mpS (F.at rfl) mp0) rfl) ((HA.out i (by omega) _ E)) fun e w3 hR=>?_;obtain ⟨rfl,e9⟩:=hR;refine ⟨_,rfl,fun fa F=>?_⟩;replace oo:=Z0n oo (e9) (by simp);replace zz:=Za4 zz (e9);replace q2:=(e9).keep0 q2;replace E:=Zj E (e9);clear e9;refine wN <|hK5 _ _ <|wS fun K6 hK6=>?_
  refine cd_b F rfl (fun hc10=>?_) (fun hc10=>?_)
  ·skip
   have hst:=Z1v (β:=β) (show i < x.L.length by omega);rw [if_pos hc10] at hst;refine wG ?_;refine sqN F (ZY rfl (prS (F.at rfl) pr0) Qy.underlying22 (size:=1) (by kernel_rfl) (by decide) (by decide) Qy.zeroValue3 (cells:=#[.int .i64 ((i:Nat):Int)]) (by kernel_rfl)) fun fa w4 F hw=>?_;obtain ⟨n11,hn⟩:=eQ w3.heap.size;rw [← hn] at F;have s11:=sQ hn;have l11_E:=lQ hn E.size;have m11_2:=tQ hn (Z3 q2);have o11_oo:=Lib.hid (Z0f oo hn);replace oo:=Z00 hw oo;replace zz:=Za4 zz (Z6 (Ext.refl [] _) hw);replace q2:=Z1 hw q2;replace E:=Z6 E hw;have q11:=Z05 hw hn;clear hw hn;have hEs:=E.size;refine ZI F rfl (by decide) rfl (Z4v rfl (w.heap.size) (e:=3) Qy.underlying22 (by kernel_rfl) (F.at rfl) oo zz (F.at rfl) q11 rfl (by omega) (by omega)) ?_;clear F fa;rintro fa v' w5 F ⟨hown',hg,hzz⟩;obtain ⟨va12,vc12,rfl⟩:=Zt hown';replace q2:=ZR oo hg q2 (by decide);replace E:=Z0t E oo hg (by omega);replace oo:=hown';replace zz:=hzz;clear hg;rw [Z1s,show ((((List.range x.L.length).take i).filter β).map fun n=>((n:Nat):Int)) ++ [((i:Nat):Int)] = (((List.range x.L.length).take (i + 1)).filter β).map fun n=>((n:Nat):Int) by rw [hst,List.map_append];rfl] at oo;replace hkl:k + 1 = ((((List.range x.L.length).take (i + 1)).filter β).map fun n=>((n:Nat):Int)).length:=by rw [hst,List.map_append,List.length_append,← hkl];rfl
   refine F.as fun fa F=>?_;refine wN <|hK6 _ _ <|wG <|F.vl (Z6Y rfl (F.at rfl) (ev_c fa _) (by omega) (by omega)) fun fa F=>?_
   refine F.mv fun fa F=>?_;refine wpList_nil ?_;show _ ∧ _;exact ⟨by omega,_,⟨_,_,_,rfl,E,q2,oo,hkl,(by omega),zz,(fun h=>by first | exact absurd h (by omega) | exact hz0 h)⟩,F.sub (.c 7 rfl (.c 8 rfl (.c 1 rfl (.c 6 rfl .n))))⟩
  ·skip
   have hst:=Z1v (β:=β) (show i < x.L.length by omega);rw [if_neg (by rw [hc10];decide),List.append_nil] at hst;rw [← hst] at oo hkl;refine wp_skip <|hK6 _ _ <|wG <|F.vl (Z6Y rfl (F.at rfl) (ev_c fa _) (by omega) (by omega)) fun fa F=>?_
   refine F.mv fun fa F=>?_;refine wpList_nil ?_;show _ ∧ _;exact ⟨by omega,_,⟨_,_,_,rfl,E,q2,oo,hkl,(by omega),zz,(fun h=>by first | exact absurd h (by omega) | exact hz0 h)⟩,F.sub (.c 7 rfl (.c 8 rfl (.c 1 rfl (.c 6 rfl .n))))⟩
 ·skip
  refine wp_exit ?_;rw [List.take_of_length_le (show (List.range x.L.length).length ≤ i by rw [List.length_range];omega)] at oo hkl;replace zz:Zs w2 (.slice va k vc) k:=zz;replace hkl:k = (Zu x.L.length β).length:=hkl;replace oo:w2.ownsRow w.heap.size 3 1 (.slice va k vc) k (ivs (Zu x.L.length β)):=oo;refine hK2 _ _ ?_;refine wp_ret ?_
  (try simp only [Exit.inBlock,Exit.then,reduceIte])
  refine rt_v F (rs_1 F rfl rfl) ?_;exact ⟨_,rfl,ZfZ oo zz hkl hz0,E⟩
variable {μ:Nat}
theorem Z7w (x:Vm) (hv:VOk x) (k:Nat) (hk:k < x.L.length) (f g:Nat → Int) (hf:TubS f) (hg:TubS g) (n8 n9 n10:Nat) (T8 T9 T10:TypeId) (z8 z9 z10:Nat × Nat) (w:World) (h:x.At w)
  (q8:w.heap[n8]? = some (.cells #[.int .i64 x.B,.slice x.da x.D.length x.dc,.slice x.la x.L.length x.lc,.int .i64 x.tol] T8 z8)) (q9:w.heap[n9]? = some (.cells (tubC f) T9 z9)) (q10:w.heap[n10]? = some (.cells (tubC g) T10 z10)) :
  Calls (Qy.prog μ) 67 #[.int .i64 ((k:Nat):Int),.pointer (some ⟨n8,0,none⟩),.pointer (some ⟨n9,0,none⟩),.pointer (some ⟨n10,0,none⟩)] w fun e w'=>e = .returned (.bool (alkE x k f g)) ∧ Ext [] w w':=by
 have E:Ext [] w w:=Ext.refl _ _;have HX:=Lib.hid h;have HV:=Lib.hid hv;clear h hv;refine Z0q 11 Qy.func67 rfl Tryz.ntmps67 (Nat.le_of_ble_eq_true rfl) ?_;intro fa F;refine wS fun K1 hK1=>wG <|F.vl (ZH rfl (ev_c fa _)) fun fa F=>?_
 refine wN <|hK1 _ _ <|wS fun K2 hK2=>wG <|F.vl (Zf rfl (F.at rfl) Qy.underlying85 rfl (by kernel_rfl) q8) fun fa F=>?_
 refine F.mv fun fa F=>?_;refine F.vl (Zf rfl (F.at rfl) Qy.underlying88 rfl (by kernel_rfl) q9) fun fa F=>?_;refine F.vl (Zf rfl (F.at rfl) Qy.underlying88 rfl (by kernel_rfl) q10) fun fa F=>?_;refine sqC F (Z0d rfl rfl Qy.call68 (mpS (F.at rfl) (mpS (F.at rfl) (mpS (F.at rfl) (mpS (F.at rfl) mp0))))) (Z6m (μ:=μ) x HV.out k hk f g hf hg _ (HX.out.ext E)) fun e w1 hR=>?_;obtain ⟨rfl,e9⟩:=hR;refine ⟨_,rfl,fun fa F=>?_⟩;replace q8:=(e9).keep0 q8;replace q9:=(e9).keep0 q9;replace q10:=(e9).keep0 q10;replace E:=Zj E (e9);clear e9;refine F.as fun fa F=>?_;refine wN <|hK2 _ _ ?_
 refine wp_ret ?_
 (try simp only [Exit.inBlock,Exit.then,reduceIte])
 refine rt_v F (rs_1 F rfl rfl) ?_;exact ⟨rfl,E⟩
noncomputable def aB:Code:=Tryz.f15.body.getD .skip
noncomputable def cAli : Code := .seq (sqL aB) (.seq (sqL (sqR aB)) (.seq (sqL (sqR (sqR aB))) (.seq (sqL (sqR (sqR (sqR aB)))) (.refuse ""))))
def Z2U (n:Nat):Deferred:={ target:=.fn (.func 63) #[],args:=#[.pointer (some ⟨n,0,none⟩)] }
structure AlA (x:Vm) (f g:Nat → Int) (w:World) (b fr:Frame) (w':World):Prop where
 ex : ∃ (a : Act) (n7 n8 n9 n10 : Nat), fr = b.at a [.code (.refuse "")] ∧
  Has 22 [Z2U n7] a [(7,pt n7),(8,pt n8),(9,pt n9),(10,pt n10)] ∧
  w'.heap[n7]? = some (.cells #[.int .i64 0] 30 (0,0)) ∧ w'.heap[n8]? = some (.cells #[.int .i64 x.B,.slice x.da x.D.length x.dc,.slice x.la x.L.length x.lc,.int .i64 x.tol] 85 (0,0)) ∧
  w'.heap[n9]? = some (.cells (tubC f) 88 (0,0)) ∧ w'.heap[n10]? = some (.cells (tubC g) 88 (0,0)) ∧
  w.heap.size ≤ n7 ∧ w.heap.size ≤ n8 ∧ w.heap.size ≤ n9 ∧ w.heap.size ≤ n10 ∧ n7 ≠ n8 ∧ n7 ≠ n9 ∧ n7 ≠ n10 ∧ Ext [] w w'
theorem ZiZ (x:Vm) (hv:VOk x) (l l':List Int) (hl:RcpOk x l) (hl':RcpOk x l') (a1 a2:Option Addr) (c1 c2:Nat) (w:World) (h:x.At w) (hr:Z7 w (.slice a1 l.length c1) 1 (l.map Z5)) (hr':Z7 w (.slice a2 l'.length c2) 1 (l'.map Z5))
  (fb:Frame) (fa:Act) (F:Has 22 [] fa [(0,x.val),(1,.slice a1 l.length c1),(2,.slice a2 l'.length c2)]):ToZ (Qy.prog 1) [Lift.poison] (AlA x (val l) (val l') w fb) (fb.at fa [.code cAli]) w:=by
 have E:Ext [] w w:=Ext.refl _ _;have HX:=Lib.hid h;have HV:=Lib.hid hv;have HR:=Lib.hid hr;have HR':=Lib.hid hr';have HL:=Lib.hid hl;have HL':=Lib.hid hl';clear h hv hr hr' hl hl';unfold Vm.val at F;have G:=(Bk.nil w).ce E;refine Z2I <|Z6Z <|wp_region_lit <|(F.bx G) fun yy F G=>(F.m) fun F=>(F.al G Qy.zeroValue30) @fun n7 w2 _ yy F G=>tI <|Z2I <|Z6Z <|wp_region_lit <|(F.df) fun F=>tI <|Z2I <|Z6Z <|wp_region_lit <|(F.y (F.lb (G.q 1))) fun F=>(F.k0 G (Z19 (μ:=1) x HV.out _ (HX.out.ext (G.e 2)))) fun F G=>(F.al G Qy.zeroValue85) @fun n8 w4 _ yy F G=>(F.sr G 0) fun G=>tI <|Z2I <|Z6Z ?_
 suffices hcut : ∀ (n9 n10 : Nat) {fa : Act} {W : World}, Has 22 [{ target := .fn (.func 63) #[], args := #[.pointer (some ⟨n7, 0, none⟩)] }] fa [(6, .slice none 0 0), (7, .pointer (some ⟨n7, 0, none⟩)), (8, .pointer (some ⟨n8, 0, none⟩)), (9, .pointer (some ⟨n9, 0, none⟩)), (10, .pointer (some ⟨n10, 0, none⟩))] → Bk W [.q n10 (#[.int .i64 (val l' 0), .int .i64 (val l' 1), .int .i64 (val l' 2), .int .i64 (val l' 3)]) 88, .q n9 (#[.int .i64 (val l 0), .int .i64 (val l 1), .int .i64 (val l 2), .int .i64 (val l 3)]) 88, .q n8 (#[.int .i64 x.B, .slice x.da x.D.length x.dc, .slice x.la x.L.length x.lc, .int .i64 x.tol]) 85, .q n7 (#[.int .i64 0]) 30, .e [] w] → w.heap.size ≤ n9 ∧ w.heap.size ≤ n10 ∧ n7 ≠ n9 ∧ n8 ≠ n9 ∧ n7 ≠ n10 ∧ n8 ≠ n10 ∧ n9 ≠ n10 → ToZ (Qy.prog 1) [Lift.poison] (AlA x (val l) (val l') w fb) (fb.at fa [.code (.refuse "")]) W by
  have G2:=G;refine (wDN [] none G) fun G=>(F.zr 0 (G.t 0) fun hS=>F.lb (G2.k 0 hS)) fun F=>(F.z 1 (G.t 0) F.mo) fun F=>(F.zr 3 (G.t 0) fun hS=>F.lb (G2.k 0 hS)) fun F=>(F.z 4 (G.t 0) F.mo) fun F=>Z4a (i:=2) (j:=6) (k:=7) (by kernel_rfl) ?_ ?_ ?_
  ·refine (F.ok (Z9 (μ:=1) x HV.out l HL.out a1 c1 _ (HR.out.ext (G.e 4) (by simp)))) ?_
   rintro _ w7 ⟨rfl,e9⟩;refine ⟨_,rfl,fun F=>?_⟩;replace G:=G.ex e9;refine .intro (G.t 0) ?_;unfold tubC at F;refine Z4a (i:=5) (j:=6) (k:=7) (by kernel_rfl) ?_ ?_ ?_
   ·refine (F.ok (Z9 (μ:=1) x HV.out l' HL'.out a2 c2 _ (HR'.out.ext (G.e 4) (by simp)))) ?_
    rintro _ w8 ⟨rfl,e9⟩;refine ⟨_,rfl,fun F=>?_⟩;replace G:=G.ex e9;refine .intro (G.t 0) ?_;unfold tubC at F;refine Z0l (i:=6) (j:=7) (by kernel_rfl) ?_ ?_
    ·refine (F.oa G Qy.zeroValue88) @fun n9 w9 _ yy F G=>.intro (G.t 1) <|(aO 7) <|(F.oa G Qy.zeroValue88) @fun n10 w10 _ yy F G=>.intro (G.t 2) <|(aO 8) <|(F.or G 1) fun G=>.intro (G.t 2) <|(aO 9) <|(F.or G 0) fun G=>.intro (G.t 2) <|(aDN) <|tI <|hcut _ _ F.u G.u (by omega)
    ·refine (F.oa G Qy.zeroValue88) @fun n10 w13 _ yy F G=>.intro (G.t 1) <|(aO 6) <|(F.oa G Qy.zeroValue88) @fun n9 w14 _ yy F G=>.intro (G.t 2) <|(aO 8) <|(F.or G 0) fun G=>.intro (G.t 2) <|(aO 9) <|(F.or G 1) fun G=>.intro (G.t 2) <|(aDN) <|tI <|hcut _ _ F.u G.u (by omega)
   ·refine (F.oa G Qy.zeroValue88) @fun n9 w17 _ yy F G=>.intro (G.t 1) <|Z0l (i:=5) (j:=7) (by kernel_rfl) ?_ ?_
    ·refine (F.ok (Z9 (μ:=1) x HV.out l' HL'.out a2 c2 _ (HR'.out.ext (G.e 5) (by simp)))) ?_
     rintro _ w18 ⟨rfl,e9⟩;refine ⟨_,rfl,fun F=>?_⟩;replace G:=G.ex e9;refine .intro (G.t 1) ?_;unfold tubC at F;refine (aO 7) <|(F.oa G Qy.zeroValue88) @fun n10 w19 _ yy F G=>.intro (G.t 2) <|(aO 8) <|(F.or G 1) fun G=>.intro (G.t 2) <|(aO 9) <|(F.or G 0) fun G=>.intro (G.t 2) <|(aDN) <|tI <|hcut _ _ F.u G.u (by omega)
    ·refine (F.oa G Qy.zeroValue88) @fun n10 w22 _ yy F G=>.intro (G.t 2) <|(aO 5) <|(F.ok (Z9 (μ:=1) x HV.out l' HL'.out a2 c2 _ (HR'.out.ext (G.e 6) (by simp)))) ?_
     rintro _ w23 ⟨rfl,e9⟩;refine ⟨_,rfl,fun F=>?_⟩;replace G:=G.ex e9;refine .intro (G.t 2) ?_;unfold tubC at F;refine (aO 8) <|(F.or G 1) fun G=>.intro (G.t 2) <|(aO 9) <|(F.or G 0) fun G=>.intro (G.t 2) <|(aDN) <|tI <|hcut _ _ F.u G.u (by omega)
   ·refine (F.oa G Qy.zeroValue88) @fun n10 w26 _ yy F G=>.intro (G.t 1) <|Z0l (i:=5) (j:=6) (by kernel_rfl) ?_ ?_
    ·refine (F.ok (Z9 (μ:=1) x HV.out l' HL'.out a2 c2 _ (HR'.out.ext (G.e 5) (by simp)))) ?_
     rintro _ w27 ⟨rfl,e9⟩;refine ⟨_,rfl,fun F=>?_⟩;replace G:=G.ex e9;refine .intro (G.t 1) ?_;unfold tubC at F;refine (aO 6) <|(F.oa G Qy.zeroValue88) @fun n9 w28 _ yy F G=>.intro (G.t 2) <|(aO 8) <|(F.or G 0) fun G=>.intro (G.t 2) <|(aO 9) <|(F.or G 1) fun G=>.intro (G.t 2) <|(aDN) <|tI <|hcut _ _ F.u G.u (by omega)
    ·refine (F.oa G Qy.zeroValue88) @fun n9 w31 _ yy F G=>.intro (G.t 2) <|(aO 5) <|(F.ok (Z9 (μ:=1) x HV.out l' HL'.out a2 c2 _ (HR'.out.ext (G.e 6) (by simp)))) ?_
     rintro _ w32 ⟨rfl,e9⟩;refine ⟨_,rfl,fun F=>?_⟩;replace G:=G.ex e9;refine .intro (G.t 2) ?_;unfold tubC at F;refine (aO 8) <|(F.or G 0) fun G=>.intro (G.t 2) <|(aO 9) <|(F.or G 1) fun G=>.intro (G.t 2) <|(aDN) <|tI <|hcut _ _ F.u G.u (by omega)
  ·refine (F.oa G Qy.zeroValue88) @fun n9 w35 _ yy F G=>.intro (G.t 1) <|Z0l (i:=2) (j:=7) (by kernel_rfl) ?_ ?_
   ·refine (F.ok (Z9 (μ:=1) x HV.out l HL.out a1 c1 _ (HR.out.ext (G.e 5) (by simp)))) ?_
    rintro _ w36 ⟨rfl,e9⟩;refine ⟨_,rfl,fun F=>?_⟩;replace G:=G.ex e9;refine .intro (G.t 1) ?_;unfold tubC at F;refine Z0l (i:=5) (j:=7) (by kernel_rfl) ?_ ?_
    ·refine (F.ok (Z9 (μ:=1) x HV.out l' HL'.out a2 c2 _ (HR'.out.ext (G.e 5) (by simp)))) ?_
     rintro _ w37 ⟨rfl,e9⟩;refine ⟨_,rfl,fun F=>?_⟩;replace G:=G.ex e9;refine .intro (G.t 1) ?_;unfold tubC at F;refine (aO 7) <|(F.oa G Qy.zeroValue88) @fun n10 w38 _ yy F G=>.intro (G.t 2) <|(aO 8) <|(F.or G 1) fun G=>.intro (G.t 2) <|(aO 9) <|(F.or G 0) fun G=>.intro (G.t 2) <|(aDN) <|tI <|hcut _ _ F.u G.u (by omega)
    ·refine (F.oa G Qy.zeroValue88) @fun n10 w41 _ yy F G=>.intro (G.t 2) <|(aO 5) <|(F.ok (Z9 (μ:=1) x HV.out l' HL'.out a2 c2 _ (HR'.out.ext (G.e 6) (by simp)))) ?_
     rintro _ w42 ⟨rfl,e9⟩;refine ⟨_,rfl,fun F=>?_⟩;replace G:=G.ex e9;refine .intro (G.t 2) ?_;unfold tubC at F;refine (aO 8) <|(F.or G 1) fun G=>.intro (G.t 2) <|(aO 9) <|(F.or G 0) fun G=>.intro (G.t 2) <|(aDN) <|tI <|hcut _ _ F.u G.u (by omega)
   ·refine (F.oa G Qy.zeroValue88) @fun n10 w45 _ yy F G=>.intro (G.t 2) <|(aO 2) <|(F.ok (Z9 (μ:=1) x HV.out l HL.out a1 c1 _ (HR.out.ext (G.e 6) (by simp)))) ?_
    rintro _ w46 ⟨rfl,e9⟩;refine ⟨_,rfl,fun F=>?_⟩;replace G:=G.ex e9;refine .intro (G.t 2) ?_;unfold tubC at F;refine (aO 5) <|(F.ok (Z9 (μ:=1) x HV.out l' HL'.out a2 c2 _ (HR'.out.ext (G.e 6) (by simp)))) ?_
    rintro _ w47 ⟨rfl,e9⟩;refine ⟨_,rfl,fun F=>?_⟩;replace G:=G.ex e9;refine .intro (G.t 2) ?_;unfold tubC at F;refine (aO 8) <|(F.or G 1) fun G=>.intro (G.t 2) <|(aO 9) <|(F.or G 0) fun G=>.intro (G.t 2) <|(aDN) <|tI <|hcut _ _ F.u G.u (by omega)
  ·refine (F.oa G Qy.zeroValue88) @fun n10 w50 _ yy F G=>.intro (G.t 1) <|Z0l (i:=2) (j:=6) (by kernel_rfl) ?_ ?_
   ·refine (F.ok (Z9 (μ:=1) x HV.out l HL.out a1 c1 _ (HR.out.ext (G.e 5) (by simp)))) ?_
    rintro _ w51 ⟨rfl,e9⟩;refine ⟨_,rfl,fun F=>?_⟩;replace G:=G.ex e9;refine .intro (G.t 1) ?_;unfold tubC at F;refine Z0l (i:=5) (j:=6) (by kernel_rfl) ?_ ?_
    ·refine (F.ok (Z9 (μ:=1) x HV.out l' HL'.out a2 c2 _ (HR'.out.ext (G.e 5) (by simp)))) ?_
     rintro _ w52 ⟨rfl,e9⟩;refine ⟨_,rfl,fun F=>?_⟩;replace G:=G.ex e9;refine .intro (G.t 1) ?_;unfold tubC at F;refine (aO 6) <|(F.oa G Qy.zeroValue88) @fun n9 w53 _ yy F G=>.intro (G.t 2) <|(aO 8) <|(F.or G 0) fun G=>.intro (G.t 2) <|(aO 9) <|(F.or G 1) fun G=>.intro (G.t 2) <|(aDN) <|tI <|hcut _ _ F.u G.u (by omega)
    ·refine (F.oa G Qy.zeroValue88) @fun n9 w56 _ yy F G=>.intro (G.t 2) <|(aO 5) <|(F.ok (Z9 (μ:=1) x HV.out l' HL'.out a2 c2 _ (HR'.out.ext (G.e 6) (by simp)))) ?_
     rintro _ w57 ⟨rfl,e9⟩;refine ⟨_,rfl,fun F=>?_⟩;replace G:=G.ex e9;refine .intro (G.t 2) ?_;unfold tubC at F;refine (aO 8) <|(F.or G 0) fun G=>.intro (G.t 2) <|(aO 9) <|(F.or G 1) fun G=>.intro (G.t 2) <|(aDN) <|tI <|hcut _ _ F.u G.u (by omega)
   ·refine (F.oa G Qy.zeroValue88) @fun n9 w60 _ yy F G=>.intro (G.t 2) <|(aO 2) <|(F.ok (Z9 (μ:=1) x HV.out l HL.out a1 c1 _ (HR.out.ext (G.e 6) (by simp)))) ?_
    rintro _ w61 ⟨rfl,e9⟩;refine ⟨_,rfl,fun F=>?_⟩;replace G:=G.ex e9;refine .intro (G.t 2) ?_;unfold tubC at F;refine (aO 5) <|(F.ok (Z9 (μ:=1) x HV.out l' HL'.out a2 c2 _ (HR'.out.ext (G.e 6) (by simp)))) ?_
    rintro _ w62 ⟨rfl,e9⟩;refine ⟨_,rfl,fun F=>?_⟩;replace G:=G.ex e9;refine .intro (G.t 2) ?_;unfold tubC at F;refine (aO 8) <|(F.or G 0) fun G=>.intro (G.t 2) <|(aO 9) <|(F.or G 1) fun G=>.intro (G.t 2) <|(aDN) <|tI <|hcut _ _ F.u G.u (by omega)
 clear F G;intro n9 n10 fa w65 F G hlt;exact ToZ.here ⟨fa,n7,n8,n9,n10,rfl,F.u,G.q 3,G.q 2,G.q 1,G.q 0,by omega,by omega,by omega,by omega,by omega,by omega,by omega,G.e 4⟩
variable {μ:Nat}
theorem Z9W {base': Nat} {X:List Nat} {w': World} (h:IntR base w l y) (E:Ext X w w') (hX:∀ b ∈ X,b < base) (hb:base' ≤ base): IntR base' w' l y:=by
 rcases h with h | ⟨g,c,h1,h2,h3,h4,h5,h6⟩
 ·exact .inl h
 ·refine .inr ⟨g,c,h1,h2,Nat.le_trans hb h3,h4,h5,?_⟩
  rw [E.block g (Z3 h6) fun hm=>by have:=hX g hm;omega];exact h6
theorem Z3F {γ: Nat → Bool} (h:∀ k,k < n → β k = γ k): Zu n β = Zu n γ:=by
 unfold Zu
 congr 1
 exact List.filter_congr fun k hk=>h k (List.mem_range.1 hk)
theorem Zgf (x:Vm) (hv:VOk x) (l l':List Int) (hl:RcpOk x l) (hl':RcpOk x l') (a1 a2:Option Addr) (c1 c2:Nat) (w:World) (h:x.At w) (hr:Z7 w (.slice a1 l.length c1) 1 (l.map Z5)) (hr':Z7 w (.slice a2 l'.length c2) 1 (l'.map Z5)) :
  Calls (Qy.prog 0) 186 #[.agg #[.int .i64 x.B,.slice x.da x.D.length x.dc,.slice x.la x.L.length x.lc,.int .i64 x.tol],.slice a1 l.length c1,.slice a2 l'.length c2] w fun e w'=>∃ y,e = .returned (.tuple #[y,.int .i64 0]) ∧ IntR w.heap.size w' (Zu x.L.length fun k=>alkE x k (val l) (val l')) y ∧ Ext [] w w':=by
 have E:Ext [] w w:=Ext.refl _ _;have HX:=Lib.hid h;have HV:=Lib.hid hv;have HR:=Lib.hid hr;have HR':=Lib.hid hr';have HL:=Lib.hid hl;have HL':=Lib.hid hl';have hl3:=hv.l3;clear h hv hr hr' hl hl';have G:=(Bk.nil w).ce E;refine (entM 22 Tryz.f15 rfl) fun F=>wR fun k1=>(F.bx G) fun yy F G=>(F.m) fun F=>(F.al G Qy.zeroValue30) @fun n7 w2 _ yy F G=>k1 <|wR fun k2=>(F.df) fun F=>k2 <|wR fun k3=>(F.y (F.lb (G.q 1))) fun F=>(F.k0 G (Z19 (μ:=0) x HV.out _ (HX.out.ext (G.e 2)))) fun F G=>(F.al G Qy.zeroValue85) @fun n8 w4 _ yy F G=>(F.sr G 0) fun G=>k3 <|wQ @fun K4 k4=>?_
 suffices hcut:∀ (n9 n10:Nat) {fa:Act} {W:World},Has 22 [{ target:=.fn (.func 63) #[],args:=#[.pointer (some ⟨n7,0,none⟩)] }] fa [(7,.pointer (some ⟨n7,0,none⟩)),(8,.pointer (some ⟨n8,0,none⟩)),(9,.pointer (some ⟨n9,0,none⟩)),(10,.pointer (some ⟨n10,0,none⟩))] → Bk W [.q n10 (#[.int .i64 (val l' 0),.int .i64 (val l' 1),.int .i64 (val l' 2),.int .i64 (val l' 3)]) 88,.q n9 (#[.int .i64 (val l 0),.int .i64 (val l 1),.int .i64 (val l 2),.int .i64 (val l 3)]) 88,.q n8 (#[.int .i64 x.B,.slice x.da x.D.length x.dc,.slice x.la x.L.length x.lc,.int .i64 x.tol]) 85,.q n7 (#[.int .i64 0]) 30,.e [] w] → w.heap.size ≤ n9 ∧ w.heap.size ≤ n10 ∧ n7 ≠ n9 ∧ n8 ≠ n9 ∧ n7 ≠ n10 ∧ n8 ≠ n10 ∧ n9 ≠ n10 → K4 fa W by
  have G2:=G;refine (wDN [] none G) fun G=>(F.zr 0 (G.t 0) fun hS=>F.lb (G2.k 0 hS)) fun F=>(F.z 1 (G.t 0) F.mo) fun F=>(F.zr 3 (G.t 0) fun hS=>F.lb (G2.k 0 hS)) fun F=>(F.z 4 (G.t 0) F.mo) fun F=>Z4a (i:=2) (j:=6) (k:=7) (by kernel_rfl) ?_ ?_ ?_
  ·refine (F.ok (Z9 (μ:=0) x HV.out l HL.out a1 c1 _ (HR.out.ext (G.e 4) (by simp)))) ?_
   rintro _ w7 ⟨rfl,e9⟩;refine ⟨_,rfl,fun F=>?_⟩;replace G:=G.ex e9;refine .intro (G.t 0) ?_;unfold tubC at F;refine Z4a (i:=5) (j:=6) (k:=7) (by kernel_rfl) ?_ ?_ ?_
   ·refine (F.ok (Z9 (μ:=0) x HV.out l' HL'.out a2 c2 _ (HR'.out.ext (G.e 4) (by simp)))) ?_
    rintro _ w8 ⟨rfl,e9⟩;refine ⟨_,rfl,fun F=>?_⟩;replace G:=G.ex e9;refine .intro (G.t 0) ?_;unfold tubC at F;refine Z0l (i:=6) (j:=7) (by kernel_rfl) ?_ ?_
    ·refine (F.oa G Qy.zeroValue88) @fun n9 w9 _ yy F G=>.intro (G.t 1) <|(aO 7) <|(F.oa G Qy.zeroValue88) @fun n10 w10 _ yy F G=>.intro (G.t 2) <|(aO 8) <|(F.or G 1) fun G=>.intro (G.t 2) <|(aO 9) <|(F.or G 0) fun G=>.intro (G.t 2) <|(aDN) <|hcut _ _ F.u G.u (by omega)
    ·refine (F.oa G Qy.zeroValue88) @fun n10 w13 _ yy F G=>.intro (G.t 1) <|(aO 6) <|(F.oa G Qy.zeroValue88) @fun n9 w14 _ yy F G=>.intro (G.t 2) <|(aO 8) <|(F.or G 0) fun G=>.intro (G.t 2) <|(aO 9) <|(F.or G 1) fun G=>.intro (G.t 2) <|(aDN) <|hcut _ _ F.u G.u (by omega)
   ·refine (F.oa G Qy.zeroValue88) @fun n9 w17 _ yy F G=>.intro (G.t 1) <|Z0l (i:=5) (j:=7) (by kernel_rfl) ?_ ?_
    ·refine (F.ok (Z9 (μ:=0) x HV.out l' HL'.out a2 c2 _ (HR'.out.ext (G.e 5) (by simp)))) ?_
     rintro _ w18 ⟨rfl,e9⟩;refine ⟨_,rfl,fun F=>?_⟩;replace G:=G.ex e9;refine .intro (G.t 1) ?_;unfold tubC at F;refine (aO 7) <|(F.oa G Qy.zeroValue88) @fun n10 w19 _ yy F G=>.intro (G.t 2) <|(aO 8) <|(F.or G 1) fun G=>.intro (G.t 2) <|(aO 9) <|(F.or G 0) fun G=>.intro (G.t 2) <|(aDN) <|hcut _ _ F.u G.u (by omega)
    ·refine (F.oa G Qy.zeroValue88) @fun n10 w22 _ yy F G=>.intro (G.t 2) <|(aO 5) <|(F.ok (Z9 (μ:=0) x HV.out l' HL'.out a2 c2 _ (HR'.out.ext (G.e 6) (by simp)))) ?_
     rintro _ w23 ⟨rfl,e9⟩;refine ⟨_,rfl,fun F=>?_⟩;replace G:=G.ex e9;refine .intro (G.t 2) ?_;unfold tubC at F;refine (aO 8) <|(F.or G 1) fun G=>.intro (G.t 2) <|(aO 9) <|(F.or G 0) fun G=>.intro (G.t 2) <|(aDN) <|hcut _ _ F.u G.u (by omega)
   ·refine (F.oa G Qy.zeroValue88) @fun n10 w26 _ yy F G=>.intro (G.t 1) <|Z0l (i:=5) (j:=6) (by kernel_rfl) ?_ ?_
    ·refine (F.ok (Z9 (μ:=0) x HV.out l' HL'.out a2 c2 _ (HR'.out.ext (G.e 5) (by simp)))) ?_
     rintro _ w27 ⟨rfl,e9⟩;refine ⟨_,rfl,fun F=>?_⟩;replace G:=G.ex e9;refine .intro (G.t 1) ?_;unfold tubC at F;refine (aO 6) <|(F.oa G Qy.zeroValue88) @fun n9 w28 _ yy F G=>.intro (G.t 2) <|(aO 8) <|(F.or G 0) fun G=>.intro (G.t 2) <|(aO 9) <|(F.or G 1) fun G=>.intro (G.t 2) <|(aDN) <|hcut _ _ F.u G.u (by omega)
    ·refine (F.oa G Qy.zeroValue88) @fun n9 w31 _ yy F G=>.intro (G.t 2) <|(aO 5) <|(F.ok (Z9 (μ:=0) x HV.out l' HL'.out a2 c2 _ (HR'.out.ext (G.e 6) (by simp)))) ?_
     rintro _ w32 ⟨rfl,e9⟩;refine ⟨_,rfl,fun F=>?_⟩;replace G:=G.ex e9;refine .intro (G.t 2) ?_;unfold tubC at F;refine (aO 8) <|(F.or G 0) fun G=>.intro (G.t 2) <|(aO 9) <|(F.or G 1) fun G=>.intro (G.t 2) <|(aDN) <|hcut _ _ F.u G.u (by omega)
  ·refine (F.oa G Qy.zeroValue88) @fun n9 w35 _ yy F G=>.intro (G.t 1) <|Z0l (i:=2) (j:=7) (by kernel_rfl) ?_ ?_
   ·refine (F.ok (Z9 (μ:=0) x HV.out l HL.out a1 c1 _ (HR.out.ext (G.e 5) (by simp)))) ?_
    rintro _ w36 ⟨rfl,e9⟩;refine ⟨_,rfl,fun F=>?_⟩;replace G:=G.ex e9;refine .intro (G.t 1) ?_;unfold tubC at F;refine Z0l (i:=5) (j:=7) (by kernel_rfl) ?_ ?_
    ·refine (F.ok (Z9 (μ:=0) x HV.out l' HL'.out a2 c2 _ (HR'.out.ext (G.e 5) (by simp)))) ?_
     rintro _ w37 ⟨rfl,e9⟩;refine ⟨_,rfl,fun F=>?_⟩;replace G:=G.ex e9;refine .intro (G.t 1) ?_;unfold tubC at F;refine (aO 7) <|(F.oa G Qy.zeroValue88) @fun n10 w38 _ yy F G=>.intro (G.t 2) <|(aO 8) <|(F.or G 1) fun G=>.intro (G.t 2) <|(aO 9) <|(F.or G 0) fun G=>.intro (G.t 2) <|(aDN) <|hcut _ _ F.u G.u (by omega)
    ·refine (F.oa G Qy.zeroValue88) @fun n10 w41 _ yy F G=>.intro (G.t 2) <|(aO 5) <|(F.ok (Z9 (μ:=0) x HV.out l' HL'.out a2 c2 _ (HR'.out.ext (G.e 6) (by simp)))) ?_
     rintro _ w42 ⟨rfl,e9⟩;refine ⟨_,rfl,fun F=>?_⟩;replace G:=G.ex e9;refine .intro (G.t 2) ?_;unfold tubC at F;refine (aO 8) <|(F.or G 1) fun G=>.intro (G.t 2) <|(aO 9) <|(F.or G 0) fun G=>.intro (G.t 2) <|(aDN) <|hcut _ _ F.u G.u (by omega)
   ·refine (F.oa G Qy.zeroValue88) @fun n10 w45 _ yy F G=>.intro (G.t 2) <|(aO 2) <|(F.ok (Z9 (μ:=0) x HV.out l HL.out a1 c1 _ (HR.out.ext (G.e 6) (by simp)))) ?_
    rintro _ w46 ⟨rfl,e9⟩;refine ⟨_,rfl,fun F=>?_⟩;replace G:=G.ex e9;refine .intro (G.t 2) ?_;unfold tubC at F;refine (aO 5) <|(F.ok (Z9 (μ:=0) x HV.out l' HL'.out a2 c2 _ (HR'.out.ext (G.e 6) (by simp)))) ?_
    rintro _ w47 ⟨rfl,e9⟩;refine ⟨_,rfl,fun F=>?_⟩;replace G:=G.ex e9;refine .intro (G.t 2) ?_;unfold tubC at F;refine (aO 8) <|(F.or G 1) fun G=>.intro (G.t 2) <|(aO 9) <|(F.or G 0) fun G=>.intro (G.t 2) <|(aDN) <|hcut _ _ F.u G.u (by omega)
  ·refine (F.oa G Qy.zeroValue88) @fun n10 w50 _ yy F G=>.intro (G.t 1) <|Z0l (i:=2) (j:=6) (by kernel_rfl) ?_ ?_
   ·refine (F.ok (Z9 (μ:=0) x HV.out l HL.out a1 c1 _ (HR.out.ext (G.e 5) (by simp)))) ?_
    rintro _ w51 ⟨rfl,e9⟩;refine ⟨_,rfl,fun F=>?_⟩;replace G:=G.ex e9;refine .intro (G.t 1) ?_;unfold tubC at F;refine Z0l (i:=5) (j:=6) (by kernel_rfl) ?_ ?_
    ·refine (F.ok (Z9 (μ:=0) x HV.out l' HL'.out a2 c2 _ (HR'.out.ext (G.e 5) (by simp)))) ?_
     rintro _ w52 ⟨rfl,e9⟩;refine ⟨_,rfl,fun F=>?_⟩;replace G:=G.ex e9;refine .intro (G.t 1) ?_;unfold tubC at F;refine (aO 6) <|(F.oa G Qy.zeroValue88) @fun n9 w53 _ yy F G=>.intro (G.t 2) <|(aO 8) <|(F.or G 0) fun G=>.intro (G.t 2) <|(aO 9) <|(F.or G 1) fun G=>.intro (G.t 2) <|(aDN) <|hcut _ _ F.u G.u (by omega)
    ·refine (F.oa G Qy.zeroValue88) @fun n9 w56 _ yy F G=>.intro (G.t 2) <|(aO 5) <|(F.ok (Z9 (μ:=0) x HV.out l' HL'.out a2 c2 _ (HR'.out.ext (G.e 6) (by simp)))) ?_
     rintro _ w57 ⟨rfl,e9⟩;refine ⟨_,rfl,fun F=>?_⟩;replace G:=G.ex e9;refine .intro (G.t 2) ?_;unfold tubC at F;refine (aO 8) <|(F.or G 0) fun G=>.intro (G.t 2) <|(aO 9) <|(F.or G 1) fun G=>.intro (G.t 2) <|(aDN) <|hcut _ _ F.u G.u (by omega)
   ·refine (F.oa G Qy.zeroValue88) @fun n9 w60 _ yy F G=>.intro (G.t 2) <|(aO 2) <|(F.ok (Z9 (μ:=0) x HV.out l HL.out a1 c1 _ (HR.out.ext (G.e 6) (by simp)))) ?_
    rintro _ w61 ⟨rfl,e9⟩;refine ⟨_,rfl,fun F=>?_⟩;replace G:=G.ex e9;refine .intro (G.t 2) ?_;unfold tubC at F;refine (aO 5) <|(F.ok (Z9 (μ:=0) x HV.out l' HL'.out a2 c2 _ (HR'.out.ext (G.e 6) (by simp)))) ?_
    rintro _ w62 ⟨rfl,e9⟩;refine ⟨_,rfl,fun F=>?_⟩;replace G:=G.ex e9;refine .intro (G.t 2) ?_;unfold tubC at F;refine (aO 8) <|(F.or G 0) fun G=>.intro (G.t 2) <|(aO 9) <|(F.or G 1) fun G=>.intro (G.t 2) <|(aDN) <|hcut _ _ F.u G.u (by omega)
 clear F G;intro n9 n10 fa w65 F G hlt;refine k4 <|wR fun k5=>(F.y (F.lb (G.q 2))) fun F=>(F.y F.mf) fun F=>?_
 obtain ⟨B0,hB0⟩:∃ B0,B0 = w65.heap.size:=⟨_,rfl⟩;have hb7:n7 < B0:=by rw [hB0];exact Z3 (G.q 3)
 have hEs:w.heap.size ≤ B0:=by rw [hB0];exact (G.e 4).size
 have hask:∀ k,k < x.L.length → ∀ W,Ext [] w65 W → Calls (Qy.prog 0) 67 (#[] ++ [.int .i64 ((k:Nat):Int)].toArray ++ #[.pointer (some ⟨n8,0,none⟩),.pointer (some ⟨n9,0,none⟩),.pointer (some ⟨n10,0,none⟩)]) W fun e w'=>e = .returned (.bool (alkE x k (val l) (val l'))) ∧ Ext [] W w':=fun k hk W eW=>Z7w (μ:=0) x HV.out k hk (val l) (val l') HL.out.tub HL'.out.tub n8 n9 n10 _ _ _ _ _ _ W ((HX.out.ext (G.e 4)).ext eW) (eW.keep0 (G.q 2)) (eW.keep0 (G.q 1)) (eW.keep0 (G.q 0));refine (F.k (Zfe x hl3 67 #[.pointer (some ⟨n8,0,none⟩),.pointer (some ⟨n9,0,none⟩),.pointer (some ⟨n10,0,none⟩)] (fun k=>alkE x k (val l) (val l')) Qy.call67 _ hask)) ?_;rintro _ w66 ⟨y,rfl,hI,e9⟩;refine ⟨_,rfl,fun F=>?_⟩;replace G:=G.ex e9;clear hask;rw [← hB0] at hI;replace G:=G.hr [n7];refine (F.m) fun F=>(F.st G 4) fun G=>k5 <|wp_ret ?_
 (try simp only [Exit.inBlock,Exit.then,reduceIte])
 refine Z43 F <|ZU <|Z23 (Z7O F rfl rfl rfl Qy.underlying30 rfl (G.q 4)) ?_
 exact ⟨y,rfl,Z9W hI (G.e 0) (by simp;omega) hEs,(G.e 5)⟩
end Go.Proofs.YtfelljbfeoplhaaGreat
namespace Go.Proofs.YtfelljbfeoplhaaGreat
open Go.RowKit
variable {μ:Nat}
section
variable {P:Program} {ops:Array Oper} {Q:Exit → Act → World → Prop} {o:Oper} {rest:List Oper} {N:Nat} {D:List Deferred} {a:Act} {L:List (Nat × Value)} {w w':World}
theorem Z9G (hw:Region.wanted o (yielded ops a.tmps) = true) (hr:(execOp a.eval o).run P w = .halt (.panic v) w) (h:Q (.panic [{ v,recovered:=false }]) a w): wpList P ops Q (o :: rest) a w:=by
 unfold wpList;simp only [hw,if_true,Oper.wp,hr,Oper.upon];exact .inl h
theorem Zbf (ho:o.op = .panic x) (hx:ρ x = .iface t v): (execOp ρ o).run P w = .halt (.panic (.iface t v)) w:=by
 unfold execOp;simp [ho,hx,Instr.panic,goPanic,go_sem]
end
end Go.Proofs.YtfelljbfeoplhaaGreat
namespace Go.Proofs.YtfelljbfeoplhaaGreat
open Go.RowKit Go.Proofs.YtfelljbfeoplhaaGreat.Ev
variable {μ:Nat}
theorem Qy.ntmps189:Qy.f189.ntmps = 13:=rfl
section
variable {P:Program} {o:Oper} {w:World} {a:Act}
theorem Za7 {w:World} {ob:Obj}: Ext [] w (w.drew.alloc ob):=⟨rfl,rfl,rfl,by
 show w.heap.size ≤ (w.heap.push ob).size;simp,fun k hk _=>by
 show (w.heap.push ob)[k]? = w.heap[k]?;rw [Array.getElem?_push_lt hk,Array.getElem?_eq_getElem hk]⟩
theorem Z9l {e: TypeId} (ho:o.op = .call { callee:=.builtin .append,args:=#[.const (.slice none 0 0),x],argTypes:=#[t,t] }) (ht:P.underlying t = some (.slice e)) (hi:(P.info? e).map (fun i=>(i.size,i.bytes,i.zero.map (·.cells))) = some (1,8,some #[Value.int .i64 0])) {g m: Nat} {cs:List Value} {T:TypeId} {fz:Nat × Nat} (hx:a.eval x = .slice (some ⟨g,0,none⟩) m c) (hg:w.heap[g]? = some (.cells cs.toArray T fz)) (hl:m ≤ cs.length) (h0:0 < m) (hm:m ≤ 1000):
  (execOp a.eval o).run P w = .ok (.value (.slice (some ⟨w.heap.size,0,none⟩) m (grownCap w m 0 e))) (w.drew.alloc (.cells ((cs.take m).toArray ++ Builtin.zeroCells #[Value.int .i64 0] (grownCap w m 0 e - m)) e)):=by
 cases hq:P.info? e with
 | none=>simp [hq] at hi
 | some i =>
  simp only [hq,Option.map_some,Option.some.injEq,Prod.mk.injEq,Option.map_eq_some_iff] at hi;obtain ⟨hi1,hi2,z,hz1,hz2⟩:=hi;have hr:=run_append_nil (P:=P) w t o.type e i z ht hq hz1 ⟨g,0,none⟩ m c (cs.take m) (by rw [hi1,List.length_take];omega) (fun j v hv=>by
   rw [Addr.add_lit,Nat.zero_add,Z0 hg];rw [List.getElem?_take] at hv
   split at hv
   ·simpa using hv
   ·cases hv) h0 (by omega) (by rw [hi2];omega)
  rw [hz2] at hr;have hn:a.eval (.const (.slice none 0 0)) = .slice none 0 0:=rfl;unfold execOp;simp only [ho,resolve,invoke,builtin,Sem.run_bind,Sem.run_pure,Result.andThen_ok,List.map_toArray,List.map_cons,List.map_nil,hx,hn,hr]
theorem Zcq {e: TypeId} (ho:o.op = .call { callee:=.builtin .append,args:=#[.const (.slice none 0 0),x],argTypes:=#[t,t] }) (ht:P.underlying t = some (.slice e)) (hi:(P.info? e).map (fun i=>(i.size,i.bytes,i.zero.map (·.cells))) = some (1,8,some #[Value.int .i64 0])) (hx:a.eval x = .slice none 0 0): (execOp a.eval o).run P w = .ok (.value (.slice none 0 0)) w:=by
 cases hq:P.info? e with
 | none=>simp [hq] at hi
 | some i =>
  simp only [hq,Option.map_some,Option.some.injEq,Prod.mk.injEq,Option.map_eq_some_iff] at hi;obtain ⟨hi1,hi2,z,hz1,hz2⟩:=hi;have hr:(Builtin.append_ #[t,t] o.type #[.slice none 0 0,.slice none 0 0]).run P w = .ok (.slice none 0 0) w:=by
   unfold Builtin.append_;simp [ht,run_underlying ht,sizeOf,typeInfo,hq,Builtin.lenOf,Builtin.firstCells,go_sem,Result.andThen]
  have hn:a.eval (.const (.slice none 0 0)) = .slice none 0 0:=rfl;unfold execOp;simp only [ho,resolve,invoke,builtin,Sem.run_bind,Sem.run_pure,Result.andThen_ok,List.map_toArray,List.map_cons,List.map_nil,hx,hn,hr]
theorem Zc3 {e: TypeId} (ho:o.op = .call { callee:=.builtin .append,args:=#[.const (.slice none 0 0),x],argTypes:=#[t,t] }) (ht:P.underlying t = some (.slice e)) (hi:(P.info? e).map (fun i=>(i.size,i.bytes,i.zero.map (·.cells))) = some (1,8,some #[Value.int .i64 0])) {g m: Nat} {cs:List Value} {T:TypeId} {fz:Nat × Nat} (hx:a.eval x = .slice (some ⟨g,0,none⟩) m c) (hg:w.heap[g]? = some (.cells cs.toArray T fz)) (hl:m ≤ cs.length) (h0:0 < m) (hm:m ≤ 1000):
  ∃ v' w',(execOp a.eval o).run P w = .ok (.value v') w' ∧ (∃ b k,v' = .slice (some ⟨b,0,none⟩) m k ∧ ∃ d,k = (Question.appendCap m 0 e).cut (w.tape d (.appendCap m 0 e))) ∧ Ext [] w w':=
 ⟨_,_,Z9l ho ht hi hx hg hl h0 hm,⟨_,_,rfl,w.drawn,rfl⟩,Za7⟩
def Zeq (w:World) (y:Value):Prop:=∀ g n c,y = .slice (some ⟨g,0,none⟩) n c → ∃ d,c = (Question.appendCap n 0 3).cut (w.tape d (.appendCap n 0 3))
theorem Zfd (ho:o.op = .call { callee:=.builtin .append,args:=#[.const (.slice none 0 0),x],argTypes:=#[t,t] }) (ht:P.underlying t = some (.slice 3)) (hi:(P.info? 3).map (fun i=>(i.size,i.bytes,i.zero.map (·.cells))) = some (1,8,some #[Value.int .i64 0])) (hx:a.eval x = y) (h:IntR base w l y) (hl:l.length ≤ 1000):
  ∃ v' w',(execOp a.eval o).run P w = .ok (.value v') w' ∧ IntR w.heap.size w' l v' ∧ Ext [] w w' ∧ Zeq w v':=by
 rcases h with ⟨rfl,rfl⟩ | ⟨g,c,h1,rfl,h3,h4,h5,h6⟩
 ·exact ⟨_,_,Zcq ho ht hi hx,.inl ⟨rfl,rfl⟩,Ext.refl _ _,fun g n c e=>by cases e⟩
 ·have h0:0 < l.length:=List.length_pos_iff.2 h1
  refine ⟨_,_,Z9l ho ht hi hx h6 (by simp [ivs]) h0 hl,.inr ⟨_,_,h1,rfl,Nat.le_refl _,?_,?_,?_⟩,Za7,fun g' n' c' e=>?_⟩
  ·unfold grownCap Question.cut
   dsimp only;omega
  ·unfold grownCap Question.cut
   dsimp only;simp only [maxLen];have:w.tape w.drawn (.appendCap l.length 0 3) % (2 ^ 63 - l.length) < 2 ^ 63 - l.length:=Nat.mod_lt _ (by omega);omega
  ·have hh:=heap_alloc_new w.drew (.cells ((((ivs l) ++ List.replicate (c - l.length) (Value.int .i64 0)).take l.length).toArray ++ Builtin.zeroCells #[Value.int .i64 0] (grownCap w l.length 0 3 - l.length)) 3)
   refine hh.trans ?_
   congr 1
   congr 1
   apply Array.ext';have hil:(ivs l).length = l.length:=by simp [ivs]
   rw [List.take_append_of_le_length (by rw [hil];exact Nat.le_refl _),List.take_of_length_le (by rw [hil];exact Nat.le_refl _)];simp only [Array.toList_append]
   congr 1
   apply List.ext_getElem?;intro i;rw [Array.getElem?_toList]
   by_cases hi:i < grownCap w l.length 0 3 - l.length
   ·rw [Zad hi,List.getElem?_replicate,if_pos hi]
   ·rw [List.getElem?_replicate,if_neg hi]
    rw [Array.getElem?_eq_none];simp [Builtin.zeroCells];omega
  ·simp only [Value.slice.injEq,Option.some.injEq,Addr.mk.injEq] at e
   obtain ⟨_,rfl,rfl⟩:=e;exact ⟨w.drawn,rfl⟩
theorem ZiI {b:Option Addr} (ho:o.op = .call { callee:=.builtin .cap,args:=#[x],argTypes:=#[t] }) (hx:a.eval x = .slice b n c) (hu:P.underlying t = some (.slice (P.elem t))): (execOp a.eval o).run P w = .ok (.value (.int .i64 c)) w:=by
 unfold execOp;simp only [ho,resolve,invoke,builtin,Sem.run_bind,Sem.run_pure,Result.andThen_ok,List.map_toArray,List.map_cons,List.map_nil,hx,run_cap_slice w t o.type b n c hu]
 rfl
theorem Z5N {d:TypeDesc} (ho:o.op = .makeInterface t x) (hx:ρ x = v) (hu:P.underlying t = some d) (hd:∀ m,d ≠ .interface m): (execOp ρ o).run P w = .ok (.value (.iface t v)) w:=by
 unfold execOp
 cases d <;> first | exact absurd rfl (hd _) | simp [ho,hx,Instr.makeInterface,run_underlying hu,go_sem,Result.andThen]
theorem ZdO {ops:Array Oper} {Q:Exit → Act → World → Prop} {rest:List Oper} {N:Nat} {D:List Deferred} {L:List (Nat × Value)} (F:Has N D a L) {d:Nat} {f:FuncId} {args:Array Value} {R:Ending → World → Prop} (hd:o.dst = some d) (hN:d < N) (hw:Region.wanted o (yielded ops a.tmps) = true) (hr:(execOp a.eval o).run P w = .ok (.enter f args) w) (hc:Calls P f args w R) (h:∀ e w',R e w' → (∃ ch,e = .panicked ch ∧ Q (.panic ch) a w') ∨ ∃ v,e = .returned v ∧ ∀ a2,Has N D a2 ((d,v) :: L) → wpList P ops Q rest a2 w'): wpList P ops Q (o :: rest) a w:=by
 unfold wpList;simp only [hw,if_true,Oper.wp,hr,Oper.upon];refine .inl (hc.mono fun e w' hR=>?_)
 rcases h e w' hR with ⟨ch,rfl,h1⟩ | ⟨v,rfl,h1⟩
 ·exact h1
 ·show wpList _ _ _ _ _ _
  rw [hd];exact h1 _ (F.put hN v)
theorem Has.kp {ops:Array Oper} {Q:Exit → Act → World → Prop} {rest:List Oper} {N:Nat} {D:List Deferred} {L:List (Nat × Value)} {d:Nat} {f:FuncId} {l:List Operand} {ts:Array TypeId} {vs:List Value} {R:Ending → World → Prop} (F:Has N D a L) (hc:Calls P f vs.toArray w R) (C:Z7C P f = true:=by kernel_rfl) (ho:o.op = .call { callee:=.value (.func f),args:=l.toArray,argTypes:=ts }:=by rfl) (ha:opvs L l = some vs:=by rfl) (hd:o.dst = some d:=by rfl) (hN:d < N:=by decide) (hw:Z0e L ops o = some true:=by rfl) (h:∀ e w',R e w' → (∃ ch,e = .panicked ch ∧ Q (.panic ch) a w') ∨ ∃ v,e = .returned v ∧ ∀ {a2},Has N D a2 ((d,v) :: L) → wpList P ops Q rest a2 w'): wpList P ops Q (o :: rest) a w:=ZdO F hd hN (F.want hw) (F.rc C ho ha) hc fun e w' hR=>by
 rcases h e w' hR with h | ⟨v,h1,h2⟩
 ·exact .inl h
 ·exact .inr ⟨v,h1,fun _ F=>h2 F⟩
end
def bunV (f:FuncId) (xs:Array Value):PanicEntry:={ v:=.iface 90 (.func (.func f) xs #[]),recovered:=false }
theorem Zil:(Qy.prog 0).underlying 90 = Tryz.prog.underlying 90:=Lift.under_pf (P:=Tryz.prog) 90
theorem ZdE (y0 y1 y2:Value) (w:World) (hb:∀ d,7 < (Question.appendCap 7 0 3).cut (w.tape d (.appendCap 7 0 3))):Calls (Qy.prog 0) 15 #[y0,y1,y2] w fun e w'=>e = .panicked [bunV 15 #[y0,y1,y2]] ∧ Ext [] w w':=by
 have E:Ext [] w w:=Ext.refl _ _;refine Z0q 13 Qy.func15 rfl Qy.ntmps189 (Nat.le_of_ble_eq_true rfl) ?_;intro fa F;refine wS fun K1 hK1=>wG ?_;refine sqN F (ZY rfl pr0 Qy.underlying22 (size:=1) (by kernel_rfl) (by decide) (by decide) Qy.zeroValue3 (cells:=#[.int .i64 0,.int .i64 0,.int .i64 0,.int .i64 0,.int .i64 0,.int .i64 0,.int .i64 0]) (by kernel_rfl)) fun fa w1 F hw=>?_;obtain ⟨n3,hn⟩:=eQ w.heap.size;rw [← hn] at F;have s3:=sQ hn;have l3_E:=lQ hn E.size;replace E:=Z6 E hw;have q3:=Z05 hw hn;clear hw hn;have htp:=E.tape;refine ZI F rfl (by decide) rfl (Zc3 rfl Qy.underlying22 (by kernel_rfl) (F.at rfl) q3 (by decide) (by decide) (by decide)) ?_;clear F fa;rintro fa v' w2 F ⟨⟨b4,K,rfl,d4,hK⟩,e9⟩;replace q3:=(e9).keep0 q3;replace E:=Zj E (e9);rw [htp] at hK;have hb1:=hb d4;rw [← hK] at hb1;refine F.vl ((ZiI rfl (F.at rfl) Qy.underlying22)) fun fa F=>?_;refine F.vl (ZcK (b:=true) rfl (ev_c fa _) (F.at rfl) (decide_eq_true ((by omega)))) fun fa F=>?_;refine wN <|hK1 _ _ <|wS fun K2 hK2=>?_
 refine cd_T F rfl ?_;refine wG <|F.vl (Z2v rfl (Z4Q (mpS (F.at rfl) (mpS (F.at rfl) (mpS (F.at rfl) mp0)))) (Z4Q mp0)) fun fa F=>?_
 refine F.vl ((Z5N rfl (F.at rfl) Zil (by intro m e;cases e))) fun fa F=>?_;refine Z9G rfl (Zbf rfl (F.at rfl)) ?_
 (try simp only [Exit.inBlock,Exit.then,Exit.jump,reduceIte])
 refine ⟨F.ds,?_⟩;exact ⟨rfl,E⟩
theorem Z49 (x:Vm) (hv:VOk x) (l l':List Int) (hl:RcpOk x l) (hl':RcpOk x l') (a1 a2:Option Addr) (c1 c2:Nat) (w:World) (h:x.At w) (hr:Z7 w (.slice a1 l.length c1) 1 (l.map Z5)) (hr':Z7 w (.slice a2 l'.length c2) 1 (l'.map Z5)) :
  Calls (Qy.prog 0) 15 #[.agg #[.int .i64 x.B,.slice x.da x.D.length x.dc,.slice x.la x.L.length x.lc,.int .i64 x.tol],.slice a1 l.length c1,.slice a2 l'.length c2] w fun e w' =>
   ((e = .panicked [bunV 15 #[.agg #[.int .i64 x.B,.slice x.da x.D.length x.dc,.slice x.la x.L.length x.lc,.int .i64 x.tol],.slice a1 l.length c1,.slice a2 l'.length c2]] ∧ ∃ d,7 < (Question.appendCap 7 0 3).cut (w.tape d (.appendCap 7 0 3))) ∧ Ext [] w w') ∨
   ∃ y,e = .returned (.tuple #[y,.int .i64 0]) ∧ IntR w.heap.size w' (Zu x.L.length fun k=>alkE x k (val l) (val l')) y ∧ Zeq w y ∧ Ext [] w w':=by
 have E:Ext [] w w:=Ext.refl _ _;have HX:=Lib.hid h;have HV:=Lib.hid hv;have HR:=Lib.hid hr;have HR':=Lib.hid hr';have HL:=Lib.hid hl;have HL':=Lib.hid hl';have hl3:=hv.l3;clear h hv hr hr' hl hl';refine Z0q 13 Qy.func15 rfl Qy.ntmps189 (Nat.le_of_ble_eq_true rfl) ?_;intro fa F;refine wS fun K1 hK1=>wG ?_;refine sqN F (ZY rfl pr0 Qy.underlying22 (size:=1) (by kernel_rfl) (by decide) (by decide) Qy.zeroValue3 (cells:=#[.int .i64 0,.int .i64 0,.int .i64 0,.int .i64 0,.int .i64 0,.int .i64 0,.int .i64 0]) (by kernel_rfl)) fun fa w1 F hw=>?_;obtain ⟨n3,hn⟩:=eQ w.heap.size;rw [← hn] at F;have s3:=sQ hn;have l3_E:=lQ hn E.size;replace E:=Z6 E hw;have q3:=Z05 hw hn;clear hw hn;have htp:=E.tape;refine ZI F rfl (by decide) rfl (Zc3 rfl Qy.underlying22 (by kernel_rfl) (F.at rfl) q3 (by decide) (by decide) (by decide)) ?_;clear F fa;rintro fa v' w2 F ⟨⟨b4,K,rfl,d4,hK⟩,e9⟩;replace q3:=(e9).keep0 q3;replace E:=Zj E (e9);rw [htp] at hK;refine F.vl ((ZiI rfl (F.at rfl) Qy.underlying22)) fun fa F=>?_;refine F.vl (Z7R rfl (ev_c fa _) (F.at rfl)) fun fa F=>?_;refine wN <|hK1 _ _ <|wS fun K2 hK2=>?_
 refine ZcM F rfl (fun hc6=>?_) (fun hc6=>?_)
 ·skip
  refine wG <|F.vl (Z2v rfl (Z4Q (mpS (F.at rfl) (mpS (F.at rfl) (mpS (F.at rfl) mp0)))) (Z4Q mp0)) fun fa F=>?_
  refine F.vl ((Z5N rfl (F.at rfl) Zil (by intro m e;cases e))) fun fa F=>?_;refine Z9G rfl (Zbf rfl (F.at rfl)) ?_
  (try simp only [Exit.inBlock,Exit.then,Exit.jump,reduceIte])
  refine ⟨F.ds,?_⟩;exact .inl ⟨⟨rfl,d4,by rw [← hK];exact Int.ofNat_lt.1 (by simpa using hc6)⟩,E⟩
 ·skip
  refine wp_skip <|hK2 _ _ <|wS fun K3 hK3=>wG ?_
  refine sqC F (Z0d rfl rfl Qy.call186 (mpS (F.at rfl) (mpS (F.at rfl) (mpS (F.at rfl) mp0)))) (Zgf x HV.out l l' HL.out HL'.out a1 a2 c1 c2 _ (HX.out.ext E) (HR.out.ext E (by simp)) (HR'.out.ext E (by simp))) fun e w3 hR=>?_;obtain ⟨y,rfl,hI,e9⟩:=hR;refine ⟨_,rfl,fun fa F=>?_⟩;replace q3:=(e9).keep0 q3;replace E:=Zj E (e9);clear e9;refine F.vl (Z5e rfl (F.at rfl) (get0)) fun fa F=>?_;refine F.vl (Z5e rfl (F.at rfl) (getS (get0))) fun fa F=>?_;have hEs:=E.size;have htp:=E.tape;have hll:(Zu x.L.length fun k=>alkE x k (val l) (val l')).length ≤ 1000:=by have:=List.length_filter_le (fun k=>alkE x k (val l) (val l')) (List.range x.L.length);simp only [Zu,List.length_map];simp only [List.length_range] at this;omega
  refine ZI F rfl (by decide) rfl (Zfd rfl Qy.underlying22 (by kernel_rfl) (F.at rfl) hI hll) ?_;clear F fa;rintro fa v' w4 F ⟨hI2,e9,hC⟩;replace q3:=(e9).keep0 q3;replace E:=Zj E (e9);refine wN <|hK3 _ _ ?_
  refine wp_ret ?_
  (try simp only [Exit.inBlock,Exit.then,reduceIte])
  refine rt_v F (rs_2 F rfl rfl rfl) ?_;exact .inr ⟨_,rfl,Z9W hI2 (Ext.refl [] _) (by simp) (by omega),(by unfold Zeq at hC ⊢;rw [htp] at hC;exact hC),E⟩
end Go.Proofs.YtfelljbfeoplhaaGreat
namespace Go.Proofs.YtfelljbfeoplhaaGreat
open Go.RowKit
variable {μ:Nat}
theorem ZaP (xs:List Int) (f:FuncId) (cs:Array Value) (p:Int → Bool) (a:Option Addr) (c:Nat) (w:World) (hx:Z7 w (.slice a xs.length c) 1 (xs.map Z5)) (hl:xs.length ≤ 1000)
  (hf:∀ args w,(callFunc f args).run (Qy.prog μ) w = .ok (.enter f args) w) (hc:∀ W,Ext [] w W → ∀ n ∈ xs,Calls (Qy.prog μ) f (#[] ++ [Value.int .i64 n].toArray ++ cs) W fun e W'=>e = .returned (.bool (p n)) ∧ Ext [] W W') :
  Calls (Qy.prog μ) 119 #[.slice a xs.length c,.func (.func f) #[] cs] w fun e w'=>∃ r,e = .returned (.int .i64 r) ∧ decide (0 ≤ r) = xs.any p ∧ Ext [] w w':=by
 have E:Ext [] w w:=Ext.refl _ _;have HS:=Lib.hid (Zb hx 0);have HC:=Lib.hid hc;have HF:=Lib.hid hf;clear hx hc hf;have G:=(Bk.nil w).ce E;refine (ent 19 Tryz.f119 rfl) fun F=>wR fun k1=>(F.m) fun F=>k1 <|wQ fun k2=>wR fun k3=>(F.m) fun F=>(F.y F.ln) fun F=>(F.m) fun F=>k3 <|wp_block <|lpB (F.b [0,1,7]) G (xs.length) (fun i Lv Sv W=>Lv = [(8,.int .i64 ((i:Nat):Int))] ∧ Sv = [] ∧ ∀ j,j < i → p (xs.getD j 0) = false) ⟨_,_,F.u,G.u,rfl,rfl,(fun j h=>by omega)⟩ ?_
 clear F G;rintro i _ w1 _ _ hi1 ⟨rfl,rfl,hb⟩ F G;replace G:=G.z;refine wR fun k4=>(F.y F.ls) fun F=>k4 <|wQ fun k5=>F.ci (fun hc9=>?_) (fun hc9=>?_)
 ·refine wp_skip <|k5 <|wQ fun k6=>wp_block <|wR fun k7=>(F.m) fun F=>(F.m) fun F=>k7 <|wR fun k8=>(F.m) fun F=>(F.m) fun F=>(F.m) fun F=>(F.ix HS.out i) fun xr9 F=>(F.y (F.l1 (xr9 _ (G.e 0)) 0)) fun F=>?_
  refine (F.kr (Z2W rfl (F.at rfl) HF.out (mpS (F.at rfl) mp0) rfl) (HC.out _ (G.e 0) _ (Z8 0 (by omega)))) ?_;rintro _ w2 ⟨rfl,e9⟩;refine ⟨_,rfl,fun F=>?_⟩;replace G:=G.ex e9;refine k8 <|F.cb (fun hc16=>?_) (fun hc16=>?_)
  ·refine wR fun k10=>(F.m) fun F=>(F.m) fun F=>k10 <|(F.r1) ?_
   exact ⟨_,rfl,(by rw [decide_eq_true (by omega),List.any_eq_true.2 ⟨_,Z8 0 (by omega),hc16⟩]),(G.e 0)⟩
  ·refine wp_skip <|k6 <|wp_region_lit <|(F.y F.ad) fun F=>(F.m) fun F=>?_
   show _ ∧ _;exact ⟨by omega,_,_,F.u,G.u,rfl,rfl,(fun j h=>by rcases Nat.lt_succ_iff_lt_or_eq.1 h with h | rfl;(· exact hb j h);(· exact hc16))⟩
 ·refine wp_exit <|k2 <|wR fun k11=>(F.m) fun F=>k11 <|(F.r1) ?_
  exact ⟨_,rfl,(by rw [decide_eq_false (by omega)];symm;rw [List.any_eq_false];intro n hn;obtain ⟨j,hj,rfl⟩:=List.getElem_of_mem hn;have:=hb j (by omega);simpa [hj] using this),(G.e 0)⟩
theorem Z7a (xs:List Int) (f:FuncId) (cs:Array Value) (p:Int → Bool) (a:Option Addr) (c:Nat) (w:World) (hx:Z7 w (.slice a xs.length c) 1 (xs.map Z5)) (hl:xs.length ≤ 1000)
  (hf:∀ args w,(callFunc f args).run (Qy.prog μ) w = .ok (.enter f args) w) (hc:∀ W,Ext [] w W → ∀ n ∈ xs,Calls (Qy.prog μ) f (#[] ++ [Value.int .i64 n].toArray ++ cs) W fun e W'=>e = .returned (.bool (p n)) ∧ Ext [] W W') :
  Calls (Qy.prog μ) 72 #[.slice a xs.length c,.func (.func f) #[] cs] w fun e w'=>e = .returned (.bool (xs.any p)) ∧ Ext [] w w':=by
 have E:Ext [] w w:=Ext.refl _ _;have HX:=Lib.hid hx;have HC:=Lib.hid hc;have HF:=Lib.hid hf;clear hx hc hf;have G:=(Bk.nil w).ce E;refine (ent 9 Tryz.f72 rfl) fun F=>wR fun k1=>(F.m) fun F=>k1 <|wR fun k2=>(F.m) fun F=>(F.m) fun F=>(F.k (ZaP xs f cs p a c _ (HX.out.ext (G.e 0) (by simp)) hl HF.out (fun W e=>HC.out W ((G.e 0).trans e)))) ?_
 rintro _ w1 ⟨r,rfl,hr,e9⟩;refine ⟨_,rfl,fun F=>?_⟩;replace G:=G.ex e9;refine (F.y F.ge) fun F=>(F.m) fun F=>k2 <|(F.r1) ?_
 exact ⟨Z0L hr,(G.e 0)⟩
theorem Zek (x:Vm) (hv:VOk x) (T:List (List Int)) (hT:∀ t ∈ T,TubS (val t)) (ma:Option Addr) (mc n8 n9 n11 n12 j k l:Nat) (hj:j < T.length) (hk:k < T.length) (hl:l < x.L.length) (w:World) (h:x.At w)
  (q8:w.heap[n8]? = some (.cells #[.int .i64 x.B,.slice x.da x.D.length x.dc,.slice x.la x.L.length x.lc,.int .i64 x.tol] 85 (0,0))) (q9:w.heap[n9]? = some (.cells #[.slice ma T.length mc] 93 (0,0))) (q11:w.heap[n11]? = some (.cells #[.int .i64 ((j:Nat):Int)] 3 (0,0))) (q12:w.heap[n12]? = some (.cells #[.int .i64 ((k:Nat):Int)] 3 (0,0)))
  (hs:SlAt [] w ma 4 T.length (fun i=>tubR (val (T.getD i [])))) (h6:T.length ≤ 6) :
  Calls (Qy.prog μ) 73 #[.int .i64 ((l:Nat):Int),.pointer (some ⟨n8,0,none⟩),.pointer (some ⟨n9,0,none⟩),.pointer (some ⟨n11,0,none⟩),.pointer (some ⟨n12,0,none⟩)] w fun e w'=>e = .returned (.bool (!alkE x l (val (T.getD j [])) (val (T.getD k [])))) ∧ Ext [] w w':=by
 have E:Ext [] w w:=Ext.refl _ _;have HX:=Lib.hid h;have HV:=Lib.hid hv;have HT:=Lib.hid hT;have HS:=Lib.hid hs;clear h hv hT hs;have G:=(Bk.nil w).ce E;replace G:=(((G.cq q8).cq q9).cq q11).cq q12;refine (ent 19 Tryz.f73 rfl) fun F=>wR fun k1=>(F.m) fun F=>k1 <|wQ fun k2=>(wX 10 G) fun G=>(F.s (F.lb (G.q 3))) fun F=>(F.sm) fun F=>(F.s (F.lc (G.q 2))) fun F=>(F.s (F.lc (G.q 1))) fun F=>(F.sx HS.out j) fun xr3 F=>(F.s (F.lr (xr3 _ (G.e 4)))) fun F=>(F.s (F.lc (G.q 2))) fun F=>(F.s (F.lc (G.q 0))) fun F=>(F.sx HS.out k) fun xr4 F=>(F.s (F.lr (xr4 _ (G.e 4)))) fun F=>wpStill_nil <|(F.k0 G (Z6m x HV.out l hl (val (T.getD j [])) (val (T.getD k [])) (HT.out _ (Z10 [] (by omega))) (HT.out _ (Z10 [] (by omega))) _ (HX.out.ext (G.e 4)))) fun F G=>(F.y F.nb) fun F=>?_
 refine (F.m) fun F=>k2 <|(F.r1) ?_
 exact ⟨rfl,(G.e 4)⟩
variable {μ:Nat}
def sixC (f:Nat → Int):Array Value:=#[.int .u8 (f 0),.int .u8 (f 1),.int .u8 (f 2),.int .u8 (f 3),.int .u8 (f 4),.int .u8 (f 5)]
theorem Zi1 {f:Nat → Int} {i:Int} (h:i.toNat = k) (hk:k < 6): (sixC f)[i.toNat]? = some (.int .u8 (f k)):=by
 subst h
 rcases hi:i.toNat with _ | _ | _ | _ | _ | _ | n
 ·rfl
 ·rfl
 ·rfl
 ·rfl
 ·rfl
 ·rfl
 ·omega
theorem Zck {b:Nat} {T:TypeId} {fz:Nat × Nat} {f:Nat → Int} (H:w.heap[b]? = some (.cells (sixC f) T fz)) {i:Int} (h:i.toNat = k) (hk:k < 6): w.cell? ⟨b,0 + i.toNat * 1,none⟩ = some (.int .u8 (f k)):=by
 rw [Z0 H,Nat.zero_add,Nat.mul_one];exact Zi1 h hk
theorem ZgH {w2: World} {b:Nat} {T:TypeId} {f:Nat → Int} {i v:Int} (e:w2 = w.setCell ⟨b,0 + i.toNat * 1,none⟩ (.int .u8 v)) (H:w.heap[b]? = some (.cells (sixC f) T (0,0))) (h:i.toNat = k) (hk:k < 6): w2.heap[b]? = some (.cells (sixC (upF f k v)) T (0,0)):=by
 refine ZE e H ?_;rw [Nat.zero_add,Nat.mul_one,h];clear e H h
 match k,hk with
 | 0,_=>rfl
 | 1,_=>rfl
 | 2,_=>rfl
 | 3,_=>rfl
 | 4,_=>rfl
 | 5,_=>rfl
def nrB (x:Vm) (ls:List Int) (T:List (List Int)) (j k:Nat):Bool:=!(ls.any fun l=>!alkE x l.toNat (val (T.getD j [])) (val (T.getD k [])))
section
variable (p:Nat → Nat → Bool)
def fnK (j:Nat):Nat → Nat
 | 0=>0
 | k + 1=>if p j k = true then fnK j k ||| 2 ^ k else fnK j k
theorem Zag (j:Nat):∀ k,k ≤ 6 → fnK p j k < 64
 | 0,_=>by simp [fnK]
 | k + 1,h=>by
  rw [fnK]
  split
  ·exact ZkE _ (Zag j k (by omega)) k (by omega)
  ·exact Zag j k (by omega)
def finF (n j k:Nat):Nat → Int:=fun i=>if i < j then ((fnK p i n:Nat):Int) else if i = j then ((fnK p j k:Nat):Int) else 0
theorem Ze0 (h:p j k = true): upF (finF p n j k) j (((fnK p j k ||| 2 ^ k:Nat)):Int) = finF p n j (k + 1):=by
 funext i
 rw [upF,finF,finF]
 by_cases h1:i = j
 ·subst h1;simp [fnK,h]
 ·simp [h1]
theorem Zgz (h:p j k = false): finF p n j k = finF p n j (k + 1):=by
 funext i
 rw [finF,finF,fnK,h];simp
theorem ZcZ: finF p n j n = finF p n (j + 1) 0:=by
 funext i
 rw [finF,finF]
 by_cases h1:i = j
 ·subst h1;simp
 ·by_cases h2:i < j
  ·simp [h2,show i < j + 1 by omega]
  ·simp [h1,h2,show ¬ i < j + 1 by omega,fnK]
theorem ZcD: finF p n 0 0 = zf:=by
 funext i
 rw [finF,zf]
 by_cases h:i = 0
 ·simp [h,fnK]
 ·simp [h]
def finS (n i:Nat):Nat:=if i < n then fnK p i n else 0
theorem Zha (h:n ≤ 6) (i:Nat): finS p n i < 64:=by
 rw [finS]
 split
 ·exact Zag p i n h
 ·omega
theorem ZdC (i:Nat): finF p n n 0 i = ((finS p n i:Nat):Int):=by
 rw [finF,finS]
 by_cases h:i < n
 ·simp [h]
 ·simp [h,fnK]
def okS (n s:Nat):Bool:=(Zl s).all fun i=>subB s (finS p n i.toNat)
def betS (s b:Nat):Bool:=decide (Z07 b < Z07 s) || (decide (Z07 s = Z07 b) && decide (cmpL (Zl s) (Zl b) < 0))
def Z0j (n:Nat):Nat → Nat
 | 0=>0
 | s + 1=>if okS p n s && betS s (Z0j n s) then s else Z0j n s
theorem Z6A (n:Nat):∀ s,s ≤ 64 → Z0j p n s < 64
 | 0,_=>by simp [Z0j]
 | s + 1,h=>by
  rw [Z0j]
  split
  ·omega
  ·exact Z6A n s (by omega)
theorem Zbr (h:okS p n s = false): Z0j p n s = Z0j p n (s + 1):=by rw [Z0j,h];simp
theorem Z7l (h:okS p n s = true) (hb:Z07 (Z0j p n s) < Z07 s ∨ (Z07 s = Z07 (Z0j p n s) ∧ cmpL (Zl s) (Zl (Z0j p n s)) < 0)): s = Z0j p n (s + 1):=by
 rw [Z0j,h,betS]
 rcases hb with h1 | ⟨h1,h2⟩ <;> simp [*]
theorem Z4d (hb:¬ Z07 (Z0j p n s) < Z07 s) (h2:Z07 s = Z07 (Z0j p n s) → ¬ cmpL (Zl s) (Zl (Z0j p n s)) < 0): Z0j p n s = Z0j p n (s + 1):=by
 rw [Z0j,betS,if_neg];simp only [Bool.and_eq_true,Bool.or_eq_true,decide_eq_true_eq,not_and,not_or];exact fun _=>⟨hb,fun h=>h2 h⟩
theorem Zhv (h:∀ i,i < (Zl s).length → subB s (finS p n ((Zl s).getD i 0).toNat) = true): okS p n s = true:=by
 rw [okS,List.all_eq_true];intro n hn;obtain ⟨i,hi,rfl⟩:=List.getElem_of_mem hn;simpa [hi] using h i hi
theorem Zhl {i: Nat} (hi:i < (Zl s).length) (h:subB s (finS p n ((Zl s).getD i 0).toNat) = false): okS p n s = false:=by
 rw [okS,List.all_eq_false];exact ⟨_,Z8 0 hi,by rw [h];decide⟩
end
theorem Zb4:∀ s,s < 64 → ∀ n ∈ Zl s,0 ≤ n ∧ n < 6:=by decide +kernel
theorem Z5V:∀ s,s < 64 → (Zl s).length ≤ 6:=by decide +kernel
def mosR (x:Vm) (ls:List Int) (T:List (List Int)):List Int:=Zl (Z0j (nrB x ls T) T.length (2 ^ T.length))
theorem Zv {a:Option Addr} {xs:List Int} (h:w.ownsRow base 3 1 (.slice a n c) n (ivs xs)) (hn:n = xs.length): Z7 w (.slice a n c) 1 (xs.map Z5):=by
 subst hn;exact Zz (row:=Z5) (by rw [← Z1f];exact h) (fun _=>rfl)
theorem Zgd:∀ n,n ≤ 6 → 2 ^ n ≤ 64:=by decide
theorem ZdD (x:Vm) (hv:VOk x) (S:List (Value × List Int)) (hs:∀ p ∈ S,RcpOk x p.2) (h6:S.length ≤ 6) (ls:List Int) (hll:Z5w x ls) (hl4:ls.length ≤ 1000) (a b:Option Addr) (c d:Nat) (w:World) (h:x.At w) (hl:Z0y w a S) (hq:Z7 w (.slice b ls.length d) 1 (ls.map Z5)) :
  Calls (Qy.prog μ) 22 #[.agg #[.int .i64 x.B,.slice x.da x.D.length x.dc,.slice x.la x.L.length x.lc,.int .i64 x.tol],.slice a S.length c,.slice b ls.length d] w (Z48 (mosR x ls (S.map (·.2)),0) w):=by
 have E:Ext [] w w:=Ext.refl _ _;have HX:=Lib.hid h;have HV:=Lib.hid hv;have HL:=Lib.hid hl;have HS:=Lib.hid hs;have HQ:=Lib.hid hq;have HM:=Lib.hid hll;obtain ⟨T,hT⟩:∃ T,T = S.map (·.2):=⟨_,rfl⟩;have hTl:T.length = S.length:=by rw [hT,List.length_map]
 have HT:RowKit.Hid (∀ t ∈ T,TubS (val t)):=Lib.hid (fun t ht=>by
  rw [hT] at ht;obtain ⟨p,hp,rfl⟩:=List.mem_map.1 ht;exact (hs p hp).tub)
 obtain ⟨p,hp⟩:∃ p,p = nrB x ls T:=⟨_,rfl⟩;have HP:=Lib.hid hp;clear h hv hl hs hq hll hp;have G:=(Bk.nil w).ce E;refine (entM 92 Tryz.f22 rfl) fun F=>wR fun k1=>(F.bx G) fun yy F G=>(F.m) fun F=>(F.al G Qy.zeroValue30) fun yy F G=>k1 <|wp_scope_straight <|wR fun k2=>(F.df) fun F=>k2 <|wR fun k3=>(F.y (F.lb (G.q 1))) fun F=>(F.k0 G (Z19 x HV.out _ (HX.out.ext (G.e 2)))) fun F G=>(F.al G Qy.zeroValue85) @fun n8 w4 _ yy F G=>(F.sr G 0) fun G=>k3 <|wR fun k4=>(F.y (F.lb (G.q 0))) fun F=>?_
 refine (F.m) fun F=>(F.k (Z4R x HV.out S HS.out h6 a c _ (HL.out.ext (G.e 3)))) ?_;rintro _ w6 ⟨ma,mc,rfl,om,e9⟩;refine ⟨_,rfl,fun F=>?_⟩;replace G:=G.ex e9;rw [← hT,← hTl] at om;rw [← hTl] at F;have hrm:=Lib.hid (Zz (row:=fun t:List Int=>tubR (val t)) om (fun _=>rfl));clear om;replace G:=G.hr [];refine (F.al G Qy.zeroValue93) @fun n9 w7 _ yy F G=>(F.st G 0) fun G=>k4 <|wR fun k5=>(F.y (F.lb (G.q 2))) fun F=>(F.m) fun F=>(F.k0 G (Z6U x HV.out ls HM.out hl4 b d _ (HX.out.ext (G.e 5)) (HQ.out.ext (G.e 5) (by simp)))) fun F G=>k5 <|wR fun k6=>(F.al G Qy.zeroValue97) @fun n10 w10 _ yy F G=>?_
 have HTs:=Lib.hid (Z0E (X:=[n10]) hrm.out (fun W e=>hrm.out.ext e (by simp;omega)) []);have E9:=(G.e 2).mono (Y:=[n10]) (by simp);have q10:=G.q 0;replace q10:w10.heap[n10]? = some (.cells (sixC (finF p T.length 0 0)) 97 (0,0)):=by rw [ZcD];exact q10
 replace G:=G.rQ 0 q10;clear q10;replace G:=G.ce E9;refine k6 <|wQ fun k7=>wR fun k8=>(F.y (F.lc (G.q 2))) fun F=>(F.y F.ln) fun F=>(F.m) fun F=>k8 <|wp_block <|lpB (F.b [2,7,8,9,10,26]) (G.b [0,2,4,5,6,7]) (T.length) (fun j Lv Sv W=>Lv = [(27,.int .i64 ((j:Nat):Int))] ∧ Sv = [.q n10 ((sixC (finF p T.length j 0))) 97]) ⟨_,_,F.u,G.u,rfl,rfl⟩ ?_
 clear F G;rintro j _ w11 _ _ hi1 ⟨rfl,rfl⟩ F G;replace G:=G.z;refine wR fun k9=>(F.y F.ls) fun F=>k9 <|wQ fun k10=>F.ci (fun hc28=>?_) (fun hc28=>?_)
 ·refine wp_skip <|k10 <|wQ fun k11=>wp_block <|wR fun k12=>(F.m) fun F=>(F.al G Qy.zeroValue3) @fun n11 w12 _ yy F G=>(F.st G 0) fun G=>k12 <|wR fun k13=>(F.y (F.lc (G.q 3))) fun F=>(F.y F.ln) fun F=>(F.m) fun F=>k13 <|wp_block <|lpB (F.b [2,7,8,9,10,11,26,27,31]) (G.b [0,2,3,4,5,6,7]) (T.length) (fun k Lv Sv W=>Lv = [(32,.int .i64 ((k:Nat):Int))] ∧ Sv = [.q n10 ((sixC (finF p T.length j k))) 97]) ⟨_,_,F.u,G.u,rfl,rfl⟩ ?_
  clear F G;rintro k _ w14 _ _ hi2 ⟨rfl,rfl⟩ F G;replace G:=G.z;refine wR fun k14=>(F.y F.ls) fun F=>k14 <|wQ fun k15=>F.ci (fun hc33=>?_) (fun hc33=>?_)
  ·refine wp_skip <|k15 <|wQ fun k16=>wp_block <|wR fun k17=>(F.m) fun F=>(F.al G Qy.zeroValue3) @fun n12 w15 _ yy F G=>(F.st G 0) @fun w16 G=>k17 <|wR fun k18=>(F.m) fun F=>(F.y F.mf) fun F=>?_
   have hsl:SlAt [] w16 ma 4 T.length (fun i=>tubR (val (T.getD i []))):=Zb (row:=fun t:List Int=>tubR (val t)) (hrm.out.ext (G.e 3) (by simp;omega)) [];refine (F.k0 G (Z7a ls 73 #[.pointer (some ⟨n8,0,none⟩),.pointer (some ⟨n9,0,none⟩),.pointer (some ⟨n11,0,none⟩),.pointer (some ⟨n12,0,none⟩)] (fun l=>!alkE x l.toNat (val (T.getD j [])) (val (T.getD k []))) b d _ (HQ.out.ext (G.e 8) (by simp)) hl4 Qy.call73 (fun W e n hn=>(by obtain ⟨h0,h1⟩:=HM.out.2.1 n hn;have hm:=Zek (μ:=μ) x HV.out T HT.out ma mc n8 n9 n11 n12 j k n.toNat (by omega) (by omega) (by omega) W ((HX.out.ext (G.e 8)).ext e) (e.keep0 (G.q 5)) (e.keep0 (G.q 4)) (e.keep0 (G.q 2)) (e.keep0 (G.q 0)) (Z9y hsl e) (by omega);rw [show ((n.toNat:Nat):Int) = n by omega] at hm;exact hm)))) fun F G=>(F.y F.nb) fun F=>?_;have hpe:(!(ls.any fun l=>!alkE x l.toNat (val (T.getD j [])) (val (T.getD k [])))) = p j k:=by rw [HP.out];rfl
   rw [hpe] at F;have hfl:=Zag p j k (by omega);refine k18 <|F.cb (fun hc38=>?_) (fun hc38=>?_)
   ·refine (wX 7 G) fun G=>(F.s (F.lc (G.q 2))) fun F=>(F.s (F.ia 6 1)) fun F=>(F.s (F.lw (Zck (G.q 1) (k:=j) rfl (by omega)))) fun F=>?_
    rw [show finF p T.length j k j = ((fnK p j k:Nat):Int) by simp [finF]] at F;refine (F.s (F.lc (G.q 0))) fun F=>?_;refine (F.s ((Zix rfl (ev_c _ _) (F.at rfl)))) fun F=>?_;rw [shl8 k (by omega)] at F;refine (F.s ((R_or rfl (F.at rfl) (F.at rfl)))) fun F=>?_;rw [or8 _ hfl k (by omega)] at F;refine (F.s (F.ia 6 1)) fun F=>wpStill_nil <|(F.sw G 1 (Zck (G.q 1) (k:=j) rfl (by omega)) fun _ hw=>ZgH hw (G.q 1) (k:=j) rfl (by omega)) fun G=>?_
    have q10:=G.q 1;rw [Ze0 p hc38] at q10;replace G:=G.rQ 1 q10;clear q10;refine k16 <|wp_region_lit <|(F.y F.ad) fun F=>(F.m) fun F=>?_
    show _ ∧ _;exact ⟨by omega,_,_,F.u,G.u,rfl,rfl⟩
   ·have q10:=G.q 1
    rw [Zgz p hc38] at q10;replace G:=G.rQ 1 q10;clear q10;refine wp_skip <|k16 <|wp_region_lit <|(F.y F.ad) fun F=>(F.m) fun F=>?_
    show _ ∧ _;exact ⟨by omega,_,_,F.u,G.u,rfl,rfl⟩
  ·refine wp_exit ?_
   have q10:=G.q 0;rw [show k = T.length by omega,ZcZ] at q10;replace G:=G.rQ 0 q10;clear q10;refine k11 <|wp_region_lit <|(F.y F.ad) fun F=>(F.m) fun F=>?_
   show _ ∧ _;exact ⟨by omega,_,_,F.u,G.u,rfl,rfl⟩
 ·refine wp_exit ?_
  have q10:=G.q 0;rw [show j = T.length by omega] at q10;replace G:=G.rQ 0 q10;clear q10;refine k7 <|wR fun k19=>(F.m) fun F=>?_
  obtain ⟨M2,hM2⟩:∃ M2,M2 = 2 ^ T.length:=⟨_,rfl⟩;have hM64:M2 ≤ 64:=by rw [hM2];exact Zgd _ (by omega)
  rw [show (0:Int) = ((Z0j p T.length 0:Nat):Int) from rfl] at F;refine k19 <|wQ fun k20=>wp_label <|k20 <|wQ fun k21=>wR fun k22=>(F.y (F.lc (G.q 2))) fun F=>(F.y F.ln) fun F=>?_
  refine (F.y ((Zix rfl (ev_c _ _) (F.at rfl)))) fun F=>?_;rw [shl8 T.length (by omega),← hM2] at F;refine (F.m) fun F=>?_;rw [show (0:Int) = ((0:Nat):Int) from rfl] at F;refine k22 <|wp_block <|lpB (F.b [7,10,50]) (G.b [2,3,4,5,6]) (M2) (fun s Lv Sv W=>Lv = [(13,.int .u8 ((Z0j p T.length s:Nat):Int)),(51,.int .u8 ((s:Nat):Int))] ∧ Sv = [.q n10 ((sixC (finF p T.length T.length 0))) 97]) ⟨_,_,F.u,G.u,rfl,rfl⟩ ?_
  clear F G;rintro s _ w20 _ _ hi3 ⟨rfl,rfl⟩ F G;replace G:=G.z;refine wQ fun k23=>?_;have hbl:=Z6A p T.length s (by omega);refine wG <|(F.y F.ls) fun F=>k23 <|wQ fun k24=>F.ci (fun hc52=>?_) (fun hc52=>?_)
  ·refine wp_skip <|k24 <|wQ fun k25=>wp_block <|wR fun k26=>(F.m) fun F=>(F.m) fun F=>k26 <|wQ fun k27=>wR fun k28=>(F.m) fun F=>(F.k (Z6M s (by omega) _)) ?_
   rintro _ w21 ⟨sa,sc,rfl,os,e9⟩;refine ⟨_,rfl,fun F=>?_⟩;replace G:=G.ex e9;have HSs:=Lib.hid (Z0b os rfl [] (by simp));have RA:=Lib.hid (Zv os rfl);clear os;have hsb:=Lib.hid (Zb4 s (by omega));have hsl6:=Z5V s (by omega);replace G:=G.hr [];refine (F.y F.ln) fun F=>(F.m) fun F=>k28 <|wp_block <|lpB (F.b [7,10,13,14,50,51,55,56]) (G.b [0,2,3,4,5,6]) ((Zl s).length) (fun i Lv Sv W=>Lv = [(57,.int .i64 ((i:Nat):Int))] ∧ Sv = [.q n10 ((sixC (finF p T.length T.length 0))) 97] ∧ ∀ j,j < i → subB s (finS p T.length ((Zl s).getD j 0).toNat) = true) ⟨_,_,F.u,G.u,rfl,rfl,(fun j h=>by omega)⟩ ?_
   clear F G;rintro i _ w22 _ _ hi4 ⟨rfl,rfl,hoks⟩ F G;replace G:=G.z;refine wR fun k29=>(F.y F.ls) fun F=>k29 <|wQ fun k30=>F.ci (fun hc58=>?_) (fun hc58=>?_)
   ·refine wp_skip <|k30 <|wQ fun k31=>wp_block <|wR fun k32=>(F.ix HSs.out i) fun xr33 F=>(F.y (F.l1 (xr33 _ (G.e 1)) 0)) fun F=>(F.m) fun F=>k32 <|wQ fun k34=>?_
    obtain ⟨hn0,hn6⟩:=hsb.out _ (Z8 (l:=Zl s) (i:=i) 0 (by omega));refine wG <|(F.m) fun F=>(F.m) fun F=>(F.y (F.ia 6 1)) fun F=>(F.y (F.lw (Zck (G.q 0) (k:=((Zl s).getD i 0).toNat) rfl (by omega)))) fun F=>?_
    rw [ZdC] at F;refine (F.y ((Zea rfl (F.at rfl) (F.at rfl)))) fun F=>(F.y F.ne) fun F=>?_;have hnt:=not8 s (by omega) _ (Zha p (n:=T.length) (by omega) ((Zl s).getD i 0).toNat);refine k34 <|F.ci (fun hc66=>?_) (fun hc66=>?_)
    ·have hsub:subB s (finS p T.length ((Zl s).getD i 0).toNat) = false:=by rw [← hnt];exact decide_eq_false hc66
     rw [Zbr p (Zhl p (show i < (Zl s).length by omega) hsub)] at F;refine wp_exit <|k25 <|wp_region_lit ?_
     refine (F.y ((Z4S rfl (F.at rfl) (ev_c _ _)))) fun F=>?_;rw [add8 s (by omega)] at F;refine (F.m) fun F=>?_;show _ ∧ _;exact ⟨by omega,_,_,F.u,G.u,rfl,rfl⟩
    ·have hsub:subB s (finS p T.length ((Zl s).getD i 0).toNat) = true:=by rw [← hnt];exact decide_eq_true (Classical.not_not.1 hc66)
     refine wp_skip <|k31 <|wp_region_lit <|(F.y F.ad) fun F=>(F.m) fun F=>?_
     show _ ∧ _;exact ⟨by omega,_,_,F.u,G.u,rfl,rfl,(fun j h=>by rcases Nat.lt_succ_iff_lt_or_eq.1 h with h | rfl;(· exact hoks j h);(· exact hsub))⟩
   ·refine wp_exit <|k27 <|wQ fun k35=>?_
    have hok:=Zhv p (n:=T.length) (s:=s) (fun j hj=>hoks j (by omega));refine wG <|(F.m) fun F=>(F.k0 G (Z4p s (by omega) _)) fun F G=>(F.m) fun F=>(F.k0 G (Z4p (Z0j p T.length s) hbl _)) fun F G=>(F.y F.gt) fun F=>(F.m) fun F=>?_
    by_cases hg1:(((Z07 (Z0j p T.length s):Nat):Int) < ((Z07 s:Nat):Int))
    ·replace F:=F.re (k:=73) rfl (congrArg Value.bool (decide_eq_true hg1))
     refine (F.n) fun F=>(F.n) fun F=>(F.n) fun F=>(F.n) fun F=>(F.n) fun F=>(F.n) fun F=>(F.n) fun F=>(F.n) fun F=>(F.n) fun F=>(F.n) fun F=>(F.n) fun F=>(F.n) fun F=>(F.n) fun F=>(F.y F.pT) fun F=>k35 ?_
     try rw [Z4d p (by omega) (fun h=>absurd h (by omega))] at F
     refine (F.cT) <|wp_region_lit <|(F.m) fun F=>(F.m) fun F=>?_
     replace F:=F.re (k:=13) rfl (congrArg (fun z:Nat=>Value.int .u8 ((z:Nat):Int)) (Z7l p hok (by first | exact .inl (by omega) | exact .inr ⟨by omega,hc87⟩)));refine k25 <|wp_region_lit ?_
     refine (F.y ((Z4S rfl (F.at rfl) (ev_c _ _)))) fun F=>?_;rw [add8 s (by omega)] at F;refine (F.m) fun F=>?_;show _ ∧ _;exact ⟨by omega,_,_,F.u,G.u,rfl,rfl⟩
    ·replace F:=F.re (k:=73) rfl (congrArg Value.bool (decide_eq_false hg1))
     refine (F.m) fun F=>(F.k0 G (Z4p s (by omega) _)) fun F G=>(F.m) fun F=>(F.k0 G (Z4p (Z0j p T.length s) hbl _)) fun F G=>(F.y F.eq) fun F=>(F.m) fun F=>?_
     by_cases hg2:(((Z07 s:Nat):Int) = ((Z07 (Z0j p T.length s):Nat):Int))
     ·replace F:=F.re (k:=79) rfl (congrArg Value.bool (decide_eq_true hg2))
      refine (F.m) fun F=>(F.k (Z6M s (by omega) _)) ?_;rintro _ w27 ⟨la,lc,rfl,ol,e9⟩;refine ⟨_,rfl,fun F=>?_⟩;replace G:=G.ex e9;have RL:=Lib.hid (Zv ol rfl);clear ol;replace G:=G.hr [];refine (F.m) fun F=>(F.k (Z6M (Z0j p T.length s) hbl _)) ?_;rintro _ w28 ⟨ka,kc,rfl,ok,e9⟩;refine ⟨_,rfl,fun F=>?_⟩;replace G:=G.ex e9;have hk6:=Z5V _ hbl;refine (F.k0 G (Z2Z (Zl s) (Zl (Z0j p T.length s)) la ka lc kc _ (RL.out.ext (G.e 0) (by simp)) (Zv ok rfl) (by omega) (by omega))) fun F G=>(F.y F.ls) fun F=>(F.y F.pT) fun F=>(F.y F.pF) fun F=>k35 ?_
      try rw [Z4d p (by omega) (fun h=>absurd h (by omega))] at F
      refine F.ci (fun hc87=>?_) (fun hc87=>?_)
      ·refine wG <|(F.m) fun F=>(F.m) fun F=>?_
       replace F:=F.re (k:=13) rfl (congrArg (fun z:Nat=>Value.int .u8 ((z:Nat):Int)) (Z7l p hok (by first | exact .inl (by omega) | exact .inr ⟨by omega,hc87⟩)));refine k25 <|wp_region_lit ?_
       refine (F.y ((Z4S rfl (F.at rfl) (ev_c _ _)))) fun F=>?_;rw [add8 s (by omega)] at F;refine (F.m) fun F=>?_;show _ ∧ _;exact ⟨by omega,_,_,F.u,G.u,rfl,rfl⟩
      ·rw [Z4d p (by omega) (fun h=>by first | exact hc87 | exact absurd h (by omega))] at F
       refine wp_skip <|k25 <|wp_region_lit ?_
       refine (F.y ((Z4S rfl (F.at rfl) (ev_c _ _)))) fun F=>?_;rw [add8 s (by omega)] at F;refine (F.m) fun F=>?_;show _ ∧ _;exact ⟨by omega,_,_,F.u,G.u,rfl,rfl⟩
     ·replace F:=F.re (k:=79) rfl (congrArg Value.bool (decide_eq_false hg2))
      refine (F.n) fun F=>(F.n) fun F=>(F.n) fun F=>(F.n) fun F=>(F.n) fun F=>(F.n) fun F=>(F.y F.pF) fun F=>(F.y F.pF) fun F=>k35 ?_
      try rw [Z4d p (by omega) (fun h=>absurd h (by omega))] at F
      refine (F.cF) <|wp_skip <|k25 <|wp_region_lit ?_
      refine (F.y ((Z4S rfl (F.at rfl) (ev_c _ _)))) fun F=>?_;rw [add8 s (by omega)] at F;refine (F.m) fun F=>?_;show _ ∧ _;exact ⟨by omega,_,_,F.u,G.u,rfl,rfl⟩
  ·refine wp_exit ?_
   rw [show s = M2 by omega] at F;refine k21 <|wR fun k36=>(F.m) fun F=>?_
   have hEs:=(G.e 5).size;refine (F.k (Z6M (Z0j p T.length M2) (Z6A p _ _ hM64) _)) ?_;rintro _ w30 ⟨ra,rc,rfl,oo,e9⟩;refine ⟨_,rfl,fun F=>?_⟩;replace G:=G.ex e9;replace oo:=Z1r oo hEs;replace G:=G.co oo;refine (F.m) fun F=>(F.st G 4) fun G=>k36 <|wp_ret ?_
   (try simp only [Exit.inBlock,Exit.then,reduceIte])
   refine Z43 F <|ZU <|Z23 (Z7O F rfl rfl rfl Qy.underlying30 rfl (G.q 4)) ?_
   rw [← hT,show mosR x ls T = Zl (Z0j p T.length M2) by rw [mosR,← HP.out,hM2]];have oo:=G.o 0;exact ⟨ra,rc,rfl,oo,(G.e 6)⟩
end Go.Proofs.YtfelljbfeoplhaaGreat
