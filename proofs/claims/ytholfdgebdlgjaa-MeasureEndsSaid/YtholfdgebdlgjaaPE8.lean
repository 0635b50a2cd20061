/- Parts of a proof: Tkn, TknP, MofL, MofT, MLw. No conditions. -/
import Derived.Test.YtholfdgebdlgjaaPE3
import Derived.Test.YtholfdgebdlgjaaPE6
import Derived.Test.YtholfdgebdlgjaaPE7
set_option linter.unusedVariables false
set_option linter.unusedSimpArgs false
namespace Go.Proofs.Ytholfdgebdlgjaa
open Go.RowKit
theorem Z1f (s a k p:Int) (w:World) :
  Calls Try.prog 58 #[.int .i64 s,.int .i64 a,.int .i64 k,.int .i64 p] w fun e w'=>e = .returned (.agg #[.int .i64 s,.int .i64 a,.int .i64 k,.int .i64 p]) ∧ Ext [] w w':=by
 have E:Ext [] w w:=Ext.refl _ _
 go_enter Try.func58,Try.ntmps58
 go_upto_region 0 with (fail)
 refine wp_region_lit ?_
 refine Zy rfl rfl (ZB rfl Try.zeroValue66) (by simp only [ls,lz];exact rfl) fun w1 hw=>?_
 obtain ⟨n8,hn⟩:∃ n,n = w.heap.size:=⟨_,rfl⟩
 rw [← hn]
 have l8:w.heap.size ≤ n8:=by rw [hn];exact E.size
 have q8:=Zr hw hn
 replace E:=Z2 E hw
 clear hw hn
 refine wpList_nil ?_
 go_upto_region 1 with (fail)
 refine wp_region_lit ?_
 refine Z3 rfl rfl (Zi (v:=.int .i64 _) rfl rfl) (by simp only [ls,lz];exact rfl) ?_
 refine Z3 rfl rfl (Zi (v:=.int .i64 _) rfl rfl) (by simp only [ls,lz];exact rfl) ?_
 refine Z3 rfl rfl (Zi (v:=.int .i64 _) rfl rfl) (by simp only [ls,lz];exact rfl) ?_
 refine Z3 rfl rfl (Zi (v:=.int .i64 _) rfl rfl) (by simp only [ls,lz];exact rfl) ?_
 refine Z3 rfl rfl (ZZ rfl (cells:=#[.int .i64 s,.int .i64 a,.int .i64 k,.int .i64 p]) (by kernel_rfl)) (by simp only [ls,lz];exact rfl) ?_
 refine ZY rfl rfl (Zg rfl rfl rfl (by kernel_rfl) (by simp [Value.oneCell']) q8 rfl) fun w2 hw=>?_
 replace q8:=Zz hw q8 rfl
 replace E:=Za E hw (fun h=>by first | exact absurd h (by omega) | simp)
 clear hw
 refine wpList_nil ?_
 go_wp2
 exact bodyPost_ret (Z2a rfl rfl Try.underlying66 rfl (by kernel_rfl) q8) rfl ⟨rfl,E⟩
theorem Z8m (w:World) :
  Calls Try.prog 78 #[] w fun e w'=>∃ gv,e = .returned (tpV (Z0b []) gv (.slice none 0 0) (.slice none 0 0)) ∧ IsTp w' gv (.slice none 0 0) (.slice none 0 0) (Z0b []) ∧ Ext [] w w':=by
 have E:Ext [] w w:=Ext.refl _ _
 go_enter Try.func78,Try.ntmps78
 go_upto_region 0 with (fail)
 refine wp_region_lit ?_
 refine Zy rfl rfl (ZB rfl Try.zeroValue28) (by simp only [ls,lz];exact rfl) fun w1 hw=>?_
 obtain ⟨n0,hn⟩:∃ n,n = w.heap.size:=⟨_,rfl⟩
 rw [← hn]
 have l0:w.heap.size ≤ n0:=by rw [hn];exact E.size
 have q0:=Zr hw hn
 replace E:=Z2 E hw
 clear hw hn
 refine wpList_nil ?_
 go_upto_region 1 with (fail)
 refine wp_region_lit ?_
 refine Z3 rfl rfl (ZZ rfl (cells:=#[.int .i64 60,.int .i64 120]) (by kernel_rfl)) (by simp only [ls,lz];exact rfl) ?_
 refine Z3 rfl rfl (ZZ rfl (cells:=#[.int .i64 (-3),.int .i64 3]) (by kernel_rfl)) (by simp only [ls,lz];exact rfl) ?_
 refine Z3 rfl rfl (ZZ rfl (cells:=#[.int .i64 0,.int .i64 0]) (by kernel_rfl)) (by simp only [ls,lz];exact rfl) ?_
 refine Zy rfl rfl (ZE rfl Try.underlying24 (size:=2) (by kernel_rfl) (by decide) (by decide) Try.zeroValue23 (cells:=#[.int .i64 0,.int .i64 0]) (by kernel_rfl)) (by simp only [ls,lz];exact rfl) fun w2 hw=>?_
 obtain ⟨n4,hn⟩:∃ n,n = w1.heap.size:=⟨_,rfl⟩
 rw [← hn]
 have l4:w.heap.size ≤ n4:=by rw [hn];exact E.size
 have m4_0:n0 < n4:=by rw [hn];exact Z7 q0
 replace q0:=Z1 hw q0
 have q4:=Zw hw hn
 replace E:=Z2 E hw
 clear hw hn
 refine Z3 rfl rfl (ZZ rfl (cells:=#[.int .i64 1,.int .i64 1,.int .i64 2,.int .i64 60,.int .i64 120,.int .i64 (-3),.int .i64 3,.int .i64 1,.slice (some ⟨n4,0,none⟩) 1 1,.slice none 0 0,.slice none 0 0]) (by kernel_rfl)) (by simp only [ls,lz];exact rfl) ?_
 refine ZY rfl rfl (Zg rfl rfl rfl (by kernel_rfl) (by simp [Value.oneCell']) q0 rfl) fun w3 hw=>?_
 replace q0:=Zz hw q0 rfl
 replace q4:=Z5 hw q4 (by omega)
 replace E:=Za E hw (fun h=>by first | exact absurd h (by omega) | simp)
 clear hw
 refine wpList_nil ?_
 go_wp2
 refine bodyPost_ret (Z2a rfl rfl Try.underlying28 rfl (by kernel_rfl) q0) rfl ⟨.slice (some ⟨n4,0,none⟩) 1 1,rfl,⟨?_,Z0M _ _ _,Z0M _ _ _⟩,E⟩
 exact Z22 (xs:=[((0:Int),(0:Int))]) (row:=Z0K) (pad:=[]) 1 (fun _=>rfl) q4
theorem Z5w {P:Program} {ρ:Operand → Value} {o:Oper} {w:World} {s x:Operand} {t e:TypeId} {base n size:Nat} {v:Value} {xs:List Value} (ho:o.op = .call { callee:=.builtin .append,args:=#[s,x],argTypes:=#[t,t] }) (ht:P.underlying t = some (.slice e)) (hs:ρ s = v) (hx:ρ x = .slice none 0 0) (hin:(P.info? e).map (·.size) = some size) (hown:w.ownsRow base e size v n xs) :
  (execOp ρ o).run P w = .ok (.value v) w:=by
 cases hq:P.info? e with
 | none=>simp [hq] at hin
 | some i =>
  have hr:=run_append_owned_none (P:=P) (w:=w) base t o.type e i size ht hq v n xs hown
  unfold execOp
  simp only [ho,resolve,invoke,builtin,Sem.run_bind,Sem.run_pure,Result.andThen_ok,List.map_toArray,List.map_cons,List.map_nil,hs,hx,hr]
set_option maxRecDepth 100000 in
set_option maxHeartbeats 2000000 in
theorem Z86 (w:World) :
  Calls Try.prog 77 #[.slice none 0 0] w fun e w'=>∃ gv ra rc,e = .returned (tpV (Z02 []) gv (.slice ra (Z02 []).rd.length rc) (.slice none 0 0)) ∧ IsTp w' gv (.slice ra (Z02 []).rd.length rc) (.slice none 0 0) (Z02 []) ∧ (Z02 []).rd.length ≤ rc ∧ Ext [] w w':=by
 have E:Ext [] w w:=Ext.refl _ _
 go_enter Try.func77,Try.ntmps77
 go_upto_region 0 with (fail)
 refine wp_region_lit ?_
 refine Zy rfl rfl (ZB rfl Try.zeroValue28) (by simp only [ls,lz];exact rfl) fun w1 hw=>?_
 obtain ⟨n2,hn⟩:∃ n,n = w.heap.size:=⟨_,rfl⟩
 rw [← hn]
 have l2:w.heap.size ≤ n2:=by rw [hn];exact E.size
 have q2:=Zr hw hn
 replace E:=Z2 E hw
 clear hw hn
 refine wpList_nil ?_
 go_upto_region 1 with (fail)
 refine wp_region_lit ?_
 refine ZC rfl rfl (by kernel_rfl) (Z1f 0 0 0 90 _) fun e w2 hR=>?_
 obtain ⟨rfl,e1⟩:=hR
 refine ⟨_,_,rfl,(by simp only [ls,lz];exact rfl),?_⟩
 replace q2:=(e1).keep0 q2
 replace E:=Z4 E (e1)
 refine ZC rfl rfl (by kernel_rfl) (Z1f 0 1 1 97 _) fun e w3 hR=>?_
 obtain ⟨rfl,e2⟩:=hR
 refine ⟨_,_,rfl,(by simp only [ls,lz];exact rfl),?_⟩
 replace q2:=(e2).keep0 q2
 replace E:=Z4 E (e2)
 refine ZC rfl rfl (by kernel_rfl) (Z1f 1 0 0 84 _) fun e w4 hR=>?_
 obtain ⟨rfl,e3⟩:=hR
 refine ⟨_,_,rfl,(by simp only [ls,lz];exact rfl),?_⟩
 replace q2:=(e3).keep0 q2
 replace E:=Z4 E (e3)
 refine ZC rfl rfl (by kernel_rfl) (Z1f 1 1 1 88 _) fun e w5 hR=>?_
 obtain ⟨rfl,e4⟩:=hR
 refine ⟨_,_,rfl,(by simp only [ls,lz];exact rfl),?_⟩
 replace q2:=(e4).keep0 q2
 replace E:=Z4 E (e4)
 refine Zy rfl rfl (ZE rfl Try.underlying25 (size:=4) (by kernel_rfl) (by decide) (by decide) Try.zeroValue66 (cells:=#[.int .i64 0,.int .i64 0,.int .i64 0,.int .i64 90,.int .i64 0,.int .i64 1,.int .i64 1,.int .i64 97,.int .i64 1,.int .i64 0,.int .i64 0,.int .i64 84,.int .i64 1,.int .i64 1,.int .i64 1,.int .i64 88]) (by kernel_rfl)) (by simp only [ls,lz];exact rfl) fun w6 hw=>?_
 obtain ⟨n8,hn⟩:∃ n,n = w5.heap.size:=⟨_,rfl⟩
 rw [← hn]
 have l8:w.heap.size ≤ n8:=by rw [hn];exact E.size
 have m8_2:n2 < n8:=by rw [hn];exact Z7 q2
 replace q2:=Z1 hw q2
 have q8:=Zw hw hn
 replace E:=Z2 E hw
 clear hw hn
 refine Z3 rfl rfl (Z8 (v:=.slice _ _ _) rfl rfl) (by simp only [ls,lz];exact rfl) ?_
 refine wpList_nil ?_
 go_upto_region 2 with (fail)
 refine wp_region_lit ?_
 refine Z3 rfl rfl (ZZ rfl (cells:=#[.int .i64 60,.int .i64 120]) (by kernel_rfl)) (by simp only [ls,lz];exact rfl) ?_
 refine Z3 rfl rfl (ZZ rfl (cells:=#[.int .i64 (-3),.int .i64 3]) (by kernel_rfl)) (by simp only [ls,lz];exact rfl) ?_
 refine Z3 rfl rfl (ZZ rfl (cells:=#[.int .i64 0,.int .i64 4]) (by kernel_rfl)) (by simp only [ls,lz];exact rfl) ?_
 refine Z3 rfl rfl (ZZ rfl (cells:=#[.int .i64 (-2),.int .i64 2]) (by kernel_rfl)) (by simp only [ls,lz];exact rfl) ?_
 refine Zy rfl rfl (ZE rfl Try.underlying24 (size:=2) (by kernel_rfl) (by decide) (by decide) Try.zeroValue23 (cells:=#[.int .i64 0,.int .i64 4,.int .i64 (-2),.int .i64 2]) (by kernel_rfl)) (by simp only [ls,lz];exact rfl) fun w7 hw=>?_
 obtain ⟨n13,hn⟩:∃ n,n = w6.heap.size:=⟨_,rfl⟩
 rw [← hn]
 have l13:w.heap.size ≤ n13:=by rw [hn];exact E.size
 have m13_2:n2 < n13:=by rw [hn];exact Z7 q2
 have m13_8:n8 < n13:=by rw [hn];exact Z7 q8
 replace q2:=Z1 hw q2
 replace q8:=Z1 hw q8
 have q13:=Zw hw hn
 replace E:=Z2 E hw
 clear hw hn
 refine Z3 rfl rfl (Zi (v:=.slice _ _ _) rfl rfl) (by simp only [ls,lz];exact rfl) ?_
 refine Z3 rfl rfl (Zi (v:=.slice _ _ _) rfl rfl) (by simp only [ls,lz];exact rfl) ?_
 refine Z3 rfl rfl (Z5w rfl Try.underlying25 rfl rfl (size:=4) (by kernel_rfl) (Z3K (base:=0) (n:=4) q8 (Nat.zero_le _) rfl (by decide))) (by simp only [ls,lz];exact rfl) ?_
 refine Z3 rfl rfl (ZZ rfl (cells:=#[.int .i64 2,.int .i64 2,.int .i64 2,.int .i64 60,.int .i64 120,.int .i64 (-3),.int .i64 3,.int .i64 1,.slice (some ⟨n13,0,none⟩) 2 2,.slice (some ⟨n8,0,none⟩) 4 4,.slice none 0 0]) (by kernel_rfl)) (by simp only [ls,lz];exact rfl) ?_
 refine ZY rfl rfl (Zg rfl rfl rfl (by kernel_rfl) (by simp [Value.oneCell']) q2 rfl) fun w8 hw=>?_
 replace q2:=Zz hw q2 rfl
 replace q8:=Z5 hw q8 (by omega)
 replace q13:=Z5 hw q13 (by omega)
 replace E:=Za E hw (fun h=>by first | exact absurd h (by omega) | simp)
 clear hw
 refine wpList_nil ?_
 go_wp2
 refine bodyPost_ret (Z2a rfl rfl Try.underlying28 rfl (by kernel_rfl) q2) rfl ⟨.slice (some ⟨n13,0,none⟩) 2 2,some ⟨n8,0,none⟩,4,rfl,⟨?_,?_,Z0M _ _ _⟩,by decide,E⟩
 ·exact Z22 (xs:=(Z02 []).gr) (row:=Z0K) (pad:=[]) 2 (fun _=>rfl) q13
 ·exact Z22 (xs:=(Z02 []).rd) (row:=Z0B) (pad:=[]) 4 (fun _=>rfl) q8
set_option maxRecDepth 100000 in
set_option maxHeartbeats 2000000 in
theorem Z7E (b:Nat) (w:World) (qp:w.heap[b]? = some (.cells #[.int .i64 0,.int .i64 0,.int .i64 1,.int .i64 99] 66 (0,0))) :
  Calls Try.prog 77 #[.slice (some ⟨b,0,none⟩) 1 1] w fun e w'=>∃ gv ra rc,e = .returned (tpV (Z02 [(0,0,1,99)]) gv (.slice ra (Z02 [(0,0,1,99)]).rd.length rc) (.slice none 0 0)) ∧ IsTp w' gv (.slice ra (Z02 [(0,0,1,99)]).rd.length rc) (.slice none 0 0) (Z02 [(0,0,1,99)]) ∧ (Z02 [(0,0,1,99)]).rd.length ≤ rc ∧ Ext [] w w':=by
 have E:Ext [] w w:=Ext.refl _ _
 go_enter Try.func77,Try.ntmps77
 go_upto_region 0 with (fail)
 refine wp_region_lit ?_
 refine Zy rfl rfl (ZB rfl Try.zeroValue28) (by simp only [ls,lz];exact rfl) fun w1 hw=>?_
 obtain ⟨n2,hn⟩:∃ n,n = w.heap.size:=⟨_,rfl⟩
 rw [← hn]
 have l2:w.heap.size ≤ n2:=by rw [hn];exact E.size
 have m2_p:b < n2:=by rw [hn];exact Z7 qp
 replace qp:=Z1 hw qp
 have q2:=Zr hw hn
 replace E:=Z2 E hw
 clear hw hn
 refine wpList_nil ?_
 go_upto_region 1 with (fail)
 refine wp_region_lit ?_
 refine ZC rfl rfl (by kernel_rfl) (Z1f 0 0 0 90 _) fun e w2 hR=>?_
 obtain ⟨rfl,e1⟩:=hR
 refine ⟨_,_,rfl,(by simp only [ls,lz];exact rfl),?_⟩
 replace qp:=(e1).keep0 qp
 replace q2:=(e1).keep0 q2
 replace E:=Z4 E (e1)
 refine ZC rfl rfl (by kernel_rfl) (Z1f 0 1 1 97 _) fun e w3 hR=>?_
 obtain ⟨rfl,e2⟩:=hR
 refine ⟨_,_,rfl,(by simp only [ls,lz];exact rfl),?_⟩
 replace qp:=(e2).keep0 qp
 replace q2:=(e2).keep0 q2
 replace E:=Z4 E (e2)
 refine ZC rfl rfl (by kernel_rfl) (Z1f 1 0 0 84 _) fun e w4 hR=>?_
 obtain ⟨rfl,e3⟩:=hR
 refine ⟨_,_,rfl,(by simp only [ls,lz];exact rfl),?_⟩
 replace qp:=(e3).keep0 qp
 replace q2:=(e3).keep0 q2
 replace E:=Z4 E (e3)
 refine ZC rfl rfl (by kernel_rfl) (Z1f 1 1 1 88 _) fun e w5 hR=>?_
 obtain ⟨rfl,e4⟩:=hR
 refine ⟨_,_,rfl,(by simp only [ls,lz];exact rfl),?_⟩
 replace qp:=(e4).keep0 qp
 replace q2:=(e4).keep0 q2
 replace E:=Z4 E (e4)
 refine Zy rfl rfl (ZE rfl Try.underlying25 (size:=4) (by kernel_rfl) (by decide) (by decide) Try.zeroValue66 (cells:=#[.int .i64 0,.int .i64 0,.int .i64 0,.int .i64 90,.int .i64 0,.int .i64 1,.int .i64 1,.int .i64 97,.int .i64 1,.int .i64 0,.int .i64 0,.int .i64 84,.int .i64 1,.int .i64 1,.int .i64 1,.int .i64 88]) (by kernel_rfl)) (by simp only [ls,lz];exact rfl) fun w6 hw=>?_
 obtain ⟨n8,hn⟩:∃ n,n = w5.heap.size:=⟨_,rfl⟩
 rw [← hn]
 have l8:w.heap.size ≤ n8:=by rw [hn];exact E.size
 have m8_p:b < n8:=by rw [hn];exact Z7 qp
 have m8_2:n2 < n8:=by rw [hn];exact Z7 q2
 replace qp:=Z1 hw qp
 replace q2:=Z1 hw q2
 have q8:=Zw hw hn
 replace E:=Z2 E hw
 clear hw hn
 refine Z3 rfl rfl (Z8 (v:=.slice _ _ _) rfl rfl) (by simp only [ls,lz];exact rfl) ?_
 refine wpList_nil ?_
 go_upto_region 2 with (fail)
 refine wp_region_lit ?_
 refine Z3 rfl rfl (ZZ rfl (cells:=#[.int .i64 60,.int .i64 120]) (by kernel_rfl)) (by simp only [ls,lz];exact rfl) ?_
 refine Z3 rfl rfl (ZZ rfl (cells:=#[.int .i64 (-3),.int .i64 3]) (by kernel_rfl)) (by simp only [ls,lz];exact rfl) ?_
 refine Z3 rfl rfl (ZZ rfl (cells:=#[.int .i64 0,.int .i64 4]) (by kernel_rfl)) (by simp only [ls,lz];exact rfl) ?_
 refine Z3 rfl rfl (ZZ rfl (cells:=#[.int .i64 (-2),.int .i64 2]) (by kernel_rfl)) (by simp only [ls,lz];exact rfl) ?_
 refine Zy rfl rfl (ZE rfl Try.underlying24 (size:=2) (by kernel_rfl) (by decide) (by decide) Try.zeroValue23 (cells:=#[.int .i64 0,.int .i64 4,.int .i64 (-2),.int .i64 2]) (by kernel_rfl)) (by simp only [ls,lz];exact rfl) fun w7 hw=>?_
 obtain ⟨n13,hn⟩:∃ n,n = w6.heap.size:=⟨_,rfl⟩
 rw [← hn]
 have l13:w.heap.size ≤ n13:=by rw [hn];exact E.size
 have m13_p:b < n13:=by rw [hn];exact Z7 qp
 have m13_2:n2 < n13:=by rw [hn];exact Z7 q2
 have m13_8:n8 < n13:=by rw [hn];exact Z7 q8
 replace qp:=Z1 hw qp
 replace q2:=Z1 hw q2
 replace q8:=Z1 hw q8
 have q13:=Zw hw hn
 replace E:=Z2 E hw
 clear hw hn
 refine Z3 rfl rfl (Zi (v:=.slice _ _ _) rfl rfl) (by simp only [ls,lz];exact rfl) ?_
 refine Z3 rfl rfl (Zi (v:=.slice _ _ _) rfl rfl) (by simp only [ls,lz];exact rfl) ?_
 have ho:=Z3K (base:=n8) (n:=4) (size:=4) q8 (Nat.le_refl _) rfl (by decide)
 have hb8:=Z7 q8
 refine Z1G rfl rfl rfl (n8) (e:=66) (size:=4) (bytes:=32) Try.underlying25 (by kernel_rfl) (by decide) rfl ho rfl qp rfl (by simp [Value.oneCell']) (by omega) (by omega) (by have:=E.size;omega) fun v' w8 hown' hg=>?_
 obtain ⟨va16,vc16,rfl⟩:=Zs hown'
 refine ⟨_,(by simp only [ls,lz];exact rfl),?_⟩
 replace qp:=Z5O (g:=n8) hg qp (by omega)
 replace q2:=Z5O (g:=n8) hg q2 (by omega)
 replace q13:=Z5O (g:=n8) hg q13 (by omega)
 replace E:=Z42 E ho hg (by omega)
 replace ho:=hown'
 clear hg
 refine Z3 rfl rfl (ZZ rfl (cells:=#[.int .i64 2,.int .i64 2,.int .i64 2,.int .i64 60,.int .i64 120,.int .i64 (-3),.int .i64 3,.int .i64 1,.slice (some ⟨n13,0,none⟩) 2 2,.slice va16 (4 + 1) vc16,.slice none 0 0]) (by kernel_rfl)) (by simp only [ls,lz];exact rfl) ?_
 refine ZY rfl rfl (Zg rfl rfl rfl (by kernel_rfl) (by simp [Value.oneCell']) q2 rfl) fun w9 hw=>?_
 replace qp:=Z5 hw qp (by omega)
 replace q2:=Zz hw q2 rfl
 replace q13:=Z5 hw q13 (by omega)
 replace ho:=Z10 hw ho (by omega)
 replace E:=Za E hw (fun h=>by first | exact absurd h (by omega) | simp)
 clear hw
 refine wpList_nil ?_
 go_wp2
 have hcap:=Z9S ho
 have hrows:=Z13 (xs:=(Z02 [(0,0,1,99)]).rd) (row:=Z0B) ho (fun _=>rfl)
 refine bodyPost_ret (Z2a rfl rfl Try.underlying28 rfl (by kernel_rfl) q2) rfl ⟨.slice (some ⟨n13,0,none⟩) 2 2,va16,vc16,rfl,⟨?_,hrows,Z0M _ _ _⟩,hcap,E⟩
 exact Z22 (xs:=(Z02 [(0,0,1,99)]).gr) (row:=Z0K) (pad:=[]) 2 (fun _=>rfl) q13
theorem Z4d {w:World} {b off:Nat} {cs:List Value} {v:Value} (h:w.rangeAt b off cs) (h0:cs[0]? = some v):b < w.heap.size:=by
 have:=h 0 v h0
 exact World.block_lt_of_cell? w ⟨b,off + 0,none⟩ this
theorem Z8l {α:Type} [DecidableEq α] {xs ys:List α} {i:Nat} (d:α) (hi:i < xs.length) (hl:xs.length = ys.length) (h:xs.take i = ys.take i) (he:xs.getD i d = ys.getD i d):xs.take (i + 1) = ys.take (i + 1):=by
 have hi2:i < ys.length:=by omega
 rw [List.take_add_one,List.take_add_one,h]
 simp only [List.getD_eq_getElem?_getD,List.getElem?_eq_getElem hi,List.getElem?_eq_getElem hi2,Option.getD_some] at he
 simp [hi,hi2,he]
set_option maxRecDepth 100000 in
set_option maxHeartbeats 2000000 in
theorem Z2w (xs ys:List Int) (a b:Option Addr) (ca cb:Nat) (w:World) (hx:Z0E w (.slice a xs.length ca) 1 (xs.map Z0Q)) (hy:Z0E w (.slice b ys.length cb) 1 (ys.map Z0Q)) (h1:xs.length ≤ 1000000) (h2:ys.length ≤ 1000000) :
  Calls Try.prog 50 #[.slice a xs.length ca,.slice b ys.length cb] w fun e w'=>e = .returned (.bool (decide (xs = ys))) ∧ Ext [] w w':=by
 have E:Ext [] w w:=Ext.refl _ _
 by_cases hl:xs.length = ys.length
 ·go_enter Try.func50,Try.ntmps50
  go_wp2_with fail
  go_loopw [5] (fun iv wr=>∃ i:Nat,i ≤ xs.length ∧ iv = .int .i64 i ∧ xs.take i = ys.take i ∧ Ext [] w wr) (fun iv _=>xs.length - (intOf iv).toNat)
  case atStart=>exact ⟨0,Nat.zero_le _,rfl,by simp,E⟩
  case round =>
   clear E
   obtain ⟨i,hi,rfl,ht,E⟩:=hrel
   have HT:=Lib.hid ht;clear ht
   by_cases hlt:(i:Int) < (xs.length:Int)
   ·obtain ⟨xb,xo,hxa,hxr⟩:=Z3A 0 hx E (i:=i) (by omega)
    obtain ⟨yb,yo,hya,hyr⟩:=Z3A 0 hy E (i:=i) (by omega)
    have hcx:Hid (∀ W:World,Ext [] wr W → W.cell? ⟨xb,xo + (i:Int).toNat * 1,none⟩ = some (.int .i64 (xs.getD i 0))):=fun W hW=>by
     have hlt2:=Z4d hxr rfl
     have:=hxr 0 (.int .i64 (xs.getD i 0)) rfl
     rw [hW.cell (a:=⟨xb,xo + (i:Int).toNat * 1,none⟩) hlt2 (by simp)];simpa using this
    have hcy:Hid (∀ W:World,Ext [] wr W → W.cell? ⟨yb,yo + (i:Int).toNat * 1,none⟩ = some (.int .i64 (ys.getD i 0))):=fun W hW=>by
     have hlt2:=Z4d hyr rfl
     have:=hyr 0 (.int .i64 (ys.getD i 0)) rfl
     rw [hW.cell (a:=⟨yb,yo + (i:Int).toNat * 1,none⟩) hlt2 (by simp)];simpa using this
    clear hxr hyr
    obtain ⟨x,hxd⟩:∃ x,x = xs.getD i 0:=⟨_,rfl⟩
    obtain ⟨y,hyd⟩:∃ y,y = ys.getD i 0:=⟨_,rfl⟩
    rw [← hxd] at hcx
    rw [← hyd] at hcy
    go_upto_region 6 with (fail)
    refine Z11 (Ext [] wr) follows fun w1 hh eS=>?_
    replace E:=Z4 E eS
    refine Zf (i:=0) rfl (by kernel_rfl) (by kernel_rfl) (by kernel_rfl) (fun _ _ _ h=>h) rfl rfl (fun w' hS=>Zi (v:=.slice _ _ _) rfl rfl) eS (by simp only [ls,lz];exact rfl) ?_
    refine Zf (i:=1) rfl (by kernel_rfl) (by kernel_rfl) (by kernel_rfl) (fun _ _ _ h=>h) rfl rfl (fun w' hS=>Zi (v:=.int .i64 _) rfl rfl) eS (by simp only [ls,lz];exact rfl) ?_
    refine Zf (i:=2) rfl (by kernel_rfl) (by kernel_rfl) (by kernel_rfl) (fun _ _ _ h=>h) rfl rfl (fun w' hS=>ZJ (sz:=1) rfl (hxa xs.length ca) rfl Try.underlying29 (by kernel_rfl) (by omega) (by omega)) eS (by simp only [ls,lz];exact rfl) ?_
    refine Zf (i:=3) rfl (by kernel_rfl) (by kernel_rfl) (by kernel_rfl) (fun _ _ _ h=>h) rfl rfl (fun w' hS=>Zh (v:=.int .i64 x) rfl rfl Try.underlying3 rfl (hcx.out _ hS)) eS (by simp only [ls,lz];exact rfl) ?_
    refine Zf (i:=4) rfl (by kernel_rfl) (by kernel_rfl) (by kernel_rfl) (fun _ _ _ h=>h) rfl rfl (fun w' hS=>Zi (v:=.slice _ _ _) rfl rfl) eS (by simp only [ls,lz];exact rfl) ?_
    refine Zf (i:=5) rfl (by kernel_rfl) (by kernel_rfl) (by kernel_rfl) (fun _ _ _ h=>h) rfl rfl (fun w' hS=>Zi (v:=.int .i64 _) rfl rfl) eS (by simp only [ls,lz];exact rfl) ?_
    refine Zf (i:=6) rfl (by kernel_rfl) (by kernel_rfl) (by kernel_rfl) (fun _ _ _ h=>h) rfl rfl (fun w' hS=>ZJ (sz:=1) rfl (hya ys.length cb) rfl Try.underlying29 (by kernel_rfl) (by omega) (by omega)) eS (by simp only [ls,lz];exact rfl) ?_
    refine Zf (i:=7) rfl (by kernel_rfl) (by kernel_rfl) (by kernel_rfl) (fun _ _ _ h=>h) rfl rfl (fun w' hS=>Zh (v:=.int .i64 y) rfl rfl Try.underlying3 rfl (hcy.out _ hS)) eS (by simp only [ls,lz];exact rfl) ?_
    refine Zf (i:=8) rfl (by kernel_rfl) (by kernel_rfl) (by kernel_rfl) (fun _ _ _ h=>h) rfl rfl (fun w' hS=>Zbk rfl rfl rfl) eS (by simp only [ls,lz];exact rfl) ?_
    refine wpAnyH_done (by kernel_rfl) ?_ _
    clear hh eS
    clear hcx hcy
    by_cases hxy:x = y
    ·have H1:=Lib.hid (Z8l 0 (by omega) hl HT.out (by rw [← hxd,← hyd];exact hxy))
     clear hxd hyd
     subst hxy
     go_wp2
     go_roundw
     case rel=>exact ⟨i + 1,by omega,by go_num,H1.out,E⟩
     case measure=>simp [intOf];omega
    ·have H1:Hid (decide (xs = ys) = false):=by
      show _ = _
      refine decide_eq_false fun e=>hxy ?_
      rw [hxd,hyd,e]
     clear hxd hyd
     have hb:(x != y) = true:=by simpa using hxy
     go_wp2
     go_ret
     exact ⟨Z3g H1.out.symm,E⟩
   ·have H1:Hid (decide (xs = ys) = true):=by
     show _ = _
     refine decide_eq_true ?_
     have:=HT.out
     rwa [List.take_of_length_le (by omega),List.take_of_length_le (by omega)] at this
    go_wp2
    go_ret
    exact ⟨Z3g H1.out.symm,E⟩
 ·have H1:Hid (decide (xs = ys) = false):=by
   show _ = _
   exact decide_eq_false fun e=>hl (by rw [e])
  have hb:((xs.length:Int) != (ys.length:Int)) = true:=by simpa using fun e=>hl (by omega)
  go_enter Try.func50,Try.ntmps50
  go_wp2
  go_ret
  exact ⟨Z3g H1.out.symm,E⟩
theorem Z2k:Z08 (Z02 []) = 0:=Z0x.2 ⟨Z2A,by decide⟩
theorem Z48:Z08 (Z02 [(0,0,1,99)]) = 0:=Z0x.2 ⟨Z1s,by decide⟩
theorem Z6x:Z08 (Z0b []) = 0:=Z0x.2 ⟨Z3l,by decide⟩
theorem Z4L {t:Tp} (hc:Z08 t = 0) {xs:Nat → List Int} (h:ZU ((List.range 3).map (askE t xs)) = 0):Z1o t xs = 0:=by
 rw [Z1o,if_neg (by rw [hc];decide)];exact h
theorem Z33 {t:Tp} {xs:Nat → List Int} (h:Z1o t xs = 0) (hb:bdB t 0 = true):Z0j t xs = 0:=by
 rw [Z0j,if_neg (by rw [h];decide),if_pos hb]
theorem Z5t:bdB (Z02 []) 0 = true:=by
 obtain ⟨y,hy,-⟩:=Z4m
 exact Z3m hy
theorem Z90:canB (Z02 []) = true:=by rw [canB,if_pos Z2k,Z5t]
theorem Z51:Z3p (Z02 []) 0 0 = 0 ∧ Z5Z (Z02 []) 0 0 = (89,94):=by
 have h:Z3p (Z02 []) 0 0 = 0:=Z33 (Z4L Z2k (by decide +kernel)) Z5t
 obtain ⟨y,hy,h1,h2,-⟩:=Z4m
 refine ⟨h,?_⟩
 rw [Z5Z,if_pos h,Z3c hy,show ZO 0 0 = 1 from rfl,h1,h2]
 rfl
theorem Z5g:Z5x (Z02 []) 0 = 0 ∧ Z5W (Z02 []) 0 = (-3,2):=by
 have h:Z5x (Z02 []) 0 = 0:=Z33 (Z4L Z2k (by decide +kernel)) Z5t
 obtain ⟨y,hy,-,-,h1,h2,-⟩:=Z4m
 refine ⟨h,?_⟩
 rw [Z5W,if_pos h,Z3c hy,show Z0q 0 = 10 from rfl,h1,h2]
theorem Z4p:Z3M (Z02 []) 0 0 1 0 = 0 ∧ Z4f (Z02 []) 0 0 1 0 = (4,8):=by
 have h:Z3M (Z02 []) 0 0 1 0 = 0:=Z33 (Z4L Z2k (by decide +kernel)) Z5t
 obtain ⟨y,hy,-,-,-,-,h1,h2⟩:=Z4m
 refine ⟨h,?_⟩
 rw [Z4f,if_pos h,Z3c hy,show ZO 0 0 = 1 from rfl,show ZO 1 0 = 4 from rfl,h1,h2]
 rfl
theorem Z4D:Z4i (Z02 [(0,0,1,99)]) = some 17:=by
 have hs:Z3q (Z02 [(0,0,1,99)]).rd.length = [0,1,2,4,8,16,3,5,9] ++ 17 :: (Z3q 5).drop 10:=by decide +kernel
 have no:∀ s:Nat,s ∈ [0,1,2,4,8,16,3,5,9] → (!bdB (Z02 [(0,0,1,99)]) (outN 31 s:Nat)) = false:=fun s hs=>by
  have e:((outN 31 s:Nat):Int) = 31 - (s:Int):=by
   simp only [List.mem_cons,List.not_mem_nil,or_false] at hs
   rcases hs with rfl | rfl | rfl | rfl | rfl | rfl | rfl | rfl | rfl <;> decide +kernel
  obtain ⟨y,hy⟩:=ZaH s (by
   simp only [List.mem_cons,List.not_mem_nil,or_false] at hs ⊢
   omega)
  rw [e,Z3m hy];rfl
 have yes:(!bdB (Z02 [(0,0,1,99)]) (outN 31 17:Nat)) = true:=by
  rw [show ((outN 31 17:Nat):Int) = 14 by decide +kernel,Z5i Za0];rfl
 unfold Z4i
 rw [hs,List.find?_append]
 have h1:[0,1,2,4,8,16,3,5,9].find? (fun x=>!bdB (Z02 [(0,0,1,99)]) (outN (2 ^ (Z02 [(0,0,1,99)]).rd.length - 1) x:Nat)) = none:=by
  rw [List.find?_eq_none]
  intro s hs
  have:=no s hs
  simpa [Z02] using this
 rw [h1]
 simp only [Option.none_or]
 rw [List.find?_cons_of_pos]
 exact yes
theorem Z54:Z6B (Z02 [(0,0,1,99)]) = 0 ∧ Z5r (Z02 [(0,0,1,99)]) = [0,4]:=by
 constructor
 ·rw [Z6B,if_neg (by rw [Z48];decide),Z4D];rfl
 ·rw [Z5r,if_neg (by rw [Z48];decide),Z4D];decide +kernel
def Z9w (tape:Int):Int:=min 120 (tape + 4) + -(max 60 (tape - 4)) + 1
def nxtP (left:Int):Nat → Int → Int → Option Int
 | 0,_,most=>some most
 | n + 1,tape,most=>if left ≤ max most (Z9w tape) then none else nxtP left n (tape + 1) (max most (Z9w tape))
set_option maxHeartbeats 1000000 in
theorem Z6K (i:Nat) (hi:i < 2) (left:Int):∀ (n:Nat) (tape most:Int),56 ≤ tape → tape + n ≤ 125 → nxt1 (Z0b []) 0 0 i left n tape most = nxtP left n tape most
 | 0,_,_,_,_=>rfl
 | n + 1,tape,most,h1,h2=>by
  obtain ⟨y,hy,e1,e2⟩:=Z7S i hi tape h1 (by omega)
  have hb:bdB (addR (Z0b []) (0,0,(i:Int),tape)) 0 = true:=Z3m hy
  have hn:numB (addR (Z0b []) (0,0,(i:Int),tape)) (ZO 0 0) = Z9w tape:=by
   unfold numB Z9w
   rw [show bdV (addR (Z0b []) (0,0,(i:Int),tape)) 0 = y from Z3c hy,show ZO 0 0 = 1 from rfl,e1,e2]
  unfold nxt1 nxtP
  rw [if_pos hb,hn,Z6K i hi left n (tape + 1) _ (by omega) (by omega)]
set_option maxHeartbeats 2000000 in
set_option maxRecDepth 20000 in
theorem Z5e:Z4g (Z0b []) 0 0 = 0 ∧ Z4X (Z0b []) 0 0 = (0,9):=by
 obtain ⟨y,hy,e1,e2,e3⟩:=Z9X
 have hb:bdB (Z0b []) 0 = true:=Z3m hy
 have hm:Z3p (Z0b []) 0 0 = 0:=Z33 (Z4L Z6x (by decide +kernel)) hb
 have hV:bdV (Z0b []) 0 = y:=Z3c hy
 have h0:Z2p (Z0b []) 0 0 0 = (-1,61):=by
  show (-1,numB (Z0b []) (ZO 0 0)) = _
  unfold numB
  rw [hV,show ZO 0 0 = 1 from rfl,e1,e2]
  rfl
 have lo:∀ i:Nat,i < 2 → Z1E (Z0b []) 0 0 i = 56 ∧ Z6c (Z0b []) 0 0 i = 124:=fun i hi=>by
  unfold Z1E Z6c
  rw [hV,show ZO 0 0 = 1 from rfl,show Z0q (i:Int) = 10 + i by unfold Z0q;omega,(e3 i hi).1,(e3 i hi).2]
  exact ⟨rfl,rfl⟩
 have h1:Z2p (Z0b []) 0 0 1 = (0,9):=by
  rw [Z40]
  rw [h0,(lo 0 (by omega)).1,(lo 0 (by omega)).2,Z6K 0 (by omega) _ _ _ _ (by omega) (by decide),show nxtP (-1,61).2 ((124:Int) - 56 + 1).toNat 56 0 = some 9 by decide +kernel]
  rfl
 have h2:Z2p (Z0b []) 0 0 2 = (0,9):=by
  rw [Z40]
  rw [h1,(lo 1 (by omega)).1,(lo 1 (by omega)).2,Z6K 1 (by omega) _ _ _ _ (by omega) (by decide),show nxtP (0,9).2 ((124:Int) - 56 + 1).toNat 56 0 = none by decide +kernel]
  rfl
 have hE:Z4g (Z0b []) 0 0 = 0:=by
  rw [Z4g,if_neg (by rw [hm];decide),show (Z0b []).T.toNat = 2 from rfl,h2];rfl
 exact ⟨hE,by rw [Z4X,if_pos hE,show (Z0b []).T.toNat = 2 from rfl,h2]⟩
set_option maxRecDepth 100000 in
set_option maxHeartbeats 4000000 in
theorem Z6j (w:World) :
  Calls Try.prog 25 #[] w fun e w'=>e = .returned (.bool true) ∧ Ext [] w w':=by
 have HH:=Lib.hid Z86
 have HC:Hid (∀ (gv rv lv:Value) (W:World),IsTp W gv rv lv (Z02 []) → Calls Try.prog 29 #[tpV (Z02 []) gv rv lv] W fun e w'=>e = .returned (.tuple #[.bool true,.int .i64 0]) ∧ Ext [] W w'):=fun gv rv lv W h=>by
  have:=Zaq (Z02 []) gv rv lv W h (by decide) (by decide) (by decide)
  rwa [Z90,Z2k] at this
 have HM:Hid (∀ (gv rv lv:Value) (W:World),IsTp W gv rv lv (Z02 []) → Calls Try.prog 33 #[tpV (Z02 []) gv rv lv,.int .i64 0,.int .i64 0] W fun e w'=>e = .returned (.tuple #[.agg #[.int .i64 89,.int .i64 94],.int .i64 0]) ∧ Ext [] W w'):=fun gv rv lv W h=>by
  have:=Z6I (Z02 []) gv rv lv 0 0 W h (by decide) (by decide) (by decide)
  rwa [Z51.1,Z51.2] at this
 have HP:Hid (∀ (gv rv lv:Value) (W:World),IsTp W gv rv lv (Z02 []) → Calls Try.prog 35 #[tpV (Z02 []) gv rv lv,.int .i64 0] W fun e w'=>e = .returned (.tuple #[.agg #[.int .i64 (-3),.int .i64 2],.int .i64 0]) ∧ Ext [] W w'):=fun gv rv lv W h=>by
  have:=Z9z (Z02 []) gv rv lv 0 W h (by decide) (by decide) (by decide)
  rwa [Z5g.1,Z5g.2] at this
 have HA:Hid (∀ (gv rv lv:Value) (W:World),IsTp W gv rv lv (Z02 []) → Calls Try.prog 43 #[tpV (Z02 []) gv rv lv,.int .i64 0,.int .i64 0,.int .i64 1,.int .i64 0] W fun e w'=>e = .returned (.tuple #[.agg #[.int .i64 4,.int .i64 8],.int .i64 0]) ∧ Ext [] W w'):=fun gv rv lv W h=>by
  have:=Z8r (Z02 []) gv rv lv 0 0 1 0 W h (by decide) (by decide) (by decide)
  rwa [Z4p.1,Z4p.2] at this
 have HR:Hid (∀ (gv rv lv:Value) (W:World),IsTp W gv rv lv (Z02 [(0,0,1,99)]) → Calls Try.prog 47 #[tpV (Z02 [(0,0,1,99)]) gv rv lv] W fun e w'=>∃ a cap,e = .returned (.tuple #[.slice a 2 cap,.int .i64 0]) ∧ Z0E w' (.slice a 2 cap) 1 (([0,4]:List Int).map Z0Q) ∧ Ext [] W w'):=fun gv rv lv W h=>by
  have:=Z9B (Z02 [(0,0,1,99)]) gv rv lv W h (by decide) (by decide) (by decide)
  rwa [Z54.1,Z54.2] at this
 have HN:Hid (∀ (gv:Value) (W:World),IsTp W gv (.slice none 0 0) (.slice none 0 0) (Z0b []) → Calls Try.prog 38 #[tpV (Z0b []) gv (.slice none 0 0) (.slice none 0 0),.int .i64 0,.int .i64 0] W fun e w'=>e = .returned (.tuple #[.int .i64 0,.int .i64 9,.int .i64 0]) ∧ Ext [] W w'):=fun gv W h=>by
  have:=Z9J (Z0b []) gv (.slice none 0 0) none 0 0 0 W h (by decide) (by decide) (by decide) (by decide)
  rwa [Z5e.1,Z5e.2] at this
 have HS:Hid (∀ (a b:Option Addr) (ca cb:Nat) (W:World),Z0E W (.slice a 2 ca) 1 (([0,4]:List Int).map Z0Q) → Z0E W (.slice b 2 cb) 1 (([0,4]:List Int).map Z0Q) → Calls Try.prog 50 #[.slice a 2 ca,.slice b 2 cb] W fun e w'=>e = .returned (.bool true) ∧ Ext [] W w'):=fun a b ca cb W h1 h2 =>
  Z2w [0,4] [0,4] a b ca cb W h1 h2 (by decide) (by decide)
 have E:Ext [] w w:=Ext.refl _ _
 go_enter Try.func25,Try.ntmps25
 go_upto_region 1 with (fail)
 refine wp_region_lit ?_
 refine ZC rfl rfl (by kernel_rfl) (HH.out _) fun e w1 hR=>?_
 obtain ⟨gv,ra,rc,rfl,hT,-,e1⟩:=hR
 refine ⟨_,_,rfl,(by simp only [ls,lz];exact rfl),?_⟩
 replace E:=Z4 E (e1)
 refine ZC rfl rfl (by kernel_rfl) (HC.out _ _ _ _ hT) fun e w2 hR=>?_
 obtain ⟨rfl,e2⟩:=hR
 refine ⟨_,_,rfl,(by simp only [ls,lz];exact rfl),?_⟩
 replace E:=Z4 E (e2)
 refine Z3 rfl rfl (Zi (v:=.tuple _) rfl rfl) (by simp only [ls,lz];exact rfl) ?_
 refine Z3 rfl rfl (Zm rfl rfl (get0)) (by simp only [ls,lz];exact rfl) ?_
 refine Z3 rfl rfl (Zm rfl rfl (getS (get0))) (by simp only [ls,lz];exact rfl) ?_
 refine Z3 rfl rfl (Z8 (v:=.bool _) rfl rfl) (by simp only [ls,lz];exact rfl) ?_
 refine Z3 rfl rfl (Z8 (v:=.int .i64 _) rfl rfl) (by simp only [ls,lz];exact rfl) ?_
 refine wpList_nil ?_
 clear hT e1 e2
 go_upto_region 2 with (fail)
 refine wp_region_lit ?_
 refine ZC rfl rfl (by kernel_rfl) (HH.out _) fun e w3 hR=>?_
 obtain ⟨gv,ra,rc,rfl,hT,-,e1⟩:=hR
 refine ⟨_,_,rfl,(by simp only [ls,lz];exact rfl),?_⟩
 replace E:=Z4 E (e1)
 refine ZC rfl rfl (by kernel_rfl) (HM.out _ _ _ _ hT) fun e w4 hR=>?_
 obtain ⟨rfl,e2⟩:=hR
 refine ⟨_,_,rfl,(by simp only [ls,lz];exact rfl),?_⟩
 replace E:=Z4 E (e2)
 refine Z3 rfl rfl (Zi (v:=.tuple _) rfl rfl) (by simp only [ls,lz];exact rfl) ?_
 refine Z3 rfl rfl (Zm rfl rfl (get0)) (by simp only [ls,lz];exact rfl) ?_
 refine Z3 rfl rfl (Zm rfl rfl (getS (get0))) (by simp only [ls,lz];exact rfl) ?_
 refine Zy rfl rfl (ZB rfl Try.zeroValue23) (by simp only [ls,lz];exact rfl) fun w5 hw=>?_
 obtain ⟨n3,hn⟩:∃ n,n = w4.heap.size:=⟨_,rfl⟩
 rw [← hn]
 have l3:w.heap.size ≤ n3:=by rw [hn];exact E.size
 have q3:=Zr hw hn
 replace E:=Z2 E hw
 clear hw hn
 refine ZY rfl rfl (Zg rfl rfl rfl (by kernel_rfl) (by simp [Value.oneCell']) q3 rfl) fun w6 hw=>?_
 replace q3:=Zz hw q3 rfl
 replace E:=Za E hw (fun h=>by first | exact absurd h (by omega) | simp)
 clear hw
 refine Z3 rfl rfl (Z8 (v:=.int .i64 _) rfl rfl) (by simp only [ls,lz];exact rfl) ?_
 refine wpList_nil ?_
 clear hT e1 e2
 go_upto_region 3 with (fail)
 refine wp_region_lit ?_
 refine ZC rfl rfl (by kernel_rfl) (HH.out _) fun e w7 hR=>?_
 obtain ⟨gv,ra,rc,rfl,hT,-,e1⟩:=hR
 refine ⟨_,_,rfl,(by simp only [ls,lz];exact rfl),?_⟩
 replace q3:=(e1).keep0 q3
 replace E:=Z4 E (e1)
 refine ZC rfl rfl (by kernel_rfl) (HP.out _ _ _ _ hT) fun e w8 hR=>?_
 obtain ⟨rfl,e2⟩:=hR
 refine ⟨_,_,rfl,(by simp only [ls,lz];exact rfl),?_⟩
 replace q3:=(e2).keep0 q3
 replace E:=Z4 E (e2)
 refine Z3 rfl rfl (Zi (v:=.tuple _) rfl rfl) (by simp only [ls,lz];exact rfl) ?_
 refine Z3 rfl rfl (Zm rfl rfl (get0)) (by simp only [ls,lz];exact rfl) ?_
 refine Z3 rfl rfl (Zm rfl rfl (getS (get0))) (by simp only [ls,lz];exact rfl) ?_
 refine Zy rfl rfl (ZB rfl Try.zeroValue23) (by simp only [ls,lz];exact rfl) fun w9 hw=>?_
 obtain ⟨n5,hn⟩:∃ n,n = w8.heap.size:=⟨_,rfl⟩
 rw [← hn]
 have l5:w.heap.size ≤ n5:=by rw [hn];exact E.size
 have m5_3:n3 < n5:=by rw [hn];exact Z7 q3
 replace q3:=Z1 hw q3
 have q5:=Zr hw hn
 replace E:=Z2 E hw
 clear hw hn
 refine ZY rfl rfl (Zg rfl rfl rfl (by kernel_rfl) (by simp [Value.oneCell']) q5 rfl) fun w10 hw=>?_
 replace q3:=Z5 hw q3 (by omega)
 replace q5:=Zz hw q5 rfl
 replace E:=Za E hw (fun h=>by first | exact absurd h (by omega) | simp)
 clear hw
 refine Z3 rfl rfl (Z8 (v:=.int .i64 _) rfl rfl) (by simp only [ls,lz];exact rfl) ?_
 refine wpList_nil ?_
 clear hT e1 e2
 go_upto_region 4 with (fail)
 refine wp_region_lit ?_
 refine ZC rfl rfl (by kernel_rfl) (HH.out _) fun e w11 hR=>?_
 obtain ⟨gv,ra,rc,rfl,hT,-,e1⟩:=hR
 refine ⟨_,_,rfl,(by simp only [ls,lz];exact rfl),?_⟩
 replace q3:=(e1).keep0 q3
 replace q5:=(e1).keep0 q5
 replace E:=Z4 E (e1)
 refine ZC rfl rfl (by kernel_rfl) (HA.out _ _ _ _ hT) fun e w12 hR=>?_
 obtain ⟨rfl,e2⟩:=hR
 refine ⟨_,_,rfl,(by simp only [ls,lz];exact rfl),?_⟩
 replace q3:=(e2).keep0 q3
 replace q5:=(e2).keep0 q5
 replace E:=Z4 E (e2)
 refine Z3 rfl rfl (Zi (v:=.tuple _) rfl rfl) (by simp only [ls,lz];exact rfl) ?_
 refine Z3 rfl rfl (Zm rfl rfl (get0)) (by simp only [ls,lz];exact rfl) ?_
 refine Z3 rfl rfl (Zm rfl rfl (getS (get0))) (by simp only [ls,lz];exact rfl) ?_
 refine Zy rfl rfl (ZB rfl Try.zeroValue23) (by simp only [ls,lz];exact rfl) fun w13 hw=>?_
 obtain ⟨n7,hn⟩:∃ n,n = w12.heap.size:=⟨_,rfl⟩
 rw [← hn]
 have l7:w.heap.size ≤ n7:=by rw [hn];exact E.size
 have m7_3:n3 < n7:=by rw [hn];exact Z7 q3
 have m7_5:n5 < n7:=by rw [hn];exact Z7 q5
 replace q3:=Z1 hw q3
 replace q5:=Z1 hw q5
 have q7:=Zr hw hn
 replace E:=Z2 E hw
 clear hw hn
 refine ZY rfl rfl (Zg rfl rfl rfl (by kernel_rfl) (by simp [Value.oneCell']) q7 rfl) fun w14 hw=>?_
 replace q3:=Z5 hw q3 (by omega)
 replace q5:=Z5 hw q5 (by omega)
 replace q7:=Zz hw q7 rfl
 replace E:=Za E hw (fun h=>by first | exact absurd h (by omega) | simp)
 clear hw
 refine Z3 rfl rfl (Z8 (v:=.int .i64 _) rfl rfl) (by simp only [ls,lz];exact rfl) ?_
 refine wpList_nil ?_
 clear hT e1 e2
 go_upto_region 5 with (fail)
 refine wp_region_lit ?_
 refine ZC rfl rfl (by kernel_rfl) (Z1f 0 0 1 99 _) fun e w15 hR=>?_
 obtain ⟨rfl,e0⟩:=hR
 refine ⟨_,_,rfl,(by simp only [ls,lz];exact rfl),?_⟩
 replace q3:=(e0).keep0 q3
 replace q5:=(e0).keep0 q5
 replace q7:=(e0).keep0 q7
 replace E:=Z4 E (e0)
 refine Zy rfl rfl (ZE rfl Try.underlying25 (size:=4) (by kernel_rfl) (by decide) (by decide) Try.zeroValue66 (cells:=#[.int .i64 0,.int .i64 0,.int .i64 1,.int .i64 99]) (by kernel_rfl)) (by simp only [ls,lz];exact rfl) fun w16 hw=>?_
 obtain ⟨n36,hn⟩:∃ n,n = w15.heap.size:=⟨_,rfl⟩
 rw [← hn]
 have l36:w.heap.size ≤ n36:=by rw [hn];exact E.size
 have m36_3:n3 < n36:=by rw [hn];exact Z7 q3
 have m36_5:n5 < n36:=by rw [hn];exact Z7 q5
 have m36_7:n7 < n36:=by rw [hn];exact Z7 q7
 replace q3:=Z1 hw q3
 replace q5:=Z1 hw q5
 replace q7:=Z1 hw q7
 have q36:=Zw hw hn
 replace E:=Z2 E hw
 clear hw hn
 refine ZC rfl rfl (by kernel_rfl) (Z7E n36 _ q36) fun e w17 hR=>?_
 obtain ⟨gv,ra,rc,rfl,hT,-,e1⟩:=hR
 refine ⟨_,_,rfl,(by simp only [ls,lz];exact rfl),?_⟩
 replace q3:=(e1).keep0 q3
 replace q5:=(e1).keep0 q5
 replace q7:=(e1).keep0 q7
 replace q36:=(e1).keep0 q36
 replace E:=Z4 E (e1)
 refine ZC rfl rfl (by kernel_rfl) (HR.out _ _ _ _ hT) fun e w18 hR=>?_
 obtain ⟨la,lc,rfl,hrows,e2⟩:=hR
 refine ⟨_,_,rfl,(by simp only [ls,lz];exact rfl),?_⟩
 replace q3:=(e2).keep0 q3
 replace q5:=(e2).keep0 q5
 replace q7:=(e2).keep0 q7
 replace q36:=(e2).keep0 q36
 replace E:=Z4 E (e2)
 have E2:Ext [] w18 w18:=Ext.refl _ _
 refine Z3 rfl rfl (Zi (v:=.tuple _) rfl rfl) (by simp only [ls,lz];exact rfl) ?_
 refine Z3 rfl rfl (Zm rfl rfl (get0)) (by simp only [ls,lz];exact rfl) ?_
 refine Z3 rfl rfl (Zm rfl rfl (getS (get0))) (by simp only [ls,lz];exact rfl) ?_
 refine Z3 rfl rfl (Z8 (v:=.slice _ _ _) rfl rfl) (by simp only [ls,lz];exact rfl) ?_
 refine Z3 rfl rfl (Z8 (v:=.int .i64 _) rfl rfl) (by simp only [ls,lz];exact rfl) ?_
 refine wpList_nil ?_
 clear hT e1 e2 e0
 go_upto_region 6 with (fail)
 refine wp_region_lit ?_
 refine ZC rfl rfl (by kernel_rfl) (Z8m _) fun e w19 hR=>?_
 obtain ⟨gv,rfl,hT,e1⟩:=hR
 refine ⟨_,_,rfl,(by simp only [ls,lz];exact rfl),?_⟩
 replace q3:=(e1).keep0 q3
 replace q5:=(e1).keep0 q5
 replace q7:=(e1).keep0 q7
 replace q36:=(e1).keep0 q36
 replace E2:=Z4 E2 (e1)
 replace E:=Z4 E (e1)
 refine ZC rfl rfl (by kernel_rfl) (HN.out _ _ hT) fun e w20 hR=>?_
 obtain ⟨rfl,e2⟩:=hR
 refine ⟨_,_,rfl,(by simp only [ls,lz];exact rfl),?_⟩
 replace q3:=(e2).keep0 q3
 replace q5:=(e2).keep0 q5
 replace q7:=(e2).keep0 q7
 replace q36:=(e2).keep0 q36
 replace E2:=Z4 E2 (e2)
 replace E:=Z4 E (e2)
 refine Z3 rfl rfl (Zi (v:=.tuple _) rfl rfl) (by simp only [ls,lz];exact rfl) ?_
 refine Z3 rfl rfl (Zm rfl rfl (get0)) (by simp only [ls,lz];exact rfl) ?_
 refine Z3 rfl rfl (Zm rfl rfl (getS (get0))) (by simp only [ls,lz];exact rfl) ?_
 refine Z3 rfl rfl (Zm rfl rfl (getS (getS (get0)))) (by simp only [ls,lz];exact rfl) ?_
 refine Z3 rfl rfl (Z8 (v:=.int .i64 _) rfl rfl) (by simp only [ls,lz];exact rfl) ?_
 refine Z3 rfl rfl (Z8 (v:=.int .i64 _) rfl rfl) (by simp only [ls,lz];exact rfl) ?_
 refine Z3 rfl rfl (Z8 (v:=.int .i64 _) rfl rfl) (by simp only [ls,lz];exact rfl) ?_
 refine wpList_nil ?_
 clear hT e1 e2
 have hr2:=hrows.ext E2 (by simp)
 clear hrows
 have c3_0:=(Z0 q3 0).trans rfl
 have c3_1:=(Z0 q3 1).trans rfl
 have c5_0:=(Z0 q5 0).trans rfl
 have c5_1:=(Z0 q5 1).trans rfl
 have c7_0:=(Z0 q7 0).trans rfl
 have c7_1:=(Z0 q7 1).trans rfl
 go_wp2_with (go_at_call 50;refine (HS.out la _ lc 2 _ (hr2.ext ((Ext.refl [] _).alloc _) (by simp)) (Z2b [0,4] 2 (Z0V rfl))).mono ?_;clear HS;rintro e w' ⟨rfl,e5⟩)
 go_ret
 exact ⟨rfl,(E.alloc _).nil e5⟩
def Z4U (gs:List (Int × Int)):List Value:=(gs.map Z0K).flatten
theorem Z80 (gs:List (Int × Int)) (g:Int × Int):Z4U (gs ++ [g]) = Z4U gs ++ [.int .i64 g.1,.int .i64 g.2]:=by simp [Z4U,Z0K]
def Z37 (gs:List (Int × Int × Int × Int)):List Value:=(gs.map Z0B).flatten
theorem Z7V (gs:List (Int × Int × Int × Int)) (a b c d:Int):Z37 (gs ++ [(a,b,c,d)]) = Z37 gs ++ [.int .i64 a,.int .i64 b,.int .i64 c,.int .i64 d]:=by simp [Z37,Z0B]
def Z4z (gs:List (Int × Int × Int × Int × Int × Int)):List Value:=(gs.map Z0L).flatten
theorem Z82 (gs:List (Int × Int × Int × Int × Int × Int)) (a b c d e f:Int):Z4z (gs ++ [(a,b,c,d,e,f)]) = Z4z gs ++ [.int .i64 a,.int .i64 b,.int .i64 c,.int .i64 d,.int .i64 e,.int .i64 f]:=by simp [Z4z,Z0L]
def ivs (l:List Int):List Value:=l.map (Value.int .i64)
theorem Z5G (l:List Int) (x:Int):ivs (l ++ [x]) = ivs l ++ [.int .i64 x]:=by simp [ivs]
def Z2D (w:World) (base:Nat) (vs:List Value) (ls:List (List Int)):Prop:=
 vs.length = ls.length ∧ ∀ (i:Nat) (l:List Int),ls[i]? = some l → ∃ v,vs[i]? = some v ∧ w.ownsRow base 3 1 v l.length (ivs l)
theorem Z9q (w:World) (base:Nat):Z2D w base [] []:=⟨rfl,fun i l h=>by simp at h⟩
theorem Z0r {w w':World} {base:Nat} {vs:List Value} {ls:List (List Int)} (h:Z2D w base vs ls) (k:∀ v n xs,w.ownsRow base 3 1 v n xs → w'.ownsRow base 3 1 v n xs):Z2D w' base vs ls:=
 ⟨h.1,fun i l hi=>by
  obtain ⟨v,h1,h2⟩:=h.2 i l hi
  exact ⟨v,h1,k _ _ _ h2⟩⟩
theorem Z7P {w:World} {base:Nat} {vs:List Value} {ls:List (List Int)} (h:Z2D w base vs ls) {v:Value} {l:List Int} (hv:w.ownsRow base 3 1 v l.length (ivs l)):Z2D w base (vs ++ [v]) (ls ++ [l]):=by
 refine ⟨by simp [h.1],fun i q hq=>?_⟩
 by_cases hi:i < ls.length
 ·rw [List.getElem?_append_left hi] at hq
  obtain ⟨v',h1,h2⟩:=h.2 i q hq
  exact ⟨v',by rw [List.getElem?_append_left (by rw [h.1];exact hi)];exact h1,h2⟩
 ·have hil:i = ls.length:=by
   have:=(List.getElem?_eq_some_iff.1 hq).1
   simp at this
   omega
  subst hil
  simp at hq
  subst hq
  exact ⟨v,by rw [← h.1];simp,hv⟩
theorem ZH {w:World} {base base':Nat} {e:TypeId} {sz:Nat} {v:Value} {n:Nat} {xs:List Value} (h:w.ownsRow base e sz v n xs) (hb:base' ≤ base):w.ownsRow base' e sz v n xs:=by
 refine ⟨h.1,?_⟩
 rcases h.2 with h | ⟨g,cap,cur,h1,h2,h3,h4⟩
 ·exact .inl h
 ·exact .inr ⟨g,cap,cur,h1,Nat.le_trans hb h2,h3,h4⟩
theorem Z6G {w:World} {base base':Nat} {vs:List Value} {ls:List (List Int)} (h:Z2D w base vs ls) (hb:base' ≤ base):Z2D w base' vs ls:=
 ⟨h.1,fun i l hi=>by
  obtain ⟨v,h1,h2⟩:=h.2 i l hi
  exact ⟨v,h1,ZH h2 hb⟩⟩
theorem Z46 {w:World} {base n vc:Nat} {va:Option Addr} {vs:List Value} {ls:List (List Int)} (om:w.ownsRow base 29 1 (.slice va n vc) n vs) (hl:Z2D w base vs ls) {s a:Nat} (hs:s < ls.length) (ha:a < (ls.getD s []).length) :
  ∃ bo br c,va = some ⟨bo,0,none⟩ ∧ (∀ (X:List Nat) (W:World),(∀ x ∈ X,x < base) → Ext X w W → W.cell? ⟨bo,0 + s * 1,none⟩ = some (.slice (some ⟨br,0,none⟩) (ls.getD s []).length c) ∧ W.cell? ⟨br,0 + a * 1,none⟩ = some (.int .i64 ((ls.getD s []).getD a 0))):=by
 have e:ls[s]? = some (ls.getD s []):=by simp [hs]
 obtain ⟨v,hv,hvo⟩:=hl.2 s _ e
 generalize ls.getD s [] = row at ha hvo e ⊢
 rcases om.2 with ⟨h1,h2⟩ | ⟨g,cap,cur,h1,hb,hg,h3,h4,h5,h6⟩
 ·have:=om.1;rw [h2] at this
  have h0:vs = []:=List.length_eq_zero_iff.1 (by omega)
  rw [h0] at hv;simp at hv
 ·rcases hvo.2 with ⟨q1,q2⟩ | ⟨g2,cap2,cur2,q1,qb,qg,q3,q4,q5,q6⟩
  ·omega
  ·subst q1
   have hva:va = some ⟨g,0,none⟩:=by cases h1;rfl
   refine ⟨g,g2,cap2,hva,fun X W hX E=>⟨?_,?_⟩⟩
   ·rw [E.cell (a:=⟨g,0 + s * 1,none⟩) (Z7 hg) (fun hm=>by have:=hX g hm;omega),Z0 hg,Nat.zero_add,Nat.mul_one]
    have hlen:s < n * 1:=by rw [← om.1];exact (List.getElem?_eq_some_iff.1 hv).1
    have:=congrArg (fun l=>l[s]?) h6
    simp only [List.getElem?_take] at this
    rw [if_pos hlen] at this
    rw [← Array.getElem?_toList,this,hv]
   ·rw [E.cell (a:=⟨g2,0 + a * 1,none⟩) (Z7 qg) (fun hm=>by have:=hX g2 hm;omega),Z0 qg,Nat.zero_add,Nat.mul_one]
    have:=congrArg (fun l=>l[a]?) q6
    simp only [List.getElem?_take] at this
    rw [if_pos (by omega)] at this
    rw [← Array.getElem?_toList,this]
    simp [ivs,ha]
theorem Z9s {w:World} {base n vc:Nat} {va:Option Addr} {l:List Int} (om:w.ownsRow base 3 1 (.slice va n vc) n (ivs l)) {a:Nat} (ha:a < l.length) :
  ∃ bo,va = some ⟨bo,0,none⟩ ∧ (∀ (X:List Nat) (W:World),(∀ x ∈ X,x < base) → Ext X w W → W.cell? ⟨bo,0 + a * 1,none⟩ = some (.int .i64 (l.getD a 0))):=by
 have hn:=om.1
 simp only [ivs,List.length_map] at hn
 rcases om.2 with ⟨h1,h2⟩ | ⟨g,cap,cur,h1,hb,hg,h3,h4,h5,h6⟩
 ·omega
 ·have hva:va = some ⟨g,0,none⟩:=by cases h1;rfl
  refine ⟨g,hva,fun X W hX E=>?_⟩
  rw [E.cell (a:=⟨g,0 + a * 1,none⟩) (Z7 hg) (fun hm=>by have:=hX g hm;omega),Z0 hg,Nat.zero_add,Nat.mul_one]
  have:=congrArg (fun l=>l[a]?) h6
  simp only [List.getElem?_take] at this
  rw [if_pos (by omega)] at this
  rw [← Array.getElem?_toList,this]
  simp [ivs,ha]
structure RowSo (bl bm:Int) (r:List Int) (lo hi cur:Int):Prop where
 b:∀ x ∈ r,bl ≤ x ∧ x ≤ bm
 c1:bl ≤ cur
 c2:cur ≤ bm
 last:∀ i,i + 1 = r.length → r.getD i 0 = cur
 d:∀ i,i + 1 < r.length → lo ≤ r.getD (i + 1) 0 - r.getD i 0 ∧ r.getD (i + 1) 0 - r.getD i 0 ≤ hi
 one:r.length ≤ 1 → lo = 20 ∧ hi = -20
 two:2 ≤ r.length → -4 ≤ lo ∧ lo ≤ hi ∧ hi ≤ 4
theorem RowSo.near {bl bm lo hi cur:Int} {r:List Int} (h:RowSo bl bm r lo hi cur):-20 ≤ lo ∧ lo ≤ 20 ∧ -20 ≤ hi ∧ hi ≤ 20:=by
 by_cases c:r.length ≤ 1
 ·have:=h.one c;omega
 ·have:=h.two (by omega);omega
theorem RowSo.nil {bl bm cur:Int} (h1:bl ≤ cur) (h2:cur ≤ bm):RowSo bl bm [] 20 (-20) cur:=
 ⟨fun x h=>by simp at h,h1,h2,fun i h=>by simp at h,fun i h=>by simp at h,fun _=>⟨rfl,rfl⟩,fun h=>by simp at h⟩
theorem RowSo.one' {bl bm cur:Int} {r:List Int} (h:RowSo bl bm r 20 (-20) cur) (h0:r.length = 0):RowSo bl bm (r ++ [cur]) 20 (-20) cur:=by
 have hr:r = []:=List.length_eq_zero_iff.1 h0
 subst hr
 exact ⟨fun x hx=>by simp at hx;subst hx;exact ⟨h.c1,h.c2⟩,h.c1,h.c2,fun i hi=>by simp at hi;subst hi;rfl,fun i hi=>by simp at hi,fun _=>⟨rfl,rfl⟩,fun hh=>by simp at hh⟩
theorem RowSo.more {bl bm lo hi cur nx:Int} {r:List Int} (h:RowSo bl bm r lo hi cur) (h0:0 < r.length) (h1:bl ≤ nx) (h2:nx ≤ bm) (h3:-4 ≤ nx - cur) (h4:nx - cur ≤ 4):RowSo bl bm (r ++ [nx]) (min lo (nx - cur)) (max hi (nx - cur)) nx:=by
 refine ⟨fun x hx=>?_,h1,h2,fun i hi=>?_,fun i hi=>?_,fun hh=>?_,fun hh=>?_⟩
 ·rcases List.mem_append.1 hx with hx | hx
  ·exact h.b x hx
  ·simp at hx;subst hx;exact ⟨h1,h2⟩
 ·have:i = r.length:=by simp at hi;omega
  subst this
  simp
 ·have hl:i + 1 ≤ r.length:=by simp at hi;omega
  by_cases hc:i + 1 < r.length
  ·have:=h.d i hc
   have e1:(r ++ [nx]).getD (i + 1) 0 = r.getD (i + 1) 0:=by simp [List.getElem?_append_left hc]
   have e2:(r ++ [nx]).getD i 0 = r.getD i 0:=by simp [List.getElem?_append_left (show i < r.length by omega)]
   rw [e1,e2]
   omega
  ·have hil:i + 1 = r.length:=by omega
   have e1:(r ++ [nx]).getD (i + 1) 0 = nx:=by rw [hil];simp
   have e2:(r ++ [nx]).getD i 0 = cur:=by
    rw [← h.last i hil]
    simp [List.getElem?_append_left (show i < r.length by omega)]
   rw [e1,e2]
   omega
 ·rw [List.length_append,List.length_singleton] at hh;omega
 ·by_cases hc:r.length ≤ 1
  ·have:=h.one hc;omega
  ·have:=h.two (by omega);omega
structure RowOk (bl bm A:Int) (r:List Int) (g:Int × Int):Prop where
 len:(r.length:Int) = A
 b:∀ x ∈ r,bl ≤ x ∧ x ≤ bm
 d:∀ i,i + 1 < r.length → g.1 ≤ r.getD (i + 1) 0 - r.getD i 0 ∧ r.getD (i + 1) 0 - r.getD i 0 ≤ g.2
 g1:-20 ≤ g.1
 g2:g.1 ≤ g.2
 g3:g.2 ≤ 20
theorem RowSo.done {bl bm A lo hi cur lo' hi' u v:Int} {r:List Int} (h:RowSo bl bm r lo hi cur) (hl:(r.length:Int) = A) (hA:1 ≤ A) (h1:A = 1 → lo' = 0 ∧ hi' = 0) (h2:A ≠ 1 → lo' = lo ∧ hi' = hi) (hu:0 ≤ u) (hv:0 ≤ v) (hu5:u ≤ 5) (hv5:v ≤ 5):RowOk bl bm A r (max (-20) (lo' - u),min 20 (hi' + v)):=by
 by_cases c:A = 1
 ·have:=h1 c
  exact ⟨hl,h.b,fun i hi=>by omega,by simp;omega,by simp;omega,by simp;omega⟩
 ·have e:=h2 c
  have t:=h.two (by omega)
  refine ⟨hl,h.b,fun i hi=>?_,by simp;omega,by simp;omega,by simp;omega⟩
  have:=h.d i hi
  simp only
  omega
structure RowsOk (bl bm A:Int) (ms:List (List Int)) (gs:List (Int × Int)):Prop where
 len:ms.length = gs.length
 row:∀ (i:Nat) (r:List Int),ms[i]? = some r → RowOk bl bm A r (gs.getD i (0,0))
theorem RowsOk.nil {bl bm A:Int}:RowsOk bl bm A [] []:=⟨rfl,fun i r h=>by simp at h⟩
theorem RowsOk.snoc {bl bm A:Int} {ms:List (List Int)} {gs:List (Int × Int)} (h:RowsOk bl bm A ms gs) {r:List Int} {g:Int × Int} (hr:RowOk bl bm A r g):RowsOk bl bm A (ms ++ [r]) (gs ++ [g]):=by
 refine ⟨by simp [h.len],fun i q hq=>?_⟩
 by_cases hi:i < ms.length
 ·rw [List.getElem?_append_left hi] at hq
  have:=h.row i q hq
  have e:(gs ++ [g]).getD i (0,0) = gs.getD i (0,0):=by simp [List.getElem?_append_left (show i < gs.length by rw [← h.len];exact hi)]
  rw [e];exact this
 ·have hil:i = ms.length:=by
   have:=(List.getElem?_eq_some_iff.1 hq).1
   simp at this
   omega
  subst hil
  simp at hq
  subst hq
  have e:(gs ++ [g]).getD ms.length (0,0) = g:=by rw [h.len];simp
  rw [e];exact hr
def mkX (ms:List (List Int)) (ps:List Int):Nat → Int:=fun i =>
 if i = 0 then 0 else if i < 10 then (ms.getD ((i - 1) / 3) []).getD ((i - 1) % 3) 0 else -(ps.getD (i - 10) 0)
theorem Z9Z (ms:List (List Int)) (ps:List Int):mkX ms ps 0 = 0:=rfl
theorem Z8e (ms:List (List Int)) (ps:List Int) {s a:Nat} (hs:s < 3) (ha:a < 3):mkX ms ps (ZO s a) = (ms.getD s []).getD a 0:=by
 unfold mkX ZO
 rw [if_neg (by omega),if_pos (by omega),show ((1 + (s:Int) * 3 + a).toNat - 1) / 3 = s by omega,show ((1 + (s:Int) * 3 + a).toNat - 1) % 3 = a by omega]
theorem Zb3 (ms:List (List Int)) (ps:List Int) {i:Nat} (hi:i < 3):mkX ms ps (Z0q i) = -(ps.getD i 0):=by
 unfold mkX Z0q
 rw [if_neg (by omega),if_neg (by omega),show (10 + (i:Int)).toNat - 10 = i by omega]
structure RdOk (S A T sl:Int) (ms:List (List Int)) (ps:List Int) (r:Int × Int × Int × Int):Prop where
 s0:0 ≤ r.1
 s1:r.1 < S
 a0:0 ≤ r.2.1
 a1:r.2.1 < A
 t0:0 ≤ r.2.2.1
 t1:r.2.2.1 < T
 lo:(ms.getD r.1.toNat []).getD r.2.1.toNat 0 + ps.getD r.2.2.1.toNat 0 - sl ≤ r.2.2.2
 hi:r.2.2.2 ≤ (ms.getD r.1.toNat []).getD r.2.1.toNat 0 + ps.getD r.2.2.1.toNat 0 + sl
structure LkOk (S A:Int) (ms:List (List Int)) (l:Int × Int × Int × Int × Int × Int):Prop where
 s0:0 ≤ l.1
 s1:l.1 < S
 a0:0 ≤ l.2.1
 a1:l.2.1 < A
 o0:0 ≤ l.2.2.1
 o1:l.2.2.1 < S
 h0:0 ≤ l.2.2.2.1
 h1:l.2.2.2.1 < A
 ne:¬ (l.1 = l.2.2.1 ∧ l.2.1 = l.2.2.2.1)
 lo:l.2.2.2.2.1 ≤ (ms.getD l.1.toNat []).getD l.2.1.toNat 0 - (ms.getD l.2.2.1.toNat []).getD l.2.2.2.1.toNat 0
 lo3:(ms.getD l.1.toNat []).getD l.2.1.toNat 0 - (ms.getD l.2.2.1.toNat []).getD l.2.2.2.1.toNat 0 - 3 ≤ l.2.2.2.2.1
 hi:(ms.getD l.1.toNat []).getD l.2.1.toNat 0 - (ms.getD l.2.2.1.toNat []).getD l.2.2.2.1.toNat 0 ≤ l.2.2.2.2.2
 hi3:l.2.2.2.2.2 ≤ (ms.getD l.1.toNat []).getD l.2.1.toNat 0 - (ms.getD l.2.2.1.toNat []).getD l.2.2.2.1.toNat 0 + 3
structure Made (t:Tp) (ms:List (List Int)) (ps:List Int):Prop where
 S1:1 ≤ t.S
 S3:t.S ≤ 3
 A1:1 ≤ t.A
 A3:t.A ≤ 3
 T1:1 ≤ t.T
 T3:t.T ≤ 3
 bl1:60 ≤ t.bl
 bl2:t.bl ≤ 100
 b:t.bl ≤ t.bm
 bm1:t.bm ≤ t.bl + 60
 pl1:-3 ≤ t.pl
 pl2:t.pl ≤ 0
 pm1:0 ≤ t.pm
 pm2:t.pm ≤ 3
 sl0:0 ≤ t.sl
 sl2:t.sl ≤ 2
 grl:(t.gr.length:Int) = t.S
 rows:RowsOk t.bl t.bm t.A ms t.gr
 psl:(ps.length:Int) = t.T
 pls:∀ p ∈ ps,t.pl ≤ p ∧ p ≤ t.pm
 rdl:t.rd.length ≤ 5
 rd:∀ r ∈ t.rd,RdOk t.S t.A t.T t.sl ms ps r
 lkl:t.lk.length ≤ 2
 lk:∀ l ∈ t.lk,LkOk t.S t.A ms l
theorem RowsOk.at {bl bm A:Int} {ms:List (List Int)} {gs:List (Int × Int)} (h:RowsOk bl bm A ms gs) {s a:Nat} (hs:s < gs.length) (ha:(a:Int) < A):RowOk bl bm A (ms.getD s []) (gs.getD s (0,0)) ∧ bl ≤ (ms.getD s []).getD a 0 ∧ (ms.getD s []).getD a 0 ≤ bm:=by
 have hs':s < ms.length:=by rw [h.len];exact hs
 have e:ms[s]? = some (ms.getD s []):=by simp [hs']
 have r:=h.row s _ e
 refine ⟨r,?_⟩
 have hl:=r.len
 generalize ms.getD s [] = row at r hl ⊢
 exact r.b _ (Z0m _ (by omega))
theorem Made.meas {t:Tp} {ms:List (List Int)} {ps:List Int} (h:Made t ms ps) {s a:Int} (hs0:0 ≤ s) (hs:s < t.S) (ha0:0 ≤ a) (ha:a < t.A):t.bl ≤ (ms.getD s.toNat []).getD a.toNat 0 ∧ (ms.getD s.toNat []).getD a.toNat 0 ≤ t.bm:=
 (h.rows.at (s:=s.toNat) (a:=a.toNat) (by have:=h.grl;omega) (by omega)).2
theorem Made.pull {t:Tp} {ms:List (List Int)} {ps:List Int} (h:Made t ms ps) {i:Int} (h0:0 ≤ i) (hi:i < t.T):t.pl ≤ ps.getD i.toNat 0 ∧ ps.getD i.toNat 0 ≤ t.pm:=
 h.pls _ (Z0m _ (by have:=h.psl;omega))
theorem Made.ok {t:Tp} {ms:List (List Int)} {ps:List Int} (h:Made t ms ps):t.Ok:=by
 obtain ⟨S1,S3,A1,A3,T1,T3,bl1,bl2,b,bm1,pl1,pl2,pm1,pm2,sl0,sl2,grl,rows,psl,hps,rdl,rd,lkl,lk⟩:=h
 have H:Made t ms ps:=⟨S1,S3,A1,A3,T1,T3,bl1,bl2,b,bm1,pl1,pl2,pm1,pm2,sl0,sl2,grl,rows,psl,hps,rdl,rd,lkl,lk⟩
 refine ⟨S1,S3,A1,A3,T1,T3,by omega,by omega,b,by omega,by omega,by omega,sl0,by omega,grl,fun g hg=>?_,by omega,fun r hr=>?_,by omega,fun l hl=>?_⟩
 ·obtain ⟨i,hi,rfl⟩:=List.getElem_of_mem hg
  have r:=(rows.at (s:=i) (a:=0) hi (by omega)).1
  have e:t.gr.getD i (0,0) = t.gr[i]:=by simp [hi]
  rw [e] at r
  exact ⟨r.g1,r.g3,r.g2⟩
 ·have q:=rd r hr
  have m:=H.meas q.s0 q.s1 q.a0 q.a1
  have p:=H.pull q.t0 q.t1
  have l:=q.lo
  have u:=q.hi
  exact ⟨q.s0,q.s1,q.a0,q.a1,q.t0,q.t1,by omega,by omega⟩
 ·have q:=lk l hl
  have m:=H.meas q.s0 q.s1 q.a0 q.a1
  have m2:=H.meas q.o0 q.o1 q.h0 q.h1
  have c1:=q.lo
  have c2:=q.lo3
  have c3:=q.hi
  have c4:=q.hi3
  exact ⟨q.s0,q.s1,q.a0,q.a1,q.o0,q.o1,q.h0,q.h1,q.ne,by omega,by omega,by omega⟩
theorem Made.tr {t:Tp} {ms:List (List Int)} {ps:List Int} (h:Made t ms ps) (out:Int):Tr t out (mkX ms ps):=by
 have o1:=h.S3
 have o2:=h.A3
 have o3:=h.T3
 have o4:=h.grl
 refine ⟨fun s a hs ha=>?_,fun i hi=>?_,fun i hi hb=>?_,fun i hi=>?_⟩
 ·obtain ⟨r,r1,r2⟩:=h.rows.at (s:=s) (a:=a) (by omega) ha
  have e1:=Z8e ms ps (s:=s) (a:=a) (by omega) (by omega)
  refine ⟨by rw [e1,Z9Z];omega,by rw [e1,Z9Z];omega,fun h0=>?_,fun h0=>?_⟩
  all_goals
   have e2:=Z8e ms ps (s:=s) (a:=a - 1) (by omega) (by omega)
   rw [show ((a - 1:Nat):Int) = (a:Int) - 1 by omega] at e2
   rw [e1,e2]
   have d:=r.d (a - 1) (by have:=r.len;omega)
   rw [show a - 1 + 1 = a by omega] at d
   first | exact d.1 | exact d.2
 ·have p:=h.pull (i:=i) (by omega) hi
  have e1:=Zb3 ms ps (i:=i) (by omega)
  rw [Int.toNat_natCast] at p
  exact ⟨by rw [e1,Z9Z];omega,by rw [e1,Z9Z];omega⟩
 ·have q:=h.rd _ (Z0m (0,0,0,0) hi)
  generalize t.rd.getD i (0,0,0,0) = r at q ⊢
  obtain ⟨r1,r2,r3,r4⟩:=r
  have hs0:=q.s0;have hs1:=q.s1;have ha0:=q.a0;have ha1:=q.a1;have ht0:=q.t0;have ht1:=q.t1;have l:=q.lo;have u:=q.hi
  simp only at hs0 hs1 ha0 ha1 ht0 ht1 l u
  obtain ⟨r1,rfl⟩:=Int.eq_ofNat_of_zero_le hs0
  obtain ⟨r2,rfl⟩:=Int.eq_ofNat_of_zero_le ha0
  obtain ⟨r3,rfl⟩:=Int.eq_ofNat_of_zero_le ht0
  have e1:=Z8e ms ps (s:=r1) (a:=r2) (by omega) (by omega)
  have e2:=Zb3 ms ps (i:=r3) (by omega)
  rw [Int.toNat_natCast,Int.toNat_natCast,Int.toNat_natCast] at l u
  exact ⟨by show _ ≤ mkX ms ps (ZO r1 r2) - mkX ms ps (Z0q r3);rw [e1,e2];show r4 - t.sl ≤ _;omega,by show mkX ms ps (ZO r1 r2) - mkX ms ps (Z0q r3) ≤ _;rw [e1,e2];show _ ≤ r4 + t.sl;omega⟩
 ·have q:=h.lk _ (Z0m (0,0,0,0,0,0) hi)
  generalize t.lk.getD i (0,0,0,0,0,0) = r at q ⊢
  obtain ⟨r1,r2,r3,r4,r5,r6⟩:=r
  have hs0:=q.s0;have hs1:=q.s1;have ha0:=q.a0;have ha1:=q.a1;have ho0:=q.o0;have ho1:=q.o1;have hh0:=q.h0;have hh1:=q.h1;have l:=q.lo;have u:=q.hi
  simp only at hs0 hs1 ha0 ha1 ho0 ho1 hh0 hh1 l u
  obtain ⟨r1,rfl⟩:=Int.eq_ofNat_of_zero_le hs0
  obtain ⟨r2,rfl⟩:=Int.eq_ofNat_of_zero_le ha0
  obtain ⟨r3,rfl⟩:=Int.eq_ofNat_of_zero_le ho0
  obtain ⟨r4,rfl⟩:=Int.eq_ofNat_of_zero_le hh0
  have e1:=Z8e ms ps (s:=r1) (a:=r2) (by omega) (by omega)
  have e2:=Z8e ms ps (s:=r3) (a:=r4) (by omega) (by omega)
  simp only [Int.toNat_natCast] at l u
  exact ⟨by show _ ≤ mkX ms ps (ZO r1 r2) - mkX ms ps (ZO r3 r4);rw [e1,e2];exact l,by show mkX ms ps (ZO r1 r2) - mkX ms ps (ZO r3 r4) ≤ _;rw [e1,e2];exact u⟩
theorem ZaG {P:Program} {fn:Func} {tmps:Array Value} {w:World} {t s s2:Tmp} {ty:TypeId} {b:Nat} {cs:Array Value} {T:TypeId} {d:TypeDesc} {fz:Nat × Nat} {v v2:Value} (hr:fn.results = #[.cell t ty,.tmp s,.tmp s2]) (ht:tmps.getD t undef = .pointer (some ⟨b,0,none⟩)) (hd:P.underlying ty = some d) (ha:d.isRow = true) (hi:(P.info? ty).map (·.size) = some cs.size) (H:w.heap[b]? = some (.cells cs T fz))
  (hv:tmps.getD s undef = v) (hv2:tmps.getD s2 undef = v2):(results fn tmps).run P w = .ok (.tuple #[.agg cs,v,v2]) w:=by
 have hl:=Z2e (P:=P) hd ha hi H
 have ht':tmps[t]?.getD undef = .pointer (some ⟨b,0,none⟩):=by simpa using ht
 have hv':tmps[s]?.getD undef = v:=by simpa using hv
 have hv2':tmps[s2]?.getD undef = v2:=by simpa using hv2
 simp [results,hr,ht',hv',hv2',asAddr,hl,Result.andThen]
def Z8G (w0 w:World) (b k:Nat) (nv:Value) (S0 A0 wd:Int) (e:Ending) (w':World):Prop:=
 ∃ (t:Tp) (ms:List (List Int)) (ps:List Int) (vs:List Value) (gv rv lv mv pv:Value),e = .returned (.tuple #[tpV t gv rv lv,mv,pv]) ∧ Made t ms ps ∧ t.S ≤ S0 ∧ t.A ≤ A0 ∧ t.bm = t.bl + wd ∧
  w'.ownsRow w.heap.size 23 2 gv t.gr.length (Z4U t.gr) ∧ w'.ownsRow w.heap.size 66 4 rv t.rd.length (Z37 t.rd) ∧ w'.ownsRow w.heap.size 75 6 lv t.lk.length (Z4z t.lk) ∧
  w'.ownsRow w.heap.size 29 1 mv ms.length vs ∧ Z2D w' w.heap.size vs ms ∧ w'.ownsRow w.heap.size 3 1 pv ps.length (ivs ps) ∧ Z0v w0 w' b (k + 100) nv ∧ Ext [b] w w'
theorem Z7b {t:Tp} (ok:t.Ok) (h:t.rd.length ≤ 8):Z08 t = 0:=Z0x.2 ⟨ok,h⟩
theorem Z88 {t:Tp} (hc:Z08 t = 0) {xs:Nat → List Int} (h:∀ i,i < 3 → ∀ n ∈ xs i,0 ≤ n ∧ n < lim t i):Z1o t xs = 0:=by
 refine Z4L hc (Z1h.2 fun e he=>?_)
 obtain ⟨i,hi,rfl⟩:=List.mem_map.1 he
 refine Z1h.2 fun e he=>?_
 obtain ⟨n,hn,rfl⟩:=List.mem_map.1 he
 exact Z1S.2 (h i (List.mem_range.1 hi) n hn)
theorem Z9o {t:Tp} {x y z:List Int} (h0:∀ n ∈ x,0 ≤ n ∧ n < t.S) (h1:∀ n ∈ y,0 ≤ n ∧ n < t.A) (h2:∀ n ∈ z,0 ≤ n ∧ n < t.T):∀ i,i < 3 → ∀ n ∈ sel3 x y z i,0 ≤ n ∧ n < lim t i:=by
 intro i hi n hn
 rcases i with _ | _ | _ | i
 ·exact h0 n hn
 ·exact h1 n hn
 ·exact h2 n hn
 ·omega
structure Tp.Live (t:Tp):Prop where
 ok:t.Ok
 rd8:t.rd.length ≤ 8
 tr:∃ x,Tr t 0 x
theorem Tp.Live.check {t:Tp} (h:t.Live):Z08 t = 0:=Z7b h.ok h.rd8
theorem Tp.Live.some {t:Tp} (h:t.Live):∃ y,kTo (Z0D t 0) 13 = some y:=by
 obtain ⟨x,hx⟩:=h.tr
 exact Z1N h.ok hx
theorem Tp.Live.bdB {t:Tp} (h:t.Live):bdB t 0 = true:=by
 obtain ⟨y,hy⟩:=h.some
 exact Z3m hy
theorem Tp.Live.solved {t:Tp} (h:t.Live) {x y z:List Int} (h0:∀ n ∈ x,0 ≤ n ∧ n < t.S) (h1:∀ n ∈ y,0 ≤ n ∧ n < t.A) (h2:∀ n ∈ z,0 ≤ n ∧ n < t.T):Z0j t (sel3 x y z) = 0:=
 Z33 (Z88 h.check (Z9o h0 h1 h2)) h.bdB
theorem Tp.Live.meas {t:Tp} (h:t.Live) {s a:Int} (hs0:0 ≤ s) (hs:s < t.S) (ha0:0 ≤ a) (ha:a < t.A):Z3p t s a = 0 ∧ Z5Z t s a = (-(bdV t 0 (ZO s a) 0),bdV t 0 0 (ZO s a)):=by
 have e:Z3p t s a = 0:=h.solved (by simp;omega) (by simp;omega) (by simp)
 exact ⟨e,by rw [Z5Z,if_pos e]⟩
theorem Tp.Live.pull {t:Tp} (h:t.Live) {i:Int} (h0:0 ≤ i) (hi:i < t.T):Z5x t i = 0 ∧ Z5W t i = (-(bdV t 0 0 (Z0q i)),bdV t 0 (Z0q i) 0):=by
 have e:Z5x t i = 0:=h.solved (by simp) (by simp) (by simp;omega)
 exact ⟨e,by rw [Z5W,if_pos e]⟩
theorem Tp.Live.apart {t:Tp} (h:t.Live) {s a o b:Int} (hs0:0 ≤ s) (hs:s < t.S) (ha0:0 ≤ a) (ha:a < t.A) (ho0:0 ≤ o) (ho:o < t.S) (hb0:0 ≤ b) (hb:b < t.A) :
  Z3M t s a o b = 0 ∧ Z4f t s a o b = (-(bdV t 0 (ZO s a) (ZO o b)),bdV t 0 (ZO o b) (ZO s a)):=by
 have e:Z3M t s a o b = 0:=h.solved (by simp;omega) (by simp;omega) (by simp)
 exact ⟨e,by rw [Z4f,if_pos e]⟩
theorem Tp.Live.near {t:Tp} (h:t.Live) {i j:Nat} (hi:live t i) (hj:live t j):-2000 ≤ bdV t 0 i j ∧ bdV t 0 i j ≤ 2000:=by
 obtain ⟨y,hy⟩:=h.some
 rw [Z3c hy]
 obtain ⟨r1,r2⟩:=Z2S h.ok hy (Z2U h.ok hi)
 have a:=r1.near h.ok hj
 have b:=r1.near h.ok hi
 try simp only at a b
 omega
theorem Z3U {w:World} {b1 b2 b3:Nat} {t:Tp} {gv rv lv:Value} (og:w.ownsRow b1 23 2 gv t.gr.length (Z4U t.gr)) (orr:w.ownsRow b2 66 4 rv t.rd.length (Z37 t.rd)) (olk:w.ownsRow b3 75 6 lv t.lk.length (Z4z t.lk)):IsTp w gv rv lv t:=
 ⟨Z13 (row:=Z0K) og (fun _=>rfl),Z13 (row:=Z0B) orr (fun _=>rfl),Z13 (row:=Z0L) olk (fun _=>rfl)⟩
theorem Z5o {w:World} {a:Option Addr} {n c:Nat} {zs:List Int} (h:Z62 .i64 w a n c zs):∃ xs:List Int,xs.length = n ∧ Z0E w (.slice a n c) 1 (xs.map Z0Q):=by
 rcases h with ⟨rfl,rfl,rfl,rfl⟩ | ⟨x,rfl,hl,hm,hz,hc,hw⟩
 ·exact ⟨[],rfl,Z0M _ _ _⟩
 ·have hlen:(zs.take n).length = n:=by rw [List.length_take];omega
  refine ⟨zs.take n,hlen,some x,c,by rw [List.length_map,hlen],fun r hr=>?_,fun hne=>?_⟩
  ·obtain ⟨y,-,rfl⟩:=List.mem_map.1 hr;rfl
  ·have hn:0 < n:=by
    rcases Nat.eq_zero_or_pos n with h | h
    ·subst h;simp at hne
    ·exact h
   obtain ⟨b,off,sp⟩:=x
   have h0:=hc 0 (by omega)
   have hsp:sp = none:=by
    cases sp with
    | none=>rfl
    | some k =>
     simp only [World.cell?,Addr.add] at h0
     split at h0 <;> simp at h0
   subst hsp
   refine ⟨b,off,rfl,World.block_lt_of_cell? w _ h0,fun i j r hi hj=>?_⟩
   have hil:i < n:=by
    have:=(List.getElem?_eq_some_iff.1 hi).1
    rw [List.length_map,hlen] at this;exact this
   obtain rfl:j = 0:=by omega
   have hci:=hc i (by omega)
   rw [Addr.add_lit] at hci
   rw [Nat.mul_one,Nat.add_zero,hci]
   rw [List.getElem?_map,List.getElem?_take_of_lt hil] at hi
   cases hz':zs[i]? with
   | none=>rw [hz'] at hi;simp at hi
   | some v =>
    rw [hz'] at hi
    simp only [Option.map_some,Option.some.injEq] at hi
    subst hi
    simp [Z0Q,List.getD,hz']
end Go.Proofs.Ytholfdgebdlgjaa
