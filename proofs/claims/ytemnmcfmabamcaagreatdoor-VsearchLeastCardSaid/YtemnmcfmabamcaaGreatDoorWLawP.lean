import Derived.Test.YtemnmcfmabamcaaGreatDoorWLaw7
set_option linter.unusedSimpArgs false
set_option linter.unusedVariables false
namespace Go.Proofs.YtemnmcfmabamcaaGreatDoor.L
def dgV (v:Int):List UInt8:=let n:=v.toNat;if n < 10 then [UInt8.ofNat (48+n)] else if n < 100 then [UInt8.ofNat (48+n / 10),UInt8.ofNat (48+n % 10)] else [UInt8.ofNat (48+n / 100),UInt8.ofNat (48+n / 10 % 10),UInt8.ofNat (48+n % 10)]
def prT:Tr→List UInt8
 | .leaf v=>dgV v
 | .node l r=>[40]++prT l++[32]++prT r++[41]
structure PSt where
 t:List VN
 op:List Nat
 nu:Nat
def digB (c:UInt8):Bool:=decide (48≤c.toNat) && decide (c.toNat≤57)
def endB (r:List UInt8):Bool:=match r with
 | []=>true
 | c :: _=>!digB c
def pStep (c:UInt8) (r:List UInt8) (s:PSt):Option PSt :=
 if digB c = true∧s.nu < 1000 then
  if endB r = true then some ⟨s.t++[⟨-1,-1,((10 * s.nu+(c.toNat - 48):Nat):Int)⟩],s.op++[s.t.length],0⟩
  else some ⟨s.t,s.op,10 * s.nu+(c.toNat - 48)⟩
 else if c = 41 then
  if s.op.length < 2 then none
  else some ⟨s.t++[⟨(s.op.getD (s.op.length - 2) 0:Nat),(s.op.getD (s.op.length - 1) 0:Nat),0⟩],s.op.take (s.op.length - 2)++[s.t.length],s.nu⟩
 else if c = 40∨c = 32 then some s else none
def pRun:List UInt8→PSt→Option PSt
 | [],s=>some s
 | c :: r,s=>(pStep c r s).bind (pRun r)
theorem dg_all:(List.range 129).all (fun n=>n == 0 || (match dgV (n:Int) with
 | [a]=>digB a && a.toNat - 48 == n
 | [a,b]=>digB a && digB b && 10 * (a.toNat - 48)+(b.toNat - 48) == n
 | [a,b,c]=>digB a && digB b && digB c && 10 * (10 * (a.toNat - 48)+(b.toNat - 48))+(c.toNat - 48) == n
 | _=>false)) = true:=by decide +kernel
theorem pRun_leaf (v:Int) (hv:1≤v∧v≤128) (t:List VN) (op:List Nat) (r:List UInt8) (hr:endB r = true):pRun (dgV v++r) ⟨t,op,0⟩ = pRun r ⟨t++[⟨-1,-1,v⟩],op++[t.length],0⟩:=by
 have h:=List.all_eq_true.1 dg_all v.toNat (List.mem_range.2 (by omega))
 have hv':((v.toNat:Nat):Int) = v:=by omega
 rw [hv'] at h
 have h0:(v.toNat == 0) = false:=by rw [beq_eq_false_iff_ne];omega
 rw [h0,Bool.false_or] at h
 revert h
 generalize dgV v = d
 intro h
 split at h
 ·rename_i a
  simp only [Bool.and_eq_true,beq_iff_eq] at h
  obtain ⟨h1,h2⟩:=h
  simp only [List.cons_append,List.nil_append,pRun,pStep]
  rw [if_pos ⟨h1,by simp⟩,if_pos hr]
  simp only [Option.bind_some,Nat.mul_zero,Nat.zero_add,h2,hv']
 ·rename_i a b
  simp only [Bool.and_eq_true,beq_iff_eq] at h
  obtain ⟨⟨h1,h2⟩,h3⟩:=h
  have e1:endB (b :: r) = false:=by simp [endB,h2]
  have ha:a.toNat≤57:=by simp [digB] at h1;omega
  simp only [List.cons_append,List.nil_append,pRun,pStep]
  rw [if_pos ⟨h1,by simp⟩,e1]
  simp only [Option.bind_some,Bool.false_eq_true,if_false,Nat.mul_zero,Nat.zero_add]
  rw [if_pos ⟨h2,by omega⟩,if_pos hr]
  simp only [Option.bind_some,h3,hv']
 ·rename_i a b c
  simp only [Bool.and_eq_true,beq_iff_eq] at h
  obtain ⟨⟨⟨h1,h2⟩,h3⟩,h4⟩:=h
  have e1:endB (b :: c :: r) = false:=by simp [endB,h2]
  have e2:endB (c :: r) = false:=by simp [endB,h3]
  have ha:a.toNat≤57:=by simp [digB] at h1;omega
  have hb:b.toNat≤57:=by simp [digB] at h2;omega
  simp only [List.cons_append,List.nil_append,pRun,pStep]
  rw [if_pos ⟨h1,by simp⟩,e1]
  simp only [Option.bind_some,Bool.false_eq_true,if_false,Nat.mul_zero,Nat.zero_add]
  rw [if_pos ⟨h2,by omega⟩,e2]
  simp only [Option.bind_some,Bool.false_eq_true,if_false]
  rw [if_pos ⟨h3,by omega⟩,if_pos hr]
  simp only [Option.bind_some,h4,hv']
 ·cases h
theorem pRun_skip (c:UInt8) (hc:c = 40∨c = 32) (r:List UInt8) (s:PSt):pRun (c :: r) s = pRun r s:=by
 have hd:digB c = false:=by rcases hc with rfl | rfl <;> decide
 have h41:c≠41:=by rcases hc with rfl | rfl <;> decide
 rw [pRun,pStep,if_neg (by rw [hd];simp),if_neg h41,if_pos hc]
 rfl
theorem pRun_close (r:List UInt8) (t:List VN) (op:List Nat) (a b nu:Nat):pRun (41 :: r) ⟨t,op++[a]++[b],nu⟩ = pRun r ⟨t++[⟨a,b,0⟩],op++[t.length],nu⟩:=by
 have hd:digB 41 = false:=by decide
 have hlen:(op++[a]++[b]).length = op.length+2:=by simp
 rw [pRun,pStep,if_neg (by rw [hd];simp),if_pos rfl]
 simp only [hlen]
 rw [if_neg (by omega)]
 have e1:(op++[a]++[b]).getD (op.length+2 - 2) 0 = a:=by
  rw [List.getD_eq_getElem?_getD];simp
 have e2:(op++[a]++[b]).getD (op.length+2 - 1) 0 = b:=by
  rw [List.getD_eq_getElem?_getD,List.getElem?_append_right (by simp)];simp
 have e3:(op++[a]++[b]).take (op.length+2 - 2) = op:=by simp
 simp only [e1,e2,e3,Option.bind_some]
theorem pRun_tree:∀ (T:Tr) (t:List VN) (op:List Nat) (r:List UInt8),(∀ v∈T.vars,1≤v∧v≤128)→endB r = true→pRun (prT T++r) ⟨t,op,0⟩ = pRun r ⟨t++T.post t.length,op++[t.length+T.size - 1],0⟩
 | .leaf v,t,op,r,hv,hr=>by
   rw [prT,pRun_leaf v (hv v (by simp [Tr.vars])) t op r hr]
   simp [Tr.post,Tr.size]
 | .node a b,t,op,r,hv,hr=>by
   have ha:=pRun_tree a t op (32 :: (prT b++(41 :: r))) (fun v h=>hv v (by simp [Tr.vars,h])) (by rfl)
   have hb:=pRun_tree b (t++a.post t.length) (op++[t.length+a.size - 1]) (41 :: r) (fun v h=>hv v (by simp [Tr.vars,h])) (by rfl)
   have e:prT (.node a b)++r = 40 :: (prT a++(32 :: (prT b++(41 :: r)))):=by simp [prT]
   rw [e,pRun_skip 40 (.inl rfl),ha,pRun_skip 32 (.inr rfl),hb,pRun_close]
   have pa:=a.pos
   have pb:=b.pos
   congr 2
   ·simp only [Tr.post,List.length_append,Tr.post_len,List.append_assoc]
   ·simp only [List.length_append,Tr.post_len,Tr.size]
    congr 2
    omega
theorem parse_print (T:Tr) (hv:∀ v∈T.vars,1≤v∧v≤128):pRun (prT T) ⟨[],[],0⟩ = some ⟨T.post 0,[T.size - 1],0⟩:=by
 have:=pRun_tree T [] [] [] hv rfl
 simpa [pRun] using this
theorem dg_ascii (v:Int) (hv:1≤v∧v≤128):∀ c∈dgV v,c.toNat < 128:=by
 have h:=List.all_eq_true.1 dg_all v.toNat (List.mem_range.2 (by omega))
 rw [show ((v.toNat:Nat):Int) = v by omega] at h
 have h0:(v.toNat == 0) = false:=by rw [beq_eq_false_iff_ne];omega
 rw [h0,Bool.false_or] at h
 have key:∀ c,digB c = true→c.toNat < 128:=fun c hc=>by simp [digB] at hc;omega
 revert h
 generalize dgV v = d
 intro h
 split at h
 ·simp only [Bool.and_eq_true] at h
  intro c hc
  simp only [List.mem_cons,List.not_mem_nil,or_false] at hc
  subst hc;exact key _ h.1
 ·simp only [Bool.and_eq_true] at h
  intro c hc
  simp only [List.mem_cons,List.not_mem_nil,or_false] at hc
  rcases hc with rfl | rfl
  ·exact key _ h.1.1
  ·exact key _ h.1.2
 ·simp only [Bool.and_eq_true] at h
  intro c hc
  simp only [List.mem_cons,List.not_mem_nil,or_false] at hc
  rcases hc with rfl | rfl | rfl
  ·exact key _ h.1.1.1
  ·exact key _ h.1.1.2
  ·exact key _ h.1.2
 ·cases h
theorem prT_ascii:∀ (T:Tr),(∀ v∈T.vars,1≤v∧v≤128)→∀ c∈prT T,c.toNat < 128
 | .leaf v,hv,c,hc=>dg_ascii v (hv v (by simp [Tr.vars])) c hc
 | .node a b,hv,c,hc=>by
   simp only [prT,List.mem_append,List.mem_cons,List.not_mem_nil,or_false] at hc
   rcases hc with (((rfl | hc) | rfl) | hc) | rfl
   ·decide
   ·exact prT_ascii a (fun v h=>hv v (by simp [Tr.vars,h])) c hc
   ·decide
   ·exact prT_ascii b (fun v h=>hv v (by simp [Tr.vars,h])) c hc
   ·decide
theorem dg_len (v:Int):0 < (dgV v).length∧(dgV v).length≤3:=by
 unfold dgV
 simp only
 split
 ·simp
 ·split <;> simp
theorem prT_len:∀ T:Tr,(prT T).length+3≤6 * T.vars.length
 | .leaf v=>by have:=dg_len v;simp only [prT,Tr.vars,List.length_cons,List.length_nil];omega
 | .node a b=>by
   have:=prT_len a
   have:=prT_len b
   simp only [prT,Tr.vars,List.length_append,List.length_cons,List.length_nil];omega
end Go.Proofs.YtemnmcfmabamcaaGreatDoor.L
