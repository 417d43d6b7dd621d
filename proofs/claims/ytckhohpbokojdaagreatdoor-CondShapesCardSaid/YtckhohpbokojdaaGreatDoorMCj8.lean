import Derived.Test.YtckhohpbokojdaaGreatDoorMN2
import Derived.Test.YtckhohpbokojdaaGreatDoorMCi1
section
set_option linter.unusedSimpArgs false
set_option linter.unusedVariables false
namespace Go.Proofs.YtckhohpbokojdaaGreatDoor
open Go Go.RowKit Go.Shelf
theorem BdAt.lt_ {N b:Nat} {l:List UInt8} {w:World} (h:BdAt N b l w):b < w.heap.size:=by
 rcases h with ⟨_,v,h,_⟩ | ⟨_,v,h,_⟩ <;> exact (Array.getElem?_eq_some_iff.1 h).1
theorem inB_len:∀ {l:List Nat},(∀ k∈l,k≤65536)→(inB l).length≤22 * l.length
 | [],_=>Nat.zero_le _
 | a :: r,h=>by
   have h1:=inB_len (l:=r) fun k hk=>h k (List.mem_cons_of_mem _ hk)
   have h2:=h a (List.mem_cons_self ..)
   have h3:=Lib.itoa_length_le (a:Int) (by omega) (by omega)
   have e:inB (a :: r) = Lib.itoa (a:Int)++32 :: inB r:=by simp [inB]
   rw [e,List.length_append,List.length_cons,List.length_cons]
   omega
theorem inB_take {l:List Nat} {k:Nat} (h:k < l.length):inB (l.take (k+1)) = inB (l.take k)++(Lib.itoa ((l[k]:Nat):Int)++[32]):=by
 unfold inB
 rw [List.take_succ_eq_append_getElem h,List.flatMap_append]
 simp
set_option maxRecDepth 100000 in
set_option maxHeartbeats 8000000 in
theorem nkey_any {kd lt:Int} {ip:List Nat} {bb:Option Addr} {cc:Nat} {w:World} (hkd:-9223372036854775808≤kd∧kd≤9223372036854775807) (hlt:-9223372036854775808≤lt∧lt≤9223372036854775807) (hip:∀ k∈ip,k≤65536) (hin:SlI w (.slice bb ip.length cc) (ip.map fun k:Nat=>(k:Int))) (hl:ip.length≤2000) (hP:PowTab w) :
  Calls Tryz.prog 112 #[.agg #[.int .i64 kd,.int .i64 lt,.slice bb ip.length cc]] w fun e w'=>e = .returned (.string ⟨(nkB ⟨kd,lt,ip⟩).toArray⟩)∧Below w.heap.size w w':=by
 obtain ⟨e0,e1⟩:=alloc2h w (.cells #[.int .i64 kd,.int .i64 lt,.slice bb ip.length cc] 40) (.cells #[.pointer none,.slice none 0 0] 137)
 have hx2:Ext w ((w.alloc (.cells #[.int .i64 kd,.int .i64 lt,.slice bb ip.length cc] 40)).alloc (.cells #[.pointer none,.slice none 0 0] 137)):=((Ext.refl w).alloc _).alloc _
 have hfr:=Lib.IsBuilderF.of (Lib.fresh_isBuilder 137 5 (w.alloc (.cells #[.int .i64 kd,.int .i64 lt,.slice bb ip.length cc] 40)))
 have hsz1:(w.alloc (.cells #[.int .i64 kd,.int .i64 lt,.slice bb ip.length cc] 40)).heap.size = w.heap.size+1:=by simp
 rw [hsz1] at hfr
 obtain ⟨w2,hw2⟩:∃ W,W = (w.alloc (.cells #[.int .i64 kd,.int .i64 lt,.slice bb ip.length cc] 40)).alloc (.cells #[.pointer none,.slice none 0 0] 137):=⟨_,rfl⟩
 rw [←hw2] at e0 e1 hx2 hfr
 have hgP:gPow < w.heap.size:=hP.lt
 have hI2:KyI w (w.heap.size+1) kd lt (.slice bb ip.length cc) [] w2:=⟨hx2.below,⟨Nat.lt_succ_self _,hgP⟩,e0,hfr⟩
 obtain ⟨b,hb⟩:∃ b,b = w.heap.size+1:=⟨_,rfl⟩
 rw [←hb] at hI2
 have hPw:∀ W,Below w.heap.size w W→PowTab W:=fun W h=>hP.below h
 have hl1:=Lib.itoa_length_le kd hkd.1 hkd.2
 have hl2:=Lib.itoa_length_le lt hlt.1 hlt.2
 have q1:=key1_any hkd.1 hkd.2 hI2.bd (by simp) (Nat.le_of_lt hI2.bd.lt_) (hPw _ hI2.below)
 have hK1:∀ (c:Array Value) (w:World),(callFunc 120 c).run Tryz.prog w = .ok (.enter 120 c) w:=fun c w=>by simp [go_sem,Tryz.func120]
 have hmf:∀ (fn:Fn) (first cap:Array Value) (w:World),(Instr.makeFunc fn first cap).run Tryz.prog w = .ok (.func fn first cap) w:=fun _ _ _ _=>rfl
 have hcc:∀ j (hj:j < ip.length),∃ b o,bb = some ⟨b,o,none⟩∧w.cell? ⟨b,o+j,none⟩ = some (.int .i64 ((ip[j]:Nat):Int)):=fun j hj=>by
  obtain ⟨ba,cp,e,h⟩:=hin
  simp only [List.length_map] at e
  cases e
  rcases h with ⟨_,h,_⟩ | ⟨b,o,h1,h2⟩
  ·have:=List.map_eq_nil_iff.1 h
   rw [this] at hj;simp at hj
  ·have:=h2 j (by simpa using hj)
   rw [List.getElem_map] at this
   exact ⟨b,o,h1,this⟩
 have hI2h:=Lib.hid hI2
 obtain ⟨c0,c1,c2⟩:=hI2.cells
 replace hcc:=Lib.hid hcc
 replace hPw:=Lib.hid hPw
 replace hip:=Lib.hid hip
 replace hx2:=Lib.hid hx2
 replace e0:=Lib.hid e0
 replace e1:=Lib.hid e1
 replace hb:=Lib.hid hb
 clear hin hfr hsz1 hI2 hP
 go_enter Tryz.func112,Tryz.ntmps112
 go_wp2_with fail
 rw [←hw2,←hb.out]
 replace hw2:=Lib.hid hw2
 try go_wp2_with fail
 refine q1.mono ?_
 rintro e w3 ⟨rfl,wm,hbm,hr3⟩
 have hI3:=(hI2h.out.next hbm).wrote hr3
 have q2:=key1_any hlt.1 hlt.2 hI3.bd (by simp;omega) (Nat.le_of_lt hI3.bd.lt_) (hPw.out _ hI3.below)
 obtain ⟨m0,m1,m2⟩:=hI3.cells
 have hI3h:=Lib.hid hI3
 clear q1 c0 c1 c2 hbm hr3 hI3
 go_wp2_with fail
 refine q2.mono ?_
 rintro e w4 ⟨rfl,wn,hbn,hr4⟩
 have hI4:=(hI3h.out.next hbn).wrote hr4
 rw [List.nil_append] at hI4
 obtain ⟨pre,hpre⟩:∃ pre,pre = (Lib.itoa kd++[32])++(Lib.itoa lt++[32]):=⟨_,rfl⟩
 have hpl:pre.length≤44:=by rw [hpre];simp;omega
 rw [←hpre] at hI4
 obtain ⟨p0,p1,p2⟩:=hI4.cells
 have hI0:Hid (KyI w b kd lt (.slice bb ip.length cc) (pre++inB (ip.take 0)) w4):=Lib.hid (by simpa [inB] using hI4)
 replace hpre:=Lib.hid hpre
 clear q2 m0 m1 m2 hbn hr4 hI4
 go_wp2_with fail
 clear p0 p1 p2
 go_loopw [19] (fun i wr=>∃ k:Nat,k≤ip.length∧i = .int .i64 (k:Nat)∧Hid (KyI w b kd lt (.slice bb ip.length cc) (pre++inB (ip.take k)) wr)) (fun i _=>ip.length - (intOf i).toNat)
 case atStart=>exact ⟨0,Nat.zero_le _,rfl,hI0⟩
 case round =>
  clear hI0
  obtain ⟨k,hk,rfl,hI⟩:=hrel
  have hlen:=inB_len (l:=ip.take k) fun x hx=>hip.out x (List.mem_of_mem_take hx)
  rw [List.length_take] at hlen
  by_cases hlt':k < ip.length
  ·obtain ⟨bi,o,rfl,f0⟩:=hcc.out k hlt'
   have f1:=(hI.out.below.cell (World.block_lt_of_cell? _ _ f0)).trans f0
   have hx:=hip.out _ (List.getElem_mem hlt')
   have hnx:=inB_take hlt'
   generalize ip[k] = x at *
   have q:=key1_any (z:=(x:Int)) (by omega) (by omega) hI.out.bd (by simp;omega) (Nat.le_of_lt hI.out.bd.lt_) (hPw.out _ hI.out.below)
   replace hnx:=Lib.hid hnx
   replace hlen:=Lib.hid hlen
   clear f0
   go_wp2_with fail
   refine q.mono ?_
   rintro e w6 ⟨rfl,wn,hbn,hr6⟩
   have hI6:=Lib.hid ((hI.out.next hbn).wrote hr6)
   rw [List.append_assoc,←hnx.out] at hI6
   clear q hbn hr6
   go_wp2_with fail
   go_roundw
   case rel=>exact ⟨k+1,by omega,by go_num,hI6⟩
   case measure=>simp [intOf];omega
  ·obtain rfl:k = ip.length:=by omega
   rw [List.take_length] at hI
   have hres:Hid (pre++inB ip = nkB ⟨kd,lt,ip⟩):=Lib.hid (by rw [hpre.out];simp [nkB])
   have q:=Tryz.Builder_String_any_k b b (pre++inB ip) wr hI.out.bd (Nat.le_of_lt hI.out.bd.lt_)
   rw [hres.out] at q
   replace hlen:=Lib.hid hlen
   go_wp2_with fail
   refine q.mono ?_
   rintro e w7 ⟨rfl,_,hb7,_⟩
   have hbe:Below w.heap.size w w7:=hI.out.below.trans (hb7.mono (Nat.le_of_lt hI.out.lt_.1))
   go_wp2_with fail
   go_ret
   exact ⟨rfl,hbe⟩
end Go.Proofs.YtckhohpbokojdaaGreatDoor
end
section
set_option linter.unusedSimpArgs false
set_option linter.unusedVariables false
namespace Go.Proofs.YtckhohpbokojdaaGreatDoor
open Go Go.RowKit Go.Shelf
def gCells:List L.Gt→List Value→List Value
 | g :: C,u :: us=>.int .i64 g.kind :: .int .i64 g.lit :: u :: gCells C us
 | _,_=>[]
theorem gCells_len:∀ {C:List L.Gt} {us:List Value},us.length = C.length→(gCells C us).length = 3 * C.length
 | [],[],_=>rfl
 | g :: C,u :: us,h=>by
   have:=gCells_len (C:=C) (us:=us) (by simpa using h)
   simp only [gCells,List.length_cons]
   omega
 | [],_ :: _,h=>by simp at h
 | _ :: _,[],h=>by simp at h
theorem gCells_snoc:∀ {C:List L.Gt} {us:List Value} (_:us.length = C.length) (g:L.Gt) (u:Value),gCells (C++[g]) (us++[u]) = gCells C us++[.int .i64 g.kind,.int .i64 g.lit,u]
 | [],[],_,g,u=>rfl
 | a :: C,b :: us,h,g,u=>by
   have:=gCells_snoc (C:=C) (us:=us) (by simpa using h) g u
   simp only [List.cons_append,gCells]
   rw [this]
 | [],_ :: _,h,_,_=>by simp at h
 | _ :: _,[],h,_,_=>by simp at h
theorem gCells_get:∀ {C:List L.Gt} {us:List Value} (_:us.length = C.length) (j:Nat) (hj:j < C.length) (hu:j < us.length),(gCells C us)[j * 3]? = some (.int .i64 C[j].kind)∧(gCells C us)[j * 3+1]? = some (.int .i64 C[j].lit)∧(gCells C us)[j * 3+2]? = some us[j]
 | a :: C,b :: us,_,0,_,_=>⟨rfl,rfl,rfl⟩
 | a :: C,b :: us,h,j+1,hj,hu=>by
   obtain ⟨h1,h2,h3⟩:=gCells_get (C:=C) (us:=us) (by simpa using h) j (by simpa using hj) (by simpa using hu)
   rw [show (j+1) * 3 = j * 3+3 by omega,show j * 3+3+1 = (j * 3+1)+3 by omega,show j * 3+3+2 = (j * 3+2)+3 by omega]
   exact ⟨h1,h2,h3⟩
 | [],[],_,_,hj,_=>by simp at hj
 | [],_ :: _,h,_,_,_=>by simp at h
 | _ :: _,[],h,_,_,_=>by simp at h
end Go.Proofs.YtckhohpbokojdaaGreatDoor
end
