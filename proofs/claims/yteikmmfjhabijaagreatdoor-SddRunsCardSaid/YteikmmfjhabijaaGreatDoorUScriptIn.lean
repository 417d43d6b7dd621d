import Derived.Test.YteikmmfjhabijaaGreatDoorUBegin
import Derived.Test.YteikmmfjhabijaaGreatDoorUCardIn
set_option linter.unusedSimpArgs false
set_option linter.unusedVariables false
namespace Go.Proofs.YteikmmfjhabijaaGreatDoor
open Go Go.ChangeShapes Go.WideShapes Go.ChangeAt Go.RowKit Go.Deep
theorem okWide_struct {P:Program} {w:World} {r:Reach} {base:Nat} {t:TypeId} {v:Value} {fs:Array Field} (ht:P.underlying t = some (.struct fs)) (h:Value.okWide P w r base t v):∃ cs,v = .agg cs∧cs.size = P.cellsOf t:=by
 simp only [Value.okWide,ht] at h
 obtain ⟨cs,h1,h2,_⟩:=h
 exact ⟨cs,h1,h2⟩
theorem open_ops {H:Type} {enc:TypeId × Value→H} {W:World} {spare:Nat→Bool} {held:Bool} {fuel:Nat} {v:Value} {x:DataW H × List MemPlace} (h:DataW.trod enc Tryz.prog W 0 spare held fuel 24 [v] = some x) :
  ∃ (ba:Option Addr) (cap:Nat) (os:List OpD),v = .slice ba os.length cap∧OpsIn W ba os:=by
 rcases open_slice_fields Tryz.underlying24 Tryz.underlying39 (by kernel_rfl) (by kernel_rfl) h with ⟨hcs,_⟩ | ⟨a,len,cap,m,D,Pl,hcs,_,hl,_,hm,_,hf⟩
 ·simp only [List.cons.injEq,and_true] at hcs
  exact ⟨none,0,[],hcs,⟨fun p hp=>(by cases hp),.inl rfl⟩⟩
 ·simp only [List.cons.injEq,and_true] at hcs
  have hlm:len≤m:=by rw [hm];split <;> omega
  have hcell:∀ i,i < len→∃ p:OpD,(W.cell? (a.add (i * 3+0)) = some (.int .u8 p.kd)∧W.cell? (a.add (i * 3+1)) = some (.int .i64 p.a)∧W.cell? (a.add (i * 3+2)) = some (.int .i64 p.b))∧p.ok:=fun i hi=>by
   obtain ⟨ys,n,_,_,_,hg⟩:=hf i (by omega)
   obtain ⟨v0,y0,c0,_,t0⟩:=hg 0 _ rfl
   obtain ⟨v1,y1,c1,_,t1⟩:=hg 1 _ rfl
   obtain ⟨v2,y2,c2,_,t2⟩:=hg 2 _ rfl
   obtain ⟨k0,e0,_,z0⟩:=DataW.trod_int Tryz.underlying5 t0
   obtain ⟨k1,e1,_,z1⟩:=DataW.trod_int Tryz.underlying3 t1
   obtain ⟨k2,e2,_,z2⟩:=DataW.trod_int Tryz.underlying3 t2
   simp only [List.cons.injEq,and_true] at e0 e1 e2
   subst e0 e1 e2
   have hr:0≤k0∧k0≤255:=by
    simp [Lit.wf,IntKind.min,IntKind.max,IntKind.bits,IntKind.signed] at z0
    omega
   exact ⟨⟨k0,k1,k2⟩,⟨c0,c1,c2⟩,⟨hr,bounds_i64 z1,bounds_i64 z2⟩⟩
  by_cases h0:len = 0
  ·subst h0
   exact ⟨some a,cap,[],hcs,⟨fun p hp=>(by cases hp),.inl rfl⟩⟩
  ·have hspot:∃ b o,a = ⟨b,o,none⟩:=by
    obtain ⟨_,⟨c0,_,_⟩,_⟩:=hcell 0 (by omega)
    obtain ⟨b,o,spot⟩:=a
    have:spot = none:=by simpa [Addr.add] using World.cell?_spot c0
    subst this
    exact ⟨b,o,rfl⟩
   obtain ⟨b,o,rfl⟩:=hspot
   have hn:∀ i,i < len→∃ p:OpD,OpAt W b (o+i * 3) p∧p.ok:=fun i hi=>by
    obtain ⟨p,⟨c0,c1,c2⟩,hp⟩:=hcell i hi
    rw [Go.WideShapes.add_plain] at c0 c1 c2
    refine ⟨p,⟨?_,?_,?_⟩,hp⟩
    ·rw [←c0];congr 2
    ·rw [←c1];congr 2
    ·rw [←c2];congr 2
   obtain ⟨os,hos,hq⟩:=list_choose len hn
   subst hos
   refine ⟨some ⟨b,o,none⟩,cap,os,hcs,⟨fun p hp=>?_,.inr ⟨b,o,rfl,fun j hj=>(hq j hj).1⟩⟩⟩
   obtain ⟨j,hj,rfl⟩:=List.getElem_of_mem hp
   exact (hq j hj).2
set_option maxRecDepth 100000 in
theorem open_script {H:Type} {enc:TypeId × Value→H} {W:World} {spare:Nat→Bool} {held:Bool} {fuel:Nat} {cs:Array Value} {x:DataW H × List MemPlace} (hz:cs.size = Tryz.prog.cellsOf 26) (h:DataW.trod enc Tryz.prog W 0 spare held fuel 26 (Value.agg cs).cells.toList = some x) :
  ∃ (ba:Option Addr) (cap:Nat) (t:List VN) (bo:Option Addr) (co:Nat) (os:List OpD),Value.agg cs = .agg #[.slice ba t.length cap,.slice bo os.length co]∧((t = []∨∃ b o,ba = some ⟨b,o,none⟩∧TreeAt W b o t)∧OpsIn W bo os):=by
 have hsz:Tryz.prog.cellsOf 26 = 2:=by kernel_rfl
 have hz2:cs.size = 2:=by rw [hz];exact hsz
 obtain ⟨cs⟩:=cs
 obtain ⟨c0,c1,rfl⟩:∃ c0 c1,cs = [c0,c1]:=by
  match cs,hz2 with
  | [c0,c1],_=>exact ⟨c0,c1,rfl⟩
 obtain ⟨y0,y1,n,_,_,h0,h1⟩:=trod_struct2 Tryz.underlying26 h
 clear hz hz2
 have k0:Tryz.prog.cellsOf 23 = 1:=by kernel_rfl
 have k1:Tryz.prog.cellsOf 24 = 1:=by kernel_rfl
 have h0':DataW.trod enc Tryz.prog W 0 spare held n 23 [c0] = some y0:=by simpa [k0,Value.cells] using h0
 have h1':DataW.trod enc Tryz.prog W 0 spare held n 24 [c1] = some y1:=by simpa [k1,Value.cells] using h1
 obtain ⟨ba,cap,t,e0,ht⟩:=open_tree h0'
 obtain ⟨bo,co,os,e1,ho⟩:=open_ops h1'
 exact ⟨ba,cap,t,bo,co,os,by rw [e0,e1],ht,ho⟩
end Go.Proofs.YteikmmfjhabijaaGreatDoor
