import Derived.Test.YtemnmcfmabamcaaGreatDoorYNew
set_option linter.unusedSimpArgs false
set_option linter.unusedVariables false
set_option maxRecDepth 100000
set_option maxHeartbeats 8000000
namespace Go.Proofs.YtemnmcfmabamcaaGreatDoor
open Go Go.RowKit Go.Shelf
def ZdG (f:Nat→Nat)(i:Nat):Nat→Nat:=fun j=>if j=i then f j+1 else f j
def Zns (i:Nat)(x:VN):Bool:=decide (x.var≠0) || decide (x.left<0) || decide ((i:Int)≤x.left) || decide (x.right<0) || decide ((i:Int)≤x.right) || decide (x.left=x.right)
def Zib (i:Nat)(x:VN)(c:(Nat→Nat) × (Nat→Bool)):Option ((Nat→Nat) × (Nat→Bool)) :=
 if Zai x=true then (if c.2 x.var.toNat=true then none else some (c.1,Zbr c.2 x.var.toNat))
 else if Zns i x=true then none else some (ZdG (ZdG c.1 x.left.toNat) x.right.toNat,c.2)
def Zeg:List VN→Nat→((Nat→Nat) × (Nat→Bool))→Option ((Nat→Nat) × (Nat→Bool))
 | [],_,c=>some c
 | x :: r,i,c=>match Zib i x c with
   | none=>none
   | some c'=>Zeg r (i+1) c'
def Zqh (n:Nat):Option ((Nat→Nat) × (Nat→Bool))→Int
 | none=>1
 | some c=>if (List.range (n - 1)).all (fun j=>decide (c.1 j=1))=true then 0 else 1
def Zop (t:List VN):Int:=if t.length=0 then 1 else Zqh t.length (Zeg t 0 (fun _=>0,fun _=>false))
def ZcT (w:World)(b:Nat)(n:Nat)(f:Nat→Nat):Prop:=∃c,w.heap[b]? =some (.cells c 3 (0,0))∧c.size=n∧∀j,j<n→c[j]? =some (.int .i64 (f j:Nat))
theorem ZcT.cell{w:World}{b n:Nat}{f:Nat→Nat}(h:ZcT w b n f){j:Nat}(hj:j<n):w.cell? ⟨b,j,none⟩=some (.int .i64 (f j:Nat))∧w.frozen? ⟨b,j,none⟩=false:=by
 obtain⟨c,h1,h2,h3⟩:=h;simp[World.cell?,World.frozen?,h1,h3 j hj]
theorem ZcT.same{w w':World}{b n:Nat}{f:Nat→Nat}(h:ZcT w b n f)(hs:w'.heap[b]? =w.heap[b]?):ZcT w' b n f:=by
 obtain⟨c,h1,h2,h3⟩:=h;exact⟨c,hs.trans h1,h2,h3⟩
theorem ZcT.lt{w:World}{b n:Nat}{f:Nat→Nat}(h:ZcT w b n f):b<w.heap.size:=by
 obtain⟨c,h1,h2,h3⟩:=h;exact(Zrv h1).1
theorem ZcT.ext{w w':World}{b n:Nat}{f:Nat→Nat}(h:ZcT w b n f)(hs:Ext w w'):ZcT w' b n f:=h.same (hs.below.block b h.lt)
theorem ZcT.inc{w:World}{b n:Nat}{f:Nat→Nat}(h:ZcT w b n f)(i:Nat)(z:Int)(hz:z=(f i+1:Nat)):ZcT (w.setCell ⟨b,i,none⟩ (.int .i64 z)) b n (ZdG f i):=by
 obtain⟨c,h1,h2,h3⟩:=h;subst hz;refine⟨_,Zaj h1 i _,by simpa using h2,fun j hj=>?_⟩;rw[Array.getElem?_setIfInBounds]
 by_cases iD:i=j
 ·subst iD
  rw[if_pos rfl,if_pos (by omega)];simp[ZdG]
 ·rw[if_neg iD,h3 j hj]
  simp[ZdG,Ne.symm iD]
theorem ZcT.other{w:World}{b n:Nat}{f:Nat→Nat}(h:ZcT w b n f){b':Nat}(hb:b≠b')(i:Nat)(v:Value):ZcT (w.setCell ⟨b',i,none⟩ v) b n f :=
 h.same (Below.heap_setCell _ _ _ b hb)
theorem Zqv(w:World)(n:Nat)(ad:Nat)(ha:ad=w.heap.size):ZcT (w.alloc (.cells (madeCells #[.int .i64 0] n) 3)) ad n (fun _=>0):=by
 refine⟨_,Zaq w _ ad ha,by simp[madeCells],fun j hj=>?_⟩;simp[madeCells,hj,Nat.mod_one]
theorem Za7(x:VN)(w:World):Calls Tryz.prog 71 #[.agg #[.int .i64 x.left,.int .i64 x.right,.int .i64 x.var]] w fun e w'=>e= .returned (.bool (Zai x))∧Ext w w':=by
 obtain⟨l,r,v⟩:=x
 show Calls Tryz.prog 71 #[.agg #[.int .i64 l,.int .i64 r,.int .i64 v]] w fun e w'=>e= .returned (.bool (Zai ⟨l,r,v⟩))∧Ext w w'
 have aC:=Zrz w (.cells #[.int .i64 l,.int .i64 r,.int .i64 v] 78);have aW:Ext w (w.alloc (.cells #[.int .i64 l,.int .i64 r,.int .i64 v] 78)):=(Ext.refl w).alloc _;obtain⟨b0,b1,b2⟩:=Za5 aC;have hl:Zai ⟨l,r,v⟩=(decide (l= -1) && decide (r= -1) && (decide (1≤v) && decide (v≤128))):=rfl
 by_cases h1:l= -1
 ·by_cases h2:r= -1
  ·by_cases h3:1≤v
   ·by_cases h4:v≤128
    ·have hf:Hid (Zai ⟨l,r,v⟩=true):=Zrr (by rw[hl];simp[h1,h2,h3,h4])
     have d1:((l:Int) == -1)=true:=by simp[h1]
     have d2:((r:Int) == -1)=true:=by simp[h2]
     have d3:decide (v≥1)=true:=ZrI h3;have d4:decide (v≤128)=true:=ZrI h4;clear hl h1 h2 aC
     go_enter Tryz.func71,Tryz.ntmps71
     go_wp2_with fail;go_ret;exact⟨by rw[hf.out] <;> rfl,aW⟩
    ·have hf:Hid (Zai ⟨l,r,v⟩=false):=Zrr (by rw[hl];simp[h4])
     have d1:((l:Int) == -1)=true:=by simp[h1]
     have d2:((r:Int) == -1)=true:=by simp[h2]
     have d3:decide (v≥1)=true:=ZrI h3;have d4:decide (v≤128)=false:=ZrH h4;clear hl h1 h2 aC
     go_enter Tryz.func71,Tryz.ntmps71
     go_wp2_with fail;go_ret;exact⟨by rw[hf.out] <;> rfl,aW⟩
   ·have hf:Hid (Zai ⟨l,r,v⟩=false):=Zrr (by rw[hl];simp[h3])
    have d1:((l:Int) == -1)=true:=by simp[h1]
    have d2:((r:Int) == -1)=true:=by simp[h2]
    have d3:decide (v≥1)=false:=ZrH h3;clear hl h1 h2 aC
    go_enter Tryz.func71,Tryz.ntmps71
    go_wp2_with fail;go_ret;exact⟨by rw[hf.out] <;> rfl,aW⟩
  ·have hf:Hid (Zai ⟨l,r,v⟩=false):=Zrr (by rw[hl];simp[h2])
   have d1:((l:Int) == -1)=true:=by simp[h1]
   have d2:((r:Int) == -1)=false:=by simp[h2]
   clear hl h1 aC
   go_enter Tryz.func71,Tryz.ntmps71
   go_wp2_with fail;go_ret;exact⟨by rw[hf.out] <;> rfl,aW⟩
 ·have hf:Hid (Zai ⟨l,r,v⟩=false):=Zrr (by rw[hl];simp[h1])
  have d1:((l:Int) == -1)=false:=by simp[h1]
  clear hl aC
  go_enter Tryz.func71,Tryz.ntmps71
  go_wp2_with fail;go_ret;exact⟨by rw[hf.out] <;> rfl,aW⟩
def Zin (w:World)(bp bs:Nat)(t:List VN)(R:Option ((Nat→Nat) × (Nat→Bool)))(k:Nat)(wr:World):Prop :=
 ∃c:(Nat→Nat) × (Nat→Bool),Ext w wr∧ZcT wr bp t.length c.1∧ZaU wr bs 127 129 c.2∧Zeg (t.drop k) k c=R∧∀j,c.1 j≤2*k
end Go.Proofs.YtemnmcfmabamcaaGreatDoor
namespace Go.Proofs.YtemnmcfmabamcaaGreatDoor
open Go Go.RowKit Go.Shelf
theorem Zor{i:Nat}{x:VN}{r:List VN}{c:(Nat→Nat) × (Nat→Bool)}(hl:Zai x=false)(hb:Zns i x=true):Zeg (x :: r) i c=none:=by
 unfold Zeg Zib;simp[hl,hb]
theorem Zgz{i:Nat}{x:VN}{r:List VN}{c:(Nat→Nat) × (Nat→Bool)}(hl:Zai x=false)(hb:Zns i x=false):Zeg (x :: r) i c=Zeg r (i+1) (ZdG (ZdG c.1 x.left.toNat) x.right.toNat,c.2):=by
 rw[Zeg,Zib];simp[hl,hb]
theorem Zh6{i:Nat}{x:VN}{r:List VN}{c:(Nat→Nat) × (Nat→Bool)}(hl:Zai x=true)(hs:c.2 x.var.toNat=false):Zeg (x :: r) i c=Zeg r (i+1) (c.1,Zbr c.2 x.var.toNat):=by
 rw[Zeg,Zib];simp[hl,hs]
theorem ZmO{i:Nat}{x:VN}{r:List VN}{c:(Nat→Nat) × (Nat→Bool)}(hl:Zai x=true)(hs:c.2 x.var.toNat=true):Zeg (x :: r) i c=none:=by
 unfold Zeg Zib;simp[hl,hs]
theorem ZkY(w:World)(ba:Option Addr)(cap:Nat):Calls Tryz.prog 35 #[.slice ba 0 cap] w fun e w'=>e= .returned (.int .i64 1)∧Ext w w':=by
 go_enter Tryz.func35,Tryz.ntmps35
 go_wp2_with fail;go_ret;exact⟨rfl,Ext.refl w⟩
theorem ZkZ{t:List VN}(w:World)(b o cap:Nat)(h:Zag w b o t)(eM:0<t.length)(fN:t.length≤300) :
  Calls Tryz.prog 35 #[.slice (some ⟨b,o,none⟩) t.length cap] w fun e w'=>e= .returned (.int .i64 (Zop t))∧Ext w w':=by
 have iO:∀w:World,(Instr.makeSlice 76 (.int .i64 t.length) (.int .i64 t.length)).run Tryz.prog w= .ok (.slice (some ⟨w.heap.size,0,none⟩) t.length t.length) (w.alloc (.cells (madeCells #[.int .i64 0] t.length) 3)) :=
  fun w=>run_make_row' (P:=Tryz.prog) 76 3 (.int .i64 0) 8 Tryz.underlying76 Ze5 rfl .i64 .i64 t.length (by omega) (by omega) w
 have h1:((t.length:Int) ==0)=false:=by simp;intro e;simp[e]at eM
 obtain⟨R,hR⟩:∃R,Zeg t 0 (fun _=>0,fun _=>false)=R:=⟨_,rfl⟩
 have jw:Hid (Zop t=Zqh t.length R):=Zrr (by
   unfold Zop;rw[if_neg (by omega),hR])
 go_enter Tryz.func35,Tryz.ntmps35
 go_wp2_with fail;have nk:=(Zqv w t.length w.heap.size rfl).ext ((Ext.refl _).alloc (.cells Tryz.zeroCells127 127));have wj:=ZeZ (w.alloc (.cells (madeCells #[.int .i64 0] t.length) 3)) _ 127 129 Zke (w.heap.size+1) (by simp);have aW:Ext w ((w.alloc (.cells (madeCells #[.int .i64 0] t.length) 3)).alloc (.cells Tryz.zeroCells127 127)):=((Ext.refl w).alloc _).alloc _;have aY:Hid (Zin w w.heap.size (w.heap.size+1) t R 0 ((w.alloc (.cells (madeCells #[.int .i64 0] t.length) 3)).alloc (.cells Tryz.zeroCells127 127))):=Zrr ⟨_,aW,nk,wj,hR,fun _=>ZrQ _⟩;clear wj nk hR;generalize (w.alloc (.cells (madeCells #[.int .i64 0] t.length) 3)).alloc (.cells Tryz.zeroCells127 127)=w0 at *
 go_loopw [5] (fun i wr=>∃k:Nat,k≤t.length∧i= .int .i64 k∧Hid (Zin w w.heap.size (w.heap.size+1) t R k wr))
  (fun i _=>t.length - (intOf i).toNat)
 case atStart=>exact⟨0,Nat.zero_le _,rfl,aY⟩
 case round =>
  clear aY;obtain⟨k,hk,rfl,hI⟩:=hrel;obtain⟨c,hX,hC,hS,bM,jX⟩:=hI.out;clear hI
  by_cases aD:k<t.length
  ·obtain⟨n0,n1,n2⟩:=(h.ext hX).node aD
   rw[List.drop_eq_getElem_cons aD]at bM;generalize t[k]=x at *;obtain⟨xl,xr,xv⟩:=x;simp only at n0 n1 n2;have aC:=Zrz wr (.cells #[.int .i64 xl,.int .i64 xr,.int .i64 xv] 78);have aK:Ext wr (wr.alloc (.cells #[.int .i64 xl,.int .i64 xr,.int .i64 xv] 78)):=(Ext.refl wr).alloc _;have tQ:=hX.size;have pY:=hS.lt;replace bM:=Zrr bM;replace hS:=Zrr hS;replace hC:=Zrr hC;replace aC:=Zrr aC;replace aK:=Zrr aK;replace jX:=Zrr jX;go_wp2_with fail;generalize wr.alloc (.cells #[.int .i64 xl,.int .i64 xr,.int .i64 xv] 78)=w1 at *;obtain⟨b0,b1,b2⟩:=Za5 aC.out
   try go_wp2_with fail
   refine(Za7 ⟨xl,xr,xv⟩ w1).mono ?_;rintro e w2 ⟨rfl,aO⟩;have kr:=aK.out.trans aO;have c0:=aO.cell b0;have c1:=aO.cell b1;have c2:=aO.cell b2;have bB:=Zrr (hS.out.ext kr);have cL:=Zrr (hC.out.ext kr);have jc:=Zrr (hX.trans kr);have aS:=(aO.below.block _ (Zrv aC.out).1).trans aC.out;replace aS:=Zrr aS;clear b0 b1 b2 n0 n1 n2 hS hC hX
   cases aI:Zai ⟨xl,xr,xv⟩
   ·cases jI:Zns k ⟨xl,xr,xv⟩
    ·have hb:=jI
     simp only[Zns,Bool.or_eq_false_iff,decide_eq_false_iff_not]at hb;obtain⟨⟨⟨⟨⟨hv,aF⟩,aL⟩,aU⟩,aw⟩,ah⟩:=hb;have ef:Hid (Zeg (t.drop (k+1)) (k+1) (ZdG (ZdG c.1 xl.toNat) xr.toNat,c.2)=R):=Zrr (by rw[←bM.out,Zgz aI jI]);obtain⟨ln,rfl⟩:∃n:Nat,xl=n:=⟨xl.toNat,by omega⟩;obtain⟨rn,rfl⟩:∃n:Nat,xr=n:=⟨xr.toNat,by omega⟩;have d0:((xv:Int) !=0)=false:=by simpa using hv
     have d1:decide ((ln:Int)<0)=false:=ZrH aF;have d2:decide ((ln:Int)≥k)=false:=ZrH (by omega);have d3:decide ((rn:Int)<0)=false:=ZrH aU;have d4:decide ((rn:Int)≥k)=false:=ZrH (by omega);have d5:((ln:Int) ==rn)=false:=by simpa using ah
     have gn:ln≠rn:=fun e=>ah (by rw[e])
     have d6:decide (k≤ln)=false:=ZrH (by omega);have d7:decide (k≤rn)=false:=ZrH (by omega);have d8:(ln ==rn)=false:=by simpa using gn
     have g1:(0:Int)≤ln:=by omega
     have g2:(ln:Int)<t.length:=by omega
     have g3:(0:Int)≤rn:=by omega
     have g4:(rn:Int)<t.length:=by omega
     obtain⟨s1,s2⟩:=cL.out.cell (j:=ln) (by omega);have q1:=jX.out ln;have q2:=jX.out rn;have fY:=cL.out.inc ln ((c.1 ln:Nat)+1) (by omega);obtain⟨s3,s4⟩:=fY.cell (j:=rn) (by omega);have uc:ZdG c.1 ln rn=c.1 rn:=by simp[ZdG,Ne.symm gn]
     rw[uc]at s3;have xM:=fY.inc rn ((c.1 rn:Nat)+1) (by rw[uc];omega);have aJ:wr.heap.size≠w.heap.size:=by omega
     have yQ:=(Below.heap_setCell w2 ⟨w.heap.size,ln,none⟩ (.int .i64 ((c.1 ln:Nat)+1)) wr.heap.size aJ).trans aS.out;obtain⟨e0,e1,e2⟩:=Za5 yQ;have yD:=(jc.out.setCell (ZrQ _) (p:=⟨w.heap.size,ln,none⟩) (.int .i64 ((c.1 ln:Nat)+1))).setCell (ZrQ _) (p:=⟨w.heap.size,rn,none⟩) (.int .i64 ((c.1 rn:Nat)+1));have fL:=(bB.out.other (b':=w.heap.size) (by omega) ln (.int .i64 ((c.1 ln:Nat)+1))).other (b':=w.heap.size) (by omega) rn (.int .i64 ((c.1 rn:Nat)+1))
     have yU:∀j,(ZdG (ZdG c.1 ln) rn) j≤2*(k+1):=fun j=>by
      have:=jX.out j;simp only[ZdG]
      split <;> split <;> omega
     have aA:Hid (Zin w w.heap.size (w.heap.size+1) t R (k+1) ((w2.setCell ⟨w.heap.size,ln,none⟩ (.int .i64 ((c.1 ln:Nat)+1))).setCell ⟨w.heap.size,rn,none⟩ (.int .i64 ((c.1 rn:Nat)+1)))):=Zrr
      ⟨(ZdG (ZdG c.1 ln) rn,c.2),yD,xM,fL,ef.out,yU⟩
     clear yD fL yU fY xM yQ uc bM jI aF aL aU aw ah hv;generalize c.1 ln=cl at *;generalize c.1 rn=cr at *;go_wp2_with fail;go_roundw
     case rel=>exact⟨k+1,by omega,by go_num,aA⟩
     case measure=>simp[intOf];omega
    ·have xi:Hid (R=none):=Zrr (by rw[←bM.out,Zor aI jI])
     have fin:Hid (∀w':World,Ext w w'→(Ending.returned (.int .i64 1)=Ending.returned (.int .i64 (Zop t))∧Ext w w')):=Zrr (fun w' hx=>⟨by rw[jw.out,xi.out];rfl,hx⟩)
     have hb:xv≠0∨xl<0∨(k:Int)≤xl∨xr<0∨(k:Int)≤xr∨xl=xr:=by
      simp only[Zns,Bool.or_eq_true,ZrN]at jI;omega
     clear jI bM
     by_cases hv:xv=0
     ·have d0:((xv:Int) !=0)=false:=by simp[hv]
      replace hv:=Zrr hv
      by_cases dI:xl<0
      ·have d1:decide (xl<0)=true:=ZrI dI
       go_wp2_with fail;go_ret;exact fin.out _ jc.out
      ·obtain⟨ln,rfl⟩:∃n:Nat,xl=n:=⟨xl.toNat,by omega⟩
       have d1:decide ((ln:Int)<0)=false:=ZrH dI
       by_cases dJ:(k:Int)≤ln
       ·have d2:decide ((ln:Int)≥k)=true:=ZrI dJ
        have d6:decide (k≤ln)=true:=ZrI (by omega);go_wp2_with fail;go_ret;exact fin.out _ jc.out
       ·have d2:decide ((ln:Int)≥k)=false:=ZrH (by omega)
        have d6:decide (k≤ln)=false:=ZrH (by omega)
        by_cases dt:xr<0
        ·have d3:decide (xr<0)=true:=ZrI dt
         go_wp2_with fail;go_ret;exact fin.out _ jc.out
        ·obtain⟨rn,rfl⟩:∃n:Nat,xr=n:=⟨xr.toNat,by omega⟩
         have d3:decide ((rn:Int)<0)=false:=ZrH dt
         by_cases fB:(k:Int)≤rn
         ·have d4:decide ((rn:Int)≥k)=true:=ZrI fB
          have d7:decide (k≤rn)=true:=ZrI (by omega);go_wp2_with fail;go_ret;exact fin.out _ jc.out
         ·have d4:decide ((rn:Int)≥k)=false:=ZrH (by omega)
          have d7:decide (k≤rn)=false:=ZrH (by omega);have gn:ln=rn:=by have:=hv.out;omega
          have d5:((ln:Int) ==rn)=true:=by simp[gn]
          have d8:(ln ==rn)=true:=by simp[gn]
          replace gn:=Zrr gn;go_wp2_with fail;go_ret;exact fin.out _ jc.out
     ·have d0:((xv:Int) !=0)=true:=by simpa using hv
      go_wp2_with fail;go_ret;exact fin.out _ jc.out
   ·have hv:=aI
    simp only[Zai,ZrK,ZrN]at hv;obtain⟨_,qD,gA⟩:=hv;obtain⟨vn,rfl⟩:∃n:Nat,xv=n:=⟨xv.toNat,by omega⟩;obtain⟨s1,s2⟩:=bB.out.cell (j:=vn) (by omega);have g1:(0:Int)≤vn:=by omega
    have g2:(vn:Int)<129:=by omega
    cases cI:c.2 vn
    ·rw[cI]at s1
     have ef:Hid (Zeg (t.drop (k+1)) (k+1) (c.1,Zbr c.2 vn)=R):=Zrr (by rw[←bM.out,Zh6 aI (by simpa using cI)];simp);go_wp2_with fail;go_roundw
     case rel=>exact⟨k+1,by omega,by go_num,Zrr ⟨(c.1,Zbr c.2 vn),jc.out.setCell (by simp) _,cL.out.other (by simp) _ _,bB.out.set vn,ef.out,fun j=>by have:=jX.out j;show c.1 j≤2*(k+1);omega⟩⟩
     case measure=>simp[intOf];omega
    ·rw[cI]at s1
     have xi:Hid (R=none):=Zrr (by rw[←bM.out,ZmO aI (by simpa using cI)]);go_wp2_with fail;go_ret;exact⟨by rw[jw.out,xi.out];rfl,jc.out⟩
  ·obtain rfl:k=t.length:=by omega
   have lS:R=some c:=by rw[←bM,List.drop_length];rfl
   obtain⟨n',cR⟩:∃n',t.length=n'+1:=⟨t.length - 1,by omega⟩;have fA:IntKind.i64.wrap ((t.length:Int) - 1)=(n':Int):=by rw[cR];rw[IntWalk.i64_in _ (by omega)];omega
   have tJ:((t.length:Int) - 1)=(n':Int):=by rw[cR];omega
   replace hS:=Zrr hS;replace hC:=Zrr hC;replace jX:=Zrr jX;replace lS:=Zrr lS;have aZ:Hid (Zop t=if (List.range n').all (fun j=>decide (c.1 j=1))=true then 0 else 1):=Zrr (by rw[jw.out,lS.out];simp only[Zqh];rw[cR];rfl);clear bM;replace cR:=Zrr cR;replace tJ:=Zrr tJ;replace fA:=Zrr fA;go_wp2_with fail
   go_loopw [7] (fun i wi=>∃k:Nat,k≤t.length∧i= .int .i64 k∧wi=wr∧Hid (∀j,j<k→j<n'→c.1 j=1))
    (fun i _=>t.length - (intOf i).toNat)
   case atStart=>exact⟨0,Nat.zero_le _,rfl,rfl,Zrr (fun j hj=>absurd hj (Nat.not_lt_zero _))⟩
   case round =>
    obtain⟨k,hk,rfl,rfl,az⟩:=hrel
    by_cases aD:k<t.length
    ·obtain⟨s1,s2⟩:=hC.out.cell (j:=k) aD
     have q1:(0:Int)≤k:=by omega
     have q2:(k:Int)<t.length:=by omega
     by_cases jY:k<n'
     ·have dk:decide ((k:Int)<(t.length:Int) - 1)=true:=ZrI (by have:=cR.out;omega)
      by_cases dw:c.1 k=1
      ·have dc:(((c.1 k:Nat):Int) !=1)=false:=by simp[dw]
       have aA:Hid (∀j,j<k+1→j<n'→c.1 j=1):=Zrr (fun j hj hjn=>by
        by_cases yu:j=k
        ·rw[yu];exact dw
        ·exact az.out j (by omega) hjn)
       clear dw;generalize c.1 k=ck at *;go_wp2_with fail;go_roundw
       case rel=>exact⟨k+1,by omega,by go_num,by first|rfl|trivial,aA⟩
       case measure=>simp[intOf];omega
      ·have dc:(((c.1 k:Nat):Int) !=1)=true:=by simp;omega
       have hf:Hid (Zop t=1):=Zrr (by
        rw[aZ.out,if_neg (by
         intro iC;have:=List.all_eq_true.1 iC k (List.mem_range.2 jY);simp at this;exact dw this)])
       clear dw;generalize c.1 k=ck at *;go_wp2_with fail;go_ret;exact⟨by rw[hf.out] <;> rfl,hX⟩
     ·have dk:decide ((k:Int)<(t.length:Int) - 1)=false:=ZrH (by have:=cR.out;omega)
      have aA:Hid (∀j,j<k+1→j<n'→c.1 j=1):=Zrr (fun j hj hjn=>az.out j (by omega) hjn);generalize c.1 k=ck at *;go_wp2_with fail;go_roundw
      case rel=>exact⟨k+1,by omega,by go_num,by first|rfl|trivial,aA⟩
      case measure=>simp[intOf];omega
    ·obtain rfl:k=t.length:=by omega
     have hf:Hid (Zop t=0):=Zrr (by
      rw[aZ.out,if_pos (List.all_eq_true.2 fun j hj=>by
       have:=az.out j (by have:=List.mem_range.1 hj;have:=cR.out;omega) (List.mem_range.1 hj);simpa using this)])
     go_wp2_with fail;go_ret;exact⟨by rw[hf.out] <;> rfl,hX⟩
end Go.Proofs.YtemnmcfmabamcaaGreatDoor
namespace Go.Proofs.YtemnmcfmabamcaaGreatDoor
open Go Go.RowKit Go.Shelf
theorem ZfQ{x:VN}{r:List VN}{i:Nat}{c c':(Nat→Nat) × (Nat→Bool)}(h:Zeg (x :: r) i c=some c'):∃c1,Zib i x c=some c1∧Zeg r (i+1) c1=some c':=by
 unfold Zeg at h
 split at h
 ·cases h
 ·rename_i c1 h1
  exact⟨c1,h1,h⟩
theorem ZeD{i:Nat}{x:VN}{c c1:(Nat→Nat) × (Nat→Bool)}(h:Zib i x c=some c1) :
  (Zai x=true∧c.2 x.var.toNat=false∧c1=(c.1,Zbr c.2 x.var.toNat))∨(Zai x=false∧x.var=0∧0≤x.left∧x.left<i∧0≤x.right∧x.right<i∧x.left≠x.right∧c1=(ZdG (ZdG c.1 x.left.toNat) x.right.toNat,c.2)):=by
 unfold Zib at h
 split at h
 ·rename_i hl
  split at h
  ·cases h
  ·rename_i hs
   exact .inl ⟨hl,by simpa using hs,by simpa using h.symm⟩
 ·rename_i hl
  split at h
  ·cases h
  ·rename_i hb
   have hb:Zns i x=false:=by simpa using hb
   simp only[Zns,Bool.or_eq_false_iff,decide_eq_false_iff_not]at hb;obtain⟨⟨⟨⟨⟨h1,h2⟩,h3⟩,h4⟩,h5⟩,h6⟩:=hb;exact .inr ⟨by simpa using hl,by omega,by omega,by omega,by omega,by omega,h6,by simpa using h.symm⟩
theorem Zl1(f:Nat→Nat)(i j:Nat):f j≤ZdG f i j:=by
 unfold ZdG;split <;> omega
theorem ZfR:∀(l:List VN) (i:Nat) (c c':(Nat→Nat) × (Nat→Bool)),Zeg l i c=some c'→∀j,c.1 j≤c'.1 j
 | [],_,c,c',h,j=>by simp only[Zeg,ZrJ]at h;rw[h];exact ZrQ _
 | x :: r,i,c,c',h,j=>by
   obtain⟨c1,h1,h2⟩:=ZfQ h;refine ZrC ?_ (ZfR r (i+1) c1 c' h2 j);rcases ZeD h1 with ⟨_,_,rfl⟩|⟨_,_,_,_,_,_,_,rfl⟩
   ·exact ZrQ _
   ·exact ZrC (Zl1 _ _ _) (Zl1 _ _ _)
def Zlf (c:Nat→Nat)(ch:Nat→Bool):Prop:=∀j,c j=if ch j then 1 else 0
theorem Zhh:∀(l:List VN) (i:Nat) (c:(Nat→Nat) × (Nat→Bool)) (ch:Nat→Bool),Zlf c.1 ch→Zeg l i c=none→Zca l i (c.2,ch)=none
 | [],_,_,_,_,h=>by cases h
 | x :: r,i,c,ch,ha,h=>by
   unfold Zca
   cases hs:Zcc i x (c.2,ch) with
   | none=>rfl
   | some mm =>
     simp only;unfold Zcc at hs
     by_cases hl:Zai x=true
     ·rw[if_pos hl]at hs
      by_cases wk:c.2 x.var.toNat=true
      ·simp[wk]at hs
      ·have wk:c.2 x.var.toNat=false:=by simpa using wk
       rw[Zh6 hl wk]at h;simp only[wk,Bool.false_eq_true,if_false,ZrJ]at hs;rw[←hs];exact Zhh r (i+1) (c.1,Zbr c.2 x.var.toNat) ch ha h
     ·rw[if_neg hl]at hs
      have aI:Zai x=false:=by simpa using hl
      by_cases hv:x.var=0
      ·simp only[hv,ne_eq,not_true_eq_false,if_false]at hs
       split at hs
       ·cases hs
       ·rename_i c1 dw
        split at hs
        ·cases hs
        ·rename_i c2 fM
         obtain⟨a1,a2,a3,rfl⟩:=Zcv dw;obtain⟨b1,b2,b3,rfl⟩:=Zcv fM;have aJ:x.left≠x.right:=fun e=>by rw[e]at b3;simp[Zbr]at b3
         have jI:Zns i x=false:=by
          simp only[Zns,Bool.or_eq_false_iff,decide_eq_false_iff_not];exact⟨⟨⟨⟨⟨by simpa using hv,by omega⟩,by omega⟩,by omega⟩,by omega⟩,aJ⟩
         rw[Zgz aI jI]at h;simp only[ZrJ]at hs;rw[←hs];refine Zhh r (i+1) (ZdG (ZdG c.1 x.left.toNat) x.right.toNat,c.2) _ (fun j=>?_) h;have gn:x.left.toNat≠x.right.toNat:=by omega
         have aU:ch x.right.toNat=false:=by simpa [Zbr,Ne.symm gn] using b3
         have h1:=ha j;simp only[ZdG,Zbr]
         by_cases e1:j=x.right.toNat
         ·have e2:j≠x.left.toNat:=by omega
          rw[e1,aU]at h1;simp[e1,Ne.symm gn,h1]
         ·by_cases e2:j=x.left.toNat
          ·rw[e2,a3]at h1
           simp[e2,gn,h1]
          ·simp[e1,e2,h1]
      ·simp[hv]at hs
theorem Zhi:∀(l:List VN) (i:Nat) (c c':(Nat→Nat) × (Nat→Bool)) (ch:Nat→Bool),Zlf c.1 ch→Zeg l i c=some c' →
  (∃sI,Zca l i (c.2,ch)=some (c'.2,sI)∧Zlf c'.1 sI)∨(Zca l i (c.2,ch)=none∧∃j,j+1<i+l.length∧2≤c'.1 j)
 | [],_,c,c',ch,ha,h=>by
   simp only[Zeg,ZrJ]at h;exact .inl ⟨ch,by rw[←h];rfl,by rw[←h];exact ha⟩
 | x :: r,i,c,c',ch,ha,h=>by
   obtain⟨c1,h1,h2⟩:=ZfQ h;rcases ZeD h1 with ⟨hl,hs,rfl⟩|⟨hl,hv,a1,a2,b1,b2,aJ,rfl⟩
   ·have e:Zca (x :: r) i (c.2,ch)=Zca r (i+1) (Zbr c.2 x.var.toNat,ch):=by
     rw[Zca,Zcc];simp[hl,hs]
    rw[e];rcases Zhi r (i+1) (c.1,Zbr c.2 x.var.toNat) c' ch ha h2 with h3|⟨h3,j,h4,h5⟩
    ·exact .inl h3
    ·exact .inr ⟨h3,j,by simp;omega,h5⟩
   ·have gn:x.left.toNat≠x.right.toNat:=by omega
    have wJ:¬ Zai x=true:=by rw[hl];exact Bool.false_ne_true
    by_cases d1:ch x.left.toNat=true
    ·refine .inr ⟨?_,x.left.toNat,by simp;omega,?_⟩
     ·rw[Zca,Zcc,if_neg wJ]
      simp[hv,Ze7,d1]
     ·have:=ZfR r (i+1) _ c' h2 x.left.toNat
      have hc:=ha x.left.toNat;rw[d1]at hc;simp[ZdG,gn]at this hc;omega
    ·have d1:ch x.left.toNat=false:=by simpa using d1
     by_cases d2:ch x.right.toNat=true
     ·refine .inr ⟨?_,x.right.toNat,by simp;omega,?_⟩
      ·rw[Zca,Zcc,if_neg wJ]
       simp only[hv,ne_eq,not_true_eq_false,if_false];have k1:Ze7 i x.left ch=some (Zbr ch x.left.toNat):=by unfold Ze7;rw[if_neg (by rw[d1];simp;omega)]
       rw[k1];have k2:Ze7 i x.right (Zbr ch x.left.toNat)=none:=by unfold Ze7;rw[if_pos (.inr (.inr (by simp[Zbr,Ne.symm gn,d2])))]
       simp[k2]
      ·have:=ZfR r (i+1) _ c' h2 x.right.toNat
       have hc:=ha x.right.toNat;rw[d2]at hc;simp[ZdG,Ne.symm gn]at this hc;omega
     ·have d2:ch x.right.toNat=false:=by simpa using d2
      have e:Zca (x :: r) i (c.2,ch)=Zca r (i+1) (c.2,Zbr (Zbr ch x.left.toNat) x.right.toNat):=by
       rw[Zca,Zcc,if_neg wJ];simp only[hv,ne_eq,not_true_eq_false,if_false];have k1:Ze7 i x.left ch=some (Zbr ch x.left.toNat):=by unfold Ze7;rw[if_neg (by rw[d1];simp;omega)]
       have k2:Ze7 i x.right (Zbr ch x.left.toNat)=some (Zbr (Zbr ch x.left.toNat) x.right.toNat):=by unfold Ze7;rw[if_neg (by simp[Zbr,Ne.symm gn,d2];omega)]
       simp[k1,k2]
      rw[e]
      have po:Zlf (ZdG (ZdG c.1 x.left.toNat) x.right.toNat) (Zbr (Zbr ch x.left.toNat) x.right.toNat):=fun j=>by
       have h1:=ha j;simp only[ZdG,Zbr]
       by_cases e1:j=x.right.toNat
       ·rw[e1,d2]at h1
        simp[e1,Ne.symm gn,h1]
       ·by_cases e2:j=x.left.toNat
        ·rw[e2,d1]at h1
         simp[e2,gn,h1]
        ·simp[e1,e2,h1]
      rcases Zhi r (i+1) (ZdG (ZdG c.1 x.left.toNat) x.right.toNat,c.2) c' _ po h2 with h3|⟨h3,j,h4,h5⟩
      ·exact .inl h3
      ·exact .inr ⟨h3,j,by simp;omega,h5⟩
def Zm1 (f:Nat→Nat):Nat→Nat
 | 0=>0
 | m+1=>Zm1 f m+f m
def Znu (s:Nat→Bool):Nat→Nat
 | 0=>0
 | m+1=>Znu s m+(if s (m+1) then 1 else 0)
theorem Zhk(f:Nat→Nat)(k:Nat):∀m,Zm1 (ZdG f k) m=Zm1 f m+if k<m then 1 else 0
 | 0=>by simp[Zm1]
 | m+1=>by
   simp only[Zm1,Zhk f k m,ZdG]
   by_cases h1:k<m
   ·have:¬ m=k:=by omega
    simp[h1,this,show k<m+1 from by omega];omega
   ·by_cases h2:m=k
    ·simp[h2];omega
    ·simp[h1,h2,show ¬ k<m+1 from by omega]
theorem ZjB(s:Nat→Bool)(v:Nat)(hv:s v=false):∀m,Znu (Zbr s v) m=Znu s m+if 1≤v∧v≤m then 1 else 0
 | 0=>by
   have:¬ (1≤v∧v≤0):=by omega
   rw[if_neg this];rfl
 | m+1=>by
   simp only[Znu,ZjB s v hv m,Zbr]
   by_cases h1:m+1=v
   ·subst h1
    simp[hv]
   ·by_cases h2:1≤v∧v≤m
    ·have:1≤v∧v≤m+1:=by omega
     simp[h1,h2,this];omega
    ·have:¬ (1≤v∧v≤m+1):=by omega
     simp[h1,h2,this]
theorem ZlF(s:Nat→Bool):∀m,Znu s m≤m
 | 0=>ZrQ _
 | m+1=>by have:=ZlF s m;simp only[Znu];split <;> omega
theorem Zj3(f:Nat→Nat):∀m,(∀j,j<m→f j=1)→Zm1 f m=m
 | 0,_=>rfl
 | m+1,h=>by simp only[Zm1,Zj3 f m (fun j hj=>h j (by omega)),h m (by omega)]
theorem Zgy:∀(l:List VN) (i:Nat) (c c':(Nat→Nat) × (Nat→Bool)) (M:Nat),Zeg l i c=some c'→i+l.length≤M+1 →
  Zm1 c'.1 M+2*Znu c'.2 128=Zm1 c.1 M+2*Znu c.2 128+2*l.length
 | [],_,c,c',M,h,_=>by simp only[Zeg,ZrJ]at h;rw[h];rfl
 | x :: r,i,c,c',M,h,hM=>by
   obtain⟨c1,h1,h2⟩:=ZfQ h;have xY:i+1+r.length≤M+1:=by simp at hM;omega
   have ih:=Zgy r (i+1) c1 c' M h2 xY;rw[ih];rcases ZeD h1 with ⟨hl,hs,rfl⟩|⟨hl,hv,a1,a2,b1,b2,aJ,rfl⟩
   ·simp only[Zai,ZrK,ZrN]at hl
    rw[ZjB _ _ hs,if_pos (by omega)];simp;omega
   ·simp only
    rw[Zhk,Zhk,if_pos (by simp at hM;omega),if_pos (by simp at hM;omega)];simp;omega
theorem ZqK(t:List VN):Zop t=Zae t:=by
 unfold Zop Zae
 by_cases h0:t.length=0
 ·rw[if_pos h0,if_pos (.inl h0)]
 ·rw[if_neg h0]
  have ha:Zlf (fun _=>0) (fun _=>false):=fun j=>rfl
  by_cases h1:255<t.length
  ·rw[if_pos (.inr h1)]
   cases hr:Zeg t 0 (fun _=>0,fun _=>false) with
   | none=>rfl
   | some c' =>
     simp only[Zqh];rw[if_neg];intro az;have hc:=Zgy t 0 _ c' (t.length - 1) hr (by omega)
     have hs:=Zj3 c'.1 (t.length - 1) (fun j hj=>by
      have:=List.all_eq_true.1 az j (List.mem_range.2 hj);simpa using this)
     have hz:Zm1 (fun _=>0) (t.length - 1)=0:=by
      generalize t.length - 1=m
      induction m with
      | zero=>rfl
      | succ m ih=>simp[Zm1,ih]
     have av:Znu (fun _=>false) 128=0:=by
      generalize (128:Nat)=m
      induction m with
      | zero=>rfl
      | succ m ih=>simp[Znu,ih]
     have fE:=ZlF c'.2 128;simp only[hs,hz,av]at hc;omega
  ·rw[if_neg (by omega)]
   cases hr:Zeg t 0 (fun _=>0,fun _=>false) with
   | none=>rw[Zhh t 0 (fun _=>0,fun _=>false) (fun _=>false) ha hr];rfl
   | some c' =>
     rcases Zhi t 0 (fun _=>0,fun _=>false) c' (fun _=>false) ha hr with ⟨sI,h3,h4⟩|⟨h3,j,h4,h5⟩
     ·rw[h3]
      simp only[Zqh,Zqg]
      have:(List.range (t.length - 1)).all (fun j=>decide (c'.1 j=1))=(List.range (t.length - 1)).all sI:=by
       congr 1
       funext j
       rw[h4 j]
       cases sI j <;> rfl
      rw[this]
     ·rw[h3]
      simp only[Zqh,Zqg];rw[if_neg];intro az;have:=List.all_eq_true.1 az j (List.mem_range.2 (by omega));simp at this;omega
theorem Zdv{t:List VN}(w:World)(ba:Option Addr)(cap:Nat)(h:t=[]∨∃b o,ba=some ⟨b,o,none⟩∧Zag w b o t)(hl:t.length≤300) :
  Calls Tryz.prog 35 #[.slice ba t.length cap] w fun e w'=>e= .returned (.int .i64 (Zae t))∧Ext w w':=by
 rw[←ZqK]
 by_cases h0:t=[]
 ·subst h0
  exact ZkY w ba cap
 ·rcases h with h|⟨b,o,rfl,ht⟩
  ·exact absurd h h0
  ·exact ZkZ w b o cap ht (List.length_pos_iff.2 h0) hl
end Go.Proofs.YtemnmcfmabamcaaGreatDoor
