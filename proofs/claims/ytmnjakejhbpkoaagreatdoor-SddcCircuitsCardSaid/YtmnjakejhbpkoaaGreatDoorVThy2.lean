import Derived.Test.YtmnjakejhbpkoaaGreatDoorVNt3
set_option linter.unusedSimpArgs false
set_option linter.unusedVariables false
set_option maxRecDepth 100000
set_option maxHeartbeats 4000000
section
namespace Go.Proofs.YtmnjakejhbpkoaaGreatDoor
open Go Go.RowKit Go.Shelf
theorem Zo1(w:World):ZbK (w.alloc (.cells #[.int .u32 0] 146)) w.heap.size 146 1 (wrd 0):=by
 refine(Zfa w #[.int .u32 0] 146 _ rfl).congr fun j hj=>?_
 match j,hj with
 | 0,_=>rfl
theorem Zet{w:World}{a b:Nat}(h:a*b<256)(h1:a<256)(h2:b<256):Calls Tryz.prog 68 #[Zbx a,Zbx b] w fun e w'=>e= .returned (Zbx (a*b))∧Below w.heap.size w w':=by
 have q1:=fun W=>ZdC (w:=W) (n:=a) (by omega)
 have q2:=fun W=>ZdC (w:=W) (n:=b) (by omega)
 unfold Zbx at *;generalize hA:(⟨(Zb5 a).toArray⟩:ByteArray)=A at *;generalize hB:(⟨(Zb5 b).toArray⟩:ByteArray)=B at *;replace hA:=Zpe hA;replace hB:=Zpe hB;replace q1:=Zpe q1;replace q2:=Zpe q2;have aS:=(((Zpr w.heap.size w).alloc (ZpD _) (.cells #[.string A] 52)).alloc (by simp) (.cells #[.string B] 52)).alloc (by simp <;> omega) (.cells #[.string ⟨#[]⟩] 52);obtain⟨hx,hy,hr⟩:=Zcz w (.cells #[.string A] 52) (.cells #[.string B] 52) (.cells #[.string ⟨#[]⟩] 52)
 go_enter Tryz.func68,Tryz.ntmps68
 go_wp2_with fail;generalize (((w.alloc (.cells #[.string A] 52)).alloc (.cells #[.string B] 52)).alloc (.cells #[.string ⟨#[]⟩] 52))=w1 at *;have bW:w.heap.size+1+1<w1.heap.size:=(Zpi hr).1;have ca:w1.cell? ⟨w.heap.size,0,none⟩=some (.string A):=by simp[World.cell?,hx]
 have cb:w1.cell? ⟨w.heap.size+1,0,none⟩=some (.string B):=by simp[World.cell?,hy]
 (refine wp_region_held_drew (S:=(fun W=>W.cell? ⟨w.heap.size,0,none⟩=some (.string A)∧W.cell? ⟨w.heap.size+1,0,none⟩=some (.string B))) (by kernel_rfl) ?_ (fun aA=>?_))
 ·exact⟨ca,cb⟩
 (refine ZpE (i:=0) (v:=?_) rfl (by kernel_rfl) (fun _ _ _ h=>h) (Or.inl ⟨by rfl,?_⟩) (by assumption) ?_);rotate_left
 ·(intro w aB;(try dsimp only at aB);obtain⟨y0,y1⟩:=aB;go_simp;first|done|with_reducible rfl)
 (try simp only[Act.put,Zpf,Zpg,Zph]);(refine ZpE (i:=2) (v:=?_) rfl (by kernel_rfl) (fun _ _ _ h=>h) (Or.inl ⟨by rfl,?_⟩) (by assumption) ?_);rotate_left
 ·(intro w aB;(try dsimp only at aB);obtain⟨y0,y1⟩:=aB;go_simp;first|done|with_reducible rfl)
 (try simp only[Act.put,Zpf,Zpg,Zph]);(refine wpAnyH_ready (rs:=[1]) (by kernel_rfl) (by simp) ?_);(refine Zaw rfl (fun K hK=>?_))
 ((rw[if_pos (by rfl)]);go_simp;(go_at_call 110);refine(q1.out _).mono ?_;rintro e w3 ⟨g1,rfl,oe,aU,aR⟩;refine hK.out _ _ ⟨(aR.cell (Zpk _ _ aA.1)).trans aA.1,(aR.cell (Zpk _ _ aA.2)).trans aA.2⟩ (fun aA=>?_))
 (clear hK K)
 (try simp only[Act.put,Zpf,Zpg,Zph]);(refine wpAnyH_ready (rs:=[3]) (by kernel_rfl) (by simp) ?_);(refine Zaw rfl (fun K hK=>?_))
 ((rw[if_pos (by rfl)]);go_simp;(go_at_call 110);refine(q2.out _).mono ?_;rintro e w4 ⟨g2,rfl,fk,bM,ah⟩;refine hK.out _ _ ⟨(ah.cell (Zpk _ _ aA.1)).trans aA.1,(ah.cell (Zpk _ _ aA.2)).trans aA.2⟩ (fun aA=>?_))
 (clear hK K)
 (try simp only[Act.put,Zpf,Zpg,Zph]);(refine ZpE (i:=4) (v:=?_) rfl (by kernel_rfl) (fun _ _ _ h=>h) (Or.inl ⟨by rfl,?_⟩) (by assumption) ?_);rotate_left
 ·(intro w aB;(try dsimp only at aB);obtain⟨y0,y1⟩:=aB;go_simp;first|done|with_reducible rfl)
 (try simp only[Act.put,Zpf,Zpg,Zph]);(refine ZpE (i:=5) (v:=?_) rfl (by kernel_rfl) (fun _ _ _ h=>h) (Or.inl ⟨by rfl,?_⟩) (by assumption) ?_);rotate_left
 ·(intro w aB;(try dsimp only at aB);obtain⟨y0,y1⟩:=aB;go_simp;first|done|with_reducible rfl)
 (try simp only[Act.put,Zpf,Zpg,Zph]);(refine wpAnyH_done (by kernel_rfl) ?_ _);have j6:=aU.below ah;have lS:Below w1.heap.size w1 w3:=((Zpr w1.heap.size w1).drew).trans aR;have eW:=lS.trans (ah.mono aR.size);have eg:=(eW.block _ bW).trans hr;have og:w1.heap.size≤g1:=oe;have wy:w1.heap.size≤g2:=Zpp aR.size fk;have sD:g1≠g2:=by have:=aU.lt;omega
 have am:Hid (Below w.heap.size w w4):=Zpe (aS.trans (eW.mono aS.size));have ud:=aS.size;clear aA aR ah lS eW aU ca cb hx hy hr oe fk aS;generalize oN:nw a=n1 at *;generalize rI:nw b=n2 at *;have aX:n1=0∧a=0∨n1=1∧0<a:=by rw[←oN];unfold nw;split <;> omega
 have dW:n2=0∧b=0∨n2=1∧0<b:=by rw[←rI];unfold nw;split <;> omega
 clear oN rI;have uo:=fun W=>Zbr (by_:=4) Tryz.underlying147 (show (Tryz.prog.info? 146).map (fun i=>(i.zero,i.size,i.bytes))=some (some (.int .u32 0),1,4) by kernel_rfl) rfl 0 (by omega) (by omega) W
 rw[show (((0:Nat):Nat):Int)=0 from rfl]at uo;have nu:=fun W=>Zbr (by_:=4) Tryz.underlying147 (show (Tryz.prog.info? 146).map (fun i=>(i.zero,i.size,i.bytes))=some (some (.int .u32 0),1,4) by kernel_rfl) rfl 1 (by omega) (by omega) W
 rw[show (((1:Nat):Nat):Int)=1 from rfl,show madeCells #[Value.int .u32 0] 1=#[.int .u32 0] by simp[madeCells];exact⟨0,rfl,rfl⟩]at nu;have pu:=fun W=>Zbr (by_:=4) Tryz.underlying147 (show (Tryz.prog.info? 146).map (fun i=>(i.zero,i.size,i.bytes))=some (some (.int .u32 0),1,4) by kernel_rfl) rfl 2 (by omega) (by omega) W
 rw[show (((2:Nat):Nat):Int)=2 from rfl,show madeCells #[Value.int .u32 0] 2=#[.int .u32 0,.int .u32 0] by kernel_rfl]at pu;clear q1 q2;have mh:=(Zpi eg).1;have x1:=j6.below ((Zpr w4.heap.size w4).alloc (ZpD _) (.cells #[.int .u32 0] 146));have x2:=j6.below ((Zpr w4.heap.size w4).alloc (ZpD _) (.cells #[.int .u32 0,.int .u32 0] 146));have y2:=bM.below ((Zpr w4.heap.size w4).alloc (ZpD _) (.cells #[.int .u32 0,.int .u32 0] 146));rcases aX with ⟨rfl,rfl⟩|⟨rfl,ha⟩ <;> rcases dW with ⟨rfl,rfl⟩|⟨rfl,hb⟩
 ·clear nu pu
  go_wp2_with fail;refine wp_loop_rounds 1 ?_;rw[rounds_succ];go_wp2_with fail;have q:=Zbp (cap:=0) (n:=0*0) ((Zhf w4 0 (.int .u32 0) 146 w4.heap.size rfl).congr (g:=wrd (0*0)) fun j hj=>absurd hj (Nat.not_lt_zero _)) (Nat.zero_le 2) (by omega) (fun e=>rfl);have cC:=(Below.heap_alloc w4 (.cells (madeCells #[.int .u32 0] 0) 146) _ mh).trans eg;have ay:=Zpe (am.out.alloc am.out.size (.cells (madeCells #[.int .u32 0] 0) 146));generalize w4.alloc (.cells (madeCells #[.int .u32 0] 0) 146)=w8 at *;refine q.mono ?_;rintro e w9 ⟨rfl,bP⟩;have ar:=(bP.block (w.heap.size+1+1) (Zpi cC).1).trans cC;have ny:w9.frozen? ⟨w.heap.size+1+1,0,none⟩=false:=by simp[World.frozen?,ar]
  have o8:w9.cell? ⟨w.heap.size+1+1,0,none⟩=some (.string ⟨#[]⟩):=by simp[World.cell?,ar]
  have dQ:=Zpe (ay.out.trans (bP.mono ay.out.size));unfold Zbx;generalize hT:(⟨(Zb5 (0*0)).toArray⟩:ByteArray)=T at *;have aG:((w9.setCell ⟨w.heap.size+1+1,0,none⟩ (.string T)).cell? ⟨w.heap.size+1+1,0,none⟩=some (.string T)):=by simp[World.cell?,Zag ar 0 _]
  replace aG:=Zpe aG;replace ar:=Zpe ar;clear q bP cC ay;go_wp2_with fail;exact bodyPost_ret (v:=.agg #[.string T]) (by simp[results,Tryz.results68,go_sem,aG.out]) rfl ⟨by rw[←hT] <;> rfl,dQ.out.setCell (by exact Nat.le_add_right_of_le (Nat.le_succ _)) _⟩
 ·clear uo pu
  go_wp2_with fail;refine wp_loop_rounds 1 ?_;rw[rounds_succ];go_wp2_with fail;have q:=Zbp (cap:=1) (n:=0*b) ((Zo1 w4).congr (g:=wrd (0*b)) fun j hj=>by rw[Nat.zero_mul]) (Nat.le_succ 1) h (fun e=>by cases e);have cC:=(Below.heap_alloc w4 (.cells #[.int .u32 0] 146) _ mh).trans eg;have ay:=Zpe (am.out.alloc am.out.size (.cells #[.int .u32 0] 146));generalize w4.alloc (.cells #[.int .u32 0] 146)=w8 at *;refine q.mono ?_;rintro e w9 ⟨rfl,bP⟩;have ar:=(bP.block (w.heap.size+1+1) (Zpi cC).1).trans cC;have ny:w9.frozen? ⟨w.heap.size+1+1,0,none⟩=false:=by simp[World.frozen?,ar]
  have o8:w9.cell? ⟨w.heap.size+1+1,0,none⟩=some (.string ⟨#[]⟩):=by simp[World.cell?,ar]
  have dQ:=Zpe (ay.out.trans (bP.mono ay.out.size));unfold Zbx;generalize hT:(⟨(Zb5 (0*b)).toArray⟩:ByteArray)=T at *;have aG:((w9.setCell ⟨w.heap.size+1+1,0,none⟩ (.string T)).cell? ⟨w.heap.size+1+1,0,none⟩=some (.string T)):=by simp[World.cell?,Zag ar 0 _]
  replace aG:=Zpe aG;replace ar:=Zpe ar;clear q bP cC ay;go_wp2_with fail;exact bodyPost_ret (v:=.agg #[.string T]) (by simp[results,Tryz.results68,go_sem,aG.out]) rfl ⟨by rw[←hT] <;> rfl,dQ.out.setCell (by exact Nat.le_add_right_of_le (Nat.le_succ _)) _⟩
 ·clear uo pu
  have c0:=((x1.cell (j:=0) (by omega)).1);rw[show wrd a 0= .int .u32 (a:Nat) from rfl]at c0;go_wp2_with fail;refine wp_loop_rounds 2 ?_;rw[rounds_succ];go_wp2_with fail;refine wp_loop_rounds 1 ?_;rw[rounds_succ];go_wp2_with fail;rw[rounds_succ];go_wp2_with fail;have q:=Zbp (cap:=1) (n:=a*0) (Zo1 w4) (Nat.le_succ 1) (by omega) (fun e=>by cases e);have cC:=(Below.heap_alloc w4 (.cells #[.int .u32 0] 146) _ mh).trans eg;have ay:=Zpe (am.out.alloc am.out.size (.cells #[.int .u32 0] 146));generalize w4.alloc (.cells #[.int .u32 0] 146)=w8 at *;refine q.mono ?_;rintro e w9 ⟨rfl,bP⟩;have ar:=(bP.block (w.heap.size+1+1) (Zpi cC).1).trans cC;have ny:w9.frozen? ⟨w.heap.size+1+1,0,none⟩=false:=by simp[World.frozen?,ar]
  have o8:w9.cell? ⟨w.heap.size+1+1,0,none⟩=some (.string ⟨#[]⟩):=by simp[World.cell?,ar]
  have dQ:=Zpe (ay.out.trans (bP.mono ay.out.size));unfold Zbx;generalize hT:(⟨(Zb5 (a*0)).toArray⟩:ByteArray)=T at *;have aG:((w9.setCell ⟨w.heap.size+1+1,0,none⟩ (.string T)).cell? ⟨w.heap.size+1+1,0,none⟩=some (.string T)):=by simp[World.cell?,Zag ar 0 _]
  replace aG:=Zpe aG;replace ar:=Zpe ar;clear q bP cC ay;go_wp2_with fail;exact bodyPost_ret (v:=.agg #[.string T]) (by simp[results,Tryz.results68,go_sem,aG.out]) rfl ⟨by rw[←hT] <;> rfl,dQ.out.setCell (by exact Nat.le_add_right_of_le (Nat.le_succ _)) _⟩
 ·clear uo nu
  have v1:=(x2.cell (j:=0) (by omega)).1;rw[show wrd a 0= .int .u32 (a:Nat) from rfl]at v1;have v2:=(y2.cell (j:=0) (by omega)).1;rw[show wrd b 0= .int .u32 (b:Nat) from rfl]at v2;have ho:=Zox w4;have eT:=(Below.heap_alloc w4 (.cells #[.int .u32 0,.int .u32 0] 146) _ mh).trans eg;have dP:=Zpe (am.out.alloc am.out.size (.cells #[.int .u32 0,.int .u32 0] 146));have fB:w.heap.size≤w4.heap.size:=am.out.size;have cW:w.heap.size+1+1≠w4.heap.size:=by omega
  clear x1 x2 y2 j6 bM eg am sD;go_wp2_with fail;generalize w4.alloc (.cells #[.int .u32 0,.int .u32 0] 146)=w5 at *;generalize w4.heap.size=go at *;obtain⟨c0,z0⟩:=ho.cell (j:=0) (by omega);rw[show Zd9 (fun _=>Value.int .u32 0) 0 (.int .u32 (0:Nat)) 0= .int .u32 0 from rfl]at c0;have F1:=Zpe fun (W:World) (hW:Ext w5 W)=>And.intro (hW.cell c0) (hW.cell v2)
  have w0:IntKind.i64.wrap 0=0:=by decide
  have w1':IntKind.u64.wrap 0=0:=by decide
  have wa:IntKind.u64.wrap (a:Int)=a:=by simp[IntKind.wrap,IntKind.bits,IntKind.signed];omega
  have wb:IntKind.u64.wrap (b:Int)=b:=by simp[IntKind.wrap,IntKind.bits,IntKind.signed];omega
  obtain⟨p,hp⟩:∃p:Nat,p=a*b:=⟨_,rfl⟩
  have wp:IntKind.u64.wrap ((a:Int)*(b:Int))=(p:Int):=by
   have:((a*b:Nat):Int)=(a:Int)*(b:Int):=by push_cast;rfl
   rw[←this,←hp];simp[IntKind.wrap,IntKind.bits,IntKind.signed];omega
  have wp2:IntKind.u64.wrap (p:Int)=p:=by simp[IntKind.wrap,IntKind.bits,IntKind.signed];omega
  have pI:p<256:=by omega
  rw[←hp]at h;replace hp:=Zpe hp;refine wp_loop_rounds 2 ?_;rw[rounds_succ];go_wp2_with fail;refine wp_loop_rounds 2 ?_;rw[rounds_succ];go_wp2_with fail
  (refine Zah (by kernel_rfl) (by kernel_rfl) ?_
   repeat (refine wpQuiet_step (fun K hK=>?_)
           go_simp
           first
            | (refine hK _ ?_;clear hK K)
            | (replace hK:=Zpe hK
               apply Exists.intro
               refine⟨fun wq hq=>?_,hK.out _ ?_⟩
               ·(obtain⟨f1,f2⟩:=F1.out wq hq)
                go_simp
                first
                 | done
                 | rfl
                 | exact⟨rfl,rfl⟩
                 | done
               clear hK K))
   refine wpQuiet_nil ?_)
  intro w6 eL;have cz:=ho.ext eL;have jD:=(eL.below.block _ (Zpi eT).1).trans eT;have dB:Hid (Below w.heap.size w w6):=Zpe (dP.out.trans (eL.below.mono dP.out.size));obtain⟨d0,e0⟩:=cz.cell (j:=0) (by omega);obtain⟨d1,e1⟩:=cz.cell (j:=1) (by omega);rw[show Zd9 (fun _=>Value.int .u32 0) 0 (.int .u32 (0:Nat)) 0= .int .u32 0 from rfl]at d0;rw[show Zd9 (fun _=>Value.int .u32 0) 0 (.int .u32 (0:Nat)) 1= .int .u32 0 from rfl]at d1;replace cz:=Zpe cz;replace jD:=Zpe jD;clear F1 ho eT dP c0 z0 eL;go_wp2_with fail;rw[rounds_succ];go_wp2_with fail;rw[rounds_succ];go_wp2_with fail
  have q:=Zbp (cap:=2) (n:=p) (((cz.out.set 0 (.int .u32 (p:Nat))).set 1 (.int .u32 ((p:Int) / 4294967296))).congr (g:=wrd p) fun j hj=>by
   match j,hj with
   | 0,_=>rfl
   | 1,_=>show Value.int .u32 ((p:Int) / 4294967296)= .int .u32 0;congr 1;omega) (ZpD 2) pI (fun e=>by cases e)
  have cC:((w6.setCell ⟨go,0,none⟩ (.int .u32 (p:Nat))).setCell ⟨go,1,none⟩ (.int .u32 ((p:Int) / 4294967296))).heap[w.heap.size+1+1]? =some (.cells #[.string ⟨#[]⟩] 52 (0,0)):=(Zax _ _ cW).trans ((Zax _ _ cW).trans jD.out);have ay:Hid (Below w.heap.size w ((w6.setCell ⟨go,0,none⟩ (.int .u32 (p:Nat))).setCell ⟨go,1,none⟩ (.int .u32 ((p:Int) / 4294967296)))):=Zpe ((dB.out.setCell fB _).setCell fB _);generalize (w6.setCell ⟨go,0,none⟩ (.int .u32 (p:Nat))).setCell ⟨go,1,none⟩ (.int .u32 ((p:Int) / 4294967296))=w8 at *;rw[hp.out]at q;refine q.mono ?_;rintro e w9 ⟨rfl,bP⟩;have ar:=(bP.block (w.heap.size+1+1) (Zpi cC).1).trans cC;have ny:w9.frozen? ⟨w.heap.size+1+1,0,none⟩=false:=by simp[World.frozen?,ar]
  have o8:w9.cell? ⟨w.heap.size+1+1,0,none⟩=some (.string ⟨#[]⟩):=by simp[World.cell?,ar]
  have dQ:=Zpe (ay.out.trans (bP.mono ay.out.size));unfold Zbx;generalize hT:(⟨(Zb5 (a*b)).toArray⟩:ByteArray)=T at *;have aG:((w9.setCell ⟨w.heap.size+1+1,0,none⟩ (.string T)).cell? ⟨w.heap.size+1+1,0,none⟩=some (.string T)):=by simp[World.cell?,Zag ar 0 _]
  replace aG:=Zpe aG;replace ar:=Zpe ar;clear q bP cC ay;go_wp2_with fail;exact bodyPost_ret (v:=.agg #[.string T]) (by simp[results,Tryz.results68,go_sem,aG.out]) rfl ⟨by rw[←hT] <;> rfl,dQ.out.setCell (by exact Nat.le_add_right_of_le (Nat.le_succ _)) _⟩
theorem Zmu{a b:Nat}(ha:a<256)(hb:b<256)(h:Zb5 a=Zb5 b):a=b:=by
 unfold Zb5 at h
 split at h <;> split at h
 ·omega
 ·simp at h
 ·simp at h
 ·simp only[List.cons.injEq,and_true]at h
  have:=congrArg UInt8.toNat h;simp at this;omega
theorem ZoL(A B:ByteArray):(A ==B)=decide (A=B):=by
 show (A.data ==B.data)=_
 rw[Bool.eq_iff_iff,beq_iff_eq,decide_eq_true_iff];exact⟨fun h=>ByteArray.ext h,fun h=>by rw[h]⟩
theorem Ze3(a:Nat):(⟨(Zb5 a).toArray⟩:ByteArray).toList=Zb5 a:=by
 unfold Zb5
 split
 ·unfold ByteArray.toList
  rw[ByteArray.toList.loop];rfl
 ·unfold ByteArray.toList
  rw[ByteArray.toList.loop,ByteArray.toList.loop];rfl
theorem Zoq{a b:Nat}(ha:a<256)(hb:b<256)(w:World):(Op.equalIn 10000 52 (Zbx a) (Zbx b)).run Tryz.prog w= .ok (decide (a=b)) w:=by
 unfold Zbx;rw[run_equalIn_agg w _ _ _ _ (by kernel_rfl) (by kernel_rfl)]
 by_cases h1:a=b
 ·subst h1
  simp[go_sem]
 ·have h2:Zb5 a≠Zb5 b:=fun h=>h1 (Zmu ha hb h)
  have h3:(⟨(Zb5 a).toArray⟩:ByteArray)≠⟨(Zb5 b).toArray⟩:=fun h=>h2 (by have:=congrArg ByteArray.data h;simpa using this)
  have h4:((⟨(Zb5 a).toArray⟩:ByteArray) ==⟨(Zb5 b).toArray⟩)=false:=by rw[ZoL];exact Zpu h3
  have h5:¬ ((⟨(Zb5 a).toArray⟩:ByteArray).toList=(⟨(Zb5 b).toArray⟩:ByteArray).toList):=by rw[Ze3,Ze3];exact h2
  simp[go_sem,h1,h2,h4,h5]
theorem Zam.sameB{w w':World}{b o:Nat}{t:List VN}(h:Zam w b o t)(hs:w'.heap[b]? =w.heap[b]?):Zam w' b o t:=fun j x hj=>by
 have:=h j x hj;simpa only[World.cell?,hs] using this
theorem SL.treeL{t:List VN}{sb k:Nat}{X:List Nat}{s:St}{w0 w:World}(h:SL t sb k X s w0 w):Calls Tryz.prog 64 #[.pointer (some ⟨sb,0,none⟩)] w fun e w'=>∃g cap,e= .returned (.slice (some ⟨g,0,none⟩) t.length cap)∧w.heap.size≤g∧g<w'.heap.size∧Zam w' g 0 t∧Below w.heap.size w w':=by
 obtain⟨B,rfl,hR,_,_,_⟩:=h.ss;have hf:=h.few;have q:=ZmH hR (by rw[h.tree];omega);rw[h.tree]at q;refine q.mono ?_;rintro e w5 ⟨g5,vA,cs5,rfl,hg5,kN,we,aj⟩;exact⟨g5,vA,rfl,hg5,(Zpi kN).1,fun j x hj=>by rw[World.cell?,kN];exact we j x hj,aj⟩
structure ZmT (t:List VN) (sb xv gt ct gb pc pn:Nat) (f:Nat→Zak) (w:World):Prop where
 box:w.heap[xv]? =some (.cells #[.pointer (some ⟨sb,0,none⟩),.slice (some ⟨gt,0,none⟩) t.length ct,.slice (some ⟨gb,0,none⟩) t.length t.length,.map (some pc),.map (some pn)] 144 (0,0))
 tree:Zam w gt 0 t
 sets:ZaN w gb t.length f
 bel:∀j,j<t.length→ZbE t j (f j)
theorem ZmT.same{t:List VN}{sb xv gt ct gb pc pn:Nat}{f:Nat→Zak}{w w':World}(h:ZmT t sb xv gt ct gb pc pn f w)(h1:w'.heap[xv]? =w.heap[xv]?)(h2:w'.heap[gt]? =w.heap[gt]?)(h3:w'.heap[gb]? =w.heap[gb]?):ZmT t sb xv gt ct gb pc pn f w' :=
 ⟨h1.trans h.box,h.tree.sameB h2,h.sets.same h3,h.bel⟩
def Zhu (n:Nat):Value:=Zbx n
theorem ZiM{t:List VN}{sb k:Nat}{X:List Nat}{s:St}{w0 w:World}(h:SL t sb k X s w0 w){a:Nat}(ha:a<s.nodes.length) :
  Calls Tryz.prog 96 #[.pointer (some ⟨sb,0,none⟩),.int .i64 (a:Nat)] w fun e w'=>∃(xv gt ct gb pc pn:Nat) (f:Nat→Zak),e= .returned (.tuple #[.pointer (some ⟨xv,0,none⟩),.int .i64 0])∧SL t sb k (xv :: gt :: gb :: pc :: pn :: X) s w0 w'∧ZmT t sb xv gt ct gb pc pn f w' ∧
   ZaG Zab Zhu w' pc (fun _=>none)∧ZaG Zab Zab w' pn (fun _=>none)∧(pc≠pn∧gt≠gb∧∀y∈[gt,gb,pc,pn],y≠xv)∧(∀y∈[xv,gt,gb,pc,pn],w.heap.size≤y)∧Below w.heap.size w w':=by
 have hn:s.nodes[a]? =some s.nodes[a]:=Zpl ha;have q1:=h.at hn;have ji:∀w,(Instr.makeMap 141 none).run Tryz.prog w= .ok (.map (some w.heap.size)) (w.alloc (.map #[] 0)):=fun w=>rfl
 have xT:∀w,(Instr.makeMap 142 none).run Tryz.prog w= .ok (.map (some w.heap.size)) (w.alloc (.map #[] 0)):=fun w=>rfl
 go_enter Tryz.func96,Tryz.ntmps96
 go_wp2_with fail;refine q1.mono ?_;rintro e w1 ⟨rfl,aS⟩;have h1:=h.below aS;have q2:=h1.treeL;replace h1:=Zpe h1;clear q1 h hn;go_wp2_with fail;refine q2.mono ?_;rintro e w2 ⟨gt,ct,rfl,xF,xG,lN,aP⟩;have hc:=h1.out.chk;have q3:=Zhr (cap:=ct) w2 gt 0 lN hc;replace lN:=Zpe lN;clear q2;go_wp2_with fail;refine q3.mono ?_;rintro e w3 ⟨gb,f,bk,rfl,bd,iP,aR⟩;replace bd:=Zpe bd;replace iP:=Zpe iP;replace aR:=Zpe aR;clear q3;go_wp2_with fail;have vm:=bd.out.lt;have s2:=h1.out.own aP xF xG;have s3:=s2.own aR.out.below bk vm;have b4:Below w3.heap.size w3 (w3.alloc (.map #[] 0)):=(Zpr _ _).alloc (ZpD _) _;have s4:=s3.own (x:=w3.heap.size) b4 (ZpD _) (by simp);have b5:Below (w3.alloc (.map #[] 0)).heap.size (w3.alloc (.map #[] 0)) ((w3.alloc (.map #[] 0)).alloc (.map #[] 0)):=(Zpr _ _).alloc (ZpD _) _;have s5:=s4.own (x:=w3.heap.size+1) b5 (by simp) (by simp);obtain⟨bx,ao⟩:∃bx,bx=Obj.cells #[.pointer (some ⟨sb,0,none⟩),.slice (some ⟨gt,0,none⟩) t.length ct,.slice (some ⟨gb,0,none⟩) t.length t.length,.map (some w3.heap.size),.map (some (w3.heap.size+1))] 144 (0,0):=⟨_,rfl⟩;rw[←ao];have b6:Below ((w3.alloc (.map #[] 0)).alloc (.map #[] 0)).heap.size ((w3.alloc (.map #[] 0)).alloc (.map #[] 0)) (((w3.alloc (.map #[] 0)).alloc (.map #[] 0)).alloc bx):=(Zpr _ _).alloc (ZpD _) _;have s6:=s5.own (x:=w3.heap.size+1+1) b6 (by simp) (by simp);obtain⟨e1,e2,e3⟩:=Zcz w3 (.map #[] 0) (.map #[] 0) bx;have b7:Below w3.heap.size w3 (((w3.alloc (.map #[] 0)).alloc (.map #[] 0)).alloc bx):=((Zpr _ _).alloc (ZpD _) _ |>.alloc (by simp) _).alloc (by simp <;> omega) _;have jA:ZaG Zab Zhu (w3.alloc (.map #[] 0)) w3.heap.size (fun _=>none):=ZiN _ _ w3;have ec:ZaG Zab Zab ((w3.alloc (.map #[] 0)).alloc (.map #[] 0)) (w3.heap.size+1) (fun _=>none):=by have:=ZiN Zab Zab (w3.alloc (.map #[] 0));simpa using this
 have xQ:=(jA.same (b5.block _ jA.lt)).same (b6.block _ (by simp <;> omega));have xR:=ec.same (b6.block _ ec.lt);have tL:Zam (((w3.alloc (.map #[] 0)).alloc (.map #[] 0)).alloc bx) gt 0 t:=(lN.out.ext aR.out).below b7;have dh:=bd.out.below b7;have am:Below w.heap.size w (((w3.alloc (.map #[] 0)).alloc (.map #[] 0)).alloc bx):=aS.trans ((aP.trans ((aR.out.below.trans (b7.mono aR.out.below.size)).mono aP.size)).mono aS.size);generalize ((w3.alloc (.map #[] 0)).alloc (.map #[] 0)).alloc bx=w7 at *;have z1:=aS.size;have z2:=aP.size;have z3:=aR.out.below.size
 refine bodyPost_ret (v:=.tuple #[.pointer (some ⟨w3.heap.size+1+1,0,none⟩),.int .i64 0]) (by simp[results,Tryz.results96,go_sem]) rfl
  ⟨w3.heap.size+1+1,gt,ct,gb,w3.heap.size,w3.heap.size+1,f,rfl,s6.fewer (fun y hy=>?_),⟨by rw[e3,ao],tL,dh,iP.out⟩,xQ,xR,⟨by omega,by omega,fun y hy=>?_⟩,fun y hy=>?_,am⟩
 ·simp only[List.mem_cons]at hy ⊢
  rcases hy with rfl|rfl|rfl|rfl|rfl|hy
  ·exact .inl rfl
  ·exact .inr (.inr (.inr (.inr (.inl rfl))))
  ·exact .inr (.inr (.inr (.inl rfl)))
  ·exact .inr (.inr (.inl rfl))
  ·exact .inr (.inl rfl)
  ·exact .inr (.inr (.inr (.inr (.inr hy))))
 ·simp only[List.mem_cons,List.not_mem_nil,or_false]at hy
  rcases hy with rfl|rfl|rfl|rfl <;> omega
 ·simp only[List.mem_cons,List.not_mem_nil,or_false]at hy
  rcases hy with rfl|rfl|rfl|rfl|rfl <;> omega
theorem Zik{T:List (List Int)}{k:Nat}(hk:k<T.length):L.thVars (T.take (k+1))=L.clVars (L.thVars (T.take k)) T[k]:=by
 unfold L.thVars;rw[List.take_succ_eq_append_getElem hk,List.foldl_append]
 rfl
theorem ZhN{c:List Int}{k:Nat}(s:Zak)(hk:k<c.length):L.clVars s (c.take (k+1))=ZaA (L.clVars s (c.take k)) (c[k].natAbs:Int):=by
 unfold L.clVars;rw[List.take_succ_eq_append_getElem hk,List.foldl_append]
 rfl
theorem ZfW{n l:Int}(hn:n≤128)(h:L.validB n l=true):Zfq l=(l.natAbs:Int):=by
 have:=L.validB_range hn h;unfold Zfq
 split
 ·omega
 ·split
  ·omega
  ·omega
def cS (s:Zak):Obj:=.cells #[.int .u64 (lo s),.int .u64 (hi s)] 41 (0,0)
theorem Zkl:cS 0= .cells #[.int .u64 0,.int .u64 0] 41 (0,0):=by unfold cS;rw[show lo (0:Zak)=0 from rfl,show hi (0:Zak)=0 from rfl]
theorem ZjW{n:Int}{T:List (List Int)}{v:Value}{w:World}(hv:SlT w v T)(aq:L.thChk n T=0) :
  Calls Tryz.prog 80 #[.agg #[.int .i64 n,v]] w fun e w'=>e= .returned (ZaT (L.thVars T))∧Ext w w':=by
 obtain⟨⟨cO,aX⟩,hT,aN⟩:=L.thChk_ok.1 aq;have qc:=fun W (h:SlT W v T)=>Zfg (n:=n) h
 rw[aq]at qc;obtain⟨ba,cp,rfl,gV⟩:=id hv;obtain⟨w3,de⟩:∃w3,w3=((w.alloc (.cells #[.int .i64 n,.slice ba T.length cp] 24)).alloc (.cells #[.int .u64 0,.int .u64 0] 41)).alloc (.cells #[.int .u64 0,.int .u64 0] 41):=⟨_,rfl⟩;obtain⟨e1,e2,e3⟩:=Zcz w (.cells #[.int .i64 n,.slice ba T.length cp] 24) (.cells #[.int .u64 0,.int .u64 0] 41) (.cells #[.int .u64 0,.int .u64 0] 41);have aR:Ext w w3:=by rw[de];exact(((Ext.refl w).alloc _).alloc _).alloc _
 rw[←de]at e1 e2 e3;have q1:=qc w3 (hv.ext aR.below);have ut:w3.cell? ⟨w.heap.size,0,none⟩=some (.int .i64 n):=by simp[World.cell?,e1]
 have q8:w3.cell? ⟨w.heap.size,1,none⟩=some (.slice ba T.length cp):=by simp[World.cell?,e1]
 replace e2:=Zpe e2;replace e3:=Zpe e3;replace aR:=Zpe aR;replace aN:=Zpe aN
 have aO:∀j (hj:j<T.length),∃b o u,ba=some ⟨b,o,none⟩∧w.cell? ⟨b,o+j,none⟩=some u∧SlI w u T[j]:=fun j hj=>by
  rcases gV with ⟨_,rfl,_⟩|⟨b,o,rfl,h⟩
  ·simp at hj
  ·obtain⟨u,h1,h2⟩:=h j hj
   exact⟨b,o,u,rfl,h1,h2⟩
 replace aO:=Zpe aO;clear hv gV qc aq
 go_enter Tryz.func80,Tryz.ntmps80
 go_wp2_with fail;rw[←de];replace de:=Zpe de;refine q1.mono ?_;rintro e w4 ⟨rfl,ah⟩;have vC:=ah.cell q8;have g2:=ah.below.block _ (Zpi e2.out).1 |>.trans e2.out
 have g3:=ah.below.block _ (Zpi e3.out).1 |>.trans e3.out
 have bK:=aR.out.trans ah;replace g2:=Zpe g2;replace g3:=Zpe g3;replace bK:=Zpe bK;clear q1 ut q8 e1 e2 e3 aR ah;go_wp2_with fail;obtain⟨Z,hZ⟩:∃Z,Z=w.heap.size+1:=⟨_,rfl⟩;rw[←hZ]at g2 g3 ⊢;replace hZ:=Zpe hZ
 go_loopw [15] (fun i wr=>∃k:Nat,k≤T.length∧i= .int .i64 k∧(wr.heap[Z+1]? =some (cS (L.thVars (T.take k)))∧wr.heap[Z]? =some (.cells #[.int .u64 0,.int .u64 0] 41 (0,0))∧Ext w wr)) (fun i _=>T.length - (intOf i).toNat)
 case atStart=>exact⟨0,Nat.zero_le _,rfl,g3.out.trans (congrArg some Zkl.symm),g2.out,bK.out⟩
 case round =>
  obtain⟨k,hk,rfl,hH,hz,hx⟩:=hrel;clear vC g2 g3 bK
  by_cases aE:k<T.length
  ·obtain⟨b,o,u,rfl,f1,f2⟩:=aO.out k aE
   have f1:=hx.cell f1;obtain⟨bb,cc,rfl,f2⟩:=f2;obtain⟨eC,gh⟩:=aN.out _ (Zpz aE);have bN:=Zik aE;generalize mH:L.thVars (T.take k)=s0 at *;generalize e8:T[k]=c at *
   have f3:∀j (hj:j<c.length),∃b o,bb=some ⟨b,o,none⟩∧w.cell? ⟨b,o+j,none⟩=some (.int .i64 c[j]):=fun j hj=>by
    rcases f2 with ⟨_,rfl,_⟩|⟨b,o,h1,h2⟩
    ·simp at hj
    ·exact⟨b,o,h1,h2 j hj⟩
   replace f3:=Zpe f3;replace bN:=Zpe bN;replace mH:=Zpe mH;replace e8:=Zpe e8;replace gh:=Zpe gh;replace hH:=Zpe hH;replace hz:=Zpe hz;replace hx:=Zpe hx;clear f2 aO de aN;go_wp2_with fail
   go_loopw [21] (fun i wr=>∃m:Nat,m≤c.length∧i= .int .i64 m∧(wr.heap[Z+1]? =some (cS (L.clVars s0 (c.take m)))∧wr.heap[Z]? =some (.cells #[.int .u64 0,.int .u64 0] 41 (0,0))∧Ext w wr)) (fun i _=>c.length - (intOf i).toNat)
   case atStart=>exact⟨0,Nat.zero_le _,rfl,hH.out,hz.out,hx.out⟩
   case round =>
    obtain⟨m,hm,rfl,hH,hz,hx⟩:=hrel
    by_cases hlt2:m<c.length
    ·obtain⟨b2,o2,rfl,f4⟩:=f3.out m hlt2
     have f4:=hx.cell f4;have av:=ZfW aX (gh.out _ (Zpz hlt2));have ed:=ZhN s0 hlt2;rw[←av]at ed;replace av:=Zpe av;generalize L.clVars s0 (c.take m)=s1 at *;generalize c[m]=x at *;have c0:wr.cell? ⟨Z+1,0,none⟩=some (.int .u64 (lo s1)):=by simp[World.cell?,hH,cS]
     have c1:wr.cell? ⟨Z+1,1,none⟩=some (.int .u64 (hi s1)):=by simp[World.cell?,hH,cS]
     have bW:Z+1<wr.heap.size:=Zpk wr _ c0;have qv:=fun W=>ZgB x W
     generalize Zfq x=y at *;have qw:=fun W=>Zex s1 y W
     unfold ZaT at qw;replace qv:=Zpe qv;replace qw:=Zpe qw;replace ed:=Zpe ed;replace hH:=Zpe hH;replace hz:=Zpe hz;replace hx:=Zpe hx;go_wp2_with fail;(refine ZaQ (S:=(fun V=>V.cell? ⟨Z+1,0,none⟩=some (.int .u64 (lo s1))∧V.cell? ⟨Z+1,1,none⟩=some (.int .u64 (hi s1)))) 4 (by kernel_rfl) ?_ (fun aA=>?_))
     ·exact⟨c0,c1⟩
     (refine Zac (i:=0) (v:=?_) rfl (by kernel_rfl) (by decide) (by kernel_rfl) (by kernel_rfl) (by kernel_rfl) (fun _ _ _ h=>h) (Or.inl ⟨by rfl,?_⟩) (by assumption) ?_);rotate_left
     ·(intro w aB;(try dsimp only at aB);obtain⟨r0,r1⟩:=aB;go_simp;first|done|with_reducible rfl)
     (try simp only[Act.put,Zpf,Zpg,Zph]);(refine Zac (i:=1) (v:=?_) rfl (by kernel_rfl) (by decide) (by kernel_rfl) (by kernel_rfl) (by kernel_rfl) (fun _ _ _ h=>h) (Or.inl ⟨by rfl,?_⟩) (by assumption) ?_);rotate_left
     ·(intro w aB;(try dsimp only at aB);skip;go_simp;first|done|with_reducible rfl)
     (try simp only[Act.put,Zpf,Zpg,Zph]);(refine ZaI (i:=2) (by kernel_rfl) rfl (fun K hK=>?_))
     ((rw[if_pos (by rfl)]);go_simp;(go_at_call 143);refine(qv.out _).mono ?_;rintro e v1 ⟨rfl,rfl⟩;refine hK.out _ _ aA (fun aA=>?_))
     (clear hK K)
     (try simp only[Act.put,Zpf,Zpg,Zph]);(refine ZaI (i:=3) (by kernel_rfl) rfl (fun K hK=>?_))
     ((rw[if_pos (by rfl)]);go_simp;(go_at_call 113);refine(qw.out _).mono ?_;rintro e v2 ⟨rfl,ap⟩;refine hK.out _ _ ⟨ap.cell aA.1,ap.cell aA.2⟩ (fun aA=>?_))
     (clear hK K)
     (try simp only[Act.put,Zpf,Zpg,Zph]);have gK:Ext wr v2:=((Ext.refl wr).drew).trans ap;have mE:=(gK.below.block _ bW).trans hH.out;have bE:=(gK.below.block _ (by omega)).trans hz.out;have z0:v2.cell? ⟨Z+1,0,none⟩=some (.int .u64 (lo s1)):=aA.1;have z1:v2.cell? ⟨Z+1,1,none⟩=some (.int .u64 (hi s1)):=aA.2;have y0:v2.frozen? ⟨Z+1,0,none⟩=false:=by simp[World.frozen?,mE,cS]
     have y1:v2.frozen? ⟨Z+1,1,none⟩=false:=by simp[World.frozen?,mE,cS]
     have iV:w.heap.size≤Z+1:=by have:=hZ.out;omega
     have ac:Hid (((v2.setCell ⟨Z+1,0,none⟩ (.int .u64 (lo (ZaA s1 y)))).setCell ⟨Z+1,1,none⟩ (.int .u64 (hi (ZaA s1 y)))).heap[Z+1]? =some (cS (L.clVars s0 (c.take (m+1))))∧((v2.setCell ⟨Z+1,0,none⟩ (.int .u64 (lo (ZaA s1 y)))).setCell ⟨Z+1,1,none⟩ (.int .u64 (hi (ZaA s1 y)))).heap[Z]? =some (.cells #[.int .u64 0,.int .u64 0] 41 (0,0))∧Ext w ((v2.setCell ⟨Z+1,0,none⟩ (.int .u64 (lo (ZaA s1 y)))).setCell ⟨Z+1,1,none⟩ (.int .u64 (hi (ZaA s1 y))))):=Zpe ⟨by
      rw[ed.out];exact Zav mE _ _,((Below.heap_setCell _ _ _ _ (by simp)).trans (Below.heap_setCell _ _ _ _ (by simp))).trans bE,((hx.out.trans gK).setCell iV _).setCell iV _⟩
     clear aA ap gK mE bE c0 c1 f1 f4 iV;(refine Zbt (by kernel_rfl) rfl (by kernel_rfl) (fun K hK=>?_))
     ((rw[if_pos (by rfl)]);go_simp;refine hK.out _ _ ?_)
     (clear hK K)
     (try simp only[Act.put,Zpf,Zpg,Zph]);go_wp2_with fail;exact⟨⟨m+1,by omega,rfl,ac.out⟩,by simp[intOf];omega⟩
    ·obtain rfl:m=c.length:=by omega
     rw[List.take_length]at hH;replace hH:=Zpe hH;replace hz:=Zpe hz;replace hx:=Zpe hx;go_wp2_with fail;exact⟨⟨k+1,by omega,rfl,by rw[bN.out];exact hH.out,hz.out,hx.out⟩,by simp[intOf];omega⟩
  ·obtain rfl:k=T.length:=by omega
   rw[List.take_length]at hH;obtain⟨s0,eI⟩:∃s0,s0=L.thVars T:=⟨_,rfl⟩;rw[←eI]at hH;replace eI:=Zpe eI;have c0:wr.cell? ⟨Z+1,0,none⟩=some (.int .u64 (lo s0)):=by simp[World.cell?,hH,cS]
   have c1:wr.cell? ⟨Z+1,1,none⟩=some (.int .u64 (hi s0)):=by simp[World.cell?,hH,cS]
   have z0:wr.cell? ⟨Z,0,none⟩=some (.int .u64 0):=by simp[World.cell?,hz]
   have z1:wr.cell? ⟨Z,1,none⟩=some (.int .u64 0):=by simp[World.cell?,hz]
   have y0:wr.frozen? ⟨Z,0,none⟩=false:=by simp[World.frozen?,hz]
   have y1:wr.frozen? ⟨Z,1,none⟩=false:=by simp[World.frozen?,hz]
   have iV:w.heap.size≤Z:=by have:=hZ.out;omega
   have r0:((wr.setCell ⟨Z,0,none⟩ (.int .u64 (lo s0))).setCell ⟨Z,1,none⟩ (.int .u64 (hi s0))).cell? ⟨Z,0,none⟩=some (.int .u64 (lo s0)):=by
    rw[World.cell?,Zav hz];rfl
   have r1:((wr.setCell ⟨Z,0,none⟩ (.int .u64 (lo s0))).setCell ⟨Z,1,none⟩ (.int .u64 (hi s0))).cell? ⟨Z,1,none⟩=some (.int .u64 (hi s0)):=by
    rw[World.cell?,Zav hz];rfl
   have cu:Ext w ((wr.setCell ⟨Z,0,none⟩ (.int .u64 (lo s0))).setCell ⟨Z,1,none⟩ (.int .u64 (hi s0))):=(hx.setCell iV _).setCell iV _;replace cu:=Zpe cu;replace hH:=Zpe hH;replace hz:=Zpe hz;replace hx:=Zpe hx;replace r0:=Zpe r0;replace r1:=Zpe r1;go_wp2_with fail;exact bodyPost_ret (v:=ZaT s0) (by simp[results,Tryz.results80,go_sem,r0.out,r1.out,ZaT]) rfl ⟨by rw[eI.out],cu.out⟩
end Go.Proofs.YtmnjakejhbpkoaaGreatDoor
end
