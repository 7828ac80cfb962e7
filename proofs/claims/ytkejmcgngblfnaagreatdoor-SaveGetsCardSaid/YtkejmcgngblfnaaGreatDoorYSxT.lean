/-
  The table of abstract codes by which the example of chapter 38 is run, by program (mkx.py). No claim is proved here.
-/
import Derived.Test.YtkejmcgngblfnaaGreatDoorYAbX
import Derived.Test.YtkejmcgngblfnaaGreatDoorYSv1
namespace Go.Proofs.YtkejmcgngblfnaaGreatDoor.Ab
open Go
def xtab:XTab:=[
 (npa_,⟨cpa_,0,[46,45,44,43,42,41,40,39,38,37,36,35]⟩),
 (nsP_,⟨csP_,0,[76,75,74,73,72,71,70,69,68,67,66,65]⟩),
 (nsG_,⟨csG_,0,[18,17,16,15,14,13,12,11,10,8,7,6]⟩),
 (ns18,⟨cs15,2,[13,12,11,10,9,8,7,6,5,4,3,1]⟩),
 (nswn_,⟨cswn_,1,[31,30,27,26,25,24,23,22,21,20,19,18]⟩),
 (nswv_,⟨cswv_,1,[19,18,17,16,15,14,13,12,11,10,9,8]⟩),
 (nswr_,⟨cswr_,1,[49,48,47,46,45,44,43,42,41,40,39,38]⟩),
 (nsww_,⟨csww_,1,[16,15,14,13,12,11,10,9,8,7,6,5]⟩),
 (ns11,⟨cs12,1,[19,18,16,14,13,12,11,10,9,8,7,6]⟩),
 (nspr_,⟨cspr_,1,[11,10,9,8,7,6,5,4,3,1]⟩),
 (nsrn_,⟨csrn_,1,[47,46,45,44,43,42,41,40,39,38,37,36]⟩),
 (nsrv_,⟨csrv_,1,[28,27,26,25,24,23,22,21,20,19,18,17]⟩),
 (nsrs_,⟨cs11,1,[24,23,22,21,20,19,18,17,16,15,14,13]⟩),
 (nsrc_,⟨csrc_,1,[26,25,24,23,22,21,20,19,18,17,16,15]⟩),
 (nsrr_,⟨csrr_,1,[28,27,26,25,24,23,22,21,20,19,18,17]⟩),
 (ns12,⟨csrs_,1,[83,82,81,80,79,78,77,76,75,74,73,72]⟩),
 (nsrs1_,⟨csrs1_,1,[8,7,6,5,4,3,2]⟩),
 (nslaV_,⟨cs10,1,[43,42,39,38,37,36,35,34,33,32,31,30]⟩),
 (nslaS_,⟨cslaS_,1,[43,42,39,38,37,36,35,34,33,32,31,30]⟩),
 (nslaC_,⟨cslaC_,1,[43,42,39,38,37,36,35,34,33,32,31,30]⟩),
 (nslaR_,⟨cslaR_,1,[43,42,39,38,37,36,35,34,33,32,31,30]⟩),
 (ns10,⟨cslaV_,1,[43,42,39,38,37,36,35,34,33,32,31,30]⟩),
 (nvR_,⟨cvR_,0,[31,30,29,28,27,26,25,24,23,22,21,20]⟩),
 (nvI_,⟨cvI_,0,[4,3,1]⟩),
 (nvS_,⟨cvS_,0,[4,3,1]⟩),
 (nvB_,⟨cvB_,0,[4,3,1]⟩),
 (nkC_,⟨ckC_,0,[15,14,13,12,11,10,9,8,7,6,4,3]⟩),
 (nk10,⟨ck11,0,[69,68,67,66,65,64,63,62,61,60,59,58]⟩),
 (nkc_,⟨ckc_,0,[61,60,59,58,57,56,55,54,53,52,51,50]⟩),
 (neN_,⟨ceN_,1,[59,58,57,56,55,54,53,52,51,50,49,48]⟩),
 (neMp_,⟨ceMp_,1,[25,24,23,22,21,20,19,18,17,16,15,14]⟩),
 (neMS_,⟨ceMS_,2,[35,34,33,32,31,30,29,28,27,26,25,24]⟩),
 (neMD_,⟨ceMD_,2,[23,22,19,18,17,16,15,14,13,12,11,10]⟩),
 (neMR_,⟨ceMR_,2,[9,8,7,6,5,4,3,1]⟩),
 (ntN_,⟨ctN_,1,[8,7,6,5,2,1]⟩),
 (ntTP_,⟨ctTP_,1,[69,68,67,66,65,64,63,62,61,60,59,58]⟩),
 (ntTR_,⟨ctTR_,2,[27,26,25,22,21,20,19,18,17,16,15,14]⟩),
 (ntTR1_,⟨ctTR1_,0,[16,15,14,13,12,11,10,9,8,7,6,5]⟩),
 (nt10,⟨ct10,2,[8,7,6,5,4,3,2,1]⟩),
 (ntc_,⟨ctc_,0,[9,8,7,6,5,3,2]⟩),
 (nsCaVaV_,⟨csCaVaV_,0,[6,4,3,2,1]⟩),
 (nsCaSaS_,⟨csCaSaS_,0,[6,4,3,2,1]⟩),
 (nsCaCaC_,⟨csCaCaC_,0,[6,4,3,2,1]⟩),
 (nsSaRaR_,⟨csSaRaR_,0,[13,12,11,10,9,8,7,6,5,4,3,2]⟩),
 (nspaR_,⟨cspaR_,0,[147,146,145,144,143,142,141,140,139,138,137,136]⟩),
 (nsiaR_,⟨csiaR_,0,[52,51,50,49,48,47,46,45,44,43,42,41]⟩),
 (nm11,⟨cm11,0,[7,6,5,4,3,2,1]⟩),
 (nmbL_,⟨cmbL_,0,[24,23,22,21,20,19,18,17,16,15,14,13]⟩),
 (nm10,⟨cm10,0,[18,17,16,15,14,13,12,11,10,9,8,7]⟩),
 (nbK_,⟨cbK_,0,[26,25,24,22,20,19,16,15,14,13,12,11]⟩),
 (niIA_,⟨ciIA_,2,[31,30,29,28,27,26,25,24,23,22,21,20]⟩),
 (ndO_,⟨cdO_,0,[23,22,21,20,19,18,17,16,15,14,13,12]⟩),
 (ns17,⟨cs13,1,[26,25,24,23,22,21,20,19,18,17,16,15]⟩),
 (ncS_,⟨ccS_,0,[24,23,22,19,18,17,16,15,14,13,12,11]⟩),
 (ncR_,⟨ccR_,0,[16,15,14,13,12,11,10,9,8,7,6,5]⟩),
 (ncf_,⟨ccf_,0,[36,35,34,33,32,31,30,29,28,27,26,25]⟩),
 (nch_,⟨cch_,0,[95,94,93,92,91,90,89,88,87,86,85,84]⟩),
 (nct_,⟨cct_,0,[20,19,18,17,16,15,14,13,12,11,10,9]⟩),
 (ncs_,⟨ccs_,0,[40,39,38,37,36,35,34,33,32,31,30,29]⟩),
 (ncP_,⟨ccP_,0,[12,11,10,9,8,7,6,5,4,3,2]⟩),
 (ncn_,⟨ccn_,0,[5,4,3,2]⟩),
 (nce_,⟨cce_,0,[146,145,144,143,142,141,140,139,138,137,136,135]⟩),
 (ncaaQ_,⟨ccaaQ_,0,[19,18,17,16,15,14,13,12,11,10,9,8]⟩),
 (ncaaF_,⟨ccaaF_,0,[19,18,17,16,15,14,13,12,11,10,9,8]⟩),
 (nc10,⟨cc10,0,[19,18,17,16,15,14,13,12,11,10,9,8]⟩),
 (ncaaN_,⟨ccaaN_,0,[19,18,17,16,15,14,13,12,11,10,9,8]⟩),
 (ncaaT_,⟨ccaaT_,0,[19,18,17,16,15,14,13,12,11,10,9,8]⟩),
 (ncai_,⟨ccai_,0,[19,18,17,16,15,14,13,12,11,10,9,8]⟩),
 (ncaaS_,⟨ccaaS_,0,[19,18,17,16,15,14,13,12,11,10,9,8]⟩),
 (ncas_,⟨ccas_,0,[19,18,17,16,15,14,13,12,11,10,9,8]⟩),
 (ncn1_,⟨ccn1_,0,[14,13,12,11,10,9,8,7,6,5,4,3]⟩),
 (nsC_,⟨csC_,0,[21,20,19,18,17,16,15,14,13,12,11,10]⟩),
 (nso_,⟨cso_,0,[36,35,34,33,32,31,30,29,28,27,26,25]⟩),
 (nsN_,⟨csN_,0,[13,12,11,10,9,8,7,6,5,4,3,2]⟩),
 (nsS_,⟨csS_,0,[24,23,22,21,20,19,18,17,16,15,14,13]⟩),
 (nsS1_,⟨csS1_,0,[28,27,26,25,24,23,22,21,20,19,18,17]⟩),
 (nsW_,⟨csW_,0,[9,8,7,6,5,4,3,2,1]⟩),
 (nsI_,⟨csI_,0,[7,6,5,4,3,2]⟩),
 (nsi_,⟨csi_,0,[20,19,18,17,16,15,14,13,12,11,9,8]⟩),
 (nsCss_,⟨csCss_,0,[8,7,6,5,4,3,2]⟩),
 (nsIss_,⟨csIss_,0,[18,17,16,15,14,13,12,11,10,9,8,7]⟩),
 (nsCaTaT_,⟨csCaTaT_,0,[8,7,6,5,4,3,2]⟩),
 (nsIaTaT_,⟨csIaTaT_,0,[18,17,16,15,14,13,12,11,10,9,8,7]⟩)]
theorem xpa_:b10 Tryz.prog npa_=true∧∃fn,Tryz.prog.funcs[npa_]? =some fn∧chkF Tryz.prog fn cpa_=true:=⟨by kernel_rfl,_,Tryz.func8,kpa_⟩
theorem xsP_:b10 Tryz.prog nsP_=true∧∃fn,Tryz.prog.funcs[nsP_]? =some fn∧chkF Tryz.prog fn csP_=true:=⟨by kernel_rfl,_,Tryz.func9,ksP_⟩
theorem xsG_:b10 Tryz.prog nsG_=true∧∃fn,Tryz.prog.funcs[nsG_]? =some fn∧chkF Tryz.prog fn csG_=true:=⟨by kernel_rfl,_,Tryz.func11,ksG_⟩
theorem xs14:b10 Tryz.prog ns18=true∧∃fn,Tryz.prog.funcs[ns18]? =some fn∧chkF Tryz.prog fn cs15=true:=⟨by kernel_rfl,_,Tryz.func17,ks18⟩
theorem xswn_:b10 Tryz.prog nswn_=true∧∃fn,Tryz.prog.funcs[nswn_]? =some fn∧chkF Tryz.prog fn cswn_=true:=⟨by kernel_rfl,_,Tryz.func25,kswn_⟩
theorem xswv_:b10 Tryz.prog nswv_=true∧∃fn,Tryz.prog.funcs[nswv_]? =some fn∧chkF Tryz.prog fn cswv_=true:=⟨by kernel_rfl,_,Tryz.func26,kswv_⟩
theorem xswr_:b10 Tryz.prog nswr_=true∧∃fn,Tryz.prog.funcs[nswr_]? =some fn∧chkF Tryz.prog fn cswr_=true:=⟨by kernel_rfl,_,Tryz.func27,kswr_⟩
theorem xsww_:b10 Tryz.prog nsww_=true∧∃fn,Tryz.prog.funcs[nsww_]? =some fn∧chkF Tryz.prog fn csww_=true:=⟨by kernel_rfl,_,Tryz.func58,ksww_⟩
theorem xs12:b10 Tryz.prog ns11=true∧∃fn,Tryz.prog.funcs[ns11]? =some fn∧chkF Tryz.prog fn cs12=true:=⟨by kernel_rfl,_,Tryz.func59,ks12⟩
theorem xspr_:b10 Tryz.prog nspr_=true∧∃fn,Tryz.prog.funcs[nspr_]? =some fn∧chkF Tryz.prog fn cspr_=true:=⟨by kernel_rfl,_,Tryz.func60,kspr_⟩
theorem xsrn_:b10 Tryz.prog nsrn_=true∧∃fn,Tryz.prog.funcs[nsrn_]? =some fn∧chkF Tryz.prog fn csrn_=true:=⟨by kernel_rfl,_,Tryz.func61,ksrn_⟩
theorem xsrv_:b10 Tryz.prog nsrv_=true∧∃fn,Tryz.prog.funcs[nsrv_]? =some fn∧chkF Tryz.prog fn csrv_=true:=⟨by kernel_rfl,_,Tryz.func65,ksrv_⟩
theorem xs11:b10 Tryz.prog nsrs_=true∧∃fn,Tryz.prog.funcs[nsrs_]? =some fn∧chkF Tryz.prog fn cs11=true:=⟨by kernel_rfl,_,Tryz.func100,ks11⟩
theorem xsrc_:b10 Tryz.prog nsrc_=true∧∃fn,Tryz.prog.funcs[nsrc_]? =some fn∧chkF Tryz.prog fn csrc_=true:=⟨by kernel_rfl,_,Tryz.func102,ksrc_⟩
theorem xsrr_:b10 Tryz.prog nsrr_=true∧∃fn,Tryz.prog.funcs[nsrr_]? =some fn∧chkF Tryz.prog fn csrr_=true:=⟨by kernel_rfl,_,Tryz.func67,ksrr_⟩
theorem xsrs_:b10 Tryz.prog ns12=true∧∃fn,Tryz.prog.funcs[ns12]? =some fn∧chkF Tryz.prog fn csrs_=true:=⟨by kernel_rfl,_,Tryz.func30,ksrs_⟩
theorem xsrs1_:b10 Tryz.prog nsrs1_=true∧∃fn,Tryz.prog.funcs[nsrs1_]? =some fn∧chkF Tryz.prog fn csrs1_=true:=⟨by kernel_rfl,_,Tryz.func63,ksrs1_⟩
theorem xs10:b10 Tryz.prog nslaV_=true∧∃fn,Tryz.prog.funcs[nslaV_]? =some fn∧chkF Tryz.prog fn cs10=true:=⟨by kernel_rfl,_,Tryz.func64,ks10⟩
theorem xslaS_:b10 Tryz.prog nslaS_=true∧∃fn,Tryz.prog.funcs[nslaS_]? =some fn∧chkF Tryz.prog fn cslaS_=true:=⟨by kernel_rfl,_,Tryz.func99,kslaS_⟩
theorem xslaC_:b10 Tryz.prog nslaC_=true∧∃fn,Tryz.prog.funcs[nslaC_]? =some fn∧chkF Tryz.prog fn cslaC_=true:=⟨by kernel_rfl,_,Tryz.func101,kslaC_⟩
theorem xslaR_:b10 Tryz.prog nslaR_=true∧∃fn,Tryz.prog.funcs[nslaR_]? =some fn∧chkF Tryz.prog fn cslaR_=true:=⟨by kernel_rfl,_,Tryz.func66,kslaR_⟩
theorem xslaV_:b10 Tryz.prog ns10=true∧∃fn,Tryz.prog.funcs[ns10]? =some fn∧chkF Tryz.prog fn cslaV_=true:=⟨by kernel_rfl,_,Tryz.func62,kslaV_⟩
theorem xvR_:b10 Tryz.prog nvR_=true∧∃fn,Tryz.prog.funcs[nvR_]? =some fn∧chkF Tryz.prog fn cvR_=true:=⟨by kernel_rfl,_,Tryz.func82,kvR_⟩
theorem xvI_:b10 Tryz.prog nvI_=true∧∃fn,Tryz.prog.funcs[nvI_]? =some fn∧chkF Tryz.prog fn cvI_=true:=⟨by kernel_rfl,_,Tryz.func119,kvI_⟩
theorem xvS_:b10 Tryz.prog nvS_=true∧∃fn,Tryz.prog.funcs[nvS_]? =some fn∧chkF Tryz.prog fn cvS_=true:=⟨by kernel_rfl,_,Tryz.func120,kvS_⟩
theorem xvB_:b10 Tryz.prog nvB_=true∧∃fn,Tryz.prog.funcs[nvB_]? =some fn∧chkF Tryz.prog fn cvB_=true:=⟨by kernel_rfl,_,Tryz.func121,kvB_⟩
theorem xkC_:b10 Tryz.prog nkC_=true∧∃fn,Tryz.prog.funcs[nkC_]? =some fn∧chkF Tryz.prog fn ckC_=true:=⟨by kernel_rfl,_,Tryz.func98,kkC_⟩
theorem xk10:b10 Tryz.prog nk10=true∧∃fn,Tryz.prog.funcs[nk10]? =some fn∧chkF Tryz.prog fn ck11=true:=⟨by kernel_rfl,_,Tryz.func170,kk10⟩
theorem xkc_:b10 Tryz.prog nkc_=true∧∃fn,Tryz.prog.funcs[nkc_]? =some fn∧chkF Tryz.prog fn ckc_=true:=⟨by kernel_rfl,_,Tryz.func211,kkc_⟩
theorem xeN_:b10 Tryz.prog neN_=true∧∃fn,Tryz.prog.funcs[neN_]? =some fn∧chkF Tryz.prog fn ceN_=true:=⟨by kernel_rfl,_,Tryz.func24,keN_⟩
theorem xeMp_:b10 Tryz.prog neMp_=true∧∃fn,Tryz.prog.funcs[neMp_]? =some fn∧chkF Tryz.prog fn ceMp_=true:=⟨by kernel_rfl,_,Tryz.func46,keMp_⟩
theorem xeMS_:b10 Tryz.prog neMS_=true∧∃fn,Tryz.prog.funcs[neMS_]? =some fn∧chkF Tryz.prog fn ceMS_=true:=⟨by kernel_rfl,_,Tryz.func19,keMS_⟩
theorem xeMD_:b10 Tryz.prog neMD_=true∧∃fn,Tryz.prog.funcs[neMD_]? =some fn∧chkF Tryz.prog fn ceMD_=true:=⟨by kernel_rfl,_,Tryz.func48,keMD_⟩
theorem xeMR_:b10 Tryz.prog neMR_=true∧∃fn,Tryz.prog.funcs[neMR_]? =some fn∧chkF Tryz.prog fn ceMR_=true:=⟨by kernel_rfl,_,Tryz.func49,keMR_⟩
theorem xtN_:b10 Tryz.prog ntN_=true∧∃fn,Tryz.prog.funcs[ntN_]? =some fn∧chkF Tryz.prog fn ctN_=true:=⟨by kernel_rfl,_,Tryz.func53,ktN_⟩
theorem xtTP_:b10 Tryz.prog ntTP_=true∧∃fn,Tryz.prog.funcs[ntTP_]? =some fn∧chkF Tryz.prog fn ctTP_=true:=⟨by kernel_rfl,_,Tryz.func87,ktTP_⟩
theorem xtTR_:b10 Tryz.prog ntTR_=true∧∃fn,Tryz.prog.funcs[ntTR_]? =some fn∧chkF Tryz.prog fn ctTR_=true:=⟨by kernel_rfl,_,Tryz.func89,ktTR_⟩
theorem xtTR1_:b10 Tryz.prog ntTR1_=true∧∃fn,Tryz.prog.funcs[ntTR1_]? =some fn∧chkF Tryz.prog fn ctTR1_=true:=⟨by kernel_rfl,_,Tryz.func131,ktTR1_⟩
theorem xt10:b10 Tryz.prog nt10=true∧∃fn,Tryz.prog.funcs[nt10]? =some fn∧chkF Tryz.prog fn ct10=true:=⟨by kernel_rfl,_,Tryz.func44,kt10⟩
theorem xtc_:b10 Tryz.prog ntc_=true∧∃fn,Tryz.prog.funcs[ntc_]? =some fn∧chkF Tryz.prog fn ctc_=true:=⟨by kernel_rfl,_,Tryz.func126,ktc_⟩
theorem xsCaVaV_:b10 Tryz.prog nsCaVaV_=true∧∃fn,Tryz.prog.funcs[nsCaVaV_]? =some fn∧chkF Tryz.prog fn csCaVaV_=true:=⟨by kernel_rfl,_,Tryz.func47,ksCaVaV_⟩
theorem xsCaSaS_:b10 Tryz.prog nsCaSaS_=true∧∃fn,Tryz.prog.funcs[nsCaSaS_]? =some fn∧chkF Tryz.prog fn csCaSaS_=true:=⟨by kernel_rfl,_,Tryz.func127,ksCaSaS_⟩
theorem xsCaCaC_:b10 Tryz.prog nsCaCaC_=true∧∃fn,Tryz.prog.funcs[nsCaCaC_]? =some fn∧chkF Tryz.prog fn csCaCaC_=true:=⟨by kernel_rfl,_,Tryz.func185,ksCaCaC_⟩
theorem xsSaRaR_:b10 Tryz.prog nsSaRaR_=true∧∃fn,Tryz.prog.funcs[nsSaRaR_]? =some fn∧chkF Tryz.prog fn csSaRaR_=true:=⟨by kernel_rfl,_,Tryz.func130,ksSaRaR_⟩
theorem xspaR_:b10 Tryz.prog nspaR_=true∧∃fn,Tryz.prog.funcs[nspaR_]? =some fn∧chkF Tryz.prog fn cspaR_=true:=⟨by kernel_rfl,_,Tryz.func187,kspaR_⟩
theorem xsiaR_:b10 Tryz.prog nsiaR_=true∧∃fn,Tryz.prog.funcs[nsiaR_]? =some fn∧chkF Tryz.prog fn csiaR_=true:=⟨by kernel_rfl,_,Tryz.func229,ksiaR_⟩
theorem xm11:b10 Tryz.prog nm11=true∧∃fn,Tryz.prog.funcs[nm11]? =some fn∧chkF Tryz.prog fn cm11=true:=⟨by kernel_rfl,_,Tryz.func179,km11⟩
theorem xmbL_:b10 Tryz.prog nmbL_=true∧∃fn,Tryz.prog.funcs[nmbL_]? =some fn∧chkF Tryz.prog fn cmbL_=true:=⟨by kernel_rfl,_,Tryz.func224,kmbL_⟩
theorem xm10:b10 Tryz.prog nm10=true∧∃fn,Tryz.prog.funcs[nm10]? =some fn∧chkF Tryz.prog fn cm10=true:=⟨by kernel_rfl,_,Tryz.func223,km10⟩
theorem xbK_:b10 Tryz.prog nbK_=true∧∃fn,Tryz.prog.funcs[nbK_]? =some fn∧chkF Tryz.prog fn cbK_=true:=⟨by kernel_rfl,_,Tryz.func122,kbK_⟩
theorem xiIA_:b10 Tryz.prog niIA_=true∧∃fn,Tryz.prog.funcs[niIA_]? =some fn∧chkF Tryz.prog fn ciIA_=true:=⟨by kernel_rfl,_,Tryz.func88,kiIA_⟩
theorem xdO_:b10 Tryz.prog ndO_=true∧∃fn,Tryz.prog.funcs[ndO_]? =some fn∧chkF Tryz.prog fn cdO_=true:=⟨by kernel_rfl,_,Tryz.func54,kdO_⟩
theorem xs13:b10 Tryz.prog ns17=true∧∃fn,Tryz.prog.funcs[ns17]? =some fn∧chkF Tryz.prog fn cs13=true:=⟨by kernel_rfl,_,Tryz.func55,ks17⟩
theorem xcS_:b10 Tryz.prog ncS_=true∧∃fn,Tryz.prog.funcs[ncS_]? =some fn∧chkF Tryz.prog fn ccS_=true:=⟨by kernel_rfl,_,Tryz.func57,kcS_⟩
theorem xcR_:b10 Tryz.prog ncR_=true∧∃fn,Tryz.prog.funcs[ncR_]? =some fn∧chkF Tryz.prog fn ccR_=true:=⟨by kernel_rfl,_,Tryz.func52,kcR_⟩
theorem xcf_:b10 Tryz.prog ncf_=true∧∃fn,Tryz.prog.funcs[ncf_]? =some fn∧chkF Tryz.prog fn ccf_=true:=⟨by kernel_rfl,_,Tryz.func91,kcf_⟩
theorem xch_:b10 Tryz.prog nch_=true∧∃fn,Tryz.prog.funcs[nch_]? =some fn∧chkF Tryz.prog fn cch_=true:=⟨by kernel_rfl,_,Tryz.func92,kch_⟩
theorem xct_:b10 Tryz.prog nct_=true∧∃fn,Tryz.prog.funcs[nct_]? =some fn∧chkF Tryz.prog fn cct_=true:=⟨by kernel_rfl,_,Tryz.func93,kct_⟩
theorem xcs_:b10 Tryz.prog ncs_=true∧∃fn,Tryz.prog.funcs[ncs_]? =some fn∧chkF Tryz.prog fn ccs_=true:=⟨by kernel_rfl,_,Tryz.func94,kcs_⟩
theorem xcP_:b10 Tryz.prog ncP_=true∧∃fn,Tryz.prog.funcs[ncP_]? =some fn∧chkF Tryz.prog fn ccP_=true:=⟨by kernel_rfl,_,Tryz.func96,kcP_⟩
theorem xcn_:b10 Tryz.prog ncn_=true∧∃fn,Tryz.prog.funcs[ncn_]? =some fn∧chkF Tryz.prog fn ccn_=true:=⟨by kernel_rfl,_,Tryz.func134,kcn_⟩
theorem xce_:b10 Tryz.prog nce_=true∧∃fn,Tryz.prog.funcs[nce_]? =some fn∧chkF Tryz.prog fn cce_=true:=⟨by kernel_rfl,_,Tryz.func140,kce_⟩
theorem xcaaQ_:b10 Tryz.prog ncaaQ_=true∧∃fn,Tryz.prog.funcs[ncaaQ_]? =some fn∧chkF Tryz.prog fn ccaaQ_=true:=⟨by kernel_rfl,_,Tryz.func135,kcaaQ_⟩
theorem xcaaF_:b10 Tryz.prog ncaaF_=true∧∃fn,Tryz.prog.funcs[ncaaF_]? =some fn∧chkF Tryz.prog fn ccaaF_=true:=⟨by kernel_rfl,_,Tryz.func138,kcaaF_⟩
theorem xc10:b10 Tryz.prog nc10=true∧∃fn,Tryz.prog.funcs[nc10]? =some fn∧chkF Tryz.prog fn cc10=true:=⟨by kernel_rfl,_,Tryz.func146,kc10⟩
theorem xcaaN_:b10 Tryz.prog ncaaN_=true∧∃fn,Tryz.prog.funcs[ncaaN_]? =some fn∧chkF Tryz.prog fn ccaaN_=true:=⟨by kernel_rfl,_,Tryz.func147,kcaaN_⟩
theorem xcaaT_:b10 Tryz.prog ncaaT_=true∧∃fn,Tryz.prog.funcs[ncaaT_]? =some fn∧chkF Tryz.prog fn ccaaT_=true:=⟨by kernel_rfl,_,Tryz.func150,kcaaT_⟩
theorem xcai_:b10 Tryz.prog ncai_=true∧∃fn,Tryz.prog.funcs[ncai_]? =some fn∧chkF Tryz.prog fn ccai_=true:=⟨by kernel_rfl,_,Tryz.func157,kcai_⟩
theorem xcaaS_:b10 Tryz.prog ncaaS_=true∧∃fn,Tryz.prog.funcs[ncaaS_]? =some fn∧chkF Tryz.prog fn ccaaS_=true:=⟨by kernel_rfl,_,Tryz.func159,kcaaS_⟩
theorem xcas_:b10 Tryz.prog ncas_=true∧∃fn,Tryz.prog.funcs[ncas_]? =some fn∧chkF Tryz.prog fn ccas_=true:=⟨by kernel_rfl,_,Tryz.func191,kcas_⟩
theorem xcn1_:b10 Tryz.prog ncn1_=true∧∃fn,Tryz.prog.funcs[ncn1_]? =some fn∧chkF Tryz.prog fn ccn1_=true:=⟨by kernel_rfl,_,Tryz.func192,kcn1_⟩
theorem xsC_:b10 Tryz.prog nsC_=true∧∃fn,Tryz.prog.funcs[nsC_]? =some fn∧chkF Tryz.prog fn csC_=true:=⟨by kernel_rfl,_,Tryz.func132,ksC_⟩
theorem xso_:b10 Tryz.prog nso_=true∧∃fn,Tryz.prog.funcs[nso_]? =some fn∧chkF Tryz.prog fn cso_=true:=⟨by kernel_rfl,_,Tryz.func188,kso_⟩
theorem xsN_:b10 Tryz.prog nsN_=true∧∃fn,Tryz.prog.funcs[nsN_]? =some fn∧chkF Tryz.prog fn csN_=true:=⟨by kernel_rfl,_,Tryz.func133,ksN_⟩
theorem xsS_:b10 Tryz.prog nsS_=true∧∃fn,Tryz.prog.funcs[nsS_]? =some fn∧chkF Tryz.prog fn csS_=true:=⟨by kernel_rfl,_,Tryz.func189,ksS_⟩
theorem xsS1_:b10 Tryz.prog nsS1_=true∧∃fn,Tryz.prog.funcs[nsS1_]? =some fn∧chkF Tryz.prog fn csS1_=true:=⟨by kernel_rfl,_,Tryz.func240,ksS1_⟩
theorem xsW_:b10 Tryz.prog nsW_=true∧∃fn,Tryz.prog.funcs[nsW_]? =some fn∧chkF Tryz.prog fn csW_=true:=⟨by kernel_rfl,_,Tryz.func190,ksW_⟩
theorem xsI_:b10 Tryz.prog nsI_=true∧∃fn,Tryz.prog.funcs[nsI_]? =some fn∧chkF Tryz.prog fn csI_=true:=⟨by kernel_rfl,_,Tryz.func241,ksI_⟩
theorem xsi_:b10 Tryz.prog nsi_=true∧∃fn,Tryz.prog.funcs[nsi_]? =some fn∧chkF Tryz.prog fn csi_=true:=⟨by kernel_rfl,_,Tryz.func265,ksi_⟩
theorem xsCss_:b10 Tryz.prog nsCss_=true∧∃fn,Tryz.prog.funcs[nsCss_]? =some fn∧chkF Tryz.prog fn csCss_=true:=⟨by kernel_rfl,_,Tryz.func242,ksCss_⟩
theorem xsIss_:b10 Tryz.prog nsIss_=true∧∃fn,Tryz.prog.funcs[nsIss_]? =some fn∧chkF Tryz.prog fn csIss_=true:=⟨by kernel_rfl,_,Tryz.func193,ksIss_⟩
theorem xsCaTaT_:b10 Tryz.prog nsCaTaT_=true∧∃fn,Tryz.prog.funcs[nsCaTaT_]? =some fn∧chkF Tryz.prog fn csCaTaT_=true:=⟨by kernel_rfl,_,Tryz.func167,ksCaTaT_⟩
theorem xsIaTaT_:b10 Tryz.prog nsIaTaT_=true∧∃fn,Tryz.prog.funcs[nsIaTaT_]? =some fn∧chkF Tryz.prog fn csIaTaT_=true:=⟨by kernel_rfl,_,Tryz.func208,ksIaTaT_⟩
theorem xo18:X_ Tryz.prog xtab:=⟨xpa_,xsP_,xsG_,xs14,xswn_,xswv_,xswr_,xsww_,xs12,xspr_,xsrn_,xsrv_,xs11,xsrc_,xsrr_,xsrs_,xsrs1_,xs10,xslaS_,xslaC_,xslaR_,xslaV_,xvR_,xvI_,xvS_,xvB_,xkC_,xk10,xkc_,xeN_,xeMp_,xeMS_,xeMD_,xeMR_,xtN_,xtTP_,xtTR_,xtTR1_,xt10,xtc_,xsCaVaV_,xsCaSaS_,xsCaCaC_,xsSaRaR_,xspaR_,xsiaR_,xm11,xmbL_,xm10,xbK_,xiIA_,xdO_,xs13,xcS_,xcR_,xcf_,xch_,xct_,xcs_,xcP_,xcn_,xce_,xcaaQ_,xcaaF_,xc10,xcaaN_,xcaaT_,xcai_,xcaaS_,xcas_,xcn1_,xsC_,xso_,xsN_,xsS_,xsS1_,xsW_,xsI_,xsi_,xsCss_,xsIss_,xsCaTaT_,xsIaTaT_,trivial⟩
end Go.Proofs.YtkejmcgngblfnaaGreatDoor.Ab
